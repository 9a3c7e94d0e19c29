/- integer.DivMod. -/
import Derived.Test.YtoflndeonegkpaaDoorInt3
namespace Go.Proofs.YtoflndeonegkpaaDoor
open Go.RowKit

theorem ediv_of {a b q r : Int} (hb : b ≠ 0) (e : a = b * q + r) (h0 : 0 ≤ r) (h1 : r < b.natAbs) : a / b = q ∧ a % b = r := by
  have hr : r / b = 0 ∧ r % b = r := by
    rcases Int.lt_or_gt_of_ne hb with h | h
    · have h2 : r < -b := by omega
      have e1 := Int.ediv_eq_zero_of_lt h0 h2
      have e2 := Int.emod_eq_of_lt h0 h2
      rw [Int.ediv_neg] at e1
      rw [Int.emod_neg] at e2
      exact ⟨by omega, e2⟩
    · have h2 : r < b := by omega
      exact ⟨Int.ediv_eq_zero_of_lt h0 h2, Int.emod_eq_of_lt h0 h2⟩
  rw [e, Int.add_comm]
  exact ⟨by rw [Int.add_mul_ediv_left _ _ hb, hr.1]; omega, by rw [Int.add_mul_emod_self_left, hr.2]⟩
section
variable {X Y : Nat}
theorem idiv_pp (X Y : Nat) : (X : Int) / (Y : Int) = ((X / Y : Nat) : Int) ∧ (X : Int) % (Y : Int) = ((X % Y : Nat) : Int) := ⟨by simp, by simp⟩
theorem idiv_pn (X Y : Nat) : (X : Int) / -(Y : Int) = -((X / Y : Nat) : Int) ∧ (X : Int) % -(Y : Int) = ((X % Y : Nat) : Int) := ⟨by rw [Int.ediv_neg]; simp, by rw [Int.emod_neg]; simp⟩
theorem idiv_np (h : Y ≠ 0) (hr : X % Y ≠ 0) : -(X : Int) / (Y : Int) = -((X / Y + 1 : Nat) : Int) ∧ -(X : Int) % (Y : Int) = ((Y - X % Y : Nat) : Int) := by
  have h1 := Nat.div_add_mod X Y
  have h2 : X % Y < Y := Nat.mod_lt _ (by omega)
  have h3 : (X : Int) = (Y : Int) * ((X / Y : Nat) : Int) + ((X % Y : Nat) : Int) := by rw [← Int.natCast_mul, ← Int.natCast_add, h1]
  generalize X / Y = q at *
  generalize X % Y = r at *
  refine ediv_of (by omega) ?_ (by omega) (by omega)
  rw [Int.mul_neg, Int.natCast_add, Int.mul_add, h3]
  omega
theorem idiv_np0 (h : Y ≠ 0) (hr : X % Y = 0) : -(X : Int) / (Y : Int) = -((X / Y : Nat) : Int) ∧ -(X : Int) % (Y : Int) = 0 := by
  have h1 := Nat.div_add_mod X Y
  have h3 : (X : Int) = (Y : Int) * ((X / Y : Nat) : Int) + ((X % Y : Nat) : Int) := by rw [← Int.natCast_mul, ← Int.natCast_add, h1]
  rw [hr] at h3
  generalize X / Y = q at *
  refine ediv_of (by omega) ?_ (by omega) (by omega)
  rw [Int.mul_neg, h3]
  omega
theorem idiv_nn (h : Y ≠ 0) (hr : X % Y ≠ 0) : -(X : Int) / -(Y : Int) = ((X / Y + 1 : Nat) : Int) ∧ -(X : Int) % -(Y : Int) = ((Y - X % Y : Nat) : Int) := by
  obtain ⟨a, b⟩ := idiv_np h hr
  exact ⟨by rw [Int.ediv_neg, a]; omega, by rw [Int.emod_neg, b]⟩
theorem idiv_nn0 (h : Y ≠ 0) (hr : X % Y = 0) : -(X : Int) / -(Y : Int) = ((X / Y : Nat) : Int) ∧ -(X : Int) % -(Y : Int) = 0 := by
  obtain ⟨a, b⟩ := idiv_np0 h hr
  exact ⟨by rw [Int.ediv_neg, a]; omega, by rw [Int.emod_neg, b]⟩
end
/-- A quotient, a remainder, a bool. -/
def GivesZZ (w : World) (q r : Int) (ok : Bool) (e : Ending) (w' : World) : Prop := ∃ b1 A1 n1 c1 b2 A2 n2 c2, e = .returned (.tuple #[.agg #[.bool b1, .slice A1 n1 c1], .agg #[.bool b2, .slice A2 n2 c2], .bool ok]) ∧ ZAt w' b1 (.slice A1 n1 c1) q ∧ ZAt w' b2 (.slice A2 n2 c2) r ∧ Below w.heap.size w w'
theorem zat_nil (w : World) : ZAt w false (.slice none 0 0) 0 := ⟨rfl, NatAt.nil w⟩
/-- Two parameters and two results in their boxes. -/
theorem boxes4 (w : World) (x1 y1 x2 y2 x3 y3 x4 y4 : Value) : ∃ W, (((w.alloc (.cells #[x1, y1] 25)).alloc (.cells #[x2, y2] 25)).alloc (.cells #[x3, y3] 25)).alloc (.cells #[x4, y4] 25) = W ∧ Hid (Box W w.heap.size x1 y1) ∧ Hid (Box W (w.heap.size + 1) x2 y2) ∧ Hid (Box W (w.heap.size + 1 + 1) x3 y3) ∧ Hid (Box W (w.heap.size + 1 + 1 + 1) x4 y4) ∧ Hid (Below w.heap.size w W) ∧ Hid (W.heap.size = w.heap.size + 4) :=
  ⟨_, rfl, (((Box.new rfl).alloc _).alloc _).alloc _, ((Box.new (by simp)).alloc _).alloc _, (Box.new (by simp)).alloc _, Box.new (by simp), below_next (below_two w _ _) (below_two _ _ _), by show _ = _; simp⟩

theorem parse_one {n : Nat} (h : n < 4294967296) : (limbs n).length ≤ 50000 := Nat.le_trans (limbs_length_le (k := 1) (by simpa using h)) (by omega)
set_option maxHeartbeats 2000000 in
theorem idivmod_zero (b1 b2 : Bool) (m1 m2 : Value) (z1 z2 : Int) (k1 k2 : Nat) (w : World) (h1 : IntAt w b1 m1 z1 k1) (h2 : IntAt w b2 m2 z2 k2) (h0 : z2 = 0) :
    Calls Tryd.prog 40 #[.agg #[.bool b1, m1], .agg #[.bool b2, m2]] w (GivesZZ w 0 0 false) := by
  obtain ⟨xs, h1, _, rfl⟩ := h1
  obtain ⟨ys, h2, _, rfl⟩ := h2
  have H1 := Lib.hid h1
  have H2 := Lib.hid h2
  have hy : val ys = 0 := by rw [← zval_abs b2]; omega
  have HY := Lib.hid hy
  clear h1 h2 hy h0
  obtain ⟨W, hW, B1, B2, B3, B4, HW, HS⟩ := boxes4 w (.bool b1) m1 (.bool b2) m2 (.bool false) (.slice none 0 0) (.bool false) (.slice none 0 0)
  replace H1 := Lib.hid (H1.out.below HW.out)
  replace H2 := Lib.hid (H2.out.below HW.out)
  have HWE := Lib.hid hW
  clear hW
  go_enter Tryd.func40, Tryd.ntmps40
  go_wp2_with fail
  rw [HWE.out]
  clear HWE
  refine (divmod_zero _ _ _ _ _ (by exact H1.out) (by exact H2.out) HY.out).mono ?_
  rintro e w1 ⟨vq, vr, rfl, hq, hr, hb⟩
  replace B1 := Lib.hid (B1.out.below hb)
  replace B2 := Lib.hid (B2.out.below hb)
  replace B3 := Lib.hid (B3.out.below hb)
  replace B4 := Lib.hid (B4.out.below hb)
  replace HW := Lib.hid (below_next HW.out hb)
  have c30 := B3.out.cell0
  have c31 := B3.out.cell1
  have c40 := B4.out.cell0
  have c41 := B4.out.cell1
  have f30 := B3.out.fro 0
  have f31 := B3.out.fro 1
  have f40 := B4.out.fro 0
  have f41 := B4.out.fro 1
  clear hq hr hb
  go_wp2
  exact bodyPost_ret (v := .tuple #[.agg #[.bool false, .slice none 0 0], .agg #[.bool false, .slice none 0 0], .bool false]) (by simp [results, Tryd.results40, go_sem, c30, c31, c40, c41]) rfl ⟨_, _, _, _, _, _, _, _, rfl, zat_nil _, zat_nil _, below_stored (below_stored HW.out (by omega) _ _) (by omega) _ _⟩

set_option maxHeartbeats 2000000 in
theorem idivmod_any (b1 b2 : Bool) (m1 m2 : Value) (z1 z2 : Int) (k1 k2 : Nat) (w : World) (h1 : IntAt w b1 m1 z1 k1) (h2 : IntAt w b2 m2 z2 k2) (hk1 : k1 ≤ 50000) (hk2 : k2 ≤ 50000) (h0 : z2 ≠ 0) :
    Calls Tryd.prog 40 #[.agg #[.bool b1, m1], .agg #[.bool b2, m2]] w (GivesZZ w (z1 / z2) (z1 % z2) true) := by
  obtain ⟨xs, h1, hl1, rfl⟩ := h1
  obtain ⟨ys, h2, hl2, rfl⟩ := h2
  have H1 := Lib.hid h1
  have H2 := Lib.hid h2
  have HX1 := Lib.hid (Nat.le_trans (limbs_val_length h1.lim) hl1)
  have HX2 := Lib.hid (Nat.le_trans (limbs_val_length h2.lim) hl2)
  have hy : val ys ≠ 0 := by rw [← zval_abs b2]; omega
  have HY := Lib.hid hy
  clear h1 h2 hy h0
  by_cases hr0 : val xs % val ys = 0
  · have HR0 := Lib.hid hr0
    clear hr0
    cases b1 <;> cases b2
    · skip
      obtain ⟨W, hW, B1, B2, B3, B4, HW, HS⟩ := boxes4 w (.bool false) m1 (.bool false) m2 (.bool false) (.slice none 0 0) (.bool false) (.slice none 0 0)
      replace H1 := Lib.hid (H1.out.below HW.out)
      replace H2 := Lib.hid (H2.out.below HW.out)
      have HWE := Lib.hid hW
      clear hW
      go_enter Tryd.func40, Tryd.ntmps40
      go_wp2_with fail
      rw [HWE.out]
      clear HWE
      refine (divmod_any _ _ _ _ _ (by exact H1.out) (by exact H2.out) (by omega) (by omega) HY.out).mono ?_
      rintro e w1 ⟨vq, vr, rfl, hq, hr, hb⟩
      have HQ := Lib.hid hq
      have HRR := Lib.hid hr
      replace H2 := Lib.hid (H2.out.below hb)
      replace B1 := Lib.hid (B1.out.below hb)
      replace B2 := Lib.hid (B2.out.below hb)
      replace B3 := Lib.hid (B3.out.below hb)
      replace B4 := Lib.hid (B4.out.below hb)
      replace HW := Lib.hid (below_next HW.out hb)
      have c10 := B1.out.cell0
      have c11 := B1.out.cell1
      have c20 := B2.out.cell0
      have c21 := B2.out.cell1
      have hlr : (limbs (val xs % val ys)).length ≤ 50000 := limbs_len_of_lt (Nat.mod_le _ _) (Nat.le_trans HX1.out (by omega))
      have hlq : (limbs (val xs / val ys)).length ≤ 50000 := limbs_len_of_lt (Nat.div_le_self _ _) (Nat.le_trans HX1.out (by omega))
      clear hq hr hb
      go_wp2_with fail
      refine (signed_any _ _ _ _ (by exact HQ.out) (by omega)).mono ?_
      rintro e w4 ⟨b3, A3, n3, k3, rfl, h3, hb⟩
      have HR3 := Lib.hid h3
      replace HRR := Lib.hid (HRR.out.below hb)
      replace B1 := Lib.hid (B1.out.below hb)
      replace B2 := Lib.hid (B2.out.below hb)
      replace B3 := Lib.hid (B3.out.below hb)
      replace B4 := Lib.hid (B4.out.below hb)
      replace HW := Lib.hid (below_next HW.out hb)
      clear h3 hb
      go_wp2_with fail
      refine (signed_any _ _ _ _ (by exact HRR.out) (by omega)).mono ?_
      rintro e w5 ⟨b4, A4, n4, k4, rfl, h4, hb⟩
      have HR4 := Lib.hid h4
      replace HR3 := Lib.hid (HR3.out.below hb)
      replace B1 := Lib.hid (B1.out.below hb)
      replace B2 := Lib.hid (B2.out.below hb)
      replace B3 := Lib.hid (B3.out.below hb)
      replace B4 := Lib.hid (B4.out.below hb)
      replace HW := Lib.hid (below_next HW.out hb)
      clear h4 hb
      have c30 := B3.out.cell0
      have c31 := B3.out.cell1
      have c40 := B4.out.cell0
      have c41 := B4.out.cell1
      have f30 := B3.out.fro 0
      have f31 := B3.out.fro 1
      have f40 := B4.out.fro 0
      have f41 := B4.out.fro 1
      go_wp2
      refine bodyPost_ret (v := .tuple #[.agg #[.bool b3, .slice A3 n3 k3], .agg #[.bool b4, .slice A4 n4 k4], .bool true]) (by simp [results, Tryd.results40, go_sem, c30, c31, c40, c41]) rfl ⟨_, _, _, _, _, _, _, _, rfl, ?_, ?_, below_stored (below_stored HW.out (by omega) _ _) (by omega) _ _⟩
      · have h3 := (HR3.out.store B3.out nil_noInt (.bool b3) (.slice A3 n3 k3)).store (B4.out.far (by omega) _ _) nil_noInt (.bool b4) (.slice A4 n4 k4)
        rw [show zval false xs / zval false ys = _ from (idiv_pp _ _).1]
        rw [zval_false, val_limbs] at h3
        exact h3
      · have h4 := (HR4.out.store B3.out nil_noInt (.bool b3) (.slice A3 n3 k3)).store (B4.out.far (by omega) _ _) nil_noInt (.bool b4) (.slice A4 n4 k4)
        rw [show zval false xs % zval false ys = _ from (idiv_pp _ _).2]
        rw [zval_false, val_limbs] at h4
        exact h4
    · skip
      obtain ⟨W, hW, B1, B2, B3, B4, HW, HS⟩ := boxes4 w (.bool false) m1 (.bool true) m2 (.bool false) (.slice none 0 0) (.bool false) (.slice none 0 0)
      replace H1 := Lib.hid (H1.out.below HW.out)
      replace H2 := Lib.hid (H2.out.below HW.out)
      have HWE := Lib.hid hW
      clear hW
      go_enter Tryd.func40, Tryd.ntmps40
      go_wp2_with fail
      rw [HWE.out]
      clear HWE
      refine (divmod_any _ _ _ _ _ (by exact H1.out) (by exact H2.out) (by omega) (by omega) HY.out).mono ?_
      rintro e w1 ⟨vq, vr, rfl, hq, hr, hb⟩
      have HQ := Lib.hid hq
      have HRR := Lib.hid hr
      replace H2 := Lib.hid (H2.out.below hb)
      replace B1 := Lib.hid (B1.out.below hb)
      replace B2 := Lib.hid (B2.out.below hb)
      replace B3 := Lib.hid (B3.out.below hb)
      replace B4 := Lib.hid (B4.out.below hb)
      replace HW := Lib.hid (below_next HW.out hb)
      have c10 := B1.out.cell0
      have c11 := B1.out.cell1
      have c20 := B2.out.cell0
      have c21 := B2.out.cell1
      have hlr : (limbs (val xs % val ys)).length ≤ 50000 := limbs_len_of_lt (Nat.mod_le _ _) (Nat.le_trans HX1.out (by omega))
      have hlq : (limbs (val xs / val ys)).length ≤ 50000 := limbs_len_of_lt (Nat.div_le_self _ _) (Nat.le_trans HX1.out (by omega))
      clear hq hr hb
      go_wp2_with fail
      refine (signed_any _ _ _ _ (by exact HQ.out) (by omega)).mono ?_
      rintro e w4 ⟨b3, A3, n3, k3, rfl, h3, hb⟩
      have HR3 := Lib.hid h3
      replace HRR := Lib.hid (HRR.out.below hb)
      replace B1 := Lib.hid (B1.out.below hb)
      replace B2 := Lib.hid (B2.out.below hb)
      replace B3 := Lib.hid (B3.out.below hb)
      replace B4 := Lib.hid (B4.out.below hb)
      replace HW := Lib.hid (below_next HW.out hb)
      clear h3 hb
      go_wp2_with fail
      refine (signed_any _ _ _ _ (by exact HRR.out) (by omega)).mono ?_
      rintro e w5 ⟨b4, A4, n4, k4, rfl, h4, hb⟩
      have HR4 := Lib.hid h4
      replace HR3 := Lib.hid (HR3.out.below hb)
      replace B1 := Lib.hid (B1.out.below hb)
      replace B2 := Lib.hid (B2.out.below hb)
      replace B3 := Lib.hid (B3.out.below hb)
      replace B4 := Lib.hid (B4.out.below hb)
      replace HW := Lib.hid (below_next HW.out hb)
      clear h4 hb
      have c30 := B3.out.cell0
      have c31 := B3.out.cell1
      have c40 := B4.out.cell0
      have c41 := B4.out.cell1
      have f30 := B3.out.fro 0
      have f31 := B3.out.fro 1
      have f40 := B4.out.fro 0
      have f41 := B4.out.fro 1
      go_wp2
      refine bodyPost_ret (v := .tuple #[.agg #[.bool b3, .slice A3 n3 k3], .agg #[.bool b4, .slice A4 n4 k4], .bool true]) (by simp [results, Tryd.results40, go_sem, c30, c31, c40, c41]) rfl ⟨_, _, _, _, _, _, _, _, rfl, ?_, ?_, below_stored (below_stored HW.out (by omega) _ _) (by omega) _ _⟩
      · have h3 := (HR3.out.store B3.out nil_noInt (.bool b3) (.slice A3 n3 k3)).store (B4.out.far (by omega) _ _) nil_noInt (.bool b4) (.slice A4 n4 k4)
        rw [show zval false xs / zval true ys = _ from (idiv_pn _ _).1]
        rw [zval_true, val_limbs] at h3
        exact h3
      · have h4 := (HR4.out.store B3.out nil_noInt (.bool b3) (.slice A3 n3 k3)).store (B4.out.far (by omega) _ _) nil_noInt (.bool b4) (.slice A4 n4 k4)
        rw [show zval false xs % zval true ys = _ from (idiv_pn _ _).2]
        rw [zval_false, val_limbs] at h4
        exact h4
    · skip
      obtain ⟨W, hW, B1, B2, B3, B4, HW, HS⟩ := boxes4 w (.bool true) m1 (.bool false) m2 (.bool false) (.slice none 0 0) (.bool false) (.slice none 0 0)
      replace H1 := Lib.hid (H1.out.below HW.out)
      replace H2 := Lib.hid (H2.out.below HW.out)
      have HWE := Lib.hid hW
      clear hW
      go_enter Tryd.func40, Tryd.ntmps40
      go_wp2_with fail
      rw [HWE.out]
      clear HWE
      refine (divmod_any _ _ _ _ _ (by exact H1.out) (by exact H2.out) (by omega) (by omega) HY.out).mono ?_
      rintro e w1 ⟨vq, vr, rfl, hq, hr, hb⟩
      have HQ := Lib.hid hq
      have HRR := Lib.hid hr
      replace H2 := Lib.hid (H2.out.below hb)
      replace B1 := Lib.hid (B1.out.below hb)
      replace B2 := Lib.hid (B2.out.below hb)
      replace B3 := Lib.hid (B3.out.below hb)
      replace B4 := Lib.hid (B4.out.below hb)
      replace HW := Lib.hid (below_next HW.out hb)
      have c10 := B1.out.cell0
      have c11 := B1.out.cell1
      have c20 := B2.out.cell0
      have c21 := B2.out.cell1
      have hlr : (limbs (val xs % val ys)).length ≤ 50000 := limbs_len_of_lt (Nat.mod_le _ _) (Nat.le_trans HX1.out (by omega))
      have hlq : (limbs (val xs / val ys)).length ≤ 50000 := limbs_len_of_lt (Nat.div_le_self _ _) (Nat.le_trans HX1.out (by omega))
      rw [HR0.out, limbs_zero] at HRR hlr hr
      obtain ⟨Ar, cr, rfl, _, _⟩ := hr.form
      clear hq hr hb
      go_wp2_with fail
      refine (signed_any _ _ _ _ (by exact HQ.out) (by omega)).mono ?_
      rintro e w4 ⟨b3, A3, n3, k3, rfl, h3, hb⟩
      have HR3 := Lib.hid h3
      replace HRR := Lib.hid (HRR.out.below hb)
      replace B1 := Lib.hid (B1.out.below hb)
      replace B2 := Lib.hid (B2.out.below hb)
      replace B3 := Lib.hid (B3.out.below hb)
      replace B4 := Lib.hid (B4.out.below hb)
      replace HW := Lib.hid (below_next HW.out hb)
      clear h3 hb
      go_wp2_with fail
      refine (signed_any _ _ _ _ (by exact HRR.out) (by simp)).mono ?_
      rintro e w5 ⟨b4, A4, n4, k4, rfl, h4, hb⟩
      have HR4 := Lib.hid h4
      replace HR3 := Lib.hid (HR3.out.below hb)
      replace B1 := Lib.hid (B1.out.below hb)
      replace B2 := Lib.hid (B2.out.below hb)
      replace B3 := Lib.hid (B3.out.below hb)
      replace B4 := Lib.hid (B4.out.below hb)
      replace HW := Lib.hid (below_next HW.out hb)
      clear h4 hb
      have c30 := B3.out.cell0
      have c31 := B3.out.cell1
      have c40 := B4.out.cell0
      have c41 := B4.out.cell1
      have f30 := B3.out.fro 0
      have f31 := B3.out.fro 1
      have f40 := B4.out.fro 0
      have f41 := B4.out.fro 1
      go_wp2
      refine bodyPost_ret (v := .tuple #[.agg #[.bool b3, .slice A3 n3 k3], .agg #[.bool b4, .slice A4 n4 k4], .bool true]) (by simp [results, Tryd.results40, go_sem, c30, c31, c40, c41]) rfl ⟨_, _, _, _, _, _, _, _, rfl, ?_, ?_, below_stored (below_stored HW.out (by omega) _ _) (by omega) _ _⟩
      · have h3 := (HR3.out.store B3.out nil_noInt (.bool b3) (.slice A3 n3 k3)).store (B4.out.far (by omega) _ _) nil_noInt (.bool b4) (.slice A4 n4 k4)
        rw [show zval true xs / zval false ys = _ from (idiv_np0 HY.out HR0.out).1]
        rw [zval_true, val_limbs] at h3
        exact h3
      · have h4 := (HR4.out.store B3.out nil_noInt (.bool b3) (.slice A3 n3 k3)).store (B4.out.far (by omega) _ _) nil_noInt (.bool b4) (.slice A4 n4 k4)
        rw [show zval true xs % zval false ys = _ from (idiv_np0 HY.out HR0.out).2]
        rw [zval_false] at h4
        exact h4
    · skip
      obtain ⟨W, hW, B1, B2, B3, B4, HW, HS⟩ := boxes4 w (.bool true) m1 (.bool true) m2 (.bool false) (.slice none 0 0) (.bool false) (.slice none 0 0)
      replace H1 := Lib.hid (H1.out.below HW.out)
      replace H2 := Lib.hid (H2.out.below HW.out)
      have HWE := Lib.hid hW
      clear hW
      go_enter Tryd.func40, Tryd.ntmps40
      go_wp2_with fail
      rw [HWE.out]
      clear HWE
      refine (divmod_any _ _ _ _ _ (by exact H1.out) (by exact H2.out) (by omega) (by omega) HY.out).mono ?_
      rintro e w1 ⟨vq, vr, rfl, hq, hr, hb⟩
      have HQ := Lib.hid hq
      have HRR := Lib.hid hr
      replace H2 := Lib.hid (H2.out.below hb)
      replace B1 := Lib.hid (B1.out.below hb)
      replace B2 := Lib.hid (B2.out.below hb)
      replace B3 := Lib.hid (B3.out.below hb)
      replace B4 := Lib.hid (B4.out.below hb)
      replace HW := Lib.hid (below_next HW.out hb)
      have c10 := B1.out.cell0
      have c11 := B1.out.cell1
      have c20 := B2.out.cell0
      have c21 := B2.out.cell1
      have hlr : (limbs (val xs % val ys)).length ≤ 50000 := limbs_len_of_lt (Nat.mod_le _ _) (Nat.le_trans HX1.out (by omega))
      have hlq : (limbs (val xs / val ys)).length ≤ 50000 := limbs_len_of_lt (Nat.div_le_self _ _) (Nat.le_trans HX1.out (by omega))
      rw [HR0.out, limbs_zero] at HRR hlr hr
      obtain ⟨Ar, cr, rfl, _, _⟩ := hr.form
      clear hq hr hb
      go_wp2_with fail
      refine (signed_any _ _ _ _ (by exact HQ.out) (by omega)).mono ?_
      rintro e w4 ⟨b3, A3, n3, k3, rfl, h3, hb⟩
      have HR3 := Lib.hid h3
      replace HRR := Lib.hid (HRR.out.below hb)
      replace B1 := Lib.hid (B1.out.below hb)
      replace B2 := Lib.hid (B2.out.below hb)
      replace B3 := Lib.hid (B3.out.below hb)
      replace B4 := Lib.hid (B4.out.below hb)
      replace HW := Lib.hid (below_next HW.out hb)
      clear h3 hb
      go_wp2_with fail
      refine (signed_any _ _ _ _ (by exact HRR.out) (by simp)).mono ?_
      rintro e w5 ⟨b4, A4, n4, k4, rfl, h4, hb⟩
      have HR4 := Lib.hid h4
      replace HR3 := Lib.hid (HR3.out.below hb)
      replace B1 := Lib.hid (B1.out.below hb)
      replace B2 := Lib.hid (B2.out.below hb)
      replace B3 := Lib.hid (B3.out.below hb)
      replace B4 := Lib.hid (B4.out.below hb)
      replace HW := Lib.hid (below_next HW.out hb)
      clear h4 hb
      have c30 := B3.out.cell0
      have c31 := B3.out.cell1
      have c40 := B4.out.cell0
      have c41 := B4.out.cell1
      have f30 := B3.out.fro 0
      have f31 := B3.out.fro 1
      have f40 := B4.out.fro 0
      have f41 := B4.out.fro 1
      go_wp2
      refine bodyPost_ret (v := .tuple #[.agg #[.bool b3, .slice A3 n3 k3], .agg #[.bool b4, .slice A4 n4 k4], .bool true]) (by simp [results, Tryd.results40, go_sem, c30, c31, c40, c41]) rfl ⟨_, _, _, _, _, _, _, _, rfl, ?_, ?_, below_stored (below_stored HW.out (by omega) _ _) (by omega) _ _⟩
      · have h3 := (HR3.out.store B3.out nil_noInt (.bool b3) (.slice A3 n3 k3)).store (B4.out.far (by omega) _ _) nil_noInt (.bool b4) (.slice A4 n4 k4)
        rw [show zval true xs / zval true ys = _ from (idiv_nn0 HY.out HR0.out).1]
        rw [zval_false, val_limbs] at h3
        exact h3
      · have h4 := (HR4.out.store B3.out nil_noInt (.bool b3) (.slice A3 n3 k3)).store (B4.out.far (by omega) _ _) nil_noInt (.bool b4) (.slice A4 n4 k4)
        rw [show zval true xs % zval true ys = _ from (idiv_nn0 HY.out HR0.out).2]
        rw [zval_false] at h4
        exact h4
  · have HR0 := Lib.hid hr0
    clear hr0
    cases b1 <;> cases b2
    · skip
      obtain ⟨W, hW, B1, B2, B3, B4, HW, HS⟩ := boxes4 w (.bool false) m1 (.bool false) m2 (.bool false) (.slice none 0 0) (.bool false) (.slice none 0 0)
      replace H1 := Lib.hid (H1.out.below HW.out)
      replace H2 := Lib.hid (H2.out.below HW.out)
      have HWE := Lib.hid hW
      clear hW
      go_enter Tryd.func40, Tryd.ntmps40
      go_wp2_with fail
      rw [HWE.out]
      clear HWE
      refine (divmod_any _ _ _ _ _ (by exact H1.out) (by exact H2.out) (by omega) (by omega) HY.out).mono ?_
      rintro e w1 ⟨vq, vr, rfl, hq, hr, hb⟩
      have HQ := Lib.hid hq
      have HRR := Lib.hid hr
      replace H2 := Lib.hid (H2.out.below hb)
      replace B1 := Lib.hid (B1.out.below hb)
      replace B2 := Lib.hid (B2.out.below hb)
      replace B3 := Lib.hid (B3.out.below hb)
      replace B4 := Lib.hid (B4.out.below hb)
      replace HW := Lib.hid (below_next HW.out hb)
      have c10 := B1.out.cell0
      have c11 := B1.out.cell1
      have c20 := B2.out.cell0
      have c21 := B2.out.cell1
      have hlr : (limbs (val xs % val ys)).length ≤ 50000 := limbs_len_of_lt (Nat.mod_le _ _) (Nat.le_trans HX1.out (by omega))
      have hlq : (limbs (val xs / val ys)).length ≤ 50000 := limbs_len_of_lt (Nat.div_le_self _ _) (Nat.le_trans HX1.out (by omega))
      clear hq hr hb
      go_wp2_with fail
      refine (signed_any _ _ _ _ (by exact HQ.out) (by omega)).mono ?_
      rintro e w4 ⟨b3, A3, n3, k3, rfl, h3, hb⟩
      have HR3 := Lib.hid h3
      replace HRR := Lib.hid (HRR.out.below hb)
      replace B1 := Lib.hid (B1.out.below hb)
      replace B2 := Lib.hid (B2.out.below hb)
      replace B3 := Lib.hid (B3.out.below hb)
      replace B4 := Lib.hid (B4.out.below hb)
      replace HW := Lib.hid (below_next HW.out hb)
      clear h3 hb
      go_wp2_with fail
      refine (signed_any _ _ _ _ (by exact HRR.out) (by omega)).mono ?_
      rintro e w5 ⟨b4, A4, n4, k4, rfl, h4, hb⟩
      have HR4 := Lib.hid h4
      replace HR3 := Lib.hid (HR3.out.below hb)
      replace B1 := Lib.hid (B1.out.below hb)
      replace B2 := Lib.hid (B2.out.below hb)
      replace B3 := Lib.hid (B3.out.below hb)
      replace B4 := Lib.hid (B4.out.below hb)
      replace HW := Lib.hid (below_next HW.out hb)
      clear h4 hb
      have c30 := B3.out.cell0
      have c31 := B3.out.cell1
      have c40 := B4.out.cell0
      have c41 := B4.out.cell1
      have f30 := B3.out.fro 0
      have f31 := B3.out.fro 1
      have f40 := B4.out.fro 0
      have f41 := B4.out.fro 1
      go_wp2
      refine bodyPost_ret (v := .tuple #[.agg #[.bool b3, .slice A3 n3 k3], .agg #[.bool b4, .slice A4 n4 k4], .bool true]) (by simp [results, Tryd.results40, go_sem, c30, c31, c40, c41]) rfl ⟨_, _, _, _, _, _, _, _, rfl, ?_, ?_, below_stored (below_stored HW.out (by omega) _ _) (by omega) _ _⟩
      · have h3 := (HR3.out.store B3.out nil_noInt (.bool b3) (.slice A3 n3 k3)).store (B4.out.far (by omega) _ _) nil_noInt (.bool b4) (.slice A4 n4 k4)
        rw [show zval false xs / zval false ys = _ from (idiv_pp _ _).1]
        rw [zval_false, val_limbs] at h3
        exact h3
      · have h4 := (HR4.out.store B3.out nil_noInt (.bool b3) (.slice A3 n3 k3)).store (B4.out.far (by omega) _ _) nil_noInt (.bool b4) (.slice A4 n4 k4)
        rw [show zval false xs % zval false ys = _ from (idiv_pp _ _).2]
        rw [zval_false, val_limbs] at h4
        exact h4
    · skip
      obtain ⟨W, hW, B1, B2, B3, B4, HW, HS⟩ := boxes4 w (.bool false) m1 (.bool true) m2 (.bool false) (.slice none 0 0) (.bool false) (.slice none 0 0)
      replace H1 := Lib.hid (H1.out.below HW.out)
      replace H2 := Lib.hid (H2.out.below HW.out)
      have HWE := Lib.hid hW
      clear hW
      go_enter Tryd.func40, Tryd.ntmps40
      go_wp2_with fail
      rw [HWE.out]
      clear HWE
      refine (divmod_any _ _ _ _ _ (by exact H1.out) (by exact H2.out) (by omega) (by omega) HY.out).mono ?_
      rintro e w1 ⟨vq, vr, rfl, hq, hr, hb⟩
      have HQ := Lib.hid hq
      have HRR := Lib.hid hr
      replace H2 := Lib.hid (H2.out.below hb)
      replace B1 := Lib.hid (B1.out.below hb)
      replace B2 := Lib.hid (B2.out.below hb)
      replace B3 := Lib.hid (B3.out.below hb)
      replace B4 := Lib.hid (B4.out.below hb)
      replace HW := Lib.hid (below_next HW.out hb)
      have c10 := B1.out.cell0
      have c11 := B1.out.cell1
      have c20 := B2.out.cell0
      have c21 := B2.out.cell1
      have hlr : (limbs (val xs % val ys)).length ≤ 50000 := limbs_len_of_lt (Nat.mod_le _ _) (Nat.le_trans HX1.out (by omega))
      have hlq : (limbs (val xs / val ys)).length ≤ 50000 := limbs_len_of_lt (Nat.div_le_self _ _) (Nat.le_trans HX1.out (by omega))
      clear hq hr hb
      go_wp2_with fail
      refine (signed_any _ _ _ _ (by exact HQ.out) (by omega)).mono ?_
      rintro e w4 ⟨b3, A3, n3, k3, rfl, h3, hb⟩
      have HR3 := Lib.hid h3
      replace HRR := Lib.hid (HRR.out.below hb)
      replace B1 := Lib.hid (B1.out.below hb)
      replace B2 := Lib.hid (B2.out.below hb)
      replace B3 := Lib.hid (B3.out.below hb)
      replace B4 := Lib.hid (B4.out.below hb)
      replace HW := Lib.hid (below_next HW.out hb)
      clear h3 hb
      go_wp2_with fail
      refine (signed_any _ _ _ _ (by exact HRR.out) (by omega)).mono ?_
      rintro e w5 ⟨b4, A4, n4, k4, rfl, h4, hb⟩
      have HR4 := Lib.hid h4
      replace HR3 := Lib.hid (HR3.out.below hb)
      replace B1 := Lib.hid (B1.out.below hb)
      replace B2 := Lib.hid (B2.out.below hb)
      replace B3 := Lib.hid (B3.out.below hb)
      replace B4 := Lib.hid (B4.out.below hb)
      replace HW := Lib.hid (below_next HW.out hb)
      clear h4 hb
      have c30 := B3.out.cell0
      have c31 := B3.out.cell1
      have c40 := B4.out.cell0
      have c41 := B4.out.cell1
      have f30 := B3.out.fro 0
      have f31 := B3.out.fro 1
      have f40 := B4.out.fro 0
      have f41 := B4.out.fro 1
      go_wp2
      refine bodyPost_ret (v := .tuple #[.agg #[.bool b3, .slice A3 n3 k3], .agg #[.bool b4, .slice A4 n4 k4], .bool true]) (by simp [results, Tryd.results40, go_sem, c30, c31, c40, c41]) rfl ⟨_, _, _, _, _, _, _, _, rfl, ?_, ?_, below_stored (below_stored HW.out (by omega) _ _) (by omega) _ _⟩
      · have h3 := (HR3.out.store B3.out nil_noInt (.bool b3) (.slice A3 n3 k3)).store (B4.out.far (by omega) _ _) nil_noInt (.bool b4) (.slice A4 n4 k4)
        rw [show zval false xs / zval true ys = _ from (idiv_pn _ _).1]
        rw [zval_true, val_limbs] at h3
        exact h3
      · have h4 := (HR4.out.store B3.out nil_noInt (.bool b3) (.slice A3 n3 k3)).store (B4.out.far (by omega) _ _) nil_noInt (.bool b4) (.slice A4 n4 k4)
        rw [show zval false xs % zval true ys = _ from (idiv_pn _ _).2]
        rw [zval_false, val_limbs] at h4
        exact h4
    · skip
      obtain ⟨W, hW, B1, B2, B3, B4, HW, HS⟩ := boxes4 w (.bool true) m1 (.bool false) m2 (.bool false) (.slice none 0 0) (.bool false) (.slice none 0 0)
      replace H1 := Lib.hid (H1.out.below HW.out)
      replace H2 := Lib.hid (H2.out.below HW.out)
      have HWE := Lib.hid hW
      clear hW
      go_enter Tryd.func40, Tryd.ntmps40
      go_wp2_with fail
      rw [HWE.out]
      clear HWE
      refine (divmod_any _ _ _ _ _ (by exact H1.out) (by exact H2.out) (by omega) (by omega) HY.out).mono ?_
      rintro e w1 ⟨vq, vr, rfl, hq, hr, hb⟩
      have HQ := Lib.hid hq
      have HRR := Lib.hid hr
      replace H2 := Lib.hid (H2.out.below hb)
      replace B1 := Lib.hid (B1.out.below hb)
      replace B2 := Lib.hid (B2.out.below hb)
      replace B3 := Lib.hid (B3.out.below hb)
      replace B4 := Lib.hid (B4.out.below hb)
      replace HW := Lib.hid (below_next HW.out hb)
      have c10 := B1.out.cell0
      have c11 := B1.out.cell1
      have c20 := B2.out.cell0
      have c21 := B2.out.cell1
      have hlr : (limbs (val xs % val ys)).length ≤ 50000 := limbs_len_of_lt (Nat.mod_le _ _) (Nat.le_trans HX1.out (by omega))
      have hlq : (limbs (val xs / val ys)).length ≤ 50000 := limbs_len_of_lt (Nat.div_le_self _ _) (Nat.le_trans HX1.out (by omega))
      obtain ⟨Ar, cr, rfl, _, _⟩ := hr.form
      have hlp : 0 < (limbs (val xs % val ys)).length := List.length_pos_iff.2 (limbs_ne_nil HR0.out)
      clear hq hr hb
      go_wp2_with fail
      refine (of_any 1 _ (by omega)).mono ?_
      rintro e w2 ⟨v1, rfl, ho, hb⟩
      have HO := Lib.hid ho
      replace HQ := Lib.hid (HQ.out.below hb)
      replace HRR := Lib.hid (HRR.out.below hb)
      replace H2 := Lib.hid (H2.out.below hb)
      replace B1 := Lib.hid (B1.out.below hb)
      replace B2 := Lib.hid (B2.out.below hb)
      replace B3 := Lib.hid (B3.out.below hb)
      replace B4 := Lib.hid (B4.out.below hb)
      replace HW := Lib.hid (below_next HW.out hb)
      clear ho hb
      go_wp2_with fail
      refine (add_any _ _ _ _ _ (by exact HQ.out) (by exact HO.out) (by omega) (Nat.le_trans (parse_one (by omega)) (by omega))).mono ?_
      rintro e w3 ⟨v2, rfl, hq, hb⟩
      rw [val_limbs, val_limbs] at hq
      have HQ := Lib.hid hq
      replace HRR := Lib.hid (HRR.out.below hb)
      replace H2 := Lib.hid (H2.out.below hb)
      replace B1 := Lib.hid (B1.out.below hb)
      replace B2 := Lib.hid (B2.out.below hb)
      replace B3 := Lib.hid (B3.out.below hb)
      replace B4 := Lib.hid (B4.out.below hb)
      replace HW := Lib.hid (below_next HW.out hb)
      clear hq hb
      clear c10 c11 c20 c21
      have c10 := B1.out.cell0
      have c11 := B1.out.cell1
      have c20 := B2.out.cell0
      have c21 := B2.out.cell1
      go_wp2_with fail
      refine (sub_any _ _ _ _ _ (by exact H2.out) (by exact HRR.out) (by omega)).mono ?_
      rintro e w3b ⟨v3, rfl, hr, hb⟩
      rw [val_limbs] at hr
      have HRR := Lib.hid hr
      replace HQ := Lib.hid (HQ.out.below hb)
      replace B1 := Lib.hid (B1.out.below hb)
      replace B2 := Lib.hid (B2.out.below hb)
      replace B3 := Lib.hid (B3.out.below hb)
      replace B4 := Lib.hid (B4.out.below hb)
      replace HW := Lib.hid (below_next HW.out hb)
      clear hr hb
      clear c10 c11 c20 c21
      have c10 := B1.out.cell0
      have c11 := B1.out.cell1
      have c20 := B2.out.cell0
      have c21 := B2.out.cell1
      go_wp2_with fail
      refine (signed_any _ _ _ _ (by exact HQ.out) (Nat.le_trans (limbs_add_len hlq (Nat.le_trans (parse_one (by omega : 1 < 4294967296)) (by omega))) (by omega))).mono ?_
      rintro e w4 ⟨b3, A3, n3, k3, rfl, h3, hb⟩
      have HR3 := Lib.hid h3
      replace HRR := Lib.hid (HRR.out.below hb)
      replace B1 := Lib.hid (B1.out.below hb)
      replace B2 := Lib.hid (B2.out.below hb)
      replace B3 := Lib.hid (B3.out.below hb)
      replace B4 := Lib.hid (B4.out.below hb)
      replace HW := Lib.hid (below_next HW.out hb)
      clear h3 hb
      go_wp2_with fail
      refine (signed_any _ _ _ _ (by exact HRR.out) (Nat.le_trans (limbs_len_of_lt (Nat.sub_le _ _) HX2.out) (by omega))).mono ?_
      rintro e w5 ⟨b4, A4, n4, k4, rfl, h4, hb⟩
      have HR4 := Lib.hid h4
      replace HR3 := Lib.hid (HR3.out.below hb)
      replace B1 := Lib.hid (B1.out.below hb)
      replace B2 := Lib.hid (B2.out.below hb)
      replace B3 := Lib.hid (B3.out.below hb)
      replace B4 := Lib.hid (B4.out.below hb)
      replace HW := Lib.hid (below_next HW.out hb)
      clear h4 hb
      have c30 := B3.out.cell0
      have c31 := B3.out.cell1
      have c40 := B4.out.cell0
      have c41 := B4.out.cell1
      have f30 := B3.out.fro 0
      have f31 := B3.out.fro 1
      have f40 := B4.out.fro 0
      have f41 := B4.out.fro 1
      go_wp2
      refine bodyPost_ret (v := .tuple #[.agg #[.bool b3, .slice A3 n3 k3], .agg #[.bool b4, .slice A4 n4 k4], .bool true]) (by simp [results, Tryd.results40, go_sem, c30, c31, c40, c41]) rfl ⟨_, _, _, _, _, _, _, _, rfl, ?_, ?_, below_stored (below_stored HW.out (by omega) _ _) (by omega) _ _⟩
      · have h3 := (HR3.out.store B3.out nil_noInt (.bool b3) (.slice A3 n3 k3)).store (B4.out.far (by omega) _ _) nil_noInt (.bool b4) (.slice A4 n4 k4)
        rw [show zval true xs / zval false ys = _ from (idiv_np HY.out HR0.out).1]
        rw [zval_true, val_limbs] at h3
        exact h3
      · have h4 := (HR4.out.store B3.out nil_noInt (.bool b3) (.slice A3 n3 k3)).store (B4.out.far (by omega) _ _) nil_noInt (.bool b4) (.slice A4 n4 k4)
        rw [show zval true xs % zval false ys = _ from (idiv_np HY.out HR0.out).2]
        rw [zval_false, val_limbs] at h4
        exact h4
    · skip
      obtain ⟨W, hW, B1, B2, B3, B4, HW, HS⟩ := boxes4 w (.bool true) m1 (.bool true) m2 (.bool false) (.slice none 0 0) (.bool false) (.slice none 0 0)
      replace H1 := Lib.hid (H1.out.below HW.out)
      replace H2 := Lib.hid (H2.out.below HW.out)
      have HWE := Lib.hid hW
      clear hW
      go_enter Tryd.func40, Tryd.ntmps40
      go_wp2_with fail
      rw [HWE.out]
      clear HWE
      refine (divmod_any _ _ _ _ _ (by exact H1.out) (by exact H2.out) (by omega) (by omega) HY.out).mono ?_
      rintro e w1 ⟨vq, vr, rfl, hq, hr, hb⟩
      have HQ := Lib.hid hq
      have HRR := Lib.hid hr
      replace H2 := Lib.hid (H2.out.below hb)
      replace B1 := Lib.hid (B1.out.below hb)
      replace B2 := Lib.hid (B2.out.below hb)
      replace B3 := Lib.hid (B3.out.below hb)
      replace B4 := Lib.hid (B4.out.below hb)
      replace HW := Lib.hid (below_next HW.out hb)
      have c10 := B1.out.cell0
      have c11 := B1.out.cell1
      have c20 := B2.out.cell0
      have c21 := B2.out.cell1
      have hlr : (limbs (val xs % val ys)).length ≤ 50000 := limbs_len_of_lt (Nat.mod_le _ _) (Nat.le_trans HX1.out (by omega))
      have hlq : (limbs (val xs / val ys)).length ≤ 50000 := limbs_len_of_lt (Nat.div_le_self _ _) (Nat.le_trans HX1.out (by omega))
      obtain ⟨Ar, cr, rfl, _, _⟩ := hr.form
      have hlp : 0 < (limbs (val xs % val ys)).length := List.length_pos_iff.2 (limbs_ne_nil HR0.out)
      clear hq hr hb
      go_wp2_with fail
      refine (of_any 1 _ (by omega)).mono ?_
      rintro e w2 ⟨v1, rfl, ho, hb⟩
      have HO := Lib.hid ho
      replace HQ := Lib.hid (HQ.out.below hb)
      replace HRR := Lib.hid (HRR.out.below hb)
      replace H2 := Lib.hid (H2.out.below hb)
      replace B1 := Lib.hid (B1.out.below hb)
      replace B2 := Lib.hid (B2.out.below hb)
      replace B3 := Lib.hid (B3.out.below hb)
      replace B4 := Lib.hid (B4.out.below hb)
      replace HW := Lib.hid (below_next HW.out hb)
      clear ho hb
      go_wp2_with fail
      refine (add_any _ _ _ _ _ (by exact HQ.out) (by exact HO.out) (by omega) (Nat.le_trans (parse_one (by omega)) (by omega))).mono ?_
      rintro e w3 ⟨v2, rfl, hq, hb⟩
      rw [val_limbs, val_limbs] at hq
      have HQ := Lib.hid hq
      replace HRR := Lib.hid (HRR.out.below hb)
      replace H2 := Lib.hid (H2.out.below hb)
      replace B1 := Lib.hid (B1.out.below hb)
      replace B2 := Lib.hid (B2.out.below hb)
      replace B3 := Lib.hid (B3.out.below hb)
      replace B4 := Lib.hid (B4.out.below hb)
      replace HW := Lib.hid (below_next HW.out hb)
      clear hq hb
      clear c10 c11 c20 c21
      have c10 := B1.out.cell0
      have c11 := B1.out.cell1
      have c20 := B2.out.cell0
      have c21 := B2.out.cell1
      go_wp2_with fail
      refine (sub_any _ _ _ _ _ (by exact H2.out) (by exact HRR.out) (by omega)).mono ?_
      rintro e w3b ⟨v3, rfl, hr, hb⟩
      rw [val_limbs] at hr
      have HRR := Lib.hid hr
      replace HQ := Lib.hid (HQ.out.below hb)
      replace B1 := Lib.hid (B1.out.below hb)
      replace B2 := Lib.hid (B2.out.below hb)
      replace B3 := Lib.hid (B3.out.below hb)
      replace B4 := Lib.hid (B4.out.below hb)
      replace HW := Lib.hid (below_next HW.out hb)
      clear hr hb
      clear c10 c11 c20 c21
      have c10 := B1.out.cell0
      have c11 := B1.out.cell1
      have c20 := B2.out.cell0
      have c21 := B2.out.cell1
      go_wp2_with fail
      refine (signed_any _ _ _ _ (by exact HQ.out) (Nat.le_trans (limbs_add_len hlq (Nat.le_trans (parse_one (by omega : 1 < 4294967296)) (by omega))) (by omega))).mono ?_
      rintro e w4 ⟨b3, A3, n3, k3, rfl, h3, hb⟩
      have HR3 := Lib.hid h3
      replace HRR := Lib.hid (HRR.out.below hb)
      replace B1 := Lib.hid (B1.out.below hb)
      replace B2 := Lib.hid (B2.out.below hb)
      replace B3 := Lib.hid (B3.out.below hb)
      replace B4 := Lib.hid (B4.out.below hb)
      replace HW := Lib.hid (below_next HW.out hb)
      clear h3 hb
      go_wp2_with fail
      refine (signed_any _ _ _ _ (by exact HRR.out) (Nat.le_trans (limbs_len_of_lt (Nat.sub_le _ _) HX2.out) (by omega))).mono ?_
      rintro e w5 ⟨b4, A4, n4, k4, rfl, h4, hb⟩
      have HR4 := Lib.hid h4
      replace HR3 := Lib.hid (HR3.out.below hb)
      replace B1 := Lib.hid (B1.out.below hb)
      replace B2 := Lib.hid (B2.out.below hb)
      replace B3 := Lib.hid (B3.out.below hb)
      replace B4 := Lib.hid (B4.out.below hb)
      replace HW := Lib.hid (below_next HW.out hb)
      clear h4 hb
      have c30 := B3.out.cell0
      have c31 := B3.out.cell1
      have c40 := B4.out.cell0
      have c41 := B4.out.cell1
      have f30 := B3.out.fro 0
      have f31 := B3.out.fro 1
      have f40 := B4.out.fro 0
      have f41 := B4.out.fro 1
      go_wp2
      refine bodyPost_ret (v := .tuple #[.agg #[.bool b3, .slice A3 n3 k3], .agg #[.bool b4, .slice A4 n4 k4], .bool true]) (by simp [results, Tryd.results40, go_sem, c30, c31, c40, c41]) rfl ⟨_, _, _, _, _, _, _, _, rfl, ?_, ?_, below_stored (below_stored HW.out (by omega) _ _) (by omega) _ _⟩
      · have h3 := (HR3.out.store B3.out nil_noInt (.bool b3) (.slice A3 n3 k3)).store (B4.out.far (by omega) _ _) nil_noInt (.bool b4) (.slice A4 n4 k4)
        rw [show zval true xs / zval true ys = _ from (idiv_nn HY.out HR0.out).1]
        rw [zval_false, val_limbs] at h3
        exact h3
      · have h4 := (HR4.out.store B3.out nil_noInt (.bool b3) (.slice A3 n3 k3)).store (B4.out.far (by omega) _ _) nil_noInt (.bool b4) (.slice A4 n4 k4)
        rw [show zval true xs % zval true ys = _ from (idiv_nn HY.out HR0.out).2]
        rw [zval_false, val_limbs] at h4
        exact h4
end Go.Proofs.YtoflndeonegkpaaDoor
