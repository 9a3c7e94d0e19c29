/- integer.Mul, Add, Sub. -/
import Derived.Test.YtoflndeonegkpaaDoorInt
import Derived.Deep.DeepCutAuto
namespace Go.Proofs.YtoflndeonegkpaaDoor
open Go.RowKit

/-- Two parameters in their boxes. -/
theorem boxes2 (w : World) (x1 y1 x2 y2 : Value) : ∃ W, (w.alloc (.cells #[x1, y1] 25)).alloc (.cells #[x2, y2] 25) = W ∧ Hid (Box W w.heap.size x1 y1) ∧ Hid (Box W (w.heap.size + 1) x2 y2) ∧ Hid (Below w.heap.size w W) ∧ Hid (W.heap.size = w.heap.size + 2) :=
  ⟨_, rfl, (Box.new rfl).alloc _, Box.new (by simp), below_two w _ _, by show _ = _; simp⟩
/-- Two parameters and the result in their boxes. -/
theorem boxes3 (w : World) (x1 y1 x2 y2 x3 y3 : Value) : ∃ W, ((w.alloc (.cells #[x1, y1] 25)).alloc (.cells #[x2, y2] 25)).alloc (.cells #[x3, y3] 25) = W ∧ Hid (Box W w.heap.size x1 y1) ∧ Hid (Box W (w.heap.size + 1) x2 y2) ∧ Hid (Box W (w.heap.size + 1 + 1) x3 y3) ∧ Hid (Below w.heap.size w W) ∧ Hid (W.heap.size = w.heap.size + 3) :=
  ⟨_, rfl, ((Box.new rfl).alloc _).alloc _, (Box.new (by simp)).alloc _, Box.new (by simp), below_next (below_two w _ _) (below_alloc0 _ _), by show _ = _; simp⟩
theorem cellFar {w : World} {g : Nat} {u v x : Value} {b o : Nat} (h : w.cell? ⟨b, o, none⟩ = some x) (hg : g ≠ b) : ((w.setCell ⟨g, 0, none⟩ u).setCell ⟨g, 1, none⟩ v).cell? ⟨b, o, none⟩ = some x := by
  rw [World.cell?_setCell_far _ _ _ _ hg, World.cell?_setCell_far _ _ _ _ hg]; exact h
/-- Signs differ: the difference of the magnitudes. -/
theorem zadd_far {b1 b2 : Bool} {xs ys : List Nat} (h : ¬ b1 = b2) (hle : val ys ≤ val xs) : zval b1 xs + zval b2 ys = zval b1 (limbs (val xs - val ys)) := by
  cases b1 <;> cases b2 <;> simp_all [zval, val_limbs] <;> omega

set_option maxHeartbeats 1000000 in
theorem imul_any (b1 b2 : Bool) (m1 m2 : Value) (z1 z2 : Int) (k1 k2 : Nat) (w : World) (h1 : IntAt w b1 m1 z1 k1) (h2 : IntAt w b2 m2 z2 k2) (hk1 : k1 ≤ 400000) (hk2 : k2 ≤ 400000) :
    Calls Tryd.prog 34 #[.agg #[.bool b1, m1], .agg #[.bool b2, m2]] w (GivesZ w (z1 * z2)) := by
  obtain ⟨xs, h1, hl1, rfl⟩ := h1
  obtain ⟨ys, h2, hl2, rfl⟩ := h2
  have H1 := Lib.hid h1
  have H2 := Lib.hid h2
  have hx1 := limbs_val_length h1.lim
  have hx2 := limbs_val_length h2.lim
  have hz : ∀ us, val us = val xs * val ys → zval b1 xs * zval b2 ys = zval (b1 != b2) us := fun us hu => by
    cases b1 <;> cases b2 <;> simp [zval, hu, Int.neg_mul, Int.mul_neg]
  have HZ := Lib.hid hz
  have HL := Lib.hid (limbs_mul_len (k := 400000) (j := 400000) (a := val xs) (b := val ys) (by omega) (by omega))
  clear h1 h2 hz hx1 hx2
  go_enter Tryd.func34, Tryd.ntmps34
  go_upto_region 1 with fail
  obtain ⟨W, hW, B1, B2, B3, HW, HS⟩ := boxes3 w (.bool b1) m1 (.bool b2) m2 (.bool false) (.slice none 0 0)
  rw [hW]
  clear hW
  have c10 := B1.out.cell0
  have c11 := B1.out.cell1
  have c20 := B2.out.cell0
  have c21 := B2.out.cell1
  have c30 := B3.out.cell0
  have c31 := B3.out.cell1
  replace H1 := Lib.hid (H1.out.below HW.out)
  replace H2 := Lib.hid (H2.out.below HW.out)
  go_region_held3 (fun w' => w'.cell? ⟨w.heap.size, 0, none⟩ = some (.bool b1) ∧ w'.cell? ⟨w.heap.size, 1, none⟩ = some m1 ∧ w'.cell? ⟨w.heap.size + 1, 0, none⟩ = some (.bool b2) ∧ w'.cell? ⟨w.heap.size + 1, 1, none⟩ = some m2)
    (first | (go_split_ands; exact ⟨cellKeep hb (by assumption), cellKeep hb (by assumption), cellKeep hb (by assumption), cellKeep hb (by assumption)⟩) | (go_split_ands; exact ⟨cellFar (by assumption) (by omega), cellFar (by assumption) (by omega), cellFar (by assumption) (by omega), cellFar (by assumption) (by omega)⟩) | go_keep)
    (first
      | (go_at_call 36; refine (mul_any _ _ _ _ _ (by exact H1.out) (by exact H2.out) (by omega) (by omega)).mono ?_; rintro e w1 ⟨v1, rfl, h1, hb⟩; have HM := Lib.hid h1; clear h1; have B3b := Lib.hid (B3.out.below (below_undrew hb)); have HWb := Lib.hid (below_next HW.out (below_undrew hb)))
      | (go_at_call 56; refine (signed_any _ _ _ _ (by exact HM.out) (Nat.le_trans HL.out (by omega))).mono ?_; rintro e w2 ⟨b3, A3, n3, k3, rfl, h3, hb⟩; have HR := Lib.hid h3; clear h3; have B3c := Lib.hid (B3b.out.below hb); have HWc := Lib.hid (below_next HWb.out hb); have c30 := B3c.out.cell0; have c31 := B3c.out.cell1; have f30 := B3c.out.fro 0; have f31 := B3c.out.fro 1))
  go_wp2
  exact bodyPost_ret (v := .agg #[.bool b3, .slice A3 n3 k3]) (by simp [results, Tryd.results34, go_sem, c30, c31]) rfl ⟨_, _, _, _, rfl, (by rw [HZ.out _ (val_limbs _)]; exact HR.out.store B3c.out nil_noInt _ _), below_stored HWc.out (by omega) _ _⟩

set_option maxHeartbeats 1000000 in
theorem iadd_any (b1 b2 : Bool) (m1 m2 : Value) (z1 z2 : Int) (k1 k2 : Nat) (w : World) (h1 : IntAt w b1 m1 z1 k1) (h2 : IntAt w b2 m2 z2 k2) (hk1 : k1 ≤ 400000) (hk2 : k2 ≤ 400000) :
    Calls Tryd.prog 33 #[.agg #[.bool b1, m1], .agg #[.bool b2, m2]] w (GivesZ w (z1 + z2)) := by
  obtain ⟨xs, h1, hl1, rfl⟩ := h1
  obtain ⟨ys, h2, hl2, rfl⟩ := h2
  have H1 := Lib.hid h1
  have H2 := Lib.hid h2
  have hx1 := limbs_val_length h1.lim
  have hx2 := limbs_val_length h2.lim
  have HL := Lib.hid (limbs_add_len (k := 400000) (a := val xs) (b := val ys) (by omega) (by omega))
  have HX1 := Lib.hid (Nat.le_trans hx1 hl1)
  have HX2 := Lib.hid (Nat.le_trans hx2 hl2)
  clear h1 h2 hx1 hx2
  by_cases hs : b1 = b2
  · subst hs
    have HZ : Hid (∀ us, val us = val xs + val ys → zval b1 xs + zval b1 ys = zval b1 us) := fun us hu => by
      cases b1 <;> simp [zval, hu]; omega
    go_enter Tryd.func33, Tryd.ntmps33
    go_upto_region 2 with fail
    obtain ⟨W, hW, B1, B2, B3, HW, HS⟩ := boxes3 w (.bool b1) m1 (.bool b1) m2 (.bool false) (.slice none 0 0)
    rw [hW]
    clear hW
    have c10 := B1.out.cell0
    have c11 := B1.out.cell1
    have c20 := B2.out.cell0
    have c21 := B2.out.cell1
    have c30 := B3.out.cell0
    have c31 := B3.out.cell1
    replace H1 := Lib.hid (H1.out.below HW.out)
    replace H2 := Lib.hid (H2.out.below HW.out)
    go_region_held3 (fun w' => w'.cell? ⟨w.heap.size, 0, none⟩ = some (.bool b1) ∧ w'.cell? ⟨w.heap.size, 1, none⟩ = some m1 ∧ w'.cell? ⟨w.heap.size + 1, 0, none⟩ = some (.bool b1) ∧ w'.cell? ⟨w.heap.size + 1, 1, none⟩ = some m2)
      (first | (go_split_ands; exact ⟨cellKeep hb (by assumption), cellKeep hb (by assumption), cellKeep hb (by assumption), cellKeep hb (by assumption)⟩) | (go_split_ands; exact ⟨cellFar (by assumption) (by omega), cellFar (by assumption) (by omega), cellFar (by assumption) (by omega), cellFar (by assumption) (by omega)⟩) | go_keep)
      (first
        | (go_at_call 41; refine (add_any _ _ _ _ _ (by exact H1.out) (by exact H2.out) (by omega) (by omega)).mono ?_; rintro e w1 ⟨v1, rfl, h1, hb⟩; have HM := Lib.hid h1; clear h1; have B3b := Lib.hid (B3.out.below (below_undrew hb)); have HWb := Lib.hid (below_next HW.out (below_undrew hb)))
        | (go_at_call 56; refine (signed_any _ _ _ _ (by exact HM.out) (Nat.le_trans HL.out (by omega))).mono ?_; rintro e w2 ⟨b3, A3, n3, k3, rfl, h3, hb⟩; have HR := Lib.hid h3; clear h3; have B3c := Lib.hid (B3b.out.below hb); have HWc := Lib.hid (below_next HWb.out hb); have c30 := B3c.out.cell0; have c31 := B3c.out.cell1; have f30 := B3c.out.fro 0; have f31 := B3c.out.fro 1))
    go_wp2
    exact bodyPost_ret (v := .agg #[.bool b3, .slice A3 n3 k3]) (by simp [results, Tryd.results33, go_sem, c30, c31]) rfl ⟨_, _, _, _, rfl, (by rw [HZ.out _ (val_limbs _)]; exact HR.out.store B3c.out nil_noInt _ _), below_stored HWc.out (by omega) _ _⟩
  · have hsb : (b1 == b2) = false := by simpa using hs
    have HSB := Lib.hid hs
    clear hs
    obtain ⟨W, hW, B1, B2, B3, HW, HS⟩ := boxes3 w (.bool b1) m1 (.bool b2) m2 (.bool false) (.slice none 0 0)
    replace H1 := Lib.hid (H1.out.below HW.out)
    replace H2 := Lib.hid (H2.out.below HW.out)
    have HWE := Lib.hid hW
    clear hW
    by_cases hle : val ys ≤ val xs
    · have HLE := Lib.hid hle
      clear hle
      go_enter Tryd.func33, Tryd.ntmps33
      go_wp2_with fail
      rw [HWE.out]
      refine (sub_any _ _ _ _ _ (by exact H1.out) (by exact H2.out) (by omega)).mono ?_
      rintro e w1 ⟨v1, rfl, h1, hb⟩
      rw [decide_eq_true HLE.out]
      have HM := Lib.hid h1
      have B1b := Lib.hid (B1.out.below hb)
      have B2b := Lib.hid (B2.out.below hb)
      have B3b := Lib.hid (B3.out.below hb)
      have HWb := Lib.hid (below_next HW.out hb)
      have c10 := B1b.out.cell0
      have c11 := B1b.out.cell1
      have c20 := B2b.out.cell0
      have c21 := B2b.out.cell1
      clear hb h1
      go_wp2_with fail
      refine (signed_any _ _ _ _ (by exact HM.out) (Nat.le_trans (limbs_len_of_lt (Nat.sub_le _ _) HX1.out) (by omega))).mono ?_
      rintro e w2 ⟨b3, A3, n3, k3, rfl, h3, hb⟩
      have HR := Lib.hid h3
      have B3c := Lib.hid (B3b.out.below hb)
      have HWc := Lib.hid (below_next HWb.out hb)
      have c30 := B3c.out.cell0
      have c31 := B3c.out.cell1
      have f30 := B3c.out.fro 0
      have f31 := B3c.out.fro 1
      clear h3 hb
      go_wp2
      exact bodyPost_ret (v := .agg #[.bool b3, .slice A3 n3 k3]) (by simp [results, Tryd.results33, go_sem, c30, c31]) rfl ⟨_, _, _, _, rfl, (by rw [zadd_far HSB.out HLE.out]; exact HR.out.store B3c.out nil_noInt _ _), below_stored HWc.out (by omega) _ _⟩
    · have HLE := Lib.hid hle
      clear hle
      go_enter Tryd.func33, Tryd.ntmps33
      go_wp2_with fail
      rw [HWE.out]
      refine (sub_any _ _ _ _ _ (by exact H1.out) (by exact H2.out) (by omega)).mono ?_
      rintro e w1 ⟨v1, rfl, h1, hb⟩
      rw [decide_eq_false HLE.out]
      replace H1 := Lib.hid (H1.out.below hb)
      replace H2 := Lib.hid (H2.out.below hb)
      have B1b := Lib.hid (B1.out.below hb)
      have B2b := Lib.hid (B2.out.below hb)
      have B3b := Lib.hid (B3.out.below hb)
      have HWb := Lib.hid (below_next HW.out hb)
      have c10 := B1b.out.cell0
      have c11 := B1b.out.cell1
      have c20 := B2b.out.cell0
      have c21 := B2b.out.cell1
      clear hb h1
      go_wp2_with fail
      refine (sub_any _ _ _ _ _ (by exact H2.out) (by exact H1.out) (by omega)).mono ?_
      rintro e w1b ⟨v1b, rfl, h1, hb⟩
      have HM := Lib.hid h1
      replace B2b := Lib.hid (B2b.out.below hb)
      replace B3b := Lib.hid (B3b.out.below hb)
      replace HWb := Lib.hid (below_next HWb.out hb)
      replace c20 := B2b.out.cell0
      replace c21 := B2b.out.cell1
      clear hb h1
      go_wp2_with fail
      refine (signed_any _ _ _ _ (by exact HM.out) (Nat.le_trans (limbs_len_of_lt (Nat.sub_le _ _) HX2.out) (by omega))).mono ?_
      rintro e w2 ⟨b3, A3, n3, k3, rfl, h3, hb⟩
      have HR := Lib.hid h3
      have B3c := Lib.hid (B3b.out.below hb)
      have HWc := Lib.hid (below_next HWb.out hb)
      have c30 := B3c.out.cell0
      have c31 := B3c.out.cell1
      have f30 := B3c.out.fro 0
      have f31 := B3c.out.fro 1
      clear h3 hb
      go_wp2
      exact bodyPost_ret (v := .agg #[.bool b3, .slice A3 n3 k3]) (by simp [results, Tryd.results33, go_sem, c30, c31]) rfl ⟨_, _, _, _, rfl, (by rw [Int.add_comm, zadd_far (fun e => HSB.out e.symm) (Nat.le_of_lt (Nat.lt_of_not_le HLE.out))]; exact HR.out.store B3c.out nil_noInt _ _), below_stored HWc.out (by omega) _ _⟩

end Go.Proofs.YtoflndeonegkpaaDoor
