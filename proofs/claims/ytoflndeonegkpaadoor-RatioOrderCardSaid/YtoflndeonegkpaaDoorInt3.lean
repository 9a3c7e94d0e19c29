/- integer.Of, Cmp. -/
import Derived.Test.YtoflndeonegkpaaDoorInt2
namespace Go.Proofs.YtoflndeonegkpaaDoor
open Go.RowKit

theorem zval_neg_abs {n : Int} (h : n < 0) : zval true (limbs n.natAbs) = n := by rw [zval_true, val_limbs]; omega
theorem zval_pos_abs {n : Int} (h : 0 ≤ n) : zval false (limbs n.natAbs) = n := by rw [zval_false, val_limbs]; omega
theorem abs_two {n : Int} (h1 : -9223372036854775808 ≤ n) (h2 : n ≤ 9223372036854775807) : (limbs n.natAbs).length ≤ 2 := limbs_length_le (by omega)

set_option maxHeartbeats 1000000 in
theorem iof_any (n : Int) (w : World) (h1 : -9223372036854775808 ≤ n) (h2 : n ≤ 9223372036854775807) : Calls Tryd.prog 29 #[.int .i64 n] w (GivesZ w n) := by
  have HL := Lib.hid (abs_two h1 h2)
  have hB := Box.new (w := w) (x := .bool false) (y := .slice none 0 0) rfl
  have HB := Lib.hid hB
  clear hB
  by_cases h0 : n < 0
  · have e1 : IntKind.u64.wrap (-IntKind.u64.wrap n) = ((n.natAbs : Nat) : Int) := by rw [IntKind.wrap_u64, IntKind.wrap_u64]; omega
    have E1 := Lib.hid e1
    clear e1
    go_enter Tryd.func29, Tryd.ntmps29
    go_wp2_with fail
    rw [E1.out]
    refine (of_any _ _ (by omega)).mono ?_
    rintro e w1 ⟨v1, rfl, g1, hb1⟩
    replace HB := Lib.hid (HB.out.below hb1)
    have HW := Lib.hid (below_next (below_alloc0 w _) hb1)
    have G1 := Lib.hid g1
    clear g1 hb1
    go_wp2_with fail
    refine (signed_any _ _ _ _ (by exact G1.out) (Nat.le_trans HL.out (by omega))).mono ?_
    rintro e w2 ⟨b3, A3, n3, k3, rfl, h3, hb⟩
    replace HB := Lib.hid (HB.out.below hb)
    replace HW := Lib.hid (below_next HW.out hb)
    rw [zval_neg_abs h0] at h3
    have HR := Lib.hid h3
    have c30 := HB.out.cell0
    have c31 := HB.out.cell1
    have f30 := HB.out.fro 0
    have f31 := HB.out.fro 1
    clear h3 hb
    go_wp2
    exact bodyPost_ret (v := .agg #[.bool b3, .slice A3 n3 k3]) (by simp [results, Tryd.results29, go_sem, c30, c31]) rfl ⟨_, _, _, _, rfl, HR.out.store HB.out nil_noInt _ _, below_stored HW.out (Nat.le_refl _) _ _⟩
  · have HN := Lib.hid (zval_pos_abs (n := n) (by omega))
    obtain ⟨k, rfl⟩ : ∃ k : Nat, n = (k : Int) := ⟨n.toNat, by omega⟩
    rw [Int.natAbs_natCast] at HN HL
    go_enter Tryd.func29, Tryd.ntmps29
    go_wp2_with fail
    refine (of_any k _ (by omega)).mono ?_
    rintro e w1 ⟨v1, rfl, g1, hb1⟩
    replace HB := Lib.hid (HB.out.below hb1)
    have HW := Lib.hid (below_next (below_alloc0 w _) hb1)
    have G1 := Lib.hid g1
    clear g1 hb1
    go_wp2_with fail
    refine (signed_any _ _ _ _ (by exact G1.out) (Nat.le_trans HL.out (by omega))).mono ?_
    rintro e w2 ⟨b3, A3, n3, k3, rfl, h3, hb⟩
    replace HB := Lib.hid (HB.out.below hb)
    replace HW := Lib.hid (below_next HW.out hb)
    rw [HN.out] at h3
    have HR := Lib.hid h3
    have c30 := HB.out.cell0
    have c31 := HB.out.cell1
    have f30 := HB.out.fro 0
    have f31 := HB.out.fro 1
    clear h3 hb
    go_wp2
    exact bodyPost_ret (v := .agg #[.bool b3, .slice A3 n3 k3]) (by simp [results, Tryd.results29, go_sem, c30, c31]) rfl ⟨_, _, _, _, rfl, HR.out.store HB.out nil_noInt _ _, below_stored HW.out (Nat.le_refl _) _ _⟩

/-- -1, 0 or 1. -/
def zord (a b : Int) : Int := if a < b then -1 else if b < a then 1 else 0
theorem zord_lt {a b : Int} (h : a < b) : zord a b = -1 := if_pos h
theorem zord_gt {a b : Int} (h : b < a) : zord a b = 1 := by unfold zord; rw [if_neg (by omega), if_pos h]
theorem zord_eq {a b : Int} (h : a = b) : zord a b = 0 := by unfold zord; rw [if_neg (by omega), if_neg (by omega)]
theorem zord_neg {a b : Int} (ha : a < 0) (hb : b < 0) : ord b.natAbs a.natAbs = zord a b := by
  unfold ord zord
  by_cases h : a < b
  · rw [if_pos (by omega), if_pos h]
  · rw [if_neg (by omega), if_neg h]
    by_cases h2 : b < a
    · rw [if_pos (by omega), if_pos h2]
    · rw [if_neg (by omega), if_neg h2]
theorem zord_pos {a b : Int} (ha : 0 ≤ a) (hb : 0 ≤ b) : ord a.natAbs b.natAbs = zord a b := by
  unfold ord zord
  by_cases h : a < b
  · rw [if_pos (by omega), if_pos h]
  · rw [if_neg (by omega), if_neg h]
    by_cases h2 : b < a
    · rw [if_pos (by omega), if_pos h2]
    · rw [if_neg (by omega), if_neg h2]
/-- A comparison's outcome. -/
def GivesOrd (w : World) (k : Int) (e : Ending) (w' : World) : Prop := e = .returned (.int .i64 k) ∧ Below w.heap.size w w'
theorem IntAt.noInt {w : World} {b : Bool} {m : Value} {z : Int} {k : Nat} (h : IntAt w b m z k) : ∀ k n, m ≠ .int k n := by obtain ⟨xs, h1, _⟩ := h; exact h1.noInt
/-- Both numbers in normal form in the boxes g1, g2. -/
def CmpMid (w : World) (g1 g2 : Nat) (z1 z2 : Int) (wx : World) : Prop := ∃ b1 A1 n1 c1 b2 A2 n2 c2, Box wx g1 (.bool b1) (.slice A1 n1 c1) ∧ Box wx g2 (.bool b2) (.slice A2 n2 c2) ∧ ZAt wx b1 (.slice A1 n1 c1) z1 ∧ ZAt wx b2 (.slice A2 n2 c2) z2 ∧ Below w.heap.size w wx

set_option maxHeartbeats 2000000 in
theorem icmp_any (b1 b2 : Bool) (m1 m2 : Value) (z1 z2 : Int) (k1 k2 : Nat) (w : World) (h1 : IntAt w b1 m1 z1 k1) (h2 : IntAt w b2 m2 z2 k2) (hk1 : k1 ≤ 400000) (hk2 : k2 ≤ 400000) :
    Calls Tryd.prog 39 #[.agg #[.bool b1, m1], .agg #[.bool b2, m2]] w (GivesOrd w (zord z1 z2)) := by
  have H1 := Lib.hid h1
  have H2 := Lib.hid h2
  have N1 := Lib.hid h1.noInt
  have N2 := Lib.hid h2.noInt
  clear h1 h2
  go_enter Tryd.func39, Tryd.ntmps39
  go_upto_region 1 with fail
  obtain ⟨W, hW, B1, B2, HW, HS⟩ := boxes2 w (.bool b1) m1 (.bool b2) m2
  rw [hW]
  clear hW
  have c10 := B1.out.cell0
  have c11 := B1.out.cell1
  have c20 := B2.out.cell0
  have c21 := B2.out.cell1
  replace H1 := Lib.hid (H1.out.below HW.out)
  replace H2 := Lib.hid (H2.out.below HW.out)
  go_cut [] (fun wx => CmpMid w w.heap.size (w.heap.size + 1) z1 z2 wx)
  case first =>
    go_region_with (first
      | (go_at_call_of 43 (Value.agg #[.bool b1, m1]); refine (inorm_any _ _ _ _ _ (by exact H1.out) (by omega)).mono ?_; rintro e w1 ⟨b3, A3, n3, k3, rfl, h3, hb1⟩; have HR := Lib.hid h3; clear h3; have B1b := Lib.hid (B1.out.below (below_undrew hb1)); have B2b := Lib.hid (B2.out.below (below_undrew hb1)); have HWb := Lib.hid (below_next HW.out (below_undrew hb1)); have H2b := Lib.hid (H2.out.below (below_undrew hb1)); have c20 := B2b.out.cell0; have c21 := B2b.out.cell1)
      | (go_at_call_of 43 (Value.agg #[.bool b2, m2]); refine (inorm_any _ _ _ _ _ (by exact H2b.out) (by omega)).mono ?_; rintro e w2 ⟨b4, A4, n4, k4, rfl, h4, hb2⟩; have HR2 := Lib.hid h4; clear h4; have B1c := Lib.hid (B1b.out.below hb2); have B2c := Lib.hid (B2b.out.below hb2); have HWc := Lib.hid (below_next HWb.out hb2); have HRc := Lib.hid (HR.out.below hb2); have d10 := B1c.out.cell0; have d11 := B1c.out.cell1; have d20 := B2c.out.cell0; have d21 := B2c.out.cell1; have f10 := B1c.out.fro 0; have f11 := B1c.out.fro 1; have f20 := B2c.out.fro 0; have f21 := B2c.out.fro 1))
    all_goals
      go_wp2_with fail
      go_meet
      exact ⟨b3, A3, n3, k3, b4, A4, n4, k4, (B1c.out.store _ _).far (by omega) _ _, (B2c.out.far (by omega) _ _).store _ _, (HRc.out.store B1c.out N1.out _ _).store (B2c.out.far (by omega) _ _) N2.out _ _, (HR2.out.store B1c.out N1.out _ _).store (B2c.out.far (by omega) _ _) N2.out _ _, below_stored (below_stored HWc.out (Nat.le_refl _) _ _) (Nat.le_succ _) _ _⟩
  case rest =>
    obtain ⟨b3, A3, n3, k3, b4, A4, n4, k4, D1, D2, Z1, Z2, DW⟩ := hcut
    have DB1 := Lib.hid D1
    have DB2 := Lib.hid D2
    have ZH1 := Lib.hid Z1
    have ZH2 := Lib.hid Z2
    have DWH := Lib.hid DW
    have c10 := DB1.out.cell0
    have c11 := DB1.out.cell1
    have c20 := DB2.out.cell0
    have c21 := DB2.out.cell1
    obtain ⟨e1, -⟩ := Z1
    obtain ⟨e2, -⟩ := Z2
    clear D1 D2 DW
    by_cases s1 : z1 < 0
    · by_cases s2 : z2 < 0
      · obtain rfl : b3 = true := by rw [e1]; exact decide_eq_true s1
        obtain rfl : b4 = true := by rw [e2]; exact decide_eq_true s2
        clear e1 e2
        go_wp2_with fail
        refine (cmp_below _ _ _ _ _ (by exact ZH2.out.2) (by exact ZH1.out.2)).mono ?_
        rintro e w3 ⟨rfl, hb3, _⟩
        rw [val_limbs, val_limbs, zord_neg s1 s2]
        go_wp2
        go_ret
        exact ⟨rfl, below_next DWH.out hb3⟩
      · obtain rfl : b3 = true := by rw [e1]; exact decide_eq_true s1
        obtain rfl : b4 = false := by rw [e2]; exact decide_eq_false s2
        clear e1 e2
        go_wp2
        go_ret
        rw [zord_lt (by omega)]
        exact ⟨rfl, DWH.out⟩
    · by_cases s2 : z2 < 0
      · obtain rfl : b3 = false := by rw [e1]; exact decide_eq_false s1
        obtain rfl : b4 = true := by rw [e2]; exact decide_eq_true s2
        clear e1 e2
        go_wp2
        go_ret
        rw [zord_gt (by omega)]
        exact ⟨rfl, DWH.out⟩
      · obtain rfl : b3 = false := by rw [e1]; exact decide_eq_false s1
        obtain rfl : b4 = false := by rw [e2]; exact decide_eq_false s2
        clear e1 e2
        go_wp2_with fail
        refine (cmp_below _ _ _ _ _ (by exact ZH1.out.2) (by exact ZH2.out.2)).mono ?_
        rintro e w3 ⟨rfl, hb3, _⟩
        rw [val_limbs, val_limbs, zord_pos (by omega) (by omega)]
        go_wp2
        go_ret
        exact ⟨rfl, below_next DWH.out hb3⟩
end Go.Proofs.YtoflndeonegkpaaDoor
