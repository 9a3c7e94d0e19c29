/- garmentref02: make1, Norm, Neg, Mul, Add, Sub. -/
import Derived.Test.YtoflndeonegkpaaGreatDoorInt2
import Derived.Test.YtoflndeonegkpaaGreatDoorRef
namespace Go.Proofs.YtoflndeonegkpaaGreatDoor
open Go.RowKit

set_option maxHeartbeats 1000000 in
theorem make1_any (b : Bool) (m : Value) (xs : List Nat) (w : World) (h : NatAt w m xs) (hl : xs.length ≤ 1000000) : Calls Tryz.prog 84 #[.bool b, m] w (GivesZ w (zval b xs)) := by
  have H := Lib.hid h
  clear h
  go_enter Tryz.func84, Tryz.ntmps84
  go_wp2_with fail
  refine (rnorm_any _ _ _ (by exact H.out.alloc _) (by omega)).mono ?_
  rintro e w1 ⟨v1, rfl, h1, hb1⟩
  have HB := Lib.hid ((Box.new (w := w) (x := .bool false) (y := .slice none 0 0) rfl).below hb1)
  have HW := Lib.hid (below_next (below_alloc0 w _) hb1)
  have c0 := HB.out.cell0
  have c1 := HB.out.cell1
  have f0 := HB.out.fro 0
  have f1 := HB.out.fro 1
  have H1 := Lib.hid h1
  clear hb1
  obtain ⟨A, c, rfl, g1, g2⟩ := h1.form
  clear h1
  cases b
  · go_wp2
    exact bodyPost_ret (v := .agg #[.bool false, .slice A (limbs (val xs)).length c]) (by simp [results, Tryz.results84, go_sem, c0, c1]) rfl ⟨_, _, _, _, rfl, (zat_pos H1.out).store HB.out nil_noInt _ _, below_stored HW.out (Nat.le_refl _) _ _⟩
  · by_cases h0 : val xs = 0
    · have hz : (limbs (val xs)).length = 0 := by rw [h0]; rfl
      have hzi : decide (0 < (limbs (val xs)).length) = false := by rw [hz]; rfl
      have H0 := Lib.hid h0
      clear hz h0
      go_wp2
      exact bodyPost_ret (v := .agg #[.bool false, .slice A (limbs (val xs)).length c]) (by simp [results, Tryz.results84, go_sem, c0, c1]) rfl ⟨_, _, _, _, rfl, (zat_zero H1.out H0.out).store HB.out nil_noInt _ _, below_stored HW.out (Nat.le_refl _) _ _⟩
    · have hz : 0 < (limbs (val xs)).length := List.length_pos_iff.2 (limbs_ne_nil h0)
      have H0 := Lib.hid h0
      clear h0
      go_wp2
      exact bodyPost_ret (v := .agg #[.bool true, .slice A (limbs (val xs)).length c]) (by simp [results, Tryz.results84, go_sem, c0, c1]) rfl ⟨_, _, _, _, rfl, (zat_neg H1.out H0.out).store HB.out nil_noInt _ _, below_stored HW.out (Nat.le_refl _) _ _⟩

set_option maxHeartbeats 1000000 in
theorem rinorm_any (b : Bool) (m : Value) (z : Int) (k : Nat) (w : World) (h : IntAt w b m z k) (hk : k ≤ 1000000) : Calls Tryz.prog 52 #[.agg #[.bool b, m]] w (GivesZ w z) := by
  obtain ⟨xs, h1, h2, rfl⟩ := h
  have H := Lib.hid h1
  clear h1
  go_enter Tryz.func52, Tryz.ntmps52
  go_wp2_with fail
  refine (make1_any _ _ _ _ (by exact (H.out.alloc _).alloc _) (by omega)).mono ?_
  rintro e w1 ⟨b1, A1, n1, k1, rfl, h1, hb1⟩
  have HB := Lib.hid ((Box.new (w := w.alloc (.cells #[.bool b, m] 25)) (g := w.heap.size + 1) (x := .bool false) (y := .slice none 0 0) (by simp)).below hb1)
  have HW := Lib.hid (below_next (below_two w _ _) hb1)
  have c0 := HB.out.cell0
  have c1 := HB.out.cell1
  have f0 := HB.out.fro 0
  have f1 := HB.out.fro 1
  have H1 := Lib.hid h1
  clear hb1 h1
  go_wp2
  exact bodyPost_ret (v := .agg #[.bool b1, .slice A1 n1 k1]) (by simp [results, Tryz.results52, go_sem, c0, c1]) rfl ⟨_, _, _, _, rfl, H1.out.store HB.out nil_noInt _ _, below_stored HW.out (Nat.le_succ _) _ _⟩

set_option maxHeartbeats 1000000 in
theorem rineg_any (b : Bool) (m : Value) (z : Int) (k : Nat) (w : World) (h : IntAt w b m z k) (hk : k ≤ 1000000) : Calls Tryz.prog 77 #[.agg #[.bool b, m]] w (GivesZ w (-z)) := by
  obtain ⟨xs, h1, h2, rfl⟩ := h
  have H := Lib.hid h1
  clear h1
  have hn : -zval b xs = zval (!b) xs := by cases b <;> simp [zval]
  rw [hn]
  clear hn
  go_enter Tryz.func77, Tryz.ntmps77
  go_wp2_with fail
  refine (make1_any _ _ _ _ (by exact (H.out.alloc _).alloc _) (by omega)).mono ?_
  rintro e w1 ⟨b1, A1, n1, k1, rfl, h1, hb1⟩
  have HB := Lib.hid ((Box.new (w := w.alloc (.cells #[.bool b, m] 25)) (g := w.heap.size + 1) (x := .bool false) (y := .slice none 0 0) (by simp)).below hb1)
  have HW := Lib.hid (below_next (below_two w _ _) hb1)
  have c0 := HB.out.cell0
  have c1 := HB.out.cell1
  have f0 := HB.out.fro 0
  have f1 := HB.out.fro 1
  have H1 := Lib.hid h1
  clear hb1 h1
  go_wp2
  exact bodyPost_ret (v := .agg #[.bool b1, .slice A1 n1 k1]) (by simp [results, Tryz.results77, go_sem, c0, c1]) rfl ⟨_, _, _, _, rfl, H1.out.store HB.out nil_noInt _ _, below_stored HW.out (Nat.le_succ _) _ _⟩

set_option maxHeartbeats 1000000 in
theorem rimul_any (b1 b2 : Bool) (m1 m2 : Value) (z1 z2 : Int) (k1 k2 : Nat) (w : World) (h1 : IntAt w b1 m1 z1 k1) (h2 : IntAt w b2 m2 z2 k2) (hk1 : k1 ≤ 400000) (hk2 : k2 ≤ 400000) :
    Calls Tryz.prog 74 #[.agg #[.bool b1, m1], .agg #[.bool b2, m2]] w (GivesZ w (z1 * z2)) := by
  obtain ⟨xs, h1, hl1, rfl⟩ := h1
  obtain ⟨ys, h2, hl2, rfl⟩ := h2
  have H1 := Lib.hid h1
  have H2 := Lib.hid h2
  have hx1 := limbs_val_length h1.lim
  have hx2 := limbs_val_length h2.lim
  have hz : ∀ us, val us = val xs * val ys → zval b1 xs * zval b2 ys = zval (b1 != b2) us := fun us hu => by
    cases b1 <;> cases b2 <;> simp [zval, hu, Int.neg_mul, Int.mul_neg]
  have HZ := Lib.hid hz
  have HL := Lib.hid (limbs_mul_len (k := 400000) (j := 400000) (a := val xs) (b := val ys) (by omega) (by omega))
  clear h1 h2 hz hx1 hx2
  go_enter Tryz.func74, Tryz.ntmps74
  go_upto_region 1 with fail
  obtain ⟨W, hW, B1, B2, B3, HW, HS⟩ := boxes3 w (.bool b1) m1 (.bool b2) m2 (.bool false) (.slice none 0 0)
  rw [hW]
  clear hW
  have c10 := B1.out.cell0
  have c11 := B1.out.cell1
  have c20 := B2.out.cell0
  have c21 := B2.out.cell1
  have c30 := B3.out.cell0
  have c31 := B3.out.cell1
  replace H1 := Lib.hid (H1.out.below HW.out)
  replace H2 := Lib.hid (H2.out.below HW.out)
  go_region_held3 (fun w' => w'.cell? ⟨w.heap.size, 0, none⟩ = some (.bool b1) ∧ w'.cell? ⟨w.heap.size, 1, none⟩ = some m1 ∧ w'.cell? ⟨w.heap.size + 1, 0, none⟩ = some (.bool b2) ∧ w'.cell? ⟨w.heap.size + 1, 1, none⟩ = some m2)
    (first | (go_split_ands; exact ⟨cellKeep hb (by assumption), cellKeep hb (by assumption), cellKeep hb (by assumption), cellKeep hb (by assumption)⟩) | (go_split_ands; exact ⟨cellFar (by assumption) (by omega), cellFar (by assumption) (by omega), cellFar (by assumption) (by omega), cellFar (by assumption) (by omega)⟩) | go_keep)
    (first
      | (go_at_call 51; refine (rmul_any _ _ _ _ _ (by exact H1.out) (by exact H2.out) (by omega) (by omega)).mono ?_; rintro e w1 ⟨v1, rfl, h1, hb⟩; have HM := Lib.hid h1; clear h1; have B3b := Lib.hid (B3.out.below (below_undrew hb)); have HWb := Lib.hid (below_next HW.out (below_undrew hb)))
      | (go_at_call 84; refine (make1_any _ _ _ _ (by exact HM.out) (Nat.le_trans HL.out (by omega))).mono ?_; rintro e w2 ⟨b3, A3, n3, k3, rfl, h3, hb⟩; have HR := Lib.hid h3; clear h3; have B3c := Lib.hid (B3b.out.below hb); have HWc := Lib.hid (below_next HWb.out hb); have c30 := B3c.out.cell0; have c31 := B3c.out.cell1; have f30 := B3c.out.fro 0; have f31 := B3c.out.fro 1))
  go_wp2
  exact bodyPost_ret (v := .agg #[.bool b3, .slice A3 n3 k3]) (by simp [results, Tryz.results74, go_sem, c30, c31]) rfl ⟨_, _, _, _, rfl, (by rw [HZ.out _ (val_limbs _)]; exact HR.out.store B3c.out nil_noInt _ _), below_stored HWc.out (by omega) _ _⟩

set_option maxHeartbeats 1000000 in
theorem riadd_any (b1 b2 : Bool) (m1 m2 : Value) (z1 z2 : Int) (k1 k2 : Nat) (w : World) (h1 : IntAt w b1 m1 z1 k1) (h2 : IntAt w b2 m2 z2 k2) (hk1 : k1 ≤ 400000) (hk2 : k2 ≤ 400000) :
    Calls Tryz.prog 79 #[.agg #[.bool b1, m1], .agg #[.bool b2, m2]] w (GivesZ w (z1 + z2)) := by
  obtain ⟨xs, h1, hl1, rfl⟩ := h1
  obtain ⟨ys, h2, hl2, rfl⟩ := h2
  have H1 := Lib.hid h1
  have H2 := Lib.hid h2
  have hx1 := limbs_val_length h1.lim
  have hx2 := limbs_val_length h2.lim
  have HL := Lib.hid (limbs_add_len (k := 400000) (a := val xs) (b := val ys) (by omega) (by omega))
  have HX1 := Lib.hid (Nat.le_trans hx1 hl1)
  have HX2 := Lib.hid (Nat.le_trans hx2 hl2)
  clear h1 h2 hx1 hx2
  by_cases hs : b1 = b2
  · subst hs
    have HZ : Hid (∀ us, val us = val xs + val ys → zval b1 xs + zval b1 ys = zval b1 us) := fun us hu => by
      cases b1 <;> simp [zval, hu]; omega
    go_enter Tryz.func79, Tryz.ntmps79
    go_upto_region 2 with fail
    obtain ⟨W, hW, B1, B2, B3, HW, HS⟩ := boxes3 w (.bool b1) m1 (.bool b1) m2 (.bool false) (.slice none 0 0)
    rw [hW]
    clear hW
    have c10 := B1.out.cell0
    have c11 := B1.out.cell1
    have c20 := B2.out.cell0
    have c21 := B2.out.cell1
    have c30 := B3.out.cell0
    have c31 := B3.out.cell1
    replace H1 := Lib.hid (H1.out.below HW.out)
    replace H2 := Lib.hid (H2.out.below HW.out)
    go_region_held3 (fun w' => w'.cell? ⟨w.heap.size, 0, none⟩ = some (.bool b1) ∧ w'.cell? ⟨w.heap.size, 1, none⟩ = some m1 ∧ w'.cell? ⟨w.heap.size + 1, 0, none⟩ = some (.bool b1) ∧ w'.cell? ⟨w.heap.size + 1, 1, none⟩ = some m2)
      (first | (go_split_ands; exact ⟨cellKeep hb (by assumption), cellKeep hb (by assumption), cellKeep hb (by assumption), cellKeep hb (by assumption)⟩) | (go_split_ands; exact ⟨cellFar (by assumption) (by omega), cellFar (by assumption) (by omega), cellFar (by assumption) (by omega), cellFar (by assumption) (by omega)⟩) | go_keep)
      (first
        | (go_at_call 50; refine (radd_any _ _ _ _ _ (by exact H1.out) (by exact H2.out) (by omega) (by omega)).mono ?_; rintro e w1 ⟨v1, rfl, h1, hb⟩; have HM := Lib.hid h1; clear h1; have B3b := Lib.hid (B3.out.below (below_undrew hb)); have HWb := Lib.hid (below_next HW.out (below_undrew hb)))
        | (go_at_call 84; refine (make1_any _ _ _ _ (by exact HM.out) (Nat.le_trans HL.out (by omega))).mono ?_; rintro e w2 ⟨b3, A3, n3, k3, rfl, h3, hb⟩; have HR := Lib.hid h3; clear h3; have B3c := Lib.hid (B3b.out.below hb); have HWc := Lib.hid (below_next HWb.out hb); have c30 := B3c.out.cell0; have c31 := B3c.out.cell1; have f30 := B3c.out.fro 0; have f31 := B3c.out.fro 1))
    go_wp2
    exact bodyPost_ret (v := .agg #[.bool b3, .slice A3 n3 k3]) (by simp [results, Tryz.results79, go_sem, c30, c31]) rfl ⟨_, _, _, _, rfl, (by rw [HZ.out _ (val_limbs _)]; exact HR.out.store B3c.out nil_noInt _ _), below_stored HWc.out (by omega) _ _⟩
  · have hsb : (b1 == b2) = false := by simpa using hs
    have HSB := Lib.hid hs
    clear hs
    obtain ⟨W, hW, B1, B2, B3, HW, HS⟩ := boxes3 w (.bool b1) m1 (.bool b2) m2 (.bool false) (.slice none 0 0)
    replace H1 := Lib.hid (H1.out.below HW.out)
    replace H2 := Lib.hid (H2.out.below HW.out)
    have HWE := Lib.hid hW
    clear hW
    by_cases hle : val ys ≤ val xs
    · have HLE := Lib.hid hle
      clear hle
      go_enter Tryz.func79, Tryz.ntmps79
      go_wp2_with fail
      rw [HWE.out]
      refine (rsub_any _ _ _ _ _ (by exact H1.out) (by exact H2.out) (by omega) (by omega)).mono ?_
      rintro e w1 ⟨v1, rfl, h1, hb⟩
      rw [decide_eq_true HLE.out]
      have HM := Lib.hid h1
      have B1b := Lib.hid (B1.out.below hb)
      have B2b := Lib.hid (B2.out.below hb)
      have B3b := Lib.hid (B3.out.below hb)
      have HWb := Lib.hid (below_next HW.out hb)
      have c10 := B1b.out.cell0
      have c11 := B1b.out.cell1
      have c20 := B2b.out.cell0
      have c21 := B2b.out.cell1
      clear hb h1
      go_wp2_with fail
      refine (make1_any _ _ _ _ (by exact HM.out) (Nat.le_trans (limbs_len_of_lt (Nat.sub_le _ _) HX1.out) (by omega))).mono ?_
      rintro e w2 ⟨b3, A3, n3, k3, rfl, h3, hb⟩
      have HR := Lib.hid h3
      have B3c := Lib.hid (B3b.out.below hb)
      have HWc := Lib.hid (below_next HWb.out hb)
      have c30 := B3c.out.cell0
      have c31 := B3c.out.cell1
      have f30 := B3c.out.fro 0
      have f31 := B3c.out.fro 1
      clear h3 hb
      go_wp2
      exact bodyPost_ret (v := .agg #[.bool b3, .slice A3 n3 k3]) (by simp [results, Tryz.results79, go_sem, c30, c31]) rfl ⟨_, _, _, _, rfl, (by rw [zadd_far HSB.out HLE.out]; exact HR.out.store B3c.out nil_noInt _ _), below_stored HWc.out (by omega) _ _⟩
    · have HLE := Lib.hid hle
      clear hle
      go_enter Tryz.func79, Tryz.ntmps79
      go_wp2_with fail
      rw [HWE.out]
      refine (rsub_any _ _ _ _ _ (by exact H1.out) (by exact H2.out) (by omega) (by omega)).mono ?_
      rintro e w1 ⟨v1, rfl, h1, hb⟩
      rw [decide_eq_false HLE.out]
      replace H1 := Lib.hid (H1.out.below hb)
      replace H2 := Lib.hid (H2.out.below hb)
      have B1b := Lib.hid (B1.out.below hb)
      have B2b := Lib.hid (B2.out.below hb)
      have B3b := Lib.hid (B3.out.below hb)
      have HWb := Lib.hid (below_next HW.out hb)
      have c10 := B1b.out.cell0
      have c11 := B1b.out.cell1
      have c20 := B2b.out.cell0
      have c21 := B2b.out.cell1
      clear hb h1
      go_wp2_with fail
      refine (rsub_any _ _ _ _ _ (by exact H2.out) (by exact H1.out) (by omega) (by omega)).mono ?_
      rintro e w1b ⟨v1b, rfl, h1, hb⟩
      have HM := Lib.hid h1
      replace B2b := Lib.hid (B2b.out.below hb)
      replace B3b := Lib.hid (B3b.out.below hb)
      replace HWb := Lib.hid (below_next HWb.out hb)
      replace c20 := B2b.out.cell0
      replace c21 := B2b.out.cell1
      clear hb h1
      go_wp2_with fail
      refine (make1_any _ _ _ _ (by exact HM.out) (Nat.le_trans (limbs_len_of_lt (Nat.sub_le _ _) HX2.out) (by omega))).mono ?_
      rintro e w2 ⟨b3, A3, n3, k3, rfl, h3, hb⟩
      have HR := Lib.hid h3
      have B3c := Lib.hid (B3b.out.below hb)
      have HWc := Lib.hid (below_next HWb.out hb)
      have c30 := B3c.out.cell0
      have c31 := B3c.out.cell1
      have f30 := B3c.out.fro 0
      have f31 := B3c.out.fro 1
      clear h3 hb
      go_wp2
      exact bodyPost_ret (v := .agg #[.bool b3, .slice A3 n3 k3]) (by simp [results, Tryz.results79, go_sem, c30, c31]) rfl ⟨_, _, _, _, rfl, (by rw [Int.add_comm, zadd_far (fun e => HSB.out e.symm) (Nat.le_of_lt (Nat.lt_of_not_le HLE.out))]; exact HR.out.store B3c.out nil_noInt _ _), below_stored HWc.out (by omega) _ _⟩

end Go.Proofs.YtoflndeonegkpaaGreatDoor
