/- The law NaturalOrders: its walk. -/
import Derived.Test.YtelcjcgalkcadaaDoorLight
import Derived.Test.YtelcjcgalkcadaaDoorRSub
import Derived.OpenShut
namespace Go.Proofs.YtelcjcgalkcadaaDoor
open Go.RowKit

section
variable {va vb : Value} {xs ys : List Nat} {w : World}
theorem rcmp_eq (ha : NatAt w va xs) (hb : NatAt w vb ys) (h : val xs = val ys) : Calls Tryd.prog 21 #[va, vb] w (GivesInt w 0) :=
  (rcmp_below va vb xs ys w ha hb).mono fun _ _ ⟨he, hB, _⟩ => ⟨by rw [he, ord_eq h], hB⟩
theorem rcmp_lt (ha : NatAt w va xs) (hb : NatAt w vb ys) (h : val xs < val ys) : Calls Tryd.prog 21 #[va, vb] w (GivesInt w (-1)) :=
  (rcmp_below va vb xs ys w ha hb).mono fun _ _ ⟨he, hB, _⟩ => ⟨by rw [he, ord_lt h], hB⟩
theorem rcmp_gt (ha : NatAt w va xs) (hb : NatAt w vb ys) (h : val ys < val xs) : Calls Tryd.prog 21 #[va, vb] w (GivesInt w 1) :=
  (rcmp_below va vb xs ys w ha hb).mono fun _ _ ⟨he, hB, _⟩ => ⟨by rw [he, ord_gt h], hB⟩
end

set_option maxRecDepth 100000 in
set_option maxHeartbeats 4000000 in
theorem walk_NaturalOrders (v_a v_b : Value) (z : Int) (l_a l_b : List Nat) (w : World) (hz : (Lit.int .u64 z).wf = true) (h_a : NatAt w v_a l_a) (h_b : NatAt w v_b l_b) (htab : Tab w) : Calls Tryd.prog 3 #[.int .u64 z, v_a, v_b] w (GivesTrue w) := by
  obtain ⟨n, rfl, hn⟩ : ∃ n : Nat, z = (n : Int) ∧ n < 18446744073709551616 := by have := Go.bounds_u64 hz; exact ⟨z.toNat, by omega, by omega⟩
  clear hz
  have HT := Lib.hid htab
  have H_a := Lib.hid h_a
  have H_b := Lib.hid h_b
  clear htab h_a h_b
  by_cases hl : l_a.length ≤ 24 ∧ l_b.length ≤ 24
  · obtain ⟨n_a, n_b⟩ := hl
    have s_a : Sz (val l_a) 24 := H_a.out.sz n_a
    have s_b : Sz (val l_b) 24 := H_b.out.sz n_b
    rcases Nat.lt_trichotomy (val l_a) (val l_b) with hc | hc | hc
    · have HC := Lib.hid hc
      clear hc
      go_enter Tryd.func3, Tryd.ntmps3
      go_wp2_with fail
      refine (light_yes _ _ _ _ _ (by exact H_a.out) (by exact H_b.out) n_a n_b).mono ?_
      rintro e w0 ⟨rfl, rfl⟩
      go_wp2_with fail
      refine (of_any _ _ hn).mono ?_
      rintro e w1 ⟨v_n1, rfl, h_n1, hb⟩
      have H_n1 := Lib.hid h_n1
      clear h_n1
      replace H_a := Lib.hid (H_a.out.below hb)
      replace H_b := Lib.hid (H_b.out.below hb)
      have hB := hb
      clear hb
      go_wp2_with fail
      refine (rof_any _ _ hn).mono ?_
      rintro e w2 ⟨v_n2, rfl, h_n2, hb⟩
      have H_n2 := Lib.hid h_n2
      clear h_n2
      replace H_a := Lib.hid (H_a.out.below hb)
      replace H_b := Lib.hid (H_b.out.below hb)
      replace H_n1 := Lib.hid (H_n1.out.below hb)
      replace hB := below_next hB hb
      clear hb
      go_wp2_with fail
      refine (same_eq _ _ _ _ _ (by exact H_n1.out) (by exact H_n2.out) rfl).mono ?_
      rintro e w3 ⟨rfl, hb⟩
      replace H_a := Lib.hid (H_a.out.below hb)
      replace H_b := Lib.hid (H_b.out.below hb)
      replace H_n1 := Lib.hid (H_n1.out.below hb)
      replace H_n2 := Lib.hid (H_n2.out.below hb)
      replace hB := below_next hB hb
      clear hb
      clear H_n1
      clear H_n2
      go_wp2_with fail
      refine (norm_any _ _ _ (by exact H_a.out) (by omega)).mono ?_
      rintro e w4 ⟨v_m1, rfl, h_m1, hb⟩
      try simp only [val_limbs] at h_m1
      have H_m1 := Lib.hid h_m1
      clear h_m1
      have s_m1 : Sz (val l_a) 24 := s_a
      replace H_a := Lib.hid (H_a.out.below hb)
      replace H_b := Lib.hid (H_b.out.below hb)
      replace hB := below_next hB hb
      clear hb
      go_wp2_with fail
      refine (rnorm_any _ _ _ (by exact H_a.out) (by omega)).mono ?_
      rintro e w5 ⟨v_m2, rfl, h_m2, hb⟩
      try simp only [val_limbs] at h_m2
      have H_m2 := Lib.hid h_m2
      clear h_m2
      have s_m2 : Sz (val l_a) 24 := s_a
      replace H_a := Lib.hid (H_a.out.below hb)
      replace H_b := Lib.hid (H_b.out.below hb)
      replace H_m1 := Lib.hid (H_m1.out.below hb)
      replace hB := below_next hB hb
      clear hb
      go_wp2_with fail
      refine (same_eq _ _ _ _ _ (by exact H_m1.out) (by exact H_m2.out) rfl).mono ?_
      rintro e w6 ⟨rfl, hb⟩
      replace H_a := Lib.hid (H_a.out.below hb)
      replace H_b := Lib.hid (H_b.out.below hb)
      replace H_m1 := Lib.hid (H_m1.out.below hb)
      replace H_m2 := Lib.hid (H_m2.out.below hb)
      replace hB := below_next hB hb
      clear hb
      clear H_m1
      clear H_m2
      go_wp2_with fail
      refine (cmp_lt (by exact H_a.out) (by exact H_b.out) (by (try simp only [val_limbs]); exact HC.out)).mono ?_
      rintro e w7 ⟨rfl, hb⟩
      replace H_a := Lib.hid (H_a.out.below hb)
      replace H_b := Lib.hid (H_b.out.below hb)
      replace hB := below_next hB hb
      clear hb
      go_wp2_with fail
      refine (rcmp_lt (by exact H_a.out) (by exact H_b.out) (by exact HC.out)).mono ?_
      rintro e w8 ⟨rfl, hb⟩
      replace H_a := Lib.hid (H_a.out.below hb)
      replace H_b := Lib.hid (H_b.out.below hb)
      replace hB := below_next hB hb
      clear hb
      go_wp2_with fail
      refine (cmp_gt (by exact H_b.out) (by exact H_a.out) (by (try simp only [val_limbs]); exact HC.out)).mono ?_
      rintro e w9 ⟨rfl, hb⟩
      replace H_a := Lib.hid (H_a.out.below hb)
      replace H_b := Lib.hid (H_b.out.below hb)
      replace hB := below_next hB hb
      clear hb
      go_wp2_with fail
      refine (cmp_lt (by exact H_a.out) (by exact H_b.out) (by (try simp only [val_limbs]); exact HC.out)).mono ?_
      rintro e w10 ⟨rfl, hb⟩
      replace H_a := Lib.hid (H_a.out.below hb)
      replace H_b := Lib.hid (H_b.out.below hb)
      replace hB := below_next hB hb
      clear hb
      go_wp2_with fail
      refine (alive_any _ (by exact HT.out.below hB)).mono ?_
      rintro e w11 ⟨rfl, hb⟩
      replace H_a := Lib.hid (H_a.out.below hb)
      replace H_b := Lib.hid (H_b.out.below hb)
      replace hB := below_next hB hb
      clear hb
      go_wp2
      go_ret
      exact ⟨rfl, hB⟩
    · have HC := Lib.hid hc
      clear hc
      go_enter Tryd.func3, Tryd.ntmps3
      go_wp2_with fail
      refine (light_yes _ _ _ _ _ (by exact H_a.out) (by exact H_b.out) n_a n_b).mono ?_
      rintro e w0 ⟨rfl, rfl⟩
      go_wp2_with fail
      refine (of_any _ _ hn).mono ?_
      rintro e w1 ⟨v_n1, rfl, h_n1, hb⟩
      have H_n1 := Lib.hid h_n1
      clear h_n1
      replace H_a := Lib.hid (H_a.out.below hb)
      replace H_b := Lib.hid (H_b.out.below hb)
      have hB := hb
      clear hb
      go_wp2_with fail
      refine (rof_any _ _ hn).mono ?_
      rintro e w2 ⟨v_n2, rfl, h_n2, hb⟩
      have H_n2 := Lib.hid h_n2
      clear h_n2
      replace H_a := Lib.hid (H_a.out.below hb)
      replace H_b := Lib.hid (H_b.out.below hb)
      replace H_n1 := Lib.hid (H_n1.out.below hb)
      replace hB := below_next hB hb
      clear hb
      go_wp2_with fail
      refine (same_eq _ _ _ _ _ (by exact H_n1.out) (by exact H_n2.out) rfl).mono ?_
      rintro e w3 ⟨rfl, hb⟩
      replace H_a := Lib.hid (H_a.out.below hb)
      replace H_b := Lib.hid (H_b.out.below hb)
      replace H_n1 := Lib.hid (H_n1.out.below hb)
      replace H_n2 := Lib.hid (H_n2.out.below hb)
      replace hB := below_next hB hb
      clear hb
      clear H_n1
      clear H_n2
      go_wp2_with fail
      refine (norm_any _ _ _ (by exact H_a.out) (by omega)).mono ?_
      rintro e w4 ⟨v_m1, rfl, h_m1, hb⟩
      try simp only [val_limbs] at h_m1
      have H_m1 := Lib.hid h_m1
      clear h_m1
      have s_m1 : Sz (val l_a) 24 := s_a
      replace H_a := Lib.hid (H_a.out.below hb)
      replace H_b := Lib.hid (H_b.out.below hb)
      replace hB := below_next hB hb
      clear hb
      go_wp2_with fail
      refine (rnorm_any _ _ _ (by exact H_a.out) (by omega)).mono ?_
      rintro e w5 ⟨v_m2, rfl, h_m2, hb⟩
      try simp only [val_limbs] at h_m2
      have H_m2 := Lib.hid h_m2
      clear h_m2
      have s_m2 : Sz (val l_a) 24 := s_a
      replace H_a := Lib.hid (H_a.out.below hb)
      replace H_b := Lib.hid (H_b.out.below hb)
      replace H_m1 := Lib.hid (H_m1.out.below hb)
      replace hB := below_next hB hb
      clear hb
      go_wp2_with fail
      refine (same_eq _ _ _ _ _ (by exact H_m1.out) (by exact H_m2.out) rfl).mono ?_
      rintro e w6 ⟨rfl, hb⟩
      replace H_a := Lib.hid (H_a.out.below hb)
      replace H_b := Lib.hid (H_b.out.below hb)
      replace H_m1 := Lib.hid (H_m1.out.below hb)
      replace H_m2 := Lib.hid (H_m2.out.below hb)
      replace hB := below_next hB hb
      clear hb
      clear H_m1
      clear H_m2
      go_wp2_with fail
      refine (cmp_eq (by exact H_a.out) (by exact H_b.out) (by (try simp only [val_limbs]); exact HC.out)).mono ?_
      rintro e w7 ⟨rfl, hb⟩
      replace H_a := Lib.hid (H_a.out.below hb)
      replace H_b := Lib.hid (H_b.out.below hb)
      replace hB := below_next hB hb
      clear hb
      go_wp2_with fail
      refine (rcmp_eq (by exact H_a.out) (by exact H_b.out) (by exact HC.out)).mono ?_
      rintro e w8 ⟨rfl, hb⟩
      replace H_a := Lib.hid (H_a.out.below hb)
      replace H_b := Lib.hid (H_b.out.below hb)
      replace hB := below_next hB hb
      clear hb
      go_wp2_with fail
      refine (cmp_eq (by exact H_b.out) (by exact H_a.out) (by (try simp only [val_limbs]); exact HC.out.symm)).mono ?_
      rintro e w9 ⟨rfl, hb⟩
      replace H_a := Lib.hid (H_a.out.below hb)
      replace H_b := Lib.hid (H_b.out.below hb)
      replace hB := below_next hB hb
      clear hb
      go_wp2_with fail
      refine (cmp_eq (by exact H_a.out) (by exact H_b.out) (by (try simp only [val_limbs]); exact HC.out)).mono ?_
      rintro e w10 ⟨rfl, hb⟩
      replace H_a := Lib.hid (H_a.out.below hb)
      replace H_b := Lib.hid (H_b.out.below hb)
      replace hB := below_next hB hb
      clear hb
      go_wp2_with fail
      refine (alive_any _ (by exact HT.out.below hB)).mono ?_
      rintro e w11 ⟨rfl, hb⟩
      replace H_a := Lib.hid (H_a.out.below hb)
      replace H_b := Lib.hid (H_b.out.below hb)
      replace hB := below_next hB hb
      clear hb
      go_wp2
      go_ret
      exact ⟨rfl, hB⟩
    · have HC := Lib.hid hc
      clear hc
      go_enter Tryd.func3, Tryd.ntmps3
      go_wp2_with fail
      refine (light_yes _ _ _ _ _ (by exact H_a.out) (by exact H_b.out) n_a n_b).mono ?_
      rintro e w0 ⟨rfl, rfl⟩
      go_wp2_with fail
      refine (of_any _ _ hn).mono ?_
      rintro e w1 ⟨v_n1, rfl, h_n1, hb⟩
      have H_n1 := Lib.hid h_n1
      clear h_n1
      replace H_a := Lib.hid (H_a.out.below hb)
      replace H_b := Lib.hid (H_b.out.below hb)
      have hB := hb
      clear hb
      go_wp2_with fail
      refine (rof_any _ _ hn).mono ?_
      rintro e w2 ⟨v_n2, rfl, h_n2, hb⟩
      have H_n2 := Lib.hid h_n2
      clear h_n2
      replace H_a := Lib.hid (H_a.out.below hb)
      replace H_b := Lib.hid (H_b.out.below hb)
      replace H_n1 := Lib.hid (H_n1.out.below hb)
      replace hB := below_next hB hb
      clear hb
      go_wp2_with fail
      refine (same_eq _ _ _ _ _ (by exact H_n1.out) (by exact H_n2.out) rfl).mono ?_
      rintro e w3 ⟨rfl, hb⟩
      replace H_a := Lib.hid (H_a.out.below hb)
      replace H_b := Lib.hid (H_b.out.below hb)
      replace H_n1 := Lib.hid (H_n1.out.below hb)
      replace H_n2 := Lib.hid (H_n2.out.below hb)
      replace hB := below_next hB hb
      clear hb
      clear H_n1
      clear H_n2
      go_wp2_with fail
      refine (norm_any _ _ _ (by exact H_a.out) (by omega)).mono ?_
      rintro e w4 ⟨v_m1, rfl, h_m1, hb⟩
      try simp only [val_limbs] at h_m1
      have H_m1 := Lib.hid h_m1
      clear h_m1
      have s_m1 : Sz (val l_a) 24 := s_a
      replace H_a := Lib.hid (H_a.out.below hb)
      replace H_b := Lib.hid (H_b.out.below hb)
      replace hB := below_next hB hb
      clear hb
      go_wp2_with fail
      refine (rnorm_any _ _ _ (by exact H_a.out) (by omega)).mono ?_
      rintro e w5 ⟨v_m2, rfl, h_m2, hb⟩
      try simp only [val_limbs] at h_m2
      have H_m2 := Lib.hid h_m2
      clear h_m2
      have s_m2 : Sz (val l_a) 24 := s_a
      replace H_a := Lib.hid (H_a.out.below hb)
      replace H_b := Lib.hid (H_b.out.below hb)
      replace H_m1 := Lib.hid (H_m1.out.below hb)
      replace hB := below_next hB hb
      clear hb
      go_wp2_with fail
      refine (same_eq _ _ _ _ _ (by exact H_m1.out) (by exact H_m2.out) rfl).mono ?_
      rintro e w6 ⟨rfl, hb⟩
      replace H_a := Lib.hid (H_a.out.below hb)
      replace H_b := Lib.hid (H_b.out.below hb)
      replace H_m1 := Lib.hid (H_m1.out.below hb)
      replace H_m2 := Lib.hid (H_m2.out.below hb)
      replace hB := below_next hB hb
      clear hb
      clear H_m1
      clear H_m2
      go_wp2_with fail
      refine (cmp_gt (by exact H_a.out) (by exact H_b.out) (by (try simp only [val_limbs]); exact HC.out)).mono ?_
      rintro e w7 ⟨rfl, hb⟩
      replace H_a := Lib.hid (H_a.out.below hb)
      replace H_b := Lib.hid (H_b.out.below hb)
      replace hB := below_next hB hb
      clear hb
      go_wp2_with fail
      refine (rcmp_gt (by exact H_a.out) (by exact H_b.out) (by exact HC.out)).mono ?_
      rintro e w8 ⟨rfl, hb⟩
      replace H_a := Lib.hid (H_a.out.below hb)
      replace H_b := Lib.hid (H_b.out.below hb)
      replace hB := below_next hB hb
      clear hb
      go_wp2_with fail
      refine (cmp_lt (by exact H_b.out) (by exact H_a.out) (by (try simp only [val_limbs]); exact HC.out)).mono ?_
      rintro e w9 ⟨rfl, hb⟩
      replace H_a := Lib.hid (H_a.out.below hb)
      replace H_b := Lib.hid (H_b.out.below hb)
      replace hB := below_next hB hb
      clear hb
      go_wp2_with fail
      refine (cmp_gt (by exact H_a.out) (by exact H_b.out) (by (try simp only [val_limbs]); exact HC.out)).mono ?_
      rintro e w10 ⟨rfl, hb⟩
      replace H_a := Lib.hid (H_a.out.below hb)
      replace H_b := Lib.hid (H_b.out.below hb)
      replace hB := below_next hB hb
      clear hb
      go_wp2_with fail
      refine (alive_any _ (by exact HT.out.below hB)).mono ?_
      rintro e w11 ⟨rfl, hb⟩
      replace H_a := Lib.hid (H_a.out.below hb)
      replace H_b := Lib.hid (H_b.out.below hb)
      replace hB := below_next hB hb
      clear hb
      go_wp2
      go_ret
      exact ⟨rfl, hB⟩
  · go_enter Tryd.func3, Tryd.ntmps3
    go_wp2_with fail
    refine (light_no _ _ _ _ _ (by exact H_a.out) (by exact H_b.out) hl).mono ?_
    rintro e w0 ⟨rfl, rfl⟩
    go_wp2_with fail
    refine (alive_any _ (by exact HT.out)).mono ?_
    rintro e w1 ⟨rfl, hb⟩
    have hB := hb
    clear hb
    go_wp2
    go_ret
    exact ⟨rfl, hB⟩
end Go.Proofs.YtelcjcgalkcadaaDoor
