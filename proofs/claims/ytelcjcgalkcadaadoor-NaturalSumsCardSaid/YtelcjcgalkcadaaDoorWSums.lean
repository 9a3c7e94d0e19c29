/- The law NaturalSums: its walk. -/
import Derived.Test.YtelcjcgalkcadaaDoorLight
import Derived.Test.YtelcjcgalkcadaaDoorRSub
namespace Go.Proofs.YtelcjcgalkcadaaDoor
open Go.RowKit

set_option maxRecDepth 100000 in
set_option maxHeartbeats 4000000 in
theorem walk_NaturalSums (v_a v_b : Value) (l_a l_b : List Nat) (w : World) (h_a : NatAt w v_a l_a) (h_b : NatAt w v_b l_b) (htab : Tab w) : Calls Tryd.prog 4 #[v_a, v_b] w (GivesTrue w) := by
  have HT := Lib.hid htab
  have H_a := Lib.hid h_a
  have H_b := Lib.hid h_b
  clear htab h_a h_b
  by_cases hl : l_a.length ≤ 24 ∧ l_b.length ≤ 24
  · obtain ⟨n_a, n_b⟩ := hl
    have s_a : Sz (val l_a) 24 := H_a.out.sz n_a
    have s_b : Sz (val l_b) 24 := H_b.out.sz n_b
    by_cases hc : val l_b ≤ val l_a
    · have HC := Lib.hid hc
      clear hc
      go_enter Tryd.func4, Tryd.ntmps4
      go_wp2_with fail
      refine (light_yes _ _ _ _ _ (by exact H_a.out) (by exact H_b.out) n_a n_b).mono ?_
      rintro e w0 ⟨rfl, rfl⟩
      go_wp2_with fail
      refine (sub_any _ _ _ _ _ (by exact H_a.out) (by exact H_b.out) (by omega)).mono ?_
      rintro e w1 ⟨v_x, rfl, h_x, hb⟩
      rw [decide_eq_true HC.out]
      try simp only [val_limbs] at h_x
      have H_x := Lib.hid h_x
      clear h_x
      have s_x : Sz (val l_a - val l_b) 24 := s_a.sub _
      replace H_a := Lib.hid (H_a.out.below hb)
      replace H_b := Lib.hid (H_b.out.below hb)
      have hB := hb
      clear hb
      go_wp2_with fail
      refine (rsub_any _ _ _ _ _ (by exact H_a.out) (by exact H_b.out) (by omega) (by omega)).mono ?_
      rintro e w2 ⟨v_y, rfl, h_y, hb⟩
      rw [decide_eq_true HC.out]
      try simp only [val_limbs] at h_y
      have H_y := Lib.hid h_y
      clear h_y
      have s_y : Sz (val l_a - val l_b) 24 := s_a.sub _
      replace H_a := Lib.hid (H_a.out.below hb)
      replace H_b := Lib.hid (H_b.out.below hb)
      replace H_x := Lib.hid (H_x.out.below hb)
      replace hB := below_next hB hb
      clear hb
      go_wp2_with fail
      refine (add_any _ _ _ _ _ (by exact H_a.out) (by exact H_b.out) (by omega) (by omega)).mono ?_
      rintro e w3 ⟨v_s1, rfl, h_s1, hb⟩
      try simp only [val_limbs] at h_s1
      have H_s1 := Lib.hid h_s1
      clear h_s1
      have s_s1 : Sz ((val l_a) + (val l_b)) 25 := s_a.add s_b
      replace H_a := Lib.hid (H_a.out.below hb)
      replace H_b := Lib.hid (H_b.out.below hb)
      replace H_x := Lib.hid (H_x.out.below hb)
      replace H_y := Lib.hid (H_y.out.below hb)
      replace hB := below_next hB hb
      clear hb
      go_wp2_with fail
      refine (radd_any _ _ _ _ _ (by exact H_a.out) (by exact H_b.out) (by omega) (by omega)).mono ?_
      rintro e w4 ⟨v_s2, rfl, h_s2, hb⟩
      try simp only [val_limbs] at h_s2
      have H_s2 := Lib.hid h_s2
      clear h_s2
      have s_s2 : Sz (val l_a + val l_b) 25 := s_a.add s_b
      replace H_a := Lib.hid (H_a.out.below hb)
      replace H_b := Lib.hid (H_b.out.below hb)
      replace H_x := Lib.hid (H_x.out.below hb)
      replace H_y := Lib.hid (H_y.out.below hb)
      replace H_s1 := Lib.hid (H_s1.out.below hb)
      replace hB := below_next hB hb
      clear hb
      go_wp2_with fail
      refine (same_eq _ _ _ _ _ (by exact H_s1.out) (by exact H_s2.out) rfl).mono ?_
      rintro e w5 ⟨rfl, hb⟩
      replace H_a := Lib.hid (H_a.out.below hb)
      replace H_b := Lib.hid (H_b.out.below hb)
      replace H_x := Lib.hid (H_x.out.below hb)
      replace H_y := Lib.hid (H_y.out.below hb)
      replace H_s1 := Lib.hid (H_s1.out.below hb)
      replace H_s2 := Lib.hid (H_s2.out.below hb)
      replace hB := below_next hB hb
      clear hb
      clear H_s1
      clear H_s2
      go_wp2_with fail
      refine (same_eq _ _ _ _ _ (by exact H_x.out) (by exact H_y.out) rfl).mono ?_
      rintro e w6 ⟨rfl, hb⟩
      replace H_a := Lib.hid (H_a.out.below hb)
      replace H_b := Lib.hid (H_b.out.below hb)
      replace H_x := Lib.hid (H_x.out.below hb)
      replace H_y := Lib.hid (H_y.out.below hb)
      replace hB := below_next hB hb
      clear hb
      clear H_x
      clear H_y
      go_wp2_with fail
      refine (alive_any _ (by exact HT.out.below hB)).mono ?_
      rintro e w7 ⟨rfl, hb⟩
      replace H_a := Lib.hid (H_a.out.below hb)
      replace H_b := Lib.hid (H_b.out.below hb)
      replace hB := below_next hB hb
      clear hb
      go_wp2
      go_ret
      exact ⟨rfl, hB⟩
    · have HC := Lib.hid hc
      clear hc
      go_enter Tryd.func4, Tryd.ntmps4
      go_wp2_with fail
      refine (light_yes _ _ _ _ _ (by exact H_a.out) (by exact H_b.out) n_a n_b).mono ?_
      rintro e w0 ⟨rfl, rfl⟩
      go_wp2_with fail
      refine (sub_any _ _ _ _ _ (by exact H_a.out) (by exact H_b.out) (by omega)).mono ?_
      rintro e w1 ⟨v_x, rfl, h_x, hb⟩
      rw [decide_eq_false HC.out]
      try simp only [val_limbs] at h_x
      have H_x := Lib.hid h_x
      clear h_x
      have s_x : Sz (val l_a - val l_b) 24 := s_a.sub _
      replace H_a := Lib.hid (H_a.out.below hb)
      replace H_b := Lib.hid (H_b.out.below hb)
      have hB := hb
      clear hb
      go_wp2_with fail
      refine (rsub_any _ _ _ _ _ (by exact H_a.out) (by exact H_b.out) (by omega) (by omega)).mono ?_
      rintro e w2 ⟨v_y, rfl, h_y, hb⟩
      rw [decide_eq_false HC.out]
      try simp only [val_limbs] at h_y
      have H_y := Lib.hid h_y
      clear h_y
      have s_y : Sz (val l_a - val l_b) 24 := s_a.sub _
      replace H_a := Lib.hid (H_a.out.below hb)
      replace H_b := Lib.hid (H_b.out.below hb)
      replace H_x := Lib.hid (H_x.out.below hb)
      replace hB := below_next hB hb
      clear hb
      go_wp2_with fail
      refine (add_any _ _ _ _ _ (by exact H_a.out) (by exact H_b.out) (by omega) (by omega)).mono ?_
      rintro e w3 ⟨v_s1, rfl, h_s1, hb⟩
      try simp only [val_limbs] at h_s1
      have H_s1 := Lib.hid h_s1
      clear h_s1
      have s_s1 : Sz ((val l_a) + (val l_b)) 25 := s_a.add s_b
      replace H_a := Lib.hid (H_a.out.below hb)
      replace H_b := Lib.hid (H_b.out.below hb)
      replace H_x := Lib.hid (H_x.out.below hb)
      replace H_y := Lib.hid (H_y.out.below hb)
      replace hB := below_next hB hb
      clear hb
      go_wp2_with fail
      refine (radd_any _ _ _ _ _ (by exact H_a.out) (by exact H_b.out) (by omega) (by omega)).mono ?_
      rintro e w4 ⟨v_s2, rfl, h_s2, hb⟩
      try simp only [val_limbs] at h_s2
      have H_s2 := Lib.hid h_s2
      clear h_s2
      have s_s2 : Sz (val l_a + val l_b) 25 := s_a.add s_b
      replace H_a := Lib.hid (H_a.out.below hb)
      replace H_b := Lib.hid (H_b.out.below hb)
      replace H_x := Lib.hid (H_x.out.below hb)
      replace H_y := Lib.hid (H_y.out.below hb)
      replace H_s1 := Lib.hid (H_s1.out.below hb)
      replace hB := below_next hB hb
      clear hb
      go_wp2_with fail
      refine (same_eq _ _ _ _ _ (by exact H_s1.out) (by exact H_s2.out) rfl).mono ?_
      rintro e w5 ⟨rfl, hb⟩
      replace H_a := Lib.hid (H_a.out.below hb)
      replace H_b := Lib.hid (H_b.out.below hb)
      replace H_x := Lib.hid (H_x.out.below hb)
      replace H_y := Lib.hid (H_y.out.below hb)
      replace H_s1 := Lib.hid (H_s1.out.below hb)
      replace H_s2 := Lib.hid (H_s2.out.below hb)
      replace hB := below_next hB hb
      clear hb
      clear H_s1
      clear H_s2
      go_wp2_with fail
      refine (same_eq _ _ _ _ _ (by exact H_x.out) (by exact H_y.out) rfl).mono ?_
      rintro e w6 ⟨rfl, hb⟩
      replace H_a := Lib.hid (H_a.out.below hb)
      replace H_b := Lib.hid (H_b.out.below hb)
      replace H_x := Lib.hid (H_x.out.below hb)
      replace H_y := Lib.hid (H_y.out.below hb)
      replace hB := below_next hB hb
      clear hb
      clear H_x
      clear H_y
      go_wp2_with fail
      refine (alive_any _ (by exact HT.out.below hB)).mono ?_
      rintro e w7 ⟨rfl, hb⟩
      replace H_a := Lib.hid (H_a.out.below hb)
      replace H_b := Lib.hid (H_b.out.below hb)
      replace hB := below_next hB hb
      clear hb
      go_wp2
      go_ret
      exact ⟨rfl, hB⟩
  · go_enter Tryd.func4, Tryd.ntmps4
    go_wp2_with fail
    refine (light_no _ _ _ _ _ (by exact H_a.out) (by exact H_b.out) hl).mono ?_
    rintro e w0 ⟨rfl, rfl⟩
    go_wp2_with fail
    refine (alive_any _ (by exact HT.out)).mono ?_
    rintro e w1 ⟨rfl, hb⟩
    have hB := hb
    clear hb
    go_wp2
    go_ret
    exact ⟨rfl, hB⟩
end Go.Proofs.YtelcjcgalkcadaaDoor
