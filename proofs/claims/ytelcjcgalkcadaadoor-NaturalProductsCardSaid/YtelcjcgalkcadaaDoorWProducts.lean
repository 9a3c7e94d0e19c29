/- The law NaturalProducts: its walk. -/
import Derived.Test.YtelcjcgalkcadaaDoorLight
import Derived.Test.YtelcjcgalkcadaaDoorRGcd
namespace Go.Proofs.YtelcjcgalkcadaaDoor
open Go.RowKit

set_option maxRecDepth 100000 in
set_option maxHeartbeats 4000000 in
theorem walk_NaturalProducts (v_a v_b : Value) (l_a l_b : List Nat) (w : World) (h_a : NatAt w v_a l_a) (h_b : NatAt w v_b l_b) (htab : Tab w) : Calls Tryd.prog 5 #[v_a, v_b] w (GivesTrue w) := by
  have HT := Lib.hid htab
  have H_a := Lib.hid h_a
  have H_b := Lib.hid h_b
  clear htab h_a h_b
  by_cases hl : l_a.length ≤ 24 ∧ l_b.length ≤ 24
  · obtain ⟨n_a, n_b⟩ := hl
    have s_a : Sz (val l_a) 24 := H_a.out.sz n_a
    have s_b : Sz (val l_b) 24 := H_b.out.sz n_b
    by_cases hc : val l_b = 0
    · have HC := Lib.hid hc
      clear hc
      go_enter Tryd.func5, Tryd.ntmps5
      go_wp2_with fail
      refine (light_yes _ _ _ _ _ (by exact H_a.out) (by exact H_b.out) n_a n_b).mono ?_
      rintro e w0 ⟨rfl, rfl⟩
      go_wp2_with fail
      refine (divmod_zero _ _ _ _ _ (by exact H_a.out) (by exact H_b.out) HC.out).mono ?_
      rintro e w1 ⟨v_q, v_r, rfl, h_q, h_r, hb⟩
      have H_q := Lib.hid h_q
      clear h_q
      have H_r := Lib.hid h_r
      clear h_r
      replace H_a := Lib.hid (H_a.out.below hb)
      replace H_b := Lib.hid (H_b.out.below hb)
      have hB := hb
      clear hb
      go_wp2_with fail
      refine (rdivmod_zero _ _ _ _ (by exact H_b.out) (by omega) HC.out).mono ?_
      rintro e w2 ⟨v_x, v_y, rfl, h_x, h_y, hb⟩
      have H_x := Lib.hid h_x
      clear h_x
      have H_y := Lib.hid h_y
      clear h_y
      replace H_a := Lib.hid (H_a.out.below hb)
      replace H_b := Lib.hid (H_b.out.below hb)
      replace H_q := Lib.hid (H_q.out.below hb)
      replace H_r := Lib.hid (H_r.out.below hb)
      replace hB := below_next hB hb
      clear hb
      go_wp2_with fail
      refine (mul_any _ _ _ _ _ (by exact H_a.out) (by exact H_b.out) (by omega) (by omega)).mono ?_
      rintro e w3 ⟨v_s1, rfl, h_s1, hb⟩
      try simp only [val_limbs] at h_s1
      have H_s1 := Lib.hid h_s1
      clear h_s1
      have s_s1 : Sz ((val l_a) * (val l_b)) 48 := s_a.mul s_b
      replace H_a := Lib.hid (H_a.out.below hb)
      replace H_b := Lib.hid (H_b.out.below hb)
      replace H_q := Lib.hid (H_q.out.below hb)
      replace H_r := Lib.hid (H_r.out.below hb)
      replace H_x := Lib.hid (H_x.out.below hb)
      replace H_y := Lib.hid (H_y.out.below hb)
      replace hB := below_next hB hb
      clear hb
      go_wp2_with fail
      refine (rmul_any _ _ _ _ _ (by exact H_a.out) (by exact H_b.out) (by omega) (by omega)).mono ?_
      rintro e w4 ⟨v_s2, rfl, h_s2, hb⟩
      try simp only [val_limbs] at h_s2
      have H_s2 := Lib.hid h_s2
      clear h_s2
      have s_s2 : Sz (val l_a * val l_b) 48 := s_a.mul s_b
      replace H_a := Lib.hid (H_a.out.below hb)
      replace H_b := Lib.hid (H_b.out.below hb)
      replace H_q := Lib.hid (H_q.out.below hb)
      replace H_r := Lib.hid (H_r.out.below hb)
      replace H_x := Lib.hid (H_x.out.below hb)
      replace H_y := Lib.hid (H_y.out.below hb)
      replace H_s1 := Lib.hid (H_s1.out.below hb)
      replace hB := below_next hB hb
      clear hb
      go_wp2_with fail
      refine (same_eq _ _ _ _ _ (by exact H_s1.out) (by exact H_s2.out) rfl).mono ?_
      rintro e w5 ⟨rfl, hb⟩
      replace H_a := Lib.hid (H_a.out.below hb)
      replace H_b := Lib.hid (H_b.out.below hb)
      replace H_q := Lib.hid (H_q.out.below hb)
      replace H_r := Lib.hid (H_r.out.below hb)
      replace H_x := Lib.hid (H_x.out.below hb)
      replace H_y := Lib.hid (H_y.out.below hb)
      replace H_s1 := Lib.hid (H_s1.out.below hb)
      replace H_s2 := Lib.hid (H_s2.out.below hb)
      replace hB := below_next hB hb
      clear hb
      clear H_s1
      clear H_s2
      go_wp2_with fail
      refine (same_eq _ _ _ _ _ (by exact H_q.out) (by exact H_x.out) rfl).mono ?_
      rintro e w6 ⟨rfl, hb⟩
      replace H_a := Lib.hid (H_a.out.below hb)
      replace H_b := Lib.hid (H_b.out.below hb)
      replace H_q := Lib.hid (H_q.out.below hb)
      replace H_r := Lib.hid (H_r.out.below hb)
      replace H_x := Lib.hid (H_x.out.below hb)
      replace H_y := Lib.hid (H_y.out.below hb)
      replace hB := below_next hB hb
      clear hb
      clear H_q
      clear H_x
      go_wp2_with fail
      refine (same_eq _ _ _ _ _ (by exact H_r.out) (by exact H_y.out) rfl).mono ?_
      rintro e w7 ⟨rfl, hb⟩
      replace H_a := Lib.hid (H_a.out.below hb)
      replace H_b := Lib.hid (H_b.out.below hb)
      replace H_r := Lib.hid (H_r.out.below hb)
      replace H_y := Lib.hid (H_y.out.below hb)
      replace hB := below_next hB hb
      clear hb
      clear H_r
      clear H_y
      go_wp2_with fail
      refine (alive_any _ (by exact HT.out.below hB)).mono ?_
      rintro e w8 ⟨rfl, hb⟩
      replace H_a := Lib.hid (H_a.out.below hb)
      replace H_b := Lib.hid (H_b.out.below hb)
      replace hB := below_next hB hb
      clear hb
      go_wp2
      go_ret
      exact ⟨rfl, hB⟩
    · have HC := Lib.hid hc
      clear hc
      go_enter Tryd.func5, Tryd.ntmps5
      go_wp2_with fail
      refine (light_yes _ _ _ _ _ (by exact H_a.out) (by exact H_b.out) n_a n_b).mono ?_
      rintro e w0 ⟨rfl, rfl⟩
      go_wp2_with fail
      refine (divmod_any _ _ _ _ _ (by exact H_a.out) (by exact H_b.out) (by omega) (by omega) HC.out).mono ?_
      rintro e w1 ⟨v_q, v_r, rfl, h_q, h_r, hb⟩
      try simp only [val_limbs] at h_q
      have H_q := Lib.hid h_q
      clear h_q
      have s_q : Sz (val l_a / val l_b) 24 := s_a.div _
      try simp only [val_limbs] at h_r
      have H_r := Lib.hid h_r
      clear h_r
      have s_r : Sz (val l_a % val l_b) 24 := s_a.mod _
      replace H_a := Lib.hid (H_a.out.below hb)
      replace H_b := Lib.hid (H_b.out.below hb)
      have hB := hb
      clear hb
      go_wp2_with fail
      refine (rdivmod_any _ _ _ _ _ (by exact H_a.out) (by exact H_b.out) (by omega) (by omega) HC.out).mono ?_
      rintro e w2 ⟨v_x, v_y, rfl, h_x, h_y, hb⟩
      try simp only [val_limbs] at h_x
      have H_x := Lib.hid h_x
      clear h_x
      have s_x : Sz (val l_a / val l_b) 24 := s_a.div _
      try simp only [val_limbs] at h_y
      have H_y := Lib.hid h_y
      clear h_y
      have s_y : Sz (val l_a % val l_b) 24 := s_a.mod _
      replace H_a := Lib.hid (H_a.out.below hb)
      replace H_b := Lib.hid (H_b.out.below hb)
      replace H_q := Lib.hid (H_q.out.below hb)
      replace H_r := Lib.hid (H_r.out.below hb)
      replace hB := below_next hB hb
      clear hb
      go_wp2_with fail
      refine (mul_any _ _ _ _ _ (by exact H_a.out) (by exact H_b.out) (by omega) (by omega)).mono ?_
      rintro e w3 ⟨v_s1, rfl, h_s1, hb⟩
      try simp only [val_limbs] at h_s1
      have H_s1 := Lib.hid h_s1
      clear h_s1
      have s_s1 : Sz ((val l_a) * (val l_b)) 48 := s_a.mul s_b
      replace H_a := Lib.hid (H_a.out.below hb)
      replace H_b := Lib.hid (H_b.out.below hb)
      replace H_q := Lib.hid (H_q.out.below hb)
      replace H_r := Lib.hid (H_r.out.below hb)
      replace H_x := Lib.hid (H_x.out.below hb)
      replace H_y := Lib.hid (H_y.out.below hb)
      replace hB := below_next hB hb
      clear hb
      go_wp2_with fail
      refine (rmul_any _ _ _ _ _ (by exact H_a.out) (by exact H_b.out) (by omega) (by omega)).mono ?_
      rintro e w4 ⟨v_s2, rfl, h_s2, hb⟩
      try simp only [val_limbs] at h_s2
      have H_s2 := Lib.hid h_s2
      clear h_s2
      have s_s2 : Sz (val l_a * val l_b) 48 := s_a.mul s_b
      replace H_a := Lib.hid (H_a.out.below hb)
      replace H_b := Lib.hid (H_b.out.below hb)
      replace H_q := Lib.hid (H_q.out.below hb)
      replace H_r := Lib.hid (H_r.out.below hb)
      replace H_x := Lib.hid (H_x.out.below hb)
      replace H_y := Lib.hid (H_y.out.below hb)
      replace H_s1 := Lib.hid (H_s1.out.below hb)
      replace hB := below_next hB hb
      clear hb
      go_wp2_with fail
      refine (same_eq _ _ _ _ _ (by exact H_s1.out) (by exact H_s2.out) rfl).mono ?_
      rintro e w5 ⟨rfl, hb⟩
      replace H_a := Lib.hid (H_a.out.below hb)
      replace H_b := Lib.hid (H_b.out.below hb)
      replace H_q := Lib.hid (H_q.out.below hb)
      replace H_r := Lib.hid (H_r.out.below hb)
      replace H_x := Lib.hid (H_x.out.below hb)
      replace H_y := Lib.hid (H_y.out.below hb)
      replace H_s1 := Lib.hid (H_s1.out.below hb)
      replace H_s2 := Lib.hid (H_s2.out.below hb)
      replace hB := below_next hB hb
      clear hb
      clear H_s1
      clear H_s2
      go_wp2_with fail
      refine (same_eq _ _ _ _ _ (by exact H_q.out) (by exact H_x.out) rfl).mono ?_
      rintro e w6 ⟨rfl, hb⟩
      replace H_a := Lib.hid (H_a.out.below hb)
      replace H_b := Lib.hid (H_b.out.below hb)
      replace H_q := Lib.hid (H_q.out.below hb)
      replace H_r := Lib.hid (H_r.out.below hb)
      replace H_x := Lib.hid (H_x.out.below hb)
      replace H_y := Lib.hid (H_y.out.below hb)
      replace hB := below_next hB hb
      clear hb
      clear H_q
      clear H_x
      go_wp2_with fail
      refine (same_eq _ _ _ _ _ (by exact H_r.out) (by exact H_y.out) rfl).mono ?_
      rintro e w7 ⟨rfl, hb⟩
      replace H_a := Lib.hid (H_a.out.below hb)
      replace H_b := Lib.hid (H_b.out.below hb)
      replace H_r := Lib.hid (H_r.out.below hb)
      replace H_y := Lib.hid (H_y.out.below hb)
      replace hB := below_next hB hb
      clear hb
      clear H_r
      clear H_y
      go_wp2_with fail
      refine (alive_any _ (by exact HT.out.below hB)).mono ?_
      rintro e w8 ⟨rfl, hb⟩
      replace H_a := Lib.hid (H_a.out.below hb)
      replace H_b := Lib.hid (H_b.out.below hb)
      replace hB := below_next hB hb
      clear hb
      go_wp2
      go_ret
      exact ⟨rfl, hB⟩
  · go_enter Tryd.func5, Tryd.ntmps5
    go_wp2_with fail
    refine (light_no _ _ _ _ _ (by exact H_a.out) (by exact H_b.out) hl).mono ?_
    rintro e w0 ⟨rfl, rfl⟩
    go_wp2_with fail
    refine (alive_any _ (by exact HT.out)).mono ?_
    rintro e w1 ⟨rfl, hb⟩
    have hB := hb
    clear hb
    go_wp2
    go_ret
    exact ⟨rfl, hB⟩
end Go.Proofs.YtelcjcgalkcadaaDoor
