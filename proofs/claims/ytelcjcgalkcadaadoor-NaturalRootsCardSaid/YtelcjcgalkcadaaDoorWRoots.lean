/- The law NaturalRoots: its walk. -/
import Derived.Test.YtelcjcgalkcadaaDoorLight
import Derived.Test.YtelcjcgalkcadaaDoorRGcd
namespace Go.Proofs.YtelcjcgalkcadaaDoor
open Go.RowKit

set_option maxRecDepth 100000 in
set_option maxHeartbeats 4000000 in
theorem walk_NaturalRoots (v_a v_b : Value) (l_a l_b : List Nat) (w : World) (h_a : NatAt w v_a l_a) (h_b : NatAt w v_b l_b) (htab : Tab w) : Calls Tryd.prog 6 #[v_a, v_b] w (GivesTrue w) := by
  have HT := Lib.hid htab
  have H_a := Lib.hid h_a
  have H_b := Lib.hid h_b
  clear htab h_a h_b
  by_cases hl : l_a.length ≤ 24 ∧ l_b.length ≤ 24
  · obtain ⟨n_a, n_b⟩ := hl
    have s_a : Sz (val l_a) 24 := H_a.out.sz n_a
    have s_b : Sz (val l_b) 24 := H_b.out.sz n_b
    go_enter Tryd.func6, Tryd.ntmps6
    go_wp2_with fail
    refine (light_yes _ _ _ _ _ (by exact H_a.out) (by exact H_b.out) n_a n_b).mono ?_
    rintro e w0 ⟨rfl, rfl⟩
    go_wp2_with fail
    refine (gcd_any _ _ _ _ _ (by exact H_a.out) (by exact H_b.out) (by omega) (by omega)).mono ?_
    rintro e w1 ⟨v_g1, rfl, h_g1, hb⟩
    try simp only [val_limbs] at h_g1
    have H_g1 := Lib.hid h_g1
    clear h_g1
    have s_g1 : Sz (Nat.gcd (val l_a) (val l_b)) 24 := s_a.gcd s_b
    replace H_a := Lib.hid (H_a.out.below hb)
    replace H_b := Lib.hid (H_b.out.below hb)
    have hB := hb
    clear hb
    go_wp2_with fail
    refine (rgcd_any _ _ _ _ _ (by exact H_a.out) (by exact H_b.out) (by omega) (by omega)).mono ?_
    rintro e w2 ⟨v_g2, rfl, h_g2, hb⟩
    try simp only [val_limbs] at h_g2
    have H_g2 := Lib.hid h_g2
    clear h_g2
    have s_g2 : Sz (Nat.gcd (val l_a) (val l_b)) 24 := s_a.gcd s_b
    replace H_a := Lib.hid (H_a.out.below hb)
    replace H_b := Lib.hid (H_b.out.below hb)
    replace H_g1 := Lib.hid (H_g1.out.below hb)
    replace hB := below_next hB hb
    clear hb
    go_wp2_with fail
    refine (same_eq _ _ _ _ _ (by exact H_g1.out) (by exact H_g2.out) rfl).mono ?_
    rintro e w3 ⟨rfl, hb⟩
    replace H_a := Lib.hid (H_a.out.below hb)
    replace H_b := Lib.hid (H_b.out.below hb)
    replace H_g1 := Lib.hid (H_g1.out.below hb)
    replace H_g2 := Lib.hid (H_g2.out.below hb)
    replace hB := below_next hB hb
    clear hb
    clear H_g1
    clear H_g2
    go_wp2_with fail
    refine (sqrt_any _ _ _ (by exact H_a.out) (by omega)).mono ?_
    rintro e w4 ⟨v_q1, rfl, h_q1, hb⟩
    try simp only [val_limbs] at h_q1
    have H_q1 := Lib.hid h_q1
    clear h_q1
    have s_q1 : Sz (isqrt (val l_a)) 24 := s_a.sqrt
    replace H_a := Lib.hid (H_a.out.below hb)
    replace H_b := Lib.hid (H_b.out.below hb)
    replace hB := below_next hB hb
    clear hb
    go_wp2_with fail
    refine (rsqrt_any _ _ _ (by exact H_a.out) (by omega)).mono ?_
    rintro e w5 ⟨v_q2, rfl, h_q2, hb⟩
    try simp only [val_limbs] at h_q2
    have H_q2 := Lib.hid h_q2
    clear h_q2
    have s_q2 : Sz (isqrt (val l_a)) 24 := s_a.sqrt
    replace H_a := Lib.hid (H_a.out.below hb)
    replace H_b := Lib.hid (H_b.out.below hb)
    replace H_q1 := Lib.hid (H_q1.out.below hb)
    replace hB := below_next hB hb
    clear hb
    go_wp2_with fail
    refine (same_eq _ _ _ _ _ (by exact H_q1.out) (by exact H_q2.out) rfl).mono ?_
    rintro e w6 ⟨rfl, hb⟩
    replace H_a := Lib.hid (H_a.out.below hb)
    replace H_b := Lib.hid (H_b.out.below hb)
    replace H_q1 := Lib.hid (H_q1.out.below hb)
    replace H_q2 := Lib.hid (H_q2.out.below hb)
    replace hB := below_next hB hb
    clear hb
    clear H_q1
    clear H_q2
    go_wp2_with fail
    refine (alive_any _ (by exact HT.out.below hB)).mono ?_
    rintro e w7 ⟨rfl, hb⟩
    replace H_a := Lib.hid (H_a.out.below hb)
    replace H_b := Lib.hid (H_b.out.below hb)
    replace hB := below_next hB hb
    clear hb
    go_wp2
    go_ret
    exact ⟨rfl, hB⟩
  · go_enter Tryd.func6, Tryd.ntmps6
    go_wp2_with fail
    refine (light_no _ _ _ _ _ (by exact H_a.out) (by exact H_b.out) hl).mono ?_
    rintro e w0 ⟨rfl, rfl⟩
    go_wp2_with fail
    refine (alive_any _ (by exact HT.out)).mono ?_
    rintro e w1 ⟨rfl, hb⟩
    have hB := hb
    clear hb
    go_wp2
    go_ret
    exact ⟨rfl, hB⟩
end Go.Proofs.YtelcjcgalkcadaaDoor
