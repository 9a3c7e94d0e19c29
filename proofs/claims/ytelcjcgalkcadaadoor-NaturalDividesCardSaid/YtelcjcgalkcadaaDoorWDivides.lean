/- The law NaturalDivides: its walk. -/
import Derived.Test.YtelcjcgalkcadaaDoorLight
namespace Go.Proofs.YtelcjcgalkcadaaDoor
open Go.RowKit

set_option maxRecDepth 100000 in
set_option maxHeartbeats 4000000 in
theorem walk_NaturalDivides (v_a v_b : Value) (l_a l_b : List Nat) (w : World) (h_a : NatAt w v_a l_a) (h_b : NatAt w v_b l_b) (htab : Tab w) : Calls Tryd.prog 9 #[v_a, v_b] w (GivesTrue w) := by
  have HT := Lib.hid htab
  have H_a := Lib.hid h_a
  have H_b := Lib.hid h_b
  clear htab h_a h_b
  by_cases hl : l_a.length ≤ 24 ∧ l_b.length ≤ 24
  · obtain ⟨n_a, n_b⟩ := hl
    have s_a : Sz (val l_a) 24 := H_a.out.sz n_a
    have s_b : Sz (val l_b) 24 := H_b.out.sz n_b
    go_enter Tryd.func9, Tryd.ntmps9
    go_wp2_with fail
    refine (light_yes _ _ _ _ _ (by exact H_a.out) (by exact H_b.out) n_a n_b).mono ?_
    rintro e w0 ⟨rfl, rfl⟩
    by_cases hz : val l_b = 0
    · skip
      go_wp2_with fail
      refine (divmod_zero _ _ _ _ _ (by exact H_a.out) (by exact H_b.out) hz).mono ?_
      rintro e w1 ⟨v_q, v_r, rfl, h_q, h_r, hb⟩
      obtain ⟨Aq, cq, rfl, _, _⟩ := h_q.form
      obtain ⟨Ar, cr, rfl, _, _⟩ := h_r.form
      clear h_q h_r
      replace H_a := Lib.hid (H_a.out.below hb)
      replace H_b := Lib.hid (H_b.out.below hb)
      have hB := hb
      clear hb
      have HZ := Lib.hid hz
      clear hz
      go_wp2_with fail
      refine (cmp_eq (by exact H_b.out) (NatAt.nil _) (by (try simp only [val_limbs]); exact HZ.out)).mono ?_
      rintro e w2 ⟨rfl, hb⟩
      replace H_a := Lib.hid (H_a.out.below hb)
      replace H_b := Lib.hid (H_b.out.below hb)
      replace hB := below_next hB hb
      clear hb
      go_wp2_with fail
      refine (alive_any _ (by exact HT.out.below hB)).mono ?_
      rintro e w3 ⟨rfl, hb⟩
      replace H_a := Lib.hid (H_a.out.below hb)
      replace H_b := Lib.hid (H_b.out.below hb)
      replace hB := below_next hB hb
      clear hb
      go_wp2
      go_ret
      exact ⟨rfl, hB⟩
    · skip
      have HZ := Lib.hid hz
      clear hz
      go_wp2_with fail
      refine (divmod_any _ _ _ _ _ (by exact H_a.out) (by exact H_b.out) (by omega) (by omega) (by (try simp only [val_limbs]); exact HZ.out)).mono ?_
      rintro e w1 ⟨v_q, v_r, rfl, h_q, h_r, hb⟩
      try simp only [val_limbs] at h_q
      have H_q := Lib.hid h_q
      clear h_q
      have s_q : Sz ((val l_a) / (val l_b)) 24 := s_a.div _
      try simp only [val_limbs] at h_r
      have H_r := Lib.hid h_r
      clear h_r
      have s_r : Sz ((val l_a) % (val l_b)) 24 := s_a.mod _
      replace H_a := Lib.hid (H_a.out.below hb)
      replace H_b := Lib.hid (H_b.out.below hb)
      have hB := hb
      clear hb
      go_wp2_with fail
      refine (cmp_lt (by exact H_r.out) (by exact H_b.out) (by (try simp only [val_limbs]); exact Nat.mod_lt _ (by have := HZ.out; omega))).mono ?_
      rintro e w2 ⟨rfl, hb⟩
      replace H_a := Lib.hid (H_a.out.below hb)
      replace H_b := Lib.hid (H_b.out.below hb)
      replace H_q := Lib.hid (H_q.out.below hb)
      replace H_r := Lib.hid (H_r.out.below hb)
      replace hB := below_next hB hb
      clear hb
      go_wp2_with fail
      refine (mul_any _ _ _ _ _ (by exact H_q.out) (by exact H_b.out) (s_q.len _ (by omega)) (by omega)).mono ?_
      rintro e w3 ⟨v_p, rfl, h_p, hb⟩
      try simp only [val_limbs] at h_p
      have H_p := Lib.hid h_p
      clear h_p
      have s_p : Sz (((val l_a) / (val l_b)) * (val l_b)) 48 := s_q.mul s_b
      replace H_a := Lib.hid (H_a.out.below hb)
      replace H_b := Lib.hid (H_b.out.below hb)
      replace H_q := Lib.hid (H_q.out.below hb)
      replace H_r := Lib.hid (H_r.out.below hb)
      replace hB := below_next hB hb
      clear hb
      go_wp2_with fail
      refine (add_any _ _ _ _ _ (by exact H_p.out) (by exact H_r.out) (s_p.len _ (by omega)) (s_r.len _ (by omega))).mono ?_
      rintro e w4 ⟨v_t, rfl, h_t, hb⟩
      try simp only [val_limbs] at h_t
      have H_t := Lib.hid h_t
      clear h_t
      have s_t : Sz ((((val l_a) / (val l_b)) * (val l_b)) + ((val l_a) % (val l_b))) 49 := s_p.add (s_r.more (by omega : 24 ≤ 48))
      replace H_a := Lib.hid (H_a.out.below hb)
      replace H_b := Lib.hid (H_b.out.below hb)
      replace H_q := Lib.hid (H_q.out.below hb)
      replace H_r := Lib.hid (H_r.out.below hb)
      replace H_p := Lib.hid (H_p.out.below hb)
      replace hB := below_next hB hb
      clear hb
      go_wp2_with fail
      refine (cmp_eq (by exact H_t.out) (by exact H_a.out) (by (try simp only [val_limbs]); exact (by rw [Nat.mul_comm]; exact Nat.div_add_mod _ _))).mono ?_
      rintro e w5 ⟨rfl, hb⟩
      replace H_a := Lib.hid (H_a.out.below hb)
      replace H_b := Lib.hid (H_b.out.below hb)
      replace H_q := Lib.hid (H_q.out.below hb)
      replace H_r := Lib.hid (H_r.out.below hb)
      replace H_p := Lib.hid (H_p.out.below hb)
      replace H_t := Lib.hid (H_t.out.below hb)
      replace hB := below_next hB hb
      clear hb
      go_wp2_with fail
      refine (alive_any _ (by exact HT.out.below hB)).mono ?_
      rintro e w6 ⟨rfl, hb⟩
      replace H_a := Lib.hid (H_a.out.below hb)
      replace H_b := Lib.hid (H_b.out.below hb)
      replace H_q := Lib.hid (H_q.out.below hb)
      replace H_r := Lib.hid (H_r.out.below hb)
      replace H_p := Lib.hid (H_p.out.below hb)
      replace H_t := Lib.hid (H_t.out.below hb)
      replace hB := below_next hB hb
      clear hb
      go_wp2
      go_ret
      exact ⟨rfl, hB⟩
  · go_enter Tryd.func9, Tryd.ntmps9
    go_wp2_with fail
    refine (light_no _ _ _ _ _ (by exact H_a.out) (by exact H_b.out) hl).mono ?_
    rintro e w0 ⟨rfl, rfl⟩
    go_wp2_with fail
    refine (alive_any _ (by exact HT.out)).mono ?_
    rintro e w1 ⟨rfl, hb⟩
    have hB := hb
    clear hb
    go_wp2
    go_ret
    exact ⟨rfl, hB⟩
end Go.Proofs.YtelcjcgalkcadaaDoor
