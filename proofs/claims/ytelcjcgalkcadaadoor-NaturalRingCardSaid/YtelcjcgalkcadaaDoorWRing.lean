/- The law NaturalRing: its walk. -/
import Derived.Test.YtelcjcgalkcadaaDoorLight
namespace Go.Proofs.YtelcjcgalkcadaaDoor
open Go.RowKit

set_option maxRecDepth 100000 in
set_option maxHeartbeats 4000000 in
theorem walk_NaturalRing (v_a v_b v_c : Value) (l_a l_b l_c : List Nat) (w : World) (h_a : NatAt w v_a l_a) (h_b : NatAt w v_b l_b) (h_c : NatAt w v_c l_c) (htab : Tab w) : Calls Tryd.prog 8 #[v_a, v_b, v_c] w (GivesTrue w) := by
  have HT := Lib.hid htab
  have H_a := Lib.hid h_a
  have H_b := Lib.hid h_b
  have H_c := Lib.hid h_c
  clear htab h_a h_b h_c
  by_cases hl : l_a.length ≤ 24 ∧ l_b.length ≤ 24
  · obtain ⟨n_a, n_b⟩ := hl
    have s_a : Sz (val l_a) 24 := H_a.out.sz n_a
    have s_b : Sz (val l_b) 24 := H_b.out.sz n_b
    obtain ⟨Ac, cc, rfl, gc1, gc2⟩ := H_c.out.form
    by_cases n_c : l_c.length ≤ 24
    · have s_c : Sz (val l_c) 24 := H_c.out.sz n_c
      have tc : decide ((24 : Int) < (l_c.length : Int)) = false := by simp; omega
      go_enter Tryd.func8, Tryd.ntmps8
      go_wp2_with fail
      refine (light_yes _ _ _ _ _ (by exact H_a.out) (by exact H_b.out) n_a n_b).mono ?_
      rintro e w0 ⟨rfl, rfl⟩
      go_wp2_with fail
      refine (add_any _ _ _ _ _ (by exact H_a.out) (by exact H_b.out) (by omega) (by omega)).mono ?_
      rintro e w1 ⟨v_s, rfl, h_s, hb⟩
      try simp only [val_limbs] at h_s
      have H_s := Lib.hid h_s
      clear h_s
      have s_s : Sz ((val l_a) + (val l_b)) 25 := s_a.add s_b
      replace H_a := Lib.hid (H_a.out.below hb)
      replace H_b := Lib.hid (H_b.out.below hb)
      replace H_c := Lib.hid (H_c.out.below hb)
      have hB := hb
      clear hb
      go_wp2_with fail
      refine (mul_any _ _ _ _ _ (by exact H_a.out) (by exact H_b.out) (by omega) (by omega)).mono ?_
      rintro e w2 ⟨v_p, rfl, h_p, hb⟩
      try simp only [val_limbs] at h_p
      have H_p := Lib.hid h_p
      clear h_p
      have s_p : Sz ((val l_a) * (val l_b)) 48 := s_a.mul s_b
      replace H_a := Lib.hid (H_a.out.below hb)
      replace H_b := Lib.hid (H_b.out.below hb)
      replace H_c := Lib.hid (H_c.out.below hb)
      replace H_s := Lib.hid (H_s.out.below hb)
      replace hB := below_next hB hb
      clear hb
      go_wp2_with fail
      refine (add_any _ _ _ _ _ (by exact H_b.out) (by exact H_a.out) (by omega) (by omega)).mono ?_
      rintro e w3 ⟨v_s2, rfl, h_s2, hb⟩
      try simp only [val_limbs] at h_s2
      have H_s2 := Lib.hid h_s2
      clear h_s2
      have s_s2 : Sz ((val l_b) + (val l_a)) 25 := s_b.add s_a
      replace H_a := Lib.hid (H_a.out.below hb)
      replace H_b := Lib.hid (H_b.out.below hb)
      replace H_c := Lib.hid (H_c.out.below hb)
      replace H_s := Lib.hid (H_s.out.below hb)
      replace H_p := Lib.hid (H_p.out.below hb)
      replace hB := below_next hB hb
      clear hb
      go_wp2_with fail
      refine (cmp_eq (by exact H_s.out) (by exact H_s2.out) (by (try simp only [val_limbs]); exact Nat.add_comm _ _)).mono ?_
      rintro e w4 ⟨rfl, hb⟩
      replace H_a := Lib.hid (H_a.out.below hb)
      replace H_b := Lib.hid (H_b.out.below hb)
      replace H_c := Lib.hid (H_c.out.below hb)
      replace H_s := Lib.hid (H_s.out.below hb)
      replace H_p := Lib.hid (H_p.out.below hb)
      replace H_s2 := Lib.hid (H_s2.out.below hb)
      replace hB := below_next hB hb
      clear hb
      clear H_s2
      go_wp2_with fail
      refine (mul_any _ _ _ _ _ (by exact H_b.out) (by exact H_a.out) (by omega) (by omega)).mono ?_
      rintro e w5 ⟨v_p2, rfl, h_p2, hb⟩
      try simp only [val_limbs] at h_p2
      have H_p2 := Lib.hid h_p2
      clear h_p2
      have s_p2 : Sz ((val l_b) * (val l_a)) 48 := s_b.mul s_a
      replace H_a := Lib.hid (H_a.out.below hb)
      replace H_b := Lib.hid (H_b.out.below hb)
      replace H_c := Lib.hid (H_c.out.below hb)
      replace H_s := Lib.hid (H_s.out.below hb)
      replace H_p := Lib.hid (H_p.out.below hb)
      replace hB := below_next hB hb
      clear hb
      go_wp2_with fail
      refine (cmp_eq (by exact H_p.out) (by exact H_p2.out) (by (try simp only [val_limbs]); exact Nat.mul_comm _ _)).mono ?_
      rintro e w6 ⟨rfl, hb⟩
      replace H_a := Lib.hid (H_a.out.below hb)
      replace H_b := Lib.hid (H_b.out.below hb)
      replace H_c := Lib.hid (H_c.out.below hb)
      replace H_s := Lib.hid (H_s.out.below hb)
      replace H_p := Lib.hid (H_p.out.below hb)
      replace H_p2 := Lib.hid (H_p2.out.below hb)
      replace hB := below_next hB hb
      clear hb
      clear H_p2
      go_wp2_with fail
      refine (add_any _ _ _ _ _ (by exact H_s.out) (by exact H_c.out) (s_s.len _ (by omega)) (by omega)).mono ?_
      rintro e w7 ⟨v_t1, rfl, h_t1, hb⟩
      try simp only [val_limbs] at h_t1
      have H_t1 := Lib.hid h_t1
      clear h_t1
      have s_t1 : Sz (((val l_a) + (val l_b)) + (val l_c)) 26 := s_s.add (s_c.more (by omega : 24 ≤ 25))
      replace H_a := Lib.hid (H_a.out.below hb)
      replace H_b := Lib.hid (H_b.out.below hb)
      replace H_c := Lib.hid (H_c.out.below hb)
      replace H_s := Lib.hid (H_s.out.below hb)
      replace H_p := Lib.hid (H_p.out.below hb)
      replace hB := below_next hB hb
      clear hb
      go_wp2_with fail
      refine (add_any _ _ _ _ _ (by exact H_b.out) (by exact H_c.out) (by omega) (by omega)).mono ?_
      rintro e w8 ⟨v_t2, rfl, h_t2, hb⟩
      try simp only [val_limbs] at h_t2
      have H_t2 := Lib.hid h_t2
      clear h_t2
      have s_t2 : Sz ((val l_b) + (val l_c)) 25 := s_b.add s_c
      replace H_a := Lib.hid (H_a.out.below hb)
      replace H_b := Lib.hid (H_b.out.below hb)
      replace H_c := Lib.hid (H_c.out.below hb)
      replace H_s := Lib.hid (H_s.out.below hb)
      replace H_p := Lib.hid (H_p.out.below hb)
      replace H_t1 := Lib.hid (H_t1.out.below hb)
      replace hB := below_next hB hb
      clear hb
      go_wp2_with fail
      refine (add_any _ _ _ _ _ (by exact H_a.out) (by exact H_t2.out) (by omega) (s_t2.len _ (by omega))).mono ?_
      rintro e w9 ⟨v_t3, rfl, h_t3, hb⟩
      try simp only [val_limbs] at h_t3
      have H_t3 := Lib.hid h_t3
      clear h_t3
      have s_t3 : Sz ((val l_a) + ((val l_b) + (val l_c))) 26 := (s_a.more (by omega : 24 ≤ 25)).add s_t2
      replace H_a := Lib.hid (H_a.out.below hb)
      replace H_b := Lib.hid (H_b.out.below hb)
      replace H_c := Lib.hid (H_c.out.below hb)
      replace H_s := Lib.hid (H_s.out.below hb)
      replace H_p := Lib.hid (H_p.out.below hb)
      replace H_t1 := Lib.hid (H_t1.out.below hb)
      replace H_t2 := Lib.hid (H_t2.out.below hb)
      replace hB := below_next hB hb
      clear hb
      go_wp2_with fail
      refine (cmp_eq (by exact H_t1.out) (by exact H_t3.out) (by (try simp only [val_limbs]); exact Nat.add_assoc _ _ _)).mono ?_
      rintro e w10 ⟨rfl, hb⟩
      replace H_a := Lib.hid (H_a.out.below hb)
      replace H_b := Lib.hid (H_b.out.below hb)
      replace H_c := Lib.hid (H_c.out.below hb)
      replace H_s := Lib.hid (H_s.out.below hb)
      replace H_p := Lib.hid (H_p.out.below hb)
      replace H_t1 := Lib.hid (H_t1.out.below hb)
      replace H_t2 := Lib.hid (H_t2.out.below hb)
      replace H_t3 := Lib.hid (H_t3.out.below hb)
      replace hB := below_next hB hb
      clear hb
      clear H_t1
      clear H_t2
      clear H_t3
      go_wp2_with fail
      refine (mul_any _ _ _ _ _ (by exact H_p.out) (by exact H_c.out) (s_p.len _ (by omega)) (by omega)).mono ?_
      rintro e w11 ⟨v_u1, rfl, h_u1, hb⟩
      try simp only [val_limbs] at h_u1
      have H_u1 := Lib.hid h_u1
      clear h_u1
      have s_u1 : Sz (((val l_a) * (val l_b)) * (val l_c)) 72 := s_p.mul s_c
      replace H_a := Lib.hid (H_a.out.below hb)
      replace H_b := Lib.hid (H_b.out.below hb)
      replace H_c := Lib.hid (H_c.out.below hb)
      replace H_s := Lib.hid (H_s.out.below hb)
      replace H_p := Lib.hid (H_p.out.below hb)
      replace hB := below_next hB hb
      clear hb
      go_wp2_with fail
      refine (mul_any _ _ _ _ _ (by exact H_b.out) (by exact H_c.out) (by omega) (by omega)).mono ?_
      rintro e w12 ⟨v_u2, rfl, h_u2, hb⟩
      try simp only [val_limbs] at h_u2
      have H_u2 := Lib.hid h_u2
      clear h_u2
      have s_u2 : Sz ((val l_b) * (val l_c)) 48 := s_b.mul s_c
      replace H_a := Lib.hid (H_a.out.below hb)
      replace H_b := Lib.hid (H_b.out.below hb)
      replace H_c := Lib.hid (H_c.out.below hb)
      replace H_s := Lib.hid (H_s.out.below hb)
      replace H_p := Lib.hid (H_p.out.below hb)
      replace H_u1 := Lib.hid (H_u1.out.below hb)
      replace hB := below_next hB hb
      clear hb
      go_wp2_with fail
      refine (mul_any _ _ _ _ _ (by exact H_a.out) (by exact H_u2.out) (by omega) (s_u2.len _ (by omega))).mono ?_
      rintro e w13 ⟨v_u3, rfl, h_u3, hb⟩
      try simp only [val_limbs] at h_u3
      have H_u3 := Lib.hid h_u3
      clear h_u3
      have s_u3 : Sz ((val l_a) * ((val l_b) * (val l_c))) 72 := s_a.mul s_u2
      replace H_a := Lib.hid (H_a.out.below hb)
      replace H_b := Lib.hid (H_b.out.below hb)
      replace H_c := Lib.hid (H_c.out.below hb)
      replace H_s := Lib.hid (H_s.out.below hb)
      replace H_p := Lib.hid (H_p.out.below hb)
      replace H_u1 := Lib.hid (H_u1.out.below hb)
      replace H_u2 := Lib.hid (H_u2.out.below hb)
      replace hB := below_next hB hb
      clear hb
      go_wp2_with fail
      refine (cmp_eq (by exact H_u1.out) (by exact H_u3.out) (by (try simp only [val_limbs]); exact Nat.mul_assoc _ _ _)).mono ?_
      rintro e w14 ⟨rfl, hb⟩
      replace H_a := Lib.hid (H_a.out.below hb)
      replace H_b := Lib.hid (H_b.out.below hb)
      replace H_c := Lib.hid (H_c.out.below hb)
      replace H_s := Lib.hid (H_s.out.below hb)
      replace H_p := Lib.hid (H_p.out.below hb)
      replace H_u1 := Lib.hid (H_u1.out.below hb)
      replace H_u2 := Lib.hid (H_u2.out.below hb)
      replace H_u3 := Lib.hid (H_u3.out.below hb)
      replace hB := below_next hB hb
      clear hb
      clear H_u1
      clear H_u2
      clear H_u3
      go_wp2_with fail
      refine (mul_any _ _ _ _ _ (by exact H_s.out) (by exact H_c.out) (s_s.len _ (by omega)) (by omega)).mono ?_
      rintro e w15 ⟨v_x1, rfl, h_x1, hb⟩
      try simp only [val_limbs] at h_x1
      have H_x1 := Lib.hid h_x1
      clear h_x1
      have s_x1 : Sz (((val l_a) + (val l_b)) * (val l_c)) 49 := s_s.mul s_c
      replace H_a := Lib.hid (H_a.out.below hb)
      replace H_b := Lib.hid (H_b.out.below hb)
      replace H_c := Lib.hid (H_c.out.below hb)
      replace H_s := Lib.hid (H_s.out.below hb)
      replace H_p := Lib.hid (H_p.out.below hb)
      replace hB := below_next hB hb
      clear hb
      go_wp2_with fail
      refine (mul_any _ _ _ _ _ (by exact H_a.out) (by exact H_c.out) (by omega) (by omega)).mono ?_
      rintro e w16 ⟨v_x2, rfl, h_x2, hb⟩
      try simp only [val_limbs] at h_x2
      have H_x2 := Lib.hid h_x2
      clear h_x2
      have s_x2 : Sz ((val l_a) * (val l_c)) 48 := s_a.mul s_c
      replace H_a := Lib.hid (H_a.out.below hb)
      replace H_b := Lib.hid (H_b.out.below hb)
      replace H_c := Lib.hid (H_c.out.below hb)
      replace H_s := Lib.hid (H_s.out.below hb)
      replace H_p := Lib.hid (H_p.out.below hb)
      replace H_x1 := Lib.hid (H_x1.out.below hb)
      replace hB := below_next hB hb
      clear hb
      go_wp2_with fail
      refine (mul_any _ _ _ _ _ (by exact H_b.out) (by exact H_c.out) (by omega) (by omega)).mono ?_
      rintro e w17 ⟨v_x3, rfl, h_x3, hb⟩
      try simp only [val_limbs] at h_x3
      have H_x3 := Lib.hid h_x3
      clear h_x3
      have s_x3 : Sz ((val l_b) * (val l_c)) 48 := s_b.mul s_c
      replace H_a := Lib.hid (H_a.out.below hb)
      replace H_b := Lib.hid (H_b.out.below hb)
      replace H_c := Lib.hid (H_c.out.below hb)
      replace H_s := Lib.hid (H_s.out.below hb)
      replace H_p := Lib.hid (H_p.out.below hb)
      replace H_x1 := Lib.hid (H_x1.out.below hb)
      replace H_x2 := Lib.hid (H_x2.out.below hb)
      replace hB := below_next hB hb
      clear hb
      go_wp2_with fail
      refine (add_any _ _ _ _ _ (by exact H_x2.out) (by exact H_x3.out) (s_x2.len _ (by omega)) (s_x3.len _ (by omega))).mono ?_
      rintro e w18 ⟨v_x4, rfl, h_x4, hb⟩
      try simp only [val_limbs] at h_x4
      have H_x4 := Lib.hid h_x4
      clear h_x4
      have s_x4 : Sz (((val l_a) * (val l_c)) + ((val l_b) * (val l_c))) 49 := s_x2.add s_x3
      replace H_a := Lib.hid (H_a.out.below hb)
      replace H_b := Lib.hid (H_b.out.below hb)
      replace H_c := Lib.hid (H_c.out.below hb)
      replace H_s := Lib.hid (H_s.out.below hb)
      replace H_p := Lib.hid (H_p.out.below hb)
      replace H_x1 := Lib.hid (H_x1.out.below hb)
      replace H_x2 := Lib.hid (H_x2.out.below hb)
      replace H_x3 := Lib.hid (H_x3.out.below hb)
      replace hB := below_next hB hb
      clear hb
      go_wp2_with fail
      refine (cmp_eq (by exact H_x1.out) (by exact H_x4.out) (by (try simp only [val_limbs]); exact Nat.add_mul _ _ _)).mono ?_
      rintro e w19 ⟨rfl, hb⟩
      replace H_a := Lib.hid (H_a.out.below hb)
      replace H_b := Lib.hid (H_b.out.below hb)
      replace H_c := Lib.hid (H_c.out.below hb)
      replace H_s := Lib.hid (H_s.out.below hb)
      replace H_p := Lib.hid (H_p.out.below hb)
      replace H_x1 := Lib.hid (H_x1.out.below hb)
      replace H_x2 := Lib.hid (H_x2.out.below hb)
      replace H_x3 := Lib.hid (H_x3.out.below hb)
      replace H_x4 := Lib.hid (H_x4.out.below hb)
      replace hB := below_next hB hb
      clear hb
      clear H_x1
      clear H_x2
      clear H_x3
      clear H_x4
      go_wp2_with fail
      refine (sub_any _ _ _ _ _ (by exact H_s.out) (by exact H_b.out) (s_s.len _ (by omega))).mono ?_
      rintro e w20 ⟨v_k, rfl, h_k, hb⟩
      rw [decide_eq_true (by (try simp only [val_limbs]); exact Nat.le_add_left _ _)]
      try simp only [val_limbs] at h_k
      have H_k := Lib.hid h_k
      clear h_k
      have s_k : Sz (((val l_a) + (val l_b)) - (val l_b)) 25 := s_s.sub _
      replace H_a := Lib.hid (H_a.out.below hb)
      replace H_b := Lib.hid (H_b.out.below hb)
      replace H_c := Lib.hid (H_c.out.below hb)
      replace H_s := Lib.hid (H_s.out.below hb)
      replace H_p := Lib.hid (H_p.out.below hb)
      replace hB := below_next hB hb
      clear hb
      go_wp2_with fail
      refine (cmp_eq (by exact H_k.out) (by exact H_a.out) (by (try simp only [val_limbs]); exact Nat.add_sub_cancel _ _)).mono ?_
      rintro e w21 ⟨rfl, hb⟩
      replace H_a := Lib.hid (H_a.out.below hb)
      replace H_b := Lib.hid (H_b.out.below hb)
      replace H_c := Lib.hid (H_c.out.below hb)
      replace H_s := Lib.hid (H_s.out.below hb)
      replace H_p := Lib.hid (H_p.out.below hb)
      replace H_k := Lib.hid (H_k.out.below hb)
      replace hB := below_next hB hb
      clear hb
      go_wp2_with fail
      refine (cmp_ge (by exact H_s.out) (by exact H_a.out) (by (try simp only [val_limbs]); exact Nat.le_add_right _ _)).mono ?_
      rintro e w22 ⟨oc, rfl, hoc, hb⟩
      replace H_a := Lib.hid (H_a.out.below hb)
      replace H_b := Lib.hid (H_b.out.below hb)
      replace H_c := Lib.hid (H_c.out.below hb)
      replace H_s := Lib.hid (H_s.out.below hb)
      replace H_p := Lib.hid (H_p.out.below hb)
      replace H_k := Lib.hid (H_k.out.below hb)
      replace hB := below_next hB hb
      clear hb
      go_wp2_with fail
      refine (alive_any _ (by exact HT.out.below hB)).mono ?_
      rintro e w23 ⟨rfl, hb⟩
      replace H_a := Lib.hid (H_a.out.below hb)
      replace H_b := Lib.hid (H_b.out.below hb)
      replace H_c := Lib.hid (H_c.out.below hb)
      replace H_s := Lib.hid (H_s.out.below hb)
      replace H_p := Lib.hid (H_p.out.below hb)
      replace H_k := Lib.hid (H_k.out.below hb)
      replace hB := below_next hB hb
      clear hb
      go_wp2
      go_ret
      exact ⟨rfl, hB⟩
    · have tc : decide ((24 : Int) < (l_c.length : Int)) = true := by simp; omega
      go_enter Tryd.func8, Tryd.ntmps8
      go_wp2_with fail
      refine (light_yes _ _ _ _ _ (by exact H_a.out) (by exact H_b.out) n_a n_b).mono ?_
      rintro e w0 ⟨rfl, rfl⟩
      go_wp2_with fail
      refine (alive_any _ (by exact HT.out)).mono ?_
      rintro e w1 ⟨rfl, hb⟩
      have hB := hb
      clear hb
      go_wp2
      go_ret
      exact ⟨rfl, hB⟩
  · go_enter Tryd.func8, Tryd.ntmps8
    go_wp2_with fail
    refine (light_no _ _ _ _ _ (by exact H_a.out) (by exact H_b.out) hl).mono ?_
    rintro e w0 ⟨rfl, rfl⟩
    go_wp2_with fail
    refine (alive_any _ (by exact HT.out)).mono ?_
    rintro e w1 ⟨rfl, hb⟩
    have hB := hb
    clear hb
    go_wp2
    go_ret
    exact ⟨rfl, hB⟩
end Go.Proofs.YtelcjcgalkcadaaDoor
