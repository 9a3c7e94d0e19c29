/- The law NaturalGcds: its walk. -/
import Derived.Test.YtelcjcgalkcadaaDoorLight
import Derived.Test.YtelcjcgalkcadaaDoorWSquares
namespace Go.Proofs.YtelcjcgalkcadaaDoor
open Go.RowKit

theorem gcd_quot {a b : Nat} (h : Nat.gcd a b ≠ 0) : Nat.gcd (a / Nat.gcd a b) (b / Nat.gcd a b) = 1 := by
  rw [Nat.gcd_div (Nat.gcd_dvd_left _ _) (Nat.gcd_dvd_right _ _), Nat.div_self (Nat.pos_of_ne_zero h)]

set_option maxRecDepth 100000 in
set_option maxHeartbeats 4000000 in
theorem walk_NaturalGcds (v_a v_b v_c : Value) (l_a l_b l_c : List Nat) (w : World) (h_a : NatAt w v_a l_a) (h_b : NatAt w v_b l_b) (h_c : NatAt w v_c l_c) (htab : Tab w) : Calls Tryd.prog 10 #[v_a, v_b, v_c] w (GivesTrue w) := by
  have HT := Lib.hid htab
  have H_a := Lib.hid h_a
  have H_b := Lib.hid h_b
  have H_c := Lib.hid h_c
  clear htab h_a h_b h_c
  by_cases hl : l_a.length ≤ 24 ∧ l_b.length ≤ 24
  · obtain ⟨n_a, n_b⟩ := hl
    have s_a : Sz (val l_a) 24 := H_a.out.sz n_a
    have s_b : Sz (val l_b) 24 := H_b.out.sz n_b
    obtain ⟨Ac, cc, rfl, gc1, gc2⟩ := H_c.out.form
    by_cases n_c : l_c.length ≤ 8
    · have s_c : Sz (val l_c) 8 := H_c.out.sz n_c
      have tc : decide ((8 : Int) < (l_c.length : Int)) = false := by simp; omega
      by_cases hz : Nat.gcd (val l_a) (val l_b) = 0
      · have HZ := Lib.hid hz
        clear hz
        go_enter Tryd.func10, Tryd.ntmps10
        go_wp2_with fail
        refine (light_yes _ _ _ _ _ (by exact H_a.out) (by exact H_b.out) n_a n_b).mono ?_
        rintro e w0 ⟨rfl, rfl⟩
        go_wp2_with fail
        refine (gcd_any _ _ _ _ _ (by exact H_a.out) (by exact H_b.out) (by omega) (by omega)).mono ?_
        rintro e w1 ⟨v_g, rfl, h_g, hb⟩
        try simp only [val_limbs] at h_g
        try simp only [val_one] at h_g
        have H_g := Lib.hid h_g
        clear h_g
        have s_g : Sz (Nat.gcd (val l_a) (val l_b)) 24 := s_a.gcd s_b
        replace H_a := Lib.hid (H_a.out.below hb)
        replace H_b := Lib.hid (H_b.out.below hb)
        replace H_c := Lib.hid (H_c.out.below hb)
        have hB := hb
        clear hb
        go_wp2_with fail
        refine (mul_any _ _ _ _ _ (by exact H_a.out) (by exact H_c.out) (by omega) (by omega)).mono ?_
        rintro e w2 ⟨v_x1, rfl, h_x1, hb⟩
        try simp only [val_limbs] at h_x1
        try simp only [val_one] at h_x1
        have H_x1 := Lib.hid h_x1
        clear h_x1
        have s_x1 : Sz ((val l_a) * (val l_c)) 32 := s_a.mul s_c
        replace H_a := Lib.hid (H_a.out.below hb)
        replace H_b := Lib.hid (H_b.out.below hb)
        replace H_c := Lib.hid (H_c.out.below hb)
        replace H_g := Lib.hid (H_g.out.below hb)
        replace hB := below_next hB hb
        clear hb
        go_wp2_with fail
        refine (mul_any _ _ _ _ _ (by exact H_b.out) (by exact H_c.out) (by omega) (by omega)).mono ?_
        rintro e w3 ⟨v_x2, rfl, h_x2, hb⟩
        try simp only [val_limbs] at h_x2
        try simp only [val_one] at h_x2
        have H_x2 := Lib.hid h_x2
        clear h_x2
        have s_x2 : Sz ((val l_b) * (val l_c)) 32 := s_b.mul s_c
        replace H_a := Lib.hid (H_a.out.below hb)
        replace H_b := Lib.hid (H_b.out.below hb)
        replace H_c := Lib.hid (H_c.out.below hb)
        replace H_g := Lib.hid (H_g.out.below hb)
        replace H_x1 := Lib.hid (H_x1.out.below hb)
        replace hB := below_next hB hb
        clear hb
        go_wp2_with fail
        refine (gcd_any _ _ _ _ _ (by exact H_x1.out) (by exact H_x2.out) (s_x1.len _ (by omega)) (s_x2.len _ (by omega))).mono ?_
        rintro e w4 ⟨v_x3, rfl, h_x3, hb⟩
        try simp only [val_limbs] at h_x3
        try simp only [val_one] at h_x3
        have H_x3 := Lib.hid h_x3
        clear h_x3
        have s_x3 : Sz (Nat.gcd ((val l_a) * (val l_c)) ((val l_b) * (val l_c))) 32 := s_x1.gcd s_x2
        replace H_a := Lib.hid (H_a.out.below hb)
        replace H_b := Lib.hid (H_b.out.below hb)
        replace H_c := Lib.hid (H_c.out.below hb)
        replace H_g := Lib.hid (H_g.out.below hb)
        replace H_x1 := Lib.hid (H_x1.out.below hb)
        replace H_x2 := Lib.hid (H_x2.out.below hb)
        replace hB := below_next hB hb
        clear hb
        go_wp2_with fail
        refine (mul_any _ _ _ _ _ (by exact H_g.out) (by exact H_c.out) (s_g.len _ (by omega)) (by omega)).mono ?_
        rintro e w5 ⟨v_x4, rfl, h_x4, hb⟩
        try simp only [val_limbs] at h_x4
        try simp only [val_one] at h_x4
        have H_x4 := Lib.hid h_x4
        clear h_x4
        have s_x4 : Sz ((Nat.gcd (val l_a) (val l_b)) * (val l_c)) 32 := s_g.mul s_c
        replace H_a := Lib.hid (H_a.out.below hb)
        replace H_b := Lib.hid (H_b.out.below hb)
        replace H_c := Lib.hid (H_c.out.below hb)
        replace H_g := Lib.hid (H_g.out.below hb)
        replace H_x1 := Lib.hid (H_x1.out.below hb)
        replace H_x2 := Lib.hid (H_x2.out.below hb)
        replace H_x3 := Lib.hid (H_x3.out.below hb)
        replace hB := below_next hB hb
        clear hb
        go_wp2_with fail
        refine (cmp_eq (by exact H_x3.out) (by exact H_x4.out) (by (try simp only [val_limbs]); (try simp only [val_one]); exact Nat.gcd_mul_right _ _ _)).mono ?_
        rintro e w6 ⟨rfl, hb⟩
        replace H_a := Lib.hid (H_a.out.below hb)
        replace H_b := Lib.hid (H_b.out.below hb)
        replace H_c := Lib.hid (H_c.out.below hb)
        replace H_g := Lib.hid (H_g.out.below hb)
        replace H_x1 := Lib.hid (H_x1.out.below hb)
        replace H_x2 := Lib.hid (H_x2.out.below hb)
        replace H_x3 := Lib.hid (H_x3.out.below hb)
        replace H_x4 := Lib.hid (H_x4.out.below hb)
        replace hB := below_next hB hb
        clear hb
        clear H_x1
        clear H_x2
        clear H_x3
        clear H_x4
        clear H_c
        go_wp2_with fail
        refine (cmp_eq (by exact H_g.out) (NatAt.nil _) (by (try simp only [val_limbs]); (try simp only [val_one]); exact HZ.out)).mono ?_
        rintro e w7 ⟨rfl, hb⟩
        replace H_a := Lib.hid (H_a.out.below hb)
        replace H_b := Lib.hid (H_b.out.below hb)
        replace H_g := Lib.hid (H_g.out.below hb)
        replace hB := below_next hB hb
        clear hb
        go_wp2_with fail
        refine (cmp_eq (by exact H_a.out) (NatAt.nil _) (by (try simp only [val_limbs]); (try simp only [val_one]); exact Nat.eq_zero_of_gcd_eq_zero_left HZ.out)).mono ?_
        rintro e w8 ⟨rfl, hb⟩
        replace H_a := Lib.hid (H_a.out.below hb)
        replace H_b := Lib.hid (H_b.out.below hb)
        replace H_g := Lib.hid (H_g.out.below hb)
        replace hB := below_next hB hb
        clear hb
        go_wp2_with fail
        refine (cmp_eq (by exact H_b.out) (NatAt.nil _) (by (try simp only [val_limbs]); (try simp only [val_one]); exact Nat.eq_zero_of_gcd_eq_zero_right HZ.out)).mono ?_
        rintro e w9 ⟨rfl, hb⟩
        replace H_a := Lib.hid (H_a.out.below hb)
        replace H_b := Lib.hid (H_b.out.below hb)
        replace H_g := Lib.hid (H_g.out.below hb)
        replace hB := below_next hB hb
        clear hb
        go_wp2_with fail
        refine (alive_any _ (by exact HT.out.below hB)).mono ?_
        rintro e w10 ⟨rfl, hb⟩
        replace H_a := Lib.hid (H_a.out.below hb)
        replace H_b := Lib.hid (H_b.out.below hb)
        replace H_g := Lib.hid (H_g.out.below hb)
        replace hB := below_next hB hb
        clear hb
        go_wp2
        go_ret
        exact ⟨rfl, hB⟩
      · have HZ := Lib.hid hz
        clear hz
        go_enter Tryd.func10, Tryd.ntmps10
        go_wp2_with fail
        refine (light_yes _ _ _ _ _ (by exact H_a.out) (by exact H_b.out) n_a n_b).mono ?_
        rintro e w0 ⟨rfl, rfl⟩
        go_wp2_with fail
        refine (gcd_any _ _ _ _ _ (by exact H_a.out) (by exact H_b.out) (by omega) (by omega)).mono ?_
        rintro e w1 ⟨v_g, rfl, h_g, hb⟩
        try simp only [val_limbs] at h_g
        try simp only [val_one] at h_g
        have H_g := Lib.hid h_g
        clear h_g
        have s_g : Sz (Nat.gcd (val l_a) (val l_b)) 24 := s_a.gcd s_b
        replace H_a := Lib.hid (H_a.out.below hb)
        replace H_b := Lib.hid (H_b.out.below hb)
        replace H_c := Lib.hid (H_c.out.below hb)
        have hB := hb
        clear hb
        go_wp2_with fail
        refine (mul_any _ _ _ _ _ (by exact H_a.out) (by exact H_c.out) (by omega) (by omega)).mono ?_
        rintro e w2 ⟨v_x1, rfl, h_x1, hb⟩
        try simp only [val_limbs] at h_x1
        try simp only [val_one] at h_x1
        have H_x1 := Lib.hid h_x1
        clear h_x1
        have s_x1 : Sz ((val l_a) * (val l_c)) 32 := s_a.mul s_c
        replace H_a := Lib.hid (H_a.out.below hb)
        replace H_b := Lib.hid (H_b.out.below hb)
        replace H_c := Lib.hid (H_c.out.below hb)
        replace H_g := Lib.hid (H_g.out.below hb)
        replace hB := below_next hB hb
        clear hb
        go_wp2_with fail
        refine (mul_any _ _ _ _ _ (by exact H_b.out) (by exact H_c.out) (by omega) (by omega)).mono ?_
        rintro e w3 ⟨v_x2, rfl, h_x2, hb⟩
        try simp only [val_limbs] at h_x2
        try simp only [val_one] at h_x2
        have H_x2 := Lib.hid h_x2
        clear h_x2
        have s_x2 : Sz ((val l_b) * (val l_c)) 32 := s_b.mul s_c
        replace H_a := Lib.hid (H_a.out.below hb)
        replace H_b := Lib.hid (H_b.out.below hb)
        replace H_c := Lib.hid (H_c.out.below hb)
        replace H_g := Lib.hid (H_g.out.below hb)
        replace H_x1 := Lib.hid (H_x1.out.below hb)
        replace hB := below_next hB hb
        clear hb
        go_wp2_with fail
        refine (gcd_any _ _ _ _ _ (by exact H_x1.out) (by exact H_x2.out) (s_x1.len _ (by omega)) (s_x2.len _ (by omega))).mono ?_
        rintro e w4 ⟨v_x3, rfl, h_x3, hb⟩
        try simp only [val_limbs] at h_x3
        try simp only [val_one] at h_x3
        have H_x3 := Lib.hid h_x3
        clear h_x3
        have s_x3 : Sz (Nat.gcd ((val l_a) * (val l_c)) ((val l_b) * (val l_c))) 32 := s_x1.gcd s_x2
        replace H_a := Lib.hid (H_a.out.below hb)
        replace H_b := Lib.hid (H_b.out.below hb)
        replace H_c := Lib.hid (H_c.out.below hb)
        replace H_g := Lib.hid (H_g.out.below hb)
        replace H_x1 := Lib.hid (H_x1.out.below hb)
        replace H_x2 := Lib.hid (H_x2.out.below hb)
        replace hB := below_next hB hb
        clear hb
        go_wp2_with fail
        refine (mul_any _ _ _ _ _ (by exact H_g.out) (by exact H_c.out) (s_g.len _ (by omega)) (by omega)).mono ?_
        rintro e w5 ⟨v_x4, rfl, h_x4, hb⟩
        try simp only [val_limbs] at h_x4
        try simp only [val_one] at h_x4
        have H_x4 := Lib.hid h_x4
        clear h_x4
        have s_x4 : Sz ((Nat.gcd (val l_a) (val l_b)) * (val l_c)) 32 := s_g.mul s_c
        replace H_a := Lib.hid (H_a.out.below hb)
        replace H_b := Lib.hid (H_b.out.below hb)
        replace H_c := Lib.hid (H_c.out.below hb)
        replace H_g := Lib.hid (H_g.out.below hb)
        replace H_x1 := Lib.hid (H_x1.out.below hb)
        replace H_x2 := Lib.hid (H_x2.out.below hb)
        replace H_x3 := Lib.hid (H_x3.out.below hb)
        replace hB := below_next hB hb
        clear hb
        go_wp2_with fail
        refine (cmp_eq (by exact H_x3.out) (by exact H_x4.out) (by (try simp only [val_limbs]); (try simp only [val_one]); exact Nat.gcd_mul_right _ _ _)).mono ?_
        rintro e w6 ⟨rfl, hb⟩
        replace H_a := Lib.hid (H_a.out.below hb)
        replace H_b := Lib.hid (H_b.out.below hb)
        replace H_c := Lib.hid (H_c.out.below hb)
        replace H_g := Lib.hid (H_g.out.below hb)
        replace H_x1 := Lib.hid (H_x1.out.below hb)
        replace H_x2 := Lib.hid (H_x2.out.below hb)
        replace H_x3 := Lib.hid (H_x3.out.below hb)
        replace H_x4 := Lib.hid (H_x4.out.below hb)
        replace hB := below_next hB hb
        clear hb
        clear H_x1
        clear H_x2
        clear H_x3
        clear H_x4
        clear H_c
        go_wp2_with fail
        refine (cmp_gt (by exact H_g.out) (NatAt.nil _) (by (try simp only [val_limbs]); (try simp only [val_one]); exact Nat.pos_of_ne_zero HZ.out)).mono ?_
        rintro e w7 ⟨rfl, hb⟩
        replace H_a := Lib.hid (H_a.out.below hb)
        replace H_b := Lib.hid (H_b.out.below hb)
        replace H_g := Lib.hid (H_g.out.below hb)
        replace hB := below_next hB hb
        clear hb
        go_wp2_with fail
        refine (divmod_any _ _ _ _ _ (by exact H_a.out) (by exact H_g.out) (by omega) (s_g.len _ (by omega)) (by (try simp only [val_limbs]); (try simp only [val_one]); exact HZ.out)).mono ?_
        rintro e w8 ⟨v_x, v_r, rfl, h_x, h_r, hb⟩
        try simp only [val_limbs] at h_x
        try simp only [val_one] at h_x
        have H_x := Lib.hid h_x
        clear h_x
        have s_x : Sz ((val l_a) / (Nat.gcd (val l_a) (val l_b))) 24 := s_a.div _
        try simp only [val_limbs] at h_r
        try simp only [val_one] at h_r
        have H_r := Lib.hid h_r
        clear h_r
        have s_r : Sz ((val l_a) % (Nat.gcd (val l_a) (val l_b))) 24 := s_a.mod _
        replace H_a := Lib.hid (H_a.out.below hb)
        replace H_b := Lib.hid (H_b.out.below hb)
        replace H_g := Lib.hid (H_g.out.below hb)
        replace hB := below_next hB hb
        clear hb
        have e_r : limbs ((val l_a) % (Nat.gcd (val l_a) (val l_b))) = [] := by rw [Nat.mod_eq_zero_of_dvd (Nat.gcd_dvd_left _ _)]; rfl
        rw [e_r] at H_r
        obtain ⟨A_r, c_r, rfl, _, _⟩ := H_r.out.form
        clear H_r
        go_wp2_with fail
        refine (divmod_any _ _ _ _ _ (by exact H_b.out) (by exact H_g.out) (by omega) (s_g.len _ (by omega)) (by (try simp only [val_limbs]); (try simp only [val_one]); exact HZ.out)).mono ?_
        rintro e w9 ⟨v_y, v_s, rfl, h_y, h_s, hb⟩
        try simp only [val_limbs] at h_y
        try simp only [val_one] at h_y
        have H_y := Lib.hid h_y
        clear h_y
        have s_y : Sz ((val l_b) / (Nat.gcd (val l_a) (val l_b))) 24 := s_b.div _
        try simp only [val_limbs] at h_s
        try simp only [val_one] at h_s
        have H_s := Lib.hid h_s
        clear h_s
        have s_s : Sz ((val l_b) % (Nat.gcd (val l_a) (val l_b))) 24 := s_b.mod _
        replace H_a := Lib.hid (H_a.out.below hb)
        replace H_b := Lib.hid (H_b.out.below hb)
        replace H_g := Lib.hid (H_g.out.below hb)
        replace H_x := Lib.hid (H_x.out.below hb)
        replace hB := below_next hB hb
        clear hb
        have e_s : limbs ((val l_b) % (Nat.gcd (val l_a) (val l_b))) = [] := by rw [Nat.mod_eq_zero_of_dvd (Nat.gcd_dvd_right _ _)]; rfl
        rw [e_s] at H_s
        obtain ⟨A_s, c_s, rfl, _, _⟩ := H_s.out.form
        clear H_s
        go_wp2_with fail
        refine (gcd_any _ _ _ _ _ (by exact H_x.out) (by exact H_y.out) (s_x.len _ (by omega)) (s_y.len _ (by omega))).mono ?_
        rintro e w10 ⟨v_k, rfl, h_k, hb⟩
        try simp only [val_limbs] at h_k
        try simp only [val_one] at h_k
        have H_k := Lib.hid h_k
        clear h_k
        have s_k : Sz (Nat.gcd ((val l_a) / (Nat.gcd (val l_a) (val l_b))) ((val l_b) / (Nat.gcd (val l_a) (val l_b)))) 24 := s_x.gcd s_y
        replace H_a := Lib.hid (H_a.out.below hb)
        replace H_b := Lib.hid (H_b.out.below hb)
        replace H_g := Lib.hid (H_g.out.below hb)
        replace H_x := Lib.hid (H_x.out.below hb)
        replace H_y := Lib.hid (H_y.out.below hb)
        replace hB := below_next hB hb
        clear hb
        clear H_a
        clear H_b
        clear H_g
        clear H_x
        clear H_y
        go_wp2_with fail
        refine (cmp_eq (by exact H_k.out.alloc _) (by exact lit1 w10 _ 1 rfl (by omega)) (by (try simp only [val_limbs]); (try simp only [val_one]); exact gcd_quot HZ.out)).mono ?_
        rintro e w11 ⟨rfl, hb⟩
        replace hb := below_next (below_alloc0 w10 _) hb
        replace H_k := Lib.hid (H_k.out.below hb)
        replace hB := below_next hB hb
        clear hb
        go_wp2_with fail
        refine (alive_any _ (by exact HT.out.below hB)).mono ?_
        rintro e w12 ⟨rfl, hb⟩
        replace H_k := Lib.hid (H_k.out.below hb)
        replace hB := below_next hB hb
        clear hb
        go_wp2
        go_ret
        exact ⟨rfl, hB⟩
    · have tc : decide ((8 : Int) < (l_c.length : Int)) = true := by simp; omega
      go_enter Tryd.func10, Tryd.ntmps10
      go_wp2_with fail
      refine (light_yes _ _ _ _ _ (by exact H_a.out) (by exact H_b.out) n_a n_b).mono ?_
      rintro e w0 ⟨rfl, rfl⟩
      go_wp2_with fail
      refine (alive_any _ (by exact HT.out)).mono ?_
      rintro e w1 ⟨rfl, hb⟩
      have hB := hb
      clear hb
      go_wp2
      go_ret
      exact ⟨rfl, hB⟩
  · go_enter Tryd.func10, Tryd.ntmps10
    go_wp2_with fail
    refine (light_no _ _ _ _ _ (by exact H_a.out) (by exact H_b.out) hl).mono ?_
    rintro e w0 ⟨rfl, rfl⟩
    go_wp2_with fail
    refine (alive_any _ (by exact HT.out)).mono ?_
    rintro e w1 ⟨rfl, hb⟩
    have hB := hb
    clear hb
    go_wp2
    go_ret
    exact ⟨rfl, hB⟩
end Go.Proofs.YtelcjcgalkcadaaDoor
