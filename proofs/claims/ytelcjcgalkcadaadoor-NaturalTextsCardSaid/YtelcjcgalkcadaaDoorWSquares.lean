/- The law NaturalSquares: its walk. -/
import Derived.Test.YtelcjcgalkcadaaDoorLight
namespace Go.Proofs.YtelcjcgalkcadaaDoor
open Go.RowKit

theorem isqrt_square (n : Nat) : isqrt (n * n) = n := isqrt_unique (Nat.le_refl _) (Nat.mul_lt_mul_of_lt_of_lt (Nat.lt_succ_self n) (Nat.lt_succ_self n))
theorem val_one : val [1] = 1 := rfl
theorem cmp_le {va vb : Value} {xs ys : List Nat} {w : World} (ha : NatAt w va xs) (hb : NatAt w vb ys) (h : val xs ≤ val ys) : Calls Tryd.prog 20 #[va, vb] w fun e w' => ∃ oc : Int, e = .returned (.int .i64 oc) ∧ oc ≤ 0 ∧ Below w.heap.size w w' :=
  (cmp_below va vb xs ys w ha hb).mono fun _ _ ⟨he, hB, _⟩ => ⟨_, he, by unfold ord; split; omega; rw [if_neg (by omega)]; omega, hB⟩

set_option maxRecDepth 100000 in
set_option maxHeartbeats 4000000 in
theorem walk_NaturalSquares (v_a : Value) (l_a : List Nat) (w : World) (h_a : NatAt w v_a l_a) (htab : Tab w) : Calls Tryd.prog 11 #[v_a] w (GivesTrue w) := by
  have HT := Lib.hid htab
  have H_a := Lib.hid h_a
  clear htab h_a
  obtain ⟨A, c, rfl, g1, g2⟩ := H_a.out.form
  by_cases n_a : l_a.length ≤ 24
  · have s_a : Sz (val l_a) 24 := H_a.out.sz n_a
    have tc : decide ((24 : Int) < (l_a.length : Int)) = false := by simp; omega
    go_enter Tryd.func11, Tryd.ntmps11
    go_wp2_with fail
    refine (sqrt_any _ _ _ (by exact H_a.out) (by omega)).mono ?_
    rintro e w1 ⟨v_s, rfl, h_s, hb⟩
    try simp only [val_limbs] at h_s
    try simp only [val_one] at h_s
    have H_s := Lib.hid h_s
    clear h_s
    have s_s : Sz (isqrt (val l_a)) 24 := s_a.sqrt
    replace H_a := Lib.hid (H_a.out.below hb)
    have hB := hb
    clear hb
    go_wp2_with fail
    refine (add_any _ _ _ _ _ (by exact H_s.out.alloc _) (by exact lit1 w1 _ 1 rfl (by omega)) (s_s.len _ (by omega)) (by simp)).mono ?_
    rintro e w2 ⟨v_t, rfl, h_t, hb⟩
    try simp only [val_limbs] at h_t
    try simp only [val_one] at h_t
    have H_t := Lib.hid h_t
    clear h_t
    have s_t : Sz ((isqrt (val l_a)) + 1) 25 := s_s.add (Sz.one.more (by omega : 1 ≤ 24))
    replace hb := below_next (below_alloc0 w1 _) hb
    replace H_a := Lib.hid (H_a.out.below hb)
    replace H_s := Lib.hid (H_s.out.below hb)
    replace hB := below_next hB hb
    clear hb
    go_wp2_with fail
    refine (mul_any _ _ _ _ _ (by exact H_s.out) (by exact H_s.out) (s_s.len _ (by omega)) (s_s.len _ (by omega))).mono ?_
    rintro e w3 ⟨v_p, rfl, h_p, hb⟩
    try simp only [val_limbs] at h_p
    try simp only [val_one] at h_p
    have H_p := Lib.hid h_p
    clear h_p
    have s_p : Sz ((isqrt (val l_a)) * (isqrt (val l_a))) 48 := s_s.mul s_s
    replace H_a := Lib.hid (H_a.out.below hb)
    replace H_s := Lib.hid (H_s.out.below hb)
    replace H_t := Lib.hid (H_t.out.below hb)
    replace hB := below_next hB hb
    clear hb
    go_wp2_with fail
    refine (cmp_le (by exact H_p.out) (by exact H_a.out) (by (try simp only [val_limbs]); (try simp only [val_one]); exact isqrt_le _)).mono ?_
    rintro e w4 ⟨oc3, rfl, hoc3, hb⟩
    replace H_a := Lib.hid (H_a.out.below hb)
    replace H_s := Lib.hid (H_s.out.below hb)
    replace H_t := Lib.hid (H_t.out.below hb)
    replace H_p := Lib.hid (H_p.out.below hb)
    replace hB := below_next hB hb
    clear hb
    clear H_p
    go_wp2_with fail
    refine (mul_any _ _ _ _ _ (by exact H_t.out) (by exact H_t.out) (s_t.len _ (by omega)) (s_t.len _ (by omega))).mono ?_
    rintro e w5 ⟨v_p2, rfl, h_p2, hb⟩
    try simp only [val_limbs] at h_p2
    try simp only [val_one] at h_p2
    have H_p2 := Lib.hid h_p2
    clear h_p2
    have s_p2 : Sz (((isqrt (val l_a)) + 1) * ((isqrt (val l_a)) + 1)) 50 := s_t.mul s_t
    replace H_a := Lib.hid (H_a.out.below hb)
    replace H_s := Lib.hid (H_s.out.below hb)
    replace H_t := Lib.hid (H_t.out.below hb)
    replace hB := below_next hB hb
    clear hb
    go_wp2_with fail
    refine (cmp_gt (by exact H_p2.out) (by exact H_a.out) (by (try simp only [val_limbs]); (try simp only [val_one]); exact isqrt_gt _)).mono ?_
    rintro e w6 ⟨rfl, hb⟩
    replace H_a := Lib.hid (H_a.out.below hb)
    replace H_s := Lib.hid (H_s.out.below hb)
    replace H_t := Lib.hid (H_t.out.below hb)
    replace H_p2 := Lib.hid (H_p2.out.below hb)
    replace hB := below_next hB hb
    clear hb
    clear H_p2
    go_wp2_with fail
    refine (mul_any _ _ _ _ _ (by exact H_a.out) (by exact H_a.out) (by omega) (by omega)).mono ?_
    rintro e w7 ⟨v_m, rfl, h_m, hb⟩
    try simp only [val_limbs] at h_m
    try simp only [val_one] at h_m
    have H_m := Lib.hid h_m
    clear h_m
    have s_m : Sz ((val l_a) * (val l_a)) 48 := s_a.mul s_a
    replace H_a := Lib.hid (H_a.out.below hb)
    replace H_s := Lib.hid (H_s.out.below hb)
    replace H_t := Lib.hid (H_t.out.below hb)
    replace hB := below_next hB hb
    clear hb
    go_wp2_with fail
    refine (sqrt_any _ _ _ (by exact H_m.out) (s_m.len _ (by omega))).mono ?_
    rintro e w8 ⟨v_r, rfl, h_r, hb⟩
    try simp only [val_limbs] at h_r
    try simp only [val_one] at h_r
    have H_r := Lib.hid h_r
    clear h_r
    have s_r : Sz (isqrt ((val l_a) * (val l_a))) 48 := s_m.sqrt
    replace H_a := Lib.hid (H_a.out.below hb)
    replace H_s := Lib.hid (H_s.out.below hb)
    replace H_t := Lib.hid (H_t.out.below hb)
    replace H_m := Lib.hid (H_m.out.below hb)
    replace hB := below_next hB hb
    clear hb
    go_wp2_with fail
    refine (cmp_eq (by exact H_r.out) (by exact H_a.out) (by (try simp only [val_limbs]); (try simp only [val_one]); exact isqrt_square _)).mono ?_
    rintro e w9 ⟨rfl, hb⟩
    replace H_a := Lib.hid (H_a.out.below hb)
    replace H_s := Lib.hid (H_s.out.below hb)
    replace H_t := Lib.hid (H_t.out.below hb)
    replace H_m := Lib.hid (H_m.out.below hb)
    replace H_r := Lib.hid (H_r.out.below hb)
    replace hB := below_next hB hb
    clear hb
    go_wp2_with fail
    refine (alive_any _ (by exact HT.out.below hB)).mono ?_
    rintro e w10 ⟨rfl, hb⟩
    replace H_a := Lib.hid (H_a.out.below hb)
    replace H_s := Lib.hid (H_s.out.below hb)
    replace H_t := Lib.hid (H_t.out.below hb)
    replace H_m := Lib.hid (H_m.out.below hb)
    replace H_r := Lib.hid (H_r.out.below hb)
    replace hB := below_next hB hb
    clear hb
    go_wp2
    go_ret
    exact ⟨rfl, hB⟩
  · have tc : decide ((24 : Int) < (l_a.length : Int)) = true := by simp; omega
    go_enter Tryd.func11, Tryd.ntmps11
    go_wp2_with fail
    refine (alive_any _ (by exact HT.out)).mono ?_
    rintro e w1 ⟨rfl, hb⟩
    have hB := hb
    clear hb
    go_wp2
    go_ret
    exact ⟨rfl, hB⟩
end Go.Proofs.YtelcjcgalkcadaaDoor
