/- garmentlaw01.alive and light. -/
import Derived.Test.YtelcjcgalkcadaaDoorText
import Derived.Test.YtelcjcgalkcadaaDoorSame
namespace Go.Proofs.YtelcjcgalkcadaaDoor
open Go.RowKit Go.Lib

theorem lit1 (W : World) (g x : Nat) (hg : W.heap.size = g) (hx : x < 4294967296) : NatAt (W.alloc (.cells #[.int .u32 (x : Int)] 42)) (.slice (some ⟨g, 0, none⟩) 1 1) [x] := by
  subst hg
  have h : Own (W.alloc (.cells #[.int .u32 (x : Int)] 42)) W.heap.size [x] := heap_alloc_new W _
  exact h.natAt (Lim.cons hx lim_nil) (Nat.le_refl _) (by simp)
theorem lit2 (W : World) (g x y : Nat) (hg : W.heap.size = g) (hx : x < 4294967296) (hy : y < 4294967296) : NatAt (W.alloc (.cells #[.int .u32 (x : Int), .int .u32 (y : Int)] 42)) (.slice (some ⟨g, 0, none⟩) 2 2) [x, y] := by
  subst hg
  have h : Own (W.alloc (.cells #[.int .u32 (x : Int), .int .u32 (y : Int)] 42)) W.heap.size [x, y] := heap_alloc_new W _
  exact h.natAt (Lim.cons hx (Lim.cons hy lim_nil)) (Nat.le_refl _) (by simp)
theorem same_eq (va vb : Value) (us vs : List Nat) (w : World) (ha : NatAt w va us) (hb : NatAt w vb vs) (h : us = vs) : Calls Tryd.prog 15 #[va, vb] w fun e w' => e = .returned (.bool true) ∧ Below w.heap.size w w' := by
  refine (same_any va vb us vs w ha hb).mono ?_
  rintro e w' ⟨rfl, n, rfl⟩
  exact ⟨by rw [decide_eq_true h], below_drew0 w n⟩
theorem below_two (w : World) (a b : Obj) : Below w.heap.size w ((w.alloc a).alloc b) := below_next (below_alloc0 w a) (below_alloc0 _ b)
/-- The law's function returns true; nothing that was there has turned. -/
def GivesTrue (w : World) (e : Ending) (w' : World) : Prop := e = .returned (.bool true) ∧ Below w.heap.size w w'
theorem limbs_big : limbs 4294967296 = [0, 1] := by rw [limbs_pos (by omega), limbs_pos (by omega)]; rfl
theorem limbs_small {n : Nat} (h : n < 4294967296) (h0 : n ≠ 0) : limbs n = [n] := by
  rw [limbs_pos h0, Nat.mod_eq_of_lt h, Nat.div_eq_of_lt h, limbs_zero]

theorem limbs_prod : limbs (val [4294967295] * val [4294967295]) = [1, 4294967294] := by
  rw [show val [4294967295] * val [4294967295] = 18446744065119617025 from rfl, limbs_pos (by omega), limbs_pos (by omega)]; rfl
theorem dec_big : decDigits (val [0, 1]) = [52, 50, 57, 52, 57, 54, 55, 50, 57, 54] := by
  rw [show val [0, 1] = 4294967296 from rfl]
  repeat (first | rw [dec_ge (by omega)] | rw [dec_lt (by omega)])
  rfl
set_option maxRecDepth 100000 in
set_option maxHeartbeats 4000000 in
theorem alive_any (w : World) (htab : Tab w) : Calls Tryd.prog 14 #[] w (GivesTrue w) := by
  have HT := Lib.hid htab
  clear htab
  go_enter Tryd.func14, Tryd.ntmps14
  go_wp2_with fail
  refine (divmod_any _ _ [17] [5, 0] _ (by exact (lit1 w _ 17 rfl (by omega)).alloc _) (by exact lit2 (w.alloc _) _ 5 0 (by simp) (by omega) (by omega)) (by simp) (by simp) (by simp [val])).mono ?_
  rintro e w1 ⟨v1, v2, rfl, h1, h2, hb1⟩
  have H1 := Lib.hid h1
  have H2 := Lib.hid h2
  have hw1 : Below w.heap.size w w1 := below_next (below_two w _ _) hb1
  clear h1 h2 hb1
  go_wp2_with fail
  refine (sub_any _ _ [3] [5] _ (by exact (lit1 w1 _ 3 rfl (by omega)).alloc _) (by exact lit1 (w1.alloc _) _ 5 (by simp) (by omega)) (by simp)).mono ?_
  rintro e w2 ⟨v3, rfl, h3, hb2⟩
  have hw2 : Below w1.heap.size w1 w2 := below_next (below_two w1 _ _) hb2
  clear h3 hb2
  rw [show decide (val [5] ≤ val [3]) = false from by simp [val]]
  go_wp2_with fail
  refine (parse_any ⟨#[52, 50, 57, 52, 57, 54, 55, 50, 57, 54]⟩ _ (by decide)).mono ?_
  rintro e w3 ⟨v4, rfl, h4, hb3⟩
  rw [show parseErr (ByteArray.mk #[52, 50, 57, 52, 57, 54, 55, 50, 57, 54]).data.toList = 0 from by decide]
  rw [show parseNum (ByteArray.mk #[52, 50, 57, 52, 57, 54, 55, 50, 57, 54]).data.toList = limbs 4294967296 from by rw [parseNum, if_pos (by decide)]; rfl] at h4
  have H4 := Lib.hid h4
  clear h4
  -- n, q, r
  go_wp2_with fail
  refine (same_eq _ _ _ [0, 1] _ (by exact H4.out.alloc _) (by exact lit2 w3 _ 0 1 rfl (by omega) (by omega)) limbs_big).mono ?_
  rintro e w4 ⟨rfl, hb4⟩
  have hw4 : Below w2.heap.size w2 w4 := below_next hb3 (below_next (below_alloc0 w3 _) hb4)
  clear hb3 hb4
  have H1b := Lib.hid ((H1.out.below hw2).below hw4)
  go_wp2_with fail
  refine (same_eq _ _ _ [3] _ (by exact H1b.out.alloc _) (by exact lit1 w4 _ 3 rfl (by omega)) (limbs_small (n := 3) (by omega) (by omega))).mono ?_
  rintro e w5 ⟨rfl, hb5⟩
  have hw5 : Below w4.heap.size w4 w5 := below_next (below_alloc0 w4 _) hb5
  clear hb5
  have H2b := Lib.hid (((H2.out.below hw2).below hw4).below hw5)
  go_wp2_with fail
  refine (same_eq _ _ _ [2] _ (by exact H2b.out.alloc _) (by exact lit1 w5 _ 2 rfl (by omega)) (limbs_small (n := 2) (by omega) (by omega))).mono ?_
  rintro e w6 ⟨rfl, hb6⟩
  have hw6 : Below w5.heap.size w5 w6 := below_next (below_alloc0 w5 _) hb6
  clear hb6
  -- the product
  go_wp2_with fail
  refine (mul_any _ _ [4294967295] [4294967295] _ (by exact (lit1 w6 _ 4294967295 rfl (by omega)).alloc _) (by exact lit1 (w6.alloc _) _ 4294967295 (by simp) (by omega)) (by simp) (by simp)).mono ?_
  rintro e w7 ⟨v7, rfl, h7, hb7⟩
  have hw7 : Below w6.heap.size w6 w7 := below_next (below_two w6 _ _) hb7
  have H7 := Lib.hid h7
  clear h7 hb7
  go_wp2_with fail
  refine (same_eq _ _ _ [1, 4294967294] _ (by exact H7.out.alloc _) (by exact lit2 w7 _ 1 4294967294 rfl (by omega) (by omega)) limbs_prod).mono ?_
  rintro e w8 ⟨rfl, hb8⟩
  have hw8 : Below w7.heap.size w7 w8 := below_next (below_alloc0 w7 _) hb8
  clear hb8
  -- the text
  have hw08 : Below w.heap.size w w8 := below_next (below_next (below_next (below_next (below_next (below_next hw1 hw2) hw4) hw5) hw6) hw7) hw8
  have HT8 := Lib.hid (HT.out.below hw08)
  go_wp2_with fail
  refine (text_any _ [0, 1] _ (by exact lit2 w8 _ 0 1 rfl (by omega) (by omega)) (by simp) (by exact HT8.out.below (below_alloc0 w8 _))).mono ?_
  rintro e w9 ⟨rfl, hb9⟩
  have hw9 : Below w8.heap.size w8 w9 := below_next (below_alloc0 w8 _) hb9
  clear hb9
  rw [show decDigits (val [0, 1]) = [52, 50, 57, 52, 57, 54, 55, 50, 57, 54] from dec_big]
  -- the root
  go_wp2_with fail
  refine (sqrt_any _ [99] _ (by exact lit1 w9 _ 99 rfl (by omega)) (by simp)).mono ?_
  rintro e w10 ⟨v10, rfl, h10, hb10⟩
  have hw10 : Below w9.heap.size w9 w10 := below_next (below_alloc0 w9 _) hb10
  have H10 := Lib.hid h10
  clear h10 hb10
  go_wp2_with fail
  refine (same_eq _ _ _ [9] _ (by exact H10.out.alloc _) (by exact lit1 w10 _ 9 rfl (by omega)) (by rw [show val [99] = 99 from rfl, isqrt_unique (r := 9) (by omega) (by omega)]; exact limbs_small (by omega) (by omega))).mono ?_
  rintro e w11 ⟨rfl, hb11⟩
  have hw11 : Below w10.heap.size w10 w11 := below_next (below_alloc0 w10 _) hb11
  clear hb11
  -- the greatest common divisor
  go_wp2_with fail
  refine (gcd_any _ _ [12] [18] _ (by exact (lit1 w11 _ 12 rfl (by omega)).alloc _) (by exact lit1 (w11.alloc _) _ 18 (by simp) (by omega)) (by simp) (by simp)).mono ?_
  rintro e w12 ⟨v12, rfl, h12, hb12⟩
  have hw12 : Below w11.heap.size w11 w12 := below_next (below_two w11 _ _) hb12
  have H12 := Lib.hid h12
  clear h12 hb12
  go_wp2_with fail
  refine (same_eq _ _ _ [6] _ (by exact H12.out.alloc _) (by exact lit1 w12 _ 6 rfl (by omega)) (by rw [show Nat.gcd (val [12]) (val [18]) = 6 from by decide]; exact limbs_small (by omega) (by omega))).mono ?_
  rintro e w13 ⟨rfl, hb13⟩
  have hw13 : Below w12.heap.size w12 w13 := below_next (below_alloc0 w12 _) hb13
  clear hb13
  -- the comparison
  go_wp2_with fail
  refine (cmp_below _ _ [2] [1, 1] _ (by exact (lit1 w13 _ 2 rfl (by omega)).alloc _) (by exact lit2 (w13.alloc _) _ 1 1 (by simp) (by omega) (by omega))).mono ?_
  rintro e w14 ⟨rfl, hb14, _⟩
  rw [show ord (val [2]) (val [1, 1]) = -1 from ord_lt (by simp [val])]
  have hw14 : Below w13.heap.size w13 w14 := below_next (below_two w13 _ _) hb14
  clear hb14
  go_wp2
  go_ret
  exact ⟨rfl, below_next (below_next (below_next (below_next (below_next (below_next hw08 hw9) hw10) hw11) hw12) hw13) hw14⟩
end Go.Proofs.YtelcjcgalkcadaaDoor
