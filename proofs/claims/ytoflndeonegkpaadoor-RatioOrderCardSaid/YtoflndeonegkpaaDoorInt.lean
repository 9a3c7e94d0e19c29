/- Integers as structs of a sign and limbs; integer.signed, Norm, Neg, Of. -/
import Derived.Test.YtoflndeonegkpaaDoorDiv
import Derived.Deep.RegionHeld3
namespace Go.Proofs.YtoflndeonegkpaaDoor
open Go.RowKit

/-- The integer of a sign and limbs. -/
def zval (b : Bool) (xs : List Nat) : Int := if b then -(val xs : Int) else (val xs : Int)
theorem zval_true (xs : List Nat) : zval true xs = -(val xs : Int) := rfl
theorem zval_false (xs : List Nat) : zval false xs = (val xs : Int) := rfl
theorem zval_abs (b : Bool) (xs : List Nat) : (zval b xs).natAbs = val xs := by cases b <;> simp [zval]
/-- The sign b and the slice m are, in the world w, the integer z in at most k limbs. -/
def IntAt (w : World) (b : Bool) (m : Value) (z : Int) (k : Nat) : Prop := ∃ xs, NatAt w m xs ∧ xs.length ≤ k ∧ z = zval b xs
/-- The same in normal form. -/
def ZAt (w : World) (b : Bool) (m : Value) (z : Int) : Prop := b = decide (z < 0) ∧ NatAt w m (limbs z.natAbs)
theorem zval_norm (z : Int) : zval (decide (z < 0)) (limbs z.natAbs) = z := by
  unfold zval
  rw [val_limbs]
  by_cases h : z < 0
  · rw [decide_eq_true h]; simp; omega
  · rw [decide_eq_false h]; simp; omega
theorem ZAt.int {w : World} {b : Bool} {m : Value} {z : Int} (h : ZAt w b m z) {k : Nat} (hk : (limbs z.natAbs).length ≤ k) : IntAt w b m z k := by
  obtain ⟨rfl, h2⟩ := h
  exact ⟨_, h2, hk, (zval_norm z).symm⟩
section
variable {w w' : World} {b : Bool} {m : Value} {z : Int} {k j : Nat}
theorem IntAt.below (h : IntAt w b m z k) (hb : Below w.heap.size w w') : IntAt w' b m z k := by obtain ⟨xs, h1, h2⟩ := h; exact ⟨xs, h1.below hb, h2⟩
theorem IntAt.alloc (h : IntAt w b m z k) (o : Obj) : IntAt (w.alloc o) b m z k := by obtain ⟨xs, h1, h2⟩ := h; exact ⟨xs, h1.alloc o, h2⟩
theorem IntAt.more (h : IntAt w b m z k) (hk : k ≤ j) : IntAt w b m z j := by obtain ⟨xs, h1, h2, h3⟩ := h; exact ⟨xs, h1, by omega, h3⟩
theorem ZAt.below (h : ZAt w b m z) (hb : Below w.heap.size w w') : ZAt w' b m z := ⟨h.1, h.2.below hb⟩
theorem ZAt.alloc (h : ZAt w b m z) (o : Obj) : ZAt (w.alloc o) b m z := ⟨h.1, h.2.alloc o⟩
end
/-- A function's result: an integer in normal form. -/
def GivesZ (w : World) (z : Int) (e : Ending) (w' : World) : Prop := ∃ b A n c, e = .returned (.agg #[.bool b, .slice A n c]) ∧ ZAt w' b (.slice A n c) z ∧ Below w.heap.size w w'
theorem cellKeep {W w' : World} {p : Addr} {u : Value} (hb : Below W.heap.size W w') (h : W.cell? p = some u) : w'.cell? p = some u := (hb.cell (World.block_lt_of_cell? W p h)).trans h

/-! ### Boxes: blocks of one integer -/
/-- Block g holds the sign x and the slice y. -/
def Box (w : World) (g : Nat) (x y : Value) : Prop := w.heap[g]? = some (.cells #[x, y] 25 (0, 0))
/-- The world with a struct stored in block g. -/
def stored (w : World) (g : Nat) (x y : Value) : World := (w.setCell ⟨g, 0, none⟩ x).setCell ⟨g, 1, none⟩ y
section
variable {w w' : World} {g : Nat} {x y u v : Value}
theorem Box.new (hg : w.heap.size = g) : Box (w.alloc (.cells #[x, y] 25)) g x y := by subst hg; exact heap_alloc_new w _
theorem Box.lt (h : Box w g x y) : g < w.heap.size := by
  rcases Nat.lt_or_ge g w.heap.size with hlt | hge
  · exact hlt
  · unfold Box at h; rw [Array.getElem?_eq_none hge] at h; cases h
theorem Box.alloc (h : Box w g x y) (o : Obj) : Box (w.alloc o) g x y := (Below.heap_alloc w o g h.lt).trans h
theorem Box.below (h : Box w g x y) (hb : Below w.heap.size w w') : Box w' g x y := (hb.block g h.lt).trans h
theorem Box.cell0 (h : Box w g x y) : w.cell? ⟨g, 0, none⟩ = some x := by rw [cell_of_row w g 0 _ _ _ h]; rfl
theorem Box.cell1 (h : Box w g x y) : w.cell? ⟨g, 1, none⟩ = some y := by rw [cell_of_row w g 1 _ _ _ h]; rfl
theorem Box.fro (h : Box w g x y) (i : Nat) : w.frozen? ⟨g, i, none⟩ = false := by unfold Box at h; simp [World.frozen?, h]
theorem Box.set0 (h : Box w g x y) (u : Value) : Box (w.setCell ⟨g, 0, none⟩ u) g u y := by
  unfold Box at h ⊢
  simp only [World.setCell, Array.getElem?_modify, h]
  simp
theorem Box.set1 (h : Box w g x y) (u : Value) : Box (w.setCell ⟨g, 1, none⟩ u) g x u := by
  unfold Box at h ⊢
  simp only [World.setCell, Array.getElem?_modify, h]
  simp
theorem Box.store (h : Box w g x y) (u v : Value) : Box (stored w g u v) g u v := (h.set0 u).set1 v
theorem Box.far {g' : Nat} (h : Box w g x y) (hg : g ≠ g') (u v : Value) : Box (stored w g' u v) g x y := by
  unfold stored Box
  rw [Below.heap_setCell _ _ _ g hg, Below.heap_setCell _ _ _ g hg]; exact h
theorem NatAt.store {m : Value} {xs : List Nat} {b : Bool} (h : NatAt w m xs) (hB : Box w g (.bool b) y) (hy : ∀ k n, y ≠ .int k n) (u v : Value) : NatAt (stored w g u v) m xs := by
  obtain ⟨A, c, hv, h1, h2, h3, h4⟩ := h
  refine ⟨A, c, hv, h1, h2, h3, fun hn => ?_⟩
  obtain ⟨b', o, ha, hb, hc⟩ := h4 hn
  have hbg : b' ≠ g := by
    rintro rfl
    have h5 := hc 0 hn
    rw [cell_of_row w b' (o + 0) _ _ _ hB] at h5
    match o, h5 with
    | 0, h5 => simp at h5
    | 1, h5 => simp at h5; exact hy _ _ h5
    | o + 2, h5 => simp at h5
  refine ⟨b', o, ha, by simpa [stored] using hb, fun j hj => ?_⟩
  unfold stored
  rw [World.cell?_setCell_far _ _ _ _ (by exact fun e => hbg e.symm), World.cell?_setCell_far _ _ _ _ (by exact fun e => hbg e.symm)]
  exact hc j hj
theorem NatAt.noInt {m : Value} {xs : List Nat} (h : NatAt w m xs) : ∀ k n, m ≠ .int k n := by
  obtain ⟨A, c, hv, _⟩ := h
  intro k n e; rw [hv] at e; cases e
theorem nil_noInt : ∀ k n, (.slice none 0 0 : Value) ≠ .int k n := fun _ _ e => by cases e
theorem below_stored {B : Nat} {a : World} (h : Below B a w) (hg : B ≤ g) (u v : Value) : Below B a (stored w g u v) := (h.setCell hg _).setCell hg _
end
theorem ZAt.store {w : World} {g : Nat} {b c : Bool} {m y : Value} {z : Int} (h : ZAt w b m z) (hB : Box w g (.bool c) y) (hy : ∀ k n, y ≠ .int k n) (u v : Value) : ZAt (stored w g u v) b m z := ⟨h.1, h.2.store hB hy u v⟩
theorem IntAt.store {w : World} {g k : Nat} {b c : Bool} {m y : Value} {z : Int} (h : IntAt w b m z k) (hB : Box w g (.bool c) y) (hy : ∀ k n, y ≠ .int k n) (u v : Value) : IntAt (stored w g u v) b m z k := by
  obtain ⟨xs, h1, h2⟩ := h; exact ⟨xs, h1.store hB hy u v, h2⟩
theorem sign_len (z : Int) (h : z < 0) : 0 < (limbs z.natAbs).length := List.length_pos_iff.2 (limbs_ne_nil (by omega))

section
variable {w : World} {m : Value} {xs : List Nat}
theorem zat_pos (h : NatAt w m (limbs (val xs))) : ZAt w false m (zval false xs) := ⟨by rw [zval_false, eq_comm, decide_eq_false_iff_not]; omega, by rw [zval_abs]; exact h⟩
theorem zat_zero (h : NatAt w m (limbs (val xs))) (h0 : val xs = 0) : ZAt w false m (zval true xs) := ⟨by rw [zval_true, h0]; rfl, by rw [zval_abs]; exact h⟩
theorem zat_neg (h : NatAt w m (limbs (val xs))) (h0 : val xs ≠ 0) : ZAt w true m (zval true xs) := ⟨by rw [zval_true, eq_comm, decide_eq_true_iff]; omega, by rw [zval_abs]; exact h⟩
end

set_option maxHeartbeats 1000000 in
theorem signed_any (b : Bool) (m : Value) (xs : List Nat) (w : World) (h : NatAt w m xs) (hl : xs.length ≤ 1000000) : Calls Tryd.prog 56 #[.bool b, m] w (GivesZ w (zval b xs)) := by
  have H := Lib.hid h
  clear h
  go_enter Tryd.func56, Tryd.ntmps56
  go_wp2_with fail
  refine (norm_any _ _ _ (by exact H.out.alloc _) hl).mono ?_
  rintro e w1 ⟨v1, rfl, h1, hb1⟩
  have HB := Lib.hid ((Box.new (w := w) (x := .bool false) (y := .slice none 0 0) rfl).below hb1)
  have HW := Lib.hid (below_next (below_alloc0 w _) hb1)
  have c0 := HB.out.cell0
  have c1 := HB.out.cell1
  have f0 := HB.out.fro 0
  have f1 := HB.out.fro 1
  have H1 := Lib.hid h1
  clear hb1
  obtain ⟨A, c, rfl, g1, g2⟩ := h1.form
  clear h1
  cases b
  · go_wp2
    exact bodyPost_ret (v := .agg #[.bool false, .slice A (limbs (val xs)).length c]) (by simp [results, Tryd.results56, go_sem, c0, c1]) rfl ⟨_, _, _, _, rfl, (zat_pos H1.out).store HB.out nil_noInt _ _, below_stored HW.out (Nat.le_refl _) _ _⟩
  · by_cases h0 : val xs = 0
    · have hz : (limbs (val xs)).length = 0 := by rw [h0]; rfl
      have hzi : decide (0 < (limbs (val xs)).length) = false := by rw [hz]; rfl
      have H0 := Lib.hid h0
      clear hz h0
      go_wp2
      exact bodyPost_ret (v := .agg #[.bool false, .slice A (limbs (val xs)).length c]) (by simp [results, Tryd.results56, go_sem, c0, c1]) rfl ⟨_, _, _, _, rfl, (zat_zero H1.out H0.out).store HB.out nil_noInt _ _, below_stored HW.out (Nat.le_refl _) _ _⟩
    · have hz : 0 < (limbs (val xs)).length := List.length_pos_iff.2 (limbs_ne_nil h0)
      have H0 := Lib.hid h0
      clear h0
      go_wp2
      exact bodyPost_ret (v := .agg #[.bool true, .slice A (limbs (val xs)).length c]) (by simp [results, Tryd.results56, go_sem, c0, c1]) rfl ⟨_, _, _, _, rfl, (zat_neg H1.out H0.out).store HB.out nil_noInt _ _, below_stored HW.out (Nat.le_refl _) _ _⟩

set_option maxHeartbeats 1000000 in
theorem inorm_any (b : Bool) (m : Value) (z : Int) (k : Nat) (w : World) (h : IntAt w b m z k) (hk : k ≤ 1000000) : Calls Tryd.prog 43 #[.agg #[.bool b, m]] w (GivesZ w z) := by
  obtain ⟨xs, h1, h2, rfl⟩ := h
  have H := Lib.hid h1
  clear h1
  go_enter Tryd.func43, Tryd.ntmps43
  go_wp2_with fail
  refine (signed_any _ _ _ _ (by exact (H.out.alloc _).alloc _) (by omega)).mono ?_
  rintro e w1 ⟨b1, A1, n1, k1, rfl, h1, hb1⟩
  have HB := Lib.hid ((Box.new (w := w.alloc (.cells #[.bool b, m] 25)) (g := w.heap.size + 1) (x := .bool false) (y := .slice none 0 0) (by simp)).below hb1)
  have HW := Lib.hid (below_next (below_two w _ _) hb1)
  have c0 := HB.out.cell0
  have c1 := HB.out.cell1
  have f0 := HB.out.fro 0
  have f1 := HB.out.fro 1
  have H1 := Lib.hid h1
  clear hb1 h1
  go_wp2
  exact bodyPost_ret (v := .agg #[.bool b1, .slice A1 n1 k1]) (by simp [results, Tryd.results43, go_sem, c0, c1]) rfl ⟨_, _, _, _, rfl, H1.out.store HB.out nil_noInt _ _, below_stored HW.out (Nat.le_succ _) _ _⟩

set_option maxHeartbeats 1000000 in
theorem ineg_any (b : Bool) (m : Value) (z : Int) (k : Nat) (w : World) (h : IntAt w b m z k) (hk : k ≤ 1000000) : Calls Tryd.prog 37 #[.agg #[.bool b, m]] w (GivesZ w (-z)) := by
  obtain ⟨xs, h1, h2, rfl⟩ := h
  have H := Lib.hid h1
  clear h1
  have hn : -zval b xs = zval (!b) xs := by cases b <;> simp [zval]
  rw [hn]
  clear hn
  go_enter Tryd.func37, Tryd.ntmps37
  go_wp2_with fail
  refine (signed_any _ _ _ _ (by exact (H.out.alloc _).alloc _) (by omega)).mono ?_
  rintro e w1 ⟨b1, A1, n1, k1, rfl, h1, hb1⟩
  have HB := Lib.hid ((Box.new (w := w.alloc (.cells #[.bool b, m] 25)) (g := w.heap.size + 1) (x := .bool false) (y := .slice none 0 0) (by simp)).below hb1)
  have HW := Lib.hid (below_next (below_two w _ _) hb1)
  have c0 := HB.out.cell0
  have c1 := HB.out.cell1
  have f0 := HB.out.fro 0
  have f1 := HB.out.fro 1
  have H1 := Lib.hid h1
  clear hb1 h1
  go_wp2
  exact bodyPost_ret (v := .agg #[.bool b1, .slice A1 n1 k1]) (by simp [results, Tryd.results37, go_sem, c0, c1]) rfl ⟨_, _, _, _, rfl, H1.out.store HB.out nil_noInt _ _, below_stored HW.out (Nat.le_succ _) _ _⟩
end Go.Proofs.YtoflndeonegkpaaDoor
