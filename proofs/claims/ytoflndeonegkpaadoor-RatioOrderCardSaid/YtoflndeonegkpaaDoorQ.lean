/- Ratios in memory; regions that draw their order, step by step. -/
import Derived.Test.YtoflndeonegkpaaDoorQNum
import Derived.Test.YtoflndeonegkpaaDoorGcd
namespace Go.Proofs.YtoflndeonegkpaaDoor
open Go.RowKit

section
variable {P : Program} {md : Region.Mode} {ops : Array Oper} {Q : Exit → Act → World → Prop} {S : World → Prop}
theorem wpAnyH_takeQ {fuel : Nat} {listed : Array Bool} {a : Act} {w : World} (i : Nat) {oi : Oper} {v : Value} (hQ : ∀ (d : Option Tmp) (v : Value) c a w, Q (.panic c) (a.put d v) w → Q (.panic c) a w) (hi : ops[i]? = some oi)
    (hs : Region.noSelect ops = true) (hf : Region.free md ops listed i = true) (hr : (Region.ready md ops listed).contains i = true) (hw : Region.wanted oi (yielded ops a.tmps) = true)
    (hy : ∀ w, S w → (execOp a.eval oi).run P w = .ok (.value v) w) (hS : S w)
    (h : wpAnyH P md ops Q S fuel (listed.setIfInBounds i true) (a.put oi.dst v) w) : wpAnyH P md ops Q S (fuel + 1) listed a w :=
  wpAnyH_take hi hs hf hr (hQ _ _) (.inl ⟨hw, hy⟩) hS h
theorem wpAnyH_skipQ {fuel : Nat} {listed : Array Bool} {a : Act} {w : World} (i : Nat) {oi : Oper} (hQ : ∀ (d : Option Tmp) (v : Value) c a w, Q (.panic c) (a.put d v) w → Q (.panic c) a w) (hi : ops[i]? = some oi)
    (hs : Region.noSelect ops = true) (hf : Region.free md ops listed i = true) (hr : (Region.ready md ops listed).contains i = true) (hw : Region.wanted oi (yielded ops a.tmps) = false) (hS : S w)
    (h : wpAnyH P md ops Q S fuel (listed.setIfInBounds i true) (a.put oi.dst undef) w) : wpAnyH P md ops Q S (fuel + 1) listed a w :=
  wpAnyH_take hi hs hf hr (hQ _ _) (.inr ⟨hw, rfl⟩) hS h
end
theorem belowDrewQ (w : World) : Below w.heap.size w w.drew := below_drewN (Below.refl _ _) 1

section
variable {P : Program} {md : Region.Mode} {ops : Array Oper} {Q : Exit → Act → World → Prop} {S : World → Prop}
theorem wpAnyH_key4R {f0 : Nat} {L0 : Array Bool} {a0 : Act} {w0 : World} (f : Nat) (L : Array Bool) (d1 d2 d3 d4 : Nat) (J : Value → Value → Value → Value → World → Prop)
    (hkey : ∀ v1 v2 v3 v4 wx, J v1 v2 v3 v4 wx → wpAnyH P md ops Q S f L ((((a0.put (some d1) v1).put (some d2) v2).put (some d3) v3).put (some d4) v4) wx)
    (h : (∀ v1 v2 v3 v4 wx, J v1 v2 v3 v4 wx → wpAnyH P md ops Q S f L ((((a0.put (some d1) v1).put (some d2) v2).put (some d3) v3).put (some d4) v4) wx) → wpAnyH P md ops Q S f0 L0 a0 w0) : wpAnyH P md ops Q S f0 L0 a0 w0 := h hkey
theorem wpAnyH_atR {f : Nat} {listed : Array Bool} {a : Act} {w : World} (L : Array Bool) (hl : listed = L) (h : wpAnyH P md ops Q S f L a w) : wpAnyH P md ops Q S f listed a w := hl ▸ h
end
theorem wp_region_named {P : Program} {ops : Array Oper} {Q : Exit → Act → World → Prop} {S : World → Prop} {id : Nat} {a : Act} {w : World} (hm : P.follows .mixedOrders = true) (hS : S w.drew)
    (h : ∀ V, Below w.heap.size w V → S V → wpAnyH P .any ops (NoPanic Q) S ops.size (Array.replicate ops.size false) a V) : (Code.region id ops true).wp P Q a w :=
  wp_region_noPanic (wp_region_held_drew hm hS (h _ (belowDrewQ w)))

/-! ### Boxes of ratios -/
def RBox (w : World) (g : Nat) (x y z : Value) : Prop := w.heap[g]? = some (.cells #[x, y, z] 27 (0, 0))
section
variable {w w' : World} {g : Nat} {x y z u v : Value}
theorem RBox.new (hg : w.heap.size = g) : RBox (w.alloc (.cells #[x, y, z] 27)) g x y z := by subst hg; exact heap_alloc_new w _
theorem RBox.lt (h : RBox w g x y z) : g < w.heap.size := by
  rcases Nat.lt_or_ge g w.heap.size with hlt | hge
  · exact hlt
  · unfold RBox at h; rw [Array.getElem?_eq_none hge] at h; cases h
theorem RBox.alloc (h : RBox w g x y z) (o : Obj) : RBox (w.alloc o) g x y z := (Below.heap_alloc w o g h.lt).trans h
theorem RBox.below (h : RBox w g x y z) (hb : Below w.heap.size w w') : RBox w' g x y z := (hb.block g h.lt).trans h
theorem RBox.cell0 (h : RBox w g x y z) : w.cell? ⟨g, 0, none⟩ = some x := by rw [cell_of_row w g 0 _ _ _ h]; rfl
theorem RBox.cell1 (h : RBox w g x y z) : w.cell? ⟨g, 1, none⟩ = some y := by rw [cell_of_row w g 1 _ _ _ h]; rfl
theorem RBox.cell2 (h : RBox w g x y z) : w.cell? ⟨g, 2, none⟩ = some z := by rw [cell_of_row w g 2 _ _ _ h]; rfl
theorem RBox.c3 (h : RBox w g x y z) : w.cell? ⟨g, 0, none⟩ = some x ∧ w.cell? ⟨g, 1, none⟩ = some y ∧ w.cell? ⟨g, 2, none⟩ = some z := ⟨h.cell0, h.cell1, h.cell2⟩
theorem RBox.fro (h : RBox w g x y z) (i : Nat) : w.frozen? ⟨g, i, none⟩ = false := by unfold RBox at h; simp [World.frozen?, h]
theorem RBox.set0 (h : RBox w g x y z) (u : Value) : RBox (w.setCell ⟨g, 0, none⟩ u) g u y z := by
  unfold RBox at h ⊢
  simp only [World.setCell, Array.getElem?_modify, h]
  simp
theorem RBox.set1 (h : RBox w g x y z) (u : Value) : RBox (w.setCell ⟨g, 1, none⟩ u) g x u z := by
  unfold RBox at h ⊢
  simp only [World.setCell, Array.getElem?_modify, h]
  simp
theorem RBox.set2 (h : RBox w g x y z) (u : Value) : RBox (w.setCell ⟨g, 2, none⟩ u) g x y u := by
  unfold RBox at h ⊢
  simp only [World.setCell, Array.getElem?_modify, h]
  simp
end
/-- V is w, but for block g, which in w holds no word. -/
structure Keeps (w V : World) (g : Nat) : Prop where
  os : V.os = w.os
  tape : V.tape = w.tape
  output : V.output = w.output
  size : V.heap.size = w.heap.size
  block : ∀ k, k ≠ g → V.heap[k]? = w.heap[k]?
  plain : ∀ i k n, w.cell? ⟨g, i, none⟩ ≠ some (.int k n)
section
variable {w V a : World} {g g' : Nat} {x y z m : Value} {xs : List Nat} {b : Bool}
theorem NatAt.keeps (h : NatAt w m xs) (K : Keeps w V g) : NatAt V m xs := by
  obtain ⟨A, c, hv, h1, h2, h3, h4⟩ := h
  refine ⟨A, c, hv, h1, h2, h3, fun hn => ?_⟩
  obtain ⟨b', o, ha, hb, hc⟩ := h4 hn
  have hbg : b' ≠ g := by
    rintro rfl
    exact K.plain _ _ _ (hc 0 hn)
  refine ⟨b', o, ha, by rw [K.size]; exact hb, fun j hj => ?_⟩
  rw [World.cell?_of_block (K.block b' hbg)]
  exact hc j hj
theorem ZAt.keeps {z : Int} (h : ZAt w b m z) (K : Keeps w V g) : ZAt V b m z := ⟨h.1, h.2.keeps K⟩
theorem Box.keeps (h : Box w g' x y) (K : Keeps w V g) (hg : g' ≠ g) : Box V g' x y := (K.block g' hg).trans h
theorem RBox.keeps (h : RBox w g' x y z) (K : Keeps w V g) (hg : g' ≠ g) : RBox V g' x y z := (K.block g' hg).trans h
theorem below_keeps (h : Below a.heap.size a w) (K : Keeps w V g) (hg : a.heap.size ≤ g) : Below a.heap.size a V :=
  ⟨K.os.trans h.os, K.tape.trans h.tape, K.output.trans h.output, by rw [K.size]; exact h.size, fun k hk => (K.block k (by omega)).trans (h.block k hk)⟩
theorem keeps_set (h : ∀ i k n, w.cell? ⟨g, i, none⟩ ≠ some (.int k n)) (i : Nat) (u : Value) : Keeps w (w.setCell ⟨g, i, none⟩ u) g :=
  ⟨rfl, rfl, rfl, by simp, fun k hk => Below.heap_setCell _ _ _ k hk, h⟩
theorem Keeps.set (K : Keeps w V g) (i : Nat) (u : Value) : Keeps w (V.setCell ⟨g, i, none⟩ u) g :=
  ⟨K.os, K.tape, K.output, by simp [K.size], fun k hk => (Below.heap_setCell _ _ _ k hk).trans (K.block k hk), K.plain⟩
theorem RBox.plain {A A2 : Option Addr} {n c n2 c2 : Nat} (h : RBox w g (.bool b) (.slice A n c) (.slice A2 n2 c2)) : ∀ i k n, w.cell? ⟨g, i, none⟩ ≠ some (.int k n) := by
  intro i k n e
  rw [cell_of_row w g i _ _ _ h] at e
  match i, e with
  | 0, e => simp at e
  | 1, e => simp at e
  | 2, e => simp at e
  | i + 3, e => simp at e
theorem Box.plain {A : Option Addr} {n c : Nat} (h : Box w g (.bool b) (.slice A n c)) : ∀ i k n, w.cell? ⟨g, i, none⟩ ≠ some (.int k n) := by
  intro i k n e
  rw [cell_of_row w g i _ _ _ h] at e
  match i, e with
  | 0, e => simp at e
  | 1, e => simp at e
  | i + 2, e => simp at e
end
section
variable {w : World} {g n c n2 c2 : Nat} {b : Bool} {A A2 : Option Addr}
theorem storeR (h : RBox w g (.bool b) (.slice A n c) (.slice A2 n2 c2)) (u v x : Value) : ∃ V, ((w.setCell ⟨g, 0, none⟩ u).setCell ⟨g, 1, none⟩ v).setCell ⟨g, 2, none⟩ x = V ∧ Hid (RBox V g u v x) ∧ Hid (Keeps w V g) :=
  ⟨_, rfl, ((h.set0 u).set1 v).set2 x, ((keeps_set h.plain 0 u).set 1 v).set 2 x⟩
theorem storeI (h : Box w g (.bool b) (.slice A n c)) (u v : Value) : ∃ V, (w.setCell ⟨g, 0, none⟩ u).setCell ⟨g, 1, none⟩ v = V ∧ Hid (Box V g u v) ∧ Hid (Keeps w V g) :=
  ⟨_, rfl, (h.set0 u).set1 v, (keeps_set h.plain 0 u).set 1 v⟩
theorem storeI0 (h : Box w g (.bool b) (.slice A n c)) (u : Value) : ∃ V, w.setCell ⟨g, 0, none⟩ u = V ∧ Hid (Box V g u (.slice A n c)) ∧ Hid (Keeps w V g) :=
  ⟨_, rfl, h.set0 u, keeps_set h.plain 0 u⟩
end
theorem newI (w : World) (x y : Value) : ∃ W g, w.alloc (.cells #[x, y] 25) = W ∧ w.heap.size = g ∧ Hid (Box W g x y) ∧ Below w.heap.size w W := ⟨_, _, rfl, rfl, Box.new rfl, below_alloc0 w _⟩
theorem newR (w : World) (x y z : Value) : ∃ W g, w.alloc (.cells #[x, y, z] 27) = W ∧ w.heap.size = g ∧ Hid (RBox W g x y z) ∧ Below w.heap.size w W := ⟨_, _, rfl, rfl, RBox.new rfl, below_alloc0 w _⟩
theorem rbox1 (w : World) (x1 y1 z1 : Value) : ∃ W, w.alloc (.cells #[x1, y1, z1] 27) = W ∧ Hid (RBox W w.heap.size x1 y1 z1) ∧ Hid (Below w.heap.size w W) ∧ Hid (W.heap.size = w.heap.size + 1) :=
  ⟨_, rfl, RBox.new rfl, below_alloc0 w _, by show _ = _; simp⟩
theorem rbox2 (w : World) (x1 y1 z1 x2 y2 z2 : Value) : ∃ W, (w.alloc (.cells #[x1, y1, z1] 27)).alloc (.cells #[x2, y2, z2] 27) = W ∧ Hid (RBox W w.heap.size x1 y1 z1) ∧ Hid (RBox W (w.heap.size + 1) x2 y2 z2) ∧ Hid (Below w.heap.size w W) ∧ Hid (W.heap.size = w.heap.size + 2) :=
  ⟨_, rfl, (RBox.new rfl).alloc _, RBox.new (by simp), below_two w _ _, by show _ = _; simp⟩
theorem rbox3 (w : World) (x1 y1 z1 x2 y2 z2 x3 y3 z3 : Value) : ∃ W, ((w.alloc (.cells #[x1, y1, z1] 27)).alloc (.cells #[x2, y2, z2] 27)).alloc (.cells #[x3, y3, z3] 27) = W ∧ Hid (RBox W w.heap.size x1 y1 z1) ∧ Hid (RBox W (w.heap.size + 1) x2 y2 z2) ∧ Hid (RBox W (w.heap.size + 1 + 1) x3 y3 z3) ∧ Hid (Below w.heap.size w W) ∧ Hid (W.heap.size = w.heap.size + 3) :=
  ⟨_, rfl, ((RBox.new rfl).alloc _).alloc _, (RBox.new (by simp)).alloc _, RBox.new (by simp), below_next (below_two w _ _) (below_alloc0 _ _), by show _ = _; simp⟩
theorem rboxIR (w : World) (x1 y1 x2 y2 z2 : Value) : ∃ W, (w.alloc (.cells #[x1, y1] 25)).alloc (.cells #[x2, y2, z2] 27) = W ∧ Hid (Box W w.heap.size x1 y1) ∧ Hid (RBox W (w.heap.size + 1) x2 y2 z2) ∧ Hid (Below w.heap.size w W) ∧ Hid (W.heap.size = w.heap.size + 2) :=
  ⟨_, rfl, (Box.new rfl).alloc _, RBox.new (by simp), below_two w _ _, by show _ = _; simp⟩
theorem rboxRI (w : World) (x1 y1 z1 x2 y2 : Value) : ∃ W, (w.alloc (.cells #[x1, y1, z1] 27)).alloc (.cells #[x2, y2] 25) = W ∧ Hid (RBox W w.heap.size x1 y1 z1) ∧ Hid (Box W (w.heap.size + 1) x2 y2) ∧ Hid (Below w.heap.size w W) ∧ Hid (W.heap.size = w.heap.size + 2) :=
  ⟨_, rfl, (RBox.new rfl).alloc _, Box.new (by simp), below_two w _ _, by show _ = _; simp⟩

/-! ### Ratios -/
/-- In any form. -/
def RAt (w : World) (b : Bool) (m d : Value) (q : Rat) (k : Nat) : Prop := ∃ xs ys, NatAt w m xs ∧ NatAt w d ys ∧ xs.length ≤ k ∧ ys.length ≤ k ∧ q = mkRat (zval b xs) (val ys)
/-- In normal form. -/
def QAt (w : World) (b : Bool) (m d : Value) (q : Rat) : Prop := ZAt w b m q.num ∧ NatAt w d (limbs q.den)
section
variable {w V : World} {b : Bool} {m d : Value} {q : Rat} {k g : Nat}
theorem QAt.below (h : QAt w b m d q) (hb : Below w.heap.size w V) : QAt V b m d q := ⟨h.1.below hb, h.2.below hb⟩
theorem QAt.keeps (h : QAt w b m d q) (K : Keeps w V g) : QAt V b m d q := ⟨h.1.keeps K, h.2.keeps K⟩
theorem RAt.below (h : RAt w b m d q k) (hb : Below w.heap.size w V) : RAt V b m d q k := by
  obtain ⟨xs, ys, h1, h2, h3⟩ := h; exact ⟨xs, ys, h1.below hb, h2.below hb, h3⟩
theorem RAt.keeps (h : RAt w b m d q k) (K : Keeps w V g) : RAt V b m d q k := by
  obtain ⟨xs, ys, h1, h2, h3⟩ := h; exact ⟨xs, ys, h1.keeps K, h2.keeps K, h3⟩
theorem QAt.rat (h : QAt w b m d q) (hs : QSz q k) : RAt w b m d q k := by
  obtain ⟨⟨hb, h1⟩, h2⟩ := h
  refine ⟨_, _, h1, h2, hs.1.len k (Nat.le_refl _), hs.2.len k (Nat.le_refl _), ?_⟩
  rw [val_limbs, hb, zval_norm, Rat.mkRat_self]
theorem RAt.sz (h : RAt w b m d q k) (hk : 1 ≤ k) : QSz q k := by
  obtain ⟨xs, ys, h1, h2, h3, h4, rfl⟩ := h
  exact qsz_mk (by rw [zval_abs]; exact h1.sz h3) (h2.sz h4) hk
end
def GivesB (w : World) (b : Bool) (e : Ending) (w' : World) : Prop := e = .returned (.bool b) ∧ Below w.heap.size w w'
def GivesQ (w : World) (q : Rat) (e : Ending) (w' : World) : Prop := ∃ b A n c D n2 c2, e = .returned (.agg #[.bool b, .slice A n c, .slice D n2 c2]) ∧ QAt w' b (.slice A n c) (.slice D n2 c2) q ∧ Below w.heap.size w w'
def GivesQB (w : World) (q : Rat) (ok : Bool) (e : Ending) (w' : World) : Prop := ∃ b A n c D n2 c2, e = .returned (.tuple #[.agg #[.bool b, .slice A n c, .slice D n2 c2], .bool ok]) ∧ QAt w' b (.slice A n c) (.slice D n2 c2) q ∧ Below w.heap.size w w'
/-- The struct of no ratio: nil, nil; and false. -/
def GivesNo (w : World) (e : Ending) (w' : World) : Prop := e = .returned (.tuple #[.agg #[.bool false, .slice none 0 0, .slice none 0 0], .bool false]) ∧ Below w.heap.size w w'
/-- A form whose denominator is not 0. -/
def GivesV (w : World) (q : Rat) (k : Nat) (e : Ending) (w' : World) : Prop := ∃ b A n c D n2 c2 xs ys, e = .returned (.agg #[.bool b, .slice A n c, .slice D n2 c2]) ∧ NatAt w' (.slice A n c) xs ∧ NatAt w' (.slice D n2 c2) ys ∧ xs.length ≤ k ∧ ys.length ≤ k ∧ val ys ≠ 0 ∧ q = mkRat (zval b xs) (val ys) ∧ Below w.heap.size w w'
end Go.Proofs.YtoflndeonegkpaaDoor
