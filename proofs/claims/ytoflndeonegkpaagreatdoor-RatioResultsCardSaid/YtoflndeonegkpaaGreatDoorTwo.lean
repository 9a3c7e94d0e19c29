/- Regions that draw their order: a state on the way that many orders reach is gone on from once; two new boxes. -/
import Derived.Test.YtoflndeonegkpaaGreatDoorRInt3
namespace Go.Proofs.YtoflndeonegkpaaGreatDoor
open Go.RowKit

section
variable {P : Program} {md : Region.Mode} {ops : Array Oper} {Q : Exit → Act → World → Prop} {S : World → Prop}
theorem wpAnyH_key4 {f0 : Nat} {L0 : Array Bool} {a0 : Act} {w0 : World} (f : Nat) (L : Array Bool) (d1 d2 d3 d4 : Nat) (J : Value → Value → Value → Value → World → Prop)
    (hkey : ∀ v1 v2 v3 v4 wx, J v1 v2 v3 v4 wx → wpAnyH P md ops Q S f L ((((a0.put (some d1) v1).put (some d2) v2).put (some d3) v3).put (some d4) v4) wx)
    (h : (∀ v1 v2 v3 v4 wx, J v1 v2 v3 v4 wx → wpAnyH P md ops Q S f L ((((a0.put (some d1) v1).put (some d2) v2).put (some d3) v3).put (some d4) v4) wx) → wpAnyH P md ops Q S f0 L0 a0 w0) : wpAnyH P md ops Q S f0 L0 a0 w0 := h hkey
theorem wpAnyH_take2 {fuel : Nat} {listed : Array Bool} {a : Act} {w : World} (i : Nat) {oi : Oper} {v : Value} (hQ : ∀ (d : Option Tmp) (v : Value) c a w, Q (.panic c) (a.put d v) w → Q (.panic c) a w) (hi : ops[i]? = some oi)
    (hs : Region.noSelect ops = true) (hf : Region.free md ops listed i = true) (hr : (Region.ready md ops listed).contains i = true) (hw : Region.wanted oi (yielded ops a.tmps) = true)
    (hy : ∀ w, S w → (execOp a.eval oi).run P w = .ok (.value v) w) (hS : S w)
    (h : wpAnyH P md ops Q S fuel (listed.setIfInBounds i true) (a.put oi.dst v) w) : wpAnyH P md ops Q S (fuel + 1) listed a w :=
  wpAnyH_take hi hs hf hr (hQ _ _) (.inl ⟨hw, hy⟩) hS h
theorem wpAnyH_skip {fuel : Nat} {listed : Array Bool} {a : Act} {w : World} (i : Nat) {oi : Oper} (hQ : ∀ (d : Option Tmp) (v : Value) c a w, Q (.panic c) (a.put d v) w → Q (.panic c) a w) (hi : ops[i]? = some oi)
    (hs : Region.noSelect ops = true) (hf : Region.free md ops listed i = true) (hr : (Region.ready md ops listed).contains i = true) (hw : Region.wanted oi (yielded ops a.tmps) = false) (hS : S w)
    (h : wpAnyH P md ops Q S fuel (listed.setIfInBounds i true) (a.put oi.dst undef) w) : wpAnyH P md ops Q S (fuel + 1) listed a w :=
  wpAnyH_take hi hs hf hr (hQ _ _) (.inr ⟨hw, rfl⟩) hS h
theorem wpAnyH_at {f : Nat} {listed : Array Bool} {a : Act} {w : World} (L : Array Bool) (hl : listed = L) (h : wpAnyH P md ops Q S f L a w) : wpAnyH P md ops Q S f listed a w := hl ▸ h
end
theorem belowDrew (w : World) : Below w.heap.size w w.drew := below_drewN (Below.refl _ _) 1
theorem slice_noInt {A : Option Addr} {n c : Nat} : ∀ k m, (.slice A n c : Value) ≠ .int k m := fun _ _ e => by cases e
theorem newBox (w : World) (x y : Value) : ∃ W g, w.alloc (.cells #[x, y] 25) = W ∧ w.heap.size = g ∧ Hid (Box W g x y) ∧ Below w.heap.size w W := ⟨_, _, rfl, rfl, Box.new rfl, below_alloc0 w _⟩
theorem storeBox {w : World} {g n c : Nat} {b : Bool} {A : Option Addr} (hB : Box w g (.bool b) (.slice A n c)) (u v : Value) : ∃ V, (w.setCell ⟨g, 0, none⟩ u).setCell ⟨g, 1, none⟩ v = V ∧ Hid (Box V g u v) ∧ Hid (∀ b m z, ZAt w b m z → ZAt V b m z) ∧ Hid (∀ g' x y, Box w g' x y → g' ≠ g → Box V g' x y) ∧ Hid (∀ (a : World), Below a.heap.size a w → a.heap.size ≤ g → Below a.heap.size a V) :=
  ⟨stored w g u v, rfl, hB.store u v, fun _ _ _ h => h.store hB slice_noInt u v, fun _ _ _ h hg => h.far hg u v, fun _ h hg => below_stored h hg u v⟩
/-- Two integers are reckoned, two boxes made: which came first is not told. -/
def TwoJ (W : World) (z1 z2 : Int) (v1 v2 v3 v4 : Value) (wx : World) : Prop := ∃ (b1 : Bool) (A1 : Option Addr) (n1 c1 : Nat) (b2 : Bool) (A2 : Option Addr) (n2 c2 g1 g2 : Nat),
  v1 = .agg #[.bool b1, .slice A1 n1 c1] ∧ v2 = .agg #[.bool b2, .slice A2 n2 c2] ∧ v3 = .pointer (some ⟨g1, 0, none⟩) ∧ v4 = .pointer (some ⟨g2, 0, none⟩) ∧
  ZAt wx b1 (.slice A1 n1 c1) z1 ∧ ZAt wx b2 (.slice A2 n2 c2) z2 ∧ Box wx g1 (.bool false) (.slice none 0 0) ∧ Box wx g2 (.bool false) (.slice none 0 0) ∧ g1 ≠ g2 ∧ W.heap.size ≤ g1 ∧ W.heap.size ≤ g2 ∧ Below W.heap.size W wx
end Go.Proofs.YtoflndeonegkpaaGreatDoor
