/- What the walks of the laws of the integers share. -/
import Derived.Test.YtcdfhiocglibfaaDoorRInt3
import Derived.OpenShut
namespace Go.Proofs.YtcdfhiocglibfaaDoor
open Go.RowKit

theorem boxes1 (w : World) (x y : Value) : ∃ W, w.alloc (.cells #[x, y] 25) = W ∧ Hid (Box W w.heap.size x y) ∧ Hid (Below w.heap.size w W) := ⟨_, rfl, Box.new rfl, below_alloc0 w _⟩
theorem zshort_yes {b : Bool} {m : Value} {xs : List Nat} {k : Nat} {w : World} (h : NatAt w m xs) (hk : xs.length ≤ k) : Calls Tryd.prog 19 #[.agg #[.bool b, m], .int .i64 k] w (GivesBool w true) :=
  (zshort_any b m xs k w h).mono fun _ _ ⟨he, hb⟩ => ⟨by rw [he, decide_eq_true hk], hb⟩
theorem zshort_no {b : Bool} {m : Value} {xs : List Nat} {k : Nat} {w : World} (h : NatAt w m xs) (hk : ¬ xs.length ≤ k) : Calls Tryd.prog 19 #[.agg #[.bool b, m], .int .i64 k] w (GivesBool w false) :=
  (zshort_any b m xs k w h).mono fun _ _ ⟨he, hb⟩ => ⟨by rw [he, decide_eq_false hk], hb⟩
theorem zfits_of {n : Int} (h1 : -9223372036854775808 ≤ n) (h2 : n ≤ 9223372036854775807) : zfits n = true := decide_eq_true ⟨h1, h2⟩
theorem zsmall_of {n : Int} (h1 : -9223372036854775808 ≤ n) (h2 : n ≤ 9223372036854775807) : zsmall n = n := by unfold zsmall; rw [zfits_of h1 h2]; rfl
end Go.Proofs.YtcdfhiocglibfaaDoor
