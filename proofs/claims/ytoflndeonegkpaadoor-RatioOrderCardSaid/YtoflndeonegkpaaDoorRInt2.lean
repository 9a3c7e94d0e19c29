/- garmentref02: Of, Text, Small. -/
import Derived.Test.YtoflndeonegkpaaDoorRInt
import Derived.Test.YtoflndeonegkpaaDoorInt6
import Derived.Test.YtoflndeonegkpaaDoorRef2
namespace Go.Proofs.YtoflndeonegkpaaDoor
open Go.RowKit
open Go.Lib (decDigits)

set_option maxHeartbeats 1000000 in
theorem riof_any (n : Int) (w : World) (h1 : -9223372036854775808 ≤ n) (h2 : n ≤ 9223372036854775807) : Calls Tryd.prog 28 #[.int .i64 n] w (GivesZ w n) := by
  have HB := Lib.hid (Box.new (w := w) (x := .bool false) (y := .slice none 0 0) rfl)
  by_cases h0 : n < 0
  · go_enter Tryd.func28, Tryd.ntmps28
    go_wp2_with fail
    have e1 : -(n + 1) + 1 = ((n.natAbs : Nat) : Int) := by omega
    rw [e1]
    refine (rof_any n.natAbs _ (by omega)).mono ?_
    rintro e w1 ⟨v1, rfl, g1, hb⟩
    replace HB := Lib.hid (HB.out.below hb)
    have HW := Lib.hid (below_next (below_alloc0 w _) hb)
    have G1 := Lib.hid g1
    obtain ⟨A, c, rfl, _, _⟩ := g1.form
    have c30 := HB.out.cell0
    have c31 := HB.out.cell1
    have f30 := HB.out.fro 0
    have f31 := HB.out.fro 1
    clear g1 hb e1
    go_wp2
    exact bodyPost_ret (v := .agg #[.bool true, .slice A (limbs n.natAbs).length c]) (by simp [results, Tryd.results28, go_sem, c30, c31]) rfl ⟨_, _, _, _, rfl, ⟨by rw [eq_comm, decide_eq_true_iff]; exact h0, G1.out.store HB.out nil_noInt _ _⟩, below_stored HW.out (Nat.le_refl _) _ _⟩
  · obtain ⟨k, rfl⟩ : ∃ k : Nat, n = (k : Int) := ⟨n.toNat, by omega⟩
    go_enter Tryd.func28, Tryd.ntmps28
    go_wp2_with fail
    refine (rof_any k _ (by omega)).mono ?_
    rintro e w1 ⟨v1, rfl, g1, hb⟩
    replace HB := Lib.hid (HB.out.below hb)
    have HW := Lib.hid (below_next (below_alloc0 w _) hb)
    have G1 := Lib.hid g1
    obtain ⟨A, c, rfl, _, _⟩ := g1.form
    have c30 := HB.out.cell0
    have c31 := HB.out.cell1
    have f30 := HB.out.fro 0
    have f31 := HB.out.fro 1
    clear g1 hb
    go_wp2
    exact bodyPost_ret (v := .agg #[.bool false, .slice A (limbs k).length c]) (by simp [results, Tryd.results28, go_sem, c30, c31]) rfl ⟨_, _, _, _, rfl, ⟨by rw [eq_comm, decide_eq_false_iff_not]; omega, by rw [Int.natAbs_natCast]; exact G1.out.store HB.out nil_noInt _ _⟩, below_stored HW.out (Nat.le_refl _) _ _⟩

theorem small_ret {a b : Int} {c : Bool} (h : a = b) : Ending.returned (.tuple #[.int .i64 a, .bool c]) = .returned (.tuple #[.int .i64 b, .bool c]) := by rw [h]
theorem val_drop_lt {us : List Nat} (h : Lim us) (k j : Nat) (hj : us.length ≤ k + j) : val (us.drop k) < 4294967296 ^ j := by
  refine Nat.lt_of_lt_of_le (val_lt (h.drop k)) (Nat.pow_le_pow_right (by omega) ?_)
  rw [List.length_drop]; omega

end Go.Proofs.YtoflndeonegkpaaDoor
