/- garmentref02: Of, Text, Small. -/
import Derived.Test.YtoflndeonegkpaaGreatDoorRInt
import Derived.Test.YtoflndeonegkpaaGreatDoorInt6
import Derived.Test.YtoflndeonegkpaaGreatDoorRef2
namespace Go.Proofs.YtoflndeonegkpaaGreatDoor
open Go.RowKit
open Go.Lib (decDigits)

set_option maxHeartbeats 1000000 in
theorem riof_any (n : Int) (w : World) (h1 : -9223372036854775808 ≤ n) (h2 : n ≤ 9223372036854775807) : Calls Tryz.prog 38 #[.int .i64 n] w (GivesZ w n) := by
  have HB := Lib.hid (Box.new (w := w) (x := .bool false) (y := .slice none 0 0) rfl)
  by_cases h0 : n < 0
  · go_enter Tryz.func38, Tryz.ntmps38
    go_wp2_with fail
    have e1 : -(n + 1) + 1 = ((n.natAbs : Nat) : Int) := by omega
    rw [e1]
    refine (rof_any n.natAbs _ (by omega)).mono ?_
    rintro e w1 ⟨v1, rfl, g1, hb⟩
    replace HB := Lib.hid (HB.out.below hb)
    have HW := Lib.hid (below_next (below_alloc0 w _) hb)
    have G1 := Lib.hid g1
    obtain ⟨A, c, rfl, _, _⟩ := g1.form
    have c30 := HB.out.cell0
    have c31 := HB.out.cell1
    have f30 := HB.out.fro 0
    have f31 := HB.out.fro 1
    clear g1 hb e1
    go_wp2
    exact bodyPost_ret (v := .agg #[.bool true, .slice A (limbs n.natAbs).length c]) (by simp [results, Tryz.results38, go_sem, c30, c31]) rfl ⟨_, _, _, _, rfl, ⟨by rw [eq_comm, decide_eq_true_iff]; exact h0, G1.out.store HB.out nil_noInt _ _⟩, below_stored HW.out (Nat.le_refl _) _ _⟩
  · obtain ⟨k, rfl⟩ : ∃ k : Nat, n = (k : Int) := ⟨n.toNat, by omega⟩
    go_enter Tryz.func38, Tryz.ntmps38
    go_wp2_with fail
    refine (rof_any k _ (by omega)).mono ?_
    rintro e w1 ⟨v1, rfl, g1, hb⟩
    replace HB := Lib.hid (HB.out.below hb)
    have HW := Lib.hid (below_next (below_alloc0 w _) hb)
    have G1 := Lib.hid g1
    obtain ⟨A, c, rfl, _, _⟩ := g1.form
    have c30 := HB.out.cell0
    have c31 := HB.out.cell1
    have f30 := HB.out.fro 0
    have f31 := HB.out.fro 1
    clear g1 hb
    go_wp2
    exact bodyPost_ret (v := .agg #[.bool false, .slice A (limbs k).length c]) (by simp [results, Tryz.results38, go_sem, c30, c31]) rfl ⟨_, _, _, _, rfl, ⟨by rw [eq_comm, decide_eq_false_iff_not]; omega, by rw [Int.natAbs_natCast]; exact G1.out.store HB.out nil_noInt _ _⟩, below_stored HW.out (Nat.le_refl _) _ _⟩

set_option maxHeartbeats 1000000 in
theorem ritext_any (b : Bool) (m : Value) (z : Int) (k : Nat) (w : World) (h : IntAt w b m z k) (hk : k ≤ 100000) : Calls Tryz.prog 58 #[.agg #[.bool b, m]] w (GivesStr w (ztext z)) := by
  have H := Lib.hid h
  have HL : Hid ((limbs z.natAbs).length ≤ k) := by
    obtain ⟨xs, g1, g2, rfl⟩ := h
    show _ ≤ _
    rw [zval_abs]
    exact Nat.le_trans (limbs_val_length g1.lim) g2
  clear h
  go_enter Tryz.func58, Tryz.ntmps58
  go_wp2_with fail
  refine (rinorm_any _ _ _ _ _ (by exact H.out.alloc _) (by omega)).mono ?_
  rintro e w1 ⟨b3, A3, n3, k3, rfl, h3, hb⟩
  have HW := Lib.hid (below_next (below_alloc0 w _) hb)
  obtain ⟨e3, -⟩ := id h3
  have HR := Lib.hid h3
  clear hb h3
  by_cases hz : z < 0
  · obtain rfl : b3 = true := by rw [e3]; exact decide_eq_true hz
    clear e3
    go_wp2_with fail
    refine (rtext_any _ _ _ (by exact (HR.out.alloc _).2) (Nat.le_trans HL.out hk)).mono ?_
    rintro e w2 ⟨rfl, hb⟩
    rw [val_limbs]
    have hdl : (decDigits z.natAbs).length ≤ 1000001 := Nat.le_trans (dec_len_le _) (by have := HL.out; omega)
    go_wp2
    go_ret
    rw [ztext_neg hz]
    exact ⟨congrArg Ending.returned (congrArg Value.string (str_minus _)), below_next (below_next HW.out (below_alloc0 _ _)) hb⟩
  · obtain rfl : b3 = false := by rw [e3]; exact decide_eq_false hz
    clear e3
    go_wp2_with fail
    refine (rtext_any _ _ _ (by exact (HR.out.alloc _).2) (Nat.le_trans HL.out hk)).mono ?_
    rintro e w2 ⟨rfl, hb⟩
    rw [val_limbs]
    go_wp2
    go_ret
    rw [ztext_pos (by omega)]
    exact ⟨rfl, below_next (below_next HW.out (below_alloc0 _ _)) hb⟩

theorem small_ret {a b : Int} {c : Bool} (h : a = b) : Ending.returned (.tuple #[.int .i64 a, .bool c]) = .returned (.tuple #[.int .i64 b, .bool c]) := by rw [h]
theorem val_drop_lt {us : List Nat} (h : Lim us) (k j : Nat) (hj : us.length ≤ k + j) : val (us.drop k) < 4294967296 ^ j := by
  refine Nat.lt_of_lt_of_le (val_lt (h.drop k)) (Nat.pow_le_pow_right (by omega) ?_)
  rw [List.length_drop]; omega

end Go.Proofs.YtoflndeonegkpaaGreatDoor
