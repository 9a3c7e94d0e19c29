/- integer.Text, Small. -/
import Derived.Test.YtoflndeonegkpaaDoorInt4
import Derived.Test.YtoflndeonegkpaaDoorTxt
namespace Go.Proofs.YtoflndeonegkpaaDoor
open Go.RowKit
open Go.Lib (decDigits)

/-- The decimal notation of an integer. -/
def ztext (z : Int) : List UInt8 := if z < 0 then 45 :: decDigits z.natAbs else decDigits z.natAbs
theorem ztext_neg {z : Int} (h : z < 0) : ztext z = 45 :: decDigits z.natAbs := if_pos h
theorem ztext_pos {z : Int} (h : ¬ z < 0) : ztext z = decDigits z.natAbs := if_neg h
theorem str_minus (l : List UInt8) : (⟨#[45]⟩ : ByteArray) ++ ⟨l.toArray⟩ = ⟨(45 :: l).toArray⟩ := by
  apply ByteArray.ext
  simp

set_option maxHeartbeats 1000000 in
theorem itext_any (b : Bool) (m : Value) (z : Int) (k : Nat) (w : World) (h : IntAt w b m z k) (hk : k ≤ 100000) (htab : Tab w) : Calls Tryd.prog 48 #[.agg #[.bool b, m]] w (GivesStr w (ztext z)) := by
  have H := Lib.hid h
  have HT := Lib.hid htab
  have HL : Hid ((limbs z.natAbs).length ≤ k) := by
    obtain ⟨xs, g1, g2, rfl⟩ := h
    show _ ≤ _
    rw [zval_abs]
    exact Nat.le_trans (limbs_val_length g1.lim) g2
  have HB := Lib.hid (Box.new (w := w) (x := .bool b) (y := m) rfl)
  have HN := Lib.hid h.noInt
  clear h htab
  go_enter Tryd.func48, Tryd.ntmps48
  go_wp2_with fail
  refine (inorm_any _ _ _ _ _ (by exact H.out.alloc _) (by omega)).mono ?_
  rintro e w1 ⟨b3, A3, n3, k3, rfl, h3, hb⟩
  replace HB := Lib.hid (HB.out.below hb)
  have HW := Lib.hid (below_next (below_alloc0 w _) hb)
  have c10 := HB.out.cell0
  have c11 := HB.out.cell1
  have f10 := HB.out.fro 0
  have f11 := HB.out.fro 1
  have HR := Lib.hid (h3.store HB.out HN.out (.bool b3) (.slice A3 n3 k3))
  have HWs := Lib.hid (below_stored HW.out (Nat.le_refl _) (.bool b3) (.slice A3 n3 k3))
  have HTs := Lib.hid (HT.out.below HWs.out)
  obtain ⟨e3, -⟩ := h3
  clear hb
  by_cases hz : z < 0
  · obtain rfl : b3 = true := by rw [e3]; exact decide_eq_true hz
    clear e3
    go_wp2_with fail
    refine (text_any _ _ _ (by exact HR.out.2) (Nat.le_trans HL.out hk) (by exact HTs.out)).mono ?_
    rintro e w2 ⟨rfl, hb⟩
    rw [val_limbs]
    have hdl : (decDigits z.natAbs).length ≤ 1000001 := Nat.le_trans (dec_len_le _) (by have := HL.out; omega)
    go_wp2
    go_ret
    rw [ztext_neg hz]
    exact ⟨congrArg Ending.returned (congrArg Value.string (str_minus _)), below_next HWs.out hb⟩
  · obtain rfl : b3 = false := by rw [e3]; exact decide_eq_false hz
    clear e3
    go_wp2_with fail
    refine (text_any _ _ _ (by exact HR.out.2) (Nat.le_trans HL.out hk) (by exact HTs.out)).mono ?_
    rintro e w2 ⟨rfl, hb⟩
    rw [val_limbs]
    go_wp2
    go_ret
    rw [ztext_pos (by omega)]
    exact ⟨rfl, below_next HWs.out hb⟩

/-- The int that an integer is, if there is one. -/
def zfits (z : Int) : Bool := decide (-9223372036854775808 ≤ z ∧ z ≤ 9223372036854775807)
def zsmall (z : Int) : Int := if zfits z then z else 0
def GivesSmall (w : World) (z : Int) (e : Ending) (w' : World) : Prop := e = .returned (.tuple #[.int .i64 (zsmall z), .bool (zfits z)]) ∧ Below w.heap.size w w'

theorem or_zero_u64 {x : Nat} (hx : x < 4294967296) : bits .or .u64 0 (x : Int) = (x : Int) := by
  have h := u64_or_nat 0 x (by omega) (by omega)
  rw [Nat.zero_or] at h
  exact h
theorem or_high_u64 {x t : Nat} (hx : x < 4294967296) (ht : t < 4294967296) : bits .or .u64 (t : Int) ((x : Int) * 4294967296) = ((t + x * 4294967296 : Nat) : Int) := by
  have h := u64_or_nat t (x * 4294967296) (by omega) (by omega)
  rw [Nat.or_comm, show x * 4294967296 ||| t = x * 4294967296 + t from or_add (s := 32) ht, Nat.add_comm] at h
  rw [← h]
  congr 1
theorem val_take_lt2 {us : List Nat} (h : Lim us) : val (us.take 1) < 4294967296 := by
  have h1 := val_lt (h.take 1)
  have h2 : (us.take 1).length ≤ 1 := by rw [List.length_take]; omega
  have h3 : 4294967296 ^ (us.take 1).length ≤ 4294967296 ^ 1 := Nat.pow_le_pow_right (by omega) h2
  omega
end Go.Proofs.YtoflndeonegkpaaDoor
