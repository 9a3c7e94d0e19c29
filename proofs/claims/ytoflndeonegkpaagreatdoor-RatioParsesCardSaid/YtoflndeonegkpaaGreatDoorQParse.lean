/- What is read is what is written, in plain words. -/
import Derived.Test.YtoflndeonegkpaaGreatDoorQText
namespace Go.Proofs.YtoflndeonegkpaaGreatDoor
open Go.RowKit
open Go.Lib (decDigits)

theorem idx_split : ∀ l : List UInt8, 0 ≤ Lib.indexByte l 47 → l = l.take (Lib.indexByte l 47).toNat ++ 47 :: l.drop ((Lib.indexByte l 47).toNat + 1)
  | [], h => absurd h (by decide)
  | b :: l, h => by
    by_cases hb : (b == 47) = true
    · have e : Lib.indexByte (b :: l) 47 = 0 := by unfold Lib.indexByte; rw [if_pos hb]
      rw [e, eq_of_beq hb]
      rfl
    · have e : Lib.indexByte (b :: l) 47 = if (Lib.indexByte l 47 == -1) = true then -1 else Lib.indexByte l 47 + 1 := by
        conv => lhs; unfold Lib.indexByte
        rw [if_neg hb]
      by_cases h1 : (Lib.indexByte l 47 == -1) = true
      · rw [e, if_pos h1] at h; omega
      · have h0 : 0 ≤ Lib.indexByte l 47 := by
          have := Lib.indexByte_ge l 47
          have h2 : Lib.indexByte l 47 ≠ -1 := fun g => h1 (by rw [g]; rfl)
          omega
        rw [e, if_neg h1]
        have h3 : (Lib.indexByte l 47 + 1).toNat = (Lib.indexByte l 47).toNat + 1 := by omega
        rw [h3, List.take_succ_cons, List.drop_succ_cons, List.cons_append]
        exact congrArg (b :: ·) (idx_split l h0)
theorem fore_aft {l : List UInt8} (h : 0 ≤ slashAt l) : fore l ++ 47 :: aft l = l := by
  rw [fore, aft, if_pos h, if_pos h]
  exact (idx_split l h).symm
theorem zp_inv {l : List UInt8} (h : zpErr l = 0) : ztext (zpNum l) = l := by
  have e : zpNum l = if l.head? = some 45 then -(decVal l.tail : Int) else (decVal l : Int) := by unfold zpNum; rw [if_pos h]
  unfold zpErr at h
  by_cases h1 : l.head? = some 45
  · rw [if_pos h1] at h e
    by_cases h2 : parseErr l.tail = 0
    · rw [if_pos h2] at h
      by_cases h3 : decVal l.tail = 0
      · rw [if_pos h3] at h; cases h
      · rw [e, ztext_neg (by omega), Int.natAbs_neg, Int.natAbs_natCast, dec_decVal (parse_ok h2).2]
        cases l with
        | nil => cases h1
        | cons b l =>
          have : b = 45 := by simpa using h1
          rw [this]; rfl
    · rw [if_neg h2] at h; exact absurd h h2
  · rw [if_neg h1] at h e
    rw [e, ztext_pos (by omega), Int.natAbs_natCast, dec_decVal (parse_ok h).2]
theorem qp_inv {l : List UInt8} (h : qpErr l = 0) : qtext (qpNum l) = l := by
  unfold qpErr at h
  by_cases h1 : zpErr (fore l) = 0
  · rw [if_pos h1] at h
    by_cases hf : 0 ≤ slashAt l
    · rw [if_pos hf] at h
      by_cases h2 : parseErr (aft l) = 0
      · rw [if_pos h2] at h
        by_cases h3 : decVal (aft l) ≤ 1 ∨ 1 < Nat.gcd (zpNum (fore l)).natAbs (decVal (aft l))
        · rw [if_pos h3] at h; cases h
        · have h4 := mk_low (z := zpNum (fore l)) (D := decVal (aft l)) (by omega) (by omega)
          rw [show qpNum l = mkRat (zpNum (fore l)) (decVal (aft l)) from if_pos hf]
          unfold qtext
          rw [h4.1, h4.2, if_neg (by omega), zp_inv h1, dec_decVal (parse_ok h2).2]
          exact fore_aft hf
      · rw [if_neg h2] at h; exact absurd h h2
    · rw [show qpNum l = ((zpNum (fore l) : Int) : Rat) from if_neg hf]
      unfold qtext
      rw [if_pos (Rat.den_intCast _)]
      show ztext (zpNum (fore l)) = l
      rw [zp_inv h1, fore, if_neg hf]
  · rw [if_neg h1] at h; exact absurd h h1
theorem sz_len {n k : Nat} (h : (limbs n).length ≤ k) : Sz n k := by
  have h1 : Sz n (limbs n).length := by
    have := val_lt (lim_limbs n)
    rwa [val_limbs] at this
  exact h1.more h
theorem zp_sz (l : List UInt8) : Sz (zpNum l).natAbs 200 := sz_len (zp_len l)
theorem qp_sz {l : List UInt8} (h : qpErr l = 0) : QSz (qpNum l) 200 := by
  unfold qpNum
  split
  · rename_i hf
    refine qsz_mk (zp_sz _) ?_ (by omega)
    unfold qpErr at h
    by_cases h1 : zpErr (fore l) = 0
    · rw [if_pos h1, if_pos hf] at h
      by_cases h2 : parseErr (aft l) = 0
      · refine sz_len ?_
        rw [← parse_num_ok h2]
        exact Nat.le_trans parse_num_len (by omega)
      · rw [if_neg h2] at h; exact absurd h h2
    · rw [if_neg h1] at h; exact absurd h h1
  · exact ⟨zp_sz _, sz_one (by omega)⟩
end Go.Proofs.YtoflndeonegkpaaGreatDoor
