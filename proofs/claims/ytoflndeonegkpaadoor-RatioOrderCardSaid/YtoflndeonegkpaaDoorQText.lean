/- Notations of ratios, in plain words. -/
import Derived.Test.YtoflndeonegkpaaDoorQ6
namespace Go.Proofs.YtoflndeonegkpaaDoor
open Go.Lib (decDigits)

theorem idx_none : ∀ {l : List UInt8}, 47 ∉ l → Lib.indexByte l 47 = -1
  | [], _ => rfl
  | b :: l, h => by
    have h1 : ¬ (b == 47) = true := fun e => h (by rw [eq_of_beq e]; exact List.mem_cons_self ..)
    unfold Lib.indexByte
    rw [if_neg h1, idx_none (fun g => h (List.mem_cons_of_mem _ g))]
    rfl
theorem idx_app : ∀ {l : List UInt8} (r : List UInt8), 47 ∉ l → Lib.indexByte (l ++ 47 :: r) 47 = l.length
  | [], r, _ => rfl
  | b :: l, r, h => by
    have h1 : ¬ (b == 47) = true := fun e => h (by rw [eq_of_beq e]; exact List.mem_cons_self ..)
    rw [List.cons_append]
    unfold Lib.indexByte
    rw [if_neg h1, idx_app r (fun g => h (List.mem_cons_of_mem _ g)), if_neg (by rw [beq_iff_eq]; omega), List.length_cons]
    omega
theorem dec_no_slash (n : Nat) : 47 ∉ decDigits n := fun h => by
  have := dec_digits n 47 h
  exact absurd this.1 (by decide)
theorem ztext_no_slash (z : Int) : 47 ∉ ztext z := by
  unfold ztext
  split
  · intro h
    rcases List.mem_cons.1 h with e | e
    · exact absurd e (by decide)
    · exact dec_no_slash _ e
  · exact dec_no_slash _
section
variable {l r : List UInt8}
theorem fore_none (h : 47 ∉ l) : slashAt l = -1 ∧ fore l = l := by
  have e : slashAt l = -1 := idx_none h
  exact ⟨e, by rw [fore, e, if_neg (by omega)]⟩
theorem fore_app (h : 47 ∉ l) : slashAt (l ++ 47 :: r) = l.length ∧ fore (l ++ 47 :: r) = l ∧ aft (l ++ 47 :: r) = r := by
  have e : slashAt (l ++ 47 :: r) = l.length := idx_app r h
  refine ⟨e, ?_, ?_⟩
  · rw [fore, e, if_pos (by omega), Int.toNat_natCast, List.take_left]
  · rw [aft, e, if_pos (by omega), Int.toNat_natCast, List.drop_append]
    simp
end
section
variable {z : Int}
theorem dec_head45 (n : Nat) : ¬ (decDigits n).head? = some 45 := fun e => by
  have h1 := dec_digits n 45 (List.mem_of_mem_head? (by rw [e]; exact rfl))
  exact absurd h1.1 (by decide)
theorem zp_ok (h : (decDigits z.natAbs).length ≤ 200) : zpErr (ztext z) = 0 ∧ zpNum (ztext z) = z := by
  by_cases hz : z < 0
  · have e : zpErr (ztext z) = 0 := by
      unfold zpErr
      rw [ztext_neg hz, if_pos (show (45 :: decDigits z.natAbs).head? = some 45 from rfl), List.tail_cons, if_pos (pe_ok h), if_neg (by rw [decVal_dec]; omega)]
    refine ⟨e, ?_⟩
    unfold zpNum
    rw [e, if_pos rfl, ztext_neg hz, if_pos (show (45 :: decDigits z.natAbs).head? = some 45 from rfl), List.tail_cons, decVal_dec]
    omega
  · have e : zpErr (ztext z) = 0 := by
      unfold zpErr
      rw [ztext_pos hz, if_neg (dec_head45 _), pe_ok h]
    refine ⟨e, ?_⟩
    unfold zpNum
    rw [e, if_pos rfl, ztext_pos hz, if_neg (dec_head45 _), decVal_dec]
    omega
end
theorem den_gt {q : Rat} (h : q.den ≠ 1) : 1 < q.den := by have := q.den_pos; omega
theorem qp_text {q : Rat} (h1 : (decDigits q.num.natAbs).length ≤ 200) (h2 : (decDigits q.den).length ≤ 200) : qpErr (qtext q) = 0 ∧ qpNum (qtext q) = q := by
  by_cases hd : q.den = 1
  · obtain ⟨e1, e2⟩ := fore_none (ztext_no_slash q.num)
    rw [show qtext q = ztext q.num from if_pos hd]
    refine ⟨?_, ?_⟩
    · unfold qpErr
      rw [e2, e1, if_pos (zp_ok h1).1, if_neg (by omega)]
    · unfold qpNum
      rw [e2, e1, if_neg (by omega), (zp_ok h1).2]
      exact Rat.ext rfl hd.symm
  · obtain ⟨e1, e2, e3⟩ := fore_app (r := decDigits q.den) (ztext_no_slash q.num)
    rw [show qtext q = ztext q.num ++ 47 :: decDigits q.den from if_neg hd]
    have hg : Nat.gcd q.num.natAbs q.den = 1 := q.reduced
    have hd1 := den_gt hd
    refine ⟨?_, ?_⟩
    · unfold qpErr
      rw [e1, e2, e3, if_pos (zp_ok h1).1, if_pos (by omega), if_pos (pe_ok h2), decVal_dec, (zp_ok h1).2, hg, if_neg (by omega)]
    · unfold qpNum
      rw [e1, e2, e3, if_pos (by omega), decVal_dec, (zp_ok h1).2, Rat.mkRat_self]
theorem ztext_inj {a b : Int} (h : ztext a = ztext b) : a = b := by
  unfold ztext at h
  by_cases ha : a < 0 <;> by_cases hb : b < 0
  · rw [if_pos ha, if_pos hb] at h
    injection h with _ h
    have := dec_inj h
    omega
  · rw [if_pos ha, if_neg hb] at h
    exact absurd (show (decDigits b.natAbs).head? = some 45 by rw [← h]; rfl) (dec_head45 _)
  · rw [if_neg ha, if_pos hb] at h
    exact absurd (show (decDigits a.natAbs).head? = some 45 by rw [h]; rfl) (dec_head45 _)
  · rw [if_neg ha, if_neg hb] at h
    have := dec_inj h
    omega
theorem qtext_inj {p q : Rat} (h : qtext p = qtext q) : p = q := by
  unfold qtext at h
  by_cases hp : p.den = 1 <;> by_cases hq : q.den = 1
  · rw [if_pos hp, if_pos hq] at h
    exact Rat.ext (ztext_inj h) (by rw [hp, hq])
  · rw [if_pos hp, if_neg hq] at h
    exact absurd (show 47 ∈ ztext p.num by rw [h]; simp) (ztext_no_slash _)
  · rw [if_neg hp, if_pos hq] at h
    exact absurd (show 47 ∈ ztext q.num by rw [← h]; simp) (ztext_no_slash _)
  · rw [if_neg hp, if_neg hq] at h
    obtain ⟨_, a2, a3⟩ := fore_app (r := decDigits p.den) (ztext_no_slash p.num)
    obtain ⟨_, b2, b3⟩ := fore_app (r := decDigits q.den) (ztext_no_slash q.num)
    rw [h] at a2 a3
    exact Rat.ext (ztext_inj (a2.symm.trans b2)) (dec_inj (a3.symm.trans b3))
end Go.Proofs.YtoflndeonegkpaaDoor
