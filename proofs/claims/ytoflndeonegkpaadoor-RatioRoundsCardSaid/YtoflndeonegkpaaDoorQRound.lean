/- The nearest integer, in plain words. -/
import Derived.Test.YtoflndeonegkpaaDoorQWField0
namespace Go.Proofs.YtoflndeonegkpaaDoor

theorem round_bounds (q : Rat) : (0 ≤ q.num → -(q.den : Int) < 2 * (qround q * q.den - q.num) ∧ 2 * (qround q * q.den - q.num) ≤ q.den) ∧ (q.num < 0 → -(q.den : Int) ≤ 2 * (qround q * q.den - q.num) ∧ 2 * (qround q * q.den - q.num) < q.den) := by
  have hD := q.den_pos
  have h1 := Nat.div_mul_le_self (2 * q.num.natAbs + q.den) (2 * q.den)
  have h2 := Nat.lt_mul_div_succ (2 * q.num.natAbs + q.den) (show 0 < 2 * q.den by omega)
  unfold qround
  generalize (2 * q.num.natAbs + q.den) / (2 * q.den) = r at *
  have e1 : r * (2 * q.den) = 2 * (r * q.den) := by rw [Nat.mul_left_comm]
  have e2 : 2 * q.den * (r + 1) = 2 * (r * q.den) + 2 * q.den := by rw [Nat.mul_add, Nat.mul_one, Nat.mul_assoc, Nat.mul_comm q.den r]
  rw [e1] at h1
  rw [e2] at h2
  have e3 : ((r : Nat) : Int) * (q.den : Int) = ((r * q.den : Nat) : Int) := by rw [Int.natCast_mul]
  constructor
  · intro h
    rw [if_neg (by omega), e3]
    omega
  · intro h
    rw [if_pos h, Int.neg_mul, e3]
    omega
theorem dform (z : Int) (q : Rat) : ((z : Int) : Rat) - q = mkRat (z * q.den - q.num) q.den := by
  rw [Rat.sub_def']
  show mkRat (z * q.den - q.num * ((1 : Nat) : Int)) (1 * q.den) = _
  rw [Nat.one_mul]
  congr 2
  omega
theorem half_mk : qof 1 2 = mkRat 1 2 := rfl
theorem nhalf_mk : -qof 1 2 = mkRat (-1) 2 := by rw [half_mk, Rat.neg_mkRat]
theorem near_hi (q : Rat) : ((qround q : Int) : Rat) - q ≤ qof 1 2 := by
  rw [dform, half_mk]
  refine Rat.not_lt.1 fun h => ?_
  rw [mk_lt (by omega) q.den_nz] at h
  have := round_bounds q
  by_cases hn : 0 ≤ q.num
  · have := this.1 hn; omega
  · have := this.2 (by omega); omega
theorem near_lo (q : Rat) : -qof 1 2 ≤ ((qround q : Int) : Rat) - q := by
  rw [dform, nhalf_mk]
  refine Rat.not_lt.1 fun h => ?_
  rw [mk_lt q.den_nz (by omega)] at h
  have := round_bounds q
  by_cases hn : 0 ≤ q.num
  · have := this.1 hn; omega
  · have := this.2 (by omega); omega
theorem near_up {q : Rat} (h : ((qround q : Int) : Rat) - q = qof 1 2) : 0 ≤ q := by
  rw [dform, half_mk, Rat.mkRat_eq_iff q.den_nz (by omega)] at h
  rw [← Rat.num_nonneg]
  have := round_bounds q
  by_cases hn : 0 ≤ q.num
  · exact hn
  · have := this.2 (by omega); omega
theorem near_down {q : Rat} (h : ((qround q : Int) : Rat) - q = -qof 1 2) : q ≤ 0 := by
  rw [dform, nhalf_mk, Rat.mkRat_eq_iff q.den_nz (by omega)] at h
  refine Rat.not_lt.1 fun g => ?_
  have h0 : 0 ≤ q.num := Rat.num_nonneg.2 (Rat.le_of_lt g)
  have := (round_bounds q).1 h0
  omega
theorem round_neg (q : Rat) : qround (-q) = -qround q := by
  unfold qround
  rw [Rat.neg_num, Rat.neg_den, Int.natAbs_neg]
  by_cases h : q.num < 0
  · rw [if_neg (by omega), if_pos h]; omega
  · by_cases h0 : q.num = 0
    · have e : (2 * q.num.natAbs + q.den) / (2 * q.den) = 0 := by rw [h0]; exact Nat.div_eq_of_lt (by have := q.den_pos; simp; omega)
      rw [e]; simp
    · rw [if_pos (by omega), if_neg h]
theorem half_pos : (0 : Rat) < qof 1 2 := by rw [half_mk]; decide +kernel
theorem nhalf_lt : -qof 1 2 < qof 1 2 := by rw [nhalf_mk, half_mk]; decide +kernel
theorem qof_int (n : Int) : qof n 1 = ((n : Int) : Rat) := by
  unfold qof
  rw [if_neg (by decide), show (1 : Int).natAbs = 1 from rfl]
  exact (Rat.mkRat_self (n : Rat))
theorem floor_hi (q : Rat) : q < (q.floor : Rat) + 1 := by
  have := Rat.lt_floor_add_one q
  rw [Rat.intCast_add] at this
  exact this
end Go.Proofs.YtoflndeonegkpaaDoor
