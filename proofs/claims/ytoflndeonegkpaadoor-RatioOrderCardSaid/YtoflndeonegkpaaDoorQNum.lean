/- Rational numbers: what the functions of ratio reckon, in plain words. -/
import Derived.Test.YtoflndeonegkpaaDoorInt6
namespace Go.Proofs.YtoflndeonegkpaaDoor

theorem zval_sgn (b : Bool) (xs : List Nat) : zval b xs = zval b (limbs (val xs)) := by cases b <;> simp [zval, val_limbs]
/-- The numerator in lowest terms. -/
theorem qnum_of (b : Bool) (xs : List Nat) {D : Nat} (hD : D ≠ 0) : (mkRat (zval b xs) D).num = zval b (limbs (val xs / Nat.gcd (val xs) D)) := by
  rw [Rat.num_mkRat, if_neg hD, zval_abs, Nat.gcd_comm]
  have hd : ((Nat.gcd (val xs) D : Nat) : Int) ∣ ((val xs : Nat) : Int) := Int.natCast_dvd_natCast.2 (Nat.gcd_dvd_left _ _)
  cases b
  · rw [zval_false, zval_false, val_limbs, Int.natCast_ediv]
  · rw [zval_true, zval_true, val_limbs, Int.natCast_ediv, Int.neg_ediv_of_dvd hd]
theorem qden_of (z : Int) {D : Nat} (hD : D ≠ 0) : (mkRat z D).den = D / Nat.gcd z.natAbs D := by
  rw [Rat.den_mkRat, if_neg hD, Nat.gcd_comm]
theorem gcd_ne {X D : Nat} (hD : D ≠ 0) : Nat.gcd X D ≠ 0 := fun h => hD (Nat.gcd_eq_zero_iff.1 h).2
/-- How a form lies over its lowest terms. -/
theorem qform (z : Int) {D : Nat} (hD : D ≠ 0) : ∃ m : Nat, m ≠ 0 ∧ z = (mkRat z D).num * (m : Int) ∧ D = (mkRat z D).den * m := by
  obtain ⟨m, h1, h2, h3⟩ := Rat.mkRat_num_den hD (show mkRat z D = ⟨(mkRat z D).num, (mkRat z D).den, (mkRat z D).den_nz, (mkRat z D).reduced⟩ from rfl)
  exact ⟨m, h1, h2, h3⟩
/-! ### Sizes -/
def QSz (q : Rat) (k : Nat) : Prop := Sz q.num.natAbs k ∧ Sz q.den k
theorem QSz.more {q : Rat} {k j : Nat} (h : QSz q k) (hj : k ≤ j) : QSz q j := ⟨h.1.more hj, h.2.more hj⟩
theorem sz_zero (k : Nat) : Sz 0 k := Nat.pow_pos (by omega)
theorem sz_one {k : Nat} (h : 1 ≤ k) : Sz 1 k := Sz.one.more h
theorem qsz_mk {z : Int} {D k : Nat} (hz : Sz z.natAbs k) (hd : Sz D k) (hk : 1 ≤ k) : QSz (mkRat z D) k := by
  by_cases hD : D = 0
  · subst hD
    rw [Rat.mkRat_zero]
    exact ⟨sz_zero k, sz_one hk⟩
  · refine ⟨?_, ?_⟩
    · obtain ⟨m, h1, h2, _⟩ := qform z hD
      refine hz.le ?_
      have h3 : z.natAbs = (mkRat z D).num.natAbs * m := by
        have := congrArg Int.natAbs h2
        rwa [Int.natAbs_mul, Int.natAbs_natCast] at this
      rw [h3]
      exact Nat.le_mul_of_pos_right _ (by omega)
    · rw [qden_of z hD]
      exact hd.le (Nat.div_le_self _ _)
section
variable {p q : Rat} {k j : Nat}
theorem Sz.pos1 (h : Sz q.den k) : 1 ≤ k := by
  rcases Nat.eq_zero_or_pos k with rfl | h1
  · have := q.den_pos
    unfold Sz at h
    rw [Nat.pow_zero] at h
    omega
  · exact h1
theorem QSz.neg (h : QSz q k) : QSz (-q) k := ⟨by rw [Rat.neg_num, Int.natAbs_neg]; exact h.1, h.2⟩
theorem QSz.add (h : QSz p k) (g : QSz q j) : QSz (p + q) (k + j + 1) := by
  rw [Rat.add_def']
  refine qsz_mk ?_ ?_ (by omega)
  · have a : Sz (p.num * q.den).natAbs (k + j) := by rw [Int.natAbs_mul]; exact h.1.mul g.2
    have b : Sz (q.num * p.den).natAbs (k + j) := by rw [Int.natAbs_mul, Nat.add_comm]; exact g.1.mul h.2
    exact (a.add b).le (Int.natAbs_add_le _ _)
  · exact (h.2.mul g.2).more (by omega)
theorem QSz.sub (h : QSz p k) (g : QSz q j) : QSz (p - q) (k + j + 1) := by rw [Rat.sub_eq_add_neg]; exact h.add g.neg
theorem QSz.mul (h : QSz p k) (g : QSz q j) : QSz (p * q) (k + j) := by
  rw [Rat.mul_def']
  refine qsz_mk ?_ (h.2.mul g.2) (by have := Sz.pos1 h.2; omega)
  rw [Int.natAbs_mul]; exact h.1.mul g.1
theorem QSz.inv (h : QSz q k) : QSz q⁻¹ k := by
  refine ⟨?_, ?_⟩
  · rw [Rat.num_inv, Int.natAbs_mul, Int.natAbs_natCast]
    refine h.2.le ?_
    have h1 : q.num.sign.natAbs ≤ 1 := by rcases Int.lt_trichotomy q.num 0 with h0 | h0 | h0 <;> simp [Int.sign_eq_neg_one_of_neg, Int.sign_eq_one_of_pos, h0]
    calc q.num.sign.natAbs * q.den ≤ 1 * q.den := Nat.mul_le_mul_right _ h1
      _ = q.den := Nat.one_mul _
  · rw [Rat.den_inv]
    split
    · exact sz_one (Sz.pos1 h.2)
    · exact h.1
theorem QSz.div (h : QSz p k) (g : QSz q j) : QSz (p / q) (k + j) := by rw [Rat.div_def]; exact h.mul g.inv
end
/-! ### Order -/
theorem mk_lt {n1 n2 : Int} {d1 d2 : Nat} (h1 : d1 ≠ 0) (h2 : d2 ≠ 0) : mkRat n1 d1 < mkRat n2 d2 ↔ n1 * (d2 : Int) < n2 * (d1 : Int) := by
  obtain ⟨m, hm, e1, e2⟩ := qform n1 h1
  obtain ⟨l, hl, f1, f2⟩ := qform n2 h2
  rw [Rat.lt_iff]
  generalize mkRat n1 d1 = p at *
  generalize mkRat n2 d2 = q at *
  have hmi : (0 : Int) < (m : Int) := by omega
  have hli : (0 : Int) < (l : Int) := by omega
  have hml : (0 : Int) < (m : Int) * (l : Int) := Int.mul_pos hmi hli
  rw [e1, e2, f1, f2, Int.natCast_mul, Int.natCast_mul]
  rw [show p.num * (m : Int) * ((q.den : Int) * (l : Int)) = p.num * (q.den : Int) * ((m : Int) * (l : Int)) by simp only [Int.mul_assoc, Int.mul_comm, Int.mul_left_comm]]
  rw [show q.num * (l : Int) * ((p.den : Int) * (m : Int)) = q.num * (p.den : Int) * ((m : Int) * (l : Int)) by simp only [Int.mul_assoc, Int.mul_comm, Int.mul_left_comm]]
  exact ⟨fun h => Int.mul_lt_mul_of_pos_right h hml, fun h => Int.lt_of_mul_lt_mul_right h (Int.le_of_lt hml)⟩
def qord (p q : Rat) : Int := if p < q then -1 else if q < p then 1 else 0
theorem qord_of {n1 n2 : Int} {d1 d2 : Nat} (h1 : d1 ≠ 0) (h2 : d2 ≠ 0) : zord (n1 * (d2 : Int)) (n2 * (d1 : Int)) = qord (mkRat n1 d1) (mkRat n2 d2) := by
  unfold zord qord
  by_cases h : n1 * (d2 : Int) < n2 * (d1 : Int)
  · rw [if_pos h, if_pos ((mk_lt h1 h2).2 h)]
  · rw [if_neg h, if_neg (fun g => h ((mk_lt h1 h2).1 g))]
    by_cases e : n2 * (d1 : Int) < n1 * (d2 : Int)
    · rw [if_pos e, if_pos ((mk_lt h2 h1).2 e)]
    · rw [if_neg e, if_neg (fun g => e ((mk_lt h2 h1).1 g))]
/-! ### Quotients, floor, nearest -/
theorem mk_div {n1 n2 r : Int} {d1 d2 e : Nat} (h1 : d1 ≠ 0) (h2 : d2 ≠ 0) (he : e ≠ 0) (hn : n2 ≠ 0) (h : r * n2 * (d1 : Int) = n1 * ((e : Int) * (d2 : Int))) : mkRat r e = mkRat n1 d1 / mkRat n2 d2 := by
  have h0 : mkRat n2 d2 ≠ 0 := (Rat.mkRat_ne_zero h2).2 hn
  have h3 : mkRat r e * mkRat n2 d2 = mkRat n1 d1 := by
    rw [Rat.mkRat_mul_mkRat, Rat.mkRat_eq_iff (Nat.mul_ne_zero he h2) h1, Int.natCast_mul]
    exact h
  rw [← h3, Rat.mul_div_cancel h0]
theorem mk_floor (z : Int) {D : Nat} (hD : D ≠ 0) : z / (D : Int) = (mkRat z D).floor := by
  obtain ⟨m, hm, e1, e2⟩ := qform z hD
  rw [Rat.floor_def]
  generalize mkRat z D = q at *
  rw [e1, e2, Int.natCast_mul, Int.mul_comm q.num, Int.mul_comm (q.den : Int), Int.mul_ediv_mul_of_pos _ _ (by omega)]
/-- The nearest integer, halves away from zero. -/
def qround (q : Rat) : Int := if q.num < 0 then -(((2 * q.num.natAbs + q.den) / (2 * q.den) : Nat) : Int) else (((2 * q.num.natAbs + q.den) / (2 * q.den) : Nat) : Int)
theorem mk_round (b : Bool) (xs : List Nat) {D : Nat} (hD : D ≠ 0) : zval b (limbs ((val xs + val xs + D) / (D + D))) = qround (mkRat (zval b xs) D) := by
  obtain ⟨m, hm, e1, e2⟩ := qform (zval b xs) hD
  have hv : val xs = (mkRat (zval b xs) D).num.natAbs * m := by
    have := congrArg Int.natAbs e1
    rwa [zval_abs, Int.natAbs_mul, Int.natAbs_natCast] at this
  have hb : val xs ≠ 0 → ((mkRat (zval b xs) D).num < 0 ↔ b = true) := by
    intro h0
    rw [qnum_of b xs hD]
    have hp : 0 < val xs / Nat.gcd (val xs) D := Nat.div_pos (Nat.le_of_dvd (by omega) (Nat.gcd_dvd_left _ _)) (Nat.pos_of_ne_zero (gcd_ne hD))
    cases b
    · rw [zval_false, val_limbs]
      exact ⟨fun h => by omega, fun h => by cases h⟩
    · rw [zval_true, val_limbs]
      exact ⟨fun _ => rfl, fun _ => by omega⟩
  generalize mkRat (zval b xs) D = q at *
  have e3 : (val xs + val xs + D) / (D + D) = (2 * q.num.natAbs + q.den) / (2 * q.den) := by
    rw [hv, e2]
    rw [show q.num.natAbs * m + q.num.natAbs * m + q.den * m = (2 * q.num.natAbs + q.den) * m by rw [Nat.add_mul, Nat.mul_assoc, Nat.two_mul]]
    rw [show q.den * m + q.den * m = 2 * q.den * m by rw [Nat.mul_assoc, Nat.two_mul]]
    exact Nat.mul_div_mul_right _ _ (by omega)
  rw [e3]
  unfold qround
  by_cases h0 : val xs = 0
  · have h1 : q.num.natAbs = 0 := by
      rw [h0] at hv
      rcases Nat.mul_eq_zero.1 hv.symm with h | h
      · exact h
      · exact absurd h hm
    have h2 : (2 * q.num.natAbs + q.den) / (2 * q.den) = 0 := by rw [h1]; exact Nat.div_eq_of_lt (by have := q.den_pos; omega)
    rw [h2]
    cases b <;> simp [zval, limbs_zero, val]
  · cases b
    · rw [if_neg (fun h => by have := (hb h0).1 h; cases this), zval_false, val_limbs]
    · rw [if_pos ((hb h0).2 rfl), zval_true, val_limbs]
end Go.Proofs.YtoflndeonegkpaaDoor
