/- Plain arithmetic of the loops of addition, subtraction, multiplication and short division over limbs; no program is in sight here. -/
import Derived.Test.YtelcjcgalkcadaaDoorNums
namespace Go.Proofs.YtelcjcgalkcadaaDoor

theorem val_take_next (xs : List Nat) (k : Nat) : val (xs.take (k + 1)) = val (xs.take k) + 4294967296 ^ k * xs.getD k 0 := by
  by_cases hk : k < xs.length
  · exact val_take_succ xs k hk
  · have e : xs.getD k 0 = 0 := by rw [List.getD_eq_getElem?_getD, List.getElem?_eq_none (by omega)]; rfl
    rw [List.take_of_length_le (by omega), List.take_of_length_le (by omega), e]; omega
theorem pow_step (k : Nat) : 4294967296 ^ (k + 1) = 4294967296 ^ k * 4294967296 := Nat.pow_succ ..
theorem pow_pos' (k : Nat) : 0 < 4294967296 ^ k := Nat.pow_pos (by omega)

/-- One round of the addition. -/
theorem add_step {rs xs ys : List Nat} {i c : Nat} (hr : rs.length = i) (h : val rs + 4294967296 ^ i * c = val (xs.take i) + val (ys.take i)) :
    val (rs ++ [(c + xs.getD i 0 + ys.getD i 0) % 4294967296]) + 4294967296 ^ (i + 1) * ((c + xs.getD i 0 + ys.getD i 0) / 4294967296) = val (xs.take (i + 1)) + val (ys.take (i + 1)) := by
  rw [val_snoc, hr, val_take_next, val_take_next, pow_step, Nat.mul_assoc]
  generalize xs.getD i 0 = x at *
  generalize ys.getD i 0 = y at *
  have e := Nat.mod_add_div (c + x + y) 4294967296
  have e2 : 4294967296 ^ i * ((c + x + y) % 4294967296) + 4294967296 ^ i * (4294967296 * ((c + x + y) / 4294967296)) = 4294967296 ^ i * c + 4294967296 ^ i * x + 4294967296 ^ i * y := by
    rw [← Nat.mul_add, e, Nat.mul_add, Nat.mul_add]
  omega

/-- One round of the subtraction; d is the new limb, c the new borrow. -/
theorem sub_step {rs xs ys : List Nat} {i b d c : Nat} (hr : rs.length = i) (h : val rs + val (ys.take i) = val (xs.take i) + 4294967296 ^ i * b) (hd : d + b + ys.getD i 0 = xs.getD i 0 + 4294967296 * c) :
    val (rs ++ [d]) + val (ys.take (i + 1)) = val (xs.take (i + 1)) + 4294967296 ^ (i + 1) * c := by
  rw [val_snoc, hr, val_take_next, val_take_next, pow_step, Nat.mul_assoc]
  generalize xs.getD i 0 = x at *
  generalize ys.getD i 0 = y at *
  have e2 : 4294967296 ^ i * d + 4294967296 ^ i * b + 4294967296 ^ i * y = 4294967296 ^ i * x + 4294967296 ^ i * (4294967296 * c) := by
    rw [← Nat.mul_add, ← Nat.mul_add, hd, Nat.mul_add]
  omega

/-- A limb of a number below B^k is 0 from k on. -/
theorem val_ge_get (xs : List Nat) (k : Nat) : 4294967296 ^ k * xs.getD k 0 ≤ val xs := by
  have h := val_take_next xs k
  by_cases hk : k < xs.length
  · have h2 := val_take_drop xs (k + 1) (by omega)
    have := Nat.zero_le (4294967296 ^ (k + 1) * val (xs.drop (k + 1)))
    omega
  · have e : xs.getD k 0 = 0 := by rw [List.getD_eq_getElem?_getD, List.getElem?_eq_none (by omega)]; rfl
    rw [e]; omega
theorem get_zero_of_lt {xs : List Nat} {k j : Nat} (h : val xs < 4294967296 ^ k) (hj : k ≤ j) : xs.getD j 0 = 0 := by
  have h1 := val_ge_get xs j
  have h2 : 4294967296 ^ k ≤ 4294967296 ^ j := Nat.pow_le_pow_right (by omega) hj
  rcases Nat.eq_zero_or_pos (xs.getD j 0) with e | e
  · exact e
  · have : 4294967296 ^ j * 1 ≤ 4294967296 ^ j * xs.getD j 0 := Nat.mul_le_mul_left _ e
    omega

/-- One round of the inner loop of the multiplication. -/
theorem mul_step {R ys : List Nat} {i k c x V0 : Nat} (hk : i + k < R.length) (h : val R + 4294967296 ^ (i + k) * c = V0 + 4294967296 ^ i * (x * val (ys.take k))) :
    val (R.set (i + k) ((c + x * ys.getD k 0 + R.getD (i + k) 0) % 4294967296)) + 4294967296 ^ (i + (k + 1)) * ((c + x * ys.getD k 0 + R.getD (i + k) 0) / 4294967296) = V0 + 4294967296 ^ i * (x * val (ys.take (k + 1))) := by
  have hs := val_set R (i + k) ((c + x * ys.getD k 0 + R.getD (i + k) 0) % 4294967296) hk
  generalize R.getD (i + k) 0 = r at *
  rw [val_take_next]
  generalize ys.getD k 0 = y at *
  generalize ht : c + x * y + r = t at *
  have e := Nat.mod_add_div t 4294967296
  rw [← Nat.add_assoc, pow_step, Nat.mul_assoc]
  have e2 : 4294967296 ^ (i + k) * (t % 4294967296) + 4294967296 ^ (i + k) * (4294967296 * (t / 4294967296)) = 4294967296 ^ (i + k) * c + 4294967296 ^ (i + k) * (x * y) + 4294967296 ^ (i + k) * r := by
    rw [← Nat.mul_add, e, ← ht, Nat.mul_add, Nat.mul_add]
  have e3 : 4294967296 ^ i * (x * (val (ys.take k) + 4294967296 ^ k * y)) = 4294967296 ^ i * (x * val (ys.take k)) + 4294967296 ^ (i + k) * (x * y) := by
    rw [Nat.mul_add, Nat.mul_add, Nat.pow_add]
    congr 1
    rw [Nat.mul_assoc]
    congr 1
    rw [← Nat.mul_assoc, ← Nat.mul_assoc, Nat.mul_comm x]
  omega
/-- The end of a round of the outer loop. -/
theorem mul_round {R xs ys : List Nat} {i c : Nat} (hl : i + ys.length < R.length) (hz : R.getD (i + ys.length) 0 = 0)
    (h : val R + 4294967296 ^ (i + ys.length) * c = val (xs.take i) * val ys + 4294967296 ^ i * (xs.getD i 0 * val (ys.take ys.length))) :
    val (R.set (i + ys.length) c) = val (xs.take (i + 1)) * val ys := by
  have hs := val_set R (i + ys.length) c hl
  rw [hz] at hs
  rw [List.take_of_length_le (Nat.le_refl _)] at h
  rw [val_take_next, Nat.add_mul, Nat.mul_assoc]
  omega

/-- The sums that the code forms fit into 64 bits. -/
theorem mul_fits {c x y r : Nat} (hc : c < 4294967296) (hx : x < 4294967296) (hy : y < 4294967296) (hr : r < 4294967296) : c + (x * y + r) < 18446744073709551616 := by
  have : x * y ≤ 4294967295 * 4294967295 := Nat.mul_le_mul (by omega) (by omega)
  omega
theorem mul_fits' {c x y r : Nat} (hc : c < 4294967296) (hx : x < 4294967296) (hy : y < 4294967296) (hr : r < 4294967296) : (c + x * y + r) / 4294967296 < 4294967296 := by
  have : x * y ≤ 4294967295 * 4294967295 := Nat.mul_le_mul (by omega) (by omega)
  omega

/-- One round of the short division, from the top. -/
theorem short_step {xs : List Nat} {k d r Q : Nat} (hk : k < xs.length) (h : val (xs.drop (k + 1)) = d * Q + r) :
    val (xs.drop k) = d * ((r * 4294967296 + xs.getD k 0) / d + 4294967296 * Q) + (r * 4294967296 + xs.getD k 0) % d := by
  have e : val (xs.drop k) = xs.getD k 0 + 4294967296 * val (xs.drop (k + 1)) := by
    rw [List.drop_eq_getElem_cons hk, List.getD_eq_getElem?_getD, List.getElem?_eq_getElem hk]; rfl
  rw [e, h, Nat.mul_add, Nat.mul_add]
  have e2 := Nat.div_add_mod (r * 4294967296 + xs.getD k 0) d
  generalize xs.getD k 0 = x at *
  have e3 : 4294967296 * (d * Q) = d * (4294967296 * Q) := by rw [← Nat.mul_assoc, ← Nat.mul_assoc, Nat.mul_comm d]
  omega
end Go.Proofs.YtelcjcgalkcadaaDoor
