/- Plain arithmetic of the long division: the estimate of a digit, shifts, and the root by Newton's steps; no program is in sight here. -/
import Derived.Test.YtelcjcgalkcadaaDoorNums2
namespace Go.Proofs.YtelcjcgalkcadaaDoor

/-- A digit that is too great is lowered: U = top * P * B + u2 * P + ul, V = (v1 * B + v2) * P + vl. -/
theorem digit_lower {P top u2 ul v1 v2 vl q r : Nat} (hul : ul < P) (hq : q * v1 + r = top) (h : r * 4294967296 + u2 < q * v2) :
    (top * 4294967296 + u2) * P + ul < q * ((v1 * 4294967296 + v2) * P + vl) := by
  have h1 : top * 4294967296 + u2 + 1 ≤ q * (v1 * 4294967296 + v2) := by
    rw [Nat.mul_add, ← hq, Nat.add_mul, ← Nat.mul_assoc]; omega
  have h2 : (top * 4294967296 + u2 + 1) * P ≤ q * (v1 * 4294967296 + v2) * P := Nat.mul_le_mul_right _ h1
  rw [Nat.add_mul _ 1 P] at h2
  rw [Nat.mul_add, ← Nat.mul_assoc]
  omega
/-- A digit that the test lets stand is too great by at most 1. -/
theorem digit_upper {P top u2 ul v1 v2 vl q r : Nat} (hvl : vl < P) (hv1 : 1 ≤ v1) (hB : q < 4294967296) (hq : q * v1 + r = top) (h : q * v2 ≤ r * 4294967296 + u2) :
    q * ((v1 * 4294967296 + v2) * P + vl) < (top * 4294967296 + u2) * P + ul + ((v1 * 4294967296 + v2) * P + vl) := by
  have h1 : q * (v1 * 4294967296 + v2) ≤ top * 4294967296 + u2 := by
    rw [Nat.mul_add, ← hq, Nat.add_mul, ← Nat.mul_assoc]; omega
  have h2 : q * (v1 * 4294967296 + v2) * P ≤ (top * 4294967296 + u2) * P := Nat.mul_le_mul_right _ h1
  have h3 : q * vl ≤ 4294967295 * vl := Nat.mul_le_mul_right _ (by omega)
  have h4 : 4294967296 * P ≤ (v1 * 4294967296 + v2) * P := Nat.mul_le_mul_right _ (by omega)
  rw [Nat.mul_add, ← Nat.mul_assoc]
  omega
/-- The rest has passed 2^32: the digit is below 2^32, and the test would let it stand. -/
theorem digit_stop {top v1 v2 u2 q r : Nat} (hq : q * v1 + r = top) (htop : top < (v1 + 1) * 4294967296) (hr : 4294967296 ≤ r) (hv2 : v2 < 4294967296) :
    q < 4294967296 ∧ q * v2 ≤ r * 4294967296 + u2 := by
  have hlt : q < 4294967296 := by
    rcases Nat.lt_or_ge q 4294967296 with h | h
    · exact h
    · have : 4294967296 * v1 ≤ q * v1 := Nat.mul_le_mul_right _ h
      omega
  refine ⟨hlt, ?_⟩
  have h1 : q * v2 ≤ 4294967295 * 4294967295 := Nat.mul_le_mul (by omega) (by omega)
  omega
theorem top_lt_any {B P top u2 ul v1 v2 vl : Nat} (hB : 0 < B) (hv2 : v2 < B) (hvl : vl < P) (h : (top * B + u2) * P + ul < B * ((v1 * B + v2) * P + vl)) : top < (v1 + 1) * B := by
  rcases Nat.lt_or_ge top ((v1 + 1) * B) with h1 | h1
  · exact h1
  · exfalso
    have h3 : (v1 * B + v2) * P + vl < (v1 + 1) * B * P := by
      have h0 : v1 * B + v2 + 1 ≤ (v1 + 1) * B := by rw [Nat.add_mul]; omega
      have h00 : (v1 * B + v2 + 1) * P ≤ (v1 + 1) * B * P := Nat.mul_le_mul_right _ h0
      rw [Nat.add_mul _ 1 P] at h00
      omega
    have h4 : B * ((v1 * B + v2) * P + vl) < B * ((v1 + 1) * B * P) := Nat.mul_lt_mul_of_pos_left h3 hB
    have h5 : B * ((v1 + 1) * B * P) ≤ B * (top * P) := Nat.mul_le_mul_left _ (Nat.mul_le_mul_right _ h1)
    have h6 : B * (top * P) = top * B * P := by rw [← Nat.mul_assoc, Nat.mul_comm B]
    rw [Nat.add_mul] at h
    omega
theorem top_lt {P top u2 ul v1 v2 vl : Nat} (hv2 : v2 < 4294967296) (hvl : vl < P) (h : (top * 4294967296 + u2) * P + ul < 4294967296 * ((v1 * 4294967296 + v2) * P + vl)) : top < (v1 + 1) * 4294967296 :=
  top_lt_any (by omega) hv2 hvl h
theorem digit_is {U V q : Nat} (hV : 0 < V) (h1 : U / V ≤ q) (h2 : q * V < U + V) : q = U / V ∨ q = U / V + 1 := by
  have h3 : q < U / V + 2 := by
    rcases Nat.lt_or_ge q (U / V + 2) with h | h
    · exact h
    · exfalso
      have h4 : (U / V + 2) * V ≤ q * V := Nat.mul_le_mul_right _ h
      have h5 := Nat.div_add_mod U V
      have h6 := Nat.mod_lt U hV
      rw [Nat.add_mul, Nat.mul_comm (U / V)] at h4
      omega
  omega

/-- One round of the subtraction of q * v in place; d is the new limb, nb the new borrow. -/
theorem msub_step {us vs R : List Nat} {i c b d nb q t : Nat} (hi : i < R.length)
    (h : val (R.take i) + q * val (vs.take i) = val (us.take i) + 4294967296 ^ i * (c + b))
    (ht : t = c + q * vs.getD i 0) (hd : d + t % 4294967296 + b = us.getD i 0 + 4294967296 * nb) :
    val ((R.set i d).take (i + 1)) + q * val (vs.take (i + 1)) = val (us.take (i + 1)) + 4294967296 ^ (i + 1) * (t / 4294967296 + nb) := by
  have e1 : (R.set i d).take i = R.take i := by rw [List.take_set]; rw [List.set_eq_of_length_le (by simp; omega)]
  have e2 : (R.set i d).getD i 0 = d := by rw [List.getD_eq_getElem?_getD, List.getElem?_set_self hi]; rfl
  rw [val_take_next, val_take_next, val_take_next, e1, e2, pow_step, Nat.mul_assoc, Nat.mul_add]
  clear e1 e2
  generalize us.getD i 0 = u at *
  generalize vs.getD i 0 = y at *
  have e := Nat.mod_add_div t 4294967296
  have e3 : 4294967296 ^ i * d + 4294967296 ^ i * (t % 4294967296) + 4294967296 ^ i * b = 4294967296 ^ i * u + 4294967296 ^ i * (4294967296 * nb) := by
    rw [← Nat.mul_add, ← Nat.mul_add, hd, Nat.mul_add]
  have e4 : 4294967296 ^ i * (4294967296 * (t / 4294967296 + nb)) = 4294967296 ^ i * (4294967296 * (t / 4294967296)) + 4294967296 ^ i * (4294967296 * nb) := by
    rw [Nat.mul_add, Nat.mul_add]
  have e5 : 4294967296 ^ i * (t % 4294967296) + 4294967296 ^ i * (4294967296 * (t / 4294967296)) = 4294967296 ^ i * c + q * (4294967296 ^ i * y) := by
    rw [← Nat.mul_add, e, ht, Nat.mul_add]
    congr 1
    rw [← Nat.mul_assoc, ← Nat.mul_assoc, Nat.mul_comm q]
  have e6 : 4294967296 ^ i * (c + b) = 4294967296 ^ i * c + 4294967296 ^ i * b := Nat.mul_add ..
  omega

/-- A shift to the left, limb by limb: p = 2^s, p * p' = 2^32. -/
theorem left_step {xs : List Nat} {i p p' L r : Nat} (hp : p * p' = 4294967296) (hL : L + 4294967296 ^ i * r = p * val (xs.take i)) :
    (L + 4294967296 ^ i * (r + p * xs.getD i 0 % 4294967296)) + 4294967296 ^ (i + 1) * (p * xs.getD i 0 / 4294967296) = p * val (xs.take (i + 1)) := by
  rw [val_take_next, pow_step, Nat.mul_assoc, Nat.mul_add, Nat.mul_add]
  generalize xs.getD i 0 = x at *
  have e := Nat.mod_add_div (p * x) 4294967296
  have e2 : 4294967296 ^ i * (p * x % 4294967296) + 4294967296 ^ i * (4294967296 * (p * x / 4294967296)) = p * (4294967296 ^ i * x) := by
    rw [← Nat.mul_add, e, ← Nat.mul_assoc, ← Nat.mul_assoc, Nat.mul_comm p]
  have := hp
  omega
/-- A shift to the right, limb by limb. -/
theorem right_limb {p p' x y : Nat} (hp : p * p' = 4294967296) (hp0 : 0 < p) (hx : x < 4294967296) (_hy : y < 4294967296) :
    p * (((x + 4294967296 * y) / p) % 4294967296) + x % p = x + 4294967296 * (y % p) := by
  have e1 : (x + 4294967296 * y) / p = x / p + p' * y := by
    rw [← hp, Nat.mul_assoc, Nat.add_mul_div_left _ _ hp0]
  have e2 : p' * y = p' * (y % p) + 4294967296 * (y / p) := by
    have := Nat.mod_add_div y p
    calc p' * y = p' * (y % p + p * (y / p)) := by rw [this]
      _ = p' * (y % p) + p' * (p * (y / p)) := Nat.mul_add ..
      _ = p' * (y % p) + 4294967296 * (y / p) := by rw [← Nat.mul_assoc, Nat.mul_comm p' p, hp]
  have hxp : x / p < p' := Nat.div_lt_of_lt_mul (by rw [hp]; exact hx)
  have hyp : y % p < p := Nat.mod_lt _ hp0
  have h3 : x / p + p' * (y % p) < 4294967296 := by
    have : p' * (y % p) ≤ p' * (p - 1) := Nat.mul_le_mul_left _ (by omega)
    have h4 : p' * (p - 1) + p' = 4294967296 := by
      rw [← Nat.mul_succ, Nat.succ_eq_add_one, Nat.sub_add_cancel hp0, Nat.mul_comm]; exact hp
    omega
  rw [e1, e2, ← Nat.add_assoc, Nat.add_mul_mod_self_left, Nat.mod_eq_of_lt h3, Nat.mul_add, ← Nat.mul_assoc, hp]
  have := Nat.mod_add_div x p
  omega
theorem right_step {rs xs : List Nat} {i p p' : Nat} (hr : rs.length = i) (hp : p * p' = 4294967296) (hp0 : 0 < p) (hl : Lim xs)
    (h : p * val rs + xs.getD 0 0 % p = val (xs.take i) + 4294967296 ^ i * (xs.getD i 0 % p)) :
    p * val (rs ++ [((xs.getD i 0 + 4294967296 * xs.getD (i + 1) 0) / p) % 4294967296]) + xs.getD 0 0 % p = val (xs.take (i + 1)) + 4294967296 ^ (i + 1) * (xs.getD (i + 1) 0 % p) := by
  rw [val_snoc, hr, val_take_next, pow_step, Nat.mul_assoc, Nat.mul_add]
  have e := right_limb hp hp0 (hl.get i) (hl.get (i + 1))
  generalize xs.getD i 0 = x at *
  generalize xs.getD (i + 1) 0 = y at *
  generalize ((x + 4294967296 * y) / p) % 4294967296 = d at *
  have e2 : p * (4294967296 ^ i * d) + 4294967296 ^ i * (x % p) = 4294967296 ^ i * x + 4294967296 ^ i * (4294967296 * (y % p)) := by
    rw [← Nat.mul_assoc, Nat.mul_comm p, Nat.mul_assoc, ← Nat.mul_add, e, Nat.mul_add]
  omega
theorem right_end {rs xs : List Nat} {p : Nat} (hp0 : 0 < p) (h : p * val rs + xs.getD 0 0 % p = val (xs.take xs.length) + 4294967296 ^ xs.length * (xs.getD xs.length 0 % p)) : val rs = val xs / p := by
  have e : xs.getD xs.length 0 = 0 := by rw [List.getD_eq_getElem?_getD, List.getElem?_eq_none (Nat.le_refl _)]; rfl
  rw [e, List.take_of_length_le (Nat.le_refl _), Nat.zero_mod, Nat.mul_zero, Nat.add_zero] at h
  rw [← h, Nat.mul_add_div hp0, Nat.div_eq_of_lt (Nat.mod_lt _ hp0)]; omega

/-- The root, rounded down. -/
def isqrtF : Nat → Nat → Nat
  | 0, _ => 0
  | f + 1, n => if (f + 1) * (f + 1) ≤ n then f + 1 else isqrtF f n
def isqrt (n : Nat) : Nat := isqrtF n n
theorem isqrtF_le (f n : Nat) : isqrtF f n * isqrtF f n ≤ n := by
  induction f with
  | zero => simp [isqrtF]
  | succ f ih =>
    unfold isqrtF
    split
    · assumption
    · exact ih
theorem isqrtF_gt (f n : Nat) (h : n < (f + 1) * (f + 1)) : n < (isqrtF f n + 1) * (isqrtF f n + 1) := by
  induction f with
  | zero => simpa [isqrtF] using h
  | succ f ih =>
    unfold isqrtF
    split
    · exact h
    · exact ih (by omega)
theorem isqrt_le (n : Nat) : isqrt n * isqrt n ≤ n := isqrtF_le n n
theorem isqrt_gt (n : Nat) : n < (isqrt n + 1) * (isqrt n + 1) := isqrtF_gt n n (by have := Nat.mul_le_mul_right (n + 1) (by omega : 1 ≤ n + 1); omega)
theorem sq_lt {a b : Nat} (h : a * a < b * b) : a < b := by
  rcases Nat.lt_or_ge a b with h1 | h1
  · exact h1
  · have := Nat.mul_le_mul h1 h1; omega
theorem isqrt_unique {n r : Nat} (h1 : r * r ≤ n) (h2 : n < (r + 1) * (r + 1)) : isqrt n = r := by
  have h3 := isqrt_le n
  have h4 := isqrt_gt n
  have a := sq_lt (Nat.lt_of_le_of_lt h1 h4)
  have b := sq_lt (Nat.lt_of_le_of_lt h3 h2)
  omega
theorem le_isqrt {n r : Nat} (h : r * r ≤ n) : r ≤ isqrt n := by
  have := sq_lt (Nat.lt_of_le_of_lt h (isqrt_gt n)); omega
/-- A Newton step does not fall below the root. -/
theorem newton_ge {a x : Nat} (hx : 0 < x) : isqrt a ≤ (x + a / x) / 2 := by
  generalize hr : isqrt a = r
  have h1 : r * r ≤ a := by rw [← hr]; exact isqrt_le a
  rw [Nat.le_div_iff_mul_le (by omega)]
  rcases Nat.le_total (r * 2) x with h | h
  · exact Nat.le_trans h (Nat.le_add_right _ _)
  · have key : r * 2 - x ≤ a / x := by
      rw [Nat.le_div_iff_mul_le hx]
      refine Nat.le_trans ?_ h1
      obtain ⟨d, hd⟩ := Nat.exists_eq_add_of_le h
      have e : r * 2 - x = d := by omega
      rw [e]
      rcases Nat.le_total d r with g | g
      · obtain ⟨k, hk⟩ := Nat.exists_eq_add_of_le g
        obtain rfl : x = d + 2 * k := by omega
        rw [hk, Nat.mul_add, Nat.add_mul, Nat.mul_add, Nat.mul_add, Nat.mul_comm k d, Nat.mul_left_comm d 2 k]
        have := Nat.zero_le (k * k)
        omega
      · obtain ⟨k, hk⟩ := Nat.exists_eq_add_of_le g
        obtain rfl : r = x + k := by omega
        obtain rfl : d = x + 2 * k := by omega
        rw [Nat.add_mul, Nat.add_mul, Nat.mul_add, Nat.mul_add, Nat.mul_comm k x, Nat.mul_assoc 2 k x, Nat.mul_comm k x]
        have := Nat.zero_le (k * k)
        omega
    generalize a / x = z at *
    omega
/-- Where the step does not go down, the root is reached. -/
theorem newton_stop {a x : Nat} (hx : 0 < x) (hge : isqrt a ≤ x) (h : x ≤ (x + a / x) / 2) : x = isqrt a := by
  have h1 : x ≤ a / x := by rw [Nat.le_div_iff_mul_le (by omega)] at h; omega
  have h2 : x * x ≤ a := (Nat.le_div_iff_mul_le hx).1 h1
  have := le_isqrt h2
  omega
end Go.Proofs.YtelcjcgalkcadaaDoor
