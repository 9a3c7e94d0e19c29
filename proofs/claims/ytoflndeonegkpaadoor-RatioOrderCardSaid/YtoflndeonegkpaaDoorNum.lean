/- Plain arithmetic of numbers written in limbs of 32 bits; no program is in sight here. -/
namespace Go.Proofs.YtoflndeonegkpaaDoor

/-- The value of a list of limbs, the least significant first. -/
def val : List Nat → Nat
  | [] => 0
  | x :: xs => x + 4294967296 * val xs

/-- All limbs are below 2^32. -/
def Lim (xs : List Nat) : Prop := ∀ x ∈ xs, x < 4294967296

def limbsF : Nat → Nat → List Nat
  | 0, _ => []
  | f + 1, n => if n = 0 then [] else n % 4294967296 :: limbsF f (n / 4294967296)
/-- The normal form of a number. -/
def limbs (n : Nat) : List Nat := limbsF n n

/-- A list without its zeros at the end. -/
def trimL : List Nat → List Nat
  | [] => []
  | x :: xs => if trimL xs = [] then (if x = 0 then [] else [x]) else x :: trimL xs

theorem limbsF_zero (f : Nat) : limbsF f 0 = [] := by cases f <;> simp [limbsF]
theorem limbsF_more (f : Nat) : ∀ n, n ≤ f → limbsF f n = limbsF n n := by
  induction f using Nat.strongRecOn with
  | ind f ih =>
    intro n hn
    match f, n with
    | 0, n => have : n = 0 := by omega
              subst this; rfl
    | f + 1, 0 => simp [limbsF]
    | f + 1, n + 1 =>
      simp only [limbsF, if_neg (Nat.succ_ne_zero n)]
      congr 1
      have hlt : (n + 1) / 4294967296 ≤ n := by omega
      rw [ih f (by omega) _ (by omega)]
      by_cases hf : n = f
      · subst hf; rw [ih n (by omega) _ hlt]
      · rw [ih n (by omega) _ hlt]
theorem limbs_zero : limbs 0 = [] := rfl
theorem limbs_pos {n : Nat} (h : n ≠ 0) : limbs n = n % 4294967296 :: limbs (n / 4294967296) := by
  unfold limbs
  match n, h with
  | n + 1, _ =>
    simp only [limbsF, if_neg (Nat.succ_ne_zero n)]
    congr 1
    exact limbsF_more n _ (by omega)
theorem limbs_eq_nil {n : Nat} : limbs n = [] ↔ n = 0 := by
  constructor
  · intro h
    by_cases h0 : n = 0
    · exact h0
    · rw [limbs_pos h0] at h; cases h
  · rintro rfl; rfl
theorem val_limbs (n : Nat) : val (limbs n) = n := by
  induction n using Nat.strongRecOn with
  | ind n ih =>
    by_cases h : n = 0
    · subst h; rfl
    · rw [limbs_pos h]
      show n % 4294967296 + 4294967296 * val (limbs (n / 4294967296)) = n
      rw [ih _ (by omega)]
      omega
theorem lim_limbs (n : Nat) : Lim (limbs n) := by
  induction n using Nat.strongRecOn with
  | ind n ih =>
    by_cases h : n = 0
    · subst h; intro x hx; cases hx
    · rw [limbs_pos h]
      intro x hx
      rcases List.mem_cons.1 hx with rfl | hx
      · omega
      · exact ih _ (by omega) x hx
theorem Lim.tail {x : Nat} {xs : List Nat} (h : Lim (x :: xs)) : Lim xs := fun y hy => h y (List.mem_cons_of_mem _ hy)
theorem Lim.head {x : Nat} {xs : List Nat} (h : Lim (x :: xs)) : x < 4294967296 := h x List.mem_cons_self
theorem lim_nil : Lim [] := fun _ h => by cases h
theorem Lim.cons {x : Nat} {xs : List Nat} (hx : x < 4294967296) (h : Lim xs) : Lim (x :: xs) := fun y hy => by
  rcases List.mem_cons.1 hy with rfl | hy
  · exact hx
  · exact h y hy
theorem Lim.append {xs ys : List Nat} (h : Lim xs) (k : Lim ys) : Lim (xs ++ ys) := fun y hy => by
  rcases List.mem_append.1 hy with hy | hy
  · exact h y hy
  · exact k y hy
theorem Lim.take {xs : List Nat} (h : Lim xs) (n : Nat) : Lim (xs.take n) := fun y hy => h y (List.mem_of_mem_take hy)
theorem Lim.drop {xs : List Nat} (h : Lim xs) (n : Nat) : Lim (xs.drop n) := fun y hy => h y (List.mem_of_mem_drop hy)
theorem Lim.set {xs : List Nat} (h : Lim xs) (n : Nat) {x : Nat} (hx : x < 4294967296) : Lim (xs.set n x) := fun y hy => by
  rcases List.mem_or_eq_of_mem_set hy with hy | rfl
  · exact h y hy
  · exact hx
theorem Lim.replicate (n : Nat) : Lim (List.replicate n 0) := fun y hy => by
  have := List.eq_of_mem_replicate hy
  omega
theorem Lim.get {xs : List Nat} (h : Lim xs) (i : Nat) : xs.getD i 0 < 4294967296 := by
  rw [List.getD_eq_getElem?_getD]
  rcases hx : xs[i]? with _ | x
  · simp
  · exact h x (List.mem_of_getElem? hx)

theorem trimL_nil_val {xs : List Nat} (h : trimL xs = []) : val xs = 0 := by
  induction xs with
  | nil => rfl
  | cons x xs ih =>
    unfold trimL at h
    by_cases h1 : trimL xs = []
    · rw [if_pos h1] at h
      by_cases h2 : x = 0
      · simp [val, ih h1, h2]
      · rw [if_neg h2] at h; cases h
    · rw [if_neg h1] at h; cases h
theorem trimL_eq {xs : List Nat} (h : Lim xs) : trimL xs = limbs (val xs) := by
  induction xs with
  | nil => rfl
  | cons x xs ih =>
    have ih := ih h.tail
    have hx := h.head
    unfold trimL
    by_cases h1 : trimL xs = []
    · rw [if_pos h1]
      have hv := trimL_nil_val h1
      by_cases h2 : x = 0
      · rw [if_pos h2]; simp [val, hv, h2, limbs_zero]
      · rw [if_neg h2]
        show [x] = limbs (x + 4294967296 * val xs)
        rw [hv, limbs_pos (by omega)]
        have e1 : (x + 4294967296 * 0) % 4294967296 = x := by omega
        have e2 : (x + 4294967296 * 0) / 4294967296 = 0 := by omega
        rw [e1, e2, limbs_zero]
    · rw [if_neg h1]
      have hv : val xs ≠ 0 := fun e => h1 (by rw [ih, e, limbs_zero])
      show x :: trimL xs = limbs (x + 4294967296 * val xs)
      rw [limbs_pos (by omega)]
      have e1 : (x + 4294967296 * val xs) % 4294967296 = x := by omega
      have e2 : (x + 4294967296 * val xs) / 4294967296 = val xs := by omega
      rw [e1, e2, ih]
theorem trimL_limbs (n : Nat) : trimL (limbs n) = limbs n := by rw [trimL_eq (lim_limbs n), val_limbs]

theorem val_append (xs ys : List Nat) : val (xs ++ ys) = val xs + 4294967296 ^ xs.length * val ys := by
  induction xs with
  | nil => simp [val]
  | cons x xs ih =>
    simp only [List.cons_append, val, ih, List.length_cons, Nat.pow_succ]
    rw [Nat.mul_add, ← Nat.mul_assoc, Nat.mul_comm (4294967296 ^ xs.length) 4294967296]
    omega
theorem val_snoc (xs : List Nat) (x : Nat) : val (xs ++ [x]) = val xs + 4294967296 ^ xs.length * x := by
  rw [val_append]; simp [val]
theorem val_replicate (n : Nat) : val (List.replicate n 0) = 0 := by
  induction n with
  | zero => rfl
  | succ n ih => simp [List.replicate_succ, val, ih]
theorem val_lt {xs : List Nat} (h : Lim xs) : val xs < 4294967296 ^ xs.length := by
  induction xs with
  | nil => simp [val]
  | cons x xs ih =>
    have := ih h.tail
    have := h.head
    simp only [val, List.length_cons, Nat.pow_succ]
    omega
theorem val_take_drop (xs : List Nat) (k : Nat) (hk : k ≤ xs.length) : val xs = val (xs.take k) + 4294967296 ^ k * val (xs.drop k) := by
  have := val_append (xs.take k) (xs.drop k)
  rw [List.take_append_drop] at this
  rw [this, List.length_take, Nat.min_eq_left hk]
theorem val_take_succ (xs : List Nat) (k : Nat) (hk : k < xs.length) : val (xs.take (k + 1)) = val (xs.take k) + 4294967296 ^ k * xs.getD k 0 := by
  rw [List.take_succ_eq_append_getElem hk, val_snoc, List.length_take, Nat.min_eq_left (by omega), List.getD_eq_getElem?_getD, List.getElem?_eq_getElem hk, Option.getD_some]
theorem val_set (xs : List Nat) (k x : Nat) (hk : k < xs.length) : val (xs.set k x) + 4294967296 ^ k * xs.getD k 0 = val xs + 4294967296 ^ k * x := by
  induction xs generalizing k with
  | nil => simp at hk
  | cons y ys ih =>
    match k with
    | 0 => simp [val]; omega
    | k + 1 =>
      have := ih k (by simpa using hk)
      simp only [List.set_cons_succ, val, List.getD_cons_succ, Nat.pow_succ]
      rw [Nat.mul_comm (4294967296 ^ k) 4294967296, Nat.mul_assoc, Nat.mul_assoc]
      omega
/-- The length of the normal form. -/
theorem limbs_length_le {n k : Nat} (h : n < 4294967296 ^ k) : (limbs n).length ≤ k := by
  induction k generalizing n with
  | zero => have : n = 0 := by simpa using h
            subst this; simp [limbs_zero]
  | succ k ih =>
    by_cases h0 : n = 0
    · subst h0; simp [limbs_zero]
    · rw [limbs_pos h0, List.length_cons]
      have : n / 4294967296 < 4294967296 ^ k := Nat.div_lt_of_lt_mul (by rw [Nat.mul_comm, ← Nat.pow_succ]; exact h)
      have := ih this
      omega
theorem trimL_length_le (xs : List Nat) : (trimL xs).length ≤ xs.length := by
  induction xs with
  | nil => simp [trimL]
  | cons x xs ih =>
    unfold trimL
    by_cases h1 : trimL xs = []
    · rw [if_pos h1]
      by_cases h2 : x = 0
      · rw [if_pos h2]; simp
      · rw [if_neg h2]; simp
    · rw [if_neg h1]; simp; exact ih
theorem limbs_val_length {xs : List Nat} (h : Lim xs) : (limbs (val xs)).length ≤ xs.length := by
  rw [← trimL_eq h]; exact trimL_length_le xs
end Go.Proofs.YtoflndeonegkpaaDoor

/- Plain arithmetic of the loops of addition, subtraction, multiplication and short division over limbs; no program is in sight here. -/
namespace Go.Proofs.YtoflndeonegkpaaDoor

theorem val_take_next (xs : List Nat) (k : Nat) : val (xs.take (k + 1)) = val (xs.take k) + 4294967296 ^ k * xs.getD k 0 := by
  by_cases hk : k < xs.length
  · exact val_take_succ xs k hk
  · have e : xs.getD k 0 = 0 := by rw [List.getD_eq_getElem?_getD, List.getElem?_eq_none (by omega)]; rfl
    rw [List.take_of_length_le (by omega), List.take_of_length_le (by omega), e]; omega
theorem pow_step (k : Nat) : 4294967296 ^ (k + 1) = 4294967296 ^ k * 4294967296 := Nat.pow_succ ..
theorem pow_pos' (k : Nat) : 0 < 4294967296 ^ k := Nat.pow_pos (by omega)

/-- One round of the addition. -/
theorem add_step {rs xs ys : List Nat} {i c : Nat} (hr : rs.length = i) (h : val rs + 4294967296 ^ i * c = val (xs.take i) + val (ys.take i)) :
    val (rs ++ [(c + xs.getD i 0 + ys.getD i 0) % 4294967296]) + 4294967296 ^ (i + 1) * ((c + xs.getD i 0 + ys.getD i 0) / 4294967296) = val (xs.take (i + 1)) + val (ys.take (i + 1)) := by
  rw [val_snoc, hr, val_take_next, val_take_next, pow_step, Nat.mul_assoc]
  generalize xs.getD i 0 = x at *
  generalize ys.getD i 0 = y at *
  have e := Nat.mod_add_div (c + x + y) 4294967296
  have e2 : 4294967296 ^ i * ((c + x + y) % 4294967296) + 4294967296 ^ i * (4294967296 * ((c + x + y) / 4294967296)) = 4294967296 ^ i * c + 4294967296 ^ i * x + 4294967296 ^ i * y := by
    rw [← Nat.mul_add, e, Nat.mul_add, Nat.mul_add]
  omega

/-- One round of the subtraction; d is the new limb, c the new borrow. -/
theorem sub_step {rs xs ys : List Nat} {i b d c : Nat} (hr : rs.length = i) (h : val rs + val (ys.take i) = val (xs.take i) + 4294967296 ^ i * b) (hd : d + b + ys.getD i 0 = xs.getD i 0 + 4294967296 * c) :
    val (rs ++ [d]) + val (ys.take (i + 1)) = val (xs.take (i + 1)) + 4294967296 ^ (i + 1) * c := by
  rw [val_snoc, hr, val_take_next, val_take_next, pow_step, Nat.mul_assoc]
  generalize xs.getD i 0 = x at *
  generalize ys.getD i 0 = y at *
  have e2 : 4294967296 ^ i * d + 4294967296 ^ i * b + 4294967296 ^ i * y = 4294967296 ^ i * x + 4294967296 ^ i * (4294967296 * c) := by
    rw [← Nat.mul_add, ← Nat.mul_add, hd, Nat.mul_add]
  omega

/-- A limb of a number below B^k is 0 from k on. -/
theorem val_ge_get (xs : List Nat) (k : Nat) : 4294967296 ^ k * xs.getD k 0 ≤ val xs := by
  have h := val_take_next xs k
  by_cases hk : k < xs.length
  · have h2 := val_take_drop xs (k + 1) (by omega)
    have := Nat.zero_le (4294967296 ^ (k + 1) * val (xs.drop (k + 1)))
    omega
  · have e : xs.getD k 0 = 0 := by rw [List.getD_eq_getElem?_getD, List.getElem?_eq_none (by omega)]; rfl
    rw [e]; omega
theorem get_zero_of_lt {xs : List Nat} {k j : Nat} (h : val xs < 4294967296 ^ k) (hj : k ≤ j) : xs.getD j 0 = 0 := by
  have h1 := val_ge_get xs j
  have h2 : 4294967296 ^ k ≤ 4294967296 ^ j := Nat.pow_le_pow_right (by omega) hj
  rcases Nat.eq_zero_or_pos (xs.getD j 0) with e | e
  · exact e
  · have : 4294967296 ^ j * 1 ≤ 4294967296 ^ j * xs.getD j 0 := Nat.mul_le_mul_left _ e
    omega

/-- One round of the inner loop of the multiplication. -/
theorem mul_step {R ys : List Nat} {i k c x V0 : Nat} (hk : i + k < R.length) (h : val R + 4294967296 ^ (i + k) * c = V0 + 4294967296 ^ i * (x * val (ys.take k))) :
    val (R.set (i + k) ((c + x * ys.getD k 0 + R.getD (i + k) 0) % 4294967296)) + 4294967296 ^ (i + (k + 1)) * ((c + x * ys.getD k 0 + R.getD (i + k) 0) / 4294967296) = V0 + 4294967296 ^ i * (x * val (ys.take (k + 1))) := by
  have hs := val_set R (i + k) ((c + x * ys.getD k 0 + R.getD (i + k) 0) % 4294967296) hk
  generalize R.getD (i + k) 0 = r at *
  rw [val_take_next]
  generalize ys.getD k 0 = y at *
  generalize ht : c + x * y + r = t at *
  have e := Nat.mod_add_div t 4294967296
  rw [← Nat.add_assoc, pow_step, Nat.mul_assoc]
  have e2 : 4294967296 ^ (i + k) * (t % 4294967296) + 4294967296 ^ (i + k) * (4294967296 * (t / 4294967296)) = 4294967296 ^ (i + k) * c + 4294967296 ^ (i + k) * (x * y) + 4294967296 ^ (i + k) * r := by
    rw [← Nat.mul_add, e, ← ht, Nat.mul_add, Nat.mul_add]
  have e3 : 4294967296 ^ i * (x * (val (ys.take k) + 4294967296 ^ k * y)) = 4294967296 ^ i * (x * val (ys.take k)) + 4294967296 ^ (i + k) * (x * y) := by
    rw [Nat.mul_add, Nat.mul_add, Nat.pow_add]
    congr 1
    rw [Nat.mul_assoc]
    congr 1
    rw [← Nat.mul_assoc, ← Nat.mul_assoc, Nat.mul_comm x]
  omega
/-- The end of a round of the outer loop. -/
theorem mul_round {R xs ys : List Nat} {i c : Nat} (hl : i + ys.length < R.length) (hz : R.getD (i + ys.length) 0 = 0)
    (h : val R + 4294967296 ^ (i + ys.length) * c = val (xs.take i) * val ys + 4294967296 ^ i * (xs.getD i 0 * val (ys.take ys.length))) :
    val (R.set (i + ys.length) c) = val (xs.take (i + 1)) * val ys := by
  have hs := val_set R (i + ys.length) c hl
  rw [hz] at hs
  rw [List.take_of_length_le (Nat.le_refl _)] at h
  rw [val_take_next, Nat.add_mul, Nat.mul_assoc]
  omega

/-- The sums that the code forms fit into 64 bits. -/
theorem mul_fits {c x y r : Nat} (hc : c < 4294967296) (hx : x < 4294967296) (hy : y < 4294967296) (hr : r < 4294967296) : c + (x * y + r) < 18446744073709551616 := by
  have : x * y ≤ 4294967295 * 4294967295 := Nat.mul_le_mul (by omega) (by omega)
  omega
theorem mul_fits' {c x y r : Nat} (hc : c < 4294967296) (hx : x < 4294967296) (hy : y < 4294967296) (hr : r < 4294967296) : (c + x * y + r) / 4294967296 < 4294967296 := by
  have : x * y ≤ 4294967295 * 4294967295 := Nat.mul_le_mul (by omega) (by omega)
  omega

/-- One round of the short division, from the top. -/
theorem short_step {xs : List Nat} {k d r Q : Nat} (hk : k < xs.length) (h : val (xs.drop (k + 1)) = d * Q + r) :
    val (xs.drop k) = d * ((r * 4294967296 + xs.getD k 0) / d + 4294967296 * Q) + (r * 4294967296 + xs.getD k 0) % d := by
  have e : val (xs.drop k) = xs.getD k 0 + 4294967296 * val (xs.drop (k + 1)) := by
    rw [List.drop_eq_getElem_cons hk, List.getD_eq_getElem?_getD, List.getElem?_eq_getElem hk]; rfl
  rw [e, h, Nat.mul_add, Nat.mul_add]
  have e2 := Nat.div_add_mod (r * 4294967296 + xs.getD k 0) d
  generalize xs.getD k 0 = x at *
  have e3 : 4294967296 * (d * Q) = d * (4294967296 * Q) := by rw [← Nat.mul_assoc, ← Nat.mul_assoc, Nat.mul_comm d]
  omega
end Go.Proofs.YtoflndeonegkpaaDoor

/- Plain arithmetic of the long division: the estimate of a digit, shifts, and the root by Newton's steps; no program is in sight here. -/
namespace Go.Proofs.YtoflndeonegkpaaDoor

/-- A digit that is too great is lowered: U = top * P * B + u2 * P + ul, V = (v1 * B + v2) * P + vl. -/
theorem digit_lower {P top u2 ul v1 v2 vl q r : Nat} (hul : ul < P) (hq : q * v1 + r = top) (h : r * 4294967296 + u2 < q * v2) :
    (top * 4294967296 + u2) * P + ul < q * ((v1 * 4294967296 + v2) * P + vl) := by
  have h1 : top * 4294967296 + u2 + 1 ≤ q * (v1 * 4294967296 + v2) := by
    rw [Nat.mul_add, ← hq, Nat.add_mul, ← Nat.mul_assoc]; omega
  have h2 : (top * 4294967296 + u2 + 1) * P ≤ q * (v1 * 4294967296 + v2) * P := Nat.mul_le_mul_right _ h1
  rw [Nat.add_mul _ 1 P] at h2
  rw [Nat.mul_add, ← Nat.mul_assoc]
  omega
/-- A digit that the test lets stand is too great by at most 1. -/
theorem digit_upper {P top u2 ul v1 v2 vl q r : Nat} (hvl : vl < P) (hv1 : 1 ≤ v1) (hB : q < 4294967296) (hq : q * v1 + r = top) (h : q * v2 ≤ r * 4294967296 + u2) :
    q * ((v1 * 4294967296 + v2) * P + vl) < (top * 4294967296 + u2) * P + ul + ((v1 * 4294967296 + v2) * P + vl) := by
  have h1 : q * (v1 * 4294967296 + v2) ≤ top * 4294967296 + u2 := by
    rw [Nat.mul_add, ← hq, Nat.add_mul, ← Nat.mul_assoc]; omega
  have h2 : q * (v1 * 4294967296 + v2) * P ≤ (top * 4294967296 + u2) * P := Nat.mul_le_mul_right _ h1
  have h3 : q * vl ≤ 4294967295 * vl := Nat.mul_le_mul_right _ (by omega)
  have h4 : 4294967296 * P ≤ (v1 * 4294967296 + v2) * P := Nat.mul_le_mul_right _ (by omega)
  rw [Nat.mul_add, ← Nat.mul_assoc]
  omega
/-- The rest has passed 2^32: the digit is below 2^32, and the test would let it stand. -/
theorem digit_stop {top v1 v2 u2 q r : Nat} (hq : q * v1 + r = top) (htop : top < (v1 + 1) * 4294967296) (hr : 4294967296 ≤ r) (hv2 : v2 < 4294967296) :
    q < 4294967296 ∧ q * v2 ≤ r * 4294967296 + u2 := by
  have hlt : q < 4294967296 := by
    rcases Nat.lt_or_ge q 4294967296 with h | h
    · exact h
    · have : 4294967296 * v1 ≤ q * v1 := Nat.mul_le_mul_right _ h
      omega
  refine ⟨hlt, ?_⟩
  have h1 : q * v2 ≤ 4294967295 * 4294967295 := Nat.mul_le_mul (by omega) (by omega)
  omega
theorem top_lt_any {B P top u2 ul v1 v2 vl : Nat} (hB : 0 < B) (hv2 : v2 < B) (hvl : vl < P) (h : (top * B + u2) * P + ul < B * ((v1 * B + v2) * P + vl)) : top < (v1 + 1) * B := by
  rcases Nat.lt_or_ge top ((v1 + 1) * B) with h1 | h1
  · exact h1
  · exfalso
    have h3 : (v1 * B + v2) * P + vl < (v1 + 1) * B * P := by
      have h0 : v1 * B + v2 + 1 ≤ (v1 + 1) * B := by rw [Nat.add_mul]; omega
      have h00 : (v1 * B + v2 + 1) * P ≤ (v1 + 1) * B * P := Nat.mul_le_mul_right _ h0
      rw [Nat.add_mul _ 1 P] at h00
      omega
    have h4 : B * ((v1 * B + v2) * P + vl) < B * ((v1 + 1) * B * P) := Nat.mul_lt_mul_of_pos_left h3 hB
    have h5 : B * ((v1 + 1) * B * P) ≤ B * (top * P) := Nat.mul_le_mul_left _ (Nat.mul_le_mul_right _ h1)
    have h6 : B * (top * P) = top * B * P := by rw [← Nat.mul_assoc, Nat.mul_comm B]
    rw [Nat.add_mul] at h
    omega
theorem top_lt {P top u2 ul v1 v2 vl : Nat} (hv2 : v2 < 4294967296) (hvl : vl < P) (h : (top * 4294967296 + u2) * P + ul < 4294967296 * ((v1 * 4294967296 + v2) * P + vl)) : top < (v1 + 1) * 4294967296 :=
  top_lt_any (by omega) hv2 hvl h
theorem digit_is {U V q : Nat} (hV : 0 < V) (h1 : U / V ≤ q) (h2 : q * V < U + V) : q = U / V ∨ q = U / V + 1 := by
  have h3 : q < U / V + 2 := by
    rcases Nat.lt_or_ge q (U / V + 2) with h | h
    · exact h
    · exfalso
      have h4 : (U / V + 2) * V ≤ q * V := Nat.mul_le_mul_right _ h
      have h5 := Nat.div_add_mod U V
      have h6 := Nat.mod_lt U hV
      rw [Nat.add_mul, Nat.mul_comm (U / V)] at h4
      omega
  omega

/-- One round of the subtraction of q * v in place; d is the new limb, nb the new borrow. -/
theorem msub_step {us vs R : List Nat} {i c b d nb q t : Nat} (hi : i < R.length)
    (h : val (R.take i) + q * val (vs.take i) = val (us.take i) + 4294967296 ^ i * (c + b))
    (ht : t = c + q * vs.getD i 0) (hd : d + t % 4294967296 + b = us.getD i 0 + 4294967296 * nb) :
    val ((R.set i d).take (i + 1)) + q * val (vs.take (i + 1)) = val (us.take (i + 1)) + 4294967296 ^ (i + 1) * (t / 4294967296 + nb) := by
  have e1 : (R.set i d).take i = R.take i := by rw [List.take_set]; rw [List.set_eq_of_length_le (by simp; omega)]
  have e2 : (R.set i d).getD i 0 = d := by rw [List.getD_eq_getElem?_getD, List.getElem?_set_self hi]; rfl
  rw [val_take_next, val_take_next, val_take_next, e1, e2, pow_step, Nat.mul_assoc, Nat.mul_add]
  clear e1 e2
  generalize us.getD i 0 = u at *
  generalize vs.getD i 0 = y at *
  have e := Nat.mod_add_div t 4294967296
  have e3 : 4294967296 ^ i * d + 4294967296 ^ i * (t % 4294967296) + 4294967296 ^ i * b = 4294967296 ^ i * u + 4294967296 ^ i * (4294967296 * nb) := by
    rw [← Nat.mul_add, ← Nat.mul_add, hd, Nat.mul_add]
  have e4 : 4294967296 ^ i * (4294967296 * (t / 4294967296 + nb)) = 4294967296 ^ i * (4294967296 * (t / 4294967296)) + 4294967296 ^ i * (4294967296 * nb) := by
    rw [Nat.mul_add, Nat.mul_add]
  have e5 : 4294967296 ^ i * (t % 4294967296) + 4294967296 ^ i * (4294967296 * (t / 4294967296)) = 4294967296 ^ i * c + q * (4294967296 ^ i * y) := by
    rw [← Nat.mul_add, e, ht, Nat.mul_add]
    congr 1
    rw [← Nat.mul_assoc, ← Nat.mul_assoc, Nat.mul_comm q]
  have e6 : 4294967296 ^ i * (c + b) = 4294967296 ^ i * c + 4294967296 ^ i * b := Nat.mul_add ..
  omega

/-- A shift to the left, limb by limb: p = 2^s, p * p' = 2^32. -/
theorem left_step {xs : List Nat} {i p p' L r : Nat} (hp : p * p' = 4294967296) (hL : L + 4294967296 ^ i * r = p * val (xs.take i)) :
    (L + 4294967296 ^ i * (r + p * xs.getD i 0 % 4294967296)) + 4294967296 ^ (i + 1) * (p * xs.getD i 0 / 4294967296) = p * val (xs.take (i + 1)) := by
  rw [val_take_next, pow_step, Nat.mul_assoc, Nat.mul_add, Nat.mul_add]
  generalize xs.getD i 0 = x at *
  have e := Nat.mod_add_div (p * x) 4294967296
  have e2 : 4294967296 ^ i * (p * x % 4294967296) + 4294967296 ^ i * (4294967296 * (p * x / 4294967296)) = p * (4294967296 ^ i * x) := by
    rw [← Nat.mul_add, e, ← Nat.mul_assoc, ← Nat.mul_assoc, Nat.mul_comm p]
  have := hp
  omega
/-- A shift to the right, limb by limb. -/
theorem right_limb {p p' x y : Nat} (hp : p * p' = 4294967296) (hp0 : 0 < p) (hx : x < 4294967296) (_hy : y < 4294967296) :
    p * (((x + 4294967296 * y) / p) % 4294967296) + x % p = x + 4294967296 * (y % p) := by
  have e1 : (x + 4294967296 * y) / p = x / p + p' * y := by
    rw [← hp, Nat.mul_assoc, Nat.add_mul_div_left _ _ hp0]
  have e2 : p' * y = p' * (y % p) + 4294967296 * (y / p) := by
    have := Nat.mod_add_div y p
    calc p' * y = p' * (y % p + p * (y / p)) := by rw [this]
      _ = p' * (y % p) + p' * (p * (y / p)) := Nat.mul_add ..
      _ = p' * (y % p) + 4294967296 * (y / p) := by rw [← Nat.mul_assoc, Nat.mul_comm p' p, hp]
  have hxp : x / p < p' := Nat.div_lt_of_lt_mul (by rw [hp]; exact hx)
  have hyp : y % p < p := Nat.mod_lt _ hp0
  have h3 : x / p + p' * (y % p) < 4294967296 := by
    have : p' * (y % p) ≤ p' * (p - 1) := Nat.mul_le_mul_left _ (by omega)
    have h4 : p' * (p - 1) + p' = 4294967296 := by
      rw [← Nat.mul_succ, Nat.succ_eq_add_one, Nat.sub_add_cancel hp0, Nat.mul_comm]; exact hp
    omega
  rw [e1, e2, ← Nat.add_assoc, Nat.add_mul_mod_self_left, Nat.mod_eq_of_lt h3, Nat.mul_add, ← Nat.mul_assoc, hp]
  have := Nat.mod_add_div x p
  omega
theorem right_step {rs xs : List Nat} {i p p' : Nat} (hr : rs.length = i) (hp : p * p' = 4294967296) (hp0 : 0 < p) (hl : Lim xs)
    (h : p * val rs + xs.getD 0 0 % p = val (xs.take i) + 4294967296 ^ i * (xs.getD i 0 % p)) :
    p * val (rs ++ [((xs.getD i 0 + 4294967296 * xs.getD (i + 1) 0) / p) % 4294967296]) + xs.getD 0 0 % p = val (xs.take (i + 1)) + 4294967296 ^ (i + 1) * (xs.getD (i + 1) 0 % p) := by
  rw [val_snoc, hr, val_take_next, pow_step, Nat.mul_assoc, Nat.mul_add]
  have e := right_limb hp hp0 (hl.get i) (hl.get (i + 1))
  generalize xs.getD i 0 = x at *
  generalize xs.getD (i + 1) 0 = y at *
  generalize ((x + 4294967296 * y) / p) % 4294967296 = d at *
  have e2 : p * (4294967296 ^ i * d) + 4294967296 ^ i * (x % p) = 4294967296 ^ i * x + 4294967296 ^ i * (4294967296 * (y % p)) := by
    rw [← Nat.mul_assoc, Nat.mul_comm p, Nat.mul_assoc, ← Nat.mul_add, e, Nat.mul_add]
  omega
theorem right_end {rs xs : List Nat} {p : Nat} (hp0 : 0 < p) (h : p * val rs + xs.getD 0 0 % p = val (xs.take xs.length) + 4294967296 ^ xs.length * (xs.getD xs.length 0 % p)) : val rs = val xs / p := by
  have e : xs.getD xs.length 0 = 0 := by rw [List.getD_eq_getElem?_getD, List.getElem?_eq_none (Nat.le_refl _)]; rfl
  rw [e, List.take_of_length_le (Nat.le_refl _), Nat.zero_mod, Nat.mul_zero, Nat.add_zero] at h
  rw [← h, Nat.mul_add_div hp0, Nat.div_eq_of_lt (Nat.mod_lt _ hp0)]; omega

/-- The root, rounded down. -/
def isqrtF : Nat → Nat → Nat
  | 0, _ => 0
  | f + 1, n => if (f + 1) * (f + 1) ≤ n then f + 1 else isqrtF f n
def isqrt (n : Nat) : Nat := isqrtF n n
theorem isqrtF_le (f n : Nat) : isqrtF f n * isqrtF f n ≤ n := by
  induction f with
  | zero => simp [isqrtF]
  | succ f ih =>
    unfold isqrtF
    split
    · assumption
    · exact ih
theorem isqrtF_gt (f n : Nat) (h : n < (f + 1) * (f + 1)) : n < (isqrtF f n + 1) * (isqrtF f n + 1) := by
  induction f with
  | zero => simpa [isqrtF] using h
  | succ f ih =>
    unfold isqrtF
    split
    · exact h
    · exact ih (by omega)
theorem isqrt_le (n : Nat) : isqrt n * isqrt n ≤ n := isqrtF_le n n
theorem isqrt_gt (n : Nat) : n < (isqrt n + 1) * (isqrt n + 1) := isqrtF_gt n n (by have := Nat.mul_le_mul_right (n + 1) (by omega : 1 ≤ n + 1); omega)
theorem sq_lt {a b : Nat} (h : a * a < b * b) : a < b := by
  rcases Nat.lt_or_ge a b with h1 | h1
  · exact h1
  · have := Nat.mul_le_mul h1 h1; omega
theorem isqrt_unique {n r : Nat} (h1 : r * r ≤ n) (h2 : n < (r + 1) * (r + 1)) : isqrt n = r := by
  have h3 := isqrt_le n
  have h4 := isqrt_gt n
  have a := sq_lt (Nat.lt_of_le_of_lt h1 h4)
  have b := sq_lt (Nat.lt_of_le_of_lt h3 h2)
  omega
theorem le_isqrt {n r : Nat} (h : r * r ≤ n) : r ≤ isqrt n := by
  have := sq_lt (Nat.lt_of_le_of_lt h (isqrt_gt n)); omega
/-- A Newton step does not fall below the root. -/
theorem newton_ge {a x : Nat} (hx : 0 < x) : isqrt a ≤ (x + a / x) / 2 := by
  generalize hr : isqrt a = r
  have h1 : r * r ≤ a := by rw [← hr]; exact isqrt_le a
  rw [Nat.le_div_iff_mul_le (by omega)]
  rcases Nat.le_total (r * 2) x with h | h
  · exact Nat.le_trans h (Nat.le_add_right _ _)
  · have key : r * 2 - x ≤ a / x := by
      rw [Nat.le_div_iff_mul_le hx]
      refine Nat.le_trans ?_ h1
      obtain ⟨d, hd⟩ := Nat.exists_eq_add_of_le h
      have e : r * 2 - x = d := by omega
      rw [e]
      rcases Nat.le_total d r with g | g
      · obtain ⟨k, hk⟩ := Nat.exists_eq_add_of_le g
        obtain rfl : x = d + 2 * k := by omega
        rw [hk, Nat.mul_add, Nat.add_mul, Nat.mul_add, Nat.mul_add, Nat.mul_comm k d, Nat.mul_left_comm d 2 k]
        have := Nat.zero_le (k * k)
        omega
      · obtain ⟨k, hk⟩ := Nat.exists_eq_add_of_le g
        obtain rfl : r = x + k := by omega
        obtain rfl : d = x + 2 * k := by omega
        rw [Nat.add_mul, Nat.add_mul, Nat.mul_add, Nat.mul_add, Nat.mul_comm k x, Nat.mul_assoc 2 k x, Nat.mul_comm k x]
        have := Nat.zero_le (k * k)
        omega
    generalize a / x = z at *
    omega
/-- Where the step does not go down, the root is reached. -/
theorem newton_stop {a x : Nat} (hx : 0 < x) (hge : isqrt a ≤ x) (h : x ≤ (x + a / x) / 2) : x = isqrt a := by
  have h1 : x ≤ a / x := by rw [Nat.le_div_iff_mul_le (by omega)] at h; omega
  have h2 : x * x ≤ a := (Nat.le_div_iff_mul_le hx).1 h1
  have := le_isqrt h2
  omega
end Go.Proofs.YtoflndeonegkpaaDoor

/- Sizes of numbers in limbs; no program is in sight here. -/
namespace Go.Proofs.YtoflndeonegkpaaDoor

theorem lt_pow_limbs (n : Nat) : n < 4294967296 ^ (limbs n).length := by
  have := val_lt (lim_limbs n)
  rwa [val_limbs] at this
theorem limbs_add_len {a b k : Nat} (ha : (limbs a).length ≤ k) (hb : (limbs b).length ≤ k) : (limbs (a + b)).length ≤ k + 1 := by
  apply limbs_length_le
  have h1 := Nat.lt_of_lt_of_le (lt_pow_limbs a) (Nat.pow_le_pow_right (by omega) ha)
  have h2 := Nat.lt_of_lt_of_le (lt_pow_limbs b) (Nat.pow_le_pow_right (by omega) hb)
  rw [pow_step]
  omega
theorem limbs_mul_len {a b k j : Nat} (ha : (limbs a).length ≤ k) (hb : (limbs b).length ≤ j) : (limbs (a * b)).length ≤ k + j := by
  apply limbs_length_le
  have h1 := Nat.lt_of_lt_of_le (lt_pow_limbs a) (Nat.pow_le_pow_right (by omega) ha)
  have h2 := Nat.lt_of_lt_of_le (lt_pow_limbs b) (Nat.pow_le_pow_right (by omega) hb)
  rw [Nat.pow_add]
  rcases Nat.eq_zero_or_pos b with e | e
  · subst e; rw [Nat.mul_zero]; exact Nat.mul_pos (Nat.pow_pos (by omega)) (Nat.pow_pos (by omega))
  · exact Nat.mul_lt_mul_of_lt_of_le h1 (Nat.le_of_lt h2) (by omega)
end Go.Proofs.YtoflndeonegkpaaDoor

/- Plain arithmetic of the reference's loops: binary digits, division and roots bit by bit; no program is in sight here. -/
namespace Go.Proofs.YtoflndeonegkpaaDoor

/-- k is the number of binary digits of n. -/
def BitsOf (n k : Nat) : Prop := n < 2 ^ k ∧ (k ≠ 0 → 2 ^ (k - 1) ≤ n)
theorem BitsOf.zero {n : Nat} (h : BitsOf n 0) : n = 0 := by have := h.1; simp at this; omega
theorem BitsOf.none : BitsOf 0 0 := ⟨by simp, fun h => absurd rfl h⟩
theorem BitsOf.pos {n k : Nat} (h : BitsOf n k) (hk : k ≠ 0) : n ≠ 0 := by
  have := h.2 hk
  have := Nat.pow_pos (n := k - 1) (by omega : 0 < 2)
  omega
theorem BitsOf.ne {n k : Nat} (h : BitsOf n k) (hn : n ≠ 0) : k ≠ 0 := fun e => by subst e; exact hn h.zero
theorem BitsOf.lt {a b i j : Nat} (ha : BitsOf a i) (hb : BitsOf b j) (h : i < j) : a < b := by
  have h1 : 2 ^ i ≤ 2 ^ (j - 1) := Nat.pow_le_pow_right (by omega) (by omega)
  have := ha.1
  have := hb.2 (by omega)
  omega
theorem BitsOf.fits {a b i j : Nat} (ha : BitsOf a i) (hb : BitsOf b j) (hj : j ≠ 0) (h : j ≤ i) : a < b * 2 ^ (i - j + 1) := by
  have h1 : 2 ^ (j - 1) * 2 ^ (i - j + 1) ≤ b * 2 ^ (i - j + 1) := Nat.mul_le_mul_right _ (hb.2 hj)
  rw [← Nat.pow_add, show j - 1 + (i - j + 1) = i by omega] at h1
  have := ha.1
  omega
theorem BitsOf.half {t j : Nat} (h0 : t ≠ 0) (h : BitsOf (t / 2) j) : BitsOf t (j + 1) := by
  obtain ⟨h1, h2⟩ := h
  refine ⟨by rw [Nat.pow_succ]; omega, fun _ => ?_⟩
  rw [Nat.add_sub_cancel]
  rcases Nat.eq_zero_or_pos j with e | e
  · subst e; simp; omega
  · have h3 := h2 (by omega)
    obtain ⟨m, rfl⟩ : ∃ m, j = m + 1 := ⟨j - 1, by omega⟩
    rw [Nat.add_sub_cancel] at h3
    rw [Nat.pow_succ]
    omega
theorem bits_val {us : List Nat} {n k : Nat} (hu : Lim us) (hl : us.length = n + 1) (h0 : us.getD n 0 ≠ 0) (hk : BitsOf (us.getD n 0) k) : BitsOf (val us) (32 * n + k) := by
  have hkn := hk.ne h0
  have h1 : val us = val (us.take n) + 4294967296 ^ n * us.getD n 0 := by
    rw [← val_take_next, List.take_of_length_le (by omega)]
  have h2 := val_lt (hu.take n)
  rw [List.length_take, Nat.min_eq_left (by omega)] at h2
  obtain ⟨b1, b2⟩ := hk
  have b2 := b2 hkn
  generalize us.getD n 0 = v at *
  refine ⟨?_, fun _ => ?_⟩
  · rw [Nat.pow_add, Nat.pow_mul, show (2 : Nat) ^ 32 = 4294967296 from rfl]
    have h3 : 4294967296 ^ n * (v + 1) ≤ 4294967296 ^ n * 2 ^ k := Nat.mul_le_mul_left _ b1
    rw [Nat.mul_add] at h3
    omega
  · rw [show 32 * n + k - 1 = 32 * n + (k - 1) by omega, Nat.pow_add, Nat.pow_mul, show (2 : Nat) ^ 32 = 4294967296 from rfl]
    have h3 : 4294967296 ^ n * 2 ^ (k - 1) ≤ 4294967296 ^ n * v := Nat.mul_le_mul_left _ b2
    omega
/-- The digits of the top limb, counted so far: m of them, t is what is left. -/
def TopRel (x t m : Nat) : Prop := t * 2 ^ m ≤ x ∧ (m ≠ 0 → 2 ^ (m - 1) ≤ x) ∧ ∀ j, BitsOf t j → BitsOf x (m + j)
theorem TopRel.start (x : Nat) : TopRel x x 0 := ⟨by simp, fun h => absurd rfl h, fun j h => by rw [Nat.zero_add]; exact h⟩
theorem TopRel.step {x t m : Nat} (h : TopRel x t m) (h0 : t ≠ 0) : TopRel x (t / 2) (m + 1) := by
  obtain ⟨h1, _, h3⟩ := h
  refine ⟨?_, fun _ => ?_, fun j hj => ?_⟩
  · have : t / 2 * 2 * 2 ^ m ≤ t * 2 ^ m := Nat.mul_le_mul_right _ (by omega)
    rw [Nat.pow_succ, Nat.mul_comm (2 ^ m) 2, ← Nat.mul_assoc]
    omega
  · rw [Nat.add_sub_cancel]
    have : 1 * 2 ^ m ≤ t * 2 ^ m := Nat.mul_le_mul_right _ (by omega)
    omega
  · have := h3 (j + 1) (hj.half h0)
    rwa [show m + 1 + j = m + (j + 1) by omega]
theorem TopRel.few {x t m : Nat} (h : TopRel x t m) (hx : x < 4294967296) : m ≤ 32 := by
  rcases Nat.eq_zero_or_pos m with e | e
  · omega
  · have h1 := h.2.1 (by omega)
    have h2 : 2 ^ (m - 1) < 2 ^ 32 := by omega
    have := (Nat.pow_lt_pow_iff_right (by omega : 1 < 2)).1 h2
    omega
theorem TopRel.fin {x m : Nat} (h : TopRel x 0 m) : BitsOf x m := h.2.2 0 .none

/-- The long division, bits from j on done. -/
structure RDivRel (A B Q R j n : Nat) : Prop where
  eq : A = Q * B + R
  lt : R < B * 2 ^ j
  dvd : 2 ^ j ∣ Q
  qlt : Q < 2 ^ (n + 1)
theorem RDivRel.start {A B n : Nat} (h : A < B * 2 ^ (n + 1)) : RDivRel A B 0 A (n + 1) n := ⟨by simp, h, Nat.dvd_zero _, Nat.pow_pos (by omega)⟩
theorem RDivRel.no {A B Q R k n : Nat} (h : RDivRel A B Q R (k + 1) n) (hlt : ¬ B * 2 ^ k ≤ R) : RDivRel A B Q R k n :=
  ⟨h.eq, by omega, Nat.dvd_trans (Nat.pow_dvd_pow 2 (by omega)) h.dvd, h.qlt⟩
theorem RDivRel.yes {A B Q R k n : Nat} (h : RDivRel A B Q R (k + 1) n) (hk : k ≤ n) (hle : B * 2 ^ k ≤ R) : RDivRel A B (Q + 2 ^ k) (R - B * 2 ^ k) k n := by
  refine ⟨?_, ?_, ?_, ?_⟩
  · rw [Nat.add_mul, Nat.mul_comm (2 ^ k) B]; have := h.eq; omega
  · have := h.lt
    rw [Nat.pow_succ, ← Nat.mul_assoc] at this
    omega
  · exact (Nat.dvd_add_right (Nat.dvd_trans (Nat.pow_dvd_pow 2 (by omega)) h.dvd)).2 (Nat.dvd_refl _)
  · obtain ⟨c, hc⟩ := h.dvd
    have hq := h.qlt
    have e : 2 ^ (n + 1) = 2 ^ (k + 1) * 2 ^ (n - k) := by rw [← Nat.pow_add]; congr 1; omega
    rw [e] at hq ⊢
    rw [hc] at hq ⊢
    have hc2 : c < 2 ^ (n - k) := Nat.lt_of_mul_lt_mul_left hq
    have : 2 ^ (k + 1) * (c + 1) ≤ 2 ^ (k + 1) * 2 ^ (n - k) := Nat.mul_le_mul_left _ hc2
    rw [Nat.mul_add, Nat.mul_one] at this
    have h2 : 2 ^ k < 2 ^ (k + 1) := Nat.pow_lt_pow_right (by omega) (by omega)
    omega
theorem RDivRel.quo {A B Q R n : Nat} (h : RDivRel A B Q R 0 n) : A / B = Q ∧ A % B = R := by
  have hl := h.lt
  rw [Nat.pow_zero, Nat.mul_one] at hl
  have e := h.eq
  have hB : 0 < B := by omega
  constructor
  · rw [e, Nat.mul_comm, Nat.mul_add_div hB, Nat.div_eq_of_lt hl]; omega
  · rw [e, Nat.mul_comm, Nat.mul_add_mod, Nat.mod_eq_of_lt hl]
theorem two32 (s : Nat) (hs : s < 32) : 4294967296 = 2 ^ (s + 1) * 2 ^ (31 - s) := by rw [← Nat.pow_add, show s + 1 + (31 - s) = 32 by omega]
theorem room_aux {x D c T U B t : Nat} (hB : B = T * U) (h3 : x + B * D = T * c) (hx : x < B) (ht : t < T) : x + t < B := by
  have h5 : T ∣ x := (Nat.dvd_add_iff_left (Nat.dvd_trans ⟨_, hB⟩ (Nat.dvd_mul_right _ _))).2 ⟨c, h3⟩
  obtain ⟨d, hd⟩ := h5
  rw [hd] at hx ⊢
  have hd2 : d < U := Nat.lt_of_mul_lt_mul_left (Nat.lt_of_lt_of_eq hx hB)
  have h7 : T * (d + 1) ≤ T * U := Nat.mul_le_mul_left _ hd2
  rw [← hB, Nat.mul_add, Nat.mul_one] at h7
  omega
theorem low_aux {P L y c T V : Nat} (hL : L < P) (e : V = L + P * y) (hc : V = P * T * c) : y = T * c := by
  have hp : 0 < P := by omega
  have h1 : (L + P * y) % P = L := by rw [Nat.add_mul_mod_self_left, Nat.mod_eq_of_lt hL]
  rw [← e, hc, Nat.mul_assoc, Nat.mul_mod_right] at h1
  have : P * y = P * (T * c) := by rw [← Nat.mul_assoc, ← hc, e, ← h1]; omega
  exact Nat.eq_of_mul_eq_mul_left hp this
theorem split_aux {V L x D B P : Nat} (h : V = L + P * x + P * B * D) : V = L + P * (x + B * D) := by rw [h, Nat.mul_add, ← Nat.mul_assoc, Nat.add_assoc]
theorem limb_room {qs : List Nat} {i s : Nat} (hq : Lim qs) (hs : s < 32) (hd : 2 ^ (32 * i + s + 1) ∣ val qs) : qs.getD i 0 + 2 ^ s < 4294967296 := by
  have hsplit : val qs = val (qs.take (i + 1)) + 4294967296 ^ (i + 1) * val (qs.drop (i + 1)) := by
    rcases Nat.lt_or_ge i qs.length with h | h
    · exact val_take_drop qs (i + 1) (by omega)
    · rw [List.drop_eq_nil_of_le (by omega), List.take_of_length_le (by omega), show val [] = 0 from rfl, Nat.mul_zero, Nat.add_zero]
  rw [val_take_next, pow_step] at hsplit
  have hlow2 : val (qs.take i) < 4294967296 ^ i := Nat.lt_of_lt_of_le (val_lt (hq.take i)) (Nat.pow_le_pow_right (by omega) (by rw [List.length_take]; omega))
  have e1 : (2 : Nat) ^ (32 * i + s + 1) = 4294967296 ^ i * 2 ^ (s + 1) := by
    rw [show 32 * i + s + 1 = 32 * i + (s + 1) by omega, Nat.pow_add, Nat.pow_mul, show (2 : Nat) ^ 32 = 4294967296 from rfl]
  rw [e1] at hd
  obtain ⟨c, hc⟩ := hd
  exact room_aux (two32 s hs) (low_aux hlow2 (split_aux hsplit) hc) (hq.get i) (Nat.pow_lt_pow_right (by omega) (by omega))
theorem val_bit {qs : List Nat} {i s : Nat} (hi : i < qs.length) : val (qs.set i (qs.getD i 0 + 2 ^ s)) = val qs + 2 ^ (32 * i + s) := by
  have h := val_set qs i (qs.getD i 0 + 2 ^ s) hi
  rw [Nat.mul_add] at h
  rw [Nat.pow_add, Nat.pow_mul, show (2 : Nat) ^ 32 = 4294967296 from rfl]
  omega

/-- The root, bits from j on done. -/
def RRootRel (A r j : Nat) : Prop := r * r ≤ A ∧ A < (r + 2 ^ j) * (r + 2 ^ j)
theorem RRootRel.start {A k : Nat} (h : BitsOf A k) : RRootRel A 0 (k / 2 + 1) := by
  refine ⟨by simp, ?_⟩
  rw [Nat.zero_add, ← Nat.pow_add]
  exact Nat.lt_of_lt_of_le h.1 (Nat.pow_le_pow_right (by omega) (by omega))
theorem RRootRel.yes {A r k : Nat} (h : RRootRel A r (k + 1)) (hle : (r + 2 ^ k) * (r + 2 ^ k) ≤ A) : RRootRel A (r + 2 ^ k) k := by
  refine ⟨hle, ?_⟩
  have := h.2
  rw [Nat.pow_succ, Nat.mul_two, ← Nat.add_assoc] at this
  exact this
theorem RRootRel.no {A r k : Nat} (h : RRootRel A r (k + 1)) (hle : ¬ (r + 2 ^ k) * (r + 2 ^ k) ≤ A) : RRootRel A r k := ⟨h.1, by omega⟩
theorem RRootRel.fin {A r : Nat} (h : RRootRel A r 0) : isqrt A = r := isqrt_unique h.1 (by have := h.2; simpa using this)
theorem RRootRel.le {A r j : Nat} (h : RRootRel A r j) : r ≤ A := by
  rcases Nat.eq_zero_or_pos r with e | e
  · omega
  · exact Nat.le_trans (Nat.le_mul_of_pos_right _ e) h.1
end Go.Proofs.YtoflndeonegkpaaDoor

/- Plain arithmetic of natural.digit. -/
namespace Go.Proofs.YtoflndeonegkpaaDoor

theorem U_split {us : List Nat} {n : Nat} (hn : 2 ≤ n) (hl : us.length = n + 1) :
    val us = ((us.getD n 0 * 4294967296 + us.getD (n - 1) 0) * 4294967296 + us.getD (n - 2) 0) * 4294967296 ^ (n - 2) + val (us.take (n - 2)) := by
  obtain ⟨m, rfl⟩ : ∃ m, n = m + 2 := ⟨n - 2, by omega⟩
  have h0 : us.take (m + 2 + 1) = us := List.take_of_length_le (by omega)
  have h1 := val_take_next us (m + 2)
  have h2 := val_take_next us (m + 1)
  have h3 := val_take_next us m
  rw [h0] at h1
  rw [show m + 2 - 2 = m by omega, show m + 2 - 1 = m + 1 by omega]
  rw [h1, h2, h3, pow_step (m + 1), pow_step m]
  generalize 4294967296 ^ m = P
  generalize us.getD (m + 2) 0 = a
  generalize us.getD (m + 1) 0 = b
  generalize us.getD m 0 = c
  rw [Nat.add_mul, Nat.add_mul, Nat.add_mul]
  have e1 : P * 4294967296 * 4294967296 * a = a * 4294967296 * 4294967296 * P := by
    rw [Nat.mul_comm _ a, Nat.mul_assoc a 4294967296, Nat.mul_assoc a, Nat.mul_assoc P, Nat.mul_comm P]
  have e2 : P * 4294967296 * b = b * 4294967296 * P := by rw [Nat.mul_comm _ b, Nat.mul_assoc, Nat.mul_comm P]
  have e3 : P * c = c * P := Nat.mul_comm ..
  omega
theorem V_split {vs : List Nat} {n : Nat} (hn : 2 ≤ n) (hl : vs.length = n) :
    val vs = (vs.getD (n - 1) 0 * 4294967296 + vs.getD (n - 2) 0) * 4294967296 ^ (n - 2) + val (vs.take (n - 2)) := by
  obtain ⟨m, rfl⟩ : ∃ m, n = m + 2 := ⟨n - 2, by omega⟩
  have h0 : vs.take (m + 1 + 1) = vs := List.take_of_length_le (by omega)
  have h2 := val_take_next vs (m + 1)
  have h3 := val_take_next vs m
  rw [h0] at h2
  rw [show m + 2 - 2 = m by omega, show m + 2 - 1 = m + 1 by omega]
  rw [h2, h3, pow_step m]
  generalize 4294967296 ^ m = P
  generalize vs.getD (m + 1) 0 = b
  generalize vs.getD m 0 = c
  rw [Nat.add_mul]
  have e2 : P * 4294967296 * b = b * 4294967296 * P := by rw [Nat.mul_comm _ b, Nat.mul_assoc, Nat.mul_comm P]
  have e3 : P * c = c * P := Nat.mul_comm ..
  omega

/-- What digit is called with. -/
structure DigIn (us vs : List Nat) (n : Nat) : Prop where
  n2 : 2 ≤ n
  ul : us.length = n + 1
  vl : vs.length = n
  limU : Lim us
  limV : Lim vs
  high : 2147483648 ≤ vs.getD (n - 1) 0
  lt : val us < 4294967296 * val vs
theorem DigIn.pos {us vs : List Nat} {n : Nat} (h : DigIn us vs n) : 0 < val vs := by
  have h1 := val_ge_get vs (n - 1)
  have h2 := h.high
  have h3 := pow_pos' (n - 1)
  have : 1 * 1 ≤ 4294967296 ^ (n - 1) * vs.getD (n - 1) 0 := Nat.mul_le_mul h3 (by omega)
  omega
theorem DigIn.lowU {us vs : List Nat} {n : Nat} (h : DigIn us vs n) : val (us.take (n - 2)) < 4294967296 ^ (n - 2) := by
  have := val_lt (h.limU.take (n - 2))
  rwa [List.length_take, Nat.min_eq_left (by have := h.ul; omega)] at this
theorem DigIn.lowV {us vs : List Nat} {n : Nat} (h : DigIn us vs n) : val (vs.take (n - 2)) < 4294967296 ^ (n - 2) := by
  have := val_lt (h.limV.take (n - 2))
  rwa [List.length_take, Nat.min_eq_left (by have := h.vl; omega)] at this
/-- The two highest limbs of us. -/
def dtop (us : List Nat) (n : Nat) : Nat := us.getD n 0 * 4294967296 + us.getD (n - 1) 0
theorem DigIn.splitU {us vs : List Nat} {n : Nat} (h : DigIn us vs n) : val us = (dtop us n * 4294967296 + us.getD (n - 2) 0) * 4294967296 ^ (n - 2) + val (us.take (n - 2)) := U_split h.n2 h.ul
theorem DigIn.splitV {us vs : List Nat} {n : Nat} (h : DigIn us vs n) : val vs = (vs.getD (n - 1) 0 * 4294967296 + vs.getD (n - 2) 0) * 4294967296 ^ (n - 2) + val (vs.take (n - 2)) := V_split h.n2 h.vl
theorem DigIn.qlt {us vs : List Nat} {n : Nat} (h : DigIn us vs n) : val us / val vs < 4294967296 := Nat.div_lt_of_lt_mul (by rw [Nat.mul_comm]; exact h.lt)

/-- What holds at the head of the first loop. -/
structure Est (us vs : List Nat) (n q r : Nat) : Prop where
  eq : q * vs.getD (n - 1) 0 + r = dtop us n
  ge : val us / val vs ≤ q
  q33 : q < 8589934592
  r33 : r < 8589934592
theorem Est.start {us vs : List Nat} {n : Nat} (h : DigIn us vs n) : Est us vs n (dtop us n / vs.getD (n - 1) 0) (dtop us n % vs.getD (n - 1) 0) := by
  have hv : 0 < vs.getD (n - 1) 0 := by have := h.high; omega
  have h0 := h.limU.get n
  have h1 := h.limU.get (n - 1)
  have hV := h.limV.get (n - 1)
  refine ⟨by rw [Nat.mul_comm]; exact Nat.div_add_mod _ _, ?_, ?_, ?_⟩
  · rw [Nat.le_div_iff_mul_le hv]
    have h2 : val us / val vs * val vs ≤ val us := Nat.div_mul_le_self _ _
    generalize val us / val vs = qt at *
    have hu := h.splitU
    have hs := h.splitV
    have hlu := h.lowU
    have hlu2 := h.limU.get (n - 2)
    generalize 4294967296 ^ (n - 2) = P at *
    generalize vs.getD (n - 1) 0 = v1 at *
    generalize vs.getD (n - 2) 0 = v2 at *
    generalize val (vs.take (n - 2)) = vl at *
    generalize us.getD (n - 2) 0 = u2 at *
    generalize val (us.take (n - 2)) = ul at *
    generalize dtop us n = top at *
    rw [hu, hs] at h2
    rcases Nat.lt_or_ge top (qt * v1) with hc | hc
    · exfalso
      have h3 : (top + 1) * 4294967296 * P ≤ qt * v1 * 4294967296 * P := Nat.mul_le_mul_right _ (Nat.mul_le_mul_right _ hc)
      have h4 : (top * 4294967296 + u2 + 1) * P ≤ (top + 1) * 4294967296 * P := Nat.mul_le_mul_right _ (by omega)
      have h5 : qt * v1 * 4294967296 * P ≤ qt * ((v1 * 4294967296 + v2) * P + vl) := by
        rw [Nat.mul_assoc qt, Nat.mul_assoc qt]
        refine Nat.mul_le_mul_left _ ?_
        exact Nat.le_trans (Nat.mul_le_mul_right _ (Nat.le_add_right _ _)) (Nat.le_add_right _ _)
      rw [Nat.add_mul _ 1 P, Nat.one_mul] at h4
      have h6 := Nat.le_trans h4 (Nat.le_trans h3 (Nat.le_trans h5 h2))
      exact absurd (Nat.le_of_add_le_add_left h6) (by omega)
    · exact hc
  · apply Nat.div_lt_of_lt_mul
    have h2 : 2147483648 * 8589934592 ≤ vs.getD (n - 1) 0 * 8589934592 := Nat.mul_le_mul_right _ h.high
    unfold dtop
    omega
  · have := Nat.mod_lt (dtop us n) hv
    omega
theorem Est.lower1 {us vs : List Nat} {n q r : Nat} (e : Est us vs n q r) (h : DigIn us vs n) (hq : 4294967296 ≤ q) (hr : r < 4294967296) : Est us vs n (q - 1) (r + vs.getD (n - 1) 0) := by
  have hV := h.limV.get (n - 1)
  refine ⟨?_, by have := h.qlt; omega, by have := e.q33; omega, by omega⟩
  have := e.eq
  obtain ⟨p, rfl⟩ : ∃ p, q = p + 1 := ⟨q - 1, by omega⟩
  rw [Nat.add_mul] at this
  rw [Nat.add_sub_cancel]
  omega
theorem Est.lower2 {us vs : List Nat} {n q r : Nat} (e : Est us vs n q r) (h : DigIn us vs n) (hr : r < 4294967296) (ht : r * 4294967296 + us.getD (n - 2) 0 < q * vs.getD (n - 2) 0) : Est us vs n (q - 1) (r + vs.getD (n - 1) 0) := by
  have hV := h.limV.get (n - 1)
  have hlt : val us < q * val vs := by
    rw [h.splitU, h.splitV]
    exact digit_lower h.lowU e.eq ht
  have hq : val us / val vs < q := (Nat.div_lt_iff_lt_mul h.pos).2 hlt
  have hq0 : 0 < q := Nat.lt_of_le_of_lt (Nat.zero_le _) hq
  refine ⟨?_, Nat.le_sub_one_of_lt hq, by have := e.q33; omega, by omega⟩
  have := e.eq
  clear hq
  obtain ⟨p, rfl⟩ : ∃ p, q = p + 1 := ⟨q - 1, by omega⟩
  rw [Nat.add_mul] at this
  rw [Nat.add_sub_cancel]
  omega
theorem Est.fin {us vs : List Nat} {n q r : Nat} (e : Est us vs n q r) (h : DigIn us vs n) (hc : 4294967296 ≤ r ∨ (q < 4294967296 ∧ q * vs.getD (n - 2) 0 ≤ r * 4294967296 + us.getD (n - 2) 0)) :
    q < 4294967296 ∧ (q = val us / val vs ∨ q = val us / val vs + 1) := by
  have hv1 : 1 ≤ vs.getD (n - 1) 0 := by have := h.high; omega
  have hboth : q < 4294967296 ∧ q * vs.getD (n - 2) 0 ≤ r * 4294967296 + us.getD (n - 2) 0 := by
    rcases hc with hc | hc
    · refine digit_stop e.eq ?_ hc (h.limV.get _)
      have := h.lt
      rw [h.splitU, h.splitV] at this
      exact top_lt (h.limV.get _) h.lowV this
    · exact hc
  refine ⟨hboth.1, digit_is h.pos e.ge ?_⟩
  have h2 := digit_upper (ul := val (us.take (n - 2))) h.lowV hv1 hboth.1 e.eq hboth.2
  rw [← h.splitU, ← h.splitV] at h2
  exact h2

/-- What holds at the head of the second loop: q * v has been taken away up to limb i. -/
structure MSub (us vs R : List Nat) (n q i c b : Nat) : Prop where
  len : R.length = n + 1
  lim : Lim R
  rest : R.drop i = us.drop i
  sum : val (R.take i) + q * val (vs.take i) = val (us.take i) + 4294967296 ^ i * (c + b)
theorem getD_of_drop {R us : List Nat} {i j : Nat} (h : R.drop i = us.drop i) (hj : i ≤ j) : R.getD j 0 = us.getD j 0 := by
  have e1 : R.getD j 0 = (R.drop i).getD (j - i) 0 := by rw [List.getD_eq_getElem?_getD, List.getD_eq_getElem?_getD, List.getElem?_drop, show i + (j - i) = j by omega]
  have e2 : us.getD j 0 = (us.drop i).getD (j - i) 0 := by rw [List.getD_eq_getElem?_getD, List.getD_eq_getElem?_getD, List.getElem?_drop, show i + (j - i) = j by omega]
  rw [e1, e2, h]
theorem drop_set_next {R us : List Nat} {i d : Nat} (h : R.drop i = us.drop i) : (R.set i d).drop (i + 1) = us.drop (i + 1) := by
  rw [List.drop_set_of_lt (by omega)]
  have := congrArg (List.drop 1) h
  rwa [List.drop_drop, List.drop_drop] at this
theorem MSub.step {us vs R : List Nat} {n q i c b d nb t : Nat} (h : MSub us vs R n q i c b) (hi : i < n) (hd : d < 4294967296) (ht : t = c + q * vs.getD i 0) (he : d + t % 4294967296 + b = R.getD i 0 + 4294967296 * nb) :
    MSub us vs (R.set i d) n q (i + 1) (t / 4294967296) nb := by
  refine ⟨by rw [List.length_set, h.len], h.lim.set _ hd, drop_set_next h.rest, ?_⟩
  rw [getD_of_drop h.rest (Nat.le_refl _)] at he
  exact msub_step (by rw [h.len]; omega) h.sum ht he
theorem take_set_same {R : List Nat} {i d : Nat} : (R.set i d).take i = R.take i := by
  rw [List.take_set]
  rcases Nat.lt_or_ge i (R.take i).length with h | h
  · simp at h; omega
  · exact List.set_eq_of_length_le h
theorem val_last {R : List Nat} {n : Nat} (h : R.length = n + 1) : val R = val (R.take n) + 4294967296 ^ n * R.getD n 0 := by
  have := val_take_next R n
  rwa [List.take_of_length_le (by omega)] at this
theorem getD_set_same {R : List Nat} {i d : Nat} (h : i < R.length) : (R.set i d).getD i 0 = d := by
  rw [List.getD_eq_getElem?_getD, List.getElem?_set_self h]; rfl
/-- The digit was right: the rest is where it belongs. -/
theorem MSub.right {us vs R : List Nat} {n q c b d : Nat} (h : MSub us vs R n q n c b) (hin : DigIn us vs n) (hq : q = val us / val vs ∨ q = val us / val vs + 1) (hd : d + c + b = R.getD n 0) :
    q = val us / val vs ∧ val (R.set n d) = val us % val vs := by
  have h1 := h.sum
  rw [List.take_of_length_le (by rw [hin.vl]; omega : vs.length ≤ n)] at h1
  have h2 := val_last hin.ul
  have h3 : val (R.set n d) = val (R.take n) + 4294967296 ^ n * d := by
    rw [val_last (n := n) (by rw [List.length_set, h.len]), take_set_same, getD_set_same (by rw [h.len]; omega)]
  rw [getD_of_drop h.rest (Nat.le_refl _)] at hd
  rw [← hd, Nat.add_assoc, Nat.mul_add] at h2
  have h4 : val (R.set n d) + q * val vs = val us := by omega
  have hle : q * val vs ≤ val us := by omega
  have hq2 : q ≤ val us / val vs := (Nat.le_div_iff_mul_le hin.pos).2 hle
  have hq3 : q = val us / val vs := by omega
  refine ⟨hq3, ?_⟩
  have h5 := Nat.div_add_mod (val us) (val vs)
  rw [← hq3, Nat.mul_comm] at h5
  omega
/-- What holds at the head of the third loop: v is added back. -/
structure MAdd (vs R0 R : List Nat) (n i c : Nat) : Prop where
  len : R.length = n + 1
  lim : Lim R
  rest : R.drop i = R0.drop i
  sum : val (R.take i) + 4294967296 ^ i * c = val (R0.take i) + val (vs.take i)
theorem MAdd.step {vs R0 R : List Nat} {n i c t : Nat} (h : MAdd vs R0 R n i c) (hi : i < n) (ht : t = c + (R.getD i 0 + vs.getD i 0)) : MAdd vs R0 (R.set i (t % 4294967296)) n (i + 1) (t / 4294967296) := by
  refine ⟨by rw [List.length_set, h.len], h.lim.set _ (by omega), drop_set_next h.rest, ?_⟩
  rw [val_take_next, take_set_same, getD_set_same (by rw [h.len]; omega), val_take_next R0, val_take_next vs, pow_step, Nat.mul_assoc]
  have hr := getD_of_drop h.rest (Nat.le_refl _)
  rw [hr] at ht
  have hs := h.sum
  generalize R0.getD i 0 = a at *
  generalize vs.getD i 0 = y at *
  have e := Nat.mod_add_div t 4294967296
  have e2 : 4294967296 ^ i * (t % 4294967296) + 4294967296 ^ i * (4294967296 * (t / 4294967296)) = 4294967296 ^ i * c + (4294967296 ^ i * a + 4294967296 ^ i * y) := by
    rw [← Nat.mul_add, e, ht, Nat.mul_add, Nat.mul_add]
  omega
/-- The digit was too great by 1: v has been added back. -/
theorem MSub.back {us vs R R2 : List Nat} {n q c b d c2 : Nat} (h : MSub us vs R n q n c b) (hin : DigIn us vs n) (hq : q = val us / val vs ∨ q = val us / val vs + 1) (hd : d + c + b = R.getD n 0 + 4294967296) (hlt : R.getD n 0 < c + b)
    (h2 : MAdd vs (R.set n d) R2 n n c2) : q = val us / val vs + 1 ∧ val (R2.set n ((R2.getD n 0 + c2) % 4294967296)) = val us % val vs := by
  have h1 := h.sum
  rw [List.take_of_length_le (by rw [hin.vl]; omega : vs.length ≤ n)] at h1
  have hU := val_last hin.ul
  rw [getD_of_drop h.rest (Nat.le_refl _)] at hd hlt
  have hs2 := h2.sum
  rw [take_set_same, List.take_of_length_le (by rw [hin.vl]; omega : vs.length ≤ n)] at hs2
  have hR2n : R2.getD n 0 = d := by rw [getD_of_drop h2.rest (Nat.le_refl _), getD_set_same (by rw [h.len]; omega)]
  have hVn := val_lt hin.limV
  rw [hin.vl] at hVn
  have hRn := val_lt (h.lim.take n)
  rw [List.length_take, Nat.min_eq_left (by rw [h.len]; omega)] at hRn
  have hR2t := val_lt (h2.lim.take n)
  rw [List.length_take, Nat.min_eq_left (by rw [h2.len]; omega)] at hR2t
  have hm := Nat.div_add_mod (val us) (val vs)
  have hml := Nat.mod_lt (val us) hin.pos
  generalize us.getD n 0 = un at *
  generalize val us / val vs = qt at *
  generalize val us % val vs = rho at *
  generalize hV : val vs = V at *
  generalize hA : val (us.take n) = A at *
  generalize hT : val (R.take n) = T at *
  generalize hT2 : val (R2.take n) = T2 at *
  generalize hP : 4294967296 ^ n = P at *
  have hPp : 0 < P := by rw [← hP]; exact pow_pos' n
  -- the digit was too great
  have hPc : P * (un + 1) ≤ P * (c + b) := Nat.mul_le_mul_left _ hlt
  rw [Nat.mul_add] at hPc
  have hq2 : q = qt + 1 := by
    rcases hq with e | e
    · exfalso
      rw [e, Nat.mul_comm] at h1
      omega
    · exact e
  subst hq2
  refine ⟨rfl, ?_⟩
  have hqv : (qt + 1) * V = V * qt + V := by rw [Nat.add_mul, Nat.mul_comm]; omega
  rw [hqv] at h1
  -- T2 + P * (c2 + d) = rho + P * B
  have hd2 : P * d + P * (c + b) = P * un + P * 4294967296 := by rw [← Nat.mul_add, ← Nat.mul_add]; congr 1; omega
  have key : T2 + P * (c2 + d) = rho + P * 4294967296 := by
    rw [Nat.mul_add]
    omega
  have hsum : c2 + d = 4294967296 := by
    rcases Nat.lt_trichotomy (c2 + d) 4294967296 with g | g | g
    · exfalso
      have : P * (c2 + d + 1) ≤ P * 4294967296 := Nat.mul_le_mul_left _ g
      rw [Nat.mul_add] at this
      omega
    · exact g
    · exfalso
      have : P * (4294967296 + 1) ≤ P * (c2 + d) := Nat.mul_le_mul_left _ g
      rw [Nat.mul_add] at this
      omega
  rw [hsum] at key
  rw [hR2n, val_last (n := n) (by rw [List.length_set, h2.len]), take_set_same, getD_set_same (by rw [h2.len]; omega), hT2, hP, Nat.add_comm d c2, hsum]
  omega
end Go.Proofs.YtoflndeonegkpaaDoor
