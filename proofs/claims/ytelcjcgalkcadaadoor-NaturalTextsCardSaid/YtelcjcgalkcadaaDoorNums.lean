/- Plain arithmetic of numbers written in limbs of 32 bits; no program is in sight here. -/
namespace Go.Proofs.YtelcjcgalkcadaaDoor

/-- The value of a list of limbs, the least significant first. -/
def val : List Nat → Nat
  | [] => 0
  | x :: xs => x + 4294967296 * val xs

/-- All limbs are below 2^32. -/
def Lim (xs : List Nat) : Prop := ∀ x ∈ xs, x < 4294967296

def limbsF : Nat → Nat → List Nat
  | 0, _ => []
  | f + 1, n => if n = 0 then [] else n % 4294967296 :: limbsF f (n / 4294967296)
/-- The normal form of a number. -/
def limbs (n : Nat) : List Nat := limbsF n n

/-- A list without its zeros at the end. -/
def trimL : List Nat → List Nat
  | [] => []
  | x :: xs => if trimL xs = [] then (if x = 0 then [] else [x]) else x :: trimL xs

theorem limbsF_zero (f : Nat) : limbsF f 0 = [] := by cases f <;> simp [limbsF]
theorem limbsF_more (f : Nat) : ∀ n, n ≤ f → limbsF f n = limbsF n n := by
  induction f using Nat.strongRecOn with
  | ind f ih =>
    intro n hn
    match f, n with
    | 0, n => have : n = 0 := by omega
              subst this; rfl
    | f + 1, 0 => simp [limbsF]
    | f + 1, n + 1 =>
      simp only [limbsF, if_neg (Nat.succ_ne_zero n)]
      congr 1
      have hlt : (n + 1) / 4294967296 ≤ n := by omega
      rw [ih f (by omega) _ (by omega)]
      by_cases hf : n = f
      · subst hf; rw [ih n (by omega) _ hlt]
      · rw [ih n (by omega) _ hlt]
theorem limbs_zero : limbs 0 = [] := rfl
theorem limbs_pos {n : Nat} (h : n ≠ 0) : limbs n = n % 4294967296 :: limbs (n / 4294967296) := by
  unfold limbs
  match n, h with
  | n + 1, _ =>
    simp only [limbsF, if_neg (Nat.succ_ne_zero n)]
    congr 1
    exact limbsF_more n _ (by omega)
theorem limbs_eq_nil {n : Nat} : limbs n = [] ↔ n = 0 := by
  constructor
  · intro h
    by_cases h0 : n = 0
    · exact h0
    · rw [limbs_pos h0] at h; cases h
  · rintro rfl; rfl
theorem val_limbs (n : Nat) : val (limbs n) = n := by
  induction n using Nat.strongRecOn with
  | ind n ih =>
    by_cases h : n = 0
    · subst h; rfl
    · rw [limbs_pos h]
      show n % 4294967296 + 4294967296 * val (limbs (n / 4294967296)) = n
      rw [ih _ (by omega)]
      omega
theorem lim_limbs (n : Nat) : Lim (limbs n) := by
  induction n using Nat.strongRecOn with
  | ind n ih =>
    by_cases h : n = 0
    · subst h; intro x hx; cases hx
    · rw [limbs_pos h]
      intro x hx
      rcases List.mem_cons.1 hx with rfl | hx
      · omega
      · exact ih _ (by omega) x hx
theorem Lim.tail {x : Nat} {xs : List Nat} (h : Lim (x :: xs)) : Lim xs := fun y hy => h y (List.mem_cons_of_mem _ hy)
theorem Lim.head {x : Nat} {xs : List Nat} (h : Lim (x :: xs)) : x < 4294967296 := h x List.mem_cons_self
theorem lim_nil : Lim [] := fun _ h => by cases h
theorem Lim.cons {x : Nat} {xs : List Nat} (hx : x < 4294967296) (h : Lim xs) : Lim (x :: xs) := fun y hy => by
  rcases List.mem_cons.1 hy with rfl | hy
  · exact hx
  · exact h y hy
theorem Lim.append {xs ys : List Nat} (h : Lim xs) (k : Lim ys) : Lim (xs ++ ys) := fun y hy => by
  rcases List.mem_append.1 hy with hy | hy
  · exact h y hy
  · exact k y hy
theorem Lim.take {xs : List Nat} (h : Lim xs) (n : Nat) : Lim (xs.take n) := fun y hy => h y (List.mem_of_mem_take hy)
theorem Lim.drop {xs : List Nat} (h : Lim xs) (n : Nat) : Lim (xs.drop n) := fun y hy => h y (List.mem_of_mem_drop hy)
theorem Lim.set {xs : List Nat} (h : Lim xs) (n : Nat) {x : Nat} (hx : x < 4294967296) : Lim (xs.set n x) := fun y hy => by
  rcases List.mem_or_eq_of_mem_set hy with hy | rfl
  · exact h y hy
  · exact hx
theorem Lim.replicate (n : Nat) : Lim (List.replicate n 0) := fun y hy => by
  have := List.eq_of_mem_replicate hy
  omega
theorem Lim.get {xs : List Nat} (h : Lim xs) (i : Nat) : xs.getD i 0 < 4294967296 := by
  rw [List.getD_eq_getElem?_getD]
  rcases hx : xs[i]? with _ | x
  · simp
  · exact h x (List.mem_of_getElem? hx)

theorem trimL_nil_val {xs : List Nat} (h : trimL xs = []) : val xs = 0 := by
  induction xs with
  | nil => rfl
  | cons x xs ih =>
    unfold trimL at h
    by_cases h1 : trimL xs = []
    · rw [if_pos h1] at h
      by_cases h2 : x = 0
      · simp [val, ih h1, h2]
      · rw [if_neg h2] at h; cases h
    · rw [if_neg h1] at h; cases h
theorem trimL_eq {xs : List Nat} (h : Lim xs) : trimL xs = limbs (val xs) := by
  induction xs with
  | nil => rfl
  | cons x xs ih =>
    have ih := ih h.tail
    have hx := h.head
    unfold trimL
    by_cases h1 : trimL xs = []
    · rw [if_pos h1]
      have hv := trimL_nil_val h1
      by_cases h2 : x = 0
      · rw [if_pos h2]; simp [val, hv, h2, limbs_zero]
      · rw [if_neg h2]
        show [x] = limbs (x + 4294967296 * val xs)
        rw [hv, limbs_pos (by omega)]
        have e1 : (x + 4294967296 * 0) % 4294967296 = x := by omega
        have e2 : (x + 4294967296 * 0) / 4294967296 = 0 := by omega
        rw [e1, e2, limbs_zero]
    · rw [if_neg h1]
      have hv : val xs ≠ 0 := fun e => h1 (by rw [ih, e, limbs_zero])
      show x :: trimL xs = limbs (x + 4294967296 * val xs)
      rw [limbs_pos (by omega)]
      have e1 : (x + 4294967296 * val xs) % 4294967296 = x := by omega
      have e2 : (x + 4294967296 * val xs) / 4294967296 = val xs := by omega
      rw [e1, e2, ih]
theorem trimL_limbs (n : Nat) : trimL (limbs n) = limbs n := by rw [trimL_eq (lim_limbs n), val_limbs]

theorem val_append (xs ys : List Nat) : val (xs ++ ys) = val xs + 4294967296 ^ xs.length * val ys := by
  induction xs with
  | nil => simp [val]
  | cons x xs ih =>
    simp only [List.cons_append, val, ih, List.length_cons, Nat.pow_succ]
    rw [Nat.mul_add, ← Nat.mul_assoc, Nat.mul_comm (4294967296 ^ xs.length) 4294967296]
    omega
theorem val_snoc (xs : List Nat) (x : Nat) : val (xs ++ [x]) = val xs + 4294967296 ^ xs.length * x := by
  rw [val_append]; simp [val]
theorem val_replicate (n : Nat) : val (List.replicate n 0) = 0 := by
  induction n with
  | zero => rfl
  | succ n ih => simp [List.replicate_succ, val, ih]
theorem val_lt {xs : List Nat} (h : Lim xs) : val xs < 4294967296 ^ xs.length := by
  induction xs with
  | nil => simp [val]
  | cons x xs ih =>
    have := ih h.tail
    have := h.head
    simp only [val, List.length_cons, Nat.pow_succ]
    omega
theorem val_take_drop (xs : List Nat) (k : Nat) (hk : k ≤ xs.length) : val xs = val (xs.take k) + 4294967296 ^ k * val (xs.drop k) := by
  have := val_append (xs.take k) (xs.drop k)
  rw [List.take_append_drop] at this
  rw [this, List.length_take, Nat.min_eq_left hk]
theorem val_take_succ (xs : List Nat) (k : Nat) (hk : k < xs.length) : val (xs.take (k + 1)) = val (xs.take k) + 4294967296 ^ k * xs.getD k 0 := by
  rw [List.take_succ_eq_append_getElem hk, val_snoc, List.length_take, Nat.min_eq_left (by omega), List.getD_eq_getElem?_getD, List.getElem?_eq_getElem hk, Option.getD_some]
theorem val_set (xs : List Nat) (k x : Nat) (hk : k < xs.length) : val (xs.set k x) + 4294967296 ^ k * xs.getD k 0 = val xs + 4294967296 ^ k * x := by
  induction xs generalizing k with
  | nil => simp at hk
  | cons y ys ih =>
    match k with
    | 0 => simp [val]; omega
    | k + 1 =>
      have := ih k (by simpa using hk)
      simp only [List.set_cons_succ, val, List.getD_cons_succ, Nat.pow_succ]
      rw [Nat.mul_comm (4294967296 ^ k) 4294967296, Nat.mul_assoc, Nat.mul_assoc]
      omega
/-- The length of the normal form. -/
theorem limbs_length_le {n k : Nat} (h : n < 4294967296 ^ k) : (limbs n).length ≤ k := by
  induction k generalizing n with
  | zero => have : n = 0 := by simpa using h
            subst this; simp [limbs_zero]
  | succ k ih =>
    by_cases h0 : n = 0
    · subst h0; simp [limbs_zero]
    · rw [limbs_pos h0, List.length_cons]
      have : n / 4294967296 < 4294967296 ^ k := Nat.div_lt_of_lt_mul (by rw [Nat.mul_comm, ← Nat.pow_succ]; exact h)
      have := ih this
      omega
theorem trimL_length_le (xs : List Nat) : (trimL xs).length ≤ xs.length := by
  induction xs with
  | nil => simp [trimL]
  | cons x xs ih =>
    unfold trimL
    by_cases h1 : trimL xs = []
    · rw [if_pos h1]
      by_cases h2 : x = 0
      · rw [if_pos h2]; simp
      · rw [if_neg h2]; simp
    · rw [if_neg h1]; simp; exact ih
theorem limbs_val_length {xs : List Nat} (h : Lim xs) : (limbs (val xs)).length ≤ xs.length := by
  rw [← trimL_eq h]; exact trimL_length_le xs
end Go.Proofs.YtelcjcgalkcadaaDoor
