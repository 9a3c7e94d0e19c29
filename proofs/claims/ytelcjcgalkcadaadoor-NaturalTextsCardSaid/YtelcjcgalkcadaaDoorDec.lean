/- Plain arithmetic of decimal notation; no program is in sight here. -/
import Derived.Lib.ItoaNum
namespace Go.Proofs.YtelcjcgalkcadaaDoor
open Go.Lib

theorem dec_lt {n : Nat} (h : n < 10) : decDigits n = [UInt8.ofNat (48 + n)] := decDigits_one h
theorem dec_ge {n : Nat} (h : ¬ n < 10) : decDigits n = decDigits (n / 10) ++ [UInt8.ofNat (48 + n % 10)] := by rw [decDigits, dif_neg h]
theorem dec_ne_nil (n : Nat) : decDigits n ≠ [] := by
  by_cases h : n < 10
  · rw [dec_lt h]; simp
  · rw [dec_ge h]; simp
theorem dec_len_pos (n : Nat) : 0 < (decDigits n).length := List.length_pos_iff.2 (dec_ne_nil n)

/-- The last k digits of a number, with zeros ahead. -/
def padDec : Nat → Nat → List UInt8
  | 0, _ => []
  | k + 1, n => padDec k (n / 10) ++ [UInt8.ofNat (48 + n % 10)]
theorem padDec_length (k n : Nat) : (padDec k n).length = k := by
  induction k generalizing n with
  | zero => rfl
  | succ k ih => simp [padDec, ih]
theorem padDec_zero (k : Nat) : padDec k 0 = List.replicate k 48 := by
  induction k with
  | zero => rfl
  | succ k ih =>
    show padDec k (0 / 10) ++ [UInt8.ofNat (48 + 0 % 10)] = _
    rw [Nat.zero_div, ih, List.replicate_succ']
    rfl
/-- Digits of n with zeros ahead, as the code lays them. -/
theorem padDec_eq (k n : Nat) (h : n < 10 ^ k) (hk : 0 < k) : padDec k n = List.replicate (k - (decDigits n).length) 48 ++ decDigits n := by
  induction k generalizing n with
  | zero => omega
  | succ k ih =>
    show padDec k (n / 10) ++ [UInt8.ofNat (48 + n % 10)] = _
    by_cases hn : n < 10
    · have e : n / 10 = 0 := by omega
      rw [e, padDec_zero, dec_lt hn, Nat.mod_eq_of_lt hn]; simp
    · have hk0 : 0 < k := by
        rcases Nat.eq_zero_or_pos k with e | e
        · subst e; simp at h; omega
        · exact e
      rw [ih (n / 10) (by rw [Nat.pow_succ] at h; omega) hk0, dec_ge hn, List.length_append, List.length_singleton, List.append_assoc]
      congr 2
      omega
theorem dec_length_le {k n : Nat} (h : n < 10 ^ k) (hk : 0 < k) : (decDigits n).length ≤ k := by
  have := congrArg List.length (padDec_eq k n h hk)
  rw [padDec_length, List.length_append] at this
  omega
/-- A number in groups of k digits. -/
theorem dec_split (k n : Nat) (h : 10 ^ k ≤ n) : decDigits n = decDigits (n / 10 ^ k) ++ padDec k (n % 10 ^ k) := by
  induction k generalizing n with
  | zero => simp [padDec]
  | succ k ih =>
    have hp : 0 < 10 ^ k := Nat.pow_pos (by omega)
    rw [Nat.pow_succ] at h
    rw [dec_ge (by omega), ih (n / 10) (by omega)]
    have e1 : n / 10 / 10 ^ k = n / 10 ^ (k + 1) := by rw [Nat.div_div_eq_div_mul, Nat.pow_succ, Nat.mul_comm]
    have e2 : n / 10 % 10 ^ k = n % 10 ^ (k + 1) / 10 := by
      rw [Nat.pow_succ, Nat.mul_comm, Nat.mod_mul_right_div_self]
    have e3 : n % 10 ^ (k + 1) % 10 = n % 10 := by
      rw [Nat.pow_succ, Nat.mul_comm, Nat.mod_mul_right_mod]
    show _ = _ ++ (padDec k (n % 10 ^ (k + 1) / 10) ++ [UInt8.ofNat (48 + n % 10 ^ (k + 1) % 10)])
    rw [e1, e2, e3, List.append_assoc]

/-- The number that a list of digits denotes. -/
def decVal (s : List UInt8) : Nat := s.foldl (fun a c => a * 10 + (c.toNat - 48)) 0
theorem decVal_snoc (s : List UInt8) (c : UInt8) : decVal (s ++ [c]) = decVal s * 10 + (c.toNat - 48) := by simp [decVal]
def isDig (c : UInt8) : Prop := 48 ≤ c.toNat ∧ c.toNat ≤ 57
instance (c : UInt8) : Decidable (isDig c) := inferInstanceAs (Decidable (_ ∧ _))
/-- The notation of a number: digits, the first of them not 0 unless it is alone. -/
def isNum (s : List UInt8) : Prop := s ≠ [] ∧ (∀ c ∈ s, isDig c) ∧ (1 < s.length → s.head? ≠ some 48)
instance (s : List UInt8) : Decidable (isNum s) := inferInstanceAs (Decidable (_ ∧ _))
theorem ofNat_digit (d : Nat) (h : d < 10) : (UInt8.ofNat (48 + d)).toNat = 48 + d := by
  rw [UInt8.toNat_ofNat']; omega
theorem dec_digits (n : Nat) : ∀ c ∈ decDigits n, isDig c := by
  induction n using Nat.strongRecOn with
  | ind n ih =>
    by_cases h : n < 10
    · rw [dec_lt h]; intro c hc
      rw [List.mem_singleton] at hc; subst hc
      unfold isDig; rw [ofNat_digit n h]; omega
    · rw [dec_ge h]; intro c hc
      rcases List.mem_append.1 hc with hc | hc
      · exact ih (n / 10) (by omega) c hc
      · rw [List.mem_singleton] at hc; subst hc
        unfold isDig; rw [ofNat_digit _ (Nat.mod_lt _ (by omega))]; omega
theorem dec_head (n : Nat) (h : 1 < (decDigits n).length) : (decDigits n).head? ≠ some 48 := by
  induction n using Nat.strongRecOn with
  | ind n ih =>
    by_cases hn : n < 10
    · rw [dec_lt hn] at h; simp at h
    · rw [dec_ge hn, List.head?_append]
      by_cases h2 : 1 < (decDigits (n / 10)).length
      · have := ih (n / 10) (by omega) h2
        rcases hh : (decDigits (n / 10)).head? with _ | c
        · rw [List.head?_eq_none_iff] at hh; exact absurd hh (dec_ne_nil _)
        · rw [hh] at this; simpa using this
      · have h3 : n / 10 < 10 := by
          rcases Nat.lt_or_ge (n / 10) 10 with g | g
          · exact g
          · exfalso
            have := dec_len_pos (n / 10 / 10)
            rw [dec_ge (by omega : ¬ n / 10 < 10), List.length_append, List.length_singleton] at h2
            omega
        rw [dec_lt h3]
        intro e
        have e2 : UInt8.ofNat (48 + n / 10) = 48 := by simpa using e
        have e3 := congrArg UInt8.toNat e2
        rw [ofNat_digit _ h3] at e3
        have : (48 : UInt8).toNat = 48 := rfl
        omega
theorem dec_isNum (n : Nat) : isNum (decDigits n) := ⟨dec_ne_nil n, dec_digits n, dec_head n⟩
theorem decVal_dec (n : Nat) : decVal (decDigits n) = n := by
  induction n using Nat.strongRecOn with
  | ind n ih =>
    by_cases h : n < 10
    · rw [dec_lt h, show [UInt8.ofNat (48 + n)] = [] ++ [UInt8.ofNat (48 + n)] from rfl, decVal_snoc, ofNat_digit n h]
      show 0 * 10 + _ = _
      omega
    · rw [dec_ge h, decVal_snoc, ih (n / 10) (by omega), ofNat_digit _ (Nat.mod_lt _ (by omega))]
      omega
theorem isNum_init {s : List UInt8} {c : UInt8} (h : isNum (s ++ [c])) (hs : s ≠ []) : isNum s := by
  obtain ⟨_, h2, h3⟩ := h
  refine ⟨hs, fun x hx => h2 x (List.mem_append_left _ hx), fun hl => ?_⟩
  have := h3 (by rw [List.length_append]; simp; omega)
  rw [List.head?_append] at this
  rcases hh : s.head? with _ | x
  · rw [List.head?_eq_none_iff] at hh; exact absurd hh hs
  · rw [hh] at this; simpa using this
theorem decVal_pos {s : List UInt8} (h : isNum s) (h0 : s ≠ [48]) : 0 < decVal s := by
  rcases hs : s.reverse with _ | ⟨c, t⟩
  · exact absurd (by simpa using hs) h.1
  · have e : s = t.reverse ++ [c] := by rw [← List.reverse_reverse s, hs]; simp
    subst e
    generalize ht : t.reverse = u at *
    clear ht hs
    induction hn : u.length using Nat.strongRecOn generalizing u c with
    | ind n ih =>
      rw [decVal_snoc]
      by_cases hu : u = []
      · subst hu
        have hd := h.2.1 c (by simp)
        have : c.toNat ≠ 48 := fun e => h0 (by simp; exact UInt8.toNat_inj.1 e)
        have := hd.1
        omega
      · have hi := isNum_init h hu
        rcases hs : u.reverse with _ | ⟨d, t2⟩
        · exact absurd (by simpa using hs) hu
        · have e : u = t2.reverse ++ [d] := by rw [← List.reverse_reverse u, hs]; simp
          have : u ≠ [48] := by
            intro e2
            subst e2
            exact h.2.2 (by simp) (by simp)
          have := ih (t2.reverse).length (by rw [← hn, e]; simp) d t2.reverse (by rw [← e]; exact hi) (by rw [← e]; exact this) rfl
          rw [← e] at this
          omega
/-- A notation is the notation of the number that it denotes. -/
theorem dec_decVal {s : List UInt8} (h : isNum s) : decDigits (decVal s) = s := by
  induction hn : s.length using Nat.strongRecOn generalizing s with
  | ind n ih =>
    rcases hs : s.reverse with _ | ⟨c, t⟩
    · exact absurd (by simpa using hs) h.1
    · have e : s = t.reverse ++ [c] := by rw [← List.reverse_reverse s, hs]; simp
      generalize t.reverse = u at e
      subst e
      have hd := h.2.1 c (by simp)
      have hc : UInt8.ofNat (48 + (c.toNat - 48)) = c := by
        rw [Nat.add_sub_cancel' hd.1]; exact UInt8.ofNat_toNat
      rw [decVal_snoc]
      by_cases hu : u = []
      · subst hu
        rw [dec_lt (by have := hd.2; show 0 * 10 + _ < 10; omega)]
        show [UInt8.ofNat (48 + (0 * 10 + (c.toNat - 48)))] = [c]
        rw [Nat.zero_mul, Nat.zero_add, hc]
      · have hi := isNum_init h hu
        have h48 : u ≠ [48] := by
          intro e2
          subst e2
          exact h.2.2 (by simp) (by simp)
        have hp := decVal_pos hi h48
        have hlt : c.toNat - 48 < 10 := by have := hd.2; omega
        rw [dec_ge (by omega)]
        have e1 : (decVal u * 10 + (c.toNat - 48)) / 10 = decVal u := by omega
        have e2 : (decVal u * 10 + (c.toNat - 48)) % 10 = c.toNat - 48 := by omega
        rw [e1, e2, hc, ih u.length (by rw [← hn]; simp) hi rfl]
theorem dec_inj {a b : Nat} (h : decDigits a = decDigits b) : a = b := by rw [← decVal_dec a, h, decVal_dec]
end Go.Proofs.YtelcjcgalkcadaaDoor
