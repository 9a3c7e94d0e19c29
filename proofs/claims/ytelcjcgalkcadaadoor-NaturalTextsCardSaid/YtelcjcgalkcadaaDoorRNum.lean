/- Plain arithmetic of the reference's loops: binary digits, division and roots bit by bit; no program is in sight here. -/
import Derived.Test.YtelcjcgalkcadaaDoorNums2
import Derived.Test.YtelcjcgalkcadaaDoorKnuth
namespace Go.Proofs.YtelcjcgalkcadaaDoor

/-- k is the number of binary digits of n. -/
def BitsOf (n k : Nat) : Prop := n < 2 ^ k ∧ (k ≠ 0 → 2 ^ (k - 1) ≤ n)
theorem BitsOf.zero {n : Nat} (h : BitsOf n 0) : n = 0 := by have := h.1; simp at this; omega
theorem BitsOf.none : BitsOf 0 0 := ⟨by simp, fun h => absurd rfl h⟩
theorem BitsOf.pos {n k : Nat} (h : BitsOf n k) (hk : k ≠ 0) : n ≠ 0 := by
  have := h.2 hk
  have := Nat.pow_pos (n := k - 1) (by omega : 0 < 2)
  omega
theorem BitsOf.ne {n k : Nat} (h : BitsOf n k) (hn : n ≠ 0) : k ≠ 0 := fun e => by subst e; exact hn h.zero
theorem BitsOf.lt {a b i j : Nat} (ha : BitsOf a i) (hb : BitsOf b j) (h : i < j) : a < b := by
  have h1 : 2 ^ i ≤ 2 ^ (j - 1) := Nat.pow_le_pow_right (by omega) (by omega)
  have := ha.1
  have := hb.2 (by omega)
  omega
theorem BitsOf.fits {a b i j : Nat} (ha : BitsOf a i) (hb : BitsOf b j) (hj : j ≠ 0) (h : j ≤ i) : a < b * 2 ^ (i - j + 1) := by
  have h1 : 2 ^ (j - 1) * 2 ^ (i - j + 1) ≤ b * 2 ^ (i - j + 1) := Nat.mul_le_mul_right _ (hb.2 hj)
  rw [← Nat.pow_add, show j - 1 + (i - j + 1) = i by omega] at h1
  have := ha.1
  omega
theorem BitsOf.half {t j : Nat} (h0 : t ≠ 0) (h : BitsOf (t / 2) j) : BitsOf t (j + 1) := by
  obtain ⟨h1, h2⟩ := h
  refine ⟨by rw [Nat.pow_succ]; omega, fun _ => ?_⟩
  rw [Nat.add_sub_cancel]
  rcases Nat.eq_zero_or_pos j with e | e
  · subst e; simp; omega
  · have h3 := h2 (by omega)
    obtain ⟨m, rfl⟩ : ∃ m, j = m + 1 := ⟨j - 1, by omega⟩
    rw [Nat.add_sub_cancel] at h3
    rw [Nat.pow_succ]
    omega
theorem bits_val {us : List Nat} {n k : Nat} (hu : Lim us) (hl : us.length = n + 1) (h0 : us.getD n 0 ≠ 0) (hk : BitsOf (us.getD n 0) k) : BitsOf (val us) (32 * n + k) := by
  have hkn := hk.ne h0
  have h1 : val us = val (us.take n) + 4294967296 ^ n * us.getD n 0 := by
    rw [← val_take_next, List.take_of_length_le (by omega)]
  have h2 := val_lt (hu.take n)
  rw [List.length_take, Nat.min_eq_left (by omega)] at h2
  obtain ⟨b1, b2⟩ := hk
  have b2 := b2 hkn
  generalize us.getD n 0 = v at *
  refine ⟨?_, fun _ => ?_⟩
  · rw [Nat.pow_add, Nat.pow_mul, show (2 : Nat) ^ 32 = 4294967296 from rfl]
    have h3 : 4294967296 ^ n * (v + 1) ≤ 4294967296 ^ n * 2 ^ k := Nat.mul_le_mul_left _ b1
    rw [Nat.mul_add] at h3
    omega
  · rw [show 32 * n + k - 1 = 32 * n + (k - 1) by omega, Nat.pow_add, Nat.pow_mul, show (2 : Nat) ^ 32 = 4294967296 from rfl]
    have h3 : 4294967296 ^ n * 2 ^ (k - 1) ≤ 4294967296 ^ n * v := Nat.mul_le_mul_left _ b2
    omega
/-- The digits of the top limb, counted so far: m of them, t is what is left. -/
def TopRel (x t m : Nat) : Prop := t * 2 ^ m ≤ x ∧ (m ≠ 0 → 2 ^ (m - 1) ≤ x) ∧ ∀ j, BitsOf t j → BitsOf x (m + j)
theorem TopRel.start (x : Nat) : TopRel x x 0 := ⟨by simp, fun h => absurd rfl h, fun j h => by rw [Nat.zero_add]; exact h⟩
theorem TopRel.step {x t m : Nat} (h : TopRel x t m) (h0 : t ≠ 0) : TopRel x (t / 2) (m + 1) := by
  obtain ⟨h1, _, h3⟩ := h
  refine ⟨?_, fun _ => ?_, fun j hj => ?_⟩
  · have : t / 2 * 2 * 2 ^ m ≤ t * 2 ^ m := Nat.mul_le_mul_right _ (by omega)
    rw [Nat.pow_succ, Nat.mul_comm (2 ^ m) 2, ← Nat.mul_assoc]
    omega
  · rw [Nat.add_sub_cancel]
    have : 1 * 2 ^ m ≤ t * 2 ^ m := Nat.mul_le_mul_right _ (by omega)
    omega
  · have := h3 (j + 1) (hj.half h0)
    rwa [show m + 1 + j = m + (j + 1) by omega]
theorem TopRel.few {x t m : Nat} (h : TopRel x t m) (hx : x < 4294967296) : m ≤ 32 := by
  rcases Nat.eq_zero_or_pos m with e | e
  · omega
  · have h1 := h.2.1 (by omega)
    have h2 : 2 ^ (m - 1) < 2 ^ 32 := by omega
    have := (Nat.pow_lt_pow_iff_right (by omega : 1 < 2)).1 h2
    omega
theorem TopRel.fin {x m : Nat} (h : TopRel x 0 m) : BitsOf x m := h.2.2 0 .none

/-- The long division, bits from j on done. -/
structure RDivRel (A B Q R j n : Nat) : Prop where
  eq : A = Q * B + R
  lt : R < B * 2 ^ j
  dvd : 2 ^ j ∣ Q
  qlt : Q < 2 ^ (n + 1)
theorem RDivRel.start {A B n : Nat} (h : A < B * 2 ^ (n + 1)) : RDivRel A B 0 A (n + 1) n := ⟨by simp, h, Nat.dvd_zero _, Nat.pow_pos (by omega)⟩
theorem RDivRel.no {A B Q R k n : Nat} (h : RDivRel A B Q R (k + 1) n) (hlt : ¬ B * 2 ^ k ≤ R) : RDivRel A B Q R k n :=
  ⟨h.eq, by omega, Nat.dvd_trans (Nat.pow_dvd_pow 2 (by omega)) h.dvd, h.qlt⟩
theorem RDivRel.yes {A B Q R k n : Nat} (h : RDivRel A B Q R (k + 1) n) (hk : k ≤ n) (hle : B * 2 ^ k ≤ R) : RDivRel A B (Q + 2 ^ k) (R - B * 2 ^ k) k n := by
  refine ⟨?_, ?_, ?_, ?_⟩
  · rw [Nat.add_mul, Nat.mul_comm (2 ^ k) B]; have := h.eq; omega
  · have := h.lt
    rw [Nat.pow_succ, ← Nat.mul_assoc] at this
    omega
  · exact (Nat.dvd_add_right (Nat.dvd_trans (Nat.pow_dvd_pow 2 (by omega)) h.dvd)).2 (Nat.dvd_refl _)
  · obtain ⟨c, hc⟩ := h.dvd
    have hq := h.qlt
    have e : 2 ^ (n + 1) = 2 ^ (k + 1) * 2 ^ (n - k) := by rw [← Nat.pow_add]; congr 1; omega
    rw [e] at hq ⊢
    rw [hc] at hq ⊢
    have hc2 : c < 2 ^ (n - k) := Nat.lt_of_mul_lt_mul_left hq
    have : 2 ^ (k + 1) * (c + 1) ≤ 2 ^ (k + 1) * 2 ^ (n - k) := Nat.mul_le_mul_left _ hc2
    rw [Nat.mul_add, Nat.mul_one] at this
    have h2 : 2 ^ k < 2 ^ (k + 1) := Nat.pow_lt_pow_right (by omega) (by omega)
    omega
theorem RDivRel.quo {A B Q R n : Nat} (h : RDivRel A B Q R 0 n) : A / B = Q ∧ A % B = R := by
  have hl := h.lt
  rw [Nat.pow_zero, Nat.mul_one] at hl
  have e := h.eq
  have hB : 0 < B := by omega
  constructor
  · rw [e, Nat.mul_comm, Nat.mul_add_div hB, Nat.div_eq_of_lt hl]; omega
  · rw [e, Nat.mul_comm, Nat.mul_add_mod, Nat.mod_eq_of_lt hl]
theorem two32 (s : Nat) (hs : s < 32) : 4294967296 = 2 ^ (s + 1) * 2 ^ (31 - s) := by rw [← Nat.pow_add, show s + 1 + (31 - s) = 32 by omega]
theorem room_aux {x D c T U B t : Nat} (hB : B = T * U) (h3 : x + B * D = T * c) (hx : x < B) (ht : t < T) : x + t < B := by
  have h5 : T ∣ x := (Nat.dvd_add_iff_left (Nat.dvd_trans ⟨_, hB⟩ (Nat.dvd_mul_right _ _))).2 ⟨c, h3⟩
  obtain ⟨d, hd⟩ := h5
  rw [hd] at hx ⊢
  have hd2 : d < U := Nat.lt_of_mul_lt_mul_left (Nat.lt_of_lt_of_eq hx hB)
  have h7 : T * (d + 1) ≤ T * U := Nat.mul_le_mul_left _ hd2
  rw [← hB, Nat.mul_add, Nat.mul_one] at h7
  omega
theorem low_aux {P L y c T V : Nat} (hL : L < P) (e : V = L + P * y) (hc : V = P * T * c) : y = T * c := by
  have hp : 0 < P := by omega
  have h1 : (L + P * y) % P = L := by rw [Nat.add_mul_mod_self_left, Nat.mod_eq_of_lt hL]
  rw [← e, hc, Nat.mul_assoc, Nat.mul_mod_right] at h1
  have : P * y = P * (T * c) := by rw [← Nat.mul_assoc, ← hc, e, ← h1]; omega
  exact Nat.eq_of_mul_eq_mul_left hp this
theorem split_aux {V L x D B P : Nat} (h : V = L + P * x + P * B * D) : V = L + P * (x + B * D) := by rw [h, Nat.mul_add, ← Nat.mul_assoc, Nat.add_assoc]
theorem limb_room {qs : List Nat} {i s : Nat} (hq : Lim qs) (hs : s < 32) (hd : 2 ^ (32 * i + s + 1) ∣ val qs) : qs.getD i 0 + 2 ^ s < 4294967296 := by
  have hsplit : val qs = val (qs.take (i + 1)) + 4294967296 ^ (i + 1) * val (qs.drop (i + 1)) := by
    rcases Nat.lt_or_ge i qs.length with h | h
    · exact val_take_drop qs (i + 1) (by omega)
    · rw [List.drop_eq_nil_of_le (by omega), List.take_of_length_le (by omega), show val [] = 0 from rfl, Nat.mul_zero, Nat.add_zero]
  rw [val_take_next, pow_step] at hsplit
  have hlow2 : val (qs.take i) < 4294967296 ^ i := Nat.lt_of_lt_of_le (val_lt (hq.take i)) (Nat.pow_le_pow_right (by omega) (by rw [List.length_take]; omega))
  have e1 : (2 : Nat) ^ (32 * i + s + 1) = 4294967296 ^ i * 2 ^ (s + 1) := by
    rw [show 32 * i + s + 1 = 32 * i + (s + 1) by omega, Nat.pow_add, Nat.pow_mul, show (2 : Nat) ^ 32 = 4294967296 from rfl]
  rw [e1] at hd
  obtain ⟨c, hc⟩ := hd
  exact room_aux (two32 s hs) (low_aux hlow2 (split_aux hsplit) hc) (hq.get i) (Nat.pow_lt_pow_right (by omega) (by omega))
theorem val_bit {qs : List Nat} {i s : Nat} (hi : i < qs.length) : val (qs.set i (qs.getD i 0 + 2 ^ s)) = val qs + 2 ^ (32 * i + s) := by
  have h := val_set qs i (qs.getD i 0 + 2 ^ s) hi
  rw [Nat.mul_add] at h
  rw [Nat.pow_add, Nat.pow_mul, show (2 : Nat) ^ 32 = 4294967296 from rfl]
  omega

/-- The root, bits from j on done. -/
def RRootRel (A r j : Nat) : Prop := r * r ≤ A ∧ A < (r + 2 ^ j) * (r + 2 ^ j)
theorem RRootRel.start {A k : Nat} (h : BitsOf A k) : RRootRel A 0 (k / 2 + 1) := by
  refine ⟨by simp, ?_⟩
  rw [Nat.zero_add, ← Nat.pow_add]
  exact Nat.lt_of_lt_of_le h.1 (Nat.pow_le_pow_right (by omega) (by omega))
theorem RRootRel.yes {A r k : Nat} (h : RRootRel A r (k + 1)) (hle : (r + 2 ^ k) * (r + 2 ^ k) ≤ A) : RRootRel A (r + 2 ^ k) k := by
  refine ⟨hle, ?_⟩
  have := h.2
  rw [Nat.pow_succ, Nat.mul_two, ← Nat.add_assoc] at this
  exact this
theorem RRootRel.no {A r k : Nat} (h : RRootRel A r (k + 1)) (hle : ¬ (r + 2 ^ k) * (r + 2 ^ k) ≤ A) : RRootRel A r k := ⟨h.1, by omega⟩
theorem RRootRel.fin {A r : Nat} (h : RRootRel A r 0) : isqrt A = r := isqrt_unique h.1 (by have := h.2; simpa using this)
theorem RRootRel.le {A r j : Nat} (h : RRootRel A r j) : r ≤ A := by
  rcases Nat.eq_zero_or_pos r with e | e
  · omega
  · exact Nat.le_trans (Nat.le_mul_of_pos_right _ e) h.1
end Go.Proofs.YtelcjcgalkcadaaDoor
