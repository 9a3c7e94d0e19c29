/- Plain arithmetic of natural.DivMod. -/
import Derived.Test.YtelcjcgalkcadaaDoorBits
import Derived.Test.YtelcjcgalkcadaaDoorDigit
namespace Go.Proofs.YtelcjcgalkcadaaDoor

theorem limbs_ne_nil {n : Nat} (h : n ≠ 0) : limbs n ≠ [] := fun e => h (limbs_eq_nil.1 e)
theorem limbs_last {n : Nat} (h : n ≠ 0) : (limbs n).getD ((limbs n).length - 1) 0 ≠ 0 := by
  induction n using Nat.strongRecOn with
  | ind n ih =>
    rw [limbs_pos h]
    by_cases h2 : n / 4294967296 = 0
    · rw [h2, limbs_zero]
      show n % 4294967296 ≠ 0
      omega
    · have := ih (n / 4294967296) (by omega) h2
      have hp : 0 < (limbs (n / 4294967296)).length := List.length_pos_iff.2 (limbs_ne_nil h2)
      rw [List.length_cons, Nat.add_sub_cancel]
      obtain ⟨k, hk⟩ : ∃ k, (limbs (n / 4294967296)).length = k + 1 := ⟨(limbs (n / 4294967296)).length - 1, by omega⟩
      rw [hk, List.getD_cons_succ]
      rw [hk, Nat.add_sub_cancel] at this
      exact this

theorem val_drop_succ (L : List Nat) (k : Nat) (hk : k < L.length) : val (L.drop k) = L.getD k 0 + 4294967296 * val (L.drop (k + 1)) := by
  rw [List.drop_eq_getElem_cons hk, List.getD_eq_getElem?_getD, List.getElem?_eq_getElem hk]; rfl
theorem val_drop_zero {L : List Nat} {k n : Nat} (hl : Lim L) (h : val (L.drop k) < 4294967296 ^ n) : val (L.drop (k + n)) = 0 := by
  rcases Nat.lt_or_ge (k + n) L.length with hk | hk
  · have h1 := val_take_drop (L.drop k) n (by rw [List.length_drop]; omega)
    rw [List.drop_drop] at h1
    rcases Nat.eq_zero_or_pos (val (L.drop (k + n))) with e | e
    · exact e
    · have h2 : 4294967296 ^ n * 1 ≤ 4294967296 ^ n * val (L.drop (k + n)) := Nat.mul_le_mul_left _ e
      have := hl
      omega
  · rw [List.drop_of_length_le hk]; rfl

structure DivP (L qs : List Nat) (U V n k M : Nat) : Prop where
  len : L.length = M + n
  lim : Lim L
  qlen : k + qs.length = M
  qlim : Lim qs
  low : val (L.drop k) < V
  sum : val L + V * (4294967296 ^ k * val qs) = U
section
variable {L qs vs R : List Nat} {U n j M : Nat}
theorem DivP.val_us (h : DivP L qs U (val vs) n (j + 1) M) (hv : Lim vs) (hvl : vs.length = n) : val ((L.drop j).take (n + 1)) = val (L.drop j) ∧ val (L.drop (j + n + 1)) = 0 := by
  have hV := val_lt hv
  rw [hvl] at hV
  have hz := val_drop_zero (k := j + 1) h.lim (Nat.lt_trans h.low hV)
  rw [show j + 1 + n = j + n + 1 by omega] at hz
  have hq := h.qlen
  have hl := h.len
  have h1 := val_take_drop (L.drop j) (n + 1) (by rw [List.length_drop]; omega)
  rw [List.drop_drop, show j + (n + 1) = j + n + 1 by omega, hz, Nat.mul_zero, Nat.add_zero] at h1
  exact ⟨h1.symm, hz⟩
theorem DivP.digIn (h : DivP L qs U (val vs) n (j + 1) M) (hv : Lim vs) (hvl : vs.length = n) (hn : 2 ≤ n) (hhi : 2147483648 ≤ vs.getD (n - 1) 0) : DigIn ((L.drop j).take (n + 1)) vs n := by
  have hq := h.qlen
  have hl := h.len
  refine ⟨hn, by rw [List.length_take, List.length_drop]; omega, hvl, (h.lim.drop j).take _, hv, hhi, ?_⟩
  rw [(h.val_us hv hvl).1, val_drop_succ L j (by omega)]
  have := h.lim.get j
  have := h.low
  omega
theorem DivP.next (h : DivP L qs U (val vs) n (j + 1) M) (hv : Lim vs) (hvl : vs.length = n) (hd : DigIn ((L.drop j).take (n + 1)) vs n) (hRl : R.length = n + 1) (hR : Lim R) (hRv : val R = val ((L.drop j).take (n + 1)) % val vs) :
    DivP (splice L j R) (val ((L.drop j).take (n + 1)) / val vs :: qs) U (val vs) n j M := by
  obtain ⟨e1, e2⟩ := h.val_us hv hvl
  have hq := h.qlen
  have hl := h.len
  have hlen : (splice L j R).length = M + n := by rw [length_splice _ _ _ (by omega)]; exact hl
  have htk : (L.take j).length = j := by rw [List.length_take]; omega
  have hdrop : (splice L j R).drop j = R ++ L.drop (j + (n + 1)) := by
    unfold splice
    rw [List.drop_append_of_le_length (by omega), List.drop_of_length_le (by omega), hRl]; simp
  have hvd : val ((splice L j R).drop j) = val R := by rw [hdrop, val_append, show j + (n + 1) = j + n + 1 by omega, e2]; omega
  refine ⟨hlen, h.lim.splice hR, by rw [List.length_cons]; omega, Lim.cons hd.qlt h.qlim, ?_, ?_⟩
  · rw [hvd, hRv]; exact Nat.mod_lt _ hd.pos
  · have hs := h.sum
    have h1 := val_take_drop (splice L j R) j (by omega)
    have ht : (splice L j R).take j = L.take j := by unfold splice; rw [List.take_append_of_le_length (by omega), List.take_of_length_le (by omega)]
    rw [hvd, ht] at h1
    have h2 := val_take_drop L j (by omega)
    rw [← e1] at h2
    have hm := Nat.div_add_mod (val ((L.drop j).take (n + 1))) (val vs)
    rw [← hRv] at hm
    generalize val ((L.drop j).take (n + 1)) / val vs = qd at *
    generalize val ((L.drop j).take (n + 1)) = X at *
    show val (splice L j R) + val vs * (4294967296 ^ j * (qd + 4294967296 * val qs)) = U
    rw [← hs, h1, h2, ← hm]
    generalize val vs = V at *
    generalize val R = r at *
    generalize val qs = Q at *
    rw [pow_step]
    generalize 4294967296 ^ j = P at *
    have a1 : V * (P * (qd + 4294967296 * Q)) = P * (V * qd) + V * (P * 4294967296 * Q) := by
      rw [Nat.mul_add, Nat.mul_add, Nat.mul_left_comm V P qd, Nat.mul_assoc P]
    rw [a1, Nat.mul_add]
    omega
end
/-- The end: quotient and remainder of the shifted numbers are those of the numbers. -/
theorem DivP.fin {L qs : List Nat} {A B p n M : Nat} (h : DivP L qs (p * A) (p * B) n 0 M) (hp : 0 < p) (hB : 0 < B) : val qs = A / B ∧ val L = p * (A % B) := by
  have hs := h.sum
  have hl := h.low
  rw [List.drop_zero] at hl
  rw [Nat.pow_zero, Nat.one_mul] at hs
  have hV : 0 < p * B := Nat.mul_pos hp hB
  have h1 : val qs = p * A / (p * B) := by
    rw [← hs, Nat.add_mul_div_left _ _ hV, Nat.div_eq_of_lt hl]; omega
  have h2 : val L = p * A % (p * B) := by
    rw [← hs, Nat.add_mul_mod_self_left, Nat.mod_eq_of_lt hl]
  rw [Nat.mul_div_mul_left _ _ hp] at h1
  rw [Nat.mul_mod_mul_left] at h2
  exact ⟨h1, h2⟩
/-- The divisor, shifted so that its highest bit is set. -/
theorem left_div {vs R : List Nat} {n : Nat} (hn : 1 ≤ n) (hvl : vs.length = n) (hv : Lim vs) (hR : Lim R) (hRl : R.length = n + 1) (h0 : vs.getD (n - 1) 0 ≠ 0) (hval : val R = 2 ^ (32 - Lib.bitLen (vs.getD (n - 1) 0)) * val vs) :
    val (R.take n) = val R ∧ 2147483648 ≤ (R.take n).getD (n - 1) 0 ∧ 32 - Lib.bitLen (vs.getD (n - 1) 0) < 32 := by
  have hx := hv.get (n - 1)
  obtain ⟨b1, b2, b3⟩ := bitLen_bounds 32 _ hx h0 (by omega)
  have b4 := bitLen32 hx
  obtain ⟨k, rfl⟩ : ∃ k, n = k + 1 := ⟨n - 1, by omega⟩
  rw [show k + 1 - 1 = k by omega] at *
  generalize Lib.bitLen (vs.getD k 0) = b at *
  obtain ⟨c, rfl⟩ : ∃ c, b = c + 1 := ⟨b - 1, by omega⟩
  rw [show c + 1 - 1 = c by omega] at b2
  have hp : 2 ^ (32 - (c + 1)) * 2 ^ (c + 1) = 4294967296 := by rw [← Nat.pow_add, show 32 - (c + 1) + (c + 1) = 32 by omega]
  have hp2 : 2 ^ (32 - (c + 1)) * 2 ^ c = 2147483648 := by rw [← Nat.pow_add, show 32 - (c + 1) + c = 31 by omega]
  generalize 2 ^ (32 - (c + 1)) = p at *
  have h1 := val_last hvl
  have h2 := val_lt (hv.take k)
  rw [List.length_take, Nat.min_eq_left (by omega)] at h2
  have hpp : 0 < p := by
    rcases Nat.eq_zero_or_pos p with e | e
    · rw [e] at hp2; omega
    · exact e
  generalize vs.getD k 0 = v at *
  -- the highest limb is empty
  have hlt : val R < 4294967296 ^ (k + 1) := by
    have hB : 4294967296 ^ (k + 1) = p * (4294967296 ^ k * 2 ^ (c + 1)) := by rw [pow_step, Nat.mul_left_comm, hp]
    rw [hval, h1, hB]
    refine Nat.mul_lt_mul_of_pos_left ?_ hpp
    have h3 : 4294967296 ^ k * (v + 1) ≤ 4294967296 ^ k * 2 ^ (c + 1) := Nat.mul_le_mul_left _ b3
    rw [Nat.mul_add] at h3
    omega
  have hz : R.getD (k + 1) 0 = 0 := get_zero_of_lt hlt (Nat.le_refl _)
  have h4 := val_last hRl
  rw [hz, Nat.mul_zero, Nat.add_zero] at h4
  refine ⟨h4.symm, ?_, by omega⟩
  have hT : (R.take (k + 1)).length = k + 1 := by rw [List.length_take]; omega
  have h5 := val_last hT
  have h6 := val_lt (((hR.take (k + 1))).take k)
  rw [List.length_take, Nat.min_eq_left (by omega)] at h6
  rw [← h4, hval, h1] at h5
  generalize (R.take (k + 1)).getD k 0 = t at *
  rcases Nat.lt_or_ge t 2147483648 with ht | ht
  · exfalso
    have h7 : 4294967296 ^ k * (t + 1) ≤ 4294967296 ^ k * 2147483648 := Nat.mul_le_mul_left _ ht
    have h8 : p * (4294967296 ^ k * 2 ^ c) ≤ p * (val (vs.take k) + 4294967296 ^ k * v) := Nat.mul_le_mul_left _ (Nat.le_trans (Nat.mul_le_mul_left _ b2) (Nat.le_add_left _ _))
    rw [Nat.mul_left_comm, hp2] at h8
    rw [Nat.mul_add] at h7
    omega
  · exact ht
/-- The head of the shifted dividend is below the divisor. -/
theorem head_low {L vs : List Nat} {n M : Nat} (hn : 1 ≤ n) (hl : L.length = M + n) (hL : Lim L) (hvl : vs.length = n) (ht : L.getD (M + n - 1) 0 < 2147483648) (hhi : 2147483648 ≤ vs.getD (n - 1) 0) : val (L.drop M) < val vs := by
  obtain ⟨k, rfl⟩ : ∃ k, n = k + 1 := ⟨n - 1, by omega⟩
  have h1 : val (L.drop M) = _ := val_last (n := k) (by rw [List.length_drop]; omega)
  have h2 := val_last hvl
  have h3 := val_lt ((hL.drop M).take k)
  rw [List.length_take, List.length_drop, Nat.min_eq_left (by omega)] at h3
  have e : (L.drop M).getD k 0 = L.getD (M + (k + 1) - 1) 0 := by rw [List.getD_eq_getElem?_getD, List.getD_eq_getElem?_getD, List.getElem?_drop]; congr 2
  rw [e] at h1
  rw [show k + 1 - 1 = k by omega] at hhi
  generalize L.getD (M + (k + 1) - 1) 0 = t at *
  generalize vs.getD k 0 = v at *
  have h4 : 4294967296 ^ k * (t + 1) ≤ 4294967296 ^ k * v := Nat.mul_le_mul_left _ (by omega)
  rw [Nat.mul_add] at h4
  omega
end Go.Proofs.YtelcjcgalkcadaaDoor
