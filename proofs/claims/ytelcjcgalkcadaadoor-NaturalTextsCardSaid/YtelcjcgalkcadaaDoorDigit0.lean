/- Plain arithmetic of natural.digit. -/
import Derived.Test.YtelcjcgalkcadaaDoorKnuth
namespace Go.Proofs.YtelcjcgalkcadaaDoor

theorem U_split {us : List Nat} {n : Nat} (hn : 2 ≤ n) (hl : us.length = n + 1) :
    val us = ((us.getD n 0 * 4294967296 + us.getD (n - 1) 0) * 4294967296 + us.getD (n - 2) 0) * 4294967296 ^ (n - 2) + val (us.take (n - 2)) := by
  obtain ⟨m, rfl⟩ : ∃ m, n = m + 2 := ⟨n - 2, by omega⟩
  have h0 : us.take (m + 2 + 1) = us := List.take_of_length_le (by omega)
  have h1 := val_take_next us (m + 2)
  have h2 := val_take_next us (m + 1)
  have h3 := val_take_next us m
  rw [h0] at h1
  rw [show m + 2 - 2 = m by omega, show m + 2 - 1 = m + 1 by omega]
  rw [h1, h2, h3, pow_step (m + 1), pow_step m]
  generalize 4294967296 ^ m = P
  generalize us.getD (m + 2) 0 = a
  generalize us.getD (m + 1) 0 = b
  generalize us.getD m 0 = c
  rw [Nat.add_mul, Nat.add_mul, Nat.add_mul]
  have e1 : P * 4294967296 * 4294967296 * a = a * 4294967296 * 4294967296 * P := by
    rw [Nat.mul_comm _ a, Nat.mul_assoc a 4294967296, Nat.mul_assoc a, Nat.mul_assoc P, Nat.mul_comm P]
  have e2 : P * 4294967296 * b = b * 4294967296 * P := by rw [Nat.mul_comm _ b, Nat.mul_assoc, Nat.mul_comm P]
  have e3 : P * c = c * P := Nat.mul_comm ..
  omega
theorem V_split {vs : List Nat} {n : Nat} (hn : 2 ≤ n) (hl : vs.length = n) :
    val vs = (vs.getD (n - 1) 0 * 4294967296 + vs.getD (n - 2) 0) * 4294967296 ^ (n - 2) + val (vs.take (n - 2)) := by
  obtain ⟨m, rfl⟩ : ∃ m, n = m + 2 := ⟨n - 2, by omega⟩
  have h0 : vs.take (m + 1 + 1) = vs := List.take_of_length_le (by omega)
  have h2 := val_take_next vs (m + 1)
  have h3 := val_take_next vs m
  rw [h0] at h2
  rw [show m + 2 - 2 = m by omega, show m + 2 - 1 = m + 1 by omega]
  rw [h2, h3, pow_step m]
  generalize 4294967296 ^ m = P
  generalize vs.getD (m + 1) 0 = b
  generalize vs.getD m 0 = c
  rw [Nat.add_mul]
  have e2 : P * 4294967296 * b = b * 4294967296 * P := by rw [Nat.mul_comm _ b, Nat.mul_assoc, Nat.mul_comm P]
  have e3 : P * c = c * P := Nat.mul_comm ..
  omega

/-- What digit is called with. -/
structure DigIn (us vs : List Nat) (n : Nat) : Prop where
  n2 : 2 ≤ n
  ul : us.length = n + 1
  vl : vs.length = n
  limU : Lim us
  limV : Lim vs
  high : 2147483648 ≤ vs.getD (n - 1) 0
  lt : val us < 4294967296 * val vs
theorem DigIn.pos {us vs : List Nat} {n : Nat} (h : DigIn us vs n) : 0 < val vs := by
  have h1 := val_ge_get vs (n - 1)
  have h2 := h.high
  have h3 := pow_pos' (n - 1)
  have : 1 * 1 ≤ 4294967296 ^ (n - 1) * vs.getD (n - 1) 0 := Nat.mul_le_mul h3 (by omega)
  omega
theorem DigIn.lowU {us vs : List Nat} {n : Nat} (h : DigIn us vs n) : val (us.take (n - 2)) < 4294967296 ^ (n - 2) := by
  have := val_lt (h.limU.take (n - 2))
  rwa [List.length_take, Nat.min_eq_left (by have := h.ul; omega)] at this
theorem DigIn.lowV {us vs : List Nat} {n : Nat} (h : DigIn us vs n) : val (vs.take (n - 2)) < 4294967296 ^ (n - 2) := by
  have := val_lt (h.limV.take (n - 2))
  rwa [List.length_take, Nat.min_eq_left (by have := h.vl; omega)] at this
/-- The two highest limbs of us. -/
def dtop (us : List Nat) (n : Nat) : Nat := us.getD n 0 * 4294967296 + us.getD (n - 1) 0
theorem DigIn.splitU {us vs : List Nat} {n : Nat} (h : DigIn us vs n) : val us = (dtop us n * 4294967296 + us.getD (n - 2) 0) * 4294967296 ^ (n - 2) + val (us.take (n - 2)) := U_split h.n2 h.ul
theorem DigIn.splitV {us vs : List Nat} {n : Nat} (h : DigIn us vs n) : val vs = (vs.getD (n - 1) 0 * 4294967296 + vs.getD (n - 2) 0) * 4294967296 ^ (n - 2) + val (vs.take (n - 2)) := V_split h.n2 h.vl
theorem DigIn.qlt {us vs : List Nat} {n : Nat} (h : DigIn us vs n) : val us / val vs < 4294967296 := Nat.div_lt_of_lt_mul (by rw [Nat.mul_comm]; exact h.lt)

/-- What holds at the head of the first loop. -/
structure Est (us vs : List Nat) (n q r : Nat) : Prop where
  eq : q * vs.getD (n - 1) 0 + r = dtop us n
  ge : val us / val vs ≤ q
  q33 : q < 8589934592
  r33 : r < 8589934592
theorem Est.start {us vs : List Nat} {n : Nat} (h : DigIn us vs n) : Est us vs n (dtop us n / vs.getD (n - 1) 0) (dtop us n % vs.getD (n - 1) 0) := by
  have hv : 0 < vs.getD (n - 1) 0 := by have := h.high; omega
  have h0 := h.limU.get n
  have h1 := h.limU.get (n - 1)
  have hV := h.limV.get (n - 1)
  refine ⟨by rw [Nat.mul_comm]; exact Nat.div_add_mod _ _, ?_, ?_, ?_⟩
  · rw [Nat.le_div_iff_mul_le hv]
    have h2 : val us / val vs * val vs ≤ val us := Nat.div_mul_le_self _ _
    generalize val us / val vs = qt at *
    have hu := h.splitU
    have hs := h.splitV
    have hlu := h.lowU
    have hlu2 := h.limU.get (n - 2)
    generalize 4294967296 ^ (n - 2) = P at *
    generalize vs.getD (n - 1) 0 = v1 at *
    generalize vs.getD (n - 2) 0 = v2 at *
    generalize val (vs.take (n - 2)) = vl at *
    generalize us.getD (n - 2) 0 = u2 at *
    generalize val (us.take (n - 2)) = ul at *
    generalize dtop us n = top at *
    rw [hu, hs] at h2
    rcases Nat.lt_or_ge top (qt * v1) with hc | hc
    · exfalso
      have h3 : (top + 1) * 4294967296 * P ≤ qt * v1 * 4294967296 * P := Nat.mul_le_mul_right _ (Nat.mul_le_mul_right _ hc)
      have h4 : (top * 4294967296 + u2 + 1) * P ≤ (top + 1) * 4294967296 * P := Nat.mul_le_mul_right _ (by omega)
      have h5 : qt * v1 * 4294967296 * P ≤ qt * ((v1 * 4294967296 + v2) * P + vl) := by
        rw [Nat.mul_assoc qt, Nat.mul_assoc qt]
        refine Nat.mul_le_mul_left _ ?_
        exact Nat.le_trans (Nat.mul_le_mul_right _ (Nat.le_add_right _ _)) (Nat.le_add_right _ _)
      rw [Nat.add_mul _ 1 P, Nat.one_mul] at h4
      have h6 := Nat.le_trans h4 (Nat.le_trans h3 (Nat.le_trans h5 h2))
      exact absurd (Nat.le_of_add_le_add_left h6) (by omega)
    · exact hc
  · apply Nat.div_lt_of_lt_mul
    have h2 : 2147483648 * 8589934592 ≤ vs.getD (n - 1) 0 * 8589934592 := Nat.mul_le_mul_right _ h.high
    unfold dtop
    omega
  · have := Nat.mod_lt (dtop us n) hv
    omega
theorem Est.lower1 {us vs : List Nat} {n q r : Nat} (e : Est us vs n q r) (h : DigIn us vs n) (hq : 4294967296 ≤ q) (hr : r < 4294967296) : Est us vs n (q - 1) (r + vs.getD (n - 1) 0) := by
  have hV := h.limV.get (n - 1)
  refine ⟨?_, by have := h.qlt; omega, by have := e.q33; omega, by omega⟩
  have := e.eq
  obtain ⟨p, rfl⟩ : ∃ p, q = p + 1 := ⟨q - 1, by omega⟩
  rw [Nat.add_mul] at this
  rw [Nat.add_sub_cancel]
  omega
theorem Est.lower2 {us vs : List Nat} {n q r : Nat} (e : Est us vs n q r) (h : DigIn us vs n) (hr : r < 4294967296) (ht : r * 4294967296 + us.getD (n - 2) 0 < q * vs.getD (n - 2) 0) : Est us vs n (q - 1) (r + vs.getD (n - 1) 0) := by
  have hV := h.limV.get (n - 1)
  have hlt : val us < q * val vs := by
    rw [h.splitU, h.splitV]
    exact digit_lower h.lowU e.eq ht
  have hq : val us / val vs < q := (Nat.div_lt_iff_lt_mul h.pos).2 hlt
  have hq0 : 0 < q := Nat.lt_of_le_of_lt (Nat.zero_le _) hq
  refine ⟨?_, Nat.le_sub_one_of_lt hq, by have := e.q33; omega, by omega⟩
  have := e.eq
  clear hq
  obtain ⟨p, rfl⟩ : ∃ p, q = p + 1 := ⟨q - 1, by omega⟩
  rw [Nat.add_mul] at this
  rw [Nat.add_sub_cancel]
  omega
theorem Est.fin {us vs : List Nat} {n q r : Nat} (e : Est us vs n q r) (h : DigIn us vs n) (hc : 4294967296 ≤ r ∨ (q < 4294967296 ∧ q * vs.getD (n - 2) 0 ≤ r * 4294967296 + us.getD (n - 2) 0)) :
    q < 4294967296 ∧ (q = val us / val vs ∨ q = val us / val vs + 1) := by
  have hv1 : 1 ≤ vs.getD (n - 1) 0 := by have := h.high; omega
  have hboth : q < 4294967296 ∧ q * vs.getD (n - 2) 0 ≤ r * 4294967296 + us.getD (n - 2) 0 := by
    rcases hc with hc | hc
    · refine digit_stop e.eq ?_ hc (h.limV.get _)
      have := h.lt
      rw [h.splitU, h.splitV] at this
      exact top_lt (h.limV.get _) h.lowV this
    · exact hc
  refine ⟨hboth.1, digit_is h.pos e.ge ?_⟩
  have h2 := digit_upper (ul := val (us.take (n - 2))) h.lowV hv1 hboth.1 e.eq hboth.2
  rw [← h.splitU, ← h.splitV] at h2
  exact h2

/-- What holds at the head of the second loop: q * v has been taken away up to limb i. -/
structure MSub (us vs R : List Nat) (n q i c b : Nat) : Prop where
  len : R.length = n + 1
  lim : Lim R
  rest : R.drop i = us.drop i
  sum : val (R.take i) + q * val (vs.take i) = val (us.take i) + 4294967296 ^ i * (c + b)
theorem getD_of_drop {R us : List Nat} {i j : Nat} (h : R.drop i = us.drop i) (hj : i ≤ j) : R.getD j 0 = us.getD j 0 := by
  have e1 : R.getD j 0 = (R.drop i).getD (j - i) 0 := by rw [List.getD_eq_getElem?_getD, List.getD_eq_getElem?_getD, List.getElem?_drop, show i + (j - i) = j by omega]
  have e2 : us.getD j 0 = (us.drop i).getD (j - i) 0 := by rw [List.getD_eq_getElem?_getD, List.getD_eq_getElem?_getD, List.getElem?_drop, show i + (j - i) = j by omega]
  rw [e1, e2, h]
theorem drop_set_next {R us : List Nat} {i d : Nat} (h : R.drop i = us.drop i) : (R.set i d).drop (i + 1) = us.drop (i + 1) := by
  rw [List.drop_set_of_lt (by omega)]
  have := congrArg (List.drop 1) h
  rwa [List.drop_drop, List.drop_drop] at this
theorem MSub.step {us vs R : List Nat} {n q i c b d nb t : Nat} (h : MSub us vs R n q i c b) (hi : i < n) (hd : d < 4294967296) (ht : t = c + q * vs.getD i 0) (he : d + t % 4294967296 + b = R.getD i 0 + 4294967296 * nb) :
    MSub us vs (R.set i d) n q (i + 1) (t / 4294967296) nb := by
  refine ⟨by rw [List.length_set, h.len], h.lim.set _ hd, drop_set_next h.rest, ?_⟩
  rw [getD_of_drop h.rest (Nat.le_refl _)] at he
  exact msub_step (by rw [h.len]; omega) h.sum ht he
theorem take_set_same {R : List Nat} {i d : Nat} : (R.set i d).take i = R.take i := by
  rw [List.take_set]
  rcases Nat.lt_or_ge i (R.take i).length with h | h
  · simp at h; omega
  · exact List.set_eq_of_length_le h
theorem val_last {R : List Nat} {n : Nat} (h : R.length = n + 1) : val R = val (R.take n) + 4294967296 ^ n * R.getD n 0 := by
  have := val_take_next R n
  rwa [List.take_of_length_le (by omega)] at this
theorem getD_set_same {R : List Nat} {i d : Nat} (h : i < R.length) : (R.set i d).getD i 0 = d := by
  rw [List.getD_eq_getElem?_getD, List.getElem?_set_self h]; rfl
/-- The digit was right: the rest is where it belongs. -/
theorem MSub.right {us vs R : List Nat} {n q c b d : Nat} (h : MSub us vs R n q n c b) (hin : DigIn us vs n) (hq : q = val us / val vs ∨ q = val us / val vs + 1) (hd : d + c + b = R.getD n 0) :
    q = val us / val vs ∧ val (R.set n d) = val us % val vs := by
  have h1 := h.sum
  rw [List.take_of_length_le (by rw [hin.vl]; omega : vs.length ≤ n)] at h1
  have h2 := val_last hin.ul
  have h3 : val (R.set n d) = val (R.take n) + 4294967296 ^ n * d := by
    rw [val_last (n := n) (by rw [List.length_set, h.len]), take_set_same, getD_set_same (by rw [h.len]; omega)]
  rw [getD_of_drop h.rest (Nat.le_refl _)] at hd
  rw [← hd, Nat.add_assoc, Nat.mul_add] at h2
  have h4 : val (R.set n d) + q * val vs = val us := by omega
  have hle : q * val vs ≤ val us := by omega
  have hq2 : q ≤ val us / val vs := (Nat.le_div_iff_mul_le hin.pos).2 hle
  have hq3 : q = val us / val vs := by omega
  refine ⟨hq3, ?_⟩
  have h5 := Nat.div_add_mod (val us) (val vs)
  rw [← hq3, Nat.mul_comm] at h5
  omega
/-- What holds at the head of the third loop: v is added back. -/
structure MAdd (vs R0 R : List Nat) (n i c : Nat) : Prop where
  len : R.length = n + 1
  lim : Lim R
  rest : R.drop i = R0.drop i
  sum : val (R.take i) + 4294967296 ^ i * c = val (R0.take i) + val (vs.take i)
theorem MAdd.step {vs R0 R : List Nat} {n i c t : Nat} (h : MAdd vs R0 R n i c) (hi : i < n) (ht : t = c + (R.getD i 0 + vs.getD i 0)) : MAdd vs R0 (R.set i (t % 4294967296)) n (i + 1) (t / 4294967296) := by
  refine ⟨by rw [List.length_set, h.len], h.lim.set _ (by omega), drop_set_next h.rest, ?_⟩
  rw [val_take_next, take_set_same, getD_set_same (by rw [h.len]; omega), val_take_next R0, val_take_next vs, pow_step, Nat.mul_assoc]
  have hr := getD_of_drop h.rest (Nat.le_refl _)
  rw [hr] at ht
  have hs := h.sum
  generalize R0.getD i 0 = a at *
  generalize vs.getD i 0 = y at *
  have e := Nat.mod_add_div t 4294967296
  have e2 : 4294967296 ^ i * (t % 4294967296) + 4294967296 ^ i * (4294967296 * (t / 4294967296)) = 4294967296 ^ i * c + (4294967296 ^ i * a + 4294967296 ^ i * y) := by
    rw [← Nat.mul_add, e, ht, Nat.mul_add, Nat.mul_add]
  omega
/-- The digit was too great by 1: v has been added back. -/
theorem MSub.back {us vs R R2 : List Nat} {n q c b d c2 : Nat} (h : MSub us vs R n q n c b) (hin : DigIn us vs n) (hq : q = val us / val vs ∨ q = val us / val vs + 1) (hd : d + c + b = R.getD n 0 + 4294967296) (hlt : R.getD n 0 < c + b)
    (h2 : MAdd vs (R.set n d) R2 n n c2) : q = val us / val vs + 1 ∧ val (R2.set n ((R2.getD n 0 + c2) % 4294967296)) = val us % val vs := by
  have h1 := h.sum
  rw [List.take_of_length_le (by rw [hin.vl]; omega : vs.length ≤ n)] at h1
  have hU := val_last hin.ul
  rw [getD_of_drop h.rest (Nat.le_refl _)] at hd hlt
  have hs2 := h2.sum
  rw [take_set_same, List.take_of_length_le (by rw [hin.vl]; omega : vs.length ≤ n)] at hs2
  have hR2n : R2.getD n 0 = d := by rw [getD_of_drop h2.rest (Nat.le_refl _), getD_set_same (by rw [h.len]; omega)]
  have hVn := val_lt hin.limV
  rw [hin.vl] at hVn
  have hRn := val_lt (h.lim.take n)
  rw [List.length_take, Nat.min_eq_left (by rw [h.len]; omega)] at hRn
  have hR2t := val_lt (h2.lim.take n)
  rw [List.length_take, Nat.min_eq_left (by rw [h2.len]; omega)] at hR2t
  have hm := Nat.div_add_mod (val us) (val vs)
  have hml := Nat.mod_lt (val us) hin.pos
  generalize us.getD n 0 = un at *
  generalize val us / val vs = qt at *
  generalize val us % val vs = rho at *
  generalize hV : val vs = V at *
  generalize hA : val (us.take n) = A at *
  generalize hT : val (R.take n) = T at *
  generalize hT2 : val (R2.take n) = T2 at *
  generalize hP : 4294967296 ^ n = P at *
  have hPp : 0 < P := by rw [← hP]; exact pow_pos' n
  -- the digit was too great
  have hPc : P * (un + 1) ≤ P * (c + b) := Nat.mul_le_mul_left _ hlt
  rw [Nat.mul_add] at hPc
  have hq2 : q = qt + 1 := by
    rcases hq with e | e
    · exfalso
      rw [e, Nat.mul_comm] at h1
      omega
    · exact e
  subst hq2
  refine ⟨rfl, ?_⟩
  have hqv : (qt + 1) * V = V * qt + V := by rw [Nat.add_mul, Nat.mul_comm]; omega
  rw [hqv] at h1
  -- T2 + P * (c2 + d) = rho + P * B
  have hd2 : P * d + P * (c + b) = P * un + P * 4294967296 := by rw [← Nat.mul_add, ← Nat.mul_add]; congr 1; omega
  have key : T2 + P * (c2 + d) = rho + P * 4294967296 := by
    rw [Nat.mul_add]
    omega
  have hsum : c2 + d = 4294967296 := by
    rcases Nat.lt_trichotomy (c2 + d) 4294967296 with g | g | g
    · exfalso
      have : P * (c2 + d + 1) ≤ P * 4294967296 := Nat.mul_le_mul_left _ g
      rw [Nat.mul_add] at this
      omega
    · exact g
    · exfalso
      have : P * (4294967296 + 1) ≤ P * (c2 + d) := Nat.mul_le_mul_left _ g
      rw [Nat.mul_add] at this
      omega
  rw [hsum] at key
  rw [hR2n, val_last (n := n) (by rw [List.length_set, h2.len]), take_set_same, getD_set_same (by rw [h2.len]; omega), hT2, hP, Nat.add_comm d c2, hsum]
  omega
end Go.Proofs.YtelcjcgalkcadaaDoor
