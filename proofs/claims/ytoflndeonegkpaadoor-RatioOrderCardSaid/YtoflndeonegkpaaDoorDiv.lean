/- math/bits.Len32 and LeadingZeros32. -/
import Derived.Test.YtoflndeonegkpaaDoorCore
import Derived.Test.YtoflndeonegkpaaDoorLen
import Derived.Test.YtoflndeonegkpaaDoorDig
import Derived.Deep.RegionWith
import Derived.Test.YtoflndeonegkpaaDoorNum
import Derived.Deep.LoopGhost
namespace Go.Proofs.YtoflndeonegkpaaDoor
open Go.RowKit

theorem bitLen_bounds : ∀ (k x : Nat), x < 2 ^ k → x ≠ 0 → k ≤ 64 → 1 ≤ Lib.bitLen x ∧ 2 ^ (Lib.bitLen x - 1) ≤ x ∧ x < 2 ^ Lib.bitLen x
  | 0, x, h, h0, _ => by exfalso; simp at h; omega
  | k + 1, x, h, h0, hk => by
    have h64 : x < 2 ^ 64 := Nat.lt_of_lt_of_le h (Nat.pow_le_pow_right (by omega) hk)
    rw [Lib.bitLen_half x h0 h64]
    by_cases h2 : x / 2 = 0
    · have : Lib.bitLen (x / 2) = 0 := by rw [h2]; rfl
      rw [this]
      have : x = 1 := by omega
      subst this
      simp
    · obtain ⟨i1, i2, i3⟩ := bitLen_bounds k (x / 2) (by rw [Nat.pow_succ] at h; omega) h2 (by omega)
      generalize Lib.bitLen (x / 2) = b at *
      obtain ⟨c, rfl⟩ : ∃ c, b = c + 1 := ⟨b - 1, by omega⟩
      refine ⟨by omega, ?_, ?_⟩
      · rw [show 1 + (c + 1) - 1 = c + 1 by omega, Nat.pow_succ]
        rw [show c + 1 - 1 = c by omega] at i2
        omega
      · rw [show 1 + (c + 1) = (c + 1) + 1 by omega, Nat.pow_succ]
        omega
theorem bitLen32 {x : Nat} (h : x < 4294967296) : Lib.bitLen x ≤ 32 := Lib.bitLen_le x 32 (by omega) h

theorem len32_any (x : Nat) (w : World) (h : x < 4294967296) : Calls Tryd.prog 74 #[.int .u32 x] w (Says w (.int .i64 (Lib.bitLen x : Nat))) :=
  (len32_nat x w (by omega) (by omega)).mono fun _ _ ⟨he, hw⟩ => ⟨by rw [he, Int.toNat_natCast], 0, hw⟩
set_option maxHeartbeats 400000 in
theorem lz32_any (x : Nat) (w : World) (h : x < 4294967296) : Calls Tryd.prog 61 #[.int .u32 x] w (Says w (.int .i64 ((32 - Lib.bitLen x : Nat) : Int))) := by
  have hb := bitLen32 h
  go_enter Tryd.func61, Tryd.ntmps61
  go_wp2_with fail
  refine (len32_any x _ h).mono ?_
  rintro e w' ⟨rfl, n, rfl⟩
  generalize Lib.bitLen x = b at *
  go_wp2
  go_ret
  refine ⟨?_, n, rfl⟩
  have e : ((32 - b : Nat) : Int) = 32 - (b : Int) := by omega
  rw [e]
  rfl
end Go.Proofs.YtoflndeonegkpaaDoor

/- Plain arithmetic of natural.DivMod. -/
namespace Go.Proofs.YtoflndeonegkpaaDoor

theorem limbs_ne_nil {n : Nat} (h : n ≠ 0) : limbs n ≠ [] := fun e => h (limbs_eq_nil.1 e)
theorem limbs_last {n : Nat} (h : n ≠ 0) : (limbs n).getD ((limbs n).length - 1) 0 ≠ 0 := by
  induction n using Nat.strongRecOn with
  | ind n ih =>
    rw [limbs_pos h]
    by_cases h2 : n / 4294967296 = 0
    · rw [h2, limbs_zero]
      show n % 4294967296 ≠ 0
      omega
    · have := ih (n / 4294967296) (by omega) h2
      have hp : 0 < (limbs (n / 4294967296)).length := List.length_pos_iff.2 (limbs_ne_nil h2)
      rw [List.length_cons, Nat.add_sub_cancel]
      obtain ⟨k, hk⟩ : ∃ k, (limbs (n / 4294967296)).length = k + 1 := ⟨(limbs (n / 4294967296)).length - 1, by omega⟩
      rw [hk, List.getD_cons_succ]
      rw [hk, Nat.add_sub_cancel] at this
      exact this

theorem val_drop_succ (L : List Nat) (k : Nat) (hk : k < L.length) : val (L.drop k) = L.getD k 0 + 4294967296 * val (L.drop (k + 1)) := by
  rw [List.drop_eq_getElem_cons hk, List.getD_eq_getElem?_getD, List.getElem?_eq_getElem hk]; rfl
theorem val_drop_zero {L : List Nat} {k n : Nat} (hl : Lim L) (h : val (L.drop k) < 4294967296 ^ n) : val (L.drop (k + n)) = 0 := by
  rcases Nat.lt_or_ge (k + n) L.length with hk | hk
  · have h1 := val_take_drop (L.drop k) n (by rw [List.length_drop]; omega)
    rw [List.drop_drop] at h1
    rcases Nat.eq_zero_or_pos (val (L.drop (k + n))) with e | e
    · exact e
    · have h2 : 4294967296 ^ n * 1 ≤ 4294967296 ^ n * val (L.drop (k + n)) := Nat.mul_le_mul_left _ e
      have := hl
      omega
  · rw [List.drop_of_length_le hk]; rfl

structure DivP (L qs : List Nat) (U V n k M : Nat) : Prop where
  len : L.length = M + n
  lim : Lim L
  qlen : k + qs.length = M
  qlim : Lim qs
  low : val (L.drop k) < V
  sum : val L + V * (4294967296 ^ k * val qs) = U
section
variable {L qs vs R : List Nat} {U n j M : Nat}
theorem DivP.val_us (h : DivP L qs U (val vs) n (j + 1) M) (hv : Lim vs) (hvl : vs.length = n) : val ((L.drop j).take (n + 1)) = val (L.drop j) ∧ val (L.drop (j + n + 1)) = 0 := by
  have hV := val_lt hv
  rw [hvl] at hV
  have hz := val_drop_zero (k := j + 1) h.lim (Nat.lt_trans h.low hV)
  rw [show j + 1 + n = j + n + 1 by omega] at hz
  have hq := h.qlen
  have hl := h.len
  have h1 := val_take_drop (L.drop j) (n + 1) (by rw [List.length_drop]; omega)
  rw [List.drop_drop, show j + (n + 1) = j + n + 1 by omega, hz, Nat.mul_zero, Nat.add_zero] at h1
  exact ⟨h1.symm, hz⟩
theorem DivP.digIn (h : DivP L qs U (val vs) n (j + 1) M) (hv : Lim vs) (hvl : vs.length = n) (hn : 2 ≤ n) (hhi : 2147483648 ≤ vs.getD (n - 1) 0) : DigIn ((L.drop j).take (n + 1)) vs n := by
  have hq := h.qlen
  have hl := h.len
  refine ⟨hn, by rw [List.length_take, List.length_drop]; omega, hvl, (h.lim.drop j).take _, hv, hhi, ?_⟩
  rw [(h.val_us hv hvl).1, val_drop_succ L j (by omega)]
  have := h.lim.get j
  have := h.low
  omega
theorem DivP.next (h : DivP L qs U (val vs) n (j + 1) M) (hv : Lim vs) (hvl : vs.length = n) (hd : DigIn ((L.drop j).take (n + 1)) vs n) (hRl : R.length = n + 1) (hR : Lim R) (hRv : val R = val ((L.drop j).take (n + 1)) % val vs) :
    DivP (splice L j R) (val ((L.drop j).take (n + 1)) / val vs :: qs) U (val vs) n j M := by
  obtain ⟨e1, e2⟩ := h.val_us hv hvl
  have hq := h.qlen
  have hl := h.len
  have hlen : (splice L j R).length = M + n := by rw [length_splice _ _ _ (by omega)]; exact hl
  have htk : (L.take j).length = j := by rw [List.length_take]; omega
  have hdrop : (splice L j R).drop j = R ++ L.drop (j + (n + 1)) := by
    unfold splice
    rw [List.drop_append_of_le_length (by omega), List.drop_of_length_le (by omega), hRl]; simp
  have hvd : val ((splice L j R).drop j) = val R := by rw [hdrop, val_append, show j + (n + 1) = j + n + 1 by omega, e2]; omega
  refine ⟨hlen, h.lim.splice hR, by rw [List.length_cons]; omega, Lim.cons hd.qlt h.qlim, ?_, ?_⟩
  · rw [hvd, hRv]; exact Nat.mod_lt _ hd.pos
  · have hs := h.sum
    have h1 := val_take_drop (splice L j R) j (by omega)
    have ht : (splice L j R).take j = L.take j := by unfold splice; rw [List.take_append_of_le_length (by omega), List.take_of_length_le (by omega)]
    rw [hvd, ht] at h1
    have h2 := val_take_drop L j (by omega)
    rw [← e1] at h2
    have hm := Nat.div_add_mod (val ((L.drop j).take (n + 1))) (val vs)
    rw [← hRv] at hm
    generalize val ((L.drop j).take (n + 1)) / val vs = qd at *
    generalize val ((L.drop j).take (n + 1)) = X at *
    show val (splice L j R) + val vs * (4294967296 ^ j * (qd + 4294967296 * val qs)) = U
    rw [← hs, h1, h2, ← hm]
    generalize val vs = V at *
    generalize val R = r at *
    generalize val qs = Q at *
    rw [pow_step]
    generalize 4294967296 ^ j = P at *
    have a1 : V * (P * (qd + 4294967296 * Q)) = P * (V * qd) + V * (P * 4294967296 * Q) := by
      rw [Nat.mul_add, Nat.mul_add, Nat.mul_left_comm V P qd, Nat.mul_assoc P]
    rw [a1, Nat.mul_add]
    omega
end
/-- The end: quotient and remainder of the shifted numbers are those of the numbers. -/
theorem DivP.fin {L qs : List Nat} {A B p n M : Nat} (h : DivP L qs (p * A) (p * B) n 0 M) (hp : 0 < p) (hB : 0 < B) : val qs = A / B ∧ val L = p * (A % B) := by
  have hs := h.sum
  have hl := h.low
  rw [List.drop_zero] at hl
  rw [Nat.pow_zero, Nat.one_mul] at hs
  have hV : 0 < p * B := Nat.mul_pos hp hB
  have h1 : val qs = p * A / (p * B) := by
    rw [← hs, Nat.add_mul_div_left _ _ hV, Nat.div_eq_of_lt hl]; omega
  have h2 : val L = p * A % (p * B) := by
    rw [← hs, Nat.add_mul_mod_self_left, Nat.mod_eq_of_lt hl]
  rw [Nat.mul_div_mul_left _ _ hp] at h1
  rw [Nat.mul_mod_mul_left] at h2
  exact ⟨h1, h2⟩
/-- The divisor, shifted so that its highest bit is set. -/
theorem left_div {vs R : List Nat} {n : Nat} (hn : 1 ≤ n) (hvl : vs.length = n) (hv : Lim vs) (hR : Lim R) (hRl : R.length = n + 1) (h0 : vs.getD (n - 1) 0 ≠ 0) (hval : val R = 2 ^ (32 - Lib.bitLen (vs.getD (n - 1) 0)) * val vs) :
    val (R.take n) = val R ∧ 2147483648 ≤ (R.take n).getD (n - 1) 0 ∧ 32 - Lib.bitLen (vs.getD (n - 1) 0) < 32 := by
  have hx := hv.get (n - 1)
  obtain ⟨b1, b2, b3⟩ := bitLen_bounds 32 _ hx h0 (by omega)
  have b4 := bitLen32 hx
  obtain ⟨k, rfl⟩ : ∃ k, n = k + 1 := ⟨n - 1, by omega⟩
  rw [show k + 1 - 1 = k by omega] at *
  generalize Lib.bitLen (vs.getD k 0) = b at *
  obtain ⟨c, rfl⟩ : ∃ c, b = c + 1 := ⟨b - 1, by omega⟩
  rw [show c + 1 - 1 = c by omega] at b2
  have hp : 2 ^ (32 - (c + 1)) * 2 ^ (c + 1) = 4294967296 := by rw [← Nat.pow_add, show 32 - (c + 1) + (c + 1) = 32 by omega]
  have hp2 : 2 ^ (32 - (c + 1)) * 2 ^ c = 2147483648 := by rw [← Nat.pow_add, show 32 - (c + 1) + c = 31 by omega]
  generalize 2 ^ (32 - (c + 1)) = p at *
  have h1 := val_last hvl
  have h2 := val_lt (hv.take k)
  rw [List.length_take, Nat.min_eq_left (by omega)] at h2
  have hpp : 0 < p := by
    rcases Nat.eq_zero_or_pos p with e | e
    · rw [e] at hp2; omega
    · exact e
  generalize vs.getD k 0 = v at *
  -- the highest limb is empty
  have hlt : val R < 4294967296 ^ (k + 1) := by
    have hB : 4294967296 ^ (k + 1) = p * (4294967296 ^ k * 2 ^ (c + 1)) := by rw [pow_step, Nat.mul_left_comm, hp]
    rw [hval, h1, hB]
    refine Nat.mul_lt_mul_of_pos_left ?_ hpp
    have h3 : 4294967296 ^ k * (v + 1) ≤ 4294967296 ^ k * 2 ^ (c + 1) := Nat.mul_le_mul_left _ b3
    rw [Nat.mul_add] at h3
    omega
  have hz : R.getD (k + 1) 0 = 0 := get_zero_of_lt hlt (Nat.le_refl _)
  have h4 := val_last hRl
  rw [hz, Nat.mul_zero, Nat.add_zero] at h4
  refine ⟨h4.symm, ?_, by omega⟩
  have hT : (R.take (k + 1)).length = k + 1 := by rw [List.length_take]; omega
  have h5 := val_last hT
  have h6 := val_lt (((hR.take (k + 1))).take k)
  rw [List.length_take, Nat.min_eq_left (by omega)] at h6
  rw [← h4, hval, h1] at h5
  generalize (R.take (k + 1)).getD k 0 = t at *
  rcases Nat.lt_or_ge t 2147483648 with ht | ht
  · exfalso
    have h7 : 4294967296 ^ k * (t + 1) ≤ 4294967296 ^ k * 2147483648 := Nat.mul_le_mul_left _ ht
    have h8 : p * (4294967296 ^ k * 2 ^ c) ≤ p * (val (vs.take k) + 4294967296 ^ k * v) := Nat.mul_le_mul_left _ (Nat.le_trans (Nat.mul_le_mul_left _ b2) (Nat.le_add_left _ _))
    rw [Nat.mul_left_comm, hp2] at h8
    rw [Nat.mul_add] at h7
    omega
  · exact ht
/-- The head of the shifted dividend is below the divisor. -/
theorem head_low {L vs : List Nat} {n M : Nat} (hn : 1 ≤ n) (hl : L.length = M + n) (hL : Lim L) (hvl : vs.length = n) (ht : L.getD (M + n - 1) 0 < 2147483648) (hhi : 2147483648 ≤ vs.getD (n - 1) 0) : val (L.drop M) < val vs := by
  obtain ⟨k, rfl⟩ : ∃ k, n = k + 1 := ⟨n - 1, by omega⟩
  have h1 : val (L.drop M) = _ := val_last (n := k) (by rw [List.length_drop]; omega)
  have h2 := val_last hvl
  have h3 := val_lt ((hL.drop M).take k)
  rw [List.length_take, List.length_drop, Nat.min_eq_left (by omega)] at h3
  have e : (L.drop M).getD k 0 = L.getD (M + (k + 1) - 1) 0 := by rw [List.getD_eq_getElem?_getD, List.getD_eq_getElem?_getD, List.getElem?_drop]; congr 2
  rw [e] at h1
  rw [show k + 1 - 1 = k by omega] at hhi
  generalize L.getD (M + (k + 1) - 1) 0 = t at *
  generalize vs.getD k 0 = v at *
  have h4 : 4294967296 ^ k * (t + 1) ≤ 4294967296 ^ k * v := Nat.mul_le_mul_left _ (by omega)
  rw [Nat.mul_add] at h4
  omega
end Go.Proofs.YtoflndeonegkpaaDoor

/- natural.DivMod. -/
namespace Go.Proofs.YtoflndeonegkpaaDoor
open Go.RowKit

/-- A quotient, a remainder and a bool. -/
def GivesDiv (w : World) (qs rs : List Nat) (b : Bool) (e : Ending) (w' : World) : Prop :=
  ∃ v1 v2, e = .returned (.tuple #[v1, v2, .bool b]) ∧ NatAt w' v1 qs ∧ NatAt w' v2 rs ∧ Below w.heap.size w w'

set_option maxHeartbeats 1000000 in
theorem divmod_zero (va vb : Value) (xs ys : List Nat) (w : World) (ha : NatAt w va xs) (hb : NatAt w vb ys) (h0 : val ys = 0) : Calls Tryd.prog 42 #[va, vb] w (GivesDiv w [] [] false) := by
  have HA := Lib.hid ha
  have HB := Lib.hid hb
  have H0 := Lib.hid h0
  clear ha hb h0
  go_enter Tryd.func42, Tryd.ntmps42
  go_wp2_with fail
  refine (trim_any _ _ _ HA.out).mono ?_
  rintro e w' ⟨v1, rfl, rfl, h1⟩
  clear h1
  go_wp2_with fail
  refine (trim_any _ _ _ HB.out).mono ?_
  rintro e w' ⟨v2, rfl, rfl, h2⟩
  rw [H0.out, limbs_zero] at h2
  obtain ⟨A2, c2, rfl, k1, k2⟩ := h2.form
  clear h2 k1 k2
  go_wp2
  go_ret3
  exact ⟨_, _, rfl, NatAt.nil _, NatAt.nil _, Below.refl _ _⟩

set_option maxHeartbeats 1000000 in
theorem divmod_less (va vb : Value) (xs ys : List Nat) (w : World) (ha : NatAt w va xs) (hb : NatAt w vb ys) (hxl : xs.length ≤ 1000000) (hlt : val xs < val ys) : Calls Tryd.prog 42 #[va, vb] w (GivesDiv w [] (limbs (val xs)) true) := by
  have HA := Lib.hid ha
  have HB := Lib.hid hb
  have HLT := Lib.hid hlt
  have hl1 := limbs_val_length ha.lim
  clear ha hb hlt
  go_enter Tryd.func42, Tryd.ntmps42
  go_wp2_with fail
  refine (trim_any _ _ _ HA.out).mono ?_
  rintro e w' ⟨v1, rfl, rfl, h1⟩
  have H1 := Lib.hid h1
  clear h1
  go_wp2_with fail
  refine (trim_any _ _ _ HB.out).mono ?_
  rintro e w' ⟨v2, rfl, rfl, h2⟩
  have H2 := Lib.hid h2
  have hvp : 0 < (limbs (val ys)).length := List.length_pos_iff.2 (limbs_ne_nil (by have := HLT.out; omega))
  obtain ⟨A2, c2, rfl, k1, k2⟩ := h2.form
  clear h2
  have e2 := Lib.hid (val_limbs (val ys))
  have e1 := Lib.hid (val_limbs (val xs))
  generalize limbs (val ys) = vs at *
  have h00 : ((vs.length : Int) == 0) = false := by rw [beq_eq_false_iff_ne]; omega
  go_wp2_with fail
  refine (cmp_below _ _ _ _ _ H1.out H2.out).mono ?_
  rintro e w0 ⟨rfl, hb0, hz0⟩
  rw [e1.out, e2.out, ord_lt HLT.out]
  go_wp2_with fail
  refine (norm_any _ _ _ (H1.out.below hb0) (by omega)).mono ?_
  rintro e w1 ⟨v3, rfl, h3, hb1⟩
  rw [e1.out] at h3
  have H3 := Lib.hid h3
  clear h3
  go_wp2
  go_ret3
  exact ⟨_, _, rfl, NatAt.nil _, H3.out, below_next hb0 hb1⟩

theorem of_one {vs : List Nat} (h : vs.length = 1) : val vs = vs.getD 0 0 := by
  match vs, h with
  | [x], _ => simp [val]
set_option maxHeartbeats 1000000 in
theorem divmod_one (va vb : Value) (xs ys : List Nat) (w : World) (ha : NatAt w va xs) (hb : NatAt w vb ys) (hxl : xs.length ≤ 1000000) (hge : val ys ≤ val xs) (hone : (limbs (val ys)).length = 1) (h0 : 0 < val ys) :
    Calls Tryd.prog 42 #[va, vb] w (GivesDiv w (limbs (val xs / val ys)) (limbs (val xs % val ys)) true) := by
  have HA := Lib.hid ha
  have HB := Lib.hid hb
  have HGE := Lib.hid hge
  have HONE := Lib.hid hone
  have H0 := Lib.hid h0
  have hl1 := limbs_val_length ha.lim
  clear ha hb hge hone h0
  go_enter Tryd.func42, Tryd.ntmps42
  go_wp2_with fail
  refine (trim_any _ _ _ HA.out).mono ?_
  rintro e w' ⟨v1, rfl, rfl, h1⟩
  have H1 := Lib.hid h1
  clear h1
  go_wp2_with fail
  refine (trim_any _ _ _ HB.out).mono ?_
  rintro e w' ⟨v2, rfl, rfl, h2⟩
  have H2 := Lib.hid h2
  obtain ⟨A2, c2, rfl, k1, k2⟩ := h2.form
  obtain ⟨b, o, rfl, hb, hc⟩ := h2.at_ (by rw [HONE.out]; omega)
  have hc0 := hc 0 (by rw [HONE.out]; omega)
  clear h2 hc
  have e2 := Lib.hid (val_limbs (val ys))
  have e1 := Lib.hid (val_limbs (val xs))
  have E3 := Lib.hid (of_one HONE.out)
  have hyl := H2.out.lim.get 0
  obtain ⟨y, hy⟩ : ∃ y : Nat, y = (limbs (val ys)).getD 0 0 := ⟨_, rfl⟩
  rw [← hy] at hc0 hyl E3
  clear hy
  rw [HONE.out] at k1 k2 ⊢
  have hord : (0 : Int) ≤ ord (val (limbs (val xs))) (val (limbs (val ys))) := by rw [e1.out, e2.out]; unfold ord; rw [if_neg (by have := HGE.out; omega)]; split <;> omega
  have H2' := H2.out
  rw [HONE.out] at H2'
  have H3 := Lib.hid H2'
  clear H2'
  go_wp2_with fail
  refine (cmp_below _ _ _ _ _ H1.out H3.out).mono ?_
  rintro e w0 ⟨rfl, hb0, hz0⟩
  obtain ⟨oc, hoc⟩ : ∃ oc, oc = ord (val (limbs (val xs))) (val (limbs (val ys))) := ⟨_, rfl⟩
  rw [← hoc] at hord ⊢
  clear hoc
  have hoB : decide (oc < 0) = false := by simp; omega
  have hc1 := (hb0.cell (p := ⟨b, o + 0, none⟩) hb).trans hc0
  rw [Nat.add_zero] at hc1
  clear hc0
  have hyp : 0 < y := by rw [← E3.out, e2.out]; exact H0.out
  go_wp2_with fail
  refine (short_any _ _ _ _ (H1.out.below hb0) (by omega) hyp hyl).mono ?_
  rintro e w1 ⟨v3, rfl, h3o, hb1⟩
  have h3 := h3o.natAt
  clear h3o
  have hr : val (limbs (val xs)) % y < 4294967296 := Nat.lt_trans (Nat.mod_lt _ hyp) hyl
  have H4 := Lib.hid h3
  clear h3
  obtain ⟨r, hrr⟩ : ∃ r : Nat, r = val (limbs (val xs)) % y := ⟨_, rfl⟩
  rw [← hrr] at hr ⊢
  have HRR := Lib.hid hrr
  clear hrr
  go_wp2_with fail
  refine (of_any r _ (by omega)).mono ?_
  rintro e w2 ⟨v4, rfl, h4, hb2⟩
  have H5 := Lib.hid h4
  clear h4
  go_wp2
  go_ret3
  have f1 : y = val ys := by rw [← E3.out, e2.out]
  have h5 := H4.out.below hb2
  have h6 := H5.out
  rw [HRR.out] at h6
  rw [e1.out, f1] at h5 h6
  exact ⟨_, _, rfl, h5, h6, below_next (below_next hb0 hb1) hb2⟩
end Go.Proofs.YtoflndeonegkpaaDoor

/- natural.DivMod, the long division. -/
namespace Go.Proofs.YtoflndeonegkpaaDoor
open Go.RowKit

theorem below_undrew {w w' : World} (h : Below w.drew.heap.size w.drew w') : Below w.heap.size w w' := ⟨h.os, h.tape, h.output, h.size, h.block⟩
set_option maxRecDepth 100000 in
set_option maxHeartbeats 4000000 in
theorem divmod_long (va vb : Value) (xs ys : List Nat) (m : Nat) (w : World) (ha : NatAt w va xs) (hb : NatAt w vb ys) (hxl : xs.length ≤ 500000) (hyl : ys.length ≤ 500000) (hge : val ys ≤ val xs) (hlen : (limbs (val ys)).length = m + 2) :
    Calls Tryd.prog 42 #[va, vb] w (GivesDiv w (limbs (val xs / val ys)) (limbs (val xs % val ys)) true) := by
  have HA := Lib.hid ha
  have HB := Lib.hid hb
  have h0 : val ys ≠ 0 := fun e => by rw [e, limbs_zero] at hlen; simp at hlen
  have hl1 := limbs_val_length ha.lim
  have hl2 := limbs_val_length hb.lim
  have hl3 := limbs_length_mono hge
  have htop := limbs_last h0
  rw [hlen] at hl2 hl3 htop
  rw [show m + 2 - 1 = m + 1 from by omega] at htop
  have HTOP := Lib.hid htop
  have HGE := Lib.hid hge
  have HL := Lib.hid hlen
  have H0 := Lib.hid h0
  clear ha hb hge hlen h0 htop
  go_enter Tryd.func42, Tryd.ntmps42
  go_wp2_with fail
  refine (trim_any _ _ _ HA.out).mono ?_
  rintro e w' ⟨v1, rfl, rfl, h1⟩
  have H1 := Lib.hid h1
  clear h1
  go_wp2_with fail
  refine (trim_any _ _ _ HB.out).mono ?_
  rintro e w' ⟨v2, rfl, rfl, h2⟩
  have h1 := H1.out
  have E1 := Lib.hid (val_limbs (val xs))
  have E2 := Lib.hid (val_limbs (val ys))
  clear H1
  generalize limbs (val xs) = us at *
  generalize limbs (val ys) = vs at *
  have Hu := Lib.hid h1
  have Hv := Lib.hid h2
  obtain ⟨A, c, rfl, g1, g2⟩ := h1.form
  obtain ⟨A2, c2, rfl, k1, k2⟩ := h2.form
  obtain ⟨b2, o2, rfl, hb2, hc2⟩ := h2.at_ (by rw [HL.out]; omega)
  have hcv := hc2 (m + 1) (by rw [HL.out]; omega)
  clear h1 h2 hc2
  have hvl := Hv.out.lim.get (m + 1)
  have hord : (0 : Int) ≤ ord (val us) (val vs) := by rw [E1.out, E2.out]; unfold ord; rw [if_neg (by have := HGE.out; omega)]; split <;> omega
  rw [HL.out] at k1 k2 ⊢
  have Hv2 := Hv.out
  rw [HL.out] at Hv2
  have Hv := Lib.hid Hv2
  clear Hv2
  go_wp2_with fail
  refine (cmp_below _ _ _ _ _ Hu.out Hv.out).mono ?_
  rintro e w0 ⟨rfl, hb0, hz0⟩
  obtain ⟨oc, hoc⟩ : ∃ oc, oc = ord (val us) (val vs) := ⟨_, rfl⟩
  rw [← hoc] at hord ⊢
  clear hoc
  have hoB : decide (oc < 0) = false := by simp; omega
  have hcv0 := (hb0.cell (p := ⟨b2, o2 + (m + 1), none⟩) hb2).trans hcv
  clear hcv
  have HS := Lib.hid (fun (R : List Nat) (hR : Lim R) (hRl : R.length = m + 2 + 1) => left_div (R := R) (by omega : 1 ≤ m + 2) HL.out Hv.out.lim hR hRl)
  obtain ⟨y, hy⟩ : ∃ y : Nat, y = vs.getD (m + 1) 0 := ⟨_, rfl⟩
  rw [← hy] at hcv0 hvl
  have HY := Lib.hid hy
  clear hy
  go_wp2_with fail
  refine (lz32_any y _ hvl).mono ?_
  rintro e w1 ⟨rfl, n1, hw1⟩
  have hb1 : Below w.heap.size w w1 := by rw [hw1]; exact below_drewN hb0 n1
  have hz1 : w1.heap.size ≤ w.heap.size := by rw [hw1]; exact hz0
  clear hw1
  obtain ⟨s, hs⟩ : ∃ s : Nat, s = 32 - Lib.bitLen y := ⟨_, rfl⟩
  rw [← hs]
  have HSS := Lib.hid hs
  clear hs
  have hs32 : s < 32 := by
    rw [HSS.out]
    have := (bitLen_bounds 32 y hvl (by rw [HY.out]; exact HTOP.out) (by omega)).1
    omega
  go_wp2
  have Hu1 := Lib.hid (Hu.out.below hb1)
  have Hv1 := Lib.hid (Hv.out.below hb1)
  go_region_with (first
    | (go_at_call_of 62 (Value.slice A us.length c); refine (left_any _ us s _ (by exact Hu1.out) (by omega) hs32).mono ?_; rintro e w2 ⟨gu, Ru, rfl, hOu, hgu, hRul, hRuL, hRuv, hRut, hb2d⟩; have hb2' := below_undrew hb2d; clear hb2d; have HOu := Lib.hid hOu; have HRUL := Lib.hid hRul; have HRUV := Lib.hid hRuv; clear hOu hRul hRuv)
    | (go_at_call 62; refine (left_any _ vs s _ (by exact Hv1.out.below hb2') (by rw [HL.out]; omega) hs32).mono ?_; rintro e w3 ⟨gv, Rv, rfl, hOv, hgv, hRvl, hRvL, hRvv, hRvt, hb3'⟩; rw [HL.out] at hRvl hRvt ⊢; have HOv := Lib.hid hOv; have HRVL := Lib.hid hRvl; have HRVV := Lib.hid hRvv; clear hOv hRvl hRvv))
  obtain ⟨M, hM⟩ : ∃ M : Nat, us.length + 1 = M + (m + 2) := ⟨us.length + 1 - (m + 2), by omega⟩
  have hgu2 := HOu.out.lt
  have hgv2 := HOv.out.lt
  have hz2 := hb2'.size
  have hz3 := hb3'.size
  have hgu0 : w1.heap.size ≤ gu := hgu
  have HM := Lib.hid hM
  go_wp2_with (at_make; refine wpList_make rfl _ Tryd.undN _ _ rfl _ _ _ _ M M rfl rfl (by have := HM.out; omega) (by have := HM.out; omega) (Nat.le_refl _) (by have := HM.out; omega) ?_; intro w4 HOq hb4 hz4; have HZ := Lib.hid hz4; clear hz4)
  -- the divisor
  have hLD := HS.out Rv hRvL HRVL.out (by rw [show m + 2 - 1 = m + 1 from by omega]; exact HTOP.out) (by rw [HRVV.out, show m + 2 - 1 = m + 1 from by omega, ← HY.out, ← HSS.out])
  rw [show m + 2 - 1 = m + 1 from by omega] at hLD
  obtain ⟨d1, d2, d3⟩ := hLD
  clear d3
  have hTl : (Rv.take (m + 2)).length = m + 2 := by rw [List.length_take, HRVL.out]; omega
  have HD1 := Lib.hid d1
  have HD2 := Lib.hid d2
  have HTL := Lib.hid hTl
  have hP0 : DivP Ru [] (2 ^ s * val us) (val (Rv.take (m + 2))) (m + 2) M M := ⟨by rw [HRUL.out]; exact hM, hRuL, by simp, lim_nil, head_low (by omega) (by rw [HRUL.out]; exact hM) hRuL hTl (by
      rw [show M + (m + 2) - 1 = us.length from by omega]
      exact Nat.lt_of_lt_of_le hRut (Nat.pow_le_pow_right (n := 2) (i := s) (j := 31) (by omega) (by omega))) (by rw [show m + 2 - 1 = m + 1 from by omega]; exact d2), by rw [HRUV.out]; simp [val]⟩
  have HP0 := Lib.hid hP0
  have hb04 : Below w.heap.size w w4 := hb1.trans ((hb2'.mono hb1.size).trans ((hb3'.mono (Nat.le_trans hb1.size hz2)).trans (hb4.mono (Nat.le_trans hb1.size (Nat.le_trans hz2 hz3)))))
  have HU4 := Lib.hid ((HOu.out.next hb3').next hb4)
  have HV4 := Lib.hid (HOv.out.next hb4)
  have hguv : gu < gv := by omega
  have hw0 : w.heap.size ≤ gu := Nat.le_trans hb1.size hgu0
  clear hM d1 d2 hTl hP0 hz0 hz1 hgu hgv HOu HOv hRut hRvt hb2' hb3' hb0 hb1 hb4 hgu0
  go_loopw [14] (fun si wr => ∃ (k : Nat) (L qs : List Nat), k ≤ M ∧ si = .int .i64 ((k : Int) - 1) ∧ Own wr gu L ∧ Own wr gv Rv ∧ Own wr w3.heap.size (List.replicate k 0 ++ qs) ∧ DivP L qs (2 ^ s * val us) (val (Rv.take (m + 2))) (m + 2) k M ∧ Below w.heap.size w wr) (fun si _ => (intOf si + 1).toNat)
  case atStart => exact ⟨M, Ru, [], Nat.le_refl _, congrArg (Value.int .i64) (by have := HM.out; omega), HU4.out, HV4.out, by rw [List.append_nil]; exact HOq.out, HP0.out, hb04⟩
  case round =>
    obtain ⟨k, L, qs, hk, rfl, hO1, hO2, hO3, hP, hbw⟩ := hrel
    have hLl := hP.len
    rcases Nat.eq_zero_or_pos k with hk0 | hk0
    · subst hk0
      have hfin := hP
      rw [HD1.out, HRVV.out] at hfin
      have hvp : 0 < val vs := by rw [E2.out]; have := H0.out; omega
      obtain ⟨f1, f2⟩ := hfin.fin (Nat.pow_pos (by omega)) hvp
      have hq := hP.qlen
      rw [Nat.zero_add] at hq
      rw [List.replicate_zero, List.nil_append] at hO3
      have N1 := Lib.hid (hO3.natAt hP.qlim (c := M) (by omega) (by have := HM.out; omega))
      rw [hq] at N1
      have hn2 := hO1.part hP.lim (o := 0) (n := m + 2) (c := M + (m + 2)) (by omega) (by omega) (by have := HM.out; omega)
      rw [List.drop_zero] at hn2
      have N2 := Lib.hid hn2
      have hvl2 : val (L.take (m + 2)) = val L := by
        have h1 := val_take_drop L (m + 2) (by omega)
        have h2 := val_lt (hRvL.take (m + 2))
        rw [HTL.out] at h2
        have h3 := hP.low
        have h4 := val_drop_zero (k := 0) hP.lim (Nat.lt_trans h3 h2)
        rw [Nat.zero_add] at h4
        rw [h4] at h1
        omega
      have HV2 := Lib.hid hvl2
      have F1 := Lib.hid f1
      have F2 := Lib.hid f2
      have hlt2 : (L.take (m + 2)).length ≤ 1000000 := by rw [List.length_take]; have := HM.out; omega
      clear hfin f1 f2 hq hn2 hvl2 hO1 hO2 hO3 hP hLl
      go_wp2
      go_region_with (first
        | (go_at_call 58; refine (trim_any _ qs _ (by exact N1.out)).mono ?_; rintro e w6 ⟨v6, rfl, hw6, h6⟩; have H6 := Lib.hid h6; have HW6 := Lib.hid hw6; clear h6 hw6)
        | (go_at_call 64; refine (right_any _ (L.take (m + 2)) s _ (by rw [← HW6.out]; exact N2.out) hlt2 hs32).mono ?_; rintro e w7 ⟨v7, rfl, h7, hb7⟩; have H7 := Lib.hid h7; clear h7))
      all_goals
        go_wp2
        go_ret3
        have h6 := H6.out
        have h7 := H7.out
        rw [HW6.out, F1.out, E1.out, E2.out] at h6
        rw [HV2.out, F2.out, Nat.mul_div_cancel_left _ (Nat.pow_pos (by omega)), E1.out, E2.out] at h7
        have hb6 : Below w.heap.size w w6 := by rw [← HW6.out]; exact hbw.drew
        exact ⟨_, _, rfl, h6.below hb7, h7, hb6.trans (hb7.mono hb6.size)⟩
    · obtain ⟨j, rfl⟩ : ∃ j, k = j + 1 := ⟨k - 1, by omega⟩
      rw [show ((j + 1 : Nat) : Int) - 1 = (j : Int) from by omega]
      have hdi := hP.digIn (hRvL.take _) HTL.out (by omega) HD2.out
      have hcq := hO3.cell (j := j) (by rw [List.length_append, List.length_replicate]; omega)
      have hfq := hO3.frozen j
      have hj1 : j < us.length + 1 := by have := HM.out; omega
      have hj2 : j + (m + 2) + 1 ≤ us.length + 1 := by have := HM.out; omega
      have hne : ¬ us.length + 1 = j := by omega
      have HDI := Lib.hid hdi
      have HP := Lib.hid hP
      have HO1 := Lib.hid hO1
      have HO2 := Lib.hid hO2
      have HO3 := Lib.hid hO3
      have HLL := Lib.hid hLl
      obtain ⟨old, hold⟩ : ∃ u, wr.cell? ⟨w3.heap.size, j, none⟩ = some u := ⟨_, hcq⟩
      clear hdi hP hO1 hO2 hO3 hcq hLl
      go_wp2_with fail
      rw [show j + (m + 2) + 1 - j = m + 3 from by omega]
      refine (digit_any gu gv j _ _ m L ((L.drop j).take (m + 2 + 1)) (Rv.take (m + 2)) wr (by rw [splice_self (by rw [HLL.out]; omega)]; exact HO1.out) (by rw [HLL.out]; omega) (by omega) (by omega) HO2.out.lt (fun i hi => by rw [getD_take hi]; exact HO2.out.cell (by rw [HRVL.out]; omega)) HDI.out).mono ?_
      rintro e w5 ⟨R, rfl, hIR, hRl, hRL, hRv⟩
      have HN := Lib.hid (HP.out.next (hRvL.take _) HTL.out HDI.out hRl hRL hRv)
      have hql := HDI.out.qlt
      obtain ⟨qd, hqd⟩ : ∃ q : Nat, q = val ((L.drop j).take (m + 2 + 1)) / val (Rv.take (m + 2)) := ⟨_, rfl⟩
      rw [← hqd] at HN hql ⊢
      clear hqd
      have hg := hIR.grown
      have hsz := hIR.size
      have hq3 : w3.heap.size < wr.heap.size := HO3.out.lt
      have hold5 : w5.cell? ⟨w3.heap.size, j, none⟩ = some old := (hIR.far (p := ⟨w3.heap.size, j, none⟩) (by simp; omega) hq3).trans hold
      have O1 := Lib.hid hIR.own
      have O2 : Hid (Own w5 gv Rv) := (hg.block gv HO2.out.lt (fun e => by injection e; omega)).trans HO2.out
      have O3 : Hid (Own w5 w3.heap.size (List.replicate (j + 1) 0 ++ qs)) := (hg.block _ hq3 (fun e => by injection e; omega)).trans HO3.out
      have hfq5 := O3.out.frozen j
      have hb5 : Below w.heap.size w w5 := hbw.trans ⟨hg.os, hg.tape, hg.output, hg.size, fun i hi => hg.block i (Nat.lt_of_lt_of_le hi hbw.size) (fun e => by injection e; omega)⟩
      clear hg hIR hold hfq hsz
      go_wp2
      go_roundw
      case rel => exact ⟨j, splice L j R, qd :: qs, by omega, rfl, O1.out.far (by simp; omega) _, O2.out.far (by simp; omega) _, by rw [← set_front]; exact O3.out.set j qd, HN.out, hb5.setCell (by simp; omega) _⟩
      case measure => simp [intOf]
end Go.Proofs.YtoflndeonegkpaaDoor

/- natural.DivMod, all cases in one. -/
namespace Go.Proofs.YtoflndeonegkpaaDoor
open Go.RowKit

theorem divmod_any (va vb : Value) (xs ys : List Nat) (w : World) (ha : NatAt w va xs) (hb : NatAt w vb ys) (hxl : xs.length ≤ 500000) (hyl : ys.length ≤ 500000) (h0 : val ys ≠ 0) :
    Calls Tryd.prog 42 #[va, vb] w (GivesDiv w (limbs (val xs / val ys)) (limbs (val xs % val ys)) true) := by
  by_cases hlt : val xs < val ys
  · have h := divmod_less va vb xs ys w ha hb (by omega) hlt
    rw [Nat.div_eq_of_lt hlt, Nat.mod_eq_of_lt hlt, limbs_zero]
    exact h
  · have hp : 0 < (limbs (val ys)).length := List.length_pos_iff.2 (limbs_ne_nil h0)
    by_cases h1 : (limbs (val ys)).length = 1
    · exact divmod_one va vb xs ys w ha hb (by omega) (by omega) h1 (by omega)
    · obtain ⟨m, hm⟩ : ∃ m, (limbs (val ys)).length = m + 2 := ⟨(limbs (val ys)).length - 2, by omega⟩
      exact divmod_long va vb xs ys m w ha hb hxl hyl (by omega) hm

theorem limbs_val_limbs (n : Nat) : limbs (val (limbs n)) = limbs n := by rw [val_limbs]
theorem limbs_len_of_lt {a b : Nat} (h : a ≤ b) {k : Nat} (hb : (limbs b).length ≤ k) : (limbs a).length ≤ k := Nat.le_trans (limbs_length_mono h) hb

end Go.Proofs.YtoflndeonegkpaaDoor
