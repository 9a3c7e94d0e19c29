/- Plain arithmetic of decimal notation; no program is in sight here. -/
import Derived.Lib.ItoaNum
import Derived.Test.YtoflndeonegkpaaDoorDiv
namespace Go.Proofs.YtoflndeonegkpaaDoor
open Go.Lib

theorem dec_lt {n : Nat} (h : n < 10) : decDigits n = [UInt8.ofNat (48 + n)] := decDigits_one h
theorem dec_ge {n : Nat} (h : ¬ n < 10) : decDigits n = decDigits (n / 10) ++ [UInt8.ofNat (48 + n % 10)] := by rw [decDigits, dif_neg h]
theorem dec_ne_nil (n : Nat) : decDigits n ≠ [] := by
  by_cases h : n < 10
  · rw [dec_lt h]; simp
  · rw [dec_ge h]; simp
theorem dec_len_pos (n : Nat) : 0 < (decDigits n).length := List.length_pos_iff.2 (dec_ne_nil n)

/-- The last k digits of a number, with zeros ahead. -/
def padDec : Nat → Nat → List UInt8
  | 0, _ => []
  | k + 1, n => padDec k (n / 10) ++ [UInt8.ofNat (48 + n % 10)]
theorem padDec_length (k n : Nat) : (padDec k n).length = k := by
  induction k generalizing n with
  | zero => rfl
  | succ k ih => simp [padDec, ih]
theorem padDec_zero (k : Nat) : padDec k 0 = List.replicate k 48 := by
  induction k with
  | zero => rfl
  | succ k ih =>
    show padDec k (0 / 10) ++ [UInt8.ofNat (48 + 0 % 10)] = _
    rw [Nat.zero_div, ih, List.replicate_succ']
    rfl
/-- Digits of n with zeros ahead, as the code lays them. -/
theorem padDec_eq (k n : Nat) (h : n < 10 ^ k) (hk : 0 < k) : padDec k n = List.replicate (k - (decDigits n).length) 48 ++ decDigits n := by
  induction k generalizing n with
  | zero => omega
  | succ k ih =>
    show padDec k (n / 10) ++ [UInt8.ofNat (48 + n % 10)] = _
    by_cases hn : n < 10
    · have e : n / 10 = 0 := by omega
      rw [e, padDec_zero, dec_lt hn, Nat.mod_eq_of_lt hn]; simp
    · have hk0 : 0 < k := by
        rcases Nat.eq_zero_or_pos k with e | e
        · subst e; simp at h; omega
        · exact e
      rw [ih (n / 10) (by rw [Nat.pow_succ] at h; omega) hk0, dec_ge hn, List.length_append, List.length_singleton, List.append_assoc]
      congr 2
      omega
theorem dec_length_le {k n : Nat} (h : n < 10 ^ k) (hk : 0 < k) : (decDigits n).length ≤ k := by
  have := congrArg List.length (padDec_eq k n h hk)
  rw [padDec_length, List.length_append] at this
  omega
/-- A number in groups of k digits. -/
theorem dec_split (k n : Nat) (h : 10 ^ k ≤ n) : decDigits n = decDigits (n / 10 ^ k) ++ padDec k (n % 10 ^ k) := by
  induction k generalizing n with
  | zero => simp [padDec]
  | succ k ih =>
    have hp : 0 < 10 ^ k := Nat.pow_pos (by omega)
    rw [Nat.pow_succ] at h
    rw [dec_ge (by omega), ih (n / 10) (by omega)]
    have e1 : n / 10 / 10 ^ k = n / 10 ^ (k + 1) := by rw [Nat.div_div_eq_div_mul, Nat.pow_succ, Nat.mul_comm]
    have e2 : n / 10 % 10 ^ k = n % 10 ^ (k + 1) / 10 := by
      rw [Nat.pow_succ, Nat.mul_comm, Nat.mod_mul_right_div_self]
    have e3 : n % 10 ^ (k + 1) % 10 = n % 10 := by
      rw [Nat.pow_succ, Nat.mul_comm, Nat.mod_mul_right_mod]
    show _ = _ ++ (padDec k (n % 10 ^ (k + 1) / 10) ++ [UInt8.ofNat (48 + n % 10 ^ (k + 1) % 10)])
    rw [e1, e2, e3, List.append_assoc]

/-- The number that a list of digits denotes. -/
def decVal (s : List UInt8) : Nat := s.foldl (fun a c => a * 10 + (c.toNat - 48)) 0
theorem decVal_snoc (s : List UInt8) (c : UInt8) : decVal (s ++ [c]) = decVal s * 10 + (c.toNat - 48) := by simp [decVal]
def isDig (c : UInt8) : Prop := 48 ≤ c.toNat ∧ c.toNat ≤ 57
instance (c : UInt8) : Decidable (isDig c) := inferInstanceAs (Decidable (_ ∧ _))
/-- The notation of a number: digits, the first of them not 0 unless it is alone. -/
def isNum (s : List UInt8) : Prop := s ≠ [] ∧ (∀ c ∈ s, isDig c) ∧ (1 < s.length → s.head? ≠ some 48)
instance (s : List UInt8) : Decidable (isNum s) := inferInstanceAs (Decidable (_ ∧ _))
theorem ofNat_digit (d : Nat) (h : d < 10) : (UInt8.ofNat (48 + d)).toNat = 48 + d := by
  rw [UInt8.toNat_ofNat']; omega
theorem dec_digits (n : Nat) : ∀ c ∈ decDigits n, isDig c := by
  induction n using Nat.strongRecOn with
  | ind n ih =>
    by_cases h : n < 10
    · rw [dec_lt h]; intro c hc
      rw [List.mem_singleton] at hc; subst hc
      unfold isDig; rw [ofNat_digit n h]; omega
    · rw [dec_ge h]; intro c hc
      rcases List.mem_append.1 hc with hc | hc
      · exact ih (n / 10) (by omega) c hc
      · rw [List.mem_singleton] at hc; subst hc
        unfold isDig; rw [ofNat_digit _ (Nat.mod_lt _ (by omega))]; omega
theorem dec_head (n : Nat) (h : 1 < (decDigits n).length) : (decDigits n).head? ≠ some 48 := by
  induction n using Nat.strongRecOn with
  | ind n ih =>
    by_cases hn : n < 10
    · rw [dec_lt hn] at h; simp at h
    · rw [dec_ge hn, List.head?_append]
      by_cases h2 : 1 < (decDigits (n / 10)).length
      · have := ih (n / 10) (by omega) h2
        rcases hh : (decDigits (n / 10)).head? with _ | c
        · rw [List.head?_eq_none_iff] at hh; exact absurd hh (dec_ne_nil _)
        · rw [hh] at this; simpa using this
      · have h3 : n / 10 < 10 := by
          rcases Nat.lt_or_ge (n / 10) 10 with g | g
          · exact g
          · exfalso
            have := dec_len_pos (n / 10 / 10)
            rw [dec_ge (by omega : ¬ n / 10 < 10), List.length_append, List.length_singleton] at h2
            omega
        rw [dec_lt h3]
        intro e
        have e2 : UInt8.ofNat (48 + n / 10) = 48 := by simpa using e
        have e3 := congrArg UInt8.toNat e2
        rw [ofNat_digit _ h3] at e3
        have : (48 : UInt8).toNat = 48 := rfl
        omega
theorem dec_isNum (n : Nat) : isNum (decDigits n) := ⟨dec_ne_nil n, dec_digits n, dec_head n⟩
theorem decVal_dec (n : Nat) : decVal (decDigits n) = n := by
  induction n using Nat.strongRecOn with
  | ind n ih =>
    by_cases h : n < 10
    · rw [dec_lt h, show [UInt8.ofNat (48 + n)] = [] ++ [UInt8.ofNat (48 + n)] from rfl, decVal_snoc, ofNat_digit n h]
      show 0 * 10 + _ = _
      omega
    · rw [dec_ge h, decVal_snoc, ih (n / 10) (by omega), ofNat_digit _ (Nat.mod_lt _ (by omega))]
      omega
theorem isNum_init {s : List UInt8} {c : UInt8} (h : isNum (s ++ [c])) (hs : s ≠ []) : isNum s := by
  obtain ⟨_, h2, h3⟩ := h
  refine ⟨hs, fun x hx => h2 x (List.mem_append_left _ hx), fun hl => ?_⟩
  have := h3 (by rw [List.length_append]; simp; omega)
  rw [List.head?_append] at this
  rcases hh : s.head? with _ | x
  · rw [List.head?_eq_none_iff] at hh; exact absurd hh hs
  · rw [hh] at this; simpa using this
theorem decVal_pos {s : List UInt8} (h : isNum s) (h0 : s ≠ [48]) : 0 < decVal s := by
  rcases hs : s.reverse with _ | ⟨c, t⟩
  · exact absurd (by simpa using hs) h.1
  · have e : s = t.reverse ++ [c] := by rw [← List.reverse_reverse s, hs]; simp
    subst e
    generalize ht : t.reverse = u at *
    clear ht hs
    induction hn : u.length using Nat.strongRecOn generalizing u c with
    | ind n ih =>
      rw [decVal_snoc]
      by_cases hu : u = []
      · subst hu
        have hd := h.2.1 c (by simp)
        have : c.toNat ≠ 48 := fun e => h0 (by simp; exact UInt8.toNat_inj.1 e)
        have := hd.1
        omega
      · have hi := isNum_init h hu
        rcases hs : u.reverse with _ | ⟨d, t2⟩
        · exact absurd (by simpa using hs) hu
        · have e : u = t2.reverse ++ [d] := by rw [← List.reverse_reverse u, hs]; simp
          have : u ≠ [48] := by
            intro e2
            subst e2
            exact h.2.2 (by simp) (by simp)
          have := ih (t2.reverse).length (by rw [← hn, e]; simp) d t2.reverse (by rw [← e]; exact hi) (by rw [← e]; exact this) rfl
          rw [← e] at this
          omega
/-- A notation is the notation of the number that it denotes. -/
theorem dec_decVal {s : List UInt8} (h : isNum s) : decDigits (decVal s) = s := by
  induction hn : s.length using Nat.strongRecOn generalizing s with
  | ind n ih =>
    rcases hs : s.reverse with _ | ⟨c, t⟩
    · exact absurd (by simpa using hs) h.1
    · have e : s = t.reverse ++ [c] := by rw [← List.reverse_reverse s, hs]; simp
      generalize t.reverse = u at e
      subst e
      have hd := h.2.1 c (by simp)
      have hc : UInt8.ofNat (48 + (c.toNat - 48)) = c := by
        rw [Nat.add_sub_cancel' hd.1]; exact UInt8.ofNat_toNat
      rw [decVal_snoc]
      by_cases hu : u = []
      · subst hu
        rw [dec_lt (by have := hd.2; show 0 * 10 + _ < 10; omega)]
        show [UInt8.ofNat (48 + (0 * 10 + (c.toNat - 48)))] = [c]
        rw [Nat.zero_mul, Nat.zero_add, hc]
      · have hi := isNum_init h hu
        have h48 : u ≠ [48] := by
          intro e2
          subst e2
          exact h.2.2 (by simp) (by simp)
        have hp := decVal_pos hi h48
        have hlt : c.toNat - 48 < 10 := by have := hd.2; omega
        rw [dec_ge (by omega)]
        have e1 : (decVal u * 10 + (c.toNat - 48)) / 10 = decVal u := by omega
        have e2 : (decVal u * 10 + (c.toNat - 48)) % 10 = c.toNat - 48 := by omega
        rw [e1, e2, hc, ih u.length (by rw [← hn]; simp) hi rfl]
theorem dec_inj {a b : Nat} (h : decDigits a = decDigits b) : a = b := by rw [← decVal_dec a, h, decVal_dec]
end Go.Proofs.YtoflndeonegkpaaDoor

/- natural.Parse. -/
namespace Go.Proofs.YtoflndeonegkpaaDoor
open Go.RowKit

/-- What Parse returns: a number and an error's code. -/
def parseNum (l : List UInt8) : List Nat := if l.length ≤ 200 ∧ isNum l then limbs (decVal l) else []
def parseErr (l : List UInt8) : Int := if l.length ≤ 200 then (if isNum l then 0 else 2) else 5
def GivesNatE (w : World) (xs : List Nat) (c : Int) (e : Ending) (w' : World) : Prop :=
  ∃ v, e = .returned (.tuple #[v, .int .i64 c]) ∧ NatAt w' v xs ∧ Below w.heap.size w w'
theorem take_snoc (s : ByteArray) (k : Nat) (h : k < s.size) : s.data.toList.take (k + 1) = s.data.toList.take k ++ [s[k]] := by
  rw [List.take_succ_eq_append_getElem (by simpa using h)]; rfl
theorem mem_byte (s : ByteArray) (k : Nat) (h : k < s.size) : s[k] ∈ s.data.toList := by
  have : s[k] = s.data.toList[k]'(by simpa using h) := rfl
  rw [this]; exact List.getElem_mem _
theorem size_list (s : ByteArray) : s.data.toList.length = s.size := by simp
theorem decVal_lt (l : List UInt8) : decVal l < 256 ^ l.length := by
  have h : ∀ l : List UInt8, decVal l.reverse < 256 ^ l.length := by
    intro l
    induction l with
    | nil => simp [decVal]
    | cons c l ih =>
      rw [List.reverse_cons, decVal_snoc, List.length_cons, Nat.pow_succ]
      have := c.toNat_lt
      omega
  have := h l.reverse
  rwa [List.reverse_reverse, List.length_reverse] at this
theorem len_of_lt {n k j : Nat} (h : n < 256 ^ k) (hk : k ≤ 4 * j) : (limbs n).length ≤ j := by
  apply limbs_length_le
  refine Nat.lt_of_lt_of_le h ?_
  rw [show (4294967296 : Nat) = 256 ^ 4 from rfl, ← Nat.pow_mul]
  exact Nat.pow_le_pow_right (by omega) hk
theorem parse_len (s : ByteArray) (k : Nat) (hk : k ≤ 400) : (limbs (decVal (s.data.toList.take k))).length ≤ 100 := by
  have h := decVal_lt (s.data.toList.take k)
  refine len_of_lt h ?_
  rw [List.length_take]; omega
theorem parse_len10 {n : Nat} (h : (limbs n).length ≤ 100) : (limbs (n * 10)).length ≤ 1000000 := by
  have h1 := Nat.lt_of_lt_of_le (lt_pow_limbs n) (Nat.pow_le_pow_right (by omega) h)
  have h2 : n * 10 < 4294967296 ^ 101 := by
    rw [pow_step 100]
    generalize 4294967296 ^ 100 = P at *
    omega
  exact Nat.le_trans (limbs_length_le h2) (by omega)
theorem parse_len1 {n : Nat} (h : n < 4294967296) : (limbs n).length ≤ 1000000 := Nat.le_trans (limbs_length_le (k := 1) (by simpa using h)) (by omega)
theorem head_byte (s : ByteArray) (h : 0 < s.size) : s.data.toList.head? = some s[0] := by
  have h1 := take_snoc s 0 h
  rw [List.take_zero, List.nil_append] at h1
  have h2 : (s.data.toList.take (0 + 1)).head? = s.data.toList.head? := by
    rw [List.head?_take]; simp
  rw [← h2, h1]; rfl

set_option maxRecDepth 100000 in
set_option maxHeartbeats 4000000 in
theorem parse_any (s : ByteArray) (w : World) (hs : s.size ≤ 9223372036854775807) : Calls Tryd.prog 54 #[.string s] w (GivesNatE w (parseNum s.data.toList) (parseErr s.data.toList)) := by
  have hsl := size_list s
  have HSL := Lib.hid hsl
  by_cases h200 : 200 < s.size
  · have e1 : parseNum s.data.toList = [] := by unfold parseNum; rw [if_neg (by omega)]
    have e2 : parseErr s.data.toList = 5 := by unfold parseErr; rw [if_neg (by omega)]
    have E1 := Lib.hid e1
    have E2 := Lib.hid e2
    clear hsl e1 e2
    go_enter Tryd.func54, Tryd.ntmps54
    go_wp2
    go_ret2
    rw [E1.out, E2.out]
    exact ⟨_, rfl, NatAt.nil _, Below.refl _ _⟩
  · have hsyn : ¬ isNum s.data.toList → parseNum s.data.toList = [] ∧ parseErr s.data.toList = 2 := fun h => by
      unfold parseNum parseErr
      rw [if_neg (fun e => h e.2), if_pos (by omega), if_neg h]; exact ⟨rfl, rfl⟩
    have hok : isNum s.data.toList → parseNum s.data.toList = limbs (decVal s.data.toList) ∧ parseErr s.data.toList = 0 := fun h => by
      unfold parseNum parseErr
      rw [if_pos ⟨by omega, h⟩, if_pos (by omega), if_pos h]; exact ⟨rfl, rfl⟩
    have HSYN := Lib.hid hsyn
    have HOK := Lib.hid hok
    have htl := ByteArray.toList_eq s
    clear hsyn hok
    by_cases hs0 : s.size = 0
    · have hnil : s.data.toList = [] := List.eq_nil_of_length_eq_zero (by omega)
      have h1 : s.toList = [] := by rw [htl]; exact hnil
      have h2 : s.toList.isEmpty = true := by rw [h1]; rfl
      obtain ⟨E1, E2⟩ := HSYN.out (fun h => h.1 hnil)
      have E1 := Lib.hid E1
      have E2 := Lib.hid E2
      clear hsl htl hnil
      go_enter Tryd.func54, Tryd.ntmps54
      go_wp2
      go_ret2
      rw [E1.out, E2.out]
      exact ⟨_, rfl, NatAt.nil _, Below.refl _ _⟩
    have hne : ¬ s.toList = [] := by
      rw [htl]; intro h
      have h2 : s.data.toList.length = 0 := by rw [h]; rfl
      omega
    have hem : s.toList.isEmpty = false := by
      rw [List.isEmpty_eq_false_iff]; exact hne
    have hsp : 0 < s.size := by omega
    have hB200 : decide ((200 : Int) < (s.size : Int)) = false := by simp; omega
    clear hsl htl
    by_cases hs1 : s.size ≤ 1
    · go_enter Tryd.func54, Tryd.ntmps54
      go_wp2_with fail
      refine (of_any 10 _ (by omega)).mono ?_
      rintro e w1 ⟨v10, rfl, h10, hb1⟩
      have H10 := Lib.hid h10
      clear h10
      go_wp2
      go_loopw [4, 25] (fun sr si wr => ∃ k : Nat, k ≤ s.size ∧ si = .int .i64 k ∧ NatAt wr sr (limbs (decVal (s.data.toList.take k))) ∧ (∀ c ∈ s.data.toList.take k, isDig c) ∧ Below w.heap.size w wr ∧ Below w1.heap.size w1 wr) (fun _ si _ => s.size - (intOf si).toNat)
      case atStart => exact ⟨0, Nat.zero_le _, rfl, NatAt.nil _, by simp, hb1, Below.refl _ _⟩
      case round =>
        obtain ⟨k, hk, rfl, hN, hD, hbw, hb1w⟩ := hrel
        have HN := Lib.hid hN
        have HD := Lib.hid hD
        clear hN hD
        by_cases hlt : k < s.size
        · have HTS := Lib.hid (take_snoc s k hlt)
          have hb := mem_byte s k hlt
          have HMB := Lib.hid hb
          clear hb
          by_cases hdig : 48 ≤ s[k].toNat ∧ s[k].toNat ≤ 57
          · obtain ⟨d1, d2⟩ := hdig
            have q1 : decide ((s[k].toNat : Int) < 48) = false := by simp; omega
            have q2 : decide ((57 : Int) < (s[k].toNat : Int)) = false := by simp; omega
            have hll : (limbs (decVal (s.data.toList.take k))).length ≤ 100 := parse_len s k (by omega)
            have Hten := Lib.hid (H10.out.below hb1w)
            have HLL := Lib.hid hll
            have hd3 : s[k].toNat - 48 < 18446744073709551616 := by omega
            have hcs : IntKind.u64.wrap (IntKind.u8.wrap ((s[k].toNat : Int) - 48)) = ((s[k].toNat - 48 : Nat) : Int) := by rw [IntKind.wrap_u64, IntKind.wrap_u8]; omega
            go_wp2
            go_region_with (first
              | (go_at_call 36; refine (mul_any _ _ _ _ _ (by exact HN.out) (by exact Hten.out) (by have := HLL.out; omega) (by decide)).mono ?_; rintro e w2 ⟨v2, rfl, h2, hb2⟩; have H2 := Lib.hid h2; clear h2)
              | (go_at_call 47; refine (of_any (s[k].toNat - 48) _ hd3).mono ?_; rintro e w3 ⟨v3, rfl, h3, hb3⟩; have H3 := Lib.hid h3; clear h3)
              | (go_at_call 41; refine (add_any _ _ _ _ _ (by exact H2.out.below hb3) (by exact H3.out) (by rw [val_limbs, val_limbs]; exact parse_len10 HLL.out) (parse_len1 (by omega))).mono ?_; rintro e w4 ⟨v4, rfl, h4, hb4⟩; have H4 := Lib.hid h4; clear h4))
            all_goals
              go_wp2
              go_roundw
              case rel =>
                have h4 := H4.out
                rw [val_limbs, val_limbs, val_limbs, val_limbs, ← decVal_snoc, ← HTS.out] at h4
                have hbx := below_undrew (below_next (below_next hb2 hb3) hb4)
                exact ⟨k + 1, by omega, by go_num, h4, by rw [HTS.out]; intro c hc; rcases List.mem_append.1 hc with hc | hc; exact HD.out c hc; rw [List.mem_singleton] at hc; subst hc; exact ⟨d1, d2⟩, hbw.trans (hbx.mono hbw.size), hb1w.trans (hbx.mono hb1w.size)⟩
              case measure => simp [intOf]; omega
          · obtain ⟨E1, E2⟩ := HSYN.out (fun h => hdig (h.2.1 _ HMB.out))
            have E1 := Lib.hid E1
            have E2 := Lib.hid E2
            by_cases hd1 : s[k].toNat < 48
            · have q1 : decide ((s[k].toNat : Int) < 48) = true := by simp; omega
              clear hdig
              go_wp2
              go_ret2
              rw [E1.out, E2.out]
              exact ⟨_, rfl, NatAt.nil _, hbw⟩
            · have q1 : decide ((s[k].toNat : Int) < 48) = false := by simp; omega
              have q2 : decide ((57 : Int) < (s[k].toNat : Int)) = true := by simp; omega
              clear hdig
              go_wp2
              go_ret2
              rw [E1.out, E2.out]
              exact ⟨_, rfl, NatAt.nil _, hbw⟩
        · have hkl : k = s.size := by omega
          have HKL := Lib.hid hkl
          clear hkl
          go_wp2
          go_ret2
          have hfull : s.data.toList.take k = s.data.toList := List.take_of_length_le (by rw [HSL.out, HKL.out]; omega)
          have h4 := HN.out
          have h5 := HD.out
          rw [hfull] at h4 h5
          have hnn : s.data.toList ≠ [] := fun e => by
            have h6 : s.data.toList.length = 0 := by rw [e]; rfl
            have h7 := HSL.out
            omega
          obtain ⟨E1, E2⟩ := HOK.out ⟨hnn, h5, fun hl => (by have := HSL.out; omega)⟩
          rw [E1, E2]
          exact ⟨_, rfl, h4, hbw⟩
    · by_cases hz : s[0].toNat = 48
      · have hz1 : ((s[0].toNat : Int) == 48) = true := by rw [beq_iff_eq]; omega
        have hz2 : s[0] = 48 := UInt8.toNat_inj.1 hz
        obtain ⟨E1, E2⟩ := HSYN.out (fun h => h.2.2 (by rw [HSL.out]; omega) (by rw [head_byte s hsp, hz2]))
        have E1 := Lib.hid E1
        have E2 := Lib.hid E2
        clear hz hz2
        go_enter Tryd.func54, Tryd.ntmps54
        go_wp2
        go_ret2
        rw [E1.out, E2.out]
        exact ⟨_, rfl, NatAt.nil _, Below.refl _ _⟩
      · have hz1 : ((s[0].toNat : Int) == 48) = false := by rw [beq_eq_false_iff_ne]; omega
        have hbig : 1 < s.size := by omega
        have HZ : Hid (s[0] ≠ 48) := fun e => hz (by rw [e]; rfl)
        clear hz
        go_enter Tryd.func54, Tryd.ntmps54
        go_wp2_with fail
        refine (of_any 10 _ (by omega)).mono ?_
        rintro e w1 ⟨v10, rfl, h10, hb1⟩
        have H10 := Lib.hid h10
        clear h10
        go_wp2
        go_loopw [4, 25] (fun sr si wr => ∃ k : Nat, k ≤ s.size ∧ si = .int .i64 k ∧ NatAt wr sr (limbs (decVal (s.data.toList.take k))) ∧ (∀ c ∈ s.data.toList.take k, isDig c) ∧ Below w.heap.size w wr ∧ Below w1.heap.size w1 wr) (fun _ si _ => s.size - (intOf si).toNat)
        case atStart => exact ⟨0, Nat.zero_le _, rfl, NatAt.nil _, by simp, hb1, Below.refl _ _⟩
        case round =>
          obtain ⟨k, hk, rfl, hN, hD, hbw, hb1w⟩ := hrel
          have HN := Lib.hid hN
          have HD := Lib.hid hD
          clear hN hD
          by_cases hlt : k < s.size
          · have HTS := Lib.hid (take_snoc s k hlt)
            have hb := mem_byte s k hlt
            have HMB := Lib.hid hb
            clear hb
            by_cases hdig : 48 ≤ s[k].toNat ∧ s[k].toNat ≤ 57
            · obtain ⟨d1, d2⟩ := hdig
              have q1 : decide ((s[k].toNat : Int) < 48) = false := by simp; omega
              have q2 : decide ((57 : Int) < (s[k].toNat : Int)) = false := by simp; omega
              have hll : (limbs (decVal (s.data.toList.take k))).length ≤ 100 := parse_len s k (by omega)
              have Hten := Lib.hid (H10.out.below hb1w)
              have HLL := Lib.hid hll
              have hd3 : s[k].toNat - 48 < 18446744073709551616 := by omega
              have hcs : IntKind.u64.wrap (IntKind.u8.wrap ((s[k].toNat : Int) - 48)) = ((s[k].toNat - 48 : Nat) : Int) := by rw [IntKind.wrap_u64, IntKind.wrap_u8]; omega
              go_wp2
              go_region_with (first
                | (go_at_call 36; refine (mul_any _ _ _ _ _ (by exact HN.out) (by exact Hten.out) (by have := HLL.out; omega) (by decide)).mono ?_; rintro e w2 ⟨v2, rfl, h2, hb2⟩; have H2 := Lib.hid h2; clear h2)
                | (go_at_call 47; refine (of_any (s[k].toNat - 48) _ hd3).mono ?_; rintro e w3 ⟨v3, rfl, h3, hb3⟩; have H3 := Lib.hid h3; clear h3)
                | (go_at_call 41; refine (add_any _ _ _ _ _ (by exact H2.out.below hb3) (by exact H3.out) (by rw [val_limbs, val_limbs]; exact parse_len10 HLL.out) (parse_len1 (by omega))).mono ?_; rintro e w4 ⟨v4, rfl, h4, hb4⟩; have H4 := Lib.hid h4; clear h4))
              all_goals
                go_wp2
                go_roundw
                case rel =>
                  have h4 := H4.out
                  rw [val_limbs, val_limbs, val_limbs, val_limbs, ← decVal_snoc, ← HTS.out] at h4
                  have hbx := below_undrew (below_next (below_next hb2 hb3) hb4)
                  exact ⟨k + 1, by omega, by go_num, h4, by rw [HTS.out]; intro c hc; rcases List.mem_append.1 hc with hc | hc; exact HD.out c hc; rw [List.mem_singleton] at hc; subst hc; exact ⟨d1, d2⟩, hbw.trans (hbx.mono hbw.size), hb1w.trans (hbx.mono hb1w.size)⟩
                case measure => simp [intOf]; omega
            · obtain ⟨E1, E2⟩ := HSYN.out (fun h => hdig (h.2.1 _ HMB.out))
              have E1 := Lib.hid E1
              have E2 := Lib.hid E2
              by_cases hd1 : s[k].toNat < 48
              · have q1 : decide ((s[k].toNat : Int) < 48) = true := by simp; omega
                clear hdig
                go_wp2
                go_ret2
                rw [E1.out, E2.out]
                exact ⟨_, rfl, NatAt.nil _, hbw⟩
              · have q1 : decide ((s[k].toNat : Int) < 48) = false := by simp; omega
                have q2 : decide ((57 : Int) < (s[k].toNat : Int)) = true := by simp; omega
                clear hdig
                go_wp2
                go_ret2
                rw [E1.out, E2.out]
                exact ⟨_, rfl, NatAt.nil _, hbw⟩
          · have hkl : k = s.size := by omega
            have HKL := Lib.hid hkl
            clear hkl
            go_wp2
            go_ret2
            have hfull : s.data.toList.take k = s.data.toList := List.take_of_length_le (by rw [HSL.out, HKL.out]; omega)
            have h4 := HN.out
            have h5 := HD.out
            rw [hfull] at h4 h5
            have hnn : s.data.toList ≠ [] := fun e => by
              have h6 : s.data.toList.length = 0 := by rw [e]; rfl
              have h7 := HSL.out
              omega
            obtain ⟨E1, E2⟩ := HOK.out ⟨hnn, h5, fun hl => (by rw [head_byte s hsp]; intro e; injection e with e; exact HZ.out e)⟩
            rw [E1, E2]
            exact ⟨_, rfl, h4, hbw⟩
end Go.Proofs.YtoflndeonegkpaaDoor
