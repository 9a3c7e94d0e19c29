/- garmentref01: Shift, Half. -/
import Derived.Test.YtelcjcgalkcadaaDoorRSub
import Derived.Test.YtelcjcgalkcadaaDoorShift
namespace Go.Proofs.YtelcjcgalkcadaaDoor
open Go.RowKit

theorem Row.own {w : World} {base g : Nat} {xs : List Nat} (h : Own w g xs) (hb : base ≤ g) (hm : xs.length ≤ 9223372036854775807) : Row w base (.slice (some ⟨g, 0, none⟩) xs.length xs.length) xs := by
  refine ⟨by simp, .inr ⟨g, xs.length, _, rfl, hb, h, Nat.le_refl _, by unfold maxLen; omega, by simp, by simp [List.take_of_length_le]⟩⟩
theorem Row.zeros {w : World} {base g m : Nat} (h : Own w g (List.replicate m 0)) (hb : base ≤ g) (hm : m ≤ 9223372036854775807) : Row w base (.slice (some ⟨g, 0, none⟩) m m) (List.replicate m 0) := by
  have := Row.own h hb (by simpa using hm)
  rw [List.length_replicate] at this
  exact this

structure RShRel (w wr : World) (us : List Nat) (r : Value) (ts : List Nat) (d s k c : Nat) : Prop where
  row : Row wr w.heap.size r (List.replicate d 0 ++ ts)
  len : ts.length = k
  lim : Lim ts
  low : c < 2 ^ s
  sum : val ts + 4294967296 ^ k * c = 2 ^ s * val (us.take k)
  below : Below w.heap.size w wr
theorem rsh_fits {x c s : Nat} (hx : x < 4294967296) (hs : s < 32) (hc : c < 2 ^ s) : 2 ^ s * x + c < 18446744073709551616 ∧ (2 ^ s * x + c) / 4294967296 < 2 ^ s := by
  have h1 := shl_le hx hs
  have h2s : 2 ^ s ≤ 2 ^ 31 := Nat.pow_le_pow_right (by omega) (by omega)
  refine ⟨by omega, Nat.div_lt_of_lt_mul ?_⟩
  have : 2 ^ s * x + 2 ^ s ≤ 2 ^ s * 4294967296 := by rw [← Nat.mul_succ]; exact Nat.mul_le_mul_left _ hx
  rw [Nat.mul_comm 4294967296]
  omega
theorem RShRel.step {w wr : World} {us ts : List Nat} {r : Value} {d s k c : Nat} (h : RShRel w wr us r ts d s k c) (hu : Lim us) (hs : s < 32) (v' : Value) (w2 : World)
    (hr : Row w2 w.heap.size v' (List.replicate d 0 ++ ts ++ [(2 ^ s * us.getD k 0 + c) % 4294967296])) (hb : Below w.heap.size wr w2) :
    RShRel w w2 us v' (ts ++ [(2 ^ s * us.getD k 0 + c) % 4294967296]) d s (k + 1) ((2 ^ s * us.getD k 0 + c) / 4294967296) := by
  refine ⟨by rw [← List.append_assoc]; exact hr, by simp [h.len], h.lim.append (Lim.cons (by omega) lim_nil), (rsh_fits (hu.get k) hs h.low).2, ?_, h.below.trans hb⟩
  have h1 := h.sum
  have h2 := Nat.div_add_mod (2 ^ s * us.getD k 0 + c) 4294967296
  generalize (2 ^ s * us.getD k 0 + c) / 4294967296 = q at *
  generalize (2 ^ s * us.getD k 0 + c) % 4294967296 = m at *
  rw [val_snoc, h.len, val_take_next, Nat.mul_add, ← h1, pow_step, Nat.add_assoc, Nat.add_assoc, Nat.mul_assoc, ← Nat.mul_add, show m + 4294967296 * q = 2 ^ s * us.getD k 0 + c by omega, Nat.mul_add, Nat.add_comm (4294967296 ^ k * _), Nat.mul_left_comm]
theorem RShRel.fin {w wr : World} {us ts : List Nat} {r : Value} {d s k c : Nat} (h : RShRel w wr us r ts d s k c) (hu : Lim us) (hk : k = us.length + 1) (hs : s < 32) : val (List.replicate d 0 ++ ts) = val us * 2 ^ (32 * d + s) := by
  have h1 := h.sum
  have h2 : 2 ^ s * val us < 4294967296 ^ k := by
    rw [hk, pow_step, Nat.mul_comm]
    have : 2 ^ s ≤ 2 ^ 32 := Nat.pow_le_pow_right (by omega) (by omega)
    exact Nat.mul_lt_mul_of_lt_of_le (val_lt hu) this (by omega)
  rw [List.take_of_length_le (by omega)] at h1
  have hc : c = 0 := by
    rcases Nat.eq_zero_or_pos c with e | e
    · exact e
    · have : 4294967296 ^ k * 1 ≤ 4294967296 ^ k * c := Nat.mul_le_mul_left _ e
      omega
  rw [hc, Nat.mul_zero, Nat.add_zero] at h1
  rw [val_append, val_replicate, List.length_replicate, h1, Nat.zero_add, Nat.pow_add, Nat.pow_mul, show (2 ^ 32 : Nat) = 4294967296 from rfl, ← Nat.mul_assoc, Nat.mul_comm]

set_option maxHeartbeats 1000000 in
theorem rshift_row (va : Value) (us : List Nat) (n : Nat) (w : World) (ha : NatAt w va us) (hul : us.length ≤ 1000000) (hn : n ≤ 100000000) : Calls Tryd.prog 48 #[va, .int .i64 n] w (GivesRow w (limbs (val us * 2 ^ n))) := by
  have HA := Lib.hid ha
  obtain ⟨A, cc, rfl, g1, g2⟩ := ha.form
  clear ha
  obtain ⟨d, hd⟩ : ∃ d, d = n / 32 := ⟨_, rfl⟩
  obtain ⟨s, hs⟩ : ∃ s, s = n % 32 := ⟨_, rfl⟩
  have HN : Hid (32 * d + s = n) := by rw [hd, hs]; exact Nat.div_add_mod _ _
  have hds : (n : Int) / 32 = (d : Int) := by omega
  have hss : (n : Int) % 32 = (s : Int) := by omega
  have hs32 : s < 32 := by omega
  have hdl : d ≤ 10000000 := by omega
  clear hd hs
  go_enter Tryd.func48, Tryd.ntmps48
  go_wp2_with (at_make; refine wpList_make rfl _ Tryd.undN _ _ rfl _ _ _ _ d d rfl rfl (by omega) (by omega) (Nat.le_refl _) (by omega) ?_; intro w1 HO hb1 hz1; have HZ := Lib.hid hz1; clear hz1)
  go_loopw [5, 6, 7] (fun r cy i wr => ∃ (k c : Nat) (ts : List Nat), k ≤ us.length + 1 ∧ i = .int .i64 k ∧ cy = .int .u64 c ∧ RShRel w wr us r ts d s k c) (fun _ _ i _ => us.length + 1 - (intOf i).toNat)
  case atStart => exact ⟨0, 0, [], Nat.zero_le _, rfl, rfl, by rw [List.append_nil]; exact Row.zeros HO.out (Nat.le_refl _) (by omega), rfl, lim_nil, Nat.pow_pos (by omega), by simp [val], hb1⟩
  case round =>
    obtain ⟨k, c, ts, hk, rfl, rfl, R⟩ := hrel
    have hsz := R.below.size
    have hrl : (List.replicate d 0 ++ ts).length = d + k := by rw [List.length_append, List.length_replicate, R.len]
    have HRl := Lib.hid hrl
    clear hrl
    by_cases hlt : k ≤ us.length
    · have HAr := Lib.hid (HA.out.below R.below)
      have hxl := HA.out.lim.get k
      have HS := Lib.hid (R.step HA.out.lim hs32)
      have hf := (rsh_fits hxl hs32 R.low).1
      have hsh := shl_eq (x := us.getD k 0) s
      have HR := Lib.hid R
      clear R
      obtain ⟨x, hx⟩ : ∃ x : Nat, x = us.getD k 0 := ⟨_, rfl⟩
      rw [← hx] at hxl HS hf hsh
      have HX := Lib.hid hx
      clear hx
      obtain ⟨P, hP⟩ : ∃ P : Nat, P = 2 ^ s * x := ⟨_, rfl⟩
      rw [← hP] at HS hf hsh
      clear hP
      go_wp2_with fail
      refine (limb_at (by exact HAr.out) (by omega) HX.out).mono ?_
      rintro e w' ⟨rfl, rfl⟩
      go_wp2_with (at_builtin; refine wpList_append1 rfl (.tmp 27) (.tmp 31) _ Tryd.undN rfl w.heap.size _ (List.replicate d 0 ++ ts) rfl (HR.out.row.alloc _) _ _ ((P + c) % 4294967296) rfl (by omega) (cell_new1 _ _ _) (by rw [HRl.out]; omega) (by simp; omega) ?_; intro v' w2 HRow hb2)
      go_roundw
      case rel => exact ⟨k + 1, (P + c) / 4294967296, ts ++ [(P + c) % 4294967296], by omega, by go_num, by go_num, HS.out v' w2 HRow.out ((Below.refl _ _).alloc hsz _ |>.trans hb2)⟩
      case measure => simp [intOf]; omega
    · have HR := Lib.hid R
      clear R
      have hlim : Lim (List.replicate d 0 ++ ts) := (Lim.replicate d).append HR.out.lim
      have HL := Lib.hid hlim
      clear hlim
      go_wp2_with fail
      refine (rnorm_row _ _ _ (by exact HR.out.row.natAt HL.out) (by rw [HRl.out]; omega)).mono ?_
      rintro e w' ⟨v3, rfl, h3, hb3⟩
      have H3 := Lib.hid h3
      clear h3
      go_wp2
      go_ret
      refine ⟨_, rfl, ?_, below_next HR.out.below hb3⟩
      have e := HR.out.fin HA.out.lim (by omega) hs32
      rw [HN.out] at e
      rw [← e]
      exact H3.out.lower HR.out.below.size

theorem rshift_any (va : Value) (us : List Nat) (n : Nat) (w : World) (ha : NatAt w va us) (hul : us.length ≤ 1000000) (hn : n ≤ 100000000) : Calls Tryd.prog 48 #[va, .int .i64 n] w (GivesNat w (limbs (val us * 2 ^ n))) :=
  (rshift_row va us n w ha hul hn).mono fun _ _ h => h.nat

structure HalfRel (w wr : World) (us : List Nat) (r : Value) (rs : List Nat) (k : Nat) : Prop where
  row : Row wr w.heap.size r rs
  len : rs.length = k
  lim : Lim rs
  sum : 2 * val rs + val us % 2 = val (us.take k) + 4294967296 ^ k * (us.getD k 0 % 2)
  below : Below w.heap.size w wr
theorem HalfRel.step {w wr : World} {us rs : List Nat} {r : Value} {k : Nat} (h : HalfRel w wr us r rs k) (hu : Lim us) (v' : Value) (w2 : World)
    (hr : Row w2 w.heap.size v' (rs ++ [us.getD k 0 / 2 + us.getD (k + 1) 0 % 2 * 2147483648])) (hb : Below w.heap.size wr w2) :
    HalfRel w w2 us v' (rs ++ [us.getD k 0 / 2 + us.getD (k + 1) 0 % 2 * 2147483648]) (k + 1) := by
  have hx := hu.get k
  refine ⟨hr, by simp [h.len], h.lim.append (Lim.cons (by omega) lim_nil), ?_, h.below.trans hb⟩
  have h1 := h.sum
  have e1 : us.getD k 0 = 2 * (us.getD k 0 / 2) + us.getD k 0 % 2 := by omega
  rw [val_take_next, val_snoc, h.len, pow_step]
  generalize us.getD k 0 / 2 = a at *
  generalize us.getD k 0 % 2 = b at *
  generalize us.getD (k + 1) 0 % 2 = c at *
  generalize us.getD k 0 = x at *
  subst e1
  generalize 4294967296 ^ k = B at *
  have e2 : B * (a + c * 2147483648) = B * a + B * c * 2147483648 := by rw [Nat.mul_add, Nat.mul_assoc]
  have e3 : B * (2 * a + b) = 2 * (B * a) + B * b := by rw [Nat.mul_add, Nat.mul_left_comm]
  have e4 : B * 4294967296 * c = B * c * 4294967296 := Nat.mul_right_comm _ _ _
  omega
theorem val_mod_two (us : List Nat) : val us % 2 = us.getD 0 0 % 2 := by
  cases us with
  | nil => rfl
  | cons x xs => simp only [val, List.getD_cons_zero]; omega

set_option maxHeartbeats 1000000 in
theorem rhalf_row (va : Value) (us : List Nat) (w : World) (ha : NatAt w va us) (hul : us.length ≤ 1000000) : Calls Tryd.prog 49 #[va] w (GivesRow w (limbs (val us / 2))) := by
  have HA := Lib.hid ha
  obtain ⟨A, cc, rfl, g1, g2⟩ := ha.form
  clear ha
  go_enter Tryd.func49, Tryd.ntmps49
  go_wp2
  go_loopw [3, 4] (fun r i wr => ∃ (k : Nat) (rs : List Nat), k ≤ us.length ∧ i = .int .i64 k ∧ HalfRel w wr us r rs k) (fun _ i _ => us.length - (intOf i).toNat)
  case atStart => exact ⟨0, [], Nat.zero_le _, rfl, Row.nil _ _, rfl, lim_nil, by rw [val_mod_two]; simp [val], Below.refl _ _⟩
  case round =>
    obtain ⟨k, rs, hk, rfl, R⟩ := hrel
    have hsz := R.below.size
    have hrl := R.len
    by_cases hlt : k < us.length
    · have HAr := Lib.hid (HA.out.below R.below)
      have hxl := HA.out.lim.get k
      have hyl := HA.out.lim.get (k + 1)
      have HS := Lib.hid (R.step HA.out.lim)
      have HR := Lib.hid R
      clear R
      obtain ⟨x, hx⟩ : ∃ x : Nat, x = us.getD k 0 := ⟨_, rfl⟩
      obtain ⟨y, hy⟩ : ∃ x : Nat, x = us.getD (k + 1) 0 := ⟨_, rfl⟩
      rw [← hx] at hxl HS
      rw [← hy] at hyl HS
      have HX := Lib.hid hx
      have HY := Lib.hid hy
      clear hx hy
      go_wp2_with fail
      refine (limb_at (by exact HAr.out) (by omega) HX.out).mono ?_
      rintro e w' ⟨rfl, rfl⟩
      go_wp2_with fail
      refine (limb_at (k := k + 1) (by exact HAr.out) (by omega) HY.out).mono ?_
      rintro e w' ⟨rfl, rfl⟩
      go_wp2_with (at_builtin; refine wpList_append1 rfl (.tmp 11) (.tmp 24) _ Tryd.undN rfl w.heap.size _ rs rfl (HR.out.row.alloc _) _ _ (x / 2 + y % 2 * 2147483648) rfl (by omega) (cell_new1 _ _ _) (by omega) (by simp; omega) ?_; intro v' w2 HRow hb2)
      go_roundw
      case rel => exact ⟨k + 1, _, by omega, by go_num, HS.out v' w2 HRow.out ((Below.refl _ _).alloc hsz _ |>.trans hb2)⟩
      case measure => simp [intOf]; omega
    · have HR := Lib.hid R
      clear R
      go_wp2_with fail
      refine (rnorm_row _ _ _ (by exact HR.out.row.natAt HR.out.lim) (by omega)).mono ?_
      rintro e w' ⟨v3, rfl, h3, hb3⟩
      have H3 := Lib.hid h3
      clear h3
      go_wp2
      go_ret
      refine ⟨_, rfl, ?_, below_next HR.out.below hb3⟩
      have e := HR.out.sum
      rw [List.take_of_length_le (by omega), getD_zero (by omega)] at e
      rw [show val us / 2 = val rs by omega]
      exact H3.out.lower HR.out.below.size
theorem rhalf_any (va : Value) (us : List Nat) (w : World) (ha : NatAt w va us) (hul : us.length ≤ 1000000) : Calls Tryd.prog 49 #[va] w (GivesNat w (limbs (val us / 2))) :=
  (rhalf_row va us w ha hul).mono fun _ _ h => h.nat
end Go.Proofs.YtelcjcgalkcadaaDoor
