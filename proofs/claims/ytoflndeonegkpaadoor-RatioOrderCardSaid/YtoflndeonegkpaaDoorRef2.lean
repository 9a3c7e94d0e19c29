/- garmentref01: small, Text. -/
import Derived.Test.YtoflndeonegkpaaDoorRef
import Derived.Test.YtoflndeonegkpaaDoorTxt
import Derived.Laws.BytesArg
import Derived.Test.YtoflndeonegkpaaDoorPar
namespace Go.Proofs.YtoflndeonegkpaaDoor
open Go.RowKit
open Go.Lib (decDigits)

/-- A number and a word of 64 bits. -/
def GivesNatU (w : World) (xs : List Nat) (r : Nat) (e : Ending) (w' : World) : Prop :=
  ∃ v, e = .returned (.tuple #[v, .int .u64 (r : Int)]) ∧ NatAt w' v xs ∧ Below w.heap.size w w'

set_option maxHeartbeats 1000000 in
theorem rsmall_any (va : Value) (us : List Nat) (d : Nat) (w : World) (ha : NatAt w va us) (hul : us.length ≤ 1000000) (hd : 0 < d) (hdl : d < 4294967296) : Calls Tryd.prog 51 #[va, .int .u64 d] w (GivesNatU w (limbs (val us / d)) (val us % d)) := by
  have Hu := Lib.hid ha
  obtain ⟨A, c, rfl, g1, g2⟩ := ha.form
  clear ha
  go_enter Tryd.func51, Tryd.ntmps51
  go_wp2_with (at_make; refine wpList_make rfl _ Tryd.undN _ _ rfl _ _ _ _ us.length us.length rfl rfl rfl rfl (Nat.le_refl _) (by omega) ?_; intro w1 HO hb1 hz1; have HZ := Lib.hid hz1; clear hz1)
  go_loopw [7, 8] (fun sr si wr => ∃ (k r : Nat) (qs : List Nat), k ≤ us.length ∧ si = .int .i64 ((k : Int) - 1) ∧ sr = .int .u64 r ∧ r < d ∧ ShortRel w wr w.heap.size us qs d k r) (fun _ si _ => (intOf si + 1).toNat)
  case atStart => exact ⟨us.length, 0, [], Nat.le_refl _, rfl, rfl, hd, by rw [List.append_nil]; exact HO.out, by simp, lim_nil, by simp [val], hb1⟩
  case round =>
    obtain ⟨k, r, qs, hk, rfl, rfl, hr, M⟩ := hrel
    rcases Nat.eq_zero_or_pos k with hk0 | hk0
    · subst hk0
      have HM := Lib.hid M
      have hl := M.len
      rw [Nat.zero_add] at hl
      have hO := M.own
      rw [List.replicate_zero, List.nil_append] at hO
      have HN := Lib.hid (hO.natAt M.lim (c := us.length) (by omega) (by omega))
      rw [hl] at HN
      have hq1 : qs.length ≤ us.length := by omega
      clear M hl hO
      go_wp2_with fail
      refine (rnorm_any _ _ _ (by exact HN.out) (by omega)).mono ?_
      rintro e w2 ⟨v2, rfl, h2, hb2⟩
      have H2 := Lib.hid h2
      clear h2
      go_wp2
      go_ret2
      have hs := HM.out.sum
      rw [List.drop_zero] at hs
      have e1 : val us / d = val qs := by rw [hs, Nat.mul_add_div hd, Nat.div_eq_of_lt hr]; omega
      have e2 : val us % d = r := by rw [hs, Nat.mul_add_mod, Nat.mod_eq_of_lt hr]
      rw [e1, e2]
      exact ⟨_, rfl, H2.out, below_next HM.out.below hb2⟩
    · obtain ⟨j, rfl⟩ : ∃ j, k = j + 1 := ⟨k - 1, by omega⟩
      rw [show ((j + 1 : Nat) : Int) - 1 = (j : Int) from by omega]
      obtain ⟨old, hold⟩ : ∃ u, wr.cell? ⟨w.heap.size, j, none⟩ = some u := ⟨_, M.own.cell (by rw [List.length_append, List.length_replicate]; omega)⟩
      have hfr := M.own.frozen j
      have hxl := Hu.out.lim.get j
      have HS := Lib.hid (M.step Hu.out.lim hr (by omega) (Nat.le_refl _))
      have HUr := Lib.hid (Hu.out.below M.below)
      clear M
      obtain ⟨x, hx⟩ : ∃ x : Nat, x = us.getD j 0 := ⟨_, rfl⟩
      rw [← hx] at hxl HS
      have HX := Lib.hid hx
      clear hx
      have hj1 : j < us.length := by omega
      obtain ⟨t, ht⟩ : ∃ t : Nat, t = r * 4294967296 + x := ⟨_, rfl⟩
      have hti : (r : Int) * 4294967296 + (x : Int) = (t : Int) := by omega
      have htl : t < 18446744073709551616 := by omega
      rw [← ht] at HS
      clear ht
      go_wp2_with fail
      refine (limb_at (by exact HUr.out) (by omega) HX.out).mono ?_
      rintro e w' ⟨rfl, rfl⟩
      go_wp2
      have e1 := quo_word (t := t) (d := d) HS.out.lim.head
      go_roundw
      case rel => exact ⟨j, t % d, _, by omega, rfl, congrArg (Value.int .u64) (Int.natCast_emod ..).symm, Nat.mod_lt _ hd, by rw [e1]; exact HS.out⟩
      case measure => simp [intOf]

/-- The digits that are written, none for 0. -/
def digs (n : Nat) : List UInt8 := if n = 0 then [] else decDigits n
theorem digs_zero : digs 0 = [] := rfl
theorem digs_step {n : Nat} (h : n ≠ 0) : digs n = digs (n / 10) ++ [UInt8.ofNat (48 + n % 10)] := by
  unfold digs
  rw [if_neg h]
  by_cases h1 : n < 10
  · rw [dec_lt h1, if_pos (by omega), Nat.mod_eq_of_lt h1]; rfl
  · rw [dec_ge h1, if_neg (by omega)]
theorem digs_nil {n : Nat} (h : digs n = []) : n = 0 := by
  unfold digs at h
  split at h
  · assumption
  · exact absurd h (dec_ne_nil n)
theorem digs_len (n : Nat) : (digs n).length ≤ 10 * (limbs n).length + 1 := by
  unfold digs
  split
  · simp
  · exact dec_len_le n

theorem Tryd.undB : Tryd.prog.underlying 70 = some (.slice 5) := by kernel_rfl
theorem Tryd.undU8 : Tryd.prog.underlying 5 = some (.int .u8) := by kernel_rfl
theorem Tryd.undStr : Tryd.prog.underlying 9 = some .string := by kernel_rfl

theorem str_cons (c : UInt8) (l : List UInt8) : (⟨#[c]⟩ : ByteArray) ++ ⟨l.toArray⟩ = ⟨([c] ++ l).toArray⟩ := by
  apply ByteArray.ext
  simp
/-- string(b), b one byte. -/
theorem run_byteStr (w : World) (g r : Nat) (hg : w.heap.size = g) : (convert 70 9 (.slice (some ⟨g, 0, none⟩) 1 1)).run Tryd.prog (w.alloc (.cells #[.int .u8 (48 + (r : Int))] 5)) = .ok (.string ⟨[UInt8.ofNat (48 + r)].toArray⟩) (w.alloc (.cells #[.int .u8 (48 + (r : Int))] 5)) := by
  subst hg
  have h := run_convert_bytes_arg (P := Tryd.prog) (w.alloc (.cells #[.int .u8 (48 + (r : Int))] 5)) _ _ Tryd.undB Tryd.undU8 w.heap.size 0 1 1 [48 + (r : Int)] rfl (fun i hi => by
    obtain rfl : i = 0 := by omega
    exact cell_new1 w _ _) _ Tryd.undStr
  rw [h]
  unfold strOfNums
  simp only [List.map_cons, List.map_nil]
  rw [show (48 + (r : Int)).toNat = 48 + r by omega]

set_option maxRecDepth 100000 in
set_option maxHeartbeats 1000000 in
theorem rtext_any (va : Value) (xs : List Nat) (w : World) (ha : NatAt w va xs) (hxl : xs.length ≤ 100000) : Calls Tryd.prog 26 #[va] w (GivesStr w (decDigits (val xs))) := by
  have HA := Lib.hid ha
  have HLA := Lib.hid (limbs_val_length ha.lim)
  clear ha
  go_enter Tryd.func26, Tryd.ntmps26
  go_wp2_with fail
  refine (rnorm_any _ _ _ HA.out (by omega)).mono ?_
  rintro e w1 ⟨v1, rfl, h1, hb1⟩
  have H1 := Lib.hid h1
  clear h1
  go_wp2
  go_loopg [3, 4] (val xs) (fun k ss sl wr => ∃ l : List UInt8, ss = .string ⟨l.toArray⟩ ∧ NatAt wr sl (limbs k) ∧ (limbs k).length ≤ 100000 ∧ digs (val xs) = digs k ++ l ∧ Below w.heap.size w wr)
  case atStart => exact ⟨[], rfl, H1.out, Nat.le_trans HLA.out hxl, by simp, hb1⟩
  case round =>
    obtain ⟨l, rfl, hN, hNl, hD, hbw⟩ := hrel
    have hll : l.length ≤ 1000001 := by
      have h1 := digs_len (val xs)
      have h2 := HLA.out
      rw [hD, List.length_append] at h1
      omega
    have HN := Lib.hid hN
    have HD := Lib.hid hD
    obtain ⟨A, c, rfl, k1, k2⟩ := hN.form
    clear hN hD
    by_cases hk0 : gk = 0
    · subst hk0
      have hz : (limbs 0).length = 0 := rfl
      have hE := HD.out
      rw [digs_zero, List.nil_append] at hE
      by_cases hl0 : l = []
      · subst hl0
        have HX := Lib.hid (digs_nil hE)
        clear hE
        go_wp2
        go_ret
        rw [HX.out, dec_lt (by omega)]
        exact ⟨rfl, hbw⟩
      · have HE : Hid (decDigits (val xs) = l) := by
          show _ = _
          rw [← hE]; unfold digs; rw [if_neg]; intro e; apply hl0; rw [← hE, e, digs_zero]
        have hlp : l.isEmpty = false := by rw [List.isEmpty_eq_false_iff]; exact hl0
        clear hE hl0
        go_wp2
        go_ret
        rw [HE.out]
        exact ⟨rfl, hbw⟩
    · have hkp : 0 < (limbs gk).length := List.length_pos_iff.2 (limbs_ne_nil hk0)
      go_wp2_with fail
      refine (rsmall_any _ _ 10 _ (by exact HN.out) (by omega) (by omega) (by omega)).mono ?_
      rintro e w2 ⟨v2, rfl, h2, hb2⟩
      rw [val_limbs] at h2 ⊢
      have H2 := Lib.hid h2
      clear h2
      have HDS := Lib.hid (digs_step hk0)
      have hrl : gk % 10 < 10 := Nat.mod_lt _ (by omega)
      obtain ⟨r, hr⟩ : ∃ r : Nat, r = gk % 10 := ⟨_, rfl⟩
      rw [← hr] at hrl HDS ⊢
      have HK0 := Lib.hid hk0
      clear hr hk0
      have hcv := run_byteStr w2 w2.heap.size r rfl
      obtain ⟨ch, hch⟩ : ∃ ch : UInt8, ch = UInt8.ofNat (48 + r) := ⟨_, rfl⟩
      rw [← hch] at hcv HDS
      clear hch
      go_wp2
      clear hcv
      go_roundg (gk / 10)
      case measure => have := HK0.out; omega
      case rel => exact ⟨[ch] ++ l, congrArg Value.string (str_cons ch l), H2.out.alloc _, limbs_len_of_lt (Nat.div_le_self _ _) hNl, by rw [HD.out, HDS.out, List.append_assoc], hbw.trans ((below_next hb2 (below_alloc0 w2 _)).mono hbw.size)⟩
end Go.Proofs.YtoflndeonegkpaaDoor

/- garmentref01: Digits, Value, Parse. -/
namespace Go.Proofs.YtoflndeonegkpaaDoor
open Go.RowKit

theorem rof10 (w : World) : Calls Tryd.prog 44 #[.int .u64 10] w (GivesNat w (limbs 10)) := rof_any 10 w (by omega)

theorem rtext_str (va : Value) (xs : List Nat) (w : World) (ha : NatAt w va xs) (hxl : xs.length ≤ 100000) : Calls Tryd.prog 26 #[va] w fun e w' => ∃ t : ByteArray, e = .returned (.string t) ∧ t.data.toList = Lib.decDigits (val xs) ∧ Below w.heap.size w w' :=
  (rtext_any va xs w ha hxl).mono fun _ _ ⟨he, hb⟩ => ⟨_, he, by simp, hb⟩

end Go.Proofs.YtoflndeonegkpaaDoor
