/- garmentref01: Digits, Value, Parse. -/
import Derived.Test.YtelcjcgalkcadaaDoorRText
import Derived.Test.YtelcjcgalkcadaaDoorParse
namespace Go.Proofs.YtelcjcgalkcadaaDoor
open Go.RowKit

set_option maxHeartbeats 2000000 in
theorem rdigits_any (s : ByteArray) (b : Bool) (w : World) (hs : s.size ≤ 9223372036854775807) (hb : b = true ↔ isNum s.data.toList) : Calls Tryd.prog 51 #[.string s] w fun e w' => e = .returned (.bool b) ∧ w = w' := by
  have HB := Lib.hid hb
  have HSL := Lib.hid (size_list s)
  clear hb
  go_enter Tryd.func51, Tryd.ntmps51
  go_wp2
  go_loop [3] (fun si => ∃ k : Nat, k ≤ s.size ∧ si = .int .i64 k ∧ ∀ c ∈ s.data.toList.take k, isDig c) (fun si => s.size - (intOf si).toNat)
  case atStart => exact ⟨0, Nat.zero_le _, rfl, by simp⟩
  case round =>
    obtain ⟨k, hk, rfl, hD⟩ := hrel
    have HD := Lib.hid hD
    clear hD
    by_cases hlt : k < s.size
    · have HTS := Lib.hid (take_snoc s k hlt)
      have HMB := Lib.hid (mem_byte s k hlt)
      by_cases hd1 : s[k].toNat < 48
      · have q1 : decide ((s[k].toNat : Int) < 48) = true := by simp; omega
        obtain rfl : b = false := by
          rw [Bool.eq_false_iff]; intro e; have := (HB.out.1 e).2.1 _ HMB.out; have := this.1; omega
        go_wp2
        go_ret
        exact ⟨rfl, rfl⟩
      · have q1 : decide ((s[k].toNat : Int) < 48) = false := by simp; omega
        by_cases hd2 : 57 < s[k].toNat
        · have q2 : decide ((57 : Int) < (s[k].toNat : Int)) = true := by simp; omega
          obtain rfl : b = false := by
            rw [Bool.eq_false_iff]; intro e; have := (HB.out.1 e).2.1 _ HMB.out; have := this.2; omega
          go_wp2
          go_ret
          exact ⟨rfl, rfl⟩
        · have q2 : decide ((57 : Int) < (s[k].toNat : Int)) = false := by simp; omega
          go_wp2
          go_round
          case rel => exact ⟨k + 1, by omega, by go_num, by rw [HTS.out]; intro c hc; rcases List.mem_append.1 hc with hc | hc; exact HD.out c hc; rw [List.mem_singleton] at hc; subst hc; exact ⟨by omega, by omega⟩⟩
          case measure => simp [intOf]; omega
    · have hall := HD.out
      rw [List.take_of_length_le (by have := HSL.out; omega)] at hall
      have HALL := Lib.hid hall
      clear hall
      by_cases h1 : s.size = 1
      · have t1 : ((s.size : Int) == 1) = true := by rw [h1]; rfl
        obtain rfl : b = true := HB.out.2 ⟨by intro e; have := HSL.out; rw [e] at this; simp at this; omega, HALL.out, fun h => by have := HSL.out; omega⟩
        have hs1 : s.size ≤ 1 := by omega
        clear h1
        go_wp2
        go_ret
        exact ⟨rfl, rfl⟩
      · have t1 : ((s.size : Int) == 1) = false := by rw [beq_eq_false_iff_ne]; omega
        by_cases h2 : 1 < s.size
        · have t2 : decide ((1 : Int) < (s.size : Int)) = true := by simp; omega
          have h0 : 0 < s.size := by omega
          have hh := head_byte s h0
          have HH := Lib.hid hh
          clear hh
          by_cases h48 : s[0].toNat = 48
          · have t3 : ((s[0].toNat : Int) != 48) = false := by rw [h48]; rfl
            obtain rfl : b = false := by
              rw [Bool.eq_false_iff]; intro e
              refine (HB.out.1 e).2.2 (by have := HSL.out; omega) ?_
              rw [HH.out]; congr 1; exact UInt8.toNat_inj.1 h48
            clear h48 h1
            go_wp2
            go_ret
            exact ⟨rfl, rfl⟩
          · have t3 : ((s[0].toNat : Int) != 48) = true := by rw [bne_iff_ne]; omega
            obtain rfl : b = true := HB.out.2 ⟨by intro e; have := HSL.out; rw [e] at this; simp at this; omega, HALL.out, fun _ e => by rw [HH.out] at e; injection e with e; exact h48 (by rw [e]; rfl)⟩
            clear h48 h1
            go_wp2
            go_ret
            exact ⟨rfl, rfl⟩
        · have t2 : decide ((1 : Int) < (s.size : Int)) = false := by simp; omega
          obtain rfl : b = false := by
            rw [Bool.eq_false_iff]; intro e
            have h3 := (HB.out.1 e).1
            have h4 := List.length_pos_iff.2 h3
            have := HSL.out
            omega
          go_wp2
          go_ret
          exact ⟨rfl, rfl⟩

theorem rof10 (w : World) : Calls Tryd.prog 17 #[.int .u64 10] w (GivesNat w (limbs 10)) := rof_any 10 w (by omega)

set_option maxRecDepth 100000 in
set_option maxHeartbeats 2000000 in
theorem rvalue_any (s : ByteArray) (w : World) (hs : s.size ≤ 400) (hd : ∀ c ∈ s.data.toList, isDig c) : Calls Tryd.prog 52 #[.string s] w (GivesNat w (limbs (decVal s.data.toList))) := by
  have HDIG := Lib.hid hd
  have HSL := Lib.hid (size_list s)
  clear hd
  go_enter Tryd.func52, Tryd.ntmps52
  go_wp2
  go_loopw [3, 4] (fun sr si wr => ∃ k : Nat, k ≤ s.size ∧ si = .int .i64 k ∧ NatAt wr sr (limbs (decVal (s.data.toList.take k))) ∧ Below w.heap.size w wr) (fun _ si _ => s.size - (intOf si).toNat)
  case atStart => exact ⟨0, Nat.zero_le _, rfl, NatAt.nil _, Below.refl _ _⟩
  case round =>
    obtain ⟨k, hk, rfl, hN, hbw⟩ := hrel
    have HN := Lib.hid hN
    clear hN
    by_cases hlt : k < s.size
    · have HTS := Lib.hid (take_snoc s k hlt)
      obtain ⟨d1, d2⟩ := HDIG.out _ (mem_byte s k hlt)
      have hll : (limbs (decVal (s.data.toList.take k))).length ≤ 100 := parse_len s k (by omega)
      have HLL := Lib.hid hll
      have hd3 : s[k].toNat - 48 < 18446744073709551616 := by omega
      have hcs : IntKind.u64.wrap (IntKind.u8.wrap ((s[k].toNat : Int) - 48)) = ((s[k].toNat - 48 : Nat) : Int) := by rw [IntKind.wrap_u64, IntKind.wrap_u8]; omega
      go_wp2
      go_region_with (first
        | (go_at_call 29; refine (rmul_any _ _ _ _ _ (by exact HN.out.below (below_undrew hb1)) (by exact H1.out) (by have := HLL.out; omega) (by decide)).mono ?_; rintro e w2 ⟨v2, rfl, h2, hb2⟩; have H2 := Lib.hid h2; clear h2)
        | (go_at_call 17; (with_reducible refine (rof10 _).mono ?_); rintro e w1 ⟨v1, rfl, h1, hb1⟩; have H1 := Lib.hid h1; clear h1)
        | (go_at_call 17; refine (rof_any (s[k].toNat - 48) _ hd3).mono ?_; rintro e w3 ⟨v3, rfl, h3, hb3⟩; have H3 := Lib.hid h3; clear h3)
        | (go_at_call 25; refine (radd_any _ _ _ _ _ (by exact H2.out.below hb3) (by exact H3.out) (by rw [val_limbs, val_limbs]; exact parse_len10 HLL.out) (parse_len1 (by omega))).mono ?_; rintro e w4 ⟨v4, rfl, h4, hb4⟩; have H4 := Lib.hid h4; clear h4))
      all_goals
        go_wp2
        go_roundw
        case rel =>
          have h4 := H4.out
          rw [val_limbs, val_limbs, val_limbs, val_limbs, ← decVal_snoc, ← HTS.out] at h4
          have hbx := below_undrew (below_next (below_next (below_next hb1 hb2) hb3) hb4)
          exact ⟨k + 1, by omega, by go_num, h4, hbw.trans (hbx.mono hbw.size)⟩
        case measure => simp [intOf]; omega
    · go_wp2
      go_ret
      have h := HN.out
      rw [List.take_of_length_le (by have := HSL.out; omega)] at h
      exact ⟨_, rfl, h, hbw⟩

set_option maxHeartbeats 1000000 in
theorem rparse_any (s : ByteArray) (w : World) (hs : s.size ≤ 9223372036854775807) : Calls Tryd.prog 35 #[.string s] w (GivesNatE w (parseNum s.data.toList) (parseErr s.data.toList)) := by
  have hsl := size_list s
  by_cases h200 : 200 < s.size
  · have e1 : parseNum s.data.toList = [] := by unfold parseNum; rw [if_neg (by omega)]
    have e2 : parseErr s.data.toList = 5 := by unfold parseErr; rw [if_neg (by omega)]
    have E1 := Lib.hid e1
    have E2 := Lib.hid e2
    clear hsl e1 e2
    go_enter Tryd.func35, Tryd.ntmps35
    go_wp2
    go_ret2
    rw [E1.out, E2.out]
    exact ⟨_, rfl, NatAt.nil _, Below.refl _ _⟩
  · have hB200 : decide ((200 : Int) < (s.size : Int)) = false := by simp; omega
    by_cases hn : isNum s.data.toList
    · have E1 : Hid (parseNum s.data.toList = limbs (decVal s.data.toList)) := by show _ = _; unfold parseNum; rw [if_pos ⟨by omega, hn⟩]
      have E2 : Hid (parseErr s.data.toList = 0) := by show _ = _; unfold parseErr; rw [if_pos (by omega), if_pos hn]
      have HN := Lib.hid hn
      clear hn hsl
      go_enter Tryd.func35, Tryd.ntmps35
      go_wp2_with fail
      refine (rdigits_any s true _ hs (by simp only [true_iff]; exact HN.out)).mono ?_
      rintro e w' ⟨rfl, rfl⟩
      go_wp2_with fail
      refine (rvalue_any s _ (by omega) HN.out.2.1).mono ?_
      rintro e w1 ⟨v1, rfl, h1, hb1⟩
      have H1 := Lib.hid h1
      clear h1
      go_wp2
      go_ret2
      rw [E1.out, E2.out]
      exact ⟨_, rfl, H1.out, hb1⟩
    · have E1 : Hid (parseNum s.data.toList = []) := by show _ = _; unfold parseNum; rw [if_neg (fun e => hn e.2)]
      have E2 : Hid (parseErr s.data.toList = 2) := by show _ = _; unfold parseErr; rw [if_pos (by omega), if_neg hn]
      have HN := Lib.hid hn
      clear hn hsl
      go_enter Tryd.func35, Tryd.ntmps35
      go_wp2_with fail
      refine (rdigits_any s false _ hs (by constructor; intro e; cases e; intro e; exact absurd e HN.out)).mono ?_
      rintro e w' ⟨rfl, rfl⟩
      go_wp2
      go_ret2
      rw [E1.out, E2.out]
      exact ⟨_, rfl, NatAt.nil _, Below.refl _ _⟩
end Go.Proofs.YtelcjcgalkcadaaDoor
