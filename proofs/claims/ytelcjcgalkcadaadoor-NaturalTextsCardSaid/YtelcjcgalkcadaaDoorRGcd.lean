/- garmentref01: Gcd, Sqrt. -/
import Derived.Test.YtelcjcgalkcadaaDoorRDivMod
import Derived.Deep.LoopGhost
namespace Go.Proofs.YtelcjcgalkcadaaDoor
open Go.RowKit

set_option maxHeartbeats 1000000 in
theorem rgcd_any (va vb : Value) (xs ys : List Nat) (w : World) (ha : NatAt w va xs) (hb : NatAt w vb ys) (hxl : xs.length ≤ 100000) (hyl : ys.length ≤ 100000) : Calls Tryd.prog 31 #[va, vb] w (GivesNat w (limbs (Nat.gcd (val xs) (val ys)))) := by
  have HA := Lib.hid ha
  have HB := Lib.hid hb
  have hl1 := limbs_val_length ha.lim
  have hl2 := limbs_val_length hb.lim
  clear ha hb
  go_enter Tryd.func31, Tryd.ntmps31
  go_wp2_with fail
  refine (rnorm_any _ _ _ HA.out (by omega)).mono ?_
  rintro e w1 ⟨v1, rfl, h1, hb1⟩
  have H1 := Lib.hid h1
  clear h1
  go_wp2_with fail
  refine (rnorm_any _ _ _ (HB.out.below hb1) (by omega)).mono ?_
  rintro e w2 ⟨v2, rfl, h2, hb2⟩
  have H2 := Lib.hid h2
  clear h2
  have HB0 := Lib.hid (below_next hb1 hb2)
  have H1' := Lib.hid (H1.out.below hb2)
  have hG := HB0.out
  clear H1 hb1 hb2
  go_wp2
  go_loopg [5, 6] (val ys) (fun k sa sb wr => ∃ a b : Nat, k = b ∧ NatAt wr sa (limbs a) ∧ NatAt wr sb (limbs b) ∧ (limbs a).length ≤ 100000 ∧ (limbs b).length ≤ 100000 ∧ Nat.gcd a b = Nat.gcd (val xs) (val ys) ∧ Below w.heap.size w wr)
  case atStart => exact ⟨val xs, val ys, rfl, H1'.out, H2.out, by omega, by omega, rfl, HB0.out⟩
  case round =>
    obtain ⟨a, b, rfl, hA, hB, hla, hlb, hg, hbw⟩ := hrel
    have HA := Lib.hid hA
    have HB := Lib.hid hB
    have HG := Lib.hid hg
    clear hG hg
    obtain ⟨A, c, rfl, g1, g2⟩ := hA.form
    obtain ⟨A2, c2, rfl, k1, k2⟩ := hB.form
    clear hA hB
    by_cases h0 : gk = 0
    · subst h0
      have hz : (limbs 0).length = 0 := rfl
      go_wp2
      go_ret
      rw [← HG.out, Nat.gcd_zero_right]
      exact ⟨_, rfl, HA.out, hbw⟩
    · have hp : 0 < (limbs gk).length := List.length_pos_iff.2 (limbs_ne_nil h0)
      have ep : val (limbs gk) ≠ 0 := by rw [val_limbs]; exact h0
      have HEP := Lib.hid ep
      clear ep
      go_wp2_with fail
      refine (rdivmod_any _ _ _ _ _ HA.out HB.out (by omega) (by omega) HEP.out).mono ?_
      rintro e w3 ⟨v3, v4, rfl, h3, h4, hb3⟩
      rw [val_limbs, val_limbs] at h4
      have H4 := Lib.hid h4
      clear h3 h4
      go_wp2
      go_roundg (a % gk)
      case measure => exact Nat.mod_lt _ (by omega)
      case rel => exact ⟨gk, a % gk, rfl, HB.out.below hb3, H4.out, hlb, limbs_len_of_lt (Nat.mod_le _ _) hla, by rw [← HG.out, Nat.gcd_comm a gk, Nat.gcd_rec gk a, Nat.gcd_comm], hbw.trans (hb3.mono hbw.size)⟩

theorem limbs_mul_len {a b k j : Nat} (ha : (limbs a).length ≤ k) (hb : (limbs b).length ≤ j) : (limbs (a * b)).length ≤ k + j := by
  apply limbs_length_le
  have h1 := Nat.lt_of_lt_of_le (lt_pow_limbs a) (Nat.pow_le_pow_right (by omega) ha)
  have h2 := Nat.lt_of_lt_of_le (lt_pow_limbs b) (Nat.pow_le_pow_right (by omega) hb)
  rw [Nat.pow_add]
  rcases Nat.eq_zero_or_pos b with e | e
  · subst e; rw [Nat.mul_zero]; exact Nat.mul_pos (Nat.pow_pos (by omega)) (Nat.pow_pos (by omega))
  · exact Nat.mul_lt_mul_of_lt_of_le h1 (Nat.le_of_lt h2) (by omega)
theorem pow_two_len {k m : Nat} (h : k ≤ 32 * m) : (limbs (2 ^ k)).length ≤ 1 + m := by
  have := shift_len (b := 1) (n := k) (k := 1) (m := m) (by omega) h
  rwa [Nat.one_mul] at this

set_option maxHeartbeats 1000000 in
theorem rsqrt_any (va : Value) (xs : List Nat) (w : World) (ha : NatAt w va xs) (hxl : xs.length ≤ 100000) : Calls Tryd.prog 33 #[va] w (GivesNat w (limbs (isqrt (val xs)))) := by
  have HA := Lib.hid ha
  have HLA := Lib.hid (limbs_val_length ha.lim)
  clear ha
  go_enter Tryd.func33, Tryd.ntmps33
  go_wp2_with fail
  refine (rbits_any _ _ _ HA.out (by omega)).mono ?_
  rintro e w1 ⟨kb, hkb, hkl, rfl, hb1⟩
  have HS := Lib.hid (RRootRel.start hkb)
  obtain ⟨n, hn⟩ : ∃ n, n = kb / 2 := ⟨_, rfl⟩
  have hnl : n ≤ 3200000 := by omega
  have hni : (kb : Int) / 2 = (n : Int) := by omega
  rw [← hn] at HS
  clear hn hkb
  go_wp2
  clear hni
  go_loopw [3, 4] (fun sr sk wr => ∃ (j r : Nat), j ≤ n + 1 ∧ sk = .int .i64 ((j : Int) - 1) ∧ RRootRel (val xs) r j ∧ NatAt wr sr (limbs r) ∧ Below w.heap.size w wr) (fun _ sk _ => (intOf sk + 1).toNat)
  case atStart => exact ⟨n + 1, 0, Nat.le_refl _, by go_num, HS.out, NatAt.nil _, hb1⟩
  case round =>
    obtain ⟨j, r, hj, rfl, hR, hN, hbw⟩ := hrel
    have hrl : (limbs r).length ≤ 100000 := limbs_len_of_lt hR.le (Nat.le_trans HLA.out hxl)
    have HR := Lib.hid hR
    have HN := Lib.hid hN
    clear hR hN
    rcases Nat.eq_zero_or_pos j with hj0 | hj0
    · subst hj0
      go_wp2
      go_ret
      rw [HR.out.fin]
      exact ⟨_, rfl, HN.out, hbw⟩
    · obtain ⟨k, rfl⟩ : ∃ k, j = k + 1 := ⟨j - 1, by omega⟩
      have hki : (((k + 1 : Nat) : Int) - 1) = (k : Int) := by omega
      rw [hki]
      clear hki
      have hpl : (limbs (2 ^ k)).length ≤ 200000 := Nat.le_trans (pow_two_len (m := 100001) (by omega)) (by omega)
      have htl : (limbs (r + 2 ^ k)).length ≤ 200001 := limbs_add_len (by omega) hpl
      go_wp2_with fail
      refine (rof_any 1 _ (by omega)).mono ?_
      rintro e w2 ⟨v2, rfl, h2, hb2⟩
      have H2 := Lib.hid h2
      clear h2
      go_wp2_with fail
      refine (rshift_any _ _ k _ H2.out (by have : (limbs 1).length ≤ 1 := limbs_length_le (by omega); omega) (by omega)).mono ?_
      rintro e w3 ⟨v3, rfl, h3, hb3⟩
      rw [val_limbs, Nat.one_mul] at h3
      have H3 := Lib.hid h3
      clear h3
      go_wp2_with fail
      refine (radd_any _ _ _ _ _ ((HN.out.below hb2).below hb3) H3.out (by omega) (by omega)).mono ?_
      rintro e w4 ⟨v4, rfl, h4, hb4⟩
      rw [val_limbs, val_limbs] at h4
      have H4 := Lib.hid h4
      clear h4
      go_wp2_with fail
      refine (rmul_any _ _ _ _ _ H4.out H4.out (by omega) (by omega)).mono ?_
      rintro e w5 ⟨v5, rfl, h5, hb5⟩
      rw [val_limbs] at h5
      have H5 := Lib.hid h5
      clear h5
      have hb25 := below_next (below_next (below_next hb2 hb3) hb4) hb5
      have hbw5 : Below w.heap.size w w5 := hbw.trans (hb25.mono hbw.size)
      have HA5 := Lib.hid (HA.out.below hbw5)
      go_wp2_with fail
      refine (rcmp_below _ _ _ _ _ H5.out HA5.out).mono ?_
      rintro e w6 ⟨rfl, hb6, hz6⟩
      rw [val_limbs]
      have hbw6 : Below w.heap.size w w6 := hbw5.trans (hb6.mono hbw5.size)
      by_cases hle : (r + 2 ^ k) * (r + 2 ^ k) ≤ val xs
      · obtain ⟨oc, hoc, ho⟩ : ∃ oc : Int, ord ((r + 2 ^ k) * (r + 2 ^ k)) (val xs) = oc ∧ oc ≤ 0 := ⟨_, rfl, by unfold ord; split; omega; rw [if_neg (by omega)]; omega⟩
        rw [hoc]
        have HQ := Lib.hid (HR.out.yes hle)
        clear hoc hle
        go_wp2
        go_roundw
        case rel => exact ⟨k, _, by omega, by go_num, HQ.out, (H4.out.below hb5).below hb6, hbw6⟩
        case measure => simp [intOf]
      · rw [ord_gt (by omega)]
        have HQ := Lib.hid (HR.out.no hle)
        clear hle
        go_wp2
        go_roundw
        case rel => exact ⟨k, r, by omega, by go_num, HQ.out, (HN.out.below hb25).below hb6, hbw6⟩
        case measure => simp [intOf]
end Go.Proofs.YtelcjcgalkcadaaDoor
