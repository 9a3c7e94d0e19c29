/- natural.Gcd. -/
import Derived.Test.YtoflndeonegkpaaDoorDiv
namespace Go.Proofs.YtoflndeonegkpaaDoor
open Go.RowKit

set_option maxHeartbeats 1000000 in
theorem gcd_any (va vb : Value) (xs ys : List Nat) (w : World) (ha : NatAt w va xs) (hb : NatAt w vb ys) (hxl : xs.length ≤ 500000) (hyl : ys.length ≤ 500000) : Calls Tryd.prog 55 #[va, vb] w (GivesNat w (limbs (Nat.gcd (val xs) (val ys)))) := by
  have HA := Lib.hid ha
  have HB := Lib.hid hb
  have hl1 := limbs_val_length ha.lim
  have hl2 := limbs_val_length hb.lim
  clear ha hb
  go_enter Tryd.func55, Tryd.ntmps55
  go_wp2_with fail
  refine (norm_any _ _ _ HA.out (by omega)).mono ?_
  rintro e w1 ⟨v1, rfl, h1, hb1⟩
  have H1 := Lib.hid h1
  clear h1
  go_wp2_with fail
  refine (norm_any _ _ _ (HB.out.below hb1) (by omega)).mono ?_
  rintro e w2 ⟨v2, rfl, h2, hb2⟩
  have H2 := Lib.hid h2
  clear h2
  have HB0 := Lib.hid (below_next hb1 hb2)
  have H1' := Lib.hid (H1.out.below hb2)
  have hG := HB0.out
  clear H1 hb1 hb2
  go_wp2
  go_loopg [0, 1] (val ys) (fun k sa sb wr => ∃ a b : Nat, k = b ∧ NatAt wr sa (limbs a) ∧ NatAt wr sb (limbs b) ∧ (limbs a).length ≤ 500000 ∧ (limbs b).length ≤ 500000 ∧ Nat.gcd a b = Nat.gcd (val xs) (val ys) ∧ Below w.heap.size w wr)
  case atStart => exact ⟨val xs, val ys, rfl, H1'.out, H2.out, by omega, by omega, rfl, HB0.out⟩
  case round =>
    obtain ⟨a, b, rfl, hA, hB, hla, hlb, hg, hbw⟩ := hrel
    have HA := Lib.hid hA
    have HB := Lib.hid hB
    have HG := Lib.hid hg
    clear hG hg
    obtain ⟨A, c, rfl, g1, g2⟩ := hA.form
    obtain ⟨A2, c2, rfl, k1, k2⟩ := hB.form
    clear hA hB
    by_cases h0 : gk = 0
    · subst h0
      have hz : (limbs 0).length = 0 := rfl
      go_wp2
      go_ret
      rw [← HG.out, Nat.gcd_zero_right]
      exact ⟨_, rfl, HA.out, hbw⟩
    · have hp : 0 < (limbs gk).length := List.length_pos_iff.2 (limbs_ne_nil h0)
      have ep : val (limbs gk) ≠ 0 := by rw [val_limbs]; exact h0
      have HEP := Lib.hid ep
      clear ep
      go_wp2_with fail
      refine (divmod_any _ _ _ _ _ HA.out HB.out (by omega) (by omega) HEP.out).mono ?_
      rintro e w3 ⟨v3, v4, rfl, h3, h4, hb3⟩
      rw [val_limbs, val_limbs] at h4
      have H4 := Lib.hid h4
      clear h3 h4
      go_wp2
      go_roundg (a % gk)
      case measure => exact Nat.mod_lt _ (by omega)
      case rel => exact ⟨gk, a % gk, rfl, HB.out.below hb3, H4.out, hlb, limbs_len_of_lt (Nat.mod_le _ _) hla, by rw [← HG.out, Nat.gcd_comm a gk, Nat.gcd_rec gk a, Nat.gcd_comm], hbw.trans (hb3.mono hbw.size)⟩
end Go.Proofs.YtoflndeonegkpaaDoor
