/- natural.Sqrt. -/
import Derived.Test.YtelcjcgalkcadaaDoorGcd
namespace Go.Proofs.YtelcjcgalkcadaaDoor
open Go.RowKit

theorem lt_pow_limbs (n : Nat) : n < 4294967296 ^ (limbs n).length := by
  have := val_lt (lim_limbs n)
  rwa [val_limbs] at this
theorem limbs_add_len {a b k : Nat} (ha : (limbs a).length ≤ k) (hb : (limbs b).length ≤ k) : (limbs (a + b)).length ≤ k + 1 := by
  apply limbs_length_le
  have h1 := Nat.lt_of_lt_of_le (lt_pow_limbs a) (Nat.pow_le_pow_right (by omega) ha)
  have h2 := Nat.lt_of_lt_of_le (lt_pow_limbs b) (Nat.pow_le_pow_right (by omega) hb)
  rw [pow_step]
  omega
/-- The row of the first guess. -/
theorem pow_row (k : Nat) : (List.replicate (k / 32 + 1) 0).set (k / 32) (2 ^ (k % 32)) = limbs (2 ^ k) := by
  have e : (List.replicate (k / 32 + 1) 0).set (k / 32) (2 ^ (k % 32)) = List.replicate (k / 32) 0 ++ [2 ^ (k % 32)] := by
    have := set_front (qs := []) (k := k / 32) (d := 2 ^ (k % 32))
    simpa using this
  have hp : 2 ^ (k % 32) < 4294967296 := Nat.lt_of_lt_of_le (Nat.pow_lt_pow_right (by omega) (Nat.mod_lt k (by omega : 0 < 32))) (by omega)
  have hl : Lim (List.replicate (k / 32) 0 ++ [2 ^ (k % 32)]) := (Lim.replicate _).append (Lim.cons hp lim_nil)
  have ht := trimL_snoc (List.replicate (k / 32) 0) (x := 2 ^ (k % 32)) (by have := Nat.pow_pos (n := k % 32) (by omega : 0 < 2); omega)
  rw [e, ← ht, trimL_eq hl, val_snoc, val_replicate, List.length_replicate, Nat.zero_add]
  congr 1
  rw [show (4294967296 : Nat) = 2 ^ 32 from rfl, ← Nat.pow_mul, ← Nat.pow_add]
  congr 1
  omega
theorem bits_of {us : List Nat} {n : Nat} (hu : Lim us) (hl : us.length = n + 1) (h0 : us.getD n 0 ≠ 0) : val us < 2 ^ (32 * n + Lib.bitLen (us.getD n 0)) := by
  have hx := hu.get n
  obtain ⟨b1, b2, b3⟩ := bitLen_bounds 32 _ hx h0 (by omega)
  have h1 := val_last hl
  have h2 := val_lt (hu.take n)
  rw [List.length_take, Nat.min_eq_left (by omega)] at h2
  rw [Nat.pow_add, Nat.pow_mul, show (2 : Nat) ^ 32 = 4294967296 from rfl]
  generalize us.getD n 0 = v at *
  have h3 : 4294967296 ^ n * (v + 1) ≤ 4294967296 ^ n * 2 ^ Lib.bitLen v := Nat.mul_le_mul_left _ b3
  rw [Nat.mul_add] at h3
  omega
theorem first_guess {A n : Nat} (h : A < 2 ^ n) : isqrt A ≤ 2 ^ ((n + 1) / 2) := by
  have h1 := isqrt_le A
  have h2 : isqrt A * isqrt A < 2 ^ ((n + 1) / 2) * 2 ^ ((n + 1) / 2) := by
    rw [← Nat.pow_add]
    exact Nat.lt_of_lt_of_le (Nat.lt_of_le_of_lt h1 h) (Nat.pow_le_pow_right (by omega) (by omega))
  exact Nat.le_of_lt (sq_lt h2)
theorem isqrt_pos {A : Nat} (h : A ≠ 0) : 1 ≤ isqrt A := le_isqrt (by omega)

set_option maxRecDepth 100000 in
set_option maxHeartbeats 2000000 in
theorem sqrt_any (va : Value) (xs : List Nat) (w : World) (ha : NatAt w va xs) (hxl : xs.length ≤ 100000) : Calls Tryd.prog 32 #[va] w (GivesNat w (limbs (isqrt (val xs)))) := by
  have HA := Lib.hid ha
  have hl1 := limbs_val_length ha.lim
  clear ha
  go_enter Tryd.func32, Tryd.ntmps32
  go_wp2_with fail
  refine (trim_any _ _ _ HA.out).mono ?_
  rintro e w' ⟨v1, rfl, rfl, h1⟩
  by_cases h0 : val xs = 0
  · have H0 := Lib.hid h0
    rw [h0, limbs_zero] at h1
    obtain ⟨A, c, rfl, g1, g2⟩ := h1.form
    clear h0 h1 g1 g2
    go_wp2
    go_ret
    rw [H0.out]
    exact ⟨_, rfl, NatAt.nil _, Below.refl _ _⟩
  · have hlast := limbs_last h0
    have hlen : 0 < (limbs (val xs)).length := List.length_pos_iff.2 (limbs_ne_nil h0)
    obtain ⟨n, hn⟩ : ∃ n, (limbs (val xs)).length = n + 1 := ⟨(limbs (val xs)).length - 1, by omega⟩
    rw [hn, Nat.add_sub_cancel] at hlast
    have HBT := Lib.hid (bits_of h1.lim hn hlast)
    rw [val_limbs] at HBT
    have HLAST := Lib.hid hlast
    have H1 := Lib.hid h1
    have HN := Lib.hid hn
    have H0 := Lib.hid h0
    obtain ⟨A, c, rfl, g1, g2⟩ := h1.form
    obtain ⟨b, o, rfl, hb, hc⟩ := h1.at_ (by omega)
    have hcn := hc n (by omega)
    have htl := h1.lim.get n
    rw [hn] at g1 g2 hl1 ⊢
    clear h1 hc hlast hn hlen h0
    obtain ⟨t, ht⟩ : ∃ t : Nat, t = (limbs (val xs)).getD n 0 := ⟨_, rfl⟩
    rw [← ht] at hcn htl HBT HLAST
    clear ht
    have hbl := bitLen32 htl
    go_wp2_with fail
    refine (len32_any t _ htl).mono ?_
    rintro e w1 ⟨rfl, n1, hw1⟩
    have hb1 : Below w.heap.size w w1 := by rw [hw1]; exact below_drew0 w n1
    clear hw1
    obtain ⟨bl, hbb⟩ : ∃ bl : Nat, bl = Lib.bitLen t := ⟨_, rfl⟩
    rw [← hbb] at hbl HBT ⊢
    clear hbb
    go_wp2_with (at_make; refine wpList_make rfl _ Tryd.undN _ _ rfl _ _ _ _ ((32 * n + bl + 1) / 2 / 32 + 1) ((32 * n + bl + 1) / 2 / 32 + 1) rfl rfl (by omega) (by omega) (Nat.le_refl _) (by omega) ?_; intro w2 HO hb2 hz2; have HZ := Lib.hid hz2; clear hz2; have hcx := HO.out.cell (j := (32 * n + bl + 1) / 2 / 32) (by rw [List.length_replicate]; omega); have hfx := HO.out.frozen ((32 * n + bl + 1) / 2 / 32))
    have hp32 : 2 ^ ((32 * n + bl + 1) / 2 % 32) < 4294967296 := Nat.lt_of_lt_of_le (Nat.pow_lt_pow_right (by omega) (Nat.mod_lt _ (by omega : 0 < 32))) (by omega)
    have e1 : (2 : Int) ^ ((32 * n + bl + 1) / 2 % 32) % 4294967296 = ((2 ^ ((32 * n + bl + 1) / 2 % 32) : Nat) : Int) := by
      have e2 : (2 : Int) ^ ((32 * n + bl + 1) / 2 % 32) = ((2 ^ ((32 * n + bl + 1) / 2 % 32) : Nat) : Int) := by rw [Int.natCast_pow]; rfl
      rw [e2]
      generalize 2 ^ ((32 * n + bl + 1) / 2 % 32) = p at *
      omega
    have HX : Hid (NatAt (w2.setCell ⟨w1.heap.size, (32 * n + bl + 1) / 2 / 32, none⟩ (.int .u32 (2 ^ ((32 * n + bl + 1) / 2 % 32) % 4294967296))) (.slice (some ⟨w1.heap.size, 0, none⟩) ((32 * n + bl + 1) / 2 / 32 + 1) ((32 * n + bl + 1) / 2 / 32 + 1)) (limbs (2 ^ ((32 * n + bl + 1) / 2)))) := by
      have h2 := HO.out.set ((32 * n + bl + 1) / 2 / 32) (2 ^ ((32 * n + bl + 1) / 2 % 32))
      rw [← e1] at h2
      have hl : ((List.replicate ((32 * n + bl + 1) / 2 / 32 + 1) 0).set ((32 * n + bl + 1) / 2 / 32) (2 ^ ((32 * n + bl + 1) / 2 % 32))).length = (32 * n + bl + 1) / 2 / 32 + 1 := by simp
      have h3 := h2.natAt ((Lim.replicate _).set _ hp32) (c := (32 * n + bl + 1) / 2 / 32 + 1) (by omega) (by omega)
      rw [hl, pow_row] at h3
      exact h3
    have HBW : Hid (Below w.heap.size w (w2.setCell ⟨w1.heap.size, (32 * n + bl + 1) / 2 / 32, none⟩ (.int .u32 (2 ^ ((32 * n + bl + 1) / 2 % 32) % 4294967296)))) := (below_next hb1 hb2).setCell hb1.size _
    have HXL : Hid ((limbs (2 ^ ((32 * n + bl + 1) / 2))).length ≤ 100001) := by
      show _ ≤ _
      rw [← pow_row, List.length_set, List.length_replicate]; omega
    have HGS := Lib.hid (first_guess HBT.out)
    have HXP : Hid (0 < 2 ^ ((32 * n + bl + 1) / 2)) := Nat.pow_pos (by omega)
    generalize 2 ^ ((32 * n + bl + 1) / 2) = X0 at *
    go_loopg [5] X0 (fun k sx wr => k ≠ 0 ∧ NatAt wr sx (limbs k) ∧ (limbs k).length ≤ 100001 ∧ isqrt (val xs) ≤ k ∧ Below w.heap.size w wr)
    case atStart => exact ⟨by have := HXP.out; omega, HX.out, HXL.out, HGS.out, HBW.out⟩
    case round =>
      obtain ⟨hk0, hX, hXl, hge, hbw⟩ := hrel
      have HX1 := Lib.hid hX
      have HGE := Lib.hid hge
      have HK0 : Hid (val (limbs gk) ≠ 0) := by rw [val_limbs]; exact hk0
      have HA1 : Hid (NatAt w (Value.slice (some ⟨b, o, none⟩) (n + 1) c) (limbs (val xs))) := by have := H1.out; rw [HN.out] at this; exact this
      have hAl : (limbs (val xs)).length ≤ 100000 := by rw [HN.out]; omega
      clear hX hge hcx hfx HX HBW HXL HGS HXP e1 hp32
      go_wp2_with fail
      refine (divmod_any _ _ _ _ _ (HA1.out.below hbw) HX1.out (by omega) (by omega) HK0.out).mono ?_
      rintro e w3 ⟨v3, v4, rfl, h3, h4, hb3⟩
      rw [val_limbs, val_limbs] at h3
      have H3 := Lib.hid h3
      have hql : (limbs (val xs / gk)).length ≤ 100000 := limbs_len_of_lt (Nat.div_le_self _ _) hAl
      clear h3 h4
      go_wp2_with fail
      refine (add_any _ _ _ _ _ (HX1.out.below hb3) H3.out (by omega) (by omega)).mono ?_
      rintro e w4 ⟨v5, rfl, h5, hb4⟩
      rw [val_limbs, val_limbs] at h5
      have H5 := Lib.hid h5
      have hsl : (limbs (gk + val xs / gk)).length ≤ 100002 := limbs_add_len (by omega) (by omega)
      clear h5
      go_wp2_with fail
      refine (right_any _ _ 1 _ H5.out (by omega) (by omega)).mono ?_
      rintro e w5 ⟨v6, rfl, h6, hb5⟩
      rw [val_limbs, Nat.pow_one] at h6
      have H6 := Lib.hid h6
      clear h6
      have HX5 := Lib.hid (((HX1.out.below hb3).below hb4).below hb5)
      have hb35 := below_next (below_next hb3 hb4) hb5
      go_wp2_with fail
      refine (cmp_below _ _ _ _ _ H6.out HX5.out).mono ?_
      rintro e w6 ⟨rfl, hb6, hz6⟩
      rw [val_limbs, val_limbs]
      have hb06 : Below w.heap.size w w6 := hbw.trans ((below_next hb35 hb6).mono hbw.size)
      by_cases hst : gk ≤ (gk + val xs / gk) / 2
      · have hor : (0 : Int) ≤ ord ((gk + val xs / gk) / 2) gk := by unfold ord; rw [if_neg (by omega)]; split <;> omega
        have HST := Lib.hid hst
        clear hst
        obtain ⟨oc, hoc⟩ : ∃ oc, oc = ord ((gk + val xs / gk) / 2) gk := ⟨_, rfl⟩
        rw [← hoc] at hor ⊢
        clear hoc
        go_wp2
        go_ret
        rw [← newton_stop (by omega) HGE.out HST.out]
        exact ⟨_, rfl, HX5.out.below hb6, hb06⟩
      · have HST := Lib.hid hst
        rw [ord_lt (by omega)]
        clear hst
        go_wp2
        go_roundg ((gk + val xs / gk) / 2)
        case measure => have := HST.out; omega
        case rel => exact ⟨by have h1 := isqrt_pos H0.out; have h2 := newton_ge (a := val xs) (x := gk) (by omega); omega, H6.out.below hb6, limbs_len_of_lt (by have := HST.out; omega) hXl, newton_ge (by omega), hb06⟩
end Go.Proofs.YtelcjcgalkcadaaDoor
