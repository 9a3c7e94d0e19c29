/- natural.Mul. -/
import Derived.Test.YtelcjcgalkcadaaDoorSub
namespace Go.Proofs.YtelcjcgalkcadaaDoor
open Go.RowKit

structure MulRel (w wr : World) (g : Nat) (us vs : List Nat) (R : List Nat) (i : Nat) : Prop where
  own : Own wr g R
  len : R.length = us.length + vs.length
  lim : Lim R
  prod : val R = val (us.take i) * val vs
  below : Below w.heap.size w wr
structure MulIn (w wr : World) (g : Nat) (us vs : List Nat) (R : List Nat) (i k c : Nat) : Prop where
  own : Own wr g R
  len : R.length = us.length + vs.length
  lim : Lim R
  zero : R.getD (i + vs.length) 0 = 0
  sum : val R + 4294967296 ^ (i + k) * c = val (us.take i) * val vs + 4294967296 ^ i * (us.getD i 0 * val (vs.take k))
  below : Below w.heap.size w wr
theorem MulRel.enter {w wr : World} {g : Nat} {us vs R : List Nat} {i : Nat} (h : MulRel w wr g us vs R i) (hu : Lim us) (hv : Lim vs) (hi : i < us.length) : MulIn w wr g us vs R i 0 0 :=
  ⟨h.own, h.len, h.lim, get_zero_of_lt (k := i + vs.length) (by
    rw [h.prod, Nat.pow_add]
    have h1 := val_lt (hu.take i)
    rw [List.length_take, Nat.min_eq_left (by omega)] at h1
    have h2 := val_lt hv
    exact Nat.mul_lt_mul_of_le_of_lt (Nat.le_of_lt h1) h2 (by omega)) (Nat.le_refl _), by simp [h.prod, val], h.below⟩
theorem MulIn.step {w wr : World} {g : Nat} {us vs R : List Nat} {i k c : Nat} (h : MulIn w wr g us vs R i k c) (hi : i < us.length) (hk : k < vs.length) (hg : w.heap.size ≤ g) :
    MulIn w (wr.setCell ⟨g, i + k, none⟩ (.int .u32 (((c + us.getD i 0 * vs.getD k 0 + R.getD (i + k) 0) % 4294967296 : Nat) : Int))) g us vs (R.set (i + k) ((c + us.getD i 0 * vs.getD k 0 + R.getD (i + k) 0) % 4294967296)) i (k + 1)
      ((c + us.getD i 0 * vs.getD k 0 + R.getD (i + k) 0) / 4294967296) :=
  ⟨h.own.set _ _, by rw [List.length_set, h.len], h.lim.set _ (by omega), by
    rw [List.getD_eq_getElem?_getD, List.getElem?_set_ne (by omega), ← List.getD_eq_getElem?_getD]; exact h.zero,
   mul_step (by rw [h.len]; omega) h.sum, h.below.setCell hg _⟩
theorem MulIn.leave {w wr : World} {g : Nat} {us vs R : List Nat} {i c : Nat} (h : MulIn w wr g us vs R i vs.length c) (hi : i < us.length) (hc : c < 4294967296) (hg : w.heap.size ≤ g) :
    MulRel w (wr.setCell ⟨g, i + vs.length, none⟩ (.int .u32 (c : Int))) g us vs (R.set (i + vs.length) c) (i + 1) :=
  ⟨h.own.set _ _, by rw [List.length_set, h.len], h.lim.set _ hc, mul_round (by rw [h.len]; omega) h.zero h.sum, h.below.setCell hg _⟩
theorem mul_le {x y : Nat} (hx : x < 4294967296) (hy : y < 4294967296) : x * y ≤ 18446744065119617025 := Nat.mul_le_mul (by omega : x ≤ 4294967295) (by omega : y ≤ 4294967295)

set_option maxHeartbeats 2000000 in
theorem mul_any (va vb : Value) (xs ys : List Nat) (w : World) (ha : NatAt w va xs) (hb : NatAt w vb ys) (hxl : xs.length ≤ 1000000) (hyl : ys.length ≤ 1000000) : Calls Tryd.prog 28 #[va, vb] w (GivesNat w (limbs (val xs * val ys))) := by
  have HA := Lib.hid ha
  have HB := Lib.hid hb
  have hl1 := limbs_val_length ha.lim
  have hl2 := limbs_val_length hb.lim
  clear ha hb
  go_enter Tryd.func28, Tryd.ntmps28
  go_wp2_with fail
  refine (trim_any _ _ _ HA.out).mono ?_
  rintro e w' ⟨v1, rfl, rfl, h1⟩
  have H1 := Lib.hid h1
  clear h1
  go_wp2_with fail
  refine (trim_any _ _ _ HB.out).mono ?_
  rintro e w' ⟨v2, rfl, rfl, h2⟩
  have h1 := H1.out
  have e1 : val (limbs (val xs)) = val xs := val_limbs _
  have e2 : val (limbs (val ys)) = val ys := val_limbs _
  generalize limbs (val xs) = us at *
  generalize limbs (val ys) = vs at *
  have E1 := Lib.hid e1
  have E2 := Lib.hid e2
  have Hu := Lib.hid h1
  have Hv := Lib.hid h2
  clear H1 HA HB e1 e2
  obtain ⟨A, c, rfl, g1, g2⟩ := h1.form
  obtain ⟨A2, c2, rfl, k1, k2⟩ := h2.form
  clear h1 h2
  go_wp2_with (at_make; refine wpList_make rfl _ Tryd.undN _ _ rfl _ _ _ _ (us.length + vs.length) (us.length + vs.length) rfl rfl (by omega) (by omega) (by omega) (by omega) ?_; intro w1 HO hb1 hz1; have HZ := Lib.hid hz1; clear hz1)
  go_loopw [23] (fun si wr => ∃ (i : Nat) (R : List Nat), i ≤ us.length ∧ si = .int .i64 i ∧ MulRel w wr w.heap.size us vs R i) (fun si _ => us.length - (intOf si).toNat)
  case atStart => exact ⟨0, _, Nat.zero_le _, rfl, HO.out, by simp, Lim.replicate _, by simp [val_replicate, val], hb1⟩
  case round =>
    obtain ⟨i, R, hi, rfl, M⟩ := hrel
    by_cases hlt : i < us.length
    · obtain ⟨b, o, rfl, hb, hc⟩ := Hu.out.at_ (by omega)
      have hcj : wr.cell? ⟨b, o + i, none⟩ = some (.int .u32 (us.getD i 0 : Nat)) := (M.below.cell hb).trans (hc i hlt)
      clear hc
      have hxl := Hu.out.lim.get i
      have HM := Lib.hid (M.enter Hu.out.lim Hv.out.lim hlt)
      clear M
      obtain ⟨x, hx⟩ : ∃ x : Nat, x = us.getD i 0 := ⟨_, rfl⟩
      rw [← hx] at hcj hxl
      have HX := Lib.hid hx
      clear hx
      obtain ⟨wo, rfl⟩ : ∃ wo : World, wo = wr := ⟨_, rfl⟩
      go_wp2
      go_loopw [8, 30] (fun cy sk wr => ∃ (k c : Nat) (R : List Nat), k ≤ vs.length ∧ sk = .int .i64 k ∧ cy = .int .u64 c ∧ c < 4294967296 ∧ MulIn w wr w.heap.size us vs R i k c) (fun _ sk _ => vs.length - (intOf sk).toNat)
      case atStart => exact ⟨0, 0, R, Nat.zero_le _, rfl, rfl, by omega, HM.out⟩
      case round =>
        obtain ⟨k, c, R, hk, rfl, rfl, hc, M⟩ := hrel
        by_cases hlt2 : k < vs.length
        · obtain ⟨b2, o2, rfl, hb2, hc2⟩ := Hv.out.at_ (by omega)
          have hcj2 : wr.cell? ⟨b2, o2 + k, none⟩ = some (.int .u32 (vs.getD k 0 : Nat)) := (M.below.cell hb2).trans (hc2 k hlt2)
          clear hc2
          have hcr := M.own.cell (j := i + k) (by rw [M.len]; omega)
          have hfr := M.own.frozen (i + k)
          have hyl := Hv.out.lim.get k
          have hrl := M.lim.get (i + k)
          have HS := Lib.hid (M.step hlt hlt2 (Nat.le_refl _))
          clear M
          rw [← HX.out] at HS
          obtain ⟨y, hy⟩ : ∃ x : Nat, x = vs.getD k 0 := ⟨_, rfl⟩
          obtain ⟨r, hr⟩ : ∃ x : Nat, x = R.getD (i + k) 0 := ⟨_, rfl⟩
          rw [← hy] at hcj2 hyl HS
          rw [← hr] at hcr hrl HS
          clear hy hr
          obtain ⟨p, hp⟩ : ∃ p : Nat, p = x * y := ⟨_, rfl⟩
          have hpl := mul_le hxl hyl
          rw [← hp] at hpl HS
          have hpi : (x : Int) * (y : Int) = (p : Int) := by rw [hp]; push_cast; rfl
          clear hp
          go_wp2
          have e1 : (((c + p + r) % 4294967296 : Nat) : Int) = ((c : Int) + ((p : Int) + (r : Int))) % 4294967296 := by omega
          go_roundw
          case rel => exact ⟨k + 1, (c + p + r) / 4294967296, _, by omega, by go_num, congrArg (Value.int .u64) (by omega), by omega, by rw [← e1]; exact HS.out⟩
          case measure => simp [intOf]; omega
        · have hkv : k = vs.length := by omega
          have hcr := M.own.cell (j := i + vs.length) (by rw [M.len]; omega)
          have hfr := M.own.frozen (i + vs.length)
          have hrl := M.lim.get (i + vs.length)
          rw [hkv] at M
          have HS := Lib.hid (M.leave hlt hc (Nat.le_refl _))
          obtain ⟨r, hr⟩ : ∃ x : Nat, x = R.getD (i + vs.length) 0 := ⟨_, rfl⟩
          rw [← hr] at hcr hrl
          clear hr M hkv
          go_wp2
          have e1 : (c : Int) % 4294967296 = (c : Int) := by omega
          go_roundw
          case rel => exact ⟨i + 1, _, by omega, by go_num, HS.out⟩
          case measure => simp [intOf]; omega
    · have hkl : i = us.length := by omega
      have HM := Lib.hid M
      have HN := Lib.hid (M.own.natAt M.lim (c := us.length + vs.length) (by rw [M.len]; omega) (by rw [M.len]; omega))
      rw [M.len] at HN
      have hkL : Hid (i = us.length) := hkl
      clear M hkl
      go_wp2_with (go_at_call 38; refine (trim_any _ _ _ HN.out).mono ?_; rintro e w' ⟨v3, rfl, rfl, h3⟩; have H3 := Lib.hid h3; clear h3)
      go_ret
      have hp := HM.out.prod
      rw [hkL.out, List.take_of_length_le (Nat.le_refl _)] at hp
      rw [← E1.out, ← E2.out, ← hp]
      exact ⟨_, rfl, H3.out, HM.out.below⟩
end Go.Proofs.YtelcjcgalkcadaaDoor
