/- garmentref01.Mul. -/
import Derived.Test.YtelcjcgalkcadaaDoorRSub
import Derived.Test.YtelcjcgalkcadaaDoorMul
namespace Go.Proofs.YtelcjcgalkcadaaDoor
open Go.RowKit

theorem MulIn.natAt {w wr : World} {g : Nat} {us vs R : List Nat} {i k c : Nat} (h : MulIn w wr g us vs R i k c) (hl : us.length + vs.length ≤ 9223372036854775807) : NatAt wr (.slice (some ⟨g, 0, none⟩) (us.length + vs.length) (us.length + vs.length)) R := by
  have := h.own.natAt h.lim (c := us.length + vs.length) (by rw [h.len]; omega) (by rw [h.len]; omega)
  rw [h.len] at this
  exact this

set_option maxHeartbeats 2000000 in
theorem rmul_any (va vb : Value) (us vs : List Nat) (w : World) (ha : NatAt w va us) (hb : NatAt w vb vs) (hul : us.length ≤ 1000000) (hvl : vs.length ≤ 1000000) : Calls Tryd.prog 29 #[va, vb] w (GivesNat w (limbs (val us * val vs))) := by
  have HA := Lib.hid ha
  have HB := Lib.hid hb
  obtain ⟨A, c, rfl, g1, g2⟩ := ha.form
  obtain ⟨A2, c2, rfl, k1, k2⟩ := hb.form
  clear ha hb
  go_enter Tryd.func29, Tryd.ntmps29
  go_wp2_with (at_make; refine wpList_make rfl _ Tryd.undN _ _ rfl _ _ _ _ (us.length + vs.length) (us.length + vs.length) rfl rfl (by omega) (by omega) (by omega) (by omega) ?_; intro w1 HO hb1 hz1; have HZ := Lib.hid hz1; clear hz1)
  go_loopw [6] (fun si wr => ∃ (i : Nat) (R : List Nat), i ≤ us.length ∧ si = .int .i64 i ∧ MulRel w wr w.heap.size us vs R i) (fun si _ => us.length - (intOf si).toNat)
  case atStart => exact ⟨0, _, Nat.zero_le _, rfl, HO.out, by simp, Lim.replicate _, by simp [val_replicate, val], hb1⟩
  case round =>
    obtain ⟨i, R, hi, rfl, M⟩ := hrel
    by_cases hlt : i < us.length
    · have hxl := HA.out.lim.get i
      have HM := Lib.hid (M.enter HA.out.lim HB.out.lim hlt)
      clear M
      obtain ⟨x, hx⟩ : ∃ x : Nat, x = us.getD i 0 := ⟨_, rfl⟩
      rw [← hx] at hxl
      have HX := Lib.hid hx
      clear hx
      obtain ⟨wo, rfl⟩ : ∃ wo : World, wo = wr := ⟨_, rfl⟩
      go_wp2
      go_loopw [7, 8] (fun cy sk wr => ∃ (k c : Nat) (R : List Nat), k ≤ vs.length ∧ sk = .int .i64 k ∧ cy = .int .u64 c ∧ c < 4294967296 ∧ MulIn w wr w.heap.size us vs R i k c) (fun _ sk _ => vs.length - (intOf sk).toNat)
      case atStart => exact ⟨0, 0, R, Nat.zero_le _, rfl, rfl, by omega, HM.out⟩
      case round =>
        obtain ⟨k, c, R, hk, rfl, rfl, hc, M⟩ := hrel
        by_cases hlt2 : k < vs.length
        · have HAr := Lib.hid (HA.out.below M.below)
          have HBr := Lib.hid (HB.out.below M.below)
          have HRr := Lib.hid (M.natAt (by omega))
          have hcr := M.own.cell (j := i + k) (by rw [M.len]; omega)
          have hfr := M.own.frozen (i + k)
          have hyl := HB.out.lim.get k
          have hrl := M.lim.get (i + k)
          have HS := Lib.hid (M.step hlt hlt2 (Nat.le_refl _))
          clear M
          rw [← HX.out] at HS
          obtain ⟨y, hy⟩ : ∃ x : Nat, x = vs.getD k 0 := ⟨_, rfl⟩
          obtain ⟨r, hr⟩ : ∃ x : Nat, x = R.getD (i + k) 0 := ⟨_, rfl⟩
          rw [← hy] at hyl HS
          rw [← hr] at hcr hrl HS
          have HY := Lib.hid hy
          have HR := Lib.hid hr
          clear hy hr
          obtain ⟨p, hp⟩ : ∃ p : Nat, p = x * y := ⟨_, rfl⟩
          have hpl := mul_le hxl hyl
          rw [← hp] at hpl HS
          have hpi : (x : Int) * (y : Int) = (p : Int) := by rw [hp]; push_cast; rfl
          clear hp
          go_wp2_with fail
          refine (limb_at (by exact HAr.out) (by omega) HX.out).mono ?_
          rintro e w' ⟨rfl, rfl⟩
          go_wp2_with fail
          refine (limb_at (by exact HBr.out) (by omega) HY.out).mono ?_
          rintro e w' ⟨rfl, rfl⟩
          go_wp2_with fail
          refine (limb_at (by exact HRr.out) (by omega) HR.out).mono ?_
          rintro e w' ⟨rfl, rfl⟩
          go_wp2
          have e1 : (((c + p + r) % 4294967296 : Nat) : Int) = ((p : Int) + (r : Int) + (c : Int)) % 4294967296 := by omega
          go_roundw
          case rel => exact ⟨k + 1, (c + p + r) / 4294967296, _, by omega, by go_num, congrArg (Value.int .u64) (by omega), by omega, by rw [← e1]; exact HS.out⟩
          case measure => simp [intOf]; omega
        · have hkv : k = vs.length := by omega
          have hcr := M.own.cell (j := i + vs.length) (by rw [M.len]; omega)
          have hfr := M.own.frozen (i + vs.length)
          have hrl := M.lim.get (i + vs.length)
          rw [hkv] at M
          have HS := Lib.hid (M.leave hlt hc (Nat.le_refl _))
          obtain ⟨r, hr⟩ : ∃ x : Nat, x = R.getD (i + vs.length) 0 := ⟨_, rfl⟩
          rw [← hr] at hcr hrl
          clear hr M hkv
          go_wp2
          have e1 : (c : Int) % 4294967296 = (c : Int) := by omega
          go_roundw
          case rel => exact ⟨i + 1, _, by omega, by go_num, HS.out⟩
          case measure => simp [intOf]; omega
    · have hkl : i = us.length := by omega
      have HM := Lib.hid M
      have HN := Lib.hid (M.own.natAt M.lim (c := us.length + vs.length) (by rw [M.len]; omega) (by rw [M.len]; omega))
      have hRl := M.len
      rw [M.len] at HN
      have hkL : Hid (i = us.length) := hkl
      have HRl := Lib.hid hRl
      clear M hkl hRl
      go_wp2_with fail
      refine (rnorm_any _ _ _ (by exact HN.out) (by rw [HRl.out]; omega)).mono ?_
      rintro e w' ⟨v3, rfl, h3, hb3⟩
      have H3 := Lib.hid h3
      clear h3
      go_wp2
      go_ret
      have hp := HM.out.prod
      rw [hkL.out, List.take_of_length_le (Nat.le_refl _)] at hp
      rw [← hp]
      exact ⟨_, rfl, H3.out, below_next HM.out.below hb3⟩
end Go.Proofs.YtelcjcgalkcadaaDoor
