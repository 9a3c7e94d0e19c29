/- garmentref01.Bits. -/
import Derived.Test.YtelcjcgalkcadaaDoorRCmp
import Derived.Test.YtelcjcgalkcadaaDoorRNum
import Derived.Test.YtelcjcgalkcadaaDoorSqrt
namespace Go.Proofs.YtelcjcgalkcadaaDoor
open Go.RowKit

/-- The number of binary digits. -/
def GivesBits (w : World) (n L : Nat) (e : Ending) (w' : World) : Prop := ∃ k : Nat, BitsOf n k ∧ k ≤ 32 * L ∧ e = .returned (.int .i64 k) ∧ Below w.heap.size w w'
/-- What holds at the head of each round. -/
def BitsRel (n x : Nat) (sn st : Value) : Prop := ∃ m t : Nat, t ≤ x ∧ sn = .int .i64 ((32 * n + m : Nat) : Int) ∧ st = .int .u32 (t : Int) ∧ TopRel x t m

set_option maxHeartbeats 1000000 in
theorem rbits_any (va : Value) (xs : List Nat) (w : World) (ha : NatAt w va xs) (hxl : xs.length ≤ 1000000) : Calls Tryd.prog 47 #[va] w (GivesBits w (val xs) xs.length) := by
  have HA := Lib.hid ha
  have hll := limbs_val_length ha.lim
  clear ha
  go_enter Tryd.func47, Tryd.ntmps47
  go_wp2_with fail
  refine (rnorm_any _ _ _ HA.out (by omega)).mono ?_
  rintro e w1 ⟨v1, rfl, h1, hb1⟩
  by_cases h0 : val xs = 0
  · have H0 := Lib.hid h0
    rw [h0, limbs_zero] at h1
    obtain ⟨A, c, rfl, g1, g2⟩ := h1.form
    clear h0 h1 g1 g2
    go_wp2
    go_ret
    rw [H0.out]
    exact ⟨0, .none, by omega, rfl, hb1⟩
  · have hlast := limbs_last h0
    have hlen : 0 < (limbs (val xs)).length := List.length_pos_iff.2 (limbs_ne_nil h0)
    obtain ⟨n, hn⟩ : ∃ n, (limbs (val xs)).length = n + 1 := ⟨(limbs (val xs)).length - 1, by omega⟩
    rw [hn, Nat.add_sub_cancel] at hlast
    have HBT := Lib.hid (fun k => bits_val (k := k) h1.lim hn hlast)
    rw [val_limbs] at HBT
    have HLAST := Lib.hid hlast
    obtain ⟨A, c, rfl, g1, g2⟩ := h1.form
    obtain ⟨b, o, rfl, hb, hc⟩ := h1.at_ (by omega)
    have hcn := hc n (by omega)
    have htl := h1.lim.get n
    rw [hn] at g1 g2 hll ⊢
    clear h1 hc hlast hn hlen h0
    obtain ⟨t, ht⟩ : ∃ t : Nat, t = (limbs (val xs)).getD n 0 := ⟨_, rfl⟩
    rw [← ht] at hcn htl HBT HLAST
    clear ht
    go_wp2
    go_loop [4, 5] (fun sn st => BitsRel n t sn st) (fun _ st => (intOf st).toNat)
    case atStart => exact ⟨0, t, Nat.le_refl _, by go_num, rfl, TopRel.start t⟩
    case round =>
      obtain ⟨m, t', htt, rfl, rfl, R⟩ := hrel
      have hm := R.few htl
      have HR := Lib.hid R
      clear R
      rcases Nat.eq_zero_or_pos t' with h0 | h0
      · subst h0
        go_wp2
        go_ret
        exact ⟨_, HBT.out _ HR.out.fin, by omega, rfl, hb1⟩
      · go_wp2
        go_round
        case rel => exact ⟨m + 1, t' / 2, by omega, by go_num, by go_num, HR.out.step (by omega)⟩
        case measure => simp [intOf]; omega
end Go.Proofs.YtelcjcgalkcadaaDoor
