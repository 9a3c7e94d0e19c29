/- math/bits.Len32 and LeadingZeros32. -/
import Derived.Test.YtelcjcgalkcadaaDoorCmp
import Derived.Test.YtelcjcgalkcadaaDoorLen
namespace Go.Proofs.YtelcjcgalkcadaaDoor
open Go.RowKit

theorem bitLen_bounds : ∀ (k x : Nat), x < 2 ^ k → x ≠ 0 → k ≤ 64 → 1 ≤ Lib.bitLen x ∧ 2 ^ (Lib.bitLen x - 1) ≤ x ∧ x < 2 ^ Lib.bitLen x
  | 0, x, h, h0, _ => by exfalso; simp at h; omega
  | k + 1, x, h, h0, hk => by
    have h64 : x < 2 ^ 64 := Nat.lt_of_lt_of_le h (Nat.pow_le_pow_right (by omega) hk)
    rw [Lib.bitLen_half x h0 h64]
    by_cases h2 : x / 2 = 0
    · have : Lib.bitLen (x / 2) = 0 := by rw [h2]; rfl
      rw [this]
      have : x = 1 := by omega
      subst this
      simp
    · obtain ⟨i1, i2, i3⟩ := bitLen_bounds k (x / 2) (by rw [Nat.pow_succ] at h; omega) h2 (by omega)
      generalize Lib.bitLen (x / 2) = b at *
      obtain ⟨c, rfl⟩ : ∃ c, b = c + 1 := ⟨b - 1, by omega⟩
      refine ⟨by omega, ?_, ?_⟩
      · rw [show 1 + (c + 1) - 1 = c + 1 by omega, Nat.pow_succ]
        rw [show c + 1 - 1 = c by omega] at i2
        omega
      · rw [show 1 + (c + 1) = (c + 1) + 1 by omega, Nat.pow_succ]
        omega
theorem bitLen32 {x : Nat} (h : x < 4294967296) : Lib.bitLen x ≤ 32 := Lib.bitLen_le x 32 (by omega) h

theorem len32_any (x : Nat) (w : World) (h : x < 4294967296) : Calls Tryd.prog 50 #[.int .u32 x] w (Says w (.int .i64 (Lib.bitLen x : Nat))) :=
  (len32_nat x w (by omega) (by omega)).mono fun _ _ ⟨he, hw⟩ => ⟨by rw [he, Int.toNat_natCast], 0, hw⟩
set_option maxHeartbeats 400000 in
theorem lz32_any (x : Nat) (w : World) (h : x < 4294967296) : Calls Tryd.prog 43 #[.int .u32 x] w (Says w (.int .i64 ((32 - Lib.bitLen x : Nat) : Int))) := by
  have hb := bitLen32 h
  go_enter Tryd.func43, Tryd.ntmps43
  go_wp2_with fail
  refine (len32_any x _ h).mono ?_
  rintro e w' ⟨rfl, n, rfl⟩
  generalize Lib.bitLen x = b at *
  go_wp2
  go_ret
  refine ⟨?_, n, rfl⟩
  have e : ((32 - b : Nat) : Int) = 32 - (b : Int) := by omega
  rw [e]
  rfl
end Go.Proofs.YtelcjcgalkcadaaDoor
