/- garmentref01.Add. -/
import Derived.Test.YtelcjcgalkcadaaDoorRCmp
import Derived.Test.YtelcjcgalkcadaaDoorAdd
namespace Go.Proofs.YtelcjcgalkcadaaDoor
open Go.RowKit

set_option maxHeartbeats 1000000 in
theorem radd_any (va vb : Value) (us vs : List Nat) (w : World) (ha : NatAt w va us) (hb : NatAt w vb vs) (hul : us.length ≤ 1000000) (hvl : vs.length ≤ 1000000) : Calls Tryd.prog 25 #[va, vb] w (GivesNat w (limbs (val us + val vs))) := by
  have HA := Lib.hid ha
  have HB := Lib.hid hb
  obtain ⟨A, c, rfl, g1, g2⟩ := ha.form
  obtain ⟨A2, c2, rfl, k1, k2⟩ := hb.form
  clear ha hb
  by_cases hmx : us.length < vs.length
  · have hM : us.length ≤ vs.length ∧ vs.length ≤ vs.length := by omega
    go_enter Tryd.func25, Tryd.ntmps25
    go_wp2
    go_loopw [5, 6, 7] (fun r cy i wr => ∃ (k c : Nat) (rs : List Nat), k ≤ vs.length + 1 ∧ (k = vs.length + 1 → c = 0) ∧ i = .int .i64 k ∧ cy = .int .u64 c ∧ c ≤ 1 ∧ AddRel w wr us vs r rs k c) (fun _ _ i _ => vs.length + 1 - (intOf i).toNat)
    case atStart => exact ⟨0, 0, [], by omega, by omega, rfl, rfl, by omega, Row.nil _ _, rfl, lim_nil, rfl, Below.refl _ _⟩
    case round =>
      obtain ⟨k, c, rs, hk, hkc, rfl, rfl, hc1, R⟩ := hrel
      have hsz := R.below.size
      have HAr := Lib.hid (HA.out.below R.below)
      have HBr := Lib.hid (HB.out.below R.below)
      have HS := Lib.hid (R.step (HA.out.lim.get k) (HB.out.lim.get k) hc1)
      have HC := Lib.hid (add_carry hc1 (HA.out.lim.get k) (HB.out.lim.get k))
      have HR := Lib.hid R
      have hrl := R.len
      clear R
      obtain ⟨x, hx⟩ : ∃ x : Nat, x = us.getD k 0 := ⟨_, rfl⟩
      obtain ⟨y, hy⟩ : ∃ x : Nat, x = vs.getD k 0 := ⟨_, rfl⟩
      have HX := Lib.hid hx
      have HY := Lib.hid hy
      have hxl : x < 4294967296 := by rw [hx]; exact HA.out.lim.get _
      have hyl : y < 4294967296 := by rw [hy]; exact HB.out.lim.get _
      have hx0 : us.length ≤ k → x = 0 := fun h => by rw [hx]; exact getD_zero h
      have hy0 : vs.length ≤ k → y = 0 := fun h => by rw [hy]; exact getD_zero h
      rw [← hx, ← hy] at HS HC
      clear hx hy
      by_cases hlt : k < vs.length
      · have H0 := Lib.hid hx0
        have H1 := Lib.hid hy0
        clear hx0 hy0
        go_wp2_with fail
        refine (limb_at (by exact HAr.out) (by omega) HX.out).mono ?_
        rintro e w' ⟨rfl, rfl⟩
        go_wp2_with fail
        refine (limb_at (by exact HBr.out) (by omega) HY.out).mono ?_
        rintro e w' ⟨rfl, rfl⟩
        go_wp2_with (at_builtin; refine wpList_append1 rfl (.tmp 31) (.tmp 35) _ Tryd.undN rfl w.heap.size _ rs rfl (HR.out.row.alloc _) _ _ ((c + x + y) % 4294967296) rfl (by omega) (cell_new1 _ _ _) (by omega) (by simp; omega) ?_; intro v' w2 HRow hb2)
        go_roundw
        case rel => exact ⟨k + 1, (c + x + y) / 4294967296, rs ++ [(c + x + y) % 4294967296], by omega, fun e => by omega, by go_num, by go_num, HC.out, HS.out v' w2 HRow.out ((Below.refl _ _).alloc hsz _ |>.trans hb2)⟩
        case measure => simp [intOf]; omega
      · rcases Nat.eq_zero_or_pos c with hc0 | hc0
        · subst hc0
          go_wp2_with fail
          refine (rnorm_any _ _ _ (by exact HR.out.row.natAt HR.out.lim) (by omega)).mono ?_
          rintro e w' ⟨v3, rfl, h3, hb3⟩
          have H3 := Lib.hid h3
          clear h3
          go_wp2
          go_ret
          refine ⟨_, rfl, ?_, below_next HR.out.below hb3⟩
          have e := HR.out.sum
          rw [List.take_of_length_le (by omega), List.take_of_length_le (by omega), Nat.mul_zero, Nat.add_zero] at e
          rw [← e]
          exact H3.out
        · have hx1 := Lib.hid (hx0 (by omega))
          have hy1 := Lib.hid (hy0 (by omega))
          clear hx0 hy0
          go_wp2_with fail
          refine (limb_at (by exact HAr.out) (by omega) HX.out).mono ?_
          rintro e w' ⟨rfl, rfl⟩
          go_wp2_with fail
          refine (limb_at (by exact HBr.out) (by omega) HY.out).mono ?_
          rintro e w' ⟨rfl, rfl⟩
          go_wp2_with (at_builtin; refine wpList_append1 rfl (.tmp 31) (.tmp 35) _ Tryd.undN rfl w.heap.size _ rs rfl (HR.out.row.alloc _) _ _ ((c + x + y) % 4294967296) rfl (by omega) (cell_new1 _ _ _) (by omega) (by simp; omega) ?_; intro v' w2 HRow hb2)
          go_roundw
          case rel => exact ⟨k + 1, (c + x + y) / 4294967296, rs ++ [(c + x + y) % 4294967296], by omega, fun e => by have := hx1.out; have := hy1.out; omega, by go_num, by go_num, HC.out, HS.out v' w2 HRow.out ((Below.refl _ _).alloc hsz _ |>.trans hb2)⟩
          case measure => simp [intOf]; omega
  · have hM : us.length ≤ us.length ∧ vs.length ≤ us.length := by omega
    go_enter Tryd.func25, Tryd.ntmps25
    go_wp2
    go_loopw [5, 6, 7] (fun r cy i wr => ∃ (k c : Nat) (rs : List Nat), k ≤ us.length + 1 ∧ (k = us.length + 1 → c = 0) ∧ i = .int .i64 k ∧ cy = .int .u64 c ∧ c ≤ 1 ∧ AddRel w wr us vs r rs k c) (fun _ _ i _ => us.length + 1 - (intOf i).toNat)
    case atStart => exact ⟨0, 0, [], by omega, by omega, rfl, rfl, by omega, Row.nil _ _, rfl, lim_nil, rfl, Below.refl _ _⟩
    case round =>
      obtain ⟨k, c, rs, hk, hkc, rfl, rfl, hc1, R⟩ := hrel
      have hsz := R.below.size
      have HAr := Lib.hid (HA.out.below R.below)
      have HBr := Lib.hid (HB.out.below R.below)
      have HS := Lib.hid (R.step (HA.out.lim.get k) (HB.out.lim.get k) hc1)
      have HC := Lib.hid (add_carry hc1 (HA.out.lim.get k) (HB.out.lim.get k))
      have HR := Lib.hid R
      have hrl := R.len
      clear R
      obtain ⟨x, hx⟩ : ∃ x : Nat, x = us.getD k 0 := ⟨_, rfl⟩
      obtain ⟨y, hy⟩ : ∃ x : Nat, x = vs.getD k 0 := ⟨_, rfl⟩
      have HX := Lib.hid hx
      have HY := Lib.hid hy
      have hxl : x < 4294967296 := by rw [hx]; exact HA.out.lim.get _
      have hyl : y < 4294967296 := by rw [hy]; exact HB.out.lim.get _
      have hx0 : us.length ≤ k → x = 0 := fun h => by rw [hx]; exact getD_zero h
      have hy0 : vs.length ≤ k → y = 0 := fun h => by rw [hy]; exact getD_zero h
      rw [← hx, ← hy] at HS HC
      clear hx hy
      by_cases hlt : k < us.length
      · have H0 := Lib.hid hx0
        have H1 := Lib.hid hy0
        clear hx0 hy0
        go_wp2_with fail
        refine (limb_at (by exact HAr.out) (by omega) HX.out).mono ?_
        rintro e w' ⟨rfl, rfl⟩
        go_wp2_with fail
        refine (limb_at (by exact HBr.out) (by omega) HY.out).mono ?_
        rintro e w' ⟨rfl, rfl⟩
        go_wp2_with (at_builtin; refine wpList_append1 rfl (.tmp 31) (.tmp 35) _ Tryd.undN rfl w.heap.size _ rs rfl (HR.out.row.alloc _) _ _ ((c + x + y) % 4294967296) rfl (by omega) (cell_new1 _ _ _) (by omega) (by simp; omega) ?_; intro v' w2 HRow hb2)
        go_roundw
        case rel => exact ⟨k + 1, (c + x + y) / 4294967296, rs ++ [(c + x + y) % 4294967296], by omega, fun e => by omega, by go_num, by go_num, HC.out, HS.out v' w2 HRow.out ((Below.refl _ _).alloc hsz _ |>.trans hb2)⟩
        case measure => simp [intOf]; omega
      · rcases Nat.eq_zero_or_pos c with hc0 | hc0
        · subst hc0
          go_wp2_with fail
          refine (rnorm_any _ _ _ (by exact HR.out.row.natAt HR.out.lim) (by omega)).mono ?_
          rintro e w' ⟨v3, rfl, h3, hb3⟩
          have H3 := Lib.hid h3
          clear h3
          go_wp2
          go_ret
          refine ⟨_, rfl, ?_, below_next HR.out.below hb3⟩
          have e := HR.out.sum
          rw [List.take_of_length_le (by omega), List.take_of_length_le (by omega), Nat.mul_zero, Nat.add_zero] at e
          rw [← e]
          exact H3.out
        · have hx1 := Lib.hid (hx0 (by omega))
          have hy1 := Lib.hid (hy0 (by omega))
          clear hx0 hy0
          go_wp2_with fail
          refine (limb_at (by exact HAr.out) (by omega) HX.out).mono ?_
          rintro e w' ⟨rfl, rfl⟩
          go_wp2_with fail
          refine (limb_at (by exact HBr.out) (by omega) HY.out).mono ?_
          rintro e w' ⟨rfl, rfl⟩
          go_wp2_with (at_builtin; refine wpList_append1 rfl (.tmp 31) (.tmp 35) _ Tryd.undN rfl w.heap.size _ rs rfl (HR.out.row.alloc _) _ _ ((c + x + y) % 4294967296) rfl (by omega) (cell_new1 _ _ _) (by omega) (by simp; omega) ?_; intro v' w2 HRow hb2)
          go_roundw
          case rel => exact ⟨k + 1, (c + x + y) / 4294967296, rs ++ [(c + x + y) % 4294967296], by omega, fun e => by have := hx1.out; have := hy1.out; omega, by go_num, by go_num, HC.out, HS.out v' w2 HRow.out ((Below.refl _ _).alloc hsz _ |>.trans hb2)⟩
          case measure => simp [intOf]; omega
end Go.Proofs.YtelcjcgalkcadaaDoor
