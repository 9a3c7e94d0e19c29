/- garmentref01.Same and limb. -/
import Derived.Test.YtelcjcgalkcadaaDoorCmp2
namespace Go.Proofs.YtelcjcgalkcadaaDoor
open Go.RowKit

theorem take_eq_next {xs ys : List Nat} {k : Nat} (hk : k < xs.length) (hk2 : k < ys.length) (h : xs.take k = ys.take k) (he : xs.getD k 0 = ys.getD k 0) : xs.take (k + 1) = ys.take (k + 1) := by
  rw [List.take_succ_eq_append_getElem hk, List.take_succ_eq_append_getElem hk2, h]
  rw [List.getD_eq_getElem?_getD, List.getD_eq_getElem?_getD, List.getElem?_eq_getElem hk, List.getElem?_eq_getElem hk2, Option.getD_some, Option.getD_some] at he
  rw [he]
set_option maxHeartbeats 1000000 in
theorem same_any (va vb : Value) (us vs : List Nat) (w : World) (ha : NatAt w va us) (hb : NatAt w vb vs) : Calls Tryd.prog 15 #[va, vb] w (Says w (.bool (decide (us = vs)))) := by
  have Hu := Lib.hid ha
  have Hv := Lib.hid hb
  obtain ⟨A, c, rfl, g1, g2⟩ := ha.form
  obtain ⟨A2, c2, rfl, k1, k2⟩ := hb.form
  clear ha hb
  by_cases hl : us.length = vs.length
  · have hlb : ((us.length : Int) != (vs.length : Int)) = false := by rw [hl]; simp
    have HE := Lib.hid hl
    have hle : us.length ≤ vs.length := by omega
    have hle2 : vs.length ≤ us.length := by omega
    clear hl
    go_enter Tryd.func15, Tryd.ntmps15
    go_wp2
    go_loopw [5] (fun s wr => ∃ (k m : Nat), k ≤ us.length ∧ s = .int .i64 k ∧ wr = w.drewN m ∧ us.take k = vs.take k) (fun s _ => us.length - (intOf s).toNat)
    case atStart => exact ⟨0, 0, Nat.zero_le _, rfl, rfl, rfl⟩
    case round =>
      obtain ⟨k, m, hk, rfl, hw, ht⟩ := hrel
      have HW := Lib.hid hw
      have HT := Lib.hid ht
      clear ht
      by_cases hlt : k < us.length
      · obtain ⟨b, o, rfl, hb, hc⟩ := Hu.out.at_ (by omega)
        obtain ⟨b2, o2, rfl, hb2, hc2⟩ := Hv.out.at_ (by omega)
        have hcj : wr.cell? ⟨b, o + k, none⟩ = some (.int .u32 (us.getD k 0 : Nat)) := by rw [hw]; exact hc k hlt
        have hcj2 : wr.cell? ⟨b2, o2 + k, none⟩ = some (.int .u32 (vs.getD k 0 : Nat)) := by rw [hw]; exact hc2 k (by omega)
        clear hc hc2 hw
        obtain ⟨x, hx⟩ : ∃ x : Nat, x = us.getD k 0 := ⟨_, rfl⟩
        obtain ⟨y, hy⟩ : ∃ x : Nat, x = vs.getD k 0 := ⟨_, rfl⟩
        rw [← hx] at hcj
        rw [← hy] at hcj2
        have HX := Lib.hid hx
        have HY := Lib.hid hy
        clear hx hy
        have hlt2 : k < vs.length := by omega
        by_cases hxy : x = y
        · have hnb : ((x : Int) != (y : Int)) = false := by rw [hxy]; simp
          have HXY := Lib.hid hxy
          clear hxy
          go_wp2
          go_quiet (fail)
          go_wp2
          go_roundw
          case rel => exact ⟨k + 1, m + nq, by omega, by go_num, by rw [HW.out, World.drewN_drewN], take_eq_next hlt hlt2 HT.out (by rw [← HX.out, ← HY.out, HXY.out])⟩
          case measure => simp [intOf]; omega
        · have hnb : ((x : Int) != (y : Int)) = true := by rw [bne_iff_ne]; omega
          have HXY := Lib.hid hxy
          clear hxy
          go_wp2
          go_quiet (fail)
          go_wp2
          go_ret
          have hd : decide (us = vs) = false := by
            rw [decide_eq_false_iff_not]; intro e
            exact HXY.out (by rw [HX.out, HY.out, e])
          rw [hd]
          exact ⟨rfl, m + nq, by rw [HW.out, World.drewN_drewN]⟩
      · clear hw
        go_wp2
        go_ret
        have hd : decide (us = vs) = true := by
          rw [decide_eq_true_iff]
          have := HT.out
          rwa [List.take_of_length_le (by omega), List.take_of_length_le (by have := HE.out; omega)] at this
        rw [hd]
        exact ⟨rfl, m, HW.out⟩
  · have hlb : ((us.length : Int) != (vs.length : Int)) = true := by rw [bne_iff_ne]; omega
    have HE := Lib.hid hl
    clear hl
    go_enter Tryd.func15, Tryd.ntmps15
    go_wp2
    go_ret
    have hd : decide (us = vs) = false := by
      rw [decide_eq_false_iff_not]; intro e
      exact HE.out (by rw [e])
    rw [hd]
    exact ⟨rfl, 0, rfl⟩
end Go.Proofs.YtelcjcgalkcadaaDoor
