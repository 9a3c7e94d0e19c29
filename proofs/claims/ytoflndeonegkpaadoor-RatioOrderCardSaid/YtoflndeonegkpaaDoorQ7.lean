/- garmentref03: limbs, SameInt, Same, Light. -/
import Derived.Test.YtoflndeonegkpaaDoorQ1
namespace Go.Proofs.YtoflndeonegkpaaDoor
open Go.RowKit

theorem q_take_next {xs ys : List Nat} {k : Nat} (hk : k < xs.length) (hk2 : k < ys.length) (h : xs.take k = ys.take k) (he : xs.getD k 0 = ys.getD k 0) : xs.take (k + 1) = ys.take (k + 1) := by
  rw [List.take_succ_eq_append_getElem hk, List.take_succ_eq_append_getElem hk2, h]
  rw [List.getD_eq_getElem?_getD, List.getD_eq_getElem?_getD, List.getElem?_eq_getElem hk, List.getElem?_eq_getElem hk2, Option.getD_some, Option.getD_some] at he
  rw [he]
set_option maxHeartbeats 1000000 in
theorem qlimbs_any (va vb : Value) (us vs : List Nat) (w : World) (ha : NatAt w va us) (hb : NatAt w vb vs) : Calls Tryd.prog 32 #[va, vb] w (Says w (.bool (decide (us = vs)))) := by
  have Hu := Lib.hid ha
  have Hv := Lib.hid hb
  obtain ⟨A, c, rfl, g1, g2⟩ := ha.form
  obtain ⟨A2, c2, rfl, k1, k2⟩ := hb.form
  clear ha hb
  by_cases hl : us.length = vs.length
  · have hlb : ((us.length : Int) != (vs.length : Int)) = false := by rw [hl]; simp
    have HE := Lib.hid hl
    have hle : us.length ≤ vs.length := by omega
    have hle2 : vs.length ≤ us.length := by omega
    clear hl
    go_enter Tryd.func32, Tryd.ntmps32
    go_wp2
    go_loopw [5] (fun s wr => ∃ (k m : Nat), k ≤ us.length ∧ s = .int .i64 k ∧ wr = w.drewN m ∧ us.take k = vs.take k) (fun s _ => us.length - (intOf s).toNat)
    case atStart => exact ⟨0, 0, Nat.zero_le _, rfl, rfl, rfl⟩
    case round =>
      obtain ⟨k, m, hk, rfl, hw, ht⟩ := hrel
      have HW := Lib.hid hw
      have HT := Lib.hid ht
      clear ht
      by_cases hlt : k < us.length
      · obtain ⟨b, o, rfl, hb, hc⟩ := Hu.out.at_ (by omega)
        obtain ⟨b2, o2, rfl, hb2, hc2⟩ := Hv.out.at_ (by omega)
        have hcj : wr.cell? ⟨b, o + k, none⟩ = some (.int .u32 (us.getD k 0 : Nat)) := by rw [hw]; exact hc k hlt
        have hcj2 : wr.cell? ⟨b2, o2 + k, none⟩ = some (.int .u32 (vs.getD k 0 : Nat)) := by rw [hw]; exact hc2 k (by omega)
        clear hc hc2 hw
        obtain ⟨x, hx⟩ : ∃ x : Nat, x = us.getD k 0 := ⟨_, rfl⟩
        obtain ⟨y, hy⟩ : ∃ x : Nat, x = vs.getD k 0 := ⟨_, rfl⟩
        rw [← hx] at hcj
        rw [← hy] at hcj2
        have HX := Lib.hid hx
        have HY := Lib.hid hy
        clear hx hy
        have hlt2 : k < vs.length := by omega
        by_cases hxy : x = y
        · have hnb : ((x : Int) != (y : Int)) = false := by rw [hxy]; simp
          have HXY := Lib.hid hxy
          clear hxy
          go_wp2
          go_quiet (fail)
          go_wp2
          go_roundw
          case rel => exact ⟨k + 1, m + nq, by omega, by go_num, by rw [HW.out, World.drewN_drewN], q_take_next hlt hlt2 HT.out (by rw [← HX.out, ← HY.out, HXY.out])⟩
          case measure => simp [intOf]; omega
        · have hnb : ((x : Int) != (y : Int)) = true := by rw [bne_iff_ne]; omega
          have HXY := Lib.hid hxy
          clear hxy
          go_wp2
          go_quiet (fail)
          go_wp2
          go_ret
          have hd : decide (us = vs) = false := by
            rw [decide_eq_false_iff_not]; intro e
            exact HXY.out (by rw [HX.out, HY.out, e])
          rw [hd]
          exact ⟨rfl, m + nq, by rw [HW.out, World.drewN_drewN]⟩
      · clear hw
        go_wp2
        go_ret
        have hd : decide (us = vs) = true := by
          rw [decide_eq_true_iff]
          have := HT.out
          rwa [List.take_of_length_le (by omega), List.take_of_length_le (by have := HE.out; omega)] at this
        rw [hd]
        exact ⟨rfl, m, HW.out⟩
  · have hlb : ((us.length : Int) != (vs.length : Int)) = true := by rw [bne_iff_ne]; omega
    have HE := Lib.hid hl
    clear hl
    go_enter Tryd.func32, Tryd.ntmps32
    go_wp2
    go_ret
    have hd : decide (us = vs) = false := by
      rw [decide_eq_false_iff_not]; intro e
      exact HE.out (by rw [e])
    rw [hd]
    exact ⟨rfl, 0, rfl⟩
theorem qlimbs_eq {va vb : Value} {us : List Nat} {w : World} (ha : NatAt w va us) (hb : NatAt w vb us) : Calls Tryd.prog 32 #[va, vb] w (GivesB w true) :=
  (qlimbs_any va vb us us w ha hb).mono fun _ _ ⟨he, m, hw⟩ => ⟨by rw [he, decide_eq_true rfl], by rw [hw]; exact below_drewN (Below.refl _ _) m⟩
set_option maxRecDepth 100000 in
set_option maxHeartbeats 8000000 in
theorem rsameint {b1 b2 : Bool} {m1 m2 : Value} {z : Int} {w : World} (h1 : ZAt w b1 m1 z) (h2 : ZAt w b2 m2 z) : Calls Tryd.prog 25 #[.agg #[.bool b1, m1], .agg #[.bool b2, m2]] w (GivesB w true) := by
  obtain ⟨e1, h1⟩ := h1
  obtain ⟨e2, h2⟩ := h2
  obtain rfl : b1 = b2 := by rw [e1, e2]
  have H1 := Lib.hid h1
  have H2 := Lib.hid h2
  clear h1 h2 e1 e2
  go_enter Tryd.func25, Tryd.ntmps25
  go_upto_region 1 with fail
  obtain ⟨W0, hW, B_a, B_b, HW, HS⟩ := boxes2 w (.bool b1) m1 (.bool b1) m2
  rw [hW]
  clear hW
  replace H1 := Lib.hid (H1.out.below HW.out)
  replace H2 := Lib.hid (H2.out.below HW.out)
  have hB := HW.out
  have hsz := HS.out
  clear HW HS
  have c_a0 := B_a.out.cell0
  have c_a1 := B_a.out.cell1
  have c_b0 := B_b.out.cell0
  have c_b1 := B_b.out.cell1
  go_wp2_with fail
  clear c_a0 c_a1 c_b0 c_b1
  refine (qlimbs_eq (by exact H1.out) (by exact H2.out)).mono ?_
  rintro e w1 ⟨rfl, hb⟩
  replace H1 := Lib.hid (H1.out.below hb)
  replace H2 := Lib.hid (H2.out.below hb)
  replace B_a := Lib.hid (B_a.out.below hb)
  replace B_b := Lib.hid (B_b.out.below hb)
  replace hB := below_next hB hb
  clear hb
  have c_a0 := B_a.out.cell0
  have c_a1 := B_a.out.cell1
  have c_b0 := B_b.out.cell0
  have c_b1 := B_b.out.cell1
  go_wp2
  go_ret
  exact ⟨rfl, hB⟩
set_option maxRecDepth 100000 in
set_option maxHeartbeats 8000000 in
theorem rsame {b1 b2 : Bool} {m1 m2 d1 d2 : Value} {z : Int} {ys : List Nat} {w : World} (h1 : ZAt w b1 m1 z) (h2 : ZAt w b2 m2 z) (k1 : NatAt w d1 ys) (k2 : NatAt w d2 ys) : Calls Tryd.prog 12 #[.agg #[.bool b1, m1, d1], .agg #[.bool b2, m2, d2]] w (GivesB w true) := by
  have H1 := Lib.hid h1
  have H2 := Lib.hid h2
  have K1 := Lib.hid k1
  have K2 := Lib.hid k2
  clear h1 h2 k1 k2
  go_enter Tryd.func12, Tryd.ntmps12
  go_upto_region 1 with fail
  obtain ⟨W0, hW, B_a, B_b, HW, HS⟩ := rbox2 w (.bool b1) m1 d1 (.bool b2) m2 d2
  rw [hW]
  clear hW
  replace H1 := Lib.hid (H1.out.below HW.out)
  replace H2 := Lib.hid (H2.out.below HW.out)
  replace K1 := Lib.hid (K1.out.below HW.out)
  replace K2 := Lib.hid (K2.out.below HW.out)
  have hB := HW.out
  have hsz := HS.out
  clear HW HS
  have c_a0 := B_a.out.cell0
  have c_a1 := B_a.out.cell1
  have c_a2 := B_a.out.cell2
  have c_b0 := B_b.out.cell0
  have c_b1 := B_b.out.cell1
  have c_b2 := B_b.out.cell2
  go_wp2_with fail
  clear c_a0 c_a1 c_a2 c_b0 c_b1 c_b2
  refine (rsameint (by exact H1.out) (by exact H2.out)).mono ?_
  rintro e w1 ⟨rfl, hb⟩
  replace H1 := Lib.hid (H1.out.below hb)
  replace H2 := Lib.hid (H2.out.below hb)
  replace K1 := Lib.hid (K1.out.below hb)
  replace K2 := Lib.hid (K2.out.below hb)
  replace B_a := Lib.hid (B_a.out.below hb)
  replace B_b := Lib.hid (B_b.out.below hb)
  replace hB := below_next hB hb
  clear hb
  have c_a0 := B_a.out.cell0
  have c_a1 := B_a.out.cell1
  have c_a2 := B_a.out.cell2
  have c_b0 := B_b.out.cell0
  have c_b1 := B_b.out.cell1
  have c_b2 := B_b.out.cell2
  go_wp2_with fail
  clear c_a0 c_a1 c_a2 c_b0 c_b1 c_b2
  refine (qlimbs_eq (by exact K1.out) (by exact K2.out)).mono ?_
  rintro e w2 ⟨rfl, hb⟩
  replace H1 := Lib.hid (H1.out.below hb)
  replace H2 := Lib.hid (H2.out.below hb)
  replace K1 := Lib.hid (K1.out.below hb)
  replace K2 := Lib.hid (K2.out.below hb)
  replace B_a := Lib.hid (B_a.out.below hb)
  replace B_b := Lib.hid (B_b.out.below hb)
  replace hB := below_next hB hb
  clear hb
  have c_a0 := B_a.out.cell0
  have c_a1 := B_a.out.cell1
  have c_a2 := B_a.out.cell2
  have c_b0 := B_b.out.cell0
  have c_b1 := B_b.out.cell1
  have c_b2 := B_b.out.cell2
  go_wp2
  go_ret
  exact ⟨rfl, hB⟩
theorem rsame_q {b1 b2 : Bool} {m1 m2 d1 d2 : Value} {p q : Rat} {w : World} (h1 : QAt w b1 m1 d1 p) (h2 : QAt w b2 m2 d2 q) (h : p = q) : Calls Tryd.prog 12 #[.agg #[.bool b1, m1, d1], .agg #[.bool b2, m2, d2]] w (GivesB w true) := by
  subst h
  exact rsame h1.1 h2.1 h1.2 h2.2
theorem rsameint_z {b1 b2 : Bool} {m1 m2 : Value} {y z : Int} {w : World} (h1 : ZAt w b1 m1 y) (h2 : ZAt w b2 m2 z) (h : y = z) : Calls Tryd.prog 25 #[.agg #[.bool b1, m1], .agg #[.bool b2, m2]] w (GivesB w true) := by
  subst h
  exact rsameint h1 h2
set_option maxRecDepth 100000 in
set_option maxHeartbeats 8000000 in
theorem rlight_any (b : Bool) (m d : Value) (xs ys : List Nat) (k : Nat) (w : World) (h1 : NatAt w m xs) (h2 : NatAt w d ys) : Calls Tryd.prog 8 #[.agg #[.bool b, m, d], .int .i64 k] w (GivesB w (decide (xs.length ≤ k ∧ ys.length ≤ k))) := by
  obtain ⟨A, c, rfl, _, _⟩ := h1.form
  obtain ⟨D, f, rfl, _, _⟩ := h2.form
  clear h1 h2
  by_cases l1 : xs.length ≤ k
  · by_cases l2 : ys.length ≤ k
    · skip
      rw [decide_eq_true (And.intro l1 l2)]
      have t1 : decide (xs.length ≤ k) = true := by simpa using l1
      have t2 : decide (ys.length ≤ k) = true := by simpa using l2
      go_enter Tryd.func8, Tryd.ntmps8
      go_upto_region 1 with fail
      obtain ⟨W0, hW, B_a, HW, HS⟩ := rbox1 w (.bool b) (.slice A xs.length c) (.slice D ys.length f)
      rw [hW]
      clear hW
      have hB := HW.out
      have hsz := HS.out
      clear HW HS
      have c_a0 := B_a.out.cell0
      have c_a1 := B_a.out.cell1
      have c_a2 := B_a.out.cell2
      go_wp2
      go_ret
      exact ⟨rfl, hB⟩
    · skip
      rw [decide_eq_false (fun h => l2 h.2)]
      have t1 : decide (xs.length ≤ k) = true := by simpa using l1
      have t2 : decide (ys.length ≤ k) = false := by simpa using l2
      go_enter Tryd.func8, Tryd.ntmps8
      go_upto_region 1 with fail
      obtain ⟨W0, hW, B_a, HW, HS⟩ := rbox1 w (.bool b) (.slice A xs.length c) (.slice D ys.length f)
      rw [hW]
      clear hW
      have hB := HW.out
      have hsz := HS.out
      clear HW HS
      have c_a0 := B_a.out.cell0
      have c_a1 := B_a.out.cell1
      have c_a2 := B_a.out.cell2
      go_wp2
      go_ret
      exact ⟨rfl, hB⟩
  · skip
    rw [decide_eq_false (fun h => l1 h.1)]
    have t1 : decide (xs.length ≤ k) = false := by simpa using l1
    go_enter Tryd.func8, Tryd.ntmps8
    go_upto_region 1 with fail
    obtain ⟨W0, hW, B_a, HW, HS⟩ := rbox1 w (.bool b) (.slice A xs.length c) (.slice D ys.length f)
    rw [hW]
    clear hW
    have hB := HW.out
    have hsz := HS.out
    clear HW HS
    have c_a0 := B_a.out.cell0
    have c_a1 := B_a.out.cell1
    have c_a2 := B_a.out.cell2
    go_wp2
    go_ret
    exact ⟨rfl, hB⟩
theorem rlight_is {b v : Bool} {m d : Value} {xs ys : List Nat} {k : Nat} {w : World} (h1 : NatAt w m xs) (h2 : NatAt w d ys) (h : decide (xs.length ≤ k ∧ ys.length ≤ k) = v) : Calls Tryd.prog 8 #[.agg #[.bool b, m, d], .int .i64 k] w (GivesB w v) := h ▸ rlight_any b m d xs ys k w h1 h2
end Go.Proofs.YtoflndeonegkpaaDoor
