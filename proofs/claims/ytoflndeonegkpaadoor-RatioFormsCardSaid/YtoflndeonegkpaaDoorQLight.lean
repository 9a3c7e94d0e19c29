/- garmentlaw03.light. -/
import Derived.Test.YtoflndeonegkpaaDoorQ7
namespace Go.Proofs.YtoflndeonegkpaaDoor
open Go.RowKit

set_option maxRecDepth 100000 in
set_option maxHeartbeats 8000000 in
theorem rlight2 (b_a : Bool) (m_a d_a : Value) (xs_a ys_a : List Nat) (b_b : Bool) (m_b d_b : Value) (xs_b ys_b : List Nat) (w : World) (h_a : NatAt w m_a xs_a) (g_a : NatAt w d_a ys_a) (h_b : NatAt w m_b xs_b) (g_b : NatAt w d_b ys_b) : Calls Tryd.prog 22 #[.agg #[.bool b_a, m_a, d_a], .agg #[.bool b_b, m_b, d_b]] w (GivesB w (decide ((xs_a.length ≤ 10 ∧ ys_a.length ≤ 10) ∧ (xs_b.length ≤ 10 ∧ ys_b.length ≤ 10)))) := by
  have H_a := Lib.hid h_a
  have K_a := Lib.hid g_a
  clear h_a g_a
  have H_b := Lib.hid h_b
  have K_b := Lib.hid g_b
  clear h_b g_b
  by_cases s_a : xs_a.length ≤ 10 ∧ ys_a.length ≤ 10
  · by_cases s_b : xs_b.length ≤ 10 ∧ ys_b.length ≤ 10
    · skip
      rw [decide_eq_true (And.intro s_a s_b)]
      go_enter Tryd.func22, Tryd.ntmps22
      go_wp2_with fail
      obtain ⟨W0, hW, B_a, B_b, HW, HS⟩ := rbox2 w (.bool b_a) m_a d_a (.bool b_b) m_b d_b
      rw [hW]
      clear hW
      replace H_a := Lib.hid (H_a.out.below HW.out)
      replace K_a := Lib.hid (K_a.out.below HW.out)
      replace H_b := Lib.hid (H_b.out.below HW.out)
      replace K_b := Lib.hid (K_b.out.below HW.out)
      have hB := HW.out
      have hsz := HS.out
      clear HW HS
      refine (rlight_is (k := 10) (v := true) (by exact H_a.out) (by exact K_a.out) (decide_eq_true s_a)).mono ?_
      rintro e w1 ⟨rfl, hb⟩
      replace H_a := Lib.hid (H_a.out.below hb)
      replace K_a := Lib.hid (K_a.out.below hb)
      replace H_b := Lib.hid (H_b.out.below hb)
      replace K_b := Lib.hid (K_b.out.below hb)
      replace B_a := Lib.hid (B_a.out.below hb)
      replace B_b := Lib.hid (B_b.out.below hb)
      replace hB := below_next hB hb
      clear hb
      have c_a0 := B_a.out.cell0
      have c_a1 := B_a.out.cell1
      have c_a2 := B_a.out.cell2
      have c_b0 := B_b.out.cell0
      have c_b1 := B_b.out.cell1
      have c_b2 := B_b.out.cell2
      go_wp2_with fail
      clear c_a0 c_a1 c_a2 c_b0 c_b1 c_b2
      refine (rlight_is (k := 10) (v := true) (by exact H_b.out) (by exact K_b.out) (decide_eq_true s_b)).mono ?_
      rintro e w2 ⟨rfl, hb⟩
      replace H_a := Lib.hid (H_a.out.below hb)
      replace K_a := Lib.hid (K_a.out.below hb)
      replace H_b := Lib.hid (H_b.out.below hb)
      replace K_b := Lib.hid (K_b.out.below hb)
      replace B_a := Lib.hid (B_a.out.below hb)
      replace B_b := Lib.hid (B_b.out.below hb)
      replace hB := below_next hB hb
      clear hb
      have c_a0 := B_a.out.cell0
      have c_a1 := B_a.out.cell1
      have c_a2 := B_a.out.cell2
      have c_b0 := B_b.out.cell0
      have c_b1 := B_b.out.cell1
      have c_b2 := B_b.out.cell2
      go_wp2
      go_ret
      exact ⟨rfl, hB⟩
    · skip
      rw [decide_eq_false (fun h => s_b h.2)]
      go_enter Tryd.func22, Tryd.ntmps22
      go_wp2_with fail
      obtain ⟨W0, hW, B_a, B_b, HW, HS⟩ := rbox2 w (.bool b_a) m_a d_a (.bool b_b) m_b d_b
      rw [hW]
      clear hW
      replace H_a := Lib.hid (H_a.out.below HW.out)
      replace K_a := Lib.hid (K_a.out.below HW.out)
      replace H_b := Lib.hid (H_b.out.below HW.out)
      replace K_b := Lib.hid (K_b.out.below HW.out)
      have hB := HW.out
      have hsz := HS.out
      clear HW HS
      refine (rlight_is (k := 10) (v := true) (by exact H_a.out) (by exact K_a.out) (decide_eq_true s_a)).mono ?_
      rintro e w1 ⟨rfl, hb⟩
      replace H_a := Lib.hid (H_a.out.below hb)
      replace K_a := Lib.hid (K_a.out.below hb)
      replace H_b := Lib.hid (H_b.out.below hb)
      replace K_b := Lib.hid (K_b.out.below hb)
      replace B_a := Lib.hid (B_a.out.below hb)
      replace B_b := Lib.hid (B_b.out.below hb)
      replace hB := below_next hB hb
      clear hb
      have c_a0 := B_a.out.cell0
      have c_a1 := B_a.out.cell1
      have c_a2 := B_a.out.cell2
      have c_b0 := B_b.out.cell0
      have c_b1 := B_b.out.cell1
      have c_b2 := B_b.out.cell2
      go_wp2_with fail
      clear c_a0 c_a1 c_a2 c_b0 c_b1 c_b2
      refine (rlight_is (k := 10) (v := false) (by exact H_b.out) (by exact K_b.out) (decide_eq_false s_b)).mono ?_
      rintro e w2 ⟨rfl, hb⟩
      replace H_a := Lib.hid (H_a.out.below hb)
      replace K_a := Lib.hid (K_a.out.below hb)
      replace H_b := Lib.hid (H_b.out.below hb)
      replace K_b := Lib.hid (K_b.out.below hb)
      replace B_a := Lib.hid (B_a.out.below hb)
      replace B_b := Lib.hid (B_b.out.below hb)
      replace hB := below_next hB hb
      clear hb
      have c_a0 := B_a.out.cell0
      have c_a1 := B_a.out.cell1
      have c_a2 := B_a.out.cell2
      have c_b0 := B_b.out.cell0
      have c_b1 := B_b.out.cell1
      have c_b2 := B_b.out.cell2
      go_wp2
      go_ret
      exact ⟨rfl, hB⟩
  · skip
    rw [decide_eq_false (fun h => s_a h.1)]
    go_enter Tryd.func22, Tryd.ntmps22
    go_wp2_with fail
    obtain ⟨W0, hW, B_a, B_b, HW, HS⟩ := rbox2 w (.bool b_a) m_a d_a (.bool b_b) m_b d_b
    rw [hW]
    clear hW
    replace H_a := Lib.hid (H_a.out.below HW.out)
    replace K_a := Lib.hid (K_a.out.below HW.out)
    replace H_b := Lib.hid (H_b.out.below HW.out)
    replace K_b := Lib.hid (K_b.out.below HW.out)
    have hB := HW.out
    have hsz := HS.out
    clear HW HS
    refine (rlight_is (k := 10) (v := false) (by exact H_a.out) (by exact K_a.out) (decide_eq_false s_a)).mono ?_
    rintro e w1 ⟨rfl, hb⟩
    replace H_a := Lib.hid (H_a.out.below hb)
    replace K_a := Lib.hid (K_a.out.below hb)
    replace H_b := Lib.hid (H_b.out.below hb)
    replace K_b := Lib.hid (K_b.out.below hb)
    replace B_a := Lib.hid (B_a.out.below hb)
    replace B_b := Lib.hid (B_b.out.below hb)
    replace hB := below_next hB hb
    clear hb
    have c_a0 := B_a.out.cell0
    have c_a1 := B_a.out.cell1
    have c_a2 := B_a.out.cell2
    have c_b0 := B_b.out.cell0
    have c_b1 := B_b.out.cell1
    have c_b2 := B_b.out.cell2
    go_wp2
    go_ret
    exact ⟨rfl, hB⟩
theorem rlight2_is {b1 b2 v : Bool} {m1 d1 m2 d2 : Value} {x1 y1 x2 y2 : List Nat} {w : World} (h1 : NatAt w m1 x1) (g1 : NatAt w d1 y1) (h2 : NatAt w m2 x2) (g2 : NatAt w d2 y2) (h : decide ((x1.length ≤ 10 ∧ y1.length ≤ 10) ∧ (x2.length ≤ 10 ∧ y2.length ≤ 10)) = v) : Calls Tryd.prog 22 #[.agg #[.bool b1, m1, d1], .agg #[.bool b2, m2, d2]] w (GivesB w v) := h ▸ rlight2 b1 m1 d1 x1 y1 b2 m2 d2 x2 y2 w h1 g1 h2 g2
end Go.Proofs.YtoflndeonegkpaaDoor
