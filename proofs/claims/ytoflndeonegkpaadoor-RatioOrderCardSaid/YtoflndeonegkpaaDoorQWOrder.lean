/- RatioOrder -/
import Derived.Test.YtoflndeonegkpaaDoorQWOrder0
namespace Go.Proofs.YtoflndeonegkpaaDoor
open Go.RowKit

set_option maxRecDepth 100000 in
set_option maxHeartbeats 8000000 in
theorem walk_RatioOrder (b_a : Bool) (m_a d_a : Value) (xs_a ys_a : List Nat) (b_b : Bool) (m_b d_b : Value) (xs_b ys_b : List Nat) (b_c : Bool) (m_c d_c : Value) (xs_c ys_c : List Nat) (w : World) (h_a : NatAt w m_a xs_a) (g_a : NatAt w d_a ys_a) (h_b : NatAt w m_b xs_b) (g_b : NatAt w d_b ys_b) (h_c : NatAt w m_c xs_c) (g_c : NatAt w d_c ys_c) (htab : Tab w) : Calls Tryd.prog 6 #[.agg #[.bool b_a, m_a, d_a], .agg #[.bool b_b, m_b, d_b], .agg #[.bool b_c, m_c, d_c]] w (GivesTrue w) := by
  by_cases s_a : xs_a.length ≤ 6 ∧ ys_a.length ≤ 6
  · by_cases s_b : xs_b.length ≤ 6 ∧ ys_b.length ≤ 6
    · by_cases s_c : xs_c.length ≤ 6 ∧ ys_c.length ≤ 6
      · exact order_light b_a m_a d_a xs_a ys_a b_b m_b d_b xs_b ys_b b_c m_c d_c xs_c ys_c w h_a g_a h_b g_b h_c g_c htab s_a s_b s_c
      · skip
        have HT := Lib.hid htab
        clear htab
        have H_a := Lib.hid h_a
        have K_a := Lib.hid g_a
        clear h_a g_a
        have H_b := Lib.hid h_b
        have K_b := Lib.hid g_b
        clear h_b g_b
        have H_c := Lib.hid h_c
        have K_c := Lib.hid g_c
        clear h_c g_c
        go_enter Tryd.func6, Tryd.ntmps6
        go_wp2_with fail
        obtain ⟨W0, hW, B_a, B_b, B_c, HW, HS⟩ := rbox3 w (.bool b_a) m_a d_a (.bool b_b) m_b d_b (.bool b_c) m_c d_c
        rw [hW]
        clear hW
        replace HT := Lib.hid (HT.out.below HW.out)
        replace H_a := Lib.hid (H_a.out.below HW.out)
        replace H_b := Lib.hid (H_b.out.below HW.out)
        replace H_c := Lib.hid (H_c.out.below HW.out)
        replace K_a := Lib.hid (K_a.out.below HW.out)
        replace K_b := Lib.hid (K_b.out.below HW.out)
        replace K_c := Lib.hid (K_c.out.below HW.out)
        have hB := HW.out
        have hsz := HS.out
        clear HW HS
        refine (rlight_is (k := 6) (v := true) (by exact H_a.out) (by exact K_a.out) (decide_eq_true s_a)).mono ?_
        rintro e w1 ⟨rfl, hb⟩
        replace HT := Lib.hid (HT.out.below hb)
        replace H_a := Lib.hid (H_a.out.below hb)
        replace H_b := Lib.hid (H_b.out.below hb)
        replace H_c := Lib.hid (H_c.out.below hb)
        replace K_a := Lib.hid (K_a.out.below hb)
        replace K_b := Lib.hid (K_b.out.below hb)
        replace K_c := Lib.hid (K_c.out.below hb)
        replace B_a := Lib.hid (B_a.out.below hb)
        replace B_b := Lib.hid (B_b.out.below hb)
        replace B_c := Lib.hid (B_c.out.below hb)
        replace hB := below_next hB hb
        clear hb
        have c_a0 := B_a.out.cell0
        have c_a1 := B_a.out.cell1
        have c_a2 := B_a.out.cell2
        have c_b0 := B_b.out.cell0
        have c_b1 := B_b.out.cell1
        have c_b2 := B_b.out.cell2
        have c_c0 := B_c.out.cell0
        have c_c1 := B_c.out.cell1
        have c_c2 := B_c.out.cell2
        go_wp2_with fail
        clear c_a0 c_a1 c_a2 c_b0 c_b1 c_b2 c_c0 c_c1 c_c2
        refine (rlight_is (k := 6) (v := true) (by exact H_b.out) (by exact K_b.out) (decide_eq_true s_b)).mono ?_
        rintro e w2 ⟨rfl, hb⟩
        replace HT := Lib.hid (HT.out.below hb)
        replace H_a := Lib.hid (H_a.out.below hb)
        replace H_b := Lib.hid (H_b.out.below hb)
        replace H_c := Lib.hid (H_c.out.below hb)
        replace K_a := Lib.hid (K_a.out.below hb)
        replace K_b := Lib.hid (K_b.out.below hb)
        replace K_c := Lib.hid (K_c.out.below hb)
        replace B_a := Lib.hid (B_a.out.below hb)
        replace B_b := Lib.hid (B_b.out.below hb)
        replace B_c := Lib.hid (B_c.out.below hb)
        replace hB := below_next hB hb
        clear hb
        have c_a0 := B_a.out.cell0
        have c_a1 := B_a.out.cell1
        have c_a2 := B_a.out.cell2
        have c_b0 := B_b.out.cell0
        have c_b1 := B_b.out.cell1
        have c_b2 := B_b.out.cell2
        have c_c0 := B_c.out.cell0
        have c_c1 := B_c.out.cell1
        have c_c2 := B_c.out.cell2
        go_wp2_with fail
        clear c_a0 c_a1 c_a2 c_b0 c_b1 c_b2 c_c0 c_c1 c_c2
        refine (rlight_is (k := 6) (v := false) (by exact H_c.out) (by exact K_c.out) (decide_eq_false s_c)).mono ?_
        rintro e w3 ⟨rfl, hb⟩
        replace HT := Lib.hid (HT.out.below hb)
        replace H_a := Lib.hid (H_a.out.below hb)
        replace H_b := Lib.hid (H_b.out.below hb)
        replace H_c := Lib.hid (H_c.out.below hb)
        replace K_a := Lib.hid (K_a.out.below hb)
        replace K_b := Lib.hid (K_b.out.below hb)
        replace K_c := Lib.hid (K_c.out.below hb)
        replace B_a := Lib.hid (B_a.out.below hb)
        replace B_b := Lib.hid (B_b.out.below hb)
        replace B_c := Lib.hid (B_c.out.below hb)
        replace hB := below_next hB hb
        clear hb
        have c_a0 := B_a.out.cell0
        have c_a1 := B_a.out.cell1
        have c_a2 := B_a.out.cell2
        have c_b0 := B_b.out.cell0
        have c_b1 := B_b.out.cell1
        have c_b2 := B_b.out.cell2
        have c_c0 := B_c.out.cell0
        have c_c1 := B_c.out.cell1
        have c_c2 := B_c.out.cell2
        go_wp2_with fail
        clear c_a0 c_a1 c_a2 c_b0 c_b1 c_b2 c_c0 c_c1 c_c2
        refine (holds_any _ (by exact HT.out)).mono ?_
        rintro e w4 ⟨rfl, hb⟩
        replace HT := Lib.hid (HT.out.below hb)
        replace H_a := Lib.hid (H_a.out.below hb)
        replace H_b := Lib.hid (H_b.out.below hb)
        replace H_c := Lib.hid (H_c.out.below hb)
        replace K_a := Lib.hid (K_a.out.below hb)
        replace K_b := Lib.hid (K_b.out.below hb)
        replace K_c := Lib.hid (K_c.out.below hb)
        replace B_a := Lib.hid (B_a.out.below hb)
        replace B_b := Lib.hid (B_b.out.below hb)
        replace B_c := Lib.hid (B_c.out.below hb)
        replace hB := below_next hB hb
        clear hb
        have c_a0 := B_a.out.cell0
        have c_a1 := B_a.out.cell1
        have c_a2 := B_a.out.cell2
        have c_b0 := B_b.out.cell0
        have c_b1 := B_b.out.cell1
        have c_b2 := B_b.out.cell2
        have c_c0 := B_c.out.cell0
        have c_c1 := B_c.out.cell1
        have c_c2 := B_c.out.cell2
        go_wp2
        go_ret
        exact ⟨rfl, hB⟩
    · skip
      have HT := Lib.hid htab
      clear htab
      have H_a := Lib.hid h_a
      have K_a := Lib.hid g_a
      clear h_a g_a
      have H_b := Lib.hid h_b
      have K_b := Lib.hid g_b
      clear h_b g_b
      have H_c := Lib.hid h_c
      have K_c := Lib.hid g_c
      clear h_c g_c
      go_enter Tryd.func6, Tryd.ntmps6
      go_wp2_with fail
      obtain ⟨W0, hW, B_a, B_b, B_c, HW, HS⟩ := rbox3 w (.bool b_a) m_a d_a (.bool b_b) m_b d_b (.bool b_c) m_c d_c
      rw [hW]
      clear hW
      replace HT := Lib.hid (HT.out.below HW.out)
      replace H_a := Lib.hid (H_a.out.below HW.out)
      replace H_b := Lib.hid (H_b.out.below HW.out)
      replace H_c := Lib.hid (H_c.out.below HW.out)
      replace K_a := Lib.hid (K_a.out.below HW.out)
      replace K_b := Lib.hid (K_b.out.below HW.out)
      replace K_c := Lib.hid (K_c.out.below HW.out)
      have hB := HW.out
      have hsz := HS.out
      clear HW HS
      refine (rlight_is (k := 6) (v := true) (by exact H_a.out) (by exact K_a.out) (decide_eq_true s_a)).mono ?_
      rintro e w1 ⟨rfl, hb⟩
      replace HT := Lib.hid (HT.out.below hb)
      replace H_a := Lib.hid (H_a.out.below hb)
      replace H_b := Lib.hid (H_b.out.below hb)
      replace H_c := Lib.hid (H_c.out.below hb)
      replace K_a := Lib.hid (K_a.out.below hb)
      replace K_b := Lib.hid (K_b.out.below hb)
      replace K_c := Lib.hid (K_c.out.below hb)
      replace B_a := Lib.hid (B_a.out.below hb)
      replace B_b := Lib.hid (B_b.out.below hb)
      replace B_c := Lib.hid (B_c.out.below hb)
      replace hB := below_next hB hb
      clear hb
      have c_a0 := B_a.out.cell0
      have c_a1 := B_a.out.cell1
      have c_a2 := B_a.out.cell2
      have c_b0 := B_b.out.cell0
      have c_b1 := B_b.out.cell1
      have c_b2 := B_b.out.cell2
      have c_c0 := B_c.out.cell0
      have c_c1 := B_c.out.cell1
      have c_c2 := B_c.out.cell2
      go_wp2_with fail
      clear c_a0 c_a1 c_a2 c_b0 c_b1 c_b2 c_c0 c_c1 c_c2
      refine (rlight_is (k := 6) (v := false) (by exact H_b.out) (by exact K_b.out) (decide_eq_false s_b)).mono ?_
      rintro e w2 ⟨rfl, hb⟩
      replace HT := Lib.hid (HT.out.below hb)
      replace H_a := Lib.hid (H_a.out.below hb)
      replace H_b := Lib.hid (H_b.out.below hb)
      replace H_c := Lib.hid (H_c.out.below hb)
      replace K_a := Lib.hid (K_a.out.below hb)
      replace K_b := Lib.hid (K_b.out.below hb)
      replace K_c := Lib.hid (K_c.out.below hb)
      replace B_a := Lib.hid (B_a.out.below hb)
      replace B_b := Lib.hid (B_b.out.below hb)
      replace B_c := Lib.hid (B_c.out.below hb)
      replace hB := below_next hB hb
      clear hb
      have c_a0 := B_a.out.cell0
      have c_a1 := B_a.out.cell1
      have c_a2 := B_a.out.cell2
      have c_b0 := B_b.out.cell0
      have c_b1 := B_b.out.cell1
      have c_b2 := B_b.out.cell2
      have c_c0 := B_c.out.cell0
      have c_c1 := B_c.out.cell1
      have c_c2 := B_c.out.cell2
      go_wp2_with fail
      clear c_a0 c_a1 c_a2 c_b0 c_b1 c_b2 c_c0 c_c1 c_c2
      refine (holds_any _ (by exact HT.out)).mono ?_
      rintro e w3 ⟨rfl, hb⟩
      replace HT := Lib.hid (HT.out.below hb)
      replace H_a := Lib.hid (H_a.out.below hb)
      replace H_b := Lib.hid (H_b.out.below hb)
      replace H_c := Lib.hid (H_c.out.below hb)
      replace K_a := Lib.hid (K_a.out.below hb)
      replace K_b := Lib.hid (K_b.out.below hb)
      replace K_c := Lib.hid (K_c.out.below hb)
      replace B_a := Lib.hid (B_a.out.below hb)
      replace B_b := Lib.hid (B_b.out.below hb)
      replace B_c := Lib.hid (B_c.out.below hb)
      replace hB := below_next hB hb
      clear hb
      have c_a0 := B_a.out.cell0
      have c_a1 := B_a.out.cell1
      have c_a2 := B_a.out.cell2
      have c_b0 := B_b.out.cell0
      have c_b1 := B_b.out.cell1
      have c_b2 := B_b.out.cell2
      have c_c0 := B_c.out.cell0
      have c_c1 := B_c.out.cell1
      have c_c2 := B_c.out.cell2
      go_wp2
      go_ret
      exact ⟨rfl, hB⟩
  · skip
    have HT := Lib.hid htab
    clear htab
    have H_a := Lib.hid h_a
    have K_a := Lib.hid g_a
    clear h_a g_a
    have H_b := Lib.hid h_b
    have K_b := Lib.hid g_b
    clear h_b g_b
    have H_c := Lib.hid h_c
    have K_c := Lib.hid g_c
    clear h_c g_c
    go_enter Tryd.func6, Tryd.ntmps6
    go_wp2_with fail
    obtain ⟨W0, hW, B_a, B_b, B_c, HW, HS⟩ := rbox3 w (.bool b_a) m_a d_a (.bool b_b) m_b d_b (.bool b_c) m_c d_c
    rw [hW]
    clear hW
    replace HT := Lib.hid (HT.out.below HW.out)
    replace H_a := Lib.hid (H_a.out.below HW.out)
    replace H_b := Lib.hid (H_b.out.below HW.out)
    replace H_c := Lib.hid (H_c.out.below HW.out)
    replace K_a := Lib.hid (K_a.out.below HW.out)
    replace K_b := Lib.hid (K_b.out.below HW.out)
    replace K_c := Lib.hid (K_c.out.below HW.out)
    have hB := HW.out
    have hsz := HS.out
    clear HW HS
    refine (rlight_is (k := 6) (v := false) (by exact H_a.out) (by exact K_a.out) (decide_eq_false s_a)).mono ?_
    rintro e w1 ⟨rfl, hb⟩
    replace HT := Lib.hid (HT.out.below hb)
    replace H_a := Lib.hid (H_a.out.below hb)
    replace H_b := Lib.hid (H_b.out.below hb)
    replace H_c := Lib.hid (H_c.out.below hb)
    replace K_a := Lib.hid (K_a.out.below hb)
    replace K_b := Lib.hid (K_b.out.below hb)
    replace K_c := Lib.hid (K_c.out.below hb)
    replace B_a := Lib.hid (B_a.out.below hb)
    replace B_b := Lib.hid (B_b.out.below hb)
    replace B_c := Lib.hid (B_c.out.below hb)
    replace hB := below_next hB hb
    clear hb
    have c_a0 := B_a.out.cell0
    have c_a1 := B_a.out.cell1
    have c_a2 := B_a.out.cell2
    have c_b0 := B_b.out.cell0
    have c_b1 := B_b.out.cell1
    have c_b2 := B_b.out.cell2
    have c_c0 := B_c.out.cell0
    have c_c1 := B_c.out.cell1
    have c_c2 := B_c.out.cell2
    go_wp2_with fail
    clear c_a0 c_a1 c_a2 c_b0 c_b1 c_b2 c_c0 c_c1 c_c2
    refine (holds_any _ (by exact HT.out)).mono ?_
    rintro e w2 ⟨rfl, hb⟩
    replace HT := Lib.hid (HT.out.below hb)
    replace H_a := Lib.hid (H_a.out.below hb)
    replace H_b := Lib.hid (H_b.out.below hb)
    replace H_c := Lib.hid (H_c.out.below hb)
    replace K_a := Lib.hid (K_a.out.below hb)
    replace K_b := Lib.hid (K_b.out.below hb)
    replace K_c := Lib.hid (K_c.out.below hb)
    replace B_a := Lib.hid (B_a.out.below hb)
    replace B_b := Lib.hid (B_b.out.below hb)
    replace B_c := Lib.hid (B_c.out.below hb)
    replace hB := below_next hB hb
    clear hb
    have c_a0 := B_a.out.cell0
    have c_a1 := B_a.out.cell1
    have c_a2 := B_a.out.cell2
    have c_b0 := B_b.out.cell0
    have c_b1 := B_b.out.cell1
    have c_b2 := B_b.out.cell2
    have c_c0 := B_c.out.cell0
    have c_c1 := B_c.out.cell1
    have c_c2 := B_c.out.cell2
    go_wp2
    go_ret
    exact ⟨rfl, hB⟩
end Go.Proofs.YtoflndeonegkpaaDoor
