/- RatioRounds -/
import Derived.Test.YtoflndeonegkpaaDoorQWRounds0
namespace Go.Proofs.YtoflndeonegkpaaDoor
open Go.RowKit

set_option maxRecDepth 100000 in
set_option maxHeartbeats 8000000 in
theorem walk_RatioRounds (b_a : Bool) (m_a d_a : Value) (xs_a ys_a : List Nat) (n : Int) (w : World) (h_a : NatAt w m_a xs_a) (g_a : NatAt w d_a ys_a) (hz_n : (Lit.int .i64 n).wf = true) (htab : Tab w) : Calls Tryd.prog 4 #[.agg #[.bool b_a, m_a, d_a], .int .i64 n] w (GivesTrue w) := by
  by_cases s_a : xs_a.length ≤ 8 ∧ ys_a.length ≤ 8
  · exact rounds_light b_a m_a d_a xs_a ys_a n w h_a g_a hz_n htab s_a
  · skip
    have HT := Lib.hid htab
    clear htab
    have H_a := Lib.hid h_a
    have K_a := Lib.hid g_a
    clear h_a g_a
    obtain ⟨n1, n2⟩ : -9223372036854775808 ≤ n ∧ n ≤ 9223372036854775807 := by have := Go.bounds_i64 hz_n; omega
    clear hz_n
    go_enter Tryd.func4, Tryd.ntmps4
    go_wp2_with fail
    obtain ⟨W0, hW, B_a, HW, HS⟩ := rbox1 w (.bool b_a) m_a d_a
    rw [hW]
    clear hW
    replace HT := Lib.hid (HT.out.below HW.out)
    replace H_a := Lib.hid (H_a.out.below HW.out)
    replace K_a := Lib.hid (K_a.out.below HW.out)
    have hB := HW.out
    have hsz := HS.out
    clear HW HS
    refine (rlight_is (k := 8) (v := false) (by exact H_a.out) (by exact K_a.out) (decide_eq_false s_a)).mono ?_
    rintro e w1 ⟨rfl, hb⟩
    replace HT := Lib.hid (HT.out.below hb)
    replace H_a := Lib.hid (H_a.out.below hb)
    replace K_a := Lib.hid (K_a.out.below hb)
    replace B_a := Lib.hid (B_a.out.below hb)
    replace hB := below_next hB hb
    clear hb
    have c_a0 := B_a.out.cell0
    have c_a1 := B_a.out.cell1
    have c_a2 := B_a.out.cell2
    go_wp2_with fail
    clear c_a0 c_a1 c_a2
    refine (holds_any _ (by exact HT.out)).mono ?_
    rintro e w2 ⟨rfl, hb⟩
    replace HT := Lib.hid (HT.out.below hb)
    replace H_a := Lib.hid (H_a.out.below hb)
    replace K_a := Lib.hid (K_a.out.below hb)
    replace B_a := Lib.hid (B_a.out.below hb)
    replace hB := below_next hB hb
    clear hb
    have c_a0 := B_a.out.cell0
    have c_a1 := B_a.out.cell1
    have c_a2 := B_a.out.cell2
    go_wp2
    go_ret
    exact ⟨rfl, hB⟩
end Go.Proofs.YtoflndeonegkpaaDoor
