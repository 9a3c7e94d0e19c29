/- The law IntegerForms: its walk. -/
import Derived.Test.YtcdfhiocglibfaaDoorZWForm11
import Derived.Test.YtcdfhiocglibfaaDoorZWForm10
import Derived.Test.YtcdfhiocglibfaaDoorZWForm01
import Derived.Test.YtcdfhiocglibfaaDoorZWForm00
namespace Go.Proofs.YtcdfhiocglibfaaDoor
open Go.RowKit

set_option maxRecDepth 100000 in
set_option maxHeartbeats 8000000 in
theorem walk_IntegerForms (b_a : Bool) (m_a : Value) (l_a : List Nat) (b_b : Bool) (m_b : Value) (l_b : List Nat) (zeros : Int) (w : World) (h_a : NatAt w m_a l_a) (h_b : NatAt w m_b l_b) (hz_zeros : (Lit.int .u8 zeros).wf = true) (htab : Tab w) : Calls Tryd.prog 8 #[.agg #[.bool b_a, m_a], .agg #[.bool b_b, m_b], .int .u8 zeros] w (GivesTrue w) := by
  by_cases s_a : l_a.length ≤ 30
  · by_cases s_b : l_b.length ≤ 30
    · by_cases s_z : zeros ≤ 5
      · by_cases ha : zval b_a l_a = 0
        · by_cases hz : zval b_b l_b = 0
          · exact forms_11 b_a m_a l_a b_b m_b l_b zeros w h_a h_b hz_zeros htab s_a s_b s_z ha hz
          · exact forms_10 b_a m_a l_a b_b m_b l_b zeros w h_a h_b hz_zeros htab s_a s_b s_z ha hz
        · by_cases hz : zval b_b l_b = 0
          · exact forms_01 b_a m_a l_a b_b m_b l_b zeros w h_a h_b hz_zeros htab s_a s_b s_z ha hz
          · exact forms_00 b_a m_a l_a b_b m_b l_b zeros w h_a h_b hz_zeros htab s_a s_b s_z ha hz
      · skip
        have HT := Lib.hid htab
        clear htab
        have H_a := Lib.hid h_a
        clear h_a
        have H_b := Lib.hid h_b
        clear h_b
        obtain ⟨zeros1, zeros2⟩ : 0 ≤ zeros ∧ zeros ≤ 255 := by have := Go.bounds_u8 hz_zeros; omega
        clear hz_zeros
        have ez : decide ((5 : Int) < zeros) = true := by simp; omega
        go_enter Tryd.func8, Tryd.ntmps8
        go_wp2_with fail
        obtain ⟨W1, hW, NB, NC, HW, _⟩ := boxes2 w (.bool b_a) m_a (.bool b_b) m_b
        rw [hW]
        clear hW
        replace HT := Lib.hid (HT.out.below HW.out)
        replace H_a := Lib.hid (H_a.out.below HW.out)
        replace H_b := Lib.hid (H_b.out.below HW.out)
        have hB := HW.out
        have B_a := NB
        have B_b := NC
        clear NB NC HW
        refine (zshort_yes (k := 30) (by exact H_a.out) s_a).mono ?_
        rintro e w1 ⟨rfl, hb⟩
        replace HT := Lib.hid (HT.out.below hb)
        replace H_a := Lib.hid (H_a.out.below hb)
        replace H_b := Lib.hid (H_b.out.below hb)
        replace B_a := Lib.hid (B_a.out.below hb)
        replace B_b := Lib.hid (B_b.out.below hb)
        replace hB := below_next hB hb
        clear hb
        have c_a0 := B_a.out.cell0
        have c_a1 := B_a.out.cell1
        have c_b0 := B_b.out.cell0
        have c_b1 := B_b.out.cell1
        go_wp2_with fail
        clear c_a0 c_a1 c_b0 c_b1
        refine (zshort_yes (k := 30) (by exact H_b.out) s_b).mono ?_
        rintro e w2 ⟨rfl, hb⟩
        replace HT := Lib.hid (HT.out.below hb)
        replace H_a := Lib.hid (H_a.out.below hb)
        replace H_b := Lib.hid (H_b.out.below hb)
        replace B_a := Lib.hid (B_a.out.below hb)
        replace B_b := Lib.hid (B_b.out.below hb)
        replace hB := below_next hB hb
        clear hb
        have c_a0 := B_a.out.cell0
        have c_a1 := B_a.out.cell1
        have c_b0 := B_b.out.cell0
        have c_b1 := B_b.out.cell1
        go_wp2_with fail
        clear c_a0 c_a1 c_b0 c_b1
        refine (awake_any _ (by exact HT.out)).mono ?_
        rintro e w3 ⟨rfl, hb⟩
        replace HT := Lib.hid (HT.out.below hb)
        replace H_a := Lib.hid (H_a.out.below hb)
        replace H_b := Lib.hid (H_b.out.below hb)
        replace B_a := Lib.hid (B_a.out.below hb)
        replace B_b := Lib.hid (B_b.out.below hb)
        replace hB := below_next hB hb
        clear hb
        have c_a0 := B_a.out.cell0
        have c_a1 := B_a.out.cell1
        have c_b0 := B_b.out.cell0
        have c_b1 := B_b.out.cell1
        go_wp2
        go_ret
        exact ⟨rfl, hB⟩
    · skip
      have HT := Lib.hid htab
      clear htab
      have H_a := Lib.hid h_a
      clear h_a
      have H_b := Lib.hid h_b
      clear h_b
      obtain ⟨zeros1, zeros2⟩ : 0 ≤ zeros ∧ zeros ≤ 255 := by have := Go.bounds_u8 hz_zeros; omega
      clear hz_zeros
      go_enter Tryd.func8, Tryd.ntmps8
      go_wp2_with fail
      obtain ⟨W1, hW, NB, NC, HW, _⟩ := boxes2 w (.bool b_a) m_a (.bool b_b) m_b
      rw [hW]
      clear hW
      replace HT := Lib.hid (HT.out.below HW.out)
      replace H_a := Lib.hid (H_a.out.below HW.out)
      replace H_b := Lib.hid (H_b.out.below HW.out)
      have hB := HW.out
      have B_a := NB
      have B_b := NC
      clear NB NC HW
      refine (zshort_yes (k := 30) (by exact H_a.out) s_a).mono ?_
      rintro e w1 ⟨rfl, hb⟩
      replace HT := Lib.hid (HT.out.below hb)
      replace H_a := Lib.hid (H_a.out.below hb)
      replace H_b := Lib.hid (H_b.out.below hb)
      replace B_a := Lib.hid (B_a.out.below hb)
      replace B_b := Lib.hid (B_b.out.below hb)
      replace hB := below_next hB hb
      clear hb
      have c_a0 := B_a.out.cell0
      have c_a1 := B_a.out.cell1
      have c_b0 := B_b.out.cell0
      have c_b1 := B_b.out.cell1
      go_wp2_with fail
      clear c_a0 c_a1 c_b0 c_b1
      refine (zshort_no (k := 30) (by exact H_b.out) s_b).mono ?_
      rintro e w2 ⟨rfl, hb⟩
      replace HT := Lib.hid (HT.out.below hb)
      replace H_a := Lib.hid (H_a.out.below hb)
      replace H_b := Lib.hid (H_b.out.below hb)
      replace B_a := Lib.hid (B_a.out.below hb)
      replace B_b := Lib.hid (B_b.out.below hb)
      replace hB := below_next hB hb
      clear hb
      have c_a0 := B_a.out.cell0
      have c_a1 := B_a.out.cell1
      have c_b0 := B_b.out.cell0
      have c_b1 := B_b.out.cell1
      go_wp2_with fail
      clear c_a0 c_a1 c_b0 c_b1
      refine (awake_any _ (by exact HT.out)).mono ?_
      rintro e w3 ⟨rfl, hb⟩
      replace HT := Lib.hid (HT.out.below hb)
      replace H_a := Lib.hid (H_a.out.below hb)
      replace H_b := Lib.hid (H_b.out.below hb)
      replace B_a := Lib.hid (B_a.out.below hb)
      replace B_b := Lib.hid (B_b.out.below hb)
      replace hB := below_next hB hb
      clear hb
      have c_a0 := B_a.out.cell0
      have c_a1 := B_a.out.cell1
      have c_b0 := B_b.out.cell0
      have c_b1 := B_b.out.cell1
      go_wp2
      go_ret
      exact ⟨rfl, hB⟩
  · skip
    have HT := Lib.hid htab
    clear htab
    have H_a := Lib.hid h_a
    clear h_a
    have H_b := Lib.hid h_b
    clear h_b
    obtain ⟨zeros1, zeros2⟩ : 0 ≤ zeros ∧ zeros ≤ 255 := by have := Go.bounds_u8 hz_zeros; omega
    clear hz_zeros
    go_enter Tryd.func8, Tryd.ntmps8
    go_wp2_with fail
    obtain ⟨W1, hW, NB, NC, HW, _⟩ := boxes2 w (.bool b_a) m_a (.bool b_b) m_b
    rw [hW]
    clear hW
    replace HT := Lib.hid (HT.out.below HW.out)
    replace H_a := Lib.hid (H_a.out.below HW.out)
    replace H_b := Lib.hid (H_b.out.below HW.out)
    have hB := HW.out
    have B_a := NB
    have B_b := NC
    clear NB NC HW
    refine (zshort_no (k := 30) (by exact H_a.out) s_a).mono ?_
    rintro e w1 ⟨rfl, hb⟩
    replace HT := Lib.hid (HT.out.below hb)
    replace H_a := Lib.hid (H_a.out.below hb)
    replace H_b := Lib.hid (H_b.out.below hb)
    replace B_a := Lib.hid (B_a.out.below hb)
    replace B_b := Lib.hid (B_b.out.below hb)
    replace hB := below_next hB hb
    clear hb
    have c_a0 := B_a.out.cell0
    have c_a1 := B_a.out.cell1
    have c_b0 := B_b.out.cell0
    have c_b1 := B_b.out.cell1
    go_wp2_with fail
    clear c_a0 c_a1 c_b0 c_b1
    refine (awake_any _ (by exact HT.out)).mono ?_
    rintro e w2 ⟨rfl, hb⟩
    replace HT := Lib.hid (HT.out.below hb)
    replace H_a := Lib.hid (H_a.out.below hb)
    replace H_b := Lib.hid (H_b.out.below hb)
    replace B_a := Lib.hid (B_a.out.below hb)
    replace B_b := Lib.hid (B_b.out.below hb)
    replace hB := below_next hB hb
    clear hb
    have c_a0 := B_a.out.cell0
    have c_a1 := B_a.out.cell1
    have c_b0 := B_b.out.cell0
    have c_b1 := B_b.out.cell1
    go_wp2
    go_ret
    exact ⟨rfl, hB⟩
end Go.Proofs.YtcdfhiocglibfaaDoor
