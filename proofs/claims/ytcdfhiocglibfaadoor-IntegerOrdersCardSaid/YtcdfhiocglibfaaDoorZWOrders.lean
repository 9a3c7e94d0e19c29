/- The law IntegerOrders: its walk. -/
import Derived.Test.YtcdfhiocglibfaaDoorZWOrdLt1
import Derived.Test.YtcdfhiocglibfaaDoorZWOrdLt0
import Derived.Test.YtcdfhiocglibfaaDoorZWOrdEq1
import Derived.Test.YtcdfhiocglibfaaDoorZWOrdEq0
import Derived.Test.YtcdfhiocglibfaaDoorZWOrdGt
namespace Go.Proofs.YtcdfhiocglibfaaDoor
open Go.RowKit

set_option maxRecDepth 100000 in
set_option maxHeartbeats 8000000 in
theorem walk_IntegerOrders (b_a : Bool) (m_a : Value) (l_a : List Nat) (b_b : Bool) (m_b : Value) (l_b : List Nat) (b_c : Bool) (m_c : Value) (l_c : List Nat) (w : World) (h_a : NatAt w m_a l_a) (h_b : NatAt w m_b l_b) (h_c : NatAt w m_c l_c) (htab : Tab w) : Calls Tryd.prog 11 #[.agg #[.bool b_a, m_a], .agg #[.bool b_b, m_b], .agg #[.bool b_c, m_c]] w (GivesTrue w) := by
  by_cases s_a : l_a.length ≤ 30
  · by_cases s_b : l_b.length ≤ 30
    · by_cases s_c : l_c.length ≤ 30
      · rcases Int.lt_trichotomy (zval b_a l_a) (zval b_b l_b) with hc | hc | hc
        · by_cases hd : zval b_c l_c < zval b_b l_b
          · exact orders_lt1 b_a m_a l_a b_b m_b l_b b_c m_c l_c w h_a h_b h_c htab s_a s_b s_c hc hd
          · exact orders_lt0 b_a m_a l_a b_b m_b l_b b_c m_c l_c w h_a h_b h_c htab s_a s_b s_c hc hd
        · by_cases hd : zval b_c l_c < zval b_b l_b
          · exact orders_eq1 b_a m_a l_a b_b m_b l_b b_c m_c l_c w h_a h_b h_c htab s_a s_b s_c hc hd
          · exact orders_eq0 b_a m_a l_a b_b m_b l_b b_c m_c l_c w h_a h_b h_c htab s_a s_b s_c hc hd
        · exact orders_gt b_a m_a l_a b_b m_b l_b b_c m_c l_c w h_a h_b h_c htab s_a s_b s_c hc
      · skip
        have HT := Lib.hid htab
        clear htab
        have H_a := Lib.hid h_a
        clear h_a
        have H_b := Lib.hid h_b
        clear h_b
        have H_c := Lib.hid h_c
        clear h_c
        go_enter Tryd.func11, Tryd.ntmps11
        go_wp2_with fail
        obtain ⟨W1, hW, NB, NC, ND, HW, _⟩ := boxes3 w (.bool b_a) m_a (.bool b_b) m_b (.bool b_c) m_c
        rw [hW]
        clear hW
        replace HT := Lib.hid (HT.out.below HW.out)
        replace H_a := Lib.hid (H_a.out.below HW.out)
        replace H_b := Lib.hid (H_b.out.below HW.out)
        replace H_c := Lib.hid (H_c.out.below HW.out)
        have hB := HW.out
        have B_a := NB
        have B_b := NC
        have B_c := ND
        clear NB NC ND HW
        refine (zshort_yes (k := 30) (by exact H_a.out) s_a).mono ?_
        rintro e w1 ⟨rfl, hb⟩
        replace HT := Lib.hid (HT.out.below hb)
        replace H_a := Lib.hid (H_a.out.below hb)
        replace H_b := Lib.hid (H_b.out.below hb)
        replace H_c := Lib.hid (H_c.out.below hb)
        replace B_a := Lib.hid (B_a.out.below hb)
        replace B_b := Lib.hid (B_b.out.below hb)
        replace B_c := Lib.hid (B_c.out.below hb)
        replace hB := below_next hB hb
        clear hb
        have c_a0 := B_a.out.cell0
        have c_a1 := B_a.out.cell1
        have c_b0 := B_b.out.cell0
        have c_b1 := B_b.out.cell1
        have c_c0 := B_c.out.cell0
        have c_c1 := B_c.out.cell1
        go_wp2_with fail
        clear c_a0 c_a1 c_b0 c_b1 c_c0 c_c1
        refine (zshort_yes (k := 30) (by exact H_b.out) s_b).mono ?_
        rintro e w2 ⟨rfl, hb⟩
        replace HT := Lib.hid (HT.out.below hb)
        replace H_a := Lib.hid (H_a.out.below hb)
        replace H_b := Lib.hid (H_b.out.below hb)
        replace H_c := Lib.hid (H_c.out.below hb)
        replace B_a := Lib.hid (B_a.out.below hb)
        replace B_b := Lib.hid (B_b.out.below hb)
        replace B_c := Lib.hid (B_c.out.below hb)
        replace hB := below_next hB hb
        clear hb
        have c_a0 := B_a.out.cell0
        have c_a1 := B_a.out.cell1
        have c_b0 := B_b.out.cell0
        have c_b1 := B_b.out.cell1
        have c_c0 := B_c.out.cell0
        have c_c1 := B_c.out.cell1
        go_wp2_with fail
        clear c_a0 c_a1 c_b0 c_b1 c_c0 c_c1
        refine (zshort_no (k := 30) (by exact H_c.out) s_c).mono ?_
        rintro e w3 ⟨rfl, hb⟩
        replace HT := Lib.hid (HT.out.below hb)
        replace H_a := Lib.hid (H_a.out.below hb)
        replace H_b := Lib.hid (H_b.out.below hb)
        replace H_c := Lib.hid (H_c.out.below hb)
        replace B_a := Lib.hid (B_a.out.below hb)
        replace B_b := Lib.hid (B_b.out.below hb)
        replace B_c := Lib.hid (B_c.out.below hb)
        replace hB := below_next hB hb
        clear hb
        have c_a0 := B_a.out.cell0
        have c_a1 := B_a.out.cell1
        have c_b0 := B_b.out.cell0
        have c_b1 := B_b.out.cell1
        have c_c0 := B_c.out.cell0
        have c_c1 := B_c.out.cell1
        go_wp2_with fail
        clear c_a0 c_a1 c_b0 c_b1 c_c0 c_c1
        refine (awake_any _ (by exact HT.out)).mono ?_
        rintro e w4 ⟨rfl, hb⟩
        replace HT := Lib.hid (HT.out.below hb)
        replace H_a := Lib.hid (H_a.out.below hb)
        replace H_b := Lib.hid (H_b.out.below hb)
        replace H_c := Lib.hid (H_c.out.below hb)
        replace B_a := Lib.hid (B_a.out.below hb)
        replace B_b := Lib.hid (B_b.out.below hb)
        replace B_c := Lib.hid (B_c.out.below hb)
        replace hB := below_next hB hb
        clear hb
        have c_a0 := B_a.out.cell0
        have c_a1 := B_a.out.cell1
        have c_b0 := B_b.out.cell0
        have c_b1 := B_b.out.cell1
        have c_c0 := B_c.out.cell0
        have c_c1 := B_c.out.cell1
        go_wp2
        go_ret
        exact ⟨rfl, hB⟩
    · skip
      have HT := Lib.hid htab
      clear htab
      have H_a := Lib.hid h_a
      clear h_a
      have H_b := Lib.hid h_b
      clear h_b
      have H_c := Lib.hid h_c
      clear h_c
      go_enter Tryd.func11, Tryd.ntmps11
      go_wp2_with fail
      obtain ⟨W1, hW, NB, NC, ND, HW, _⟩ := boxes3 w (.bool b_a) m_a (.bool b_b) m_b (.bool b_c) m_c
      rw [hW]
      clear hW
      replace HT := Lib.hid (HT.out.below HW.out)
      replace H_a := Lib.hid (H_a.out.below HW.out)
      replace H_b := Lib.hid (H_b.out.below HW.out)
      replace H_c := Lib.hid (H_c.out.below HW.out)
      have hB := HW.out
      have B_a := NB
      have B_b := NC
      have B_c := ND
      clear NB NC ND HW
      refine (zshort_yes (k := 30) (by exact H_a.out) s_a).mono ?_
      rintro e w1 ⟨rfl, hb⟩
      replace HT := Lib.hid (HT.out.below hb)
      replace H_a := Lib.hid (H_a.out.below hb)
      replace H_b := Lib.hid (H_b.out.below hb)
      replace H_c := Lib.hid (H_c.out.below hb)
      replace B_a := Lib.hid (B_a.out.below hb)
      replace B_b := Lib.hid (B_b.out.below hb)
      replace B_c := Lib.hid (B_c.out.below hb)
      replace hB := below_next hB hb
      clear hb
      have c_a0 := B_a.out.cell0
      have c_a1 := B_a.out.cell1
      have c_b0 := B_b.out.cell0
      have c_b1 := B_b.out.cell1
      have c_c0 := B_c.out.cell0
      have c_c1 := B_c.out.cell1
      go_wp2_with fail
      clear c_a0 c_a1 c_b0 c_b1 c_c0 c_c1
      refine (zshort_no (k := 30) (by exact H_b.out) s_b).mono ?_
      rintro e w2 ⟨rfl, hb⟩
      replace HT := Lib.hid (HT.out.below hb)
      replace H_a := Lib.hid (H_a.out.below hb)
      replace H_b := Lib.hid (H_b.out.below hb)
      replace H_c := Lib.hid (H_c.out.below hb)
      replace B_a := Lib.hid (B_a.out.below hb)
      replace B_b := Lib.hid (B_b.out.below hb)
      replace B_c := Lib.hid (B_c.out.below hb)
      replace hB := below_next hB hb
      clear hb
      have c_a0 := B_a.out.cell0
      have c_a1 := B_a.out.cell1
      have c_b0 := B_b.out.cell0
      have c_b1 := B_b.out.cell1
      have c_c0 := B_c.out.cell0
      have c_c1 := B_c.out.cell1
      go_wp2_with fail
      clear c_a0 c_a1 c_b0 c_b1 c_c0 c_c1
      refine (awake_any _ (by exact HT.out)).mono ?_
      rintro e w3 ⟨rfl, hb⟩
      replace HT := Lib.hid (HT.out.below hb)
      replace H_a := Lib.hid (H_a.out.below hb)
      replace H_b := Lib.hid (H_b.out.below hb)
      replace H_c := Lib.hid (H_c.out.below hb)
      replace B_a := Lib.hid (B_a.out.below hb)
      replace B_b := Lib.hid (B_b.out.below hb)
      replace B_c := Lib.hid (B_c.out.below hb)
      replace hB := below_next hB hb
      clear hb
      have c_a0 := B_a.out.cell0
      have c_a1 := B_a.out.cell1
      have c_b0 := B_b.out.cell0
      have c_b1 := B_b.out.cell1
      have c_c0 := B_c.out.cell0
      have c_c1 := B_c.out.cell1
      go_wp2
      go_ret
      exact ⟨rfl, hB⟩
  · skip
    have HT := Lib.hid htab
    clear htab
    have H_a := Lib.hid h_a
    clear h_a
    have H_b := Lib.hid h_b
    clear h_b
    have H_c := Lib.hid h_c
    clear h_c
    go_enter Tryd.func11, Tryd.ntmps11
    go_wp2_with fail
    obtain ⟨W1, hW, NB, NC, ND, HW, _⟩ := boxes3 w (.bool b_a) m_a (.bool b_b) m_b (.bool b_c) m_c
    rw [hW]
    clear hW
    replace HT := Lib.hid (HT.out.below HW.out)
    replace H_a := Lib.hid (H_a.out.below HW.out)
    replace H_b := Lib.hid (H_b.out.below HW.out)
    replace H_c := Lib.hid (H_c.out.below HW.out)
    have hB := HW.out
    have B_a := NB
    have B_b := NC
    have B_c := ND
    clear NB NC ND HW
    refine (zshort_no (k := 30) (by exact H_a.out) s_a).mono ?_
    rintro e w1 ⟨rfl, hb⟩
    replace HT := Lib.hid (HT.out.below hb)
    replace H_a := Lib.hid (H_a.out.below hb)
    replace H_b := Lib.hid (H_b.out.below hb)
    replace H_c := Lib.hid (H_c.out.below hb)
    replace B_a := Lib.hid (B_a.out.below hb)
    replace B_b := Lib.hid (B_b.out.below hb)
    replace B_c := Lib.hid (B_c.out.below hb)
    replace hB := below_next hB hb
    clear hb
    have c_a0 := B_a.out.cell0
    have c_a1 := B_a.out.cell1
    have c_b0 := B_b.out.cell0
    have c_b1 := B_b.out.cell1
    have c_c0 := B_c.out.cell0
    have c_c1 := B_c.out.cell1
    go_wp2_with fail
    clear c_a0 c_a1 c_b0 c_b1 c_c0 c_c1
    refine (awake_any _ (by exact HT.out)).mono ?_
    rintro e w2 ⟨rfl, hb⟩
    replace HT := Lib.hid (HT.out.below hb)
    replace H_a := Lib.hid (H_a.out.below hb)
    replace H_b := Lib.hid (H_b.out.below hb)
    replace H_c := Lib.hid (H_c.out.below hb)
    replace B_a := Lib.hid (B_a.out.below hb)
    replace B_b := Lib.hid (B_b.out.below hb)
    replace B_c := Lib.hid (B_c.out.below hb)
    replace hB := below_next hB hb
    clear hb
    have c_a0 := B_a.out.cell0
    have c_a1 := B_a.out.cell1
    have c_b0 := B_b.out.cell0
    have c_b1 := B_b.out.cell1
    have c_c0 := B_c.out.cell0
    have c_c1 := B_c.out.cell1
    go_wp2
    go_ret
    exact ⟨rfl, hB⟩
end Go.Proofs.YtcdfhiocglibfaaDoor
