/- garmentlaw02.short. -/
import Derived.Test.YtcdfhiocglibfaaDoorZBase
namespace Go.Proofs.YtcdfhiocglibfaaDoor
open Go.RowKit

set_option maxHeartbeats 2000000 in
theorem zshort2 (b_a : Bool) (m_a : Value) (l_a : List Nat) (b_b : Bool) (m_b : Value) (l_b : List Nat) (w : World) (h_a : NatAt w m_a l_a) (h_b : NatAt w m_b l_b) : Calls Tryd.prog 12 #[.agg #[.bool b_a, m_a], .agg #[.bool b_b, m_b]] w (GivesBool w (decide (l_a.length ≤ 40 ∧ l_b.length ≤ 40))) := by
  have H_a := Lib.hid h_a
  clear h_a
  have H_b := Lib.hid h_b
  clear h_b
  by_cases s_a : l_a.length ≤ 40
  · by_cases s_b : l_b.length ≤ 40
    · skip
      rw [decide_eq_true (And.intro s_a s_b)]
      go_enter Tryd.func12, Tryd.ntmps12
      go_wp2_with fail
      obtain ⟨W1, hW, NB, NC, HW, _⟩ := boxes2 w (.bool b_a) m_a (.bool b_b) m_b
      rw [hW]
      clear hW
      replace H_a := Lib.hid (H_a.out.below HW.out)
      replace H_b := Lib.hid (H_b.out.below HW.out)
      have hB := HW.out
      have B_a := NB
      have B_b := NC
      clear NB NC HW
      refine (zshort_yes (k := 40) (by exact H_a.out) s_a).mono ?_
      rintro e w1 ⟨rfl, hb⟩
      replace H_a := Lib.hid (H_a.out.below hb)
      replace H_b := Lib.hid (H_b.out.below hb)
      replace B_a := Lib.hid (B_a.out.below hb)
      replace B_b := Lib.hid (B_b.out.below hb)
      replace hB := below_next hB hb
      clear hb
      have c_a0 := B_a.out.cell0
      have c_a1 := B_a.out.cell1
      have c_b0 := B_b.out.cell0
      have c_b1 := B_b.out.cell1
      go_wp2_with fail
      clear c_a0 c_a1 c_b0 c_b1
      refine (zshort_yes (k := 40) (by exact H_b.out) s_b).mono ?_
      rintro e w2 ⟨rfl, hb⟩
      replace H_a := Lib.hid (H_a.out.below hb)
      replace H_b := Lib.hid (H_b.out.below hb)
      replace B_a := Lib.hid (B_a.out.below hb)
      replace B_b := Lib.hid (B_b.out.below hb)
      replace hB := below_next hB hb
      clear hb
      have c_a0 := B_a.out.cell0
      have c_a1 := B_a.out.cell1
      have c_b0 := B_b.out.cell0
      have c_b1 := B_b.out.cell1
      go_wp2
      go_ret
      exact ⟨rfl, hB⟩
    · skip
      rw [decide_eq_false (fun h => s_b h.2)]
      go_enter Tryd.func12, Tryd.ntmps12
      go_wp2_with fail
      obtain ⟨W1, hW, NB, NC, HW, _⟩ := boxes2 w (.bool b_a) m_a (.bool b_b) m_b
      rw [hW]
      clear hW
      replace H_a := Lib.hid (H_a.out.below HW.out)
      replace H_b := Lib.hid (H_b.out.below HW.out)
      have hB := HW.out
      have B_a := NB
      have B_b := NC
      clear NB NC HW
      refine (zshort_yes (k := 40) (by exact H_a.out) s_a).mono ?_
      rintro e w1 ⟨rfl, hb⟩
      replace H_a := Lib.hid (H_a.out.below hb)
      replace H_b := Lib.hid (H_b.out.below hb)
      replace B_a := Lib.hid (B_a.out.below hb)
      replace B_b := Lib.hid (B_b.out.below hb)
      replace hB := below_next hB hb
      clear hb
      have c_a0 := B_a.out.cell0
      have c_a1 := B_a.out.cell1
      have c_b0 := B_b.out.cell0
      have c_b1 := B_b.out.cell1
      go_wp2_with fail
      clear c_a0 c_a1 c_b0 c_b1
      refine (zshort_no (k := 40) (by exact H_b.out) s_b).mono ?_
      rintro e w2 ⟨rfl, hb⟩
      replace H_a := Lib.hid (H_a.out.below hb)
      replace H_b := Lib.hid (H_b.out.below hb)
      replace B_a := Lib.hid (B_a.out.below hb)
      replace B_b := Lib.hid (B_b.out.below hb)
      replace hB := below_next hB hb
      clear hb
      have c_a0 := B_a.out.cell0
      have c_a1 := B_a.out.cell1
      have c_b0 := B_b.out.cell0
      have c_b1 := B_b.out.cell1
      go_wp2
      go_ret
      exact ⟨rfl, hB⟩
  · skip
    rw [decide_eq_false (fun h => s_a h.1)]
    go_enter Tryd.func12, Tryd.ntmps12
    go_wp2_with fail
    obtain ⟨W1, hW, NB, NC, HW, _⟩ := boxes2 w (.bool b_a) m_a (.bool b_b) m_b
    rw [hW]
    clear hW
    replace H_a := Lib.hid (H_a.out.below HW.out)
    replace H_b := Lib.hid (H_b.out.below HW.out)
    have hB := HW.out
    have B_a := NB
    have B_b := NC
    clear NB NC HW
    refine (zshort_no (k := 40) (by exact H_a.out) s_a).mono ?_
    rintro e w1 ⟨rfl, hb⟩
    replace H_a := Lib.hid (H_a.out.below hb)
    replace H_b := Lib.hid (H_b.out.below hb)
    replace B_a := Lib.hid (B_a.out.below hb)
    replace B_b := Lib.hid (B_b.out.below hb)
    replace hB := below_next hB hb
    clear hb
    have c_a0 := B_a.out.cell0
    have c_a1 := B_a.out.cell1
    have c_b0 := B_b.out.cell0
    have c_b1 := B_b.out.cell1
    go_wp2
    go_ret
    exact ⟨rfl, hB⟩
theorem zshort2_is {b1 b2 v : Bool} {m1 m2 : Value} {l1 l2 : List Nat} {w : World} (h1 : NatAt w m1 l1) (h2 : NatAt w m2 l2) (h : decide (l1.length ≤ 40 ∧ l2.length ≤ 40) = v) : Calls Tryd.prog 12 #[.agg #[.bool b1, m1], .agg #[.bool b2, m2]] w (GivesBool w v) := h ▸ zshort2 b1 m1 l1 b2 m2 l2 w h1 h2
end Go.Proofs.YtcdfhiocglibfaaDoor
