/- RatioOfs -/
import Derived.Test.YtoflndeonegkpaaGreatDoorQ8
import Derived.Test.YtoflndeonegkpaaGreatDoorR1
import Derived.OpenShut
namespace Go.Proofs.YtoflndeonegkpaaGreatDoor
open Go.RowKit

set_option maxRecDepth 100000 in
set_option maxHeartbeats 8000000 in
theorem walk_RatioOfs (n : Int) (d : Int) (w : World) (hz_n : (Lit.int .i64 n).wf = true) (hz_d : (Lit.int .i64 d).wf = true) (htab : Tab w) : Calls Tryz.prog 3 #[.int .i64 n, .int .i64 d] w (GivesTrue w) := by
  by_cases h0 : d = 0
  · skip
    have HT := Lib.hid htab
    clear htab
    obtain ⟨n1, n2⟩ : -9223372036854775808 ≤ n ∧ n ≤ 9223372036854775807 := by have := Go.bounds_i64 hz_n; omega
    clear hz_n
    obtain ⟨d1, d2⟩ : -9223372036854775808 ≤ d ∧ d ≤ 9223372036854775807 := by have := Go.bounds_i64 hz_d; omega
    clear hz_d
    subst h0
    go_enter Tryz.func3, Tryz.ntmps3
    go_wp2_with fail
    refine (qof_zero n _).mono ?_
    rintro e w1 ⟨rfl, hb⟩
    replace HT := Lib.hid (HT.out.below hb)
    have hB := hb
    clear hb
    go_upto_region 2 with fail
    obtain ⟨W2, g_x, hV, hg, NB, hb⟩ := newR w1 (.bool false) (.slice none 0 0) (.slice none 0 0)
    rw [hV, hg]
    clear hV
    replace HT := Lib.hid (HT.out.below hb)
    replace hB := below_next hB hb
    have B_x := NB
    clear NB hb hg
    have c_x0 := B_x.out.cell0
    have c_x1 := B_x.out.cell1
    have c_x2 := B_x.out.cell2
    go_wp2_with fail
    clear c_x0 c_x1 c_x2
    refine (r3of_zero n _).mono ?_
    rintro e w3 ⟨rfl, hb⟩
    replace HT := Lib.hid (HT.out.below hb)
    replace B_x := Lib.hid (B_x.out.below hb)
    replace hB := below_next hB hb
    clear hb
    have c_x0 := B_x.out.cell0
    have c_x1 := B_x.out.cell1
    have c_x2 := B_x.out.cell2
    go_upto_region 3 with fail
    clear c_x0 c_x1 c_x2
    obtain ⟨W4, g_y, hV, hg, NB, hb⟩ := newR w3 (.bool false) (.slice none 0 0) (.slice none 0 0)
    rw [hV, hg]
    clear hV
    have l_y_x : g_x < g_y := hg ▸ B_x.out.lt
    replace HT := Lib.hid (HT.out.below hb)
    replace B_x := Lib.hid (B_x.out.below hb)
    replace hB := below_next hB hb
    have B_y := NB
    clear NB hb hg
    have c_x0 := B_x.out.cell0
    have c_x1 := B_x.out.cell1
    have c_x2 := B_x.out.cell2
    have c_y0 := B_y.out.cell0
    have c_y1 := B_y.out.cell1
    have c_y2 := B_y.out.cell2
    go_wp2_with fail
    clear c_x0 c_x1 c_x2 c_y0 c_y1 c_y2
    refine (rsame (zat_nil _) (zat_nil _) (NatAt.nil _) (NatAt.nil _)).mono ?_
    rintro e w5 ⟨rfl, hb⟩
    replace HT := Lib.hid (HT.out.below hb)
    replace B_x := Lib.hid (B_x.out.below hb)
    replace B_y := Lib.hid (B_y.out.below hb)
    replace hB := below_next hB hb
    clear hb
    have c_x0 := B_x.out.cell0
    have c_x1 := B_x.out.cell1
    have c_x2 := B_x.out.cell2
    have c_y0 := B_y.out.cell0
    have c_y1 := B_y.out.cell1
    have c_y2 := B_y.out.cell2
    go_wp2_with fail
    clear c_x0 c_x1 c_x2 c_y0 c_y1 c_y2
    refine (holds_any _ (by exact HT.out)).mono ?_
    rintro e w6 ⟨rfl, hb⟩
    replace HT := Lib.hid (HT.out.below hb)
    replace B_x := Lib.hid (B_x.out.below hb)
    replace B_y := Lib.hid (B_y.out.below hb)
    replace hB := below_next hB hb
    clear hb
    have c_x0 := B_x.out.cell0
    have c_x1 := B_x.out.cell1
    have c_x2 := B_x.out.cell2
    have c_y0 := B_y.out.cell0
    have c_y1 := B_y.out.cell1
    have c_y2 := B_y.out.cell2
    go_wp2
    go_ret
    exact ⟨rfl, hB⟩
  · skip
    have HT := Lib.hid htab
    clear htab
    obtain ⟨n1, n2⟩ : -9223372036854775808 ≤ n ∧ n ≤ 9223372036854775807 := by have := Go.bounds_i64 hz_n; omega
    clear hz_n
    obtain ⟨d1, d2⟩ : -9223372036854775808 ≤ d ∧ d ≤ 9223372036854775807 := by have := Go.bounds_i64 hz_d; omega
    clear hz_d
    go_enter Tryz.func3, Tryz.ntmps3
    go_wp2_with fail
    refine (qof_any n d _ n1 n2 d1 d2 h0).mono ?_
    rintro e w1 ⟨b_x, A_x, n_x, c_x, D_x, e_x, f_x, rfl, h_x, hb⟩
    replace HT := Lib.hid (HT.out.below hb)
    have hB := hb
    clear hb
    have Q_x := Lib.hid h_x
    clear h_x
    go_upto_region 2 with fail
    obtain ⟨W2, g_x, hV, hg, NB, hb⟩ := newR w1 (.bool b_x) (.slice A_x n_x c_x) (.slice D_x e_x f_x)
    rw [hV, hg]
    clear hV
    replace HT := Lib.hid (HT.out.below hb)
    replace Q_x := Lib.hid (Q_x.out.below hb)
    replace hB := below_next hB hb
    have B_x := NB
    clear NB hb hg
    have c_x0 := B_x.out.cell0
    have c_x1 := B_x.out.cell1
    have c_x2 := B_x.out.cell2
    go_wp2_with fail
    clear c_x0 c_x1 c_x2
    refine (r3of_any n d _ n1 n2 d1 d2 h0).mono ?_
    rintro e w3 ⟨b_y, A_y, n_y, c_y, D_y, e_y, f_y, rfl, h_y, hb⟩
    replace HT := Lib.hid (HT.out.below hb)
    replace Q_x := Lib.hid (Q_x.out.below hb)
    replace B_x := Lib.hid (B_x.out.below hb)
    replace hB := below_next hB hb
    clear hb
    have Q_y := Lib.hid h_y
    clear h_y
    have c_x0 := B_x.out.cell0
    have c_x1 := B_x.out.cell1
    have c_x2 := B_x.out.cell2
    go_upto_region 3 with fail
    clear c_x0 c_x1 c_x2
    obtain ⟨W4, g_y, hV, hg, NB, hb⟩ := newR w3 (.bool b_y) (.slice A_y n_y c_y) (.slice D_y e_y f_y)
    rw [hV, hg]
    clear hV
    have l_y_x : g_x < g_y := hg ▸ B_x.out.lt
    replace HT := Lib.hid (HT.out.below hb)
    replace Q_x := Lib.hid (Q_x.out.below hb)
    replace Q_y := Lib.hid (Q_y.out.below hb)
    replace B_x := Lib.hid (B_x.out.below hb)
    replace hB := below_next hB hb
    have B_y := NB
    clear NB hb hg
    have c_x0 := B_x.out.cell0
    have c_x1 := B_x.out.cell1
    have c_x2 := B_x.out.cell2
    have c_y0 := B_y.out.cell0
    have c_y1 := B_y.out.cell1
    have c_y2 := B_y.out.cell2
    go_wp2_with fail
    clear c_x0 c_x1 c_x2 c_y0 c_y1 c_y2
    refine (rsame_q (by exact Q_x.out) (by exact Q_y.out) rfl).mono ?_
    rintro e w5 ⟨rfl, hb⟩
    replace HT := Lib.hid (HT.out.below hb)
    replace Q_x := Lib.hid (Q_x.out.below hb)
    replace Q_y := Lib.hid (Q_y.out.below hb)
    replace B_x := Lib.hid (B_x.out.below hb)
    replace B_y := Lib.hid (B_y.out.below hb)
    replace hB := below_next hB hb
    clear hb
    have c_x0 := B_x.out.cell0
    have c_x1 := B_x.out.cell1
    have c_x2 := B_x.out.cell2
    have c_y0 := B_y.out.cell0
    have c_y1 := B_y.out.cell1
    have c_y2 := B_y.out.cell2
    go_wp2_with fail
    clear c_x0 c_x1 c_x2 c_y0 c_y1 c_y2
    refine (holds_any _ (by exact HT.out)).mono ?_
    rintro e w6 ⟨rfl, hb⟩
    replace HT := Lib.hid (HT.out.below hb)
    replace Q_x := Lib.hid (Q_x.out.below hb)
    replace Q_y := Lib.hid (Q_y.out.below hb)
    replace B_x := Lib.hid (B_x.out.below hb)
    replace B_y := Lib.hid (B_y.out.below hb)
    replace hB := below_next hB hb
    clear hb
    have c_x0 := B_x.out.cell0
    have c_x1 := B_x.out.cell1
    have c_x2 := B_x.out.cell2
    have c_y0 := B_y.out.cell0
    have c_y1 := B_y.out.cell1
    have c_y2 := B_y.out.cell2
    go_wp2
    go_ret
    exact ⟨rfl, hB⟩
end Go.Proofs.YtoflndeonegkpaaGreatDoor
