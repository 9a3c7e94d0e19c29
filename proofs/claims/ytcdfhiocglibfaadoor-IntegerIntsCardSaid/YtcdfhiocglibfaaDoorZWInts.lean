/- The law IntegerInts: its walk. -/
import Derived.Test.YtcdfhiocglibfaaDoorAwake
import Derived.Test.YtcdfhiocglibfaaDoorZBase
namespace Go.Proofs.YtcdfhiocglibfaaDoor
open Go.RowKit

set_option maxRecDepth 100000 in
set_option maxHeartbeats 8000000 in
theorem walk_IntegerInts (n : Int) (b_a : Bool) (m_a : Value) (l_a : List Nat) (w : World) (hz_n : (Lit.int .i64 n).wf = true) (h_a : NatAt w m_a l_a) (htab : Tab w) : Calls Tryd.prog 5 #[.int .i64 n, .agg #[.bool b_a, m_a]] w (GivesTrue w) := by
  have HT := Lib.hid htab
  clear htab
  obtain ⟨n1, n2⟩ : -9223372036854775808 ≤ n ∧ n ≤ 9223372036854775807 := by have := Go.bounds_i64 hz_n; omega
  clear hz_n
  have H_a := Lib.hid h_a
  clear h_a
  by_cases s_a : l_a.length ≤ 40
  · skip
    go_enter Tryd.func5, Tryd.ntmps5
    go_wp2_with fail
    obtain ⟨W1, hW, NB, HW⟩ := boxes1 w (.bool b_a) m_a
    rw [hW]
    clear hW
    replace H_a := Lib.hid (H_a.out.below HW.out)
    have hB := HW.out
    have B_a := NB
    clear NB HW
    refine (zshort_yes (k := 40) (by exact H_a.out) s_a).mono ?_
    rintro e w1 ⟨rfl, hb⟩
    replace H_a := Lib.hid (H_a.out.below hb)
    replace B_a := Lib.hid (B_a.out.below hb)
    replace hB := below_next hB hb
    clear hb
    have c_a0 := B_a.out.cell0
    have c_a1 := B_a.out.cell1
    go_wp2_with fail
    clear c_a0 c_a1
    refine (ismall_any _ _ _ 40 _ (by exact ⟨l_a, H_a.out, s_a, rfl⟩) (by omega)).mono ?_
    rintro e w2 ⟨rfl, hb⟩
    replace H_a := Lib.hid (H_a.out.below hb)
    replace B_a := Lib.hid (B_a.out.below hb)
    replace hB := below_next hB hb
    clear hb
    have c_a0 := B_a.out.cell0
    have c_a1 := B_a.out.cell1
    go_wp2_with fail
    clear c_a0 c_a1
    refine (rismall_any _ _ _ 40 _ (by exact ⟨l_a, H_a.out, s_a, rfl⟩) (by omega)).mono ?_
    rintro e w3 ⟨rfl, hb⟩
    replace H_a := Lib.hid (H_a.out.below hb)
    replace B_a := Lib.hid (B_a.out.below hb)
    replace hB := below_next hB hb
    clear hb
    generalize zsmall (zval b_a l_a) = k
    generalize zfits (zval b_a l_a) = ok
    have c_a0 := B_a.out.cell0
    have c_a1 := B_a.out.cell1
    go_wp2_with fail
    clear c_a0 c_a1
    refine (iof_any n _ n1 n2).mono ?_
    rintro e w4 ⟨b_o, A_o, n_o, c_o, rfl, h_o, hb⟩
    replace H_a := Lib.hid (H_a.out.below hb)
    replace B_a := Lib.hid (B_a.out.below hb)
    replace hB := below_next hB hb
    clear hb
    have Z_o := Lib.hid h_o
    clear h_o
    have c_a0 := B_a.out.cell0
    have c_a1 := B_a.out.cell1
    go_wp2_with fail
    clear c_a0 c_a1
    refine (ismall_any _ _ _ 2 _ (by exact Z_o.out.two n1 n2) (by omega)).mono ?_
    rintro e w5 ⟨rfl, hb⟩
    replace H_a := Lib.hid (H_a.out.below hb)
    replace Z_o := Lib.hid (Z_o.out.below hb)
    replace B_a := Lib.hid (B_a.out.below hb)
    replace hB := below_next hB hb
    clear hb
    rw [zsmall_of n1 n2, zfits_of n1 n2]
    have c_a0 := B_a.out.cell0
    have c_a1 := B_a.out.cell1
    go_wp2_with fail
    clear c_a0 c_a1
    refine (iof_any n _ n1 n2).mono ?_
    rintro e w6 ⟨b_p, A_p, n_p, c_p, rfl, h_p, hb⟩
    replace H_a := Lib.hid (H_a.out.below hb)
    replace Z_o := Lib.hid (Z_o.out.below hb)
    replace B_a := Lib.hid (B_a.out.below hb)
    replace hB := below_next hB hb
    clear hb
    have Z_p := Lib.hid h_p
    clear h_p
    have c_a0 := B_a.out.cell0
    have c_a1 := B_a.out.cell1
    go_wp2_with fail
    clear c_a0 c_a1
    refine (riof_any n _ n1 n2).mono ?_
    rintro e w7 ⟨b_q, A_q, n_q, c_q, rfl, h_q, hb⟩
    replace H_a := Lib.hid (H_a.out.below hb)
    replace Z_o := Lib.hid (Z_o.out.below hb)
    replace Z_p := Lib.hid (Z_p.out.below hb)
    replace B_a := Lib.hid (B_a.out.below hb)
    replace hB := below_next hB hb
    clear hb
    have Z_q := Lib.hid h_q
    clear h_q
    have c_a0 := B_a.out.cell0
    have c_a1 := B_a.out.cell1
    go_wp2_with fail
    clear c_a0 c_a1
    refine (zsame_eq (by exact Z_p.out) (by exact Z_q.out) rfl).mono ?_
    rintro e w8 ⟨rfl, hb⟩
    replace H_a := Lib.hid (H_a.out.below hb)
    replace Z_o := Lib.hid (Z_o.out.below hb)
    replace Z_p := Lib.hid (Z_p.out.below hb)
    replace Z_q := Lib.hid (Z_q.out.below hb)
    replace B_a := Lib.hid (B_a.out.below hb)
    replace hB := below_next hB hb
    clear hb
    have c_a0 := B_a.out.cell0
    have c_a1 := B_a.out.cell1
    go_wp2_with fail
    clear c_a0 c_a1
    refine (awake_any _ (by exact HT.out.below hB)).mono ?_
    rintro e w9 ⟨rfl, hb⟩
    replace H_a := Lib.hid (H_a.out.below hb)
    replace Z_o := Lib.hid (Z_o.out.below hb)
    replace Z_p := Lib.hid (Z_p.out.below hb)
    replace Z_q := Lib.hid (Z_q.out.below hb)
    replace B_a := Lib.hid (B_a.out.below hb)
    replace hB := below_next hB hb
    clear hb
    have c_a0 := B_a.out.cell0
    have c_a1 := B_a.out.cell1
    go_wp2
    go_ret
    exact ⟨rfl, hB⟩
  · skip
    go_enter Tryd.func5, Tryd.ntmps5
    go_wp2_with fail
    obtain ⟨W1, hW, NB, HW⟩ := boxes1 w (.bool b_a) m_a
    rw [hW]
    clear hW
    replace H_a := Lib.hid (H_a.out.below HW.out)
    have hB := HW.out
    have B_a := NB
    clear NB HW
    refine (zshort_no (k := 40) (by exact H_a.out) s_a).mono ?_
    rintro e w1 ⟨rfl, hb⟩
    replace H_a := Lib.hid (H_a.out.below hb)
    replace B_a := Lib.hid (B_a.out.below hb)
    replace hB := below_next hB hb
    clear hb
    have c_a0 := B_a.out.cell0
    have c_a1 := B_a.out.cell1
    go_wp2_with fail
    clear c_a0 c_a1
    refine (awake_any _ (by exact HT.out.below hB)).mono ?_
    rintro e w2 ⟨rfl, hb⟩
    replace H_a := Lib.hid (H_a.out.below hb)
    replace B_a := Lib.hid (B_a.out.below hb)
    replace hB := below_next hB hb
    clear hb
    have c_a0 := B_a.out.cell0
    have c_a1 := B_a.out.cell1
    go_wp2
    go_ret
    exact ⟨rfl, hB⟩
end Go.Proofs.YtcdfhiocglibfaaDoor
