/- RatioParses -/
import Derived.Test.YtoflndeonegkpaaGreatDoorQ8
import Derived.Test.YtoflndeonegkpaaGreatDoorR5
import Derived.Test.YtoflndeonegkpaaGreatDoorQParse
import Derived.OpenShut
namespace Go.Proofs.YtoflndeonegkpaaGreatDoor
open Go.RowKit

theorem qtext_str2 {b : Bool} {m d : Value} {q : Rat} {k : Nat} {w : World} (h : RAt w b m d q k) (hk : 1 ≤ k) (hk2 : k ≤ 100000) (htab : Tab w) : Calls Tryz.prog 17 #[.agg #[.bool b, m, d]] w fun e w' => ∃ t : ByteArray, e = .returned (.string t) ∧ t.data.toList = qtext q ∧ Below w.heap.size w w' :=
  (qtext_any b m d q k w h hk hk2 htab).mono fun _ _ ⟨he, hb⟩ => ⟨_, he, by simp, hb⟩
set_option maxRecDepth 100000 in
set_option maxHeartbeats 8000000 in
theorem walk_RatioParses (s : ByteArray) (w : World) (h_s : s.size ≤ maxLen) (htab : Tab w) : Calls Tryz.prog 5 #[.string s] w (GivesTrue w) := by
  by_cases n_s : s.size ≤ 500
  · by_cases he : qpErr s.data.toList = 0
    · skip
      have HT := Lib.hid htab
      clear htab
      replace h_s : s.size ≤ 9223372036854775807 := h_s
      have ts : decide ((500 : Int) < (s.size : Int)) = false := by simp; omega
      have HE := Lib.hid he
      clear he
      go_enter Tryz.func5, Tryz.ntmps5
      go_wp2_with fail
      refine (qparse_ok s _ h_s HE.out).mono ?_
      rintro e w1 ⟨b_x, A_x, n_x, c_x, D_x, e_x, f_x, rfl, h_x, hb⟩
      replace HT := Lib.hid (HT.out.below hb)
      have hB := hb
      clear hb
      have Q_x := Lib.hid h_x
      clear h_x
      go_upto_region 4 with fail
      obtain ⟨W2, g_x, hV, hg, NB, hb⟩ := newR w1 (.bool b_x) (.slice A_x n_x c_x) (.slice D_x e_x f_x)
      rw [hV, hg]
      clear hV
      replace HT := Lib.hid (HT.out.below hb)
      replace Q_x := Lib.hid (Q_x.out.below hb)
      replace hB := below_next hB hb
      have B_x := NB
      clear NB hb hg
      have c_x0 := B_x.out.cell0
      have c_x1 := B_x.out.cell1
      have c_x2 := B_x.out.cell2
      go_wp2_with fail
      clear c_x0 c_x1 c_x2
      refine (r3parse_ok s _ h_s HE.out).mono ?_
      rintro e w3 ⟨b_y, A_y, n_y, c_y, D_y, e_y, f_y, rfl, h_y, hb⟩
      replace HT := Lib.hid (HT.out.below hb)
      replace Q_x := Lib.hid (Q_x.out.below hb)
      replace B_x := Lib.hid (B_x.out.below hb)
      replace hB := below_next hB hb
      clear hb
      have Q_y := Lib.hid h_y
      clear h_y
      have c_x0 := B_x.out.cell0
      have c_x1 := B_x.out.cell1
      have c_x2 := B_x.out.cell2
      go_upto_region 5 with fail
      clear c_x0 c_x1 c_x2
      obtain ⟨W4, g_y, hV, hg, NB, hb⟩ := newR w3 (.bool b_y) (.slice A_y n_y c_y) (.slice D_y e_y f_y)
      rw [hV, hg]
      clear hV
      have l_y_x : g_x < g_y := hg ▸ B_x.out.lt
      replace HT := Lib.hid (HT.out.below hb)
      replace Q_x := Lib.hid (Q_x.out.below hb)
      replace Q_y := Lib.hid (Q_y.out.below hb)
      replace B_x := Lib.hid (B_x.out.below hb)
      replace hB := below_next hB hb
      have B_y := NB
      clear NB hb hg
      have c_x0 := B_x.out.cell0
      have c_x1 := B_x.out.cell1
      have c_x2 := B_x.out.cell2
      have c_y0 := B_y.out.cell0
      have c_y1 := B_y.out.cell1
      have c_y2 := B_y.out.cell2
      go_wp2_with fail
      clear c_x0 c_x1 c_x2 c_y0 c_y1 c_y2
      refine (rsame_q (by exact Q_x.out) (by exact Q_y.out) rfl).mono ?_
      rintro e w5 ⟨rfl, hb⟩
      replace HT := Lib.hid (HT.out.below hb)
      replace Q_x := Lib.hid (Q_x.out.below hb)
      replace Q_y := Lib.hid (Q_y.out.below hb)
      replace B_x := Lib.hid (B_x.out.below hb)
      replace B_y := Lib.hid (B_y.out.below hb)
      replace hB := below_next hB hb
      clear hb
      have c_x0 := B_x.out.cell0
      have c_x1 := B_x.out.cell1
      have c_x2 := B_x.out.cell2
      have c_y0 := B_y.out.cell0
      have c_y1 := B_y.out.cell1
      have c_y2 := B_y.out.cell2
      go_wp2_with fail
      clear c_x0 c_x1 c_x2 c_y0 c_y1 c_y2
      refine (qtext_str2 (k := 200) (by exact Q_x.out.rat (qp_sz HE.out)) (by omega) (by omega) (by exact HT.out)).mono ?_
      rintro e w6 ⟨t, rfl, ht, hb⟩
      replace HT := Lib.hid (HT.out.below hb)
      replace Q_x := Lib.hid (Q_x.out.below hb)
      replace Q_y := Lib.hid (Q_y.out.below hb)
      replace B_x := Lib.hid (B_x.out.below hb)
      replace B_y := Lib.hid (B_y.out.below hb)
      replace hB := below_next hB hb
      clear hb
      obtain rfl : t = s := bytes_ext (by rw [ht, qp_inv HE.out])
      clear ht
      have c_x0 := B_x.out.cell0
      have c_x1 := B_x.out.cell1
      have c_x2 := B_x.out.cell2
      have c_y0 := B_y.out.cell0
      have c_y1 := B_y.out.cell1
      have c_y2 := B_y.out.cell2
      go_wp2_with fail
      clear c_x0 c_x1 c_x2 c_y0 c_y1 c_y2
      refine (holds_any _ (by exact HT.out)).mono ?_
      rintro e w7 ⟨rfl, hb⟩
      replace HT := Lib.hid (HT.out.below hb)
      replace Q_x := Lib.hid (Q_x.out.below hb)
      replace Q_y := Lib.hid (Q_y.out.below hb)
      replace B_x := Lib.hid (B_x.out.below hb)
      replace B_y := Lib.hid (B_y.out.below hb)
      replace hB := below_next hB hb
      clear hb
      have c_x0 := B_x.out.cell0
      have c_x1 := B_x.out.cell1
      have c_x2 := B_x.out.cell2
      have c_y0 := B_y.out.cell0
      have c_y1 := B_y.out.cell1
      have c_y2 := B_y.out.cell2
      go_wp2
      go_ret
      exact ⟨rfl, hB⟩
    · skip
      have HT := Lib.hid htab
      clear htab
      replace h_s : s.size ≤ 9223372036854775807 := h_s
      have ts : decide ((500 : Int) < (s.size : Int)) = false := by simp; omega
      have eb : (qpErr s.data.toList != 0) = true := by rw [bne_iff_ne]; exact he
      have HE := Lib.hid he
      clear he
      go_enter Tryz.func5, Tryz.ntmps5
      go_wp2_with fail
      refine (qparse_err s _ h_s HE.out).mono ?_
      rintro e w1 ⟨rfl, hb⟩
      replace HT := Lib.hid (HT.out.below hb)
      have hB := hb
      clear hb
      go_upto_region 4 with fail
      obtain ⟨W2, g_x, hV, hg, NB, hb⟩ := newR w1 (.bool false) (.slice none 0 0) (.slice none 0 0)
      rw [hV, hg]
      clear hV
      replace HT := Lib.hid (HT.out.below hb)
      replace hB := below_next hB hb
      have B_x := NB
      clear NB hb hg
      have c_x0 := B_x.out.cell0
      have c_x1 := B_x.out.cell1
      have c_x2 := B_x.out.cell2
      go_wp2_with fail
      clear c_x0 c_x1 c_x2
      refine (r3parse_err s _ h_s HE.out).mono ?_
      rintro e w3 ⟨rfl, hb⟩
      replace HT := Lib.hid (HT.out.below hb)
      replace B_x := Lib.hid (B_x.out.below hb)
      replace hB := below_next hB hb
      clear hb
      have c_x0 := B_x.out.cell0
      have c_x1 := B_x.out.cell1
      have c_x2 := B_x.out.cell2
      go_upto_region 5 with fail
      clear c_x0 c_x1 c_x2
      obtain ⟨W4, g_y, hV, hg, NB, hb⟩ := newR w3 (.bool false) (.slice none 0 0) (.slice none 0 0)
      rw [hV, hg]
      clear hV
      have l_y_x : g_x < g_y := hg ▸ B_x.out.lt
      replace HT := Lib.hid (HT.out.below hb)
      replace B_x := Lib.hid (B_x.out.below hb)
      replace hB := below_next hB hb
      have B_y := NB
      clear NB hb hg
      have c_x0 := B_x.out.cell0
      have c_x1 := B_x.out.cell1
      have c_x2 := B_x.out.cell2
      have c_y0 := B_y.out.cell0
      have c_y1 := B_y.out.cell1
      have c_y2 := B_y.out.cell2
      go_wp2_with fail
      clear c_x0 c_x1 c_x2 c_y0 c_y1 c_y2
      refine (rsame (zat_nil _) (zat_nil _) (NatAt.nil _) (NatAt.nil _)).mono ?_
      rintro e w5 ⟨rfl, hb⟩
      replace HT := Lib.hid (HT.out.below hb)
      replace B_x := Lib.hid (B_x.out.below hb)
      replace B_y := Lib.hid (B_y.out.below hb)
      replace hB := below_next hB hb
      clear hb
      have c_x0 := B_x.out.cell0
      have c_x1 := B_x.out.cell1
      have c_x2 := B_x.out.cell2
      have c_y0 := B_y.out.cell0
      have c_y1 := B_y.out.cell1
      have c_y2 := B_y.out.cell2
      go_wp2_with fail
      clear c_x0 c_x1 c_x2 c_y0 c_y1 c_y2
      refine (holds_any _ (by exact HT.out)).mono ?_
      rintro e w6 ⟨rfl, hb⟩
      replace HT := Lib.hid (HT.out.below hb)
      replace B_x := Lib.hid (B_x.out.below hb)
      replace B_y := Lib.hid (B_y.out.below hb)
      replace hB := below_next hB hb
      clear hb
      have c_x0 := B_x.out.cell0
      have c_x1 := B_x.out.cell1
      have c_x2 := B_x.out.cell2
      have c_y0 := B_y.out.cell0
      have c_y1 := B_y.out.cell1
      have c_y2 := B_y.out.cell2
      go_wp2
      go_ret
      exact ⟨rfl, hB⟩
  · skip
    have HT := Lib.hid htab
    clear htab
    replace h_s : s.size ≤ 9223372036854775807 := h_s
    have ts : decide ((500 : Int) < (s.size : Int)) = true := by simp; omega
    go_enter Tryz.func5, Tryz.ntmps5
    go_wp2_with fail
    refine (holds_any _ (by exact HT.out)).mono ?_
    rintro e w1 ⟨rfl, hb⟩
    replace HT := Lib.hid (HT.out.below hb)
    have hB := hb
    clear hb
    go_wp2
    go_ret
    exact ⟨rfl, hB⟩
end Go.Proofs.YtoflndeonegkpaaGreatDoor
