/- RatioRoundTrip -/
import Derived.Test.YtoflndeonegkpaaDoorQ8
import Derived.Test.YtoflndeonegkpaaDoorQText
import Derived.Test.YtoflndeonegkpaaDoorRef2
namespace Go.Proofs.YtoflndeonegkpaaDoor
open Go.RowKit

open Go.Lib (decDigits)
theorem qtext_str {b : Bool} {m d : Value} {q : Rat} {k : Nat} {w : World} (h : RAt w b m d q k) (hk : 1 ≤ k) (hk2 : k ≤ 100000) (htab : Tab w) : Calls Tryd.prog 24 #[.agg #[.bool b, m, d]] w fun e w' => ∃ t : ByteArray, e = .returned (.string t) ∧ t.data.toList = qtext q ∧ Below w.heap.size w w' :=
  (qtext_any b m d q k w h hk hk2 htab).mono fun _ _ ⟨he, hb⟩ => ⟨_, he, by simp, hb⟩
theorem qtext_len {q : Rat} (h1 : (decDigits q.num.natAbs).length ≤ 200) (h2 : (decDigits q.den).length ≤ 200) : (qtext q).length ≤ 1000 := by
  unfold qtext ztext
  split <;> split <;> (try simp only [List.length_append, List.length_cons]) <;> omega
set_option maxRecDepth 100000 in
set_option maxHeartbeats 8000000 in
theorem walk_RatioRoundTrip (b_a : Bool) (m_a d_a : Value) (xs_a ys_a : List Nat) (w : World) (h_a : NatAt w m_a xs_a) (g_a : NatAt w d_a ys_a) (htab : Tab w) : Calls Tryd.prog 7 #[.agg #[.bool b_a, m_a, d_a]] w (GivesTrue w) := by
  by_cases s_a : xs_a.length ≤ 30 ∧ ys_a.length ≤ 30
  · skip
    have HT := Lib.hid htab
    clear htab
    have H_a := Lib.hid h_a
    have K_a := Lib.hid g_a
    clear h_a g_a
    go_enter Tryd.func7, Tryd.ntmps7
    go_wp2_with fail
    obtain ⟨W0, hW, B_a, HW, HS⟩ := rbox1 w (.bool b_a) m_a d_a
    rw [hW]
    clear hW
    replace HT := Lib.hid (HT.out.below HW.out)
    replace H_a := Lib.hid (H_a.out.below HW.out)
    replace K_a := Lib.hid (K_a.out.below HW.out)
    have hB := HW.out
    have hsz := HS.out
    clear HW HS
    refine (rlight_is (k := 30) (v := true) (by exact H_a.out) (by exact K_a.out) (decide_eq_true s_a)).mono ?_
    rintro e w1 ⟨rfl, hb⟩
    replace HT := Lib.hid (HT.out.below hb)
    replace H_a := Lib.hid (H_a.out.below hb)
    replace K_a := Lib.hid (K_a.out.below hb)
    replace B_a := Lib.hid (B_a.out.below hb)
    replace hB := below_next hB hb
    clear hb
    obtain ⟨q_a, R_a⟩ : ∃ q, Hid (RAt w1 b_a m_a d_a q 30) := ⟨_, xs_a, ys_a, H_a.out, K_a.out, s_a.1, s_a.2, rfl⟩
    have S_a := R_a.out.sz (by omega)
    clear H_a K_a
    have c_a0 := B_a.out.cell0
    have c_a1 := B_a.out.cell1
    have c_a2 := B_a.out.cell2
    go_wp2_with fail
    clear c_a0 c_a1 c_a2
    refine (qnorm_any _ _ _ _ 30 _ (by exact R_a.out) (by omega) (by omega)).mono ?_
    rintro e w2 ⟨b_x, A_x, n_x, c_x, D_x, e_x, f_x, rfl, h_x, hb⟩
    replace HT := Lib.hid (HT.out.below hb)
    replace R_a := Lib.hid (R_a.out.below hb)
    replace B_a := Lib.hid (B_a.out.below hb)
    replace hB := below_next hB hb
    clear hb
    have Q_x := Lib.hid h_x
    clear h_x
    have c_a0 := B_a.out.cell0
    have c_a1 := B_a.out.cell1
    have c_a2 := B_a.out.cell2
    go_upto_region 4 with fail
    clear c_a0 c_a1 c_a2
    obtain ⟨W3, g_x, hV, hg, NB, hb⟩ := newR w2 (.bool b_x) (.slice A_x n_x c_x) (.slice D_x e_x f_x)
    rw [hV, hg]
    clear hV
    have l_x_a : w.heap.size < g_x := hg ▸ B_a.out.lt
    replace HT := Lib.hid (HT.out.below hb)
    replace R_a := Lib.hid (R_a.out.below hb)
    replace Q_x := Lib.hid (Q_x.out.below hb)
    replace B_a := Lib.hid (B_a.out.below hb)
    replace hB := below_next hB hb
    have B_x := NB
    clear NB hb hg
    have ln := limbs_length_le S_a.1
    have ld := limbs_length_le S_a.2
    have c_a0 := B_a.out.cell0
    have c_a1 := B_a.out.cell1
    have c_a2 := B_a.out.cell2
    have c_x0 := B_x.out.cell0
    have c_x1 := B_x.out.cell1
    have c_x2 := B_x.out.cell2
    go_wp2_with fail
    clear c_a0 c_a1 c_a2 c_x0 c_x1 c_x2
    refine (rtext_any _ _ _ (by exact Q_x.out.1.2) (by omega)).mono ?_
    rintro e w4 ⟨rfl, hb⟩
    replace HT := Lib.hid (HT.out.below hb)
    replace R_a := Lib.hid (R_a.out.below hb)
    replace Q_x := Lib.hid (Q_x.out.below hb)
    replace B_a := Lib.hid (B_a.out.below hb)
    replace B_x := Lib.hid (B_x.out.below hb)
    replace hB := below_next hB hb
    clear hb
    rw [val_limbs]
    by_cases d1 : (decDigits q_a.num.natAbs).length ≤ 200
    · skip
      have t1 : decide ((200 : Int) < ((decDigits q_a.num.natAbs).length : Int)) = false := by simp; omega
      have c_a0 := B_a.out.cell0
      have c_a1 := B_a.out.cell1
      have c_a2 := B_a.out.cell2
      have c_x0 := B_x.out.cell0
      have c_x1 := B_x.out.cell1
      have c_x2 := B_x.out.cell2
      go_wp2_with fail
      clear c_a0 c_a1 c_a2 c_x0 c_x1 c_x2
      refine (rtext_any _ _ _ (by exact Q_x.out.2) (by omega)).mono ?_
      rintro e w5 ⟨rfl, hb⟩
      replace HT := Lib.hid (HT.out.below hb)
      replace R_a := Lib.hid (R_a.out.below hb)
      replace Q_x := Lib.hid (Q_x.out.below hb)
      replace B_a := Lib.hid (B_a.out.below hb)
      replace B_x := Lib.hid (B_x.out.below hb)
      replace hB := below_next hB hb
      clear hb
      rw [val_limbs]
      by_cases d2 : (decDigits q_a.den).length ≤ 200
      · skip
        have t2 : decide ((200 : Int) < ((decDigits q_a.den).length : Int)) = false := by simp; omega
        have c_a0 := B_a.out.cell0
        have c_a1 := B_a.out.cell1
        have c_a2 := B_a.out.cell2
        have c_x0 := B_x.out.cell0
        have c_x1 := B_x.out.cell1
        have c_x2 := B_x.out.cell2
        go_wp2_with fail
        clear c_a0 c_a1 c_a2 c_x0 c_x1 c_x2
        refine (qtext_str (k := 30) (by exact R_a.out) (by omega) (by omega) (by exact HT.out)).mono ?_
        rintro e w6 ⟨t, rfl, ht, hb⟩
        replace HT := Lib.hid (HT.out.below hb)
        replace R_a := Lib.hid (R_a.out.below hb)
        replace Q_x := Lib.hid (Q_x.out.below hb)
        replace B_a := Lib.hid (B_a.out.below hb)
        replace B_x := Lib.hid (B_x.out.below hb)
        replace hB := below_next hB hb
        clear hb
        have Ht := Lib.hid ht
        have lt : t.size ≤ 1000 := by rw [← size_list, ht]; exact qtext_len d1 d2
        clear ht
        have c_a0 := B_a.out.cell0
        have c_a1 := B_a.out.cell1
        have c_a2 := B_a.out.cell2
        have c_x0 := B_x.out.cell0
        have c_x1 := B_x.out.cell1
        have c_x2 := B_x.out.cell2
        go_wp2_with fail
        clear c_a0 c_a1 c_a2 c_x0 c_x1 c_x2
        refine (qparse_ok t _ (by omega) (by rw [Ht.out]; exact (qp_text d1 d2).1)).mono ?_
        rintro e w7 ⟨b_y, A_y, n_y, c_y, D_y, e_y, f_y, rfl, h_y, hb⟩
        replace HT := Lib.hid (HT.out.below hb)
        replace R_a := Lib.hid (R_a.out.below hb)
        replace Q_x := Lib.hid (Q_x.out.below hb)
        replace B_a := Lib.hid (B_a.out.below hb)
        replace B_x := Lib.hid (B_x.out.below hb)
        replace hB := below_next hB hb
        clear hb
        rw [Ht.out, (qp_text d1 d2).2] at h_y
        have Q_y := Lib.hid h_y
        clear h_y
        have c_a0 := B_a.out.cell0
        have c_a1 := B_a.out.cell1
        have c_a2 := B_a.out.cell2
        have c_x0 := B_x.out.cell0
        have c_x1 := B_x.out.cell1
        have c_x2 := B_x.out.cell2
        go_upto_region 7 with fail
        clear c_a0 c_a1 c_a2 c_x0 c_x1 c_x2
        obtain ⟨W8, g_y, hV, hg, NB, hb⟩ := newR w7 (.bool b_y) (.slice A_y n_y c_y) (.slice D_y e_y f_y)
        rw [hV, hg]
        clear hV
        have l_y_a : w.heap.size < g_y := hg ▸ B_a.out.lt
        have l_y_x : g_x < g_y := hg ▸ B_x.out.lt
        replace HT := Lib.hid (HT.out.below hb)
        replace R_a := Lib.hid (R_a.out.below hb)
        replace Q_x := Lib.hid (Q_x.out.below hb)
        replace Q_y := Lib.hid (Q_y.out.below hb)
        replace B_a := Lib.hid (B_a.out.below hb)
        replace B_x := Lib.hid (B_x.out.below hb)
        replace hB := below_next hB hb
        have B_y := NB
        clear NB hb hg
        have c_a0 := B_a.out.cell0
        have c_a1 := B_a.out.cell1
        have c_a2 := B_a.out.cell2
        have c_x0 := B_x.out.cell0
        have c_x1 := B_x.out.cell1
        have c_x2 := B_x.out.cell2
        have c_y0 := B_y.out.cell0
        have c_y1 := B_y.out.cell1
        have c_y2 := B_y.out.cell2
        go_wp2_with fail
        clear c_a0 c_a1 c_a2 c_x0 c_x1 c_x2 c_y0 c_y1 c_y2
        refine (rsame_q (by exact Q_y.out) (by exact Q_x.out) rfl).mono ?_
        rintro e w9 ⟨rfl, hb⟩
        replace HT := Lib.hid (HT.out.below hb)
        replace R_a := Lib.hid (R_a.out.below hb)
        replace Q_x := Lib.hid (Q_x.out.below hb)
        replace Q_y := Lib.hid (Q_y.out.below hb)
        replace B_a := Lib.hid (B_a.out.below hb)
        replace B_x := Lib.hid (B_x.out.below hb)
        replace B_y := Lib.hid (B_y.out.below hb)
        replace hB := below_next hB hb
        clear hb
        have c_a0 := B_a.out.cell0
        have c_a1 := B_a.out.cell1
        have c_a2 := B_a.out.cell2
        have c_x0 := B_x.out.cell0
        have c_x1 := B_x.out.cell1
        have c_x2 := B_x.out.cell2
        have c_y0 := B_y.out.cell0
        have c_y1 := B_y.out.cell1
        have c_y2 := B_y.out.cell2
        go_wp2_with fail
        clear c_a0 c_a1 c_a2 c_x0 c_x1 c_x2 c_y0 c_y1 c_y2
        refine (holds_any _ (by exact HT.out)).mono ?_
        rintro e w10 ⟨rfl, hb⟩
        replace HT := Lib.hid (HT.out.below hb)
        replace R_a := Lib.hid (R_a.out.below hb)
        replace Q_x := Lib.hid (Q_x.out.below hb)
        replace Q_y := Lib.hid (Q_y.out.below hb)
        replace B_a := Lib.hid (B_a.out.below hb)
        replace B_x := Lib.hid (B_x.out.below hb)
        replace B_y := Lib.hid (B_y.out.below hb)
        replace hB := below_next hB hb
        clear hb
        have c_a0 := B_a.out.cell0
        have c_a1 := B_a.out.cell1
        have c_a2 := B_a.out.cell2
        have c_x0 := B_x.out.cell0
        have c_x1 := B_x.out.cell1
        have c_x2 := B_x.out.cell2
        have c_y0 := B_y.out.cell0
        have c_y1 := B_y.out.cell1
        have c_y2 := B_y.out.cell2
        go_wp2
        go_ret
        exact ⟨rfl, hB⟩
      · skip
        have t2 : decide ((200 : Int) < ((decDigits q_a.den).length : Int)) = true := by simp; omega
        have c_a0 := B_a.out.cell0
        have c_a1 := B_a.out.cell1
        have c_a2 := B_a.out.cell2
        have c_x0 := B_x.out.cell0
        have c_x1 := B_x.out.cell1
        have c_x2 := B_x.out.cell2
        go_wp2_with fail
        clear c_a0 c_a1 c_a2 c_x0 c_x1 c_x2
        refine (holds_any _ (by exact HT.out)).mono ?_
        rintro e w11 ⟨rfl, hb⟩
        replace HT := Lib.hid (HT.out.below hb)
        replace R_a := Lib.hid (R_a.out.below hb)
        replace Q_x := Lib.hid (Q_x.out.below hb)
        replace B_a := Lib.hid (B_a.out.below hb)
        replace B_x := Lib.hid (B_x.out.below hb)
        replace hB := below_next hB hb
        clear hb
        have c_a0 := B_a.out.cell0
        have c_a1 := B_a.out.cell1
        have c_a2 := B_a.out.cell2
        have c_x0 := B_x.out.cell0
        have c_x1 := B_x.out.cell1
        have c_x2 := B_x.out.cell2
        go_wp2
        go_ret
        exact ⟨rfl, hB⟩
    · skip
      have t1 : decide ((200 : Int) < ((decDigits q_a.num.natAbs).length : Int)) = true := by simp; omega
      have c_a0 := B_a.out.cell0
      have c_a1 := B_a.out.cell1
      have c_a2 := B_a.out.cell2
      have c_x0 := B_x.out.cell0
      have c_x1 := B_x.out.cell1
      have c_x2 := B_x.out.cell2
      go_wp2_with fail
      clear c_a0 c_a1 c_a2 c_x0 c_x1 c_x2
      refine (holds_any _ (by exact HT.out)).mono ?_
      rintro e w12 ⟨rfl, hb⟩
      replace HT := Lib.hid (HT.out.below hb)
      replace R_a := Lib.hid (R_a.out.below hb)
      replace Q_x := Lib.hid (Q_x.out.below hb)
      replace B_a := Lib.hid (B_a.out.below hb)
      replace B_x := Lib.hid (B_x.out.below hb)
      replace hB := below_next hB hb
      clear hb
      have c_a0 := B_a.out.cell0
      have c_a1 := B_a.out.cell1
      have c_a2 := B_a.out.cell2
      have c_x0 := B_x.out.cell0
      have c_x1 := B_x.out.cell1
      have c_x2 := B_x.out.cell2
      go_wp2
      go_ret
      exact ⟨rfl, hB⟩
  · skip
    have HT := Lib.hid htab
    clear htab
    have H_a := Lib.hid h_a
    have K_a := Lib.hid g_a
    clear h_a g_a
    go_enter Tryd.func7, Tryd.ntmps7
    go_wp2_with fail
    obtain ⟨W0, hW, B_a, HW, HS⟩ := rbox1 w (.bool b_a) m_a d_a
    rw [hW]
    clear hW
    replace HT := Lib.hid (HT.out.below HW.out)
    replace H_a := Lib.hid (H_a.out.below HW.out)
    replace K_a := Lib.hid (K_a.out.below HW.out)
    have hB := HW.out
    have hsz := HS.out
    clear HW HS
    refine (rlight_is (k := 30) (v := false) (by exact H_a.out) (by exact K_a.out) (decide_eq_false s_a)).mono ?_
    rintro e w1 ⟨rfl, hb⟩
    replace HT := Lib.hid (HT.out.below hb)
    replace H_a := Lib.hid (H_a.out.below hb)
    replace K_a := Lib.hid (K_a.out.below hb)
    replace B_a := Lib.hid (B_a.out.below hb)
    replace hB := below_next hB hb
    clear hb
    have c_a0 := B_a.out.cell0
    have c_a1 := B_a.out.cell1
    have c_a2 := B_a.out.cell2
    go_wp2_with fail
    clear c_a0 c_a1 c_a2
    refine (holds_any _ (by exact HT.out)).mono ?_
    rintro e w2 ⟨rfl, hb⟩
    replace HT := Lib.hid (HT.out.below hb)
    replace H_a := Lib.hid (H_a.out.below hb)
    replace K_a := Lib.hid (K_a.out.below hb)
    replace B_a := Lib.hid (B_a.out.below hb)
    replace hB := below_next hB hb
    clear hb
    have c_a0 := B_a.out.cell0
    have c_a1 := B_a.out.cell1
    have c_a2 := B_a.out.cell2
    go_wp2
    go_ret
    exact ⟨rfl, hB⟩
end Go.Proofs.YtoflndeonegkpaaDoor
