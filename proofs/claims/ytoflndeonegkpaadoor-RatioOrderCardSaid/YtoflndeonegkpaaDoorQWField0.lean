/- RatioField -/
import Derived.Test.YtoflndeonegkpaaDoorQ8
namespace Go.Proofs.YtoflndeonegkpaaDoor
open Go.RowKit

theorem qcmp_is {b1 b2 : Bool} {m1 m2 d1 d2 : Value} {p q : Rat} {k j : Nat} {w : World} {v : Int} (h1 : RAt w b1 m1 d1 p k) (h2 : RAt w b2 m2 d2 q j) (hk : 1 ≤ k) (hk2 : k ≤ 50000) (hj : 1 ≤ j) (hj2 : j ≤ 50000) (h : qord p q = v) : Calls Tryd.prog 18 #[.agg #[.bool b1, m1, d1], .agg #[.bool b2, m2, d2]] w (GivesOrd w v) :=
  h ▸ qcmp_any b1 m1 d1 p k b2 m2 d2 q j w h1 h2 hk hk2 hj hj2
theorem qof0 : qof 0 1 = 0 := Rat.ext (by kernel_rfl) (by kernel_rfl)
theorem qof1 : qof 1 1 = 1 := Rat.ext (by kernel_rfl) (by kernel_rfl)
theorem qsz0 : QSz 0 1 := ⟨sz_zero 1, Sz.one⟩
theorem qsz1 : QSz 1 1 := ⟨Sz.one, Sz.one⟩
theorem qord_eq {p q : Rat} (h : p = q) : qord p q = 0 := by subst h; exact qord_self p
theorem qord_lt {p q : Rat} (h : p < q) : qord p q = -1 := if_pos h
theorem qord_gt {p q : Rat} (h : q < p) : qord p q = 1 := by
  unfold qord
  rw [if_neg (Rat.not_lt.2 (Rat.le_of_lt h)), if_pos h]
theorem qord_ne {p q : Rat} (h : p ≠ q) : ∃ v : Int, qord p q = v ∧ (v != 0) = true ∧ (v == 0) = false := by
  by_cases g : p < q
  · exact ⟨-1, qord_lt g, by decide, by decide⟩
  · exact ⟨1, qord_gt (Rat.lt_of_le_of_ne (Rat.not_lt.1 g) (fun e => h e.symm)), by decide, by decide⟩
set_option maxRecDepth 100000 in
set_option maxHeartbeats 8000000 in
theorem field_light (b_a : Bool) (m_a d_a : Value) (xs_a ys_a : List Nat) (b_b : Bool) (m_b d_b : Value) (xs_b ys_b : List Nat) (b_c : Bool) (m_c d_c : Value) (xs_c ys_c : List Nat) (w : World) (h_a : NatAt w m_a xs_a) (g_a : NatAt w d_a ys_a) (h_b : NatAt w m_b xs_b) (g_b : NatAt w d_b ys_b) (h_c : NatAt w m_c xs_c) (g_c : NatAt w d_c ys_c) (htab : Tab w) (s_a : xs_a.length ≤ 6 ∧ ys_a.length ≤ 6) (s_b : xs_b.length ≤ 6 ∧ ys_b.length ≤ 6) (s_c : xs_c.length ≤ 6 ∧ ys_c.length ≤ 6) : Calls Tryd.prog 3 #[.agg #[.bool b_a, m_a, d_a], .agg #[.bool b_b, m_b, d_b], .agg #[.bool b_c, m_c, d_c]] w (GivesTrue w) := by
  have HT := Lib.hid htab
  clear htab
  have H_a := Lib.hid h_a
  have K_a := Lib.hid g_a
  clear h_a g_a
  have H_b := Lib.hid h_b
  have K_b := Lib.hid g_b
  clear h_b g_b
  have H_c := Lib.hid h_c
  have K_c := Lib.hid g_c
  clear h_c g_c
  go_enter Tryd.func3, Tryd.ntmps3
  go_wp2_with fail
  obtain ⟨W0, hW, B_a, B_b, B_c, HW, HS⟩ := rbox3 w (.bool b_a) m_a d_a (.bool b_b) m_b d_b (.bool b_c) m_c d_c
  rw [hW]
  clear hW
  replace HT := Lib.hid (HT.out.below HW.out)
  replace H_a := Lib.hid (H_a.out.below HW.out)
  replace H_b := Lib.hid (H_b.out.below HW.out)
  replace H_c := Lib.hid (H_c.out.below HW.out)
  replace K_a := Lib.hid (K_a.out.below HW.out)
  replace K_b := Lib.hid (K_b.out.below HW.out)
  replace K_c := Lib.hid (K_c.out.below HW.out)
  have hB := HW.out
  have hsz := HS.out
  clear HW HS
  refine (rlight_is (k := 6) (v := true) (by exact H_a.out) (by exact K_a.out) (decide_eq_true s_a)).mono ?_
  rintro e w1 ⟨rfl, hb⟩
  replace HT := Lib.hid (HT.out.below hb)
  replace H_a := Lib.hid (H_a.out.below hb)
  replace H_b := Lib.hid (H_b.out.below hb)
  replace H_c := Lib.hid (H_c.out.below hb)
  replace K_a := Lib.hid (K_a.out.below hb)
  replace K_b := Lib.hid (K_b.out.below hb)
  replace K_c := Lib.hid (K_c.out.below hb)
  replace B_a := Lib.hid (B_a.out.below hb)
  replace B_b := Lib.hid (B_b.out.below hb)
  replace B_c := Lib.hid (B_c.out.below hb)
  replace hB := below_next hB hb
  clear hb
  have c_a0 := B_a.out.cell0
  have c_a1 := B_a.out.cell1
  have c_a2 := B_a.out.cell2
  have c_b0 := B_b.out.cell0
  have c_b1 := B_b.out.cell1
  have c_b2 := B_b.out.cell2
  have c_c0 := B_c.out.cell0
  have c_c1 := B_c.out.cell1
  have c_c2 := B_c.out.cell2
  go_wp2_with fail
  clear c_a0 c_a1 c_a2 c_b0 c_b1 c_b2 c_c0 c_c1 c_c2
  refine (rlight_is (k := 6) (v := true) (by exact H_b.out) (by exact K_b.out) (decide_eq_true s_b)).mono ?_
  rintro e w2 ⟨rfl, hb⟩
  replace HT := Lib.hid (HT.out.below hb)
  replace H_a := Lib.hid (H_a.out.below hb)
  replace H_b := Lib.hid (H_b.out.below hb)
  replace H_c := Lib.hid (H_c.out.below hb)
  replace K_a := Lib.hid (K_a.out.below hb)
  replace K_b := Lib.hid (K_b.out.below hb)
  replace K_c := Lib.hid (K_c.out.below hb)
  replace B_a := Lib.hid (B_a.out.below hb)
  replace B_b := Lib.hid (B_b.out.below hb)
  replace B_c := Lib.hid (B_c.out.below hb)
  replace hB := below_next hB hb
  clear hb
  have c_a0 := B_a.out.cell0
  have c_a1 := B_a.out.cell1
  have c_a2 := B_a.out.cell2
  have c_b0 := B_b.out.cell0
  have c_b1 := B_b.out.cell1
  have c_b2 := B_b.out.cell2
  have c_c0 := B_c.out.cell0
  have c_c1 := B_c.out.cell1
  have c_c2 := B_c.out.cell2
  go_wp2_with fail
  clear c_a0 c_a1 c_a2 c_b0 c_b1 c_b2 c_c0 c_c1 c_c2
  refine (rlight_is (k := 6) (v := true) (by exact H_c.out) (by exact K_c.out) (decide_eq_true s_c)).mono ?_
  rintro e w3 ⟨rfl, hb⟩
  replace HT := Lib.hid (HT.out.below hb)
  replace H_a := Lib.hid (H_a.out.below hb)
  replace H_b := Lib.hid (H_b.out.below hb)
  replace H_c := Lib.hid (H_c.out.below hb)
  replace K_a := Lib.hid (K_a.out.below hb)
  replace K_b := Lib.hid (K_b.out.below hb)
  replace K_c := Lib.hid (K_c.out.below hb)
  replace B_a := Lib.hid (B_a.out.below hb)
  replace B_b := Lib.hid (B_b.out.below hb)
  replace B_c := Lib.hid (B_c.out.below hb)
  replace hB := below_next hB hb
  clear hb
  obtain ⟨q_a, R_a⟩ : ∃ q, Hid (RAt w3 b_a m_a d_a q 6) := ⟨_, xs_a, ys_a, H_a.out, K_a.out, s_a.1, s_a.2, rfl⟩
  have S_a := R_a.out.sz (by omega)
  clear H_a K_a
  obtain ⟨q_b, R_b⟩ : ∃ q, Hid (RAt w3 b_b m_b d_b q 6) := ⟨_, xs_b, ys_b, H_b.out, K_b.out, s_b.1, s_b.2, rfl⟩
  have S_b := R_b.out.sz (by omega)
  clear H_b K_b
  obtain ⟨q_c, R_c⟩ : ∃ q, Hid (RAt w3 b_c m_c d_c q 6) := ⟨_, xs_c, ys_c, H_c.out, K_c.out, s_c.1, s_c.2, rfl⟩
  have S_c := R_c.out.sz (by omega)
  clear H_c K_c
  have c_a0 := B_a.out.cell0
  have c_a1 := B_a.out.cell1
  have c_a2 := B_a.out.cell2
  have c_b0 := B_b.out.cell0
  have c_b1 := B_b.out.cell1
  have c_b2 := B_b.out.cell2
  have c_c0 := B_c.out.cell0
  have c_c1 := B_c.out.cell1
  have c_c2 := B_c.out.cell2
  go_wp2_with fail
  clear c_a0 c_a1 c_a2 c_b0 c_b1 c_b2 c_c0 c_c1 c_c2
  refine (qof_any 0 1 _ (by omega) (by omega) (by omega) (by omega) (by omega)).mono ?_
  rintro e w4 ⟨b_z, A_z, n_z, c_z, D_z, e_z, f_z, rfl, h_z, hb⟩
  replace HT := Lib.hid (HT.out.below hb)
  replace R_a := Lib.hid (R_a.out.below hb)
  replace R_b := Lib.hid (R_b.out.below hb)
  replace R_c := Lib.hid (R_c.out.below hb)
  replace B_a := Lib.hid (B_a.out.below hb)
  replace B_b := Lib.hid (B_b.out.below hb)
  replace B_c := Lib.hid (B_c.out.below hb)
  replace hB := below_next hB hb
  clear hb
  rw [qof0] at h_z
  have Q_z := Lib.hid h_z
  clear h_z
  have c_a0 := B_a.out.cell0
  have c_a1 := B_a.out.cell1
  have c_a2 := B_a.out.cell2
  have c_b0 := B_b.out.cell0
  have c_b1 := B_b.out.cell1
  have c_b2 := B_b.out.cell2
  have c_c0 := B_c.out.cell0
  have c_c1 := B_c.out.cell1
  have c_c2 := B_c.out.cell2
  go_upto_region 4 with fail
  clear c_a0 c_a1 c_a2 c_b0 c_b1 c_b2 c_c0 c_c1 c_c2
  obtain ⟨W5, g_z, hV, hg, NB, hb⟩ := newR w4 (.bool b_z) (.slice A_z n_z c_z) (.slice D_z e_z f_z)
  rw [hV, hg]
  clear hV
  have l_z_a : w.heap.size < g_z := hg ▸ B_a.out.lt
  have l_z_b : w.heap.size + 1 < g_z := hg ▸ B_b.out.lt
  have l_z_c : w.heap.size + 1 + 1 < g_z := hg ▸ B_c.out.lt
  replace HT := Lib.hid (HT.out.below hb)
  replace R_a := Lib.hid (R_a.out.below hb)
  replace R_b := Lib.hid (R_b.out.below hb)
  replace R_c := Lib.hid (R_c.out.below hb)
  replace Q_z := Lib.hid (Q_z.out.below hb)
  replace B_a := Lib.hid (B_a.out.below hb)
  replace B_b := Lib.hid (B_b.out.below hb)
  replace B_c := Lib.hid (B_c.out.below hb)
  replace hB := below_next hB hb
  have B_z := NB
  clear NB hb hg
  have c_a0 := B_a.out.cell0
  have c_a1 := B_a.out.cell1
  have c_a2 := B_a.out.cell2
  have c_b0 := B_b.out.cell0
  have c_b1 := B_b.out.cell1
  have c_b2 := B_b.out.cell2
  have c_c0 := B_c.out.cell0
  have c_c1 := B_c.out.cell1
  have c_c2 := B_c.out.cell2
  have c_z0 := B_z.out.cell0
  have c_z1 := B_z.out.cell1
  have c_z2 := B_z.out.cell2
  go_wp2_with fail
  clear c_a0 c_a1 c_a2 c_b0 c_b1 c_b2 c_c0 c_c1 c_c2 c_z0 c_z1 c_z2
  refine (qof_any 1 1 _ (by omega) (by omega) (by omega) (by omega) (by omega)).mono ?_
  rintro e w6 ⟨b_o, A_o, n_o, c_o, D_o, e_o, f_o, rfl, h_o, hb⟩
  replace HT := Lib.hid (HT.out.below hb)
  replace R_a := Lib.hid (R_a.out.below hb)
  replace R_b := Lib.hid (R_b.out.below hb)
  replace R_c := Lib.hid (R_c.out.below hb)
  replace Q_z := Lib.hid (Q_z.out.below hb)
  replace B_a := Lib.hid (B_a.out.below hb)
  replace B_b := Lib.hid (B_b.out.below hb)
  replace B_c := Lib.hid (B_c.out.below hb)
  replace B_z := Lib.hid (B_z.out.below hb)
  replace hB := below_next hB hb
  clear hb
  rw [qof1] at h_o
  have Q_o := Lib.hid h_o
  clear h_o
  have c_a0 := B_a.out.cell0
  have c_a1 := B_a.out.cell1
  have c_a2 := B_a.out.cell2
  have c_b0 := B_b.out.cell0
  have c_b1 := B_b.out.cell1
  have c_b2 := B_b.out.cell2
  have c_c0 := B_c.out.cell0
  have c_c1 := B_c.out.cell1
  have c_c2 := B_c.out.cell2
  have c_z0 := B_z.out.cell0
  have c_z1 := B_z.out.cell1
  have c_z2 := B_z.out.cell2
  go_upto_region 5 with fail
  clear c_a0 c_a1 c_a2 c_b0 c_b1 c_b2 c_c0 c_c1 c_c2 c_z0 c_z1 c_z2
  obtain ⟨W7, g_o, hV, hg, NB, hb⟩ := newR w6 (.bool b_o) (.slice A_o n_o c_o) (.slice D_o e_o f_o)
  rw [hV, hg]
  clear hV
  have l_o_a : w.heap.size < g_o := hg ▸ B_a.out.lt
  have l_o_b : w.heap.size + 1 < g_o := hg ▸ B_b.out.lt
  have l_o_c : w.heap.size + 1 + 1 < g_o := hg ▸ B_c.out.lt
  have l_o_z : g_z < g_o := hg ▸ B_z.out.lt
  replace HT := Lib.hid (HT.out.below hb)
  replace R_a := Lib.hid (R_a.out.below hb)
  replace R_b := Lib.hid (R_b.out.below hb)
  replace R_c := Lib.hid (R_c.out.below hb)
  replace Q_z := Lib.hid (Q_z.out.below hb)
  replace Q_o := Lib.hid (Q_o.out.below hb)
  replace B_a := Lib.hid (B_a.out.below hb)
  replace B_b := Lib.hid (B_b.out.below hb)
  replace B_c := Lib.hid (B_c.out.below hb)
  replace B_z := Lib.hid (B_z.out.below hb)
  replace hB := below_next hB hb
  have B_o := NB
  clear NB hb hg
  have c_a0 := B_a.out.cell0
  have c_a1 := B_a.out.cell1
  have c_a2 := B_a.out.cell2
  have c_b0 := B_b.out.cell0
  have c_b1 := B_b.out.cell1
  have c_b2 := B_b.out.cell2
  have c_c0 := B_c.out.cell0
  have c_c1 := B_c.out.cell1
  have c_c2 := B_c.out.cell2
  have c_z0 := B_z.out.cell0
  have c_z1 := B_z.out.cell1
  have c_z2 := B_z.out.cell2
  have c_o0 := B_o.out.cell0
  have c_o1 := B_o.out.cell1
  have c_o2 := B_o.out.cell2
  go_wp2_with fail
  clear c_a0 c_a1 c_a2 c_b0 c_b1 c_b2 c_c0 c_c1 c_c2 c_z0 c_z1 c_z2 c_o0 c_o1 c_o2
  refine (qnorm_any _ _ _ _ 6 _ (by exact R_a.out) (by omega) (by omega)).mono ?_
  rintro e w8 ⟨b_x, A_x, n_x, c_x, D_x, e_x, f_x, rfl, h_x, hb⟩
  replace HT := Lib.hid (HT.out.below hb)
  replace R_a := Lib.hid (R_a.out.below hb)
  replace R_b := Lib.hid (R_b.out.below hb)
  replace R_c := Lib.hid (R_c.out.below hb)
  replace Q_z := Lib.hid (Q_z.out.below hb)
  replace Q_o := Lib.hid (Q_o.out.below hb)
  replace B_a := Lib.hid (B_a.out.below hb)
  replace B_b := Lib.hid (B_b.out.below hb)
  replace B_c := Lib.hid (B_c.out.below hb)
  replace B_z := Lib.hid (B_z.out.below hb)
  replace B_o := Lib.hid (B_o.out.below hb)
  replace hB := below_next hB hb
  clear hb
  have Q_x := Lib.hid h_x
  clear h_x
  have c_a0 := B_a.out.cell0
  have c_a1 := B_a.out.cell1
  have c_a2 := B_a.out.cell2
  have c_b0 := B_b.out.cell0
  have c_b1 := B_b.out.cell1
  have c_b2 := B_b.out.cell2
  have c_c0 := B_c.out.cell0
  have c_c1 := B_c.out.cell1
  have c_c2 := B_c.out.cell2
  have c_z0 := B_z.out.cell0
  have c_z1 := B_z.out.cell1
  have c_z2 := B_z.out.cell2
  have c_o0 := B_o.out.cell0
  have c_o1 := B_o.out.cell1
  have c_o2 := B_o.out.cell2
  go_wp2
  clear c_a0 c_a1 c_a2 c_b0 c_b1 c_b2 c_c0 c_c1 c_c2 c_z0 c_z1 c_z2 c_o0 c_o1 c_o2
  obtain ⟨W9, g_x, hV, hg, NB, hb⟩ := newR w8 (.bool b_x) (.slice A_x n_x c_x) (.slice D_x e_x f_x)
  rw [hV, hg]
  clear hV
  have l_x_a : w.heap.size < g_x := hg ▸ B_a.out.lt
  have l_x_b : w.heap.size + 1 < g_x := hg ▸ B_b.out.lt
  have l_x_c : w.heap.size + 1 + 1 < g_x := hg ▸ B_c.out.lt
  have l_x_z : g_z < g_x := hg ▸ B_z.out.lt
  have l_x_o : g_o < g_x := hg ▸ B_o.out.lt
  replace HT := Lib.hid (HT.out.below hb)
  replace R_a := Lib.hid (R_a.out.below hb)
  replace R_b := Lib.hid (R_b.out.below hb)
  replace R_c := Lib.hid (R_c.out.below hb)
  replace Q_z := Lib.hid (Q_z.out.below hb)
  replace Q_o := Lib.hid (Q_o.out.below hb)
  replace Q_x := Lib.hid (Q_x.out.below hb)
  replace B_a := Lib.hid (B_a.out.below hb)
  replace B_b := Lib.hid (B_b.out.below hb)
  replace B_c := Lib.hid (B_c.out.below hb)
  replace B_z := Lib.hid (B_z.out.below hb)
  replace B_o := Lib.hid (B_o.out.below hb)
  replace hB := below_next hB hb
  have B_x := NB
  clear NB hb hg
  refine wp_region_named (S := (fun w' => (w'.cell? ⟨w.heap.size, 0, none⟩ = some (.bool b_a) ∧ w'.cell? ⟨w.heap.size, 1, none⟩ = some m_a ∧ w'.cell? ⟨w.heap.size, 2, none⟩ = some d_a) ∧ (w'.cell? ⟨w.heap.size + 1, 0, none⟩ = some (.bool b_b) ∧ w'.cell? ⟨w.heap.size + 1, 1, none⟩ = some m_b ∧ w'.cell? ⟨w.heap.size + 1, 2, none⟩ = some d_b) ∧ (w'.cell? ⟨w.heap.size + 1 + 1, 0, none⟩ = some (.bool b_c) ∧ w'.cell? ⟨w.heap.size + 1 + 1, 1, none⟩ = some m_c ∧ w'.cell? ⟨w.heap.size + 1 + 1, 2, none⟩ = some d_c))) (by kernel_rfl) (by exact ⟨B_a.out.c3, B_b.out.c3, B_c.out.c3⟩) (fun V10 hb hHeld => ?_)
  replace HT := Lib.hid (HT.out.below hb)
  replace R_a := Lib.hid (R_a.out.below hb)
  replace R_b := Lib.hid (R_b.out.below hb)
  replace R_c := Lib.hid (R_c.out.below hb)
  replace Q_z := Lib.hid (Q_z.out.below hb)
  replace Q_o := Lib.hid (Q_o.out.below hb)
  replace Q_x := Lib.hid (Q_x.out.below hb)
  replace B_a := Lib.hid (B_a.out.below hb)
  replace B_b := Lib.hid (B_b.out.below hb)
  replace B_c := Lib.hid (B_c.out.below hb)
  replace B_z := Lib.hid (B_z.out.below hb)
  replace B_o := Lib.hid (B_o.out.below hb)
  replace B_x := Lib.hid (B_x.out.below hb)
  replace hB := below_next hB hb
  clear hb
  refine wpAnyH_takeQ 0 (v := ?_) (fun _ _ _ _ _ h => h) (by simp only [List.getElem?_toArray, List.getElem?_cons_zero]; rfl) (by kernel_rfl) (by kernel_rfl) (by kernel_rfl) (by rfl) ?_ hHeld ?_; rotate_left; · (intro w hSw; (try dsimp only at hSw); go_simp; (try with_reducible rfl))
  try simp only [Act.put, List.setIfInBounds_toArray, List.set_cons_zero, List.set_cons_succ]
  refine wpAnyH_takeQ 1 (v := ?_) (fun _ _ _ _ _ h => h) (by simp only [List.getElem?_toArray, List.getElem?_cons_succ, List.getElem?_cons_zero]; rfl) (by kernel_rfl) (by kernel_rfl) (by kernel_rfl) (by rfl) ?_ hHeld ?_; rotate_left; · (intro w hSw; (try dsimp only at hSw); go_simp; (try with_reducible rfl))
  try simp only [Act.put, List.setIfInBounds_toArray, List.set_cons_zero, List.set_cons_succ]
  refine wpAnyH_takeQ 3 (v := ?_) (fun _ _ _ _ _ h => h) (by simp only [List.getElem?_toArray, List.getElem?_cons_succ, List.getElem?_cons_zero]; rfl) (by kernel_rfl) (by kernel_rfl) (by kernel_rfl) (by rfl) ?_ hHeld ?_; rotate_left; · (intro w hSw; (try dsimp only at hSw); go_simp; (try with_reducible rfl))
  try simp only [Act.put, List.setIfInBounds_toArray, List.set_cons_zero, List.set_cons_succ]
  refine wpAnyH_takeQ 4 (v := ?_) (fun _ _ _ _ _ h => h) (by simp only [List.getElem?_toArray, List.getElem?_cons_succ, List.getElem?_cons_zero]; rfl) (by kernel_rfl) (by kernel_rfl) (by kernel_rfl) (by rfl) ?_ hHeld ?_; rotate_left; · (intro w hSw; (try dsimp only at hSw); go_simp; (try with_reducible rfl))
  try simp only [Act.put, List.setIfInBounds_toArray, List.set_cons_zero, List.set_cons_succ]
  refine wpAnyH_ready (rs := [2]) (by kernel_rfl) (by simp) ?_
  refine AllReadyH.cons (by simp only [List.getElem?_toArray, List.getElem?_cons_succ, List.getElem?_cons_zero]; rfl) (fun K hK => ?_) AllReadyH.nil
  go_simp
  clear hHeld
  refine (qadd_any _ _ _ _ 6 _ _ _ _ 6 _ (by exact R_a.out) (by exact R_b.out) (by omega) (by omega) (by omega) (by omega)).mono ?_
  rintro e w11 ⟨b_p1, A_p1, n_p1, c_p1, D_p1, e_p1, f_p1, rfl, h_p1, hb⟩
  replace HT := Lib.hid (HT.out.below hb)
  replace R_a := Lib.hid (R_a.out.below hb)
  replace R_b := Lib.hid (R_b.out.below hb)
  replace R_c := Lib.hid (R_c.out.below hb)
  replace Q_z := Lib.hid (Q_z.out.below hb)
  replace Q_o := Lib.hid (Q_o.out.below hb)
  replace Q_x := Lib.hid (Q_x.out.below hb)
  replace B_a := Lib.hid (B_a.out.below hb)
  replace B_b := Lib.hid (B_b.out.below hb)
  replace B_c := Lib.hid (B_c.out.below hb)
  replace B_z := Lib.hid (B_z.out.below hb)
  replace B_o := Lib.hid (B_o.out.below hb)
  replace B_x := Lib.hid (B_x.out.below hb)
  replace hB := below_next hB hb
  clear hb
  have Q_p1 := Lib.hid h_p1
  clear h_p1
  go_wp2_with fail
  refine hK.out _ _ (by exact ⟨B_a.out.c3, B_b.out.c3, B_c.out.c3⟩) (fun hHeld => ?_)
  clear hK K
  refine wpAnyH_ready (rs := [5]) (by kernel_rfl) (by simp) ?_
  refine AllReadyH.cons (by simp only [List.getElem?_toArray, List.getElem?_cons_succ, List.getElem?_cons_zero]; rfl) (fun K hK => ?_) AllReadyH.nil
  go_simp
  clear hHeld
  refine (qadd_any _ _ _ _ 6 _ _ _ _ 6 _ (by exact R_b.out) (by exact R_a.out) (by omega) (by omega) (by omega) (by omega)).mono ?_
  rintro e w12 ⟨b_p2, A_p2, n_p2, c_p2, D_p2, e_p2, f_p2, rfl, h_p2, hb⟩
  replace HT := Lib.hid (HT.out.below hb)
  replace R_a := Lib.hid (R_a.out.below hb)
  replace R_b := Lib.hid (R_b.out.below hb)
  replace R_c := Lib.hid (R_c.out.below hb)
  replace Q_z := Lib.hid (Q_z.out.below hb)
  replace Q_o := Lib.hid (Q_o.out.below hb)
  replace Q_x := Lib.hid (Q_x.out.below hb)
  replace Q_p1 := Lib.hid (Q_p1.out.below hb)
  replace B_a := Lib.hid (B_a.out.below hb)
  replace B_b := Lib.hid (B_b.out.below hb)
  replace B_c := Lib.hid (B_c.out.below hb)
  replace B_z := Lib.hid (B_z.out.below hb)
  replace B_o := Lib.hid (B_o.out.below hb)
  replace B_x := Lib.hid (B_x.out.below hb)
  replace hB := below_next hB hb
  clear hb
  have Q_p2 := Lib.hid h_p2
  clear h_p2
  go_wp2_with fail
  refine hK.out _ _ (by exact ⟨B_a.out.c3, B_b.out.c3, B_c.out.c3⟩) (fun hHeld => ?_)
  clear hK K
  refine wpAnyH_ready (rs := [6]) (by kernel_rfl) (by simp) ?_
  refine AllReadyH.cons (by simp only [List.getElem?_toArray, List.getElem?_cons_succ, List.getElem?_cons_zero]; rfl) (fun K hK => ?_) AllReadyH.nil
  go_simp
  clear hHeld
  refine (rsame_q (by exact Q_p1.out) (by exact Q_p2.out) (Rat.add_comm _ _)).mono ?_
  rintro e w13 ⟨rfl, hb⟩
  replace HT := Lib.hid (HT.out.below hb)
  replace R_a := Lib.hid (R_a.out.below hb)
  replace R_b := Lib.hid (R_b.out.below hb)
  replace R_c := Lib.hid (R_c.out.below hb)
  replace Q_z := Lib.hid (Q_z.out.below hb)
  replace Q_o := Lib.hid (Q_o.out.below hb)
  replace Q_x := Lib.hid (Q_x.out.below hb)
  replace Q_p1 := Lib.hid (Q_p1.out.below hb)
  replace Q_p2 := Lib.hid (Q_p2.out.below hb)
  replace B_a := Lib.hid (B_a.out.below hb)
  replace B_b := Lib.hid (B_b.out.below hb)
  replace B_c := Lib.hid (B_c.out.below hb)
  replace B_z := Lib.hid (B_z.out.below hb)
  replace B_o := Lib.hid (B_o.out.below hb)
  replace B_x := Lib.hid (B_x.out.below hb)
  replace hB := below_next hB hb
  clear hb
  clear Q_p1
  clear Q_p2
  go_wp2_with fail
  refine hK.out _ _ (by exact ⟨B_a.out.c3, B_b.out.c3, B_c.out.c3⟩) (fun hHeld => ?_)
  clear hK K
  refine wpAnyH_takeQ 7 (v := ?_) (fun _ _ _ _ _ h => h) (by simp only [List.getElem?_toArray, List.getElem?_cons_succ, List.getElem?_cons_zero]; rfl) (by kernel_rfl) (by kernel_rfl) (by kernel_rfl) (by rfl) ?_ hHeld ?_; rotate_left; · (intro w hSw; (try dsimp only at hSw); go_simp; (try with_reducible rfl))
  try simp only [Act.put, List.setIfInBounds_toArray, List.set_cons_zero, List.set_cons_succ]
  refine wpAnyH_takeQ 8 (v := ?_) (fun _ _ _ _ _ h => h) (by simp only [List.getElem?_toArray, List.getElem?_cons_succ, List.getElem?_cons_zero]; rfl) (by kernel_rfl) (by kernel_rfl) (by kernel_rfl) (by rfl) ?_ hHeld ?_; rotate_left; · (intro w hSw; (try dsimp only at hSw); go_simp; (try with_reducible rfl))
  try simp only [Act.put, List.setIfInBounds_toArray, List.set_cons_zero, List.set_cons_succ]
  refine wpAnyH_takeQ 9 (v := ?_) (fun _ _ _ _ _ h => h) (by simp only [List.getElem?_toArray, List.getElem?_cons_succ, List.getElem?_cons_zero]; rfl) (by kernel_rfl) (by kernel_rfl) (by kernel_rfl) (by rfl) ?_ hHeld ?_; rotate_left; · (intro w hSw; (try dsimp only at hSw); go_simp; (try with_reducible rfl))
  try simp only [Act.put, List.setIfInBounds_toArray, List.set_cons_zero, List.set_cons_succ]
  refine wpAnyH_takeQ 10 (v := ?_) (fun _ _ _ _ _ h => h) (by simp only [List.getElem?_toArray, List.getElem?_cons_succ, List.getElem?_cons_zero]; rfl) (by kernel_rfl) (by kernel_rfl) (by kernel_rfl) (by rfl) ?_ hHeld ?_; rotate_left; · (intro w hSw; (try dsimp only at hSw); go_simp; (try with_reducible rfl))
  try simp only [Act.put, List.setIfInBounds_toArray, List.set_cons_zero, List.set_cons_succ]
  refine wpAnyH_takeQ 12 (v := ?_) (fun _ _ _ _ _ h => h) (by simp only [List.getElem?_toArray, List.getElem?_cons_succ, List.getElem?_cons_zero]; rfl) (by kernel_rfl) (by kernel_rfl) (by kernel_rfl) (by rfl) ?_ hHeld ?_; rotate_left; · (intro w hSw; (try dsimp only at hSw); go_simp; (try with_reducible rfl))
  try simp only [Act.put, List.setIfInBounds_toArray, List.set_cons_zero, List.set_cons_succ]
  refine wpAnyH_takeQ 13 (v := ?_) (fun _ _ _ _ _ h => h) (by simp only [List.getElem?_toArray, List.getElem?_cons_succ, List.getElem?_cons_zero]; rfl) (by kernel_rfl) (by kernel_rfl) (by kernel_rfl) (by rfl) ?_ hHeld ?_; rotate_left; · (intro w hSw; (try dsimp only at hSw); go_simp; (try with_reducible rfl))
  try simp only [Act.put, List.setIfInBounds_toArray, List.set_cons_zero, List.set_cons_succ]
  refine wpAnyH_ready (rs := [11]) (by kernel_rfl) (by simp) ?_
  refine AllReadyH.cons (by simp only [List.getElem?_toArray, List.getElem?_cons_succ, List.getElem?_cons_zero]; rfl) (fun K hK => ?_) AllReadyH.nil
  go_simp
  clear hHeld
  refine (qmul_any _ _ _ _ 6 _ _ _ _ 6 _ (by exact R_a.out) (by exact R_b.out) (by omega) (by omega) (by omega) (by omega)).mono ?_
  rintro e w14 ⟨b_p3, A_p3, n_p3, c_p3, D_p3, e_p3, f_p3, rfl, h_p3, hb⟩
  replace HT := Lib.hid (HT.out.below hb)
  replace R_a := Lib.hid (R_a.out.below hb)
  replace R_b := Lib.hid (R_b.out.below hb)
  replace R_c := Lib.hid (R_c.out.below hb)
  replace Q_z := Lib.hid (Q_z.out.below hb)
  replace Q_o := Lib.hid (Q_o.out.below hb)
  replace Q_x := Lib.hid (Q_x.out.below hb)
  replace B_a := Lib.hid (B_a.out.below hb)
  replace B_b := Lib.hid (B_b.out.below hb)
  replace B_c := Lib.hid (B_c.out.below hb)
  replace B_z := Lib.hid (B_z.out.below hb)
  replace B_o := Lib.hid (B_o.out.below hb)
  replace B_x := Lib.hid (B_x.out.below hb)
  replace hB := below_next hB hb
  clear hb
  have Q_p3 := Lib.hid h_p3
  clear h_p3
  go_wp2_with fail
  refine hK.out _ _ (by exact ⟨B_a.out.c3, B_b.out.c3, B_c.out.c3⟩) (fun hHeld => ?_)
  clear hK K
  refine wpAnyH_ready (rs := [14]) (by kernel_rfl) (by simp) ?_
  refine AllReadyH.cons (by simp only [List.getElem?_toArray, List.getElem?_cons_succ, List.getElem?_cons_zero]; rfl) (fun K hK => ?_) AllReadyH.nil
  go_simp
  clear hHeld
  refine (qmul_any _ _ _ _ 6 _ _ _ _ 6 _ (by exact R_b.out) (by exact R_a.out) (by omega) (by omega) (by omega) (by omega)).mono ?_
  rintro e w15 ⟨b_p4, A_p4, n_p4, c_p4, D_p4, e_p4, f_p4, rfl, h_p4, hb⟩
  replace HT := Lib.hid (HT.out.below hb)
  replace R_a := Lib.hid (R_a.out.below hb)
  replace R_b := Lib.hid (R_b.out.below hb)
  replace R_c := Lib.hid (R_c.out.below hb)
  replace Q_z := Lib.hid (Q_z.out.below hb)
  replace Q_o := Lib.hid (Q_o.out.below hb)
  replace Q_x := Lib.hid (Q_x.out.below hb)
  replace Q_p3 := Lib.hid (Q_p3.out.below hb)
  replace B_a := Lib.hid (B_a.out.below hb)
  replace B_b := Lib.hid (B_b.out.below hb)
  replace B_c := Lib.hid (B_c.out.below hb)
  replace B_z := Lib.hid (B_z.out.below hb)
  replace B_o := Lib.hid (B_o.out.below hb)
  replace B_x := Lib.hid (B_x.out.below hb)
  replace hB := below_next hB hb
  clear hb
  have Q_p4 := Lib.hid h_p4
  clear h_p4
  go_wp2_with fail
  refine hK.out _ _ (by exact ⟨B_a.out.c3, B_b.out.c3, B_c.out.c3⟩) (fun hHeld => ?_)
  clear hK K
  refine wpAnyH_ready (rs := [15]) (by kernel_rfl) (by simp) ?_
  refine AllReadyH.cons (by simp only [List.getElem?_toArray, List.getElem?_cons_succ, List.getElem?_cons_zero]; rfl) (fun K hK => ?_) AllReadyH.nil
  go_simp
  clear hHeld
  refine (rsame_q (by exact Q_p3.out) (by exact Q_p4.out) (Rat.mul_comm _ _)).mono ?_
  rintro e w16 ⟨rfl, hb⟩
  replace HT := Lib.hid (HT.out.below hb)
  replace R_a := Lib.hid (R_a.out.below hb)
  replace R_b := Lib.hid (R_b.out.below hb)
  replace R_c := Lib.hid (R_c.out.below hb)
  replace Q_z := Lib.hid (Q_z.out.below hb)
  replace Q_o := Lib.hid (Q_o.out.below hb)
  replace Q_x := Lib.hid (Q_x.out.below hb)
  replace Q_p3 := Lib.hid (Q_p3.out.below hb)
  replace Q_p4 := Lib.hid (Q_p4.out.below hb)
  replace B_a := Lib.hid (B_a.out.below hb)
  replace B_b := Lib.hid (B_b.out.below hb)
  replace B_c := Lib.hid (B_c.out.below hb)
  replace B_z := Lib.hid (B_z.out.below hb)
  replace B_o := Lib.hid (B_o.out.below hb)
  replace B_x := Lib.hid (B_x.out.below hb)
  replace hB := below_next hB hb
  clear hb
  clear Q_p3
  clear Q_p4
  go_wp2_with fail
  refine hK.out _ _ (by exact ⟨B_a.out.c3, B_b.out.c3, B_c.out.c3⟩) (fun hHeld => ?_)
  clear hK K
  refine wpAnyH_takeQ 16 (v := ?_) (fun _ _ _ _ _ h => h) (by simp only [List.getElem?_toArray, List.getElem?_cons_succ, List.getElem?_cons_zero]; rfl) (by kernel_rfl) (by kernel_rfl) (by kernel_rfl) (by rfl) ?_ hHeld ?_; rotate_left; · (intro w hSw; (try dsimp only at hSw); go_simp; (try with_reducible rfl))
  try simp only [Act.put, List.setIfInBounds_toArray, List.set_cons_zero, List.set_cons_succ]
  refine wpAnyH_takeQ 17 (v := ?_) (fun _ _ _ _ _ h => h) (by simp only [List.getElem?_toArray, List.getElem?_cons_succ, List.getElem?_cons_zero]; rfl) (by kernel_rfl) (by kernel_rfl) (by kernel_rfl) (by rfl) ?_ hHeld ?_; rotate_left; · (intro w hSw; (try dsimp only at hSw); go_simp; (try with_reducible rfl))
  try simp only [Act.put, List.setIfInBounds_toArray, List.set_cons_zero, List.set_cons_succ]
  refine wpAnyH_takeQ 18 (v := ?_) (fun _ _ _ _ _ h => h) (by simp only [List.getElem?_toArray, List.getElem?_cons_succ, List.getElem?_cons_zero]; rfl) (by kernel_rfl) (by kernel_rfl) (by kernel_rfl) (by rfl) ?_ hHeld ?_; rotate_left; · (intro w hSw; (try dsimp only at hSw); go_simp; (try with_reducible rfl))
  try simp only [Act.put, List.setIfInBounds_toArray, List.set_cons_zero, List.set_cons_succ]
  refine wpAnyH_takeQ 19 (v := ?_) (fun _ _ _ _ _ h => h) (by simp only [List.getElem?_toArray, List.getElem?_cons_succ, List.getElem?_cons_zero]; rfl) (by kernel_rfl) (by kernel_rfl) (by kernel_rfl) (by rfl) ?_ hHeld ?_; rotate_left; · (intro w hSw; (try dsimp only at hSw); go_simp; (try with_reducible rfl))
  try simp only [Act.put, List.setIfInBounds_toArray, List.set_cons_zero, List.set_cons_succ]
  refine wpAnyH_takeQ 20 (v := ?_) (fun _ _ _ _ _ h => h) (by simp only [List.getElem?_toArray, List.getElem?_cons_succ, List.getElem?_cons_zero]; rfl) (by kernel_rfl) (by kernel_rfl) (by kernel_rfl) (by rfl) ?_ hHeld ?_; rotate_left; · (intro w hSw; (try dsimp only at hSw); go_simp; (try with_reducible rfl))
  try simp only [Act.put, List.setIfInBounds_toArray, List.set_cons_zero, List.set_cons_succ]
  refine wpAnyH_takeQ 22 (v := ?_) (fun _ _ _ _ _ h => h) (by simp only [List.getElem?_toArray, List.getElem?_cons_succ, List.getElem?_cons_zero]; rfl) (by kernel_rfl) (by kernel_rfl) (by kernel_rfl) (by rfl) ?_ hHeld ?_; rotate_left; · (intro w hSw; (try dsimp only at hSw); go_simp; (try with_reducible rfl))
  try simp only [Act.put, List.setIfInBounds_toArray, List.set_cons_zero, List.set_cons_succ]
  refine wpAnyH_takeQ 24 (v := ?_) (fun _ _ _ _ _ h => h) (by simp only [List.getElem?_toArray, List.getElem?_cons_succ, List.getElem?_cons_zero]; rfl) (by kernel_rfl) (by kernel_rfl) (by kernel_rfl) (by rfl) ?_ hHeld ?_; rotate_left; · (intro w hSw; (try dsimp only at hSw); go_simp; (try with_reducible rfl))
  try simp only [Act.put, List.setIfInBounds_toArray, List.set_cons_zero, List.set_cons_succ]
  refine wpAnyH_takeQ 25 (v := ?_) (fun _ _ _ _ _ h => h) (by simp only [List.getElem?_toArray, List.getElem?_cons_succ, List.getElem?_cons_zero]; rfl) (by kernel_rfl) (by kernel_rfl) (by kernel_rfl) (by rfl) ?_ hHeld ?_; rotate_left; · (intro w hSw; (try dsimp only at hSw); go_simp; (try with_reducible rfl))
  try simp only [Act.put, List.setIfInBounds_toArray, List.set_cons_zero, List.set_cons_succ]
  refine wpAnyH_takeQ 26 (v := ?_) (fun _ _ _ _ _ h => h) (by simp only [List.getElem?_toArray, List.getElem?_cons_succ, List.getElem?_cons_zero]; rfl) (by kernel_rfl) (by kernel_rfl) (by kernel_rfl) (by rfl) ?_ hHeld ?_; rotate_left; · (intro w hSw; (try dsimp only at hSw); go_simp; (try with_reducible rfl))
  try simp only [Act.put, List.setIfInBounds_toArray, List.set_cons_zero, List.set_cons_succ]
  refine wpAnyH_ready (rs := [21]) (by kernel_rfl) (by simp) ?_
  refine AllReadyH.cons (by simp only [List.getElem?_toArray, List.getElem?_cons_succ, List.getElem?_cons_zero]; rfl) (fun K hK => ?_) AllReadyH.nil
  go_simp
  clear hHeld
  refine (qadd_any _ _ _ _ 6 _ _ _ _ 6 _ (by exact R_a.out) (by exact R_b.out) (by omega) (by omega) (by omega) (by omega)).mono ?_
  rintro e w17 ⟨b_p5, A_p5, n_p5, c_p5, D_p5, e_p5, f_p5, rfl, h_p5, hb⟩
  replace HT := Lib.hid (HT.out.below hb)
  replace R_a := Lib.hid (R_a.out.below hb)
  replace R_b := Lib.hid (R_b.out.below hb)
  replace R_c := Lib.hid (R_c.out.below hb)
  replace Q_z := Lib.hid (Q_z.out.below hb)
  replace Q_o := Lib.hid (Q_o.out.below hb)
  replace Q_x := Lib.hid (Q_x.out.below hb)
  replace B_a := Lib.hid (B_a.out.below hb)
  replace B_b := Lib.hid (B_b.out.below hb)
  replace B_c := Lib.hid (B_c.out.below hb)
  replace B_z := Lib.hid (B_z.out.below hb)
  replace B_o := Lib.hid (B_o.out.below hb)
  replace B_x := Lib.hid (B_x.out.below hb)
  replace hB := below_next hB hb
  clear hb
  have Q_p5 := Lib.hid h_p5
  clear h_p5
  go_wp2_with fail
  refine hK.out _ _ (by exact ⟨B_a.out.c3, B_b.out.c3, B_c.out.c3⟩) (fun hHeld => ?_)
  clear hK K
  refine wpAnyH_ready (rs := [23]) (by kernel_rfl) (by simp) ?_
  refine AllReadyH.cons (by simp only [List.getElem?_toArray, List.getElem?_cons_succ, List.getElem?_cons_zero]; rfl) (fun K hK => ?_) AllReadyH.nil
  go_simp
  clear hHeld
  refine (qadd_any _ _ _ _ 13 _ _ _ _ 6 _ (by exact Q_p5.out.rat ((S_a.add S_b).more (by omega))) (by exact R_c.out) (by omega) (by omega) (by omega) (by omega)).mono ?_
  rintro e w18 ⟨b_p6, A_p6, n_p6, c_p6, D_p6, e_p6, f_p6, rfl, h_p6, hb⟩
  replace HT := Lib.hid (HT.out.below hb)
  replace R_a := Lib.hid (R_a.out.below hb)
  replace R_b := Lib.hid (R_b.out.below hb)
  replace R_c := Lib.hid (R_c.out.below hb)
  replace Q_z := Lib.hid (Q_z.out.below hb)
  replace Q_o := Lib.hid (Q_o.out.below hb)
  replace Q_x := Lib.hid (Q_x.out.below hb)
  replace Q_p5 := Lib.hid (Q_p5.out.below hb)
  replace B_a := Lib.hid (B_a.out.below hb)
  replace B_b := Lib.hid (B_b.out.below hb)
  replace B_c := Lib.hid (B_c.out.below hb)
  replace B_z := Lib.hid (B_z.out.below hb)
  replace B_o := Lib.hid (B_o.out.below hb)
  replace B_x := Lib.hid (B_x.out.below hb)
  replace hB := below_next hB hb
  clear hb
  have Q_p6 := Lib.hid h_p6
  clear h_p6
  go_wp2_with fail
  refine hK.out _ _ (by exact ⟨B_a.out.c3, B_b.out.c3, B_c.out.c3⟩) (fun hHeld => ?_)
  clear hK K
  refine wpAnyH_ready (rs := [27]) (by kernel_rfl) (by simp) ?_
  refine AllReadyH.cons (by simp only [List.getElem?_toArray, List.getElem?_cons_succ, List.getElem?_cons_zero]; rfl) (fun K hK => ?_) AllReadyH.nil
  go_simp
  clear hHeld
  refine (qadd_any _ _ _ _ 6 _ _ _ _ 6 _ (by exact R_b.out) (by exact R_c.out) (by omega) (by omega) (by omega) (by omega)).mono ?_
  rintro e w19 ⟨b_p7, A_p7, n_p7, c_p7, D_p7, e_p7, f_p7, rfl, h_p7, hb⟩
  replace HT := Lib.hid (HT.out.below hb)
  replace R_a := Lib.hid (R_a.out.below hb)
  replace R_b := Lib.hid (R_b.out.below hb)
  replace R_c := Lib.hid (R_c.out.below hb)
  replace Q_z := Lib.hid (Q_z.out.below hb)
  replace Q_o := Lib.hid (Q_o.out.below hb)
  replace Q_x := Lib.hid (Q_x.out.below hb)
  replace Q_p5 := Lib.hid (Q_p5.out.below hb)
  replace Q_p6 := Lib.hid (Q_p6.out.below hb)
  replace B_a := Lib.hid (B_a.out.below hb)
  replace B_b := Lib.hid (B_b.out.below hb)
  replace B_c := Lib.hid (B_c.out.below hb)
  replace B_z := Lib.hid (B_z.out.below hb)
  replace B_o := Lib.hid (B_o.out.below hb)
  replace B_x := Lib.hid (B_x.out.below hb)
  replace hB := below_next hB hb
  clear hb
  have Q_p7 := Lib.hid h_p7
  clear h_p7
  go_wp2_with fail
  refine hK.out _ _ (by exact ⟨B_a.out.c3, B_b.out.c3, B_c.out.c3⟩) (fun hHeld => ?_)
  clear hK K
  refine wpAnyH_ready (rs := [28]) (by kernel_rfl) (by simp) ?_
  refine AllReadyH.cons (by simp only [List.getElem?_toArray, List.getElem?_cons_succ, List.getElem?_cons_zero]; rfl) (fun K hK => ?_) AllReadyH.nil
  go_simp
  clear hHeld
  refine (qadd_any _ _ _ _ 6 _ _ _ _ 13 _ (by exact R_a.out) (by exact Q_p7.out.rat ((S_b.add S_c).more (by omega))) (by omega) (by omega) (by omega) (by omega)).mono ?_
  rintro e w20 ⟨b_p8, A_p8, n_p8, c_p8, D_p8, e_p8, f_p8, rfl, h_p8, hb⟩
  replace HT := Lib.hid (HT.out.below hb)
  replace R_a := Lib.hid (R_a.out.below hb)
  replace R_b := Lib.hid (R_b.out.below hb)
  replace R_c := Lib.hid (R_c.out.below hb)
  replace Q_z := Lib.hid (Q_z.out.below hb)
  replace Q_o := Lib.hid (Q_o.out.below hb)
  replace Q_x := Lib.hid (Q_x.out.below hb)
  replace Q_p5 := Lib.hid (Q_p5.out.below hb)
  replace Q_p6 := Lib.hid (Q_p6.out.below hb)
  replace Q_p7 := Lib.hid (Q_p7.out.below hb)
  replace B_a := Lib.hid (B_a.out.below hb)
  replace B_b := Lib.hid (B_b.out.below hb)
  replace B_c := Lib.hid (B_c.out.below hb)
  replace B_z := Lib.hid (B_z.out.below hb)
  replace B_o := Lib.hid (B_o.out.below hb)
  replace B_x := Lib.hid (B_x.out.below hb)
  replace hB := below_next hB hb
  clear hb
  have Q_p8 := Lib.hid h_p8
  clear h_p8
  go_wp2_with fail
  refine hK.out _ _ (by exact ⟨B_a.out.c3, B_b.out.c3, B_c.out.c3⟩) (fun hHeld => ?_)
  clear hK K
  refine wpAnyH_ready (rs := [29]) (by kernel_rfl) (by simp) ?_
  refine AllReadyH.cons (by simp only [List.getElem?_toArray, List.getElem?_cons_succ, List.getElem?_cons_zero]; rfl) (fun K hK => ?_) AllReadyH.nil
  go_simp
  clear hHeld
  refine (rsame_q (by exact Q_p6.out) (by exact Q_p8.out) (Rat.add_assoc _ _ _)).mono ?_
  rintro e w21 ⟨rfl, hb⟩
  replace HT := Lib.hid (HT.out.below hb)
  replace R_a := Lib.hid (R_a.out.below hb)
  replace R_b := Lib.hid (R_b.out.below hb)
  replace R_c := Lib.hid (R_c.out.below hb)
  replace Q_z := Lib.hid (Q_z.out.below hb)
  replace Q_o := Lib.hid (Q_o.out.below hb)
  replace Q_x := Lib.hid (Q_x.out.below hb)
  replace Q_p5 := Lib.hid (Q_p5.out.below hb)
  replace Q_p6 := Lib.hid (Q_p6.out.below hb)
  replace Q_p7 := Lib.hid (Q_p7.out.below hb)
  replace Q_p8 := Lib.hid (Q_p8.out.below hb)
  replace B_a := Lib.hid (B_a.out.below hb)
  replace B_b := Lib.hid (B_b.out.below hb)
  replace B_c := Lib.hid (B_c.out.below hb)
  replace B_z := Lib.hid (B_z.out.below hb)
  replace B_o := Lib.hid (B_o.out.below hb)
  replace B_x := Lib.hid (B_x.out.below hb)
  replace hB := below_next hB hb
  clear hb
  clear Q_p5
  clear Q_p6
  clear Q_p7
  clear Q_p8
  go_wp2_with fail
  refine hK.out _ _ (by exact ⟨B_a.out.c3, B_b.out.c3, B_c.out.c3⟩) (fun hHeld => ?_)
  clear hK K
  refine wpAnyH_takeQ 30 (v := ?_) (fun _ _ _ _ _ h => h) (by simp only [List.getElem?_toArray, List.getElem?_cons_succ, List.getElem?_cons_zero]; rfl) (by kernel_rfl) (by kernel_rfl) (by kernel_rfl) (by rfl) ?_ hHeld ?_; rotate_left; · (intro w hSw; (try dsimp only at hSw); go_simp; (try with_reducible rfl))
  try simp only [Act.put, List.setIfInBounds_toArray, List.set_cons_zero, List.set_cons_succ]
  refine wpAnyH_takeQ 31 (v := ?_) (fun _ _ _ _ _ h => h) (by simp only [List.getElem?_toArray, List.getElem?_cons_succ, List.getElem?_cons_zero]; rfl) (by kernel_rfl) (by kernel_rfl) (by kernel_rfl) (by rfl) ?_ hHeld ?_; rotate_left; · (intro w hSw; (try dsimp only at hSw); go_simp; (try with_reducible rfl))
  try simp only [Act.put, List.setIfInBounds_toArray, List.set_cons_zero, List.set_cons_succ]
  refine wpAnyH_takeQ 32 (v := ?_) (fun _ _ _ _ _ h => h) (by simp only [List.getElem?_toArray, List.getElem?_cons_succ, List.getElem?_cons_zero]; rfl) (by kernel_rfl) (by kernel_rfl) (by kernel_rfl) (by rfl) ?_ hHeld ?_; rotate_left; · (intro w hSw; (try dsimp only at hSw); go_simp; (try with_reducible rfl))
  try simp only [Act.put, List.setIfInBounds_toArray, List.set_cons_zero, List.set_cons_succ]
  refine wpAnyH_takeQ 33 (v := ?_) (fun _ _ _ _ _ h => h) (by simp only [List.getElem?_toArray, List.getElem?_cons_succ, List.getElem?_cons_zero]; rfl) (by kernel_rfl) (by kernel_rfl) (by kernel_rfl) (by rfl) ?_ hHeld ?_; rotate_left; · (intro w hSw; (try dsimp only at hSw); go_simp; (try with_reducible rfl))
  try simp only [Act.put, List.setIfInBounds_toArray, List.set_cons_zero, List.set_cons_succ]
  refine wpAnyH_takeQ 34 (v := ?_) (fun _ _ _ _ _ h => h) (by simp only [List.getElem?_toArray, List.getElem?_cons_succ, List.getElem?_cons_zero]; rfl) (by kernel_rfl) (by kernel_rfl) (by kernel_rfl) (by rfl) ?_ hHeld ?_; rotate_left; · (intro w hSw; (try dsimp only at hSw); go_simp; (try with_reducible rfl))
  try simp only [Act.put, List.setIfInBounds_toArray, List.set_cons_zero, List.set_cons_succ]
  refine wpAnyH_takeQ 36 (v := ?_) (fun _ _ _ _ _ h => h) (by simp only [List.getElem?_toArray, List.getElem?_cons_succ, List.getElem?_cons_zero]; rfl) (by kernel_rfl) (by kernel_rfl) (by kernel_rfl) (by rfl) ?_ hHeld ?_; rotate_left; · (intro w hSw; (try dsimp only at hSw); go_simp; (try with_reducible rfl))
  try simp only [Act.put, List.setIfInBounds_toArray, List.set_cons_zero, List.set_cons_succ]
  refine wpAnyH_takeQ 38 (v := ?_) (fun _ _ _ _ _ h => h) (by simp only [List.getElem?_toArray, List.getElem?_cons_succ, List.getElem?_cons_zero]; rfl) (by kernel_rfl) (by kernel_rfl) (by kernel_rfl) (by rfl) ?_ hHeld ?_; rotate_left; · (intro w hSw; (try dsimp only at hSw); go_simp; (try with_reducible rfl))
  try simp only [Act.put, List.setIfInBounds_toArray, List.set_cons_zero, List.set_cons_succ]
  refine wpAnyH_takeQ 39 (v := ?_) (fun _ _ _ _ _ h => h) (by simp only [List.getElem?_toArray, List.getElem?_cons_succ, List.getElem?_cons_zero]; rfl) (by kernel_rfl) (by kernel_rfl) (by kernel_rfl) (by rfl) ?_ hHeld ?_; rotate_left; · (intro w hSw; (try dsimp only at hSw); go_simp; (try with_reducible rfl))
  try simp only [Act.put, List.setIfInBounds_toArray, List.set_cons_zero, List.set_cons_succ]
  refine wpAnyH_takeQ 40 (v := ?_) (fun _ _ _ _ _ h => h) (by simp only [List.getElem?_toArray, List.getElem?_cons_succ, List.getElem?_cons_zero]; rfl) (by kernel_rfl) (by kernel_rfl) (by kernel_rfl) (by rfl) ?_ hHeld ?_; rotate_left; · (intro w hSw; (try dsimp only at hSw); go_simp; (try with_reducible rfl))
  try simp only [Act.put, List.setIfInBounds_toArray, List.set_cons_zero, List.set_cons_succ]
  refine wpAnyH_ready (rs := [35]) (by kernel_rfl) (by simp) ?_
  refine AllReadyH.cons (by simp only [List.getElem?_toArray, List.getElem?_cons_succ, List.getElem?_cons_zero]; rfl) (fun K hK => ?_) AllReadyH.nil
  go_simp
  clear hHeld
  refine (qmul_any _ _ _ _ 6 _ _ _ _ 6 _ (by exact R_a.out) (by exact R_b.out) (by omega) (by omega) (by omega) (by omega)).mono ?_
  rintro e w22 ⟨b_p9, A_p9, n_p9, c_p9, D_p9, e_p9, f_p9, rfl, h_p9, hb⟩
  replace HT := Lib.hid (HT.out.below hb)
  replace R_a := Lib.hid (R_a.out.below hb)
  replace R_b := Lib.hid (R_b.out.below hb)
  replace R_c := Lib.hid (R_c.out.below hb)
  replace Q_z := Lib.hid (Q_z.out.below hb)
  replace Q_o := Lib.hid (Q_o.out.below hb)
  replace Q_x := Lib.hid (Q_x.out.below hb)
  replace B_a := Lib.hid (B_a.out.below hb)
  replace B_b := Lib.hid (B_b.out.below hb)
  replace B_c := Lib.hid (B_c.out.below hb)
  replace B_z := Lib.hid (B_z.out.below hb)
  replace B_o := Lib.hid (B_o.out.below hb)
  replace B_x := Lib.hid (B_x.out.below hb)
  replace hB := below_next hB hb
  clear hb
  have Q_p9 := Lib.hid h_p9
  clear h_p9
  go_wp2_with fail
  refine hK.out _ _ (by exact ⟨B_a.out.c3, B_b.out.c3, B_c.out.c3⟩) (fun hHeld => ?_)
  clear hK K
  refine wpAnyH_ready (rs := [37]) (by kernel_rfl) (by simp) ?_
  refine AllReadyH.cons (by simp only [List.getElem?_toArray, List.getElem?_cons_succ, List.getElem?_cons_zero]; rfl) (fun K hK => ?_) AllReadyH.nil
  go_simp
  clear hHeld
  refine (qmul_any _ _ _ _ 12 _ _ _ _ 6 _ (by exact Q_p9.out.rat ((S_a.mul S_b).more (by omega))) (by exact R_c.out) (by omega) (by omega) (by omega) (by omega)).mono ?_
  rintro e w23 ⟨b_pa, A_pa, n_pa, c_pa, D_pa, e_pa, f_pa, rfl, h_pa, hb⟩
  replace HT := Lib.hid (HT.out.below hb)
  replace R_a := Lib.hid (R_a.out.below hb)
  replace R_b := Lib.hid (R_b.out.below hb)
  replace R_c := Lib.hid (R_c.out.below hb)
  replace Q_z := Lib.hid (Q_z.out.below hb)
  replace Q_o := Lib.hid (Q_o.out.below hb)
  replace Q_x := Lib.hid (Q_x.out.below hb)
  replace Q_p9 := Lib.hid (Q_p9.out.below hb)
  replace B_a := Lib.hid (B_a.out.below hb)
  replace B_b := Lib.hid (B_b.out.below hb)
  replace B_c := Lib.hid (B_c.out.below hb)
  replace B_z := Lib.hid (B_z.out.below hb)
  replace B_o := Lib.hid (B_o.out.below hb)
  replace B_x := Lib.hid (B_x.out.below hb)
  replace hB := below_next hB hb
  clear hb
  have Q_pa := Lib.hid h_pa
  clear h_pa
  go_wp2_with fail
  refine hK.out _ _ (by exact ⟨B_a.out.c3, B_b.out.c3, B_c.out.c3⟩) (fun hHeld => ?_)
  clear hK K
  refine wpAnyH_ready (rs := [41]) (by kernel_rfl) (by simp) ?_
  refine AllReadyH.cons (by simp only [List.getElem?_toArray, List.getElem?_cons_succ, List.getElem?_cons_zero]; rfl) (fun K hK => ?_) AllReadyH.nil
  go_simp
  clear hHeld
  refine (qmul_any _ _ _ _ 6 _ _ _ _ 6 _ (by exact R_b.out) (by exact R_c.out) (by omega) (by omega) (by omega) (by omega)).mono ?_
  rintro e w24 ⟨b_pb, A_pb, n_pb, c_pb, D_pb, e_pb, f_pb, rfl, h_pb, hb⟩
  replace HT := Lib.hid (HT.out.below hb)
  replace R_a := Lib.hid (R_a.out.below hb)
  replace R_b := Lib.hid (R_b.out.below hb)
  replace R_c := Lib.hid (R_c.out.below hb)
  replace Q_z := Lib.hid (Q_z.out.below hb)
  replace Q_o := Lib.hid (Q_o.out.below hb)
  replace Q_x := Lib.hid (Q_x.out.below hb)
  replace Q_p9 := Lib.hid (Q_p9.out.below hb)
  replace Q_pa := Lib.hid (Q_pa.out.below hb)
  replace B_a := Lib.hid (B_a.out.below hb)
  replace B_b := Lib.hid (B_b.out.below hb)
  replace B_c := Lib.hid (B_c.out.below hb)
  replace B_z := Lib.hid (B_z.out.below hb)
  replace B_o := Lib.hid (B_o.out.below hb)
  replace B_x := Lib.hid (B_x.out.below hb)
  replace hB := below_next hB hb
  clear hb
  have Q_pb := Lib.hid h_pb
  clear h_pb
  go_wp2_with fail
  refine hK.out _ _ (by exact ⟨B_a.out.c3, B_b.out.c3, B_c.out.c3⟩) (fun hHeld => ?_)
  clear hK K
  refine wpAnyH_ready (rs := [42]) (by kernel_rfl) (by simp) ?_
  refine AllReadyH.cons (by simp only [List.getElem?_toArray, List.getElem?_cons_succ, List.getElem?_cons_zero]; rfl) (fun K hK => ?_) AllReadyH.nil
  go_simp
  clear hHeld
  refine (qmul_any _ _ _ _ 6 _ _ _ _ 12 _ (by exact R_a.out) (by exact Q_pb.out.rat ((S_b.mul S_c).more (by omega))) (by omega) (by omega) (by omega) (by omega)).mono ?_
  rintro e w25 ⟨b_pc, A_pc, n_pc, c_pc, D_pc, e_pc, f_pc, rfl, h_pc, hb⟩
  replace HT := Lib.hid (HT.out.below hb)
  replace R_a := Lib.hid (R_a.out.below hb)
  replace R_b := Lib.hid (R_b.out.below hb)
  replace R_c := Lib.hid (R_c.out.below hb)
  replace Q_z := Lib.hid (Q_z.out.below hb)
  replace Q_o := Lib.hid (Q_o.out.below hb)
  replace Q_x := Lib.hid (Q_x.out.below hb)
  replace Q_p9 := Lib.hid (Q_p9.out.below hb)
  replace Q_pa := Lib.hid (Q_pa.out.below hb)
  replace Q_pb := Lib.hid (Q_pb.out.below hb)
  replace B_a := Lib.hid (B_a.out.below hb)
  replace B_b := Lib.hid (B_b.out.below hb)
  replace B_c := Lib.hid (B_c.out.below hb)
  replace B_z := Lib.hid (B_z.out.below hb)
  replace B_o := Lib.hid (B_o.out.below hb)
  replace B_x := Lib.hid (B_x.out.below hb)
  replace hB := below_next hB hb
  clear hb
  have Q_pc := Lib.hid h_pc
  clear h_pc
  go_wp2_with fail
  refine hK.out _ _ (by exact ⟨B_a.out.c3, B_b.out.c3, B_c.out.c3⟩) (fun hHeld => ?_)
  clear hK K
  refine wpAnyH_ready (rs := [43]) (by kernel_rfl) (by simp) ?_
  refine AllReadyH.cons (by simp only [List.getElem?_toArray, List.getElem?_cons_succ, List.getElem?_cons_zero]; rfl) (fun K hK => ?_) AllReadyH.nil
  go_simp
  clear hHeld
  refine (rsame_q (by exact Q_pa.out) (by exact Q_pc.out) (Rat.mul_assoc _ _ _)).mono ?_
  rintro e w26 ⟨rfl, hb⟩
  replace HT := Lib.hid (HT.out.below hb)
  replace R_a := Lib.hid (R_a.out.below hb)
  replace R_b := Lib.hid (R_b.out.below hb)
  replace R_c := Lib.hid (R_c.out.below hb)
  replace Q_z := Lib.hid (Q_z.out.below hb)
  replace Q_o := Lib.hid (Q_o.out.below hb)
  replace Q_x := Lib.hid (Q_x.out.below hb)
  replace Q_p9 := Lib.hid (Q_p9.out.below hb)
  replace Q_pa := Lib.hid (Q_pa.out.below hb)
  replace Q_pb := Lib.hid (Q_pb.out.below hb)
  replace Q_pc := Lib.hid (Q_pc.out.below hb)
  replace B_a := Lib.hid (B_a.out.below hb)
  replace B_b := Lib.hid (B_b.out.below hb)
  replace B_c := Lib.hid (B_c.out.below hb)
  replace B_z := Lib.hid (B_z.out.below hb)
  replace B_o := Lib.hid (B_o.out.below hb)
  replace B_x := Lib.hid (B_x.out.below hb)
  replace hB := below_next hB hb
  clear hb
  clear Q_p9
  clear Q_pa
  clear Q_pb
  clear Q_pc
  go_wp2_with fail
  refine hK.out _ _ (by exact ⟨B_a.out.c3, B_b.out.c3, B_c.out.c3⟩) (fun hHeld => ?_)
  clear hK K
  refine wpAnyH_takeQ 44 (v := ?_) (fun _ _ _ _ _ h => h) (by simp only [List.getElem?_toArray, List.getElem?_cons_succ, List.getElem?_cons_zero]; rfl) (by kernel_rfl) (by kernel_rfl) (by kernel_rfl) (by rfl) ?_ hHeld ?_; rotate_left; · (intro w hSw; (try dsimp only at hSw); go_simp; (try with_reducible rfl))
  try simp only [Act.put, List.setIfInBounds_toArray, List.set_cons_zero, List.set_cons_succ]
  refine wpAnyH_takeQ 45 (v := ?_) (fun _ _ _ _ _ h => h) (by simp only [List.getElem?_toArray, List.getElem?_cons_succ, List.getElem?_cons_zero]; rfl) (by kernel_rfl) (by kernel_rfl) (by kernel_rfl) (by rfl) ?_ hHeld ?_; rotate_left; · (intro w hSw; (try dsimp only at hSw); go_simp; (try with_reducible rfl))
  try simp only [Act.put, List.setIfInBounds_toArray, List.set_cons_zero, List.set_cons_succ]
  refine wpAnyH_done (by kernel_rfl) (NoPanic.normal ?_) _
  clear hHeld
  have c_a0 := B_a.out.cell0
  have c_a1 := B_a.out.cell1
  have c_a2 := B_a.out.cell2
  have c_b0 := B_b.out.cell0
  have c_b1 := B_b.out.cell1
  have c_b2 := B_b.out.cell2
  have c_c0 := B_c.out.cell0
  have c_c1 := B_c.out.cell1
  have c_c2 := B_c.out.cell2
  have c_z0 := B_z.out.cell0
  have c_z1 := B_z.out.cell1
  have c_z2 := B_z.out.cell2
  have c_o0 := B_o.out.cell0
  have c_o1 := B_o.out.cell1
  have c_o2 := B_o.out.cell2
  have c_x0 := B_x.out.cell0
  have c_x1 := B_x.out.cell1
  have c_x2 := B_x.out.cell2
  go_wp2
  clear c_a0 c_a1 c_a2 c_b0 c_b1 c_b2 c_c0 c_c1 c_c2 c_z0 c_z1 c_z2 c_o0 c_o1 c_o2 c_x0 c_x1 c_x2
  refine wp_region_named (S := (fun w' => (w'.cell? ⟨w.heap.size, 0, none⟩ = some (.bool b_a) ∧ w'.cell? ⟨w.heap.size, 1, none⟩ = some m_a ∧ w'.cell? ⟨w.heap.size, 2, none⟩ = some d_a) ∧ (w'.cell? ⟨w.heap.size + 1, 0, none⟩ = some (.bool b_b) ∧ w'.cell? ⟨w.heap.size + 1, 1, none⟩ = some m_b ∧ w'.cell? ⟨w.heap.size + 1, 2, none⟩ = some d_b) ∧ (w'.cell? ⟨w.heap.size + 1 + 1, 0, none⟩ = some (.bool b_c) ∧ w'.cell? ⟨w.heap.size + 1 + 1, 1, none⟩ = some m_c ∧ w'.cell? ⟨w.heap.size + 1 + 1, 2, none⟩ = some d_c) ∧ (w'.cell? ⟨g_z, 0, none⟩ = some (.bool b_z) ∧ w'.cell? ⟨g_z, 1, none⟩ = some (.slice A_z n_z c_z) ∧ w'.cell? ⟨g_z, 2, none⟩ = some (.slice D_z e_z f_z)) ∧ (w'.cell? ⟨g_o, 0, none⟩ = some (.bool b_o) ∧ w'.cell? ⟨g_o, 1, none⟩ = some (.slice A_o n_o c_o) ∧ w'.cell? ⟨g_o, 2, none⟩ = some (.slice D_o e_o f_o)) ∧ (w'.cell? ⟨g_x, 0, none⟩ = some (.bool b_x) ∧ w'.cell? ⟨g_x, 1, none⟩ = some (.slice A_x n_x c_x) ∧ w'.cell? ⟨g_x, 2, none⟩ = some (.slice D_x e_x f_x)))) (by kernel_rfl) (by exact ⟨B_a.out.c3, B_b.out.c3, B_c.out.c3, B_z.out.c3, B_o.out.c3, B_x.out.c3⟩) (fun V27 hb hHeld => ?_)
  replace HT := Lib.hid (HT.out.below hb)
  replace R_a := Lib.hid (R_a.out.below hb)
  replace R_b := Lib.hid (R_b.out.below hb)
  replace R_c := Lib.hid (R_c.out.below hb)
  replace Q_z := Lib.hid (Q_z.out.below hb)
  replace Q_o := Lib.hid (Q_o.out.below hb)
  replace Q_x := Lib.hid (Q_x.out.below hb)
  replace B_a := Lib.hid (B_a.out.below hb)
  replace B_b := Lib.hid (B_b.out.below hb)
  replace B_c := Lib.hid (B_c.out.below hb)
  replace B_z := Lib.hid (B_z.out.below hb)
  replace B_o := Lib.hid (B_o.out.below hb)
  replace B_x := Lib.hid (B_x.out.below hb)
  replace hB := below_next hB hb
  clear hb
  refine wpAnyH_takeQ 0 (v := ?_) (fun _ _ _ _ _ h => h) (by simp only [List.getElem?_toArray, List.getElem?_cons_zero]; rfl) (by kernel_rfl) (by kernel_rfl) (by kernel_rfl) (by rfl) ?_ hHeld ?_; rotate_left; · (intro w hSw; (try dsimp only at hSw); go_simp; (try with_reducible rfl))
  try simp only [Act.put, List.setIfInBounds_toArray, List.set_cons_zero, List.set_cons_succ]
  refine wpAnyH_takeQ 1 (v := ?_) (fun _ _ _ _ _ h => h) (by simp only [List.getElem?_toArray, List.getElem?_cons_succ, List.getElem?_cons_zero]; rfl) (by kernel_rfl) (by kernel_rfl) (by kernel_rfl) (by rfl) ?_ hHeld ?_; rotate_left; · (intro w hSw; (try dsimp only at hSw); go_simp; (try with_reducible rfl))
  try simp only [Act.put, List.setIfInBounds_toArray, List.set_cons_zero, List.set_cons_succ]
  refine wpAnyH_takeQ 2 (v := ?_) (fun _ _ _ _ _ h => h) (by simp only [List.getElem?_toArray, List.getElem?_cons_succ, List.getElem?_cons_zero]; rfl) (by kernel_rfl) (by kernel_rfl) (by kernel_rfl) (by rfl) ?_ hHeld ?_; rotate_left; · (intro w hSw; (try dsimp only at hSw); go_simp; (try with_reducible rfl))
  try simp only [Act.put, List.setIfInBounds_toArray, List.set_cons_zero, List.set_cons_succ]
  refine wpAnyH_takeQ 5 (v := ?_) (fun _ _ _ _ _ h => h) (by simp only [List.getElem?_toArray, List.getElem?_cons_succ, List.getElem?_cons_zero]; rfl) (by kernel_rfl) (by kernel_rfl) (by kernel_rfl) (by rfl) ?_ hHeld ?_; rotate_left; · (intro w hSw; (try dsimp only at hSw); go_simp; (try with_reducible rfl))
  try simp only [Act.put, List.setIfInBounds_toArray, List.set_cons_zero, List.set_cons_succ]
  refine wpAnyH_takeQ 6 (v := ?_) (fun _ _ _ _ _ h => h) (by simp only [List.getElem?_toArray, List.getElem?_cons_succ, List.getElem?_cons_zero]; rfl) (by kernel_rfl) (by kernel_rfl) (by kernel_rfl) (by rfl) ?_ hHeld ?_; rotate_left; · (intro w hSw; (try dsimp only at hSw); go_simp; (try with_reducible rfl))
  try simp only [Act.put, List.setIfInBounds_toArray, List.set_cons_zero, List.set_cons_succ]
  refine wpAnyH_takeQ 8 (v := ?_) (fun _ _ _ _ _ h => h) (by simp only [List.getElem?_toArray, List.getElem?_cons_succ, List.getElem?_cons_zero]; rfl) (by kernel_rfl) (by kernel_rfl) (by kernel_rfl) (by rfl) ?_ hHeld ?_; rotate_left; · (intro w hSw; (try dsimp only at hSw); go_simp; (try with_reducible rfl))
  try simp only [Act.put, List.setIfInBounds_toArray, List.set_cons_zero, List.set_cons_succ]
  refine wpAnyH_takeQ 9 (v := ?_) (fun _ _ _ _ _ h => h) (by simp only [List.getElem?_toArray, List.getElem?_cons_succ, List.getElem?_cons_zero]; rfl) (by kernel_rfl) (by kernel_rfl) (by kernel_rfl) (by rfl) ?_ hHeld ?_; rotate_left; · (intro w hSw; (try dsimp only at hSw); go_simp; (try with_reducible rfl))
  try simp only [Act.put, List.setIfInBounds_toArray, List.set_cons_zero, List.set_cons_succ]
  refine wpAnyH_ready (rs := [3]) (by kernel_rfl) (by simp) ?_
  refine AllReadyH.cons (by simp only [List.getElem?_toArray, List.getElem?_cons_succ, List.getElem?_cons_zero]; rfl) (fun K hK => ?_) AllReadyH.nil
  go_simp
  clear hHeld
  refine (qadd_any _ _ _ _ 6 _ _ _ _ 6 _ (by exact R_b.out) (by exact R_c.out) (by omega) (by omega) (by omega) (by omega)).mono ?_
  rintro e w28 ⟨b_r1, A_r1, n_r1, c_r1, D_r1, e_r1, f_r1, rfl, h_r1, hb⟩
  replace HT := Lib.hid (HT.out.below hb)
  replace R_a := Lib.hid (R_a.out.below hb)
  replace R_b := Lib.hid (R_b.out.below hb)
  replace R_c := Lib.hid (R_c.out.below hb)
  replace Q_z := Lib.hid (Q_z.out.below hb)
  replace Q_o := Lib.hid (Q_o.out.below hb)
  replace Q_x := Lib.hid (Q_x.out.below hb)
  replace B_a := Lib.hid (B_a.out.below hb)
  replace B_b := Lib.hid (B_b.out.below hb)
  replace B_c := Lib.hid (B_c.out.below hb)
  replace B_z := Lib.hid (B_z.out.below hb)
  replace B_o := Lib.hid (B_o.out.below hb)
  replace B_x := Lib.hid (B_x.out.below hb)
  replace hB := below_next hB hb
  clear hb
  have Q_r1 := Lib.hid h_r1
  clear h_r1
  go_wp2_with fail
  refine hK.out _ _ (by exact ⟨B_a.out.c3, B_b.out.c3, B_c.out.c3, B_z.out.c3, B_o.out.c3, B_x.out.c3⟩) (fun hHeld => ?_)
  clear hK K
  refine wpAnyH_ready (rs := [4]) (by kernel_rfl) (by simp) ?_
  refine AllReadyH.cons (by simp only [List.getElem?_toArray, List.getElem?_cons_succ, List.getElem?_cons_zero]; rfl) (fun K hK => ?_) AllReadyH.nil
  go_simp
  clear hHeld
  refine (qmul_any _ _ _ _ 6 _ _ _ _ 13 _ (by exact R_a.out) (by exact Q_r1.out.rat ((S_b.add S_c).more (by omega))) (by omega) (by omega) (by omega) (by omega)).mono ?_
  rintro e w29 ⟨b_r2, A_r2, n_r2, c_r2, D_r2, e_r2, f_r2, rfl, h_r2, hb⟩
  replace HT := Lib.hid (HT.out.below hb)
  replace R_a := Lib.hid (R_a.out.below hb)
  replace R_b := Lib.hid (R_b.out.below hb)
  replace R_c := Lib.hid (R_c.out.below hb)
  replace Q_z := Lib.hid (Q_z.out.below hb)
  replace Q_o := Lib.hid (Q_o.out.below hb)
  replace Q_x := Lib.hid (Q_x.out.below hb)
  replace Q_r1 := Lib.hid (Q_r1.out.below hb)
  replace B_a := Lib.hid (B_a.out.below hb)
  replace B_b := Lib.hid (B_b.out.below hb)
  replace B_c := Lib.hid (B_c.out.below hb)
  replace B_z := Lib.hid (B_z.out.below hb)
  replace B_o := Lib.hid (B_o.out.below hb)
  replace B_x := Lib.hid (B_x.out.below hb)
  replace hB := below_next hB hb
  clear hb
  have Q_r2 := Lib.hid h_r2
  clear h_r2
  go_wp2_with fail
  refine hK.out _ _ (by exact ⟨B_a.out.c3, B_b.out.c3, B_c.out.c3, B_z.out.c3, B_o.out.c3, B_x.out.c3⟩) (fun hHeld => ?_)
  clear hK K
  refine wpAnyH_ready (rs := [7]) (by kernel_rfl) (by simp) ?_
  refine AllReadyH.cons (by simp only [List.getElem?_toArray, List.getElem?_cons_succ, List.getElem?_cons_zero]; rfl) (fun K hK => ?_) AllReadyH.nil
  go_simp
  clear hHeld
  refine (qmul_any _ _ _ _ 6 _ _ _ _ 6 _ (by exact R_a.out) (by exact R_b.out) (by omega) (by omega) (by omega) (by omega)).mono ?_
  rintro e w30 ⟨b_r3, A_r3, n_r3, c_r3, D_r3, e_r3, f_r3, rfl, h_r3, hb⟩
  replace HT := Lib.hid (HT.out.below hb)
  replace R_a := Lib.hid (R_a.out.below hb)
  replace R_b := Lib.hid (R_b.out.below hb)
  replace R_c := Lib.hid (R_c.out.below hb)
  replace Q_z := Lib.hid (Q_z.out.below hb)
  replace Q_o := Lib.hid (Q_o.out.below hb)
  replace Q_x := Lib.hid (Q_x.out.below hb)
  replace Q_r1 := Lib.hid (Q_r1.out.below hb)
  replace Q_r2 := Lib.hid (Q_r2.out.below hb)
  replace B_a := Lib.hid (B_a.out.below hb)
  replace B_b := Lib.hid (B_b.out.below hb)
  replace B_c := Lib.hid (B_c.out.below hb)
  replace B_z := Lib.hid (B_z.out.below hb)
  replace B_o := Lib.hid (B_o.out.below hb)
  replace B_x := Lib.hid (B_x.out.below hb)
  replace hB := below_next hB hb
  clear hb
  have Q_r3 := Lib.hid h_r3
  clear h_r3
  go_wp2_with fail
  refine hK.out _ _ (by exact ⟨B_a.out.c3, B_b.out.c3, B_c.out.c3, B_z.out.c3, B_o.out.c3, B_x.out.c3⟩) (fun hHeld => ?_)
  clear hK K
  refine wpAnyH_ready (rs := [10]) (by kernel_rfl) (by simp) ?_
  refine AllReadyH.cons (by simp only [List.getElem?_toArray, List.getElem?_cons_succ, List.getElem?_cons_zero]; rfl) (fun K hK => ?_) AllReadyH.nil
  go_simp
  clear hHeld
  refine (qmul_any _ _ _ _ 6 _ _ _ _ 6 _ (by exact R_a.out) (by exact R_c.out) (by omega) (by omega) (by omega) (by omega)).mono ?_
  rintro e w31 ⟨b_r4, A_r4, n_r4, c_r4, D_r4, e_r4, f_r4, rfl, h_r4, hb⟩
  replace HT := Lib.hid (HT.out.below hb)
  replace R_a := Lib.hid (R_a.out.below hb)
  replace R_b := Lib.hid (R_b.out.below hb)
  replace R_c := Lib.hid (R_c.out.below hb)
  replace Q_z := Lib.hid (Q_z.out.below hb)
  replace Q_o := Lib.hid (Q_o.out.below hb)
  replace Q_x := Lib.hid (Q_x.out.below hb)
  replace Q_r1 := Lib.hid (Q_r1.out.below hb)
  replace Q_r2 := Lib.hid (Q_r2.out.below hb)
  replace Q_r3 := Lib.hid (Q_r3.out.below hb)
  replace B_a := Lib.hid (B_a.out.below hb)
  replace B_b := Lib.hid (B_b.out.below hb)
  replace B_c := Lib.hid (B_c.out.below hb)
  replace B_z := Lib.hid (B_z.out.below hb)
  replace B_o := Lib.hid (B_o.out.below hb)
  replace B_x := Lib.hid (B_x.out.below hb)
  replace hB := below_next hB hb
  clear hb
  have Q_r4 := Lib.hid h_r4
  clear h_r4
  go_wp2_with fail
  refine hK.out _ _ (by exact ⟨B_a.out.c3, B_b.out.c3, B_c.out.c3, B_z.out.c3, B_o.out.c3, B_x.out.c3⟩) (fun hHeld => ?_)
  clear hK K
  refine wpAnyH_ready (rs := [11]) (by kernel_rfl) (by simp) ?_
  refine AllReadyH.cons (by simp only [List.getElem?_toArray, List.getElem?_cons_succ, List.getElem?_cons_zero]; rfl) (fun K hK => ?_) AllReadyH.nil
  go_simp
  clear hHeld
  refine (qadd_any _ _ _ _ 12 _ _ _ _ 12 _ (by exact Q_r3.out.rat ((S_a.mul S_b).more (by omega))) (by exact Q_r4.out.rat ((S_a.mul S_c).more (by omega))) (by omega) (by omega) (by omega) (by omega)).mono ?_
  rintro e w32 ⟨b_r5, A_r5, n_r5, c_r5, D_r5, e_r5, f_r5, rfl, h_r5, hb⟩
  replace HT := Lib.hid (HT.out.below hb)
  replace R_a := Lib.hid (R_a.out.below hb)
  replace R_b := Lib.hid (R_b.out.below hb)
  replace R_c := Lib.hid (R_c.out.below hb)
  replace Q_z := Lib.hid (Q_z.out.below hb)
  replace Q_o := Lib.hid (Q_o.out.below hb)
  replace Q_x := Lib.hid (Q_x.out.below hb)
  replace Q_r1 := Lib.hid (Q_r1.out.below hb)
  replace Q_r2 := Lib.hid (Q_r2.out.below hb)
  replace Q_r3 := Lib.hid (Q_r3.out.below hb)
  replace Q_r4 := Lib.hid (Q_r4.out.below hb)
  replace B_a := Lib.hid (B_a.out.below hb)
  replace B_b := Lib.hid (B_b.out.below hb)
  replace B_c := Lib.hid (B_c.out.below hb)
  replace B_z := Lib.hid (B_z.out.below hb)
  replace B_o := Lib.hid (B_o.out.below hb)
  replace B_x := Lib.hid (B_x.out.below hb)
  replace hB := below_next hB hb
  clear hb
  have Q_r5 := Lib.hid h_r5
  clear h_r5
  go_wp2_with fail
  refine hK.out _ _ (by exact ⟨B_a.out.c3, B_b.out.c3, B_c.out.c3, B_z.out.c3, B_o.out.c3, B_x.out.c3⟩) (fun hHeld => ?_)
  clear hK K
  refine wpAnyH_ready (rs := [12]) (by kernel_rfl) (by simp) ?_
  refine AllReadyH.cons (by simp only [List.getElem?_toArray, List.getElem?_cons_succ, List.getElem?_cons_zero]; rfl) (fun K hK => ?_) AllReadyH.nil
  go_simp
  clear hHeld
  refine (rsame_q (by exact Q_r2.out) (by exact Q_r5.out) (Rat.mul_add _ _ _)).mono ?_
  rintro e w33 ⟨rfl, hb⟩
  replace HT := Lib.hid (HT.out.below hb)
  replace R_a := Lib.hid (R_a.out.below hb)
  replace R_b := Lib.hid (R_b.out.below hb)
  replace R_c := Lib.hid (R_c.out.below hb)
  replace Q_z := Lib.hid (Q_z.out.below hb)
  replace Q_o := Lib.hid (Q_o.out.below hb)
  replace Q_x := Lib.hid (Q_x.out.below hb)
  replace Q_r1 := Lib.hid (Q_r1.out.below hb)
  replace Q_r2 := Lib.hid (Q_r2.out.below hb)
  replace Q_r3 := Lib.hid (Q_r3.out.below hb)
  replace Q_r4 := Lib.hid (Q_r4.out.below hb)
  replace Q_r5 := Lib.hid (Q_r5.out.below hb)
  replace B_a := Lib.hid (B_a.out.below hb)
  replace B_b := Lib.hid (B_b.out.below hb)
  replace B_c := Lib.hid (B_c.out.below hb)
  replace B_z := Lib.hid (B_z.out.below hb)
  replace B_o := Lib.hid (B_o.out.below hb)
  replace B_x := Lib.hid (B_x.out.below hb)
  replace hB := below_next hB hb
  clear hb
  clear Q_r1
  clear Q_r2
  clear Q_r3
  clear Q_r4
  clear Q_r5
  go_wp2_with fail
  refine hK.out _ _ (by exact ⟨B_a.out.c3, B_b.out.c3, B_c.out.c3, B_z.out.c3, B_o.out.c3, B_x.out.c3⟩) (fun hHeld => ?_)
  clear hK K
  refine wpAnyH_takeQ 13 (v := ?_) (fun _ _ _ _ _ h => h) (by simp only [List.getElem?_toArray, List.getElem?_cons_succ, List.getElem?_cons_zero]; rfl) (by kernel_rfl) (by kernel_rfl) (by kernel_rfl) (by rfl) ?_ hHeld ?_; rotate_left; · (intro w hSw; (try dsimp only at hSw); go_simp; (try with_reducible rfl))
  try simp only [Act.put, List.setIfInBounds_toArray, List.set_cons_zero, List.set_cons_succ]
  refine wpAnyH_takeQ 14 (v := ?_) (fun _ _ _ _ _ h => h) (by simp only [List.getElem?_toArray, List.getElem?_cons_succ, List.getElem?_cons_zero]; rfl) (by kernel_rfl) (by kernel_rfl) (by kernel_rfl) (by rfl) ?_ hHeld ?_; rotate_left; · (intro w hSw; (try dsimp only at hSw); go_simp; (try with_reducible rfl))
  try simp only [Act.put, List.setIfInBounds_toArray, List.set_cons_zero, List.set_cons_succ]
  refine wpAnyH_takeQ 15 (v := ?_) (fun _ _ _ _ _ h => h) (by simp only [List.getElem?_toArray, List.getElem?_cons_succ, List.getElem?_cons_zero]; rfl) (by kernel_rfl) (by kernel_rfl) (by kernel_rfl) (by rfl) ?_ hHeld ?_; rotate_left; · (intro w hSw; (try dsimp only at hSw); go_simp; (try with_reducible rfl))
  try simp only [Act.put, List.setIfInBounds_toArray, List.set_cons_zero, List.set_cons_succ]
  refine wpAnyH_takeQ 16 (v := ?_) (fun _ _ _ _ _ h => h) (by simp only [List.getElem?_toArray, List.getElem?_cons_succ, List.getElem?_cons_zero]; rfl) (by kernel_rfl) (by kernel_rfl) (by kernel_rfl) (by rfl) ?_ hHeld ?_; rotate_left; · (intro w hSw; (try dsimp only at hSw); go_simp; (try with_reducible rfl))
  try simp only [Act.put, List.setIfInBounds_toArray, List.set_cons_zero, List.set_cons_succ]
  refine wpAnyH_takeQ 18 (v := ?_) (fun _ _ _ _ _ h => h) (by simp only [List.getElem?_toArray, List.getElem?_cons_succ, List.getElem?_cons_zero]; rfl) (by kernel_rfl) (by kernel_rfl) (by kernel_rfl) (by rfl) ?_ hHeld ?_; rotate_left; · (intro w hSw; (try dsimp only at hSw); go_simp; (try with_reducible rfl))
  try simp only [Act.put, List.setIfInBounds_toArray, List.set_cons_zero, List.set_cons_succ]
  refine wpAnyH_ready (rs := [17]) (by kernel_rfl) (by simp) ?_
  refine AllReadyH.cons (by simp only [List.getElem?_toArray, List.getElem?_cons_succ, List.getElem?_cons_zero]; rfl) (fun K hK => ?_) AllReadyH.nil
  go_simp
  clear hHeld
  refine (qadd_any _ _ _ _ 6 _ _ _ _ 1 _ (by exact R_a.out) (by exact Q_z.out.rat qsz0) (by omega) (by omega) (by omega) (by omega)).mono ?_
  rintro e w34 ⟨b_r6, A_r6, n_r6, c_r6, D_r6, e_r6, f_r6, rfl, h_r6, hb⟩
  replace HT := Lib.hid (HT.out.below hb)
  replace R_a := Lib.hid (R_a.out.below hb)
  replace R_b := Lib.hid (R_b.out.below hb)
  replace R_c := Lib.hid (R_c.out.below hb)
  replace Q_z := Lib.hid (Q_z.out.below hb)
  replace Q_o := Lib.hid (Q_o.out.below hb)
  replace Q_x := Lib.hid (Q_x.out.below hb)
  replace B_a := Lib.hid (B_a.out.below hb)
  replace B_b := Lib.hid (B_b.out.below hb)
  replace B_c := Lib.hid (B_c.out.below hb)
  replace B_z := Lib.hid (B_z.out.below hb)
  replace B_o := Lib.hid (B_o.out.below hb)
  replace B_x := Lib.hid (B_x.out.below hb)
  replace hB := below_next hB hb
  clear hb
  have Q_r6 := Lib.hid h_r6
  clear h_r6
  go_wp2_with fail
  refine hK.out _ _ (by exact ⟨B_a.out.c3, B_b.out.c3, B_c.out.c3, B_z.out.c3, B_o.out.c3, B_x.out.c3⟩) (fun hHeld => ?_)
  clear hK K
  refine wpAnyH_ready (rs := [19]) (by kernel_rfl) (by simp) ?_
  refine AllReadyH.cons (by simp only [List.getElem?_toArray, List.getElem?_cons_succ, List.getElem?_cons_zero]; rfl) (fun K hK => ?_) AllReadyH.nil
  go_simp
  clear hHeld
  refine (rsame_q (by exact Q_r6.out) (by exact Q_x.out) (Rat.add_zero _)).mono ?_
  rintro e w35 ⟨rfl, hb⟩
  replace HT := Lib.hid (HT.out.below hb)
  replace R_a := Lib.hid (R_a.out.below hb)
  replace R_b := Lib.hid (R_b.out.below hb)
  replace R_c := Lib.hid (R_c.out.below hb)
  replace Q_z := Lib.hid (Q_z.out.below hb)
  replace Q_o := Lib.hid (Q_o.out.below hb)
  replace Q_x := Lib.hid (Q_x.out.below hb)
  replace Q_r6 := Lib.hid (Q_r6.out.below hb)
  replace B_a := Lib.hid (B_a.out.below hb)
  replace B_b := Lib.hid (B_b.out.below hb)
  replace B_c := Lib.hid (B_c.out.below hb)
  replace B_z := Lib.hid (B_z.out.below hb)
  replace B_o := Lib.hid (B_o.out.below hb)
  replace B_x := Lib.hid (B_x.out.below hb)
  replace hB := below_next hB hb
  clear hb
  clear Q_r6
  go_wp2_with fail
  refine hK.out _ _ (by exact ⟨B_a.out.c3, B_b.out.c3, B_c.out.c3, B_z.out.c3, B_o.out.c3, B_x.out.c3⟩) (fun hHeld => ?_)
  clear hK K
  refine wpAnyH_takeQ 20 (v := ?_) (fun _ _ _ _ _ h => h) (by simp only [List.getElem?_toArray, List.getElem?_cons_succ, List.getElem?_cons_zero]; rfl) (by kernel_rfl) (by kernel_rfl) (by kernel_rfl) (by rfl) ?_ hHeld ?_; rotate_left; · (intro w hSw; (try dsimp only at hSw); go_simp; (try with_reducible rfl))
  try simp only [Act.put, List.setIfInBounds_toArray, List.set_cons_zero, List.set_cons_succ]
  refine wpAnyH_takeQ 21 (v := ?_) (fun _ _ _ _ _ h => h) (by simp only [List.getElem?_toArray, List.getElem?_cons_succ, List.getElem?_cons_zero]; rfl) (by kernel_rfl) (by kernel_rfl) (by kernel_rfl) (by rfl) ?_ hHeld ?_; rotate_left; · (intro w hSw; (try dsimp only at hSw); go_simp; (try with_reducible rfl))
  try simp only [Act.put, List.setIfInBounds_toArray, List.set_cons_zero, List.set_cons_succ]
  refine wpAnyH_takeQ 22 (v := ?_) (fun _ _ _ _ _ h => h) (by simp only [List.getElem?_toArray, List.getElem?_cons_succ, List.getElem?_cons_zero]; rfl) (by kernel_rfl) (by kernel_rfl) (by kernel_rfl) (by rfl) ?_ hHeld ?_; rotate_left; · (intro w hSw; (try dsimp only at hSw); go_simp; (try with_reducible rfl))
  try simp only [Act.put, List.setIfInBounds_toArray, List.set_cons_zero, List.set_cons_succ]
  refine wpAnyH_takeQ 23 (v := ?_) (fun _ _ _ _ _ h => h) (by simp only [List.getElem?_toArray, List.getElem?_cons_succ, List.getElem?_cons_zero]; rfl) (by kernel_rfl) (by kernel_rfl) (by kernel_rfl) (by rfl) ?_ hHeld ?_; rotate_left; · (intro w hSw; (try dsimp only at hSw); go_simp; (try with_reducible rfl))
  try simp only [Act.put, List.setIfInBounds_toArray, List.set_cons_zero, List.set_cons_succ]
  refine wpAnyH_takeQ 24 (v := ?_) (fun _ _ _ _ _ h => h) (by simp only [List.getElem?_toArray, List.getElem?_cons_succ, List.getElem?_cons_zero]; rfl) (by kernel_rfl) (by kernel_rfl) (by kernel_rfl) (by rfl) ?_ hHeld ?_; rotate_left; · (intro w hSw; (try dsimp only at hSw); go_simp; (try with_reducible rfl))
  try simp only [Act.put, List.setIfInBounds_toArray, List.set_cons_zero, List.set_cons_succ]
  refine wpAnyH_takeQ 26 (v := ?_) (fun _ _ _ _ _ h => h) (by simp only [List.getElem?_toArray, List.getElem?_cons_succ, List.getElem?_cons_zero]; rfl) (by kernel_rfl) (by kernel_rfl) (by kernel_rfl) (by rfl) ?_ hHeld ?_; rotate_left; · (intro w hSw; (try dsimp only at hSw); go_simp; (try with_reducible rfl))
  try simp only [Act.put, List.setIfInBounds_toArray, List.set_cons_zero, List.set_cons_succ]
  refine wpAnyH_ready (rs := [25]) (by kernel_rfl) (by simp) ?_
  refine AllReadyH.cons (by simp only [List.getElem?_toArray, List.getElem?_cons_succ, List.getElem?_cons_zero]; rfl) (fun K hK => ?_) AllReadyH.nil
  go_simp
  clear hHeld
  refine (qmul_any _ _ _ _ 6 _ _ _ _ 1 _ (by exact R_a.out) (by exact Q_o.out.rat qsz1) (by omega) (by omega) (by omega) (by omega)).mono ?_
  rintro e w36 ⟨b_r7, A_r7, n_r7, c_r7, D_r7, e_r7, f_r7, rfl, h_r7, hb⟩
  replace HT := Lib.hid (HT.out.below hb)
  replace R_a := Lib.hid (R_a.out.below hb)
  replace R_b := Lib.hid (R_b.out.below hb)
  replace R_c := Lib.hid (R_c.out.below hb)
  replace Q_z := Lib.hid (Q_z.out.below hb)
  replace Q_o := Lib.hid (Q_o.out.below hb)
  replace Q_x := Lib.hid (Q_x.out.below hb)
  replace B_a := Lib.hid (B_a.out.below hb)
  replace B_b := Lib.hid (B_b.out.below hb)
  replace B_c := Lib.hid (B_c.out.below hb)
  replace B_z := Lib.hid (B_z.out.below hb)
  replace B_o := Lib.hid (B_o.out.below hb)
  replace B_x := Lib.hid (B_x.out.below hb)
  replace hB := below_next hB hb
  clear hb
  have Q_r7 := Lib.hid h_r7
  clear h_r7
  go_wp2_with fail
  refine hK.out _ _ (by exact ⟨B_a.out.c3, B_b.out.c3, B_c.out.c3, B_z.out.c3, B_o.out.c3, B_x.out.c3⟩) (fun hHeld => ?_)
  clear hK K
  refine wpAnyH_ready (rs := [27]) (by kernel_rfl) (by simp) ?_
  refine AllReadyH.cons (by simp only [List.getElem?_toArray, List.getElem?_cons_succ, List.getElem?_cons_zero]; rfl) (fun K hK => ?_) AllReadyH.nil
  go_simp
  clear hHeld
  refine (rsame_q (by exact Q_r7.out) (by exact Q_x.out) (Rat.mul_one _)).mono ?_
  rintro e w37 ⟨rfl, hb⟩
  replace HT := Lib.hid (HT.out.below hb)
  replace R_a := Lib.hid (R_a.out.below hb)
  replace R_b := Lib.hid (R_b.out.below hb)
  replace R_c := Lib.hid (R_c.out.below hb)
  replace Q_z := Lib.hid (Q_z.out.below hb)
  replace Q_o := Lib.hid (Q_o.out.below hb)
  replace Q_x := Lib.hid (Q_x.out.below hb)
  replace Q_r7 := Lib.hid (Q_r7.out.below hb)
  replace B_a := Lib.hid (B_a.out.below hb)
  replace B_b := Lib.hid (B_b.out.below hb)
  replace B_c := Lib.hid (B_c.out.below hb)
  replace B_z := Lib.hid (B_z.out.below hb)
  replace B_o := Lib.hid (B_o.out.below hb)
  replace B_x := Lib.hid (B_x.out.below hb)
  replace hB := below_next hB hb
  clear hb
  clear Q_r7
  go_wp2_with fail
  refine hK.out _ _ (by exact ⟨B_a.out.c3, B_b.out.c3, B_c.out.c3, B_z.out.c3, B_o.out.c3, B_x.out.c3⟩) (fun hHeld => ?_)
  clear hK K
  refine wpAnyH_takeQ 28 (v := ?_) (fun _ _ _ _ _ h => h) (by simp only [List.getElem?_toArray, List.getElem?_cons_succ, List.getElem?_cons_zero]; rfl) (by kernel_rfl) (by kernel_rfl) (by kernel_rfl) (by rfl) ?_ hHeld ?_; rotate_left; · (intro w hSw; (try dsimp only at hSw); go_simp; (try with_reducible rfl))
  try simp only [Act.put, List.setIfInBounds_toArray, List.set_cons_zero, List.set_cons_succ]
  refine wpAnyH_takeQ 29 (v := ?_) (fun _ _ _ _ _ h => h) (by simp only [List.getElem?_toArray, List.getElem?_cons_succ, List.getElem?_cons_zero]; rfl) (by kernel_rfl) (by kernel_rfl) (by kernel_rfl) (by rfl) ?_ hHeld ?_; rotate_left; · (intro w hSw; (try dsimp only at hSw); go_simp; (try with_reducible rfl))
  try simp only [Act.put, List.setIfInBounds_toArray, List.set_cons_zero, List.set_cons_succ]
  refine wpAnyH_takeQ 30 (v := ?_) (fun _ _ _ _ _ h => h) (by simp only [List.getElem?_toArray, List.getElem?_cons_succ, List.getElem?_cons_zero]; rfl) (by kernel_rfl) (by kernel_rfl) (by kernel_rfl) (by rfl) ?_ hHeld ?_; rotate_left; · (intro w hSw; (try dsimp only at hSw); go_simp; (try with_reducible rfl))
  try simp only [Act.put, List.setIfInBounds_toArray, List.set_cons_zero, List.set_cons_succ]
  refine wpAnyH_takeQ 31 (v := ?_) (fun _ _ _ _ _ h => h) (by simp only [List.getElem?_toArray, List.getElem?_cons_succ, List.getElem?_cons_zero]; rfl) (by kernel_rfl) (by kernel_rfl) (by kernel_rfl) (by rfl) ?_ hHeld ?_; rotate_left; · (intro w hSw; (try dsimp only at hSw); go_simp; (try with_reducible rfl))
  try simp only [Act.put, List.setIfInBounds_toArray, List.set_cons_zero, List.set_cons_succ]
  refine wpAnyH_takeQ 32 (v := ?_) (fun _ _ _ _ _ h => h) (by simp only [List.getElem?_toArray, List.getElem?_cons_succ, List.getElem?_cons_zero]; rfl) (by kernel_rfl) (by kernel_rfl) (by kernel_rfl) (by rfl) ?_ hHeld ?_; rotate_left; · (intro w hSw; (try dsimp only at hSw); go_simp; (try with_reducible rfl))
  try simp only [Act.put, List.setIfInBounds_toArray, List.set_cons_zero, List.set_cons_succ]
  refine wpAnyH_takeQ 35 (v := ?_) (fun _ _ _ _ _ h => h) (by simp only [List.getElem?_toArray, List.getElem?_cons_succ, List.getElem?_cons_zero]; rfl) (by kernel_rfl) (by kernel_rfl) (by kernel_rfl) (by rfl) ?_ hHeld ?_; rotate_left; · (intro w hSw; (try dsimp only at hSw); go_simp; (try with_reducible rfl))
  try simp only [Act.put, List.setIfInBounds_toArray, List.set_cons_zero, List.set_cons_succ]
  refine wpAnyH_ready (rs := [33]) (by kernel_rfl) (by simp) ?_
  refine AllReadyH.cons (by simp only [List.getElem?_toArray, List.getElem?_cons_succ, List.getElem?_cons_zero]; rfl) (fun K hK => ?_) AllReadyH.nil
  go_simp
  clear hHeld
  refine (qneg_any _ _ _ _ 6 _ (by exact R_a.out) (by omega) (by omega)).mono ?_
  rintro e w38 ⟨b_r8, A_r8, n_r8, c_r8, D_r8, e_r8, f_r8, rfl, h_r8, hb⟩
  replace HT := Lib.hid (HT.out.below hb)
  replace R_a := Lib.hid (R_a.out.below hb)
  replace R_b := Lib.hid (R_b.out.below hb)
  replace R_c := Lib.hid (R_c.out.below hb)
  replace Q_z := Lib.hid (Q_z.out.below hb)
  replace Q_o := Lib.hid (Q_o.out.below hb)
  replace Q_x := Lib.hid (Q_x.out.below hb)
  replace B_a := Lib.hid (B_a.out.below hb)
  replace B_b := Lib.hid (B_b.out.below hb)
  replace B_c := Lib.hid (B_c.out.below hb)
  replace B_z := Lib.hid (B_z.out.below hb)
  replace B_o := Lib.hid (B_o.out.below hb)
  replace B_x := Lib.hid (B_x.out.below hb)
  replace hB := below_next hB hb
  clear hb
  have Q_r8 := Lib.hid h_r8
  clear h_r8
  go_wp2_with fail
  refine hK.out _ _ (by exact ⟨B_a.out.c3, B_b.out.c3, B_c.out.c3, B_z.out.c3, B_o.out.c3, B_x.out.c3⟩) (fun hHeld => ?_)
  clear hK K
  refine wpAnyH_ready (rs := [34]) (by kernel_rfl) (by simp) ?_
  refine AllReadyH.cons (by simp only [List.getElem?_toArray, List.getElem?_cons_succ, List.getElem?_cons_zero]; rfl) (fun K hK => ?_) AllReadyH.nil
  go_simp
  clear hHeld
  refine (qadd_any _ _ _ _ 6 _ _ _ _ 6 _ (by exact R_a.out) (by exact Q_r8.out.rat ((S_a.neg).more (by omega))) (by omega) (by omega) (by omega) (by omega)).mono ?_
  rintro e w39 ⟨b_r9, A_r9, n_r9, c_r9, D_r9, e_r9, f_r9, rfl, h_r9, hb⟩
  replace HT := Lib.hid (HT.out.below hb)
  replace R_a := Lib.hid (R_a.out.below hb)
  replace R_b := Lib.hid (R_b.out.below hb)
  replace R_c := Lib.hid (R_c.out.below hb)
  replace Q_z := Lib.hid (Q_z.out.below hb)
  replace Q_o := Lib.hid (Q_o.out.below hb)
  replace Q_x := Lib.hid (Q_x.out.below hb)
  replace Q_r8 := Lib.hid (Q_r8.out.below hb)
  replace B_a := Lib.hid (B_a.out.below hb)
  replace B_b := Lib.hid (B_b.out.below hb)
  replace B_c := Lib.hid (B_c.out.below hb)
  replace B_z := Lib.hid (B_z.out.below hb)
  replace B_o := Lib.hid (B_o.out.below hb)
  replace B_x := Lib.hid (B_x.out.below hb)
  replace hB := below_next hB hb
  clear hb
  have Q_r9 := Lib.hid h_r9
  clear h_r9
  go_wp2_with fail
  refine hK.out _ _ (by exact ⟨B_a.out.c3, B_b.out.c3, B_c.out.c3, B_z.out.c3, B_o.out.c3, B_x.out.c3⟩) (fun hHeld => ?_)
  clear hK K
  refine wpAnyH_ready (rs := [36]) (by kernel_rfl) (by simp) ?_
  refine AllReadyH.cons (by simp only [List.getElem?_toArray, List.getElem?_cons_succ, List.getElem?_cons_zero]; rfl) (fun K hK => ?_) AllReadyH.nil
  go_simp
  clear hHeld
  refine (rsame_q (by exact Q_r9.out) (by exact Q_z.out) (Rat.add_neg_cancel _)).mono ?_
  rintro e w40 ⟨rfl, hb⟩
  replace HT := Lib.hid (HT.out.below hb)
  replace R_a := Lib.hid (R_a.out.below hb)
  replace R_b := Lib.hid (R_b.out.below hb)
  replace R_c := Lib.hid (R_c.out.below hb)
  replace Q_z := Lib.hid (Q_z.out.below hb)
  replace Q_o := Lib.hid (Q_o.out.below hb)
  replace Q_x := Lib.hid (Q_x.out.below hb)
  replace Q_r8 := Lib.hid (Q_r8.out.below hb)
  replace Q_r9 := Lib.hid (Q_r9.out.below hb)
  replace B_a := Lib.hid (B_a.out.below hb)
  replace B_b := Lib.hid (B_b.out.below hb)
  replace B_c := Lib.hid (B_c.out.below hb)
  replace B_z := Lib.hid (B_z.out.below hb)
  replace B_o := Lib.hid (B_o.out.below hb)
  replace B_x := Lib.hid (B_x.out.below hb)
  replace hB := below_next hB hb
  clear hb
  clear Q_r8
  clear Q_r9
  go_wp2_with fail
  refine hK.out _ _ (by exact ⟨B_a.out.c3, B_b.out.c3, B_c.out.c3, B_z.out.c3, B_o.out.c3, B_x.out.c3⟩) (fun hHeld => ?_)
  clear hK K
  refine wpAnyH_takeQ 37 (v := ?_) (fun _ _ _ _ _ h => h) (by simp only [List.getElem?_toArray, List.getElem?_cons_succ, List.getElem?_cons_zero]; rfl) (by kernel_rfl) (by kernel_rfl) (by kernel_rfl) (by rfl) ?_ hHeld ?_; rotate_left; · (intro w hSw; (try dsimp only at hSw); go_simp; (try with_reducible rfl))
  try simp only [Act.put, List.setIfInBounds_toArray, List.set_cons_zero, List.set_cons_succ]
  refine wpAnyH_takeQ 38 (v := ?_) (fun _ _ _ _ _ h => h) (by simp only [List.getElem?_toArray, List.getElem?_cons_succ, List.getElem?_cons_zero]; rfl) (by kernel_rfl) (by kernel_rfl) (by kernel_rfl) (by rfl) ?_ hHeld ?_; rotate_left; · (intro w hSw; (try dsimp only at hSw); go_simp; (try with_reducible rfl))
  try simp only [Act.put, List.setIfInBounds_toArray, List.set_cons_zero, List.set_cons_succ]
  refine wpAnyH_takeQ 39 (v := ?_) (fun _ _ _ _ _ h => h) (by simp only [List.getElem?_toArray, List.getElem?_cons_succ, List.getElem?_cons_zero]; rfl) (by kernel_rfl) (by kernel_rfl) (by kernel_rfl) (by rfl) ?_ hHeld ?_; rotate_left; · (intro w hSw; (try dsimp only at hSw); go_simp; (try with_reducible rfl))
  try simp only [Act.put, List.setIfInBounds_toArray, List.set_cons_zero, List.set_cons_succ]
  refine wpAnyH_takeQ 40 (v := ?_) (fun _ _ _ _ _ h => h) (by simp only [List.getElem?_toArray, List.getElem?_cons_succ, List.getElem?_cons_zero]; rfl) (by kernel_rfl) (by kernel_rfl) (by kernel_rfl) (by rfl) ?_ hHeld ?_; rotate_left; · (intro w hSw; (try dsimp only at hSw); go_simp; (try with_reducible rfl))
  try simp only [Act.put, List.setIfInBounds_toArray, List.set_cons_zero, List.set_cons_succ]
  refine wpAnyH_takeQ 41 (v := ?_) (fun _ _ _ _ _ h => h) (by simp only [List.getElem?_toArray, List.getElem?_cons_succ, List.getElem?_cons_zero]; rfl) (by kernel_rfl) (by kernel_rfl) (by kernel_rfl) (by rfl) ?_ hHeld ?_; rotate_left; · (intro w hSw; (try dsimp only at hSw); go_simp; (try with_reducible rfl))
  try simp only [Act.put, List.setIfInBounds_toArray, List.set_cons_zero, List.set_cons_succ]
  refine wpAnyH_takeQ 43 (v := ?_) (fun _ _ _ _ _ h => h) (by simp only [List.getElem?_toArray, List.getElem?_cons_succ, List.getElem?_cons_zero]; rfl) (by kernel_rfl) (by kernel_rfl) (by kernel_rfl) (by rfl) ?_ hHeld ?_; rotate_left; · (intro w hSw; (try dsimp only at hSw); go_simp; (try with_reducible rfl))
  try simp only [Act.put, List.setIfInBounds_toArray, List.set_cons_zero, List.set_cons_succ]
  refine wpAnyH_takeQ 44 (v := ?_) (fun _ _ _ _ _ h => h) (by simp only [List.getElem?_toArray, List.getElem?_cons_succ, List.getElem?_cons_zero]; rfl) (by kernel_rfl) (by kernel_rfl) (by kernel_rfl) (by rfl) ?_ hHeld ?_; rotate_left; · (intro w hSw; (try dsimp only at hSw); go_simp; (try with_reducible rfl))
  try simp only [Act.put, List.setIfInBounds_toArray, List.set_cons_zero, List.set_cons_succ]
  refine wpAnyH_ready (rs := [42]) (by kernel_rfl) (by simp) ?_
  refine AllReadyH.cons (by simp only [List.getElem?_toArray, List.getElem?_cons_succ, List.getElem?_cons_zero]; rfl) (fun K hK => ?_) AllReadyH.nil
  go_simp
  clear hHeld
  refine (qsub_any _ _ _ _ 6 _ _ _ _ 6 _ (by exact R_a.out) (by exact R_b.out) (by omega) (by omega) (by omega) (by omega)).mono ?_
  rintro e w41 ⟨b_ra, A_ra, n_ra, c_ra, D_ra, e_ra, f_ra, rfl, h_ra, hb⟩
  replace HT := Lib.hid (HT.out.below hb)
  replace R_a := Lib.hid (R_a.out.below hb)
  replace R_b := Lib.hid (R_b.out.below hb)
  replace R_c := Lib.hid (R_c.out.below hb)
  replace Q_z := Lib.hid (Q_z.out.below hb)
  replace Q_o := Lib.hid (Q_o.out.below hb)
  replace Q_x := Lib.hid (Q_x.out.below hb)
  replace B_a := Lib.hid (B_a.out.below hb)
  replace B_b := Lib.hid (B_b.out.below hb)
  replace B_c := Lib.hid (B_c.out.below hb)
  replace B_z := Lib.hid (B_z.out.below hb)
  replace B_o := Lib.hid (B_o.out.below hb)
  replace B_x := Lib.hid (B_x.out.below hb)
  replace hB := below_next hB hb
  clear hb
  have Q_ra := Lib.hid h_ra
  clear h_ra
  go_wp2_with fail
  refine hK.out _ _ (by exact ⟨B_a.out.c3, B_b.out.c3, B_c.out.c3, B_z.out.c3, B_o.out.c3, B_x.out.c3⟩) (fun hHeld => ?_)
  clear hK K
  refine wpAnyH_ready (rs := [45]) (by kernel_rfl) (by simp) ?_
  refine AllReadyH.cons (by simp only [List.getElem?_toArray, List.getElem?_cons_succ, List.getElem?_cons_zero]; rfl) (fun K hK => ?_) AllReadyH.nil
  go_simp
  clear hHeld
  refine (qneg_any _ _ _ _ 6 _ (by exact R_b.out) (by omega) (by omega)).mono ?_
  rintro e w42 ⟨b_rb, A_rb, n_rb, c_rb, D_rb, e_rb, f_rb, rfl, h_rb, hb⟩
  replace HT := Lib.hid (HT.out.below hb)
  replace R_a := Lib.hid (R_a.out.below hb)
  replace R_b := Lib.hid (R_b.out.below hb)
  replace R_c := Lib.hid (R_c.out.below hb)
  replace Q_z := Lib.hid (Q_z.out.below hb)
  replace Q_o := Lib.hid (Q_o.out.below hb)
  replace Q_x := Lib.hid (Q_x.out.below hb)
  replace Q_ra := Lib.hid (Q_ra.out.below hb)
  replace B_a := Lib.hid (B_a.out.below hb)
  replace B_b := Lib.hid (B_b.out.below hb)
  replace B_c := Lib.hid (B_c.out.below hb)
  replace B_z := Lib.hid (B_z.out.below hb)
  replace B_o := Lib.hid (B_o.out.below hb)
  replace B_x := Lib.hid (B_x.out.below hb)
  replace hB := below_next hB hb
  clear hb
  have Q_rb := Lib.hid h_rb
  clear h_rb
  go_wp2_with fail
  refine hK.out _ _ (by exact ⟨B_a.out.c3, B_b.out.c3, B_c.out.c3, B_z.out.c3, B_o.out.c3, B_x.out.c3⟩) (fun hHeld => ?_)
  clear hK K
  refine wpAnyH_ready (rs := [46]) (by kernel_rfl) (by simp) ?_
  refine AllReadyH.cons (by simp only [List.getElem?_toArray, List.getElem?_cons_succ, List.getElem?_cons_zero]; rfl) (fun K hK => ?_) AllReadyH.nil
  go_simp
  clear hHeld
  refine (qadd_any _ _ _ _ 6 _ _ _ _ 6 _ (by exact R_a.out) (by exact Q_rb.out.rat ((S_b.neg).more (by omega))) (by omega) (by omega) (by omega) (by omega)).mono ?_
  rintro e w43 ⟨b_rc, A_rc, n_rc, c_rc, D_rc, e_rc, f_rc, rfl, h_rc, hb⟩
  replace HT := Lib.hid (HT.out.below hb)
  replace R_a := Lib.hid (R_a.out.below hb)
  replace R_b := Lib.hid (R_b.out.below hb)
  replace R_c := Lib.hid (R_c.out.below hb)
  replace Q_z := Lib.hid (Q_z.out.below hb)
  replace Q_o := Lib.hid (Q_o.out.below hb)
  replace Q_x := Lib.hid (Q_x.out.below hb)
  replace Q_ra := Lib.hid (Q_ra.out.below hb)
  replace Q_rb := Lib.hid (Q_rb.out.below hb)
  replace B_a := Lib.hid (B_a.out.below hb)
  replace B_b := Lib.hid (B_b.out.below hb)
  replace B_c := Lib.hid (B_c.out.below hb)
  replace B_z := Lib.hid (B_z.out.below hb)
  replace B_o := Lib.hid (B_o.out.below hb)
  replace B_x := Lib.hid (B_x.out.below hb)
  replace hB := below_next hB hb
  clear hb
  have Q_rc := Lib.hid h_rc
  clear h_rc
  go_wp2_with fail
  refine hK.out _ _ (by exact ⟨B_a.out.c3, B_b.out.c3, B_c.out.c3, B_z.out.c3, B_o.out.c3, B_x.out.c3⟩) (fun hHeld => ?_)
  clear hK K
  refine wpAnyH_ready (rs := [47]) (by kernel_rfl) (by simp) ?_
  refine AllReadyH.cons (by simp only [List.getElem?_toArray, List.getElem?_cons_succ, List.getElem?_cons_zero]; rfl) (fun K hK => ?_) AllReadyH.nil
  go_simp
  clear hHeld
  refine (rsame_q (by exact Q_ra.out) (by exact Q_rc.out) (Rat.sub_eq_add_neg _ _)).mono ?_
  rintro e w44 ⟨rfl, hb⟩
  replace HT := Lib.hid (HT.out.below hb)
  replace R_a := Lib.hid (R_a.out.below hb)
  replace R_b := Lib.hid (R_b.out.below hb)
  replace R_c := Lib.hid (R_c.out.below hb)
  replace Q_z := Lib.hid (Q_z.out.below hb)
  replace Q_o := Lib.hid (Q_o.out.below hb)
  replace Q_x := Lib.hid (Q_x.out.below hb)
  replace Q_ra := Lib.hid (Q_ra.out.below hb)
  replace Q_rb := Lib.hid (Q_rb.out.below hb)
  replace Q_rc := Lib.hid (Q_rc.out.below hb)
  replace B_a := Lib.hid (B_a.out.below hb)
  replace B_b := Lib.hid (B_b.out.below hb)
  replace B_c := Lib.hid (B_c.out.below hb)
  replace B_z := Lib.hid (B_z.out.below hb)
  replace B_o := Lib.hid (B_o.out.below hb)
  replace B_x := Lib.hid (B_x.out.below hb)
  replace hB := below_next hB hb
  clear hb
  clear Q_ra
  clear Q_rb
  clear Q_rc
  go_wp2_with fail
  refine hK.out _ _ (by exact ⟨B_a.out.c3, B_b.out.c3, B_c.out.c3, B_z.out.c3, B_o.out.c3, B_x.out.c3⟩) (fun hHeld => ?_)
  clear hK K
  refine wpAnyH_takeQ 48 (v := ?_) (fun _ _ _ _ _ h => h) (by simp only [List.getElem?_toArray, List.getElem?_cons_succ, List.getElem?_cons_zero]; rfl) (by kernel_rfl) (by kernel_rfl) (by kernel_rfl) (by rfl) ?_ hHeld ?_; rotate_left; · (intro w hSw; (try dsimp only at hSw); go_simp; (try with_reducible rfl))
  try simp only [Act.put, List.setIfInBounds_toArray, List.set_cons_zero, List.set_cons_succ]
  refine wpAnyH_takeQ 49 (v := ?_) (fun _ _ _ _ _ h => h) (by simp only [List.getElem?_toArray, List.getElem?_cons_succ, List.getElem?_cons_zero]; rfl) (by kernel_rfl) (by kernel_rfl) (by kernel_rfl) (by rfl) ?_ hHeld ?_; rotate_left; · (intro w hSw; (try dsimp only at hSw); go_simp; (try with_reducible rfl))
  try simp only [Act.put, List.setIfInBounds_toArray, List.set_cons_zero, List.set_cons_succ]
  refine wpAnyH_done (by kernel_rfl) (NoPanic.normal ?_) _
  clear hHeld
  by_cases hq : q_b = 0
  · skip
    have c_a0 := B_a.out.cell0
    have c_a1 := B_a.out.cell1
    have c_a2 := B_a.out.cell2
    have c_b0 := B_b.out.cell0
    have c_b1 := B_b.out.cell1
    have c_b2 := B_b.out.cell2
    have c_c0 := B_c.out.cell0
    have c_c1 := B_c.out.cell1
    have c_c2 := B_c.out.cell2
    have c_z0 := B_z.out.cell0
    have c_z1 := B_z.out.cell1
    have c_z2 := B_z.out.cell2
    have c_o0 := B_o.out.cell0
    have c_o1 := B_o.out.cell1
    have c_o2 := B_o.out.cell2
    have c_x0 := B_x.out.cell0
    have c_x1 := B_x.out.cell1
    have c_x2 := B_x.out.cell2
    go_wp2_with fail
    clear c_a0 c_a1 c_a2 c_b0 c_b1 c_b2 c_c0 c_c1 c_c2 c_z0 c_z1 c_z2 c_o0 c_o1 c_o2 c_x0 c_x1 c_x2
    refine (qdiv_zero _ _ _ _ 6 _ _ _ _ 6 _ (by exact R_a.out) (by exact R_b.out) (by omega) (by omega) hq).mono ?_
    rintro e w45 ⟨rfl, hb⟩
    replace HT := Lib.hid (HT.out.below hb)
    replace R_a := Lib.hid (R_a.out.below hb)
    replace R_b := Lib.hid (R_b.out.below hb)
    replace R_c := Lib.hid (R_c.out.below hb)
    replace Q_z := Lib.hid (Q_z.out.below hb)
    replace Q_o := Lib.hid (Q_o.out.below hb)
    replace Q_x := Lib.hid (Q_x.out.below hb)
    replace B_a := Lib.hid (B_a.out.below hb)
    replace B_b := Lib.hid (B_b.out.below hb)
    replace B_c := Lib.hid (B_c.out.below hb)
    replace B_z := Lib.hid (B_z.out.below hb)
    replace B_o := Lib.hid (B_o.out.below hb)
    replace B_x := Lib.hid (B_x.out.below hb)
    replace hB := below_next hB hb
    clear hb
    have c_a0 := B_a.out.cell0
    have c_a1 := B_a.out.cell1
    have c_a2 := B_a.out.cell2
    have c_b0 := B_b.out.cell0
    have c_b1 := B_b.out.cell1
    have c_b2 := B_b.out.cell2
    have c_c0 := B_c.out.cell0
    have c_c1 := B_c.out.cell1
    have c_c2 := B_c.out.cell2
    have c_z0 := B_z.out.cell0
    have c_z1 := B_z.out.cell1
    have c_z2 := B_z.out.cell2
    have c_o0 := B_o.out.cell0
    have c_o1 := B_o.out.cell1
    have c_o2 := B_o.out.cell2
    have c_x0 := B_x.out.cell0
    have c_x1 := B_x.out.cell1
    have c_x2 := B_x.out.cell2
    go_upto_region 11 with fail
    clear c_a0 c_a1 c_a2 c_b0 c_b1 c_b2 c_c0 c_c1 c_c2 c_z0 c_z1 c_z2 c_o0 c_o1 c_o2 c_x0 c_x1 c_x2
    obtain ⟨W46, g_q, hV, hg, NB, hb⟩ := newR w45 (.bool false) (.slice none 0 0) (.slice none 0 0)
    rw [hV, hg]
    clear hV
    have l_q_a : w.heap.size < g_q := hg ▸ B_a.out.lt
    have l_q_b : w.heap.size + 1 < g_q := hg ▸ B_b.out.lt
    have l_q_c : w.heap.size + 1 + 1 < g_q := hg ▸ B_c.out.lt
    have l_q_z : g_z < g_q := hg ▸ B_z.out.lt
    have l_q_o : g_o < g_q := hg ▸ B_o.out.lt
    have l_q_x : g_x < g_q := hg ▸ B_x.out.lt
    replace HT := Lib.hid (HT.out.below hb)
    replace R_a := Lib.hid (R_a.out.below hb)
    replace R_b := Lib.hid (R_b.out.below hb)
    replace R_c := Lib.hid (R_c.out.below hb)
    replace Q_z := Lib.hid (Q_z.out.below hb)
    replace Q_o := Lib.hid (Q_o.out.below hb)
    replace Q_x := Lib.hid (Q_x.out.below hb)
    replace B_a := Lib.hid (B_a.out.below hb)
    replace B_b := Lib.hid (B_b.out.below hb)
    replace B_c := Lib.hid (B_c.out.below hb)
    replace B_z := Lib.hid (B_z.out.below hb)
    replace B_o := Lib.hid (B_o.out.below hb)
    replace B_x := Lib.hid (B_x.out.below hb)
    replace hB := below_next hB hb
    have B_q := NB
    clear NB hb hg
    have c_a0 := B_a.out.cell0
    have c_a1 := B_a.out.cell1
    have c_a2 := B_a.out.cell2
    have c_b0 := B_b.out.cell0
    have c_b1 := B_b.out.cell1
    have c_b2 := B_b.out.cell2
    have c_c0 := B_c.out.cell0
    have c_c1 := B_c.out.cell1
    have c_c2 := B_c.out.cell2
    have c_z0 := B_z.out.cell0
    have c_z1 := B_z.out.cell1
    have c_z2 := B_z.out.cell2
    have c_o0 := B_o.out.cell0
    have c_o1 := B_o.out.cell1
    have c_o2 := B_o.out.cell2
    have c_x0 := B_x.out.cell0
    have c_x1 := B_x.out.cell1
    have c_x2 := B_x.out.cell2
    have c_q0 := B_q.out.cell0
    have c_q1 := B_q.out.cell1
    have c_q2 := B_q.out.cell2
    go_wp2_with fail
    clear c_a0 c_a1 c_a2 c_b0 c_b1 c_b2 c_c0 c_c1 c_c2 c_z0 c_z1 c_z2 c_o0 c_o1 c_o2 c_x0 c_x1 c_x2 c_q0 c_q1 c_q2
    refine (qcmp_is (k := 6) (j := 1) (v := 0) (by exact R_b.out) (by exact Q_z.out.rat qsz0) (by omega) (by omega) (by omega) (by omega) (by exact qord_eq hq)).mono ?_
    rintro e w47 ⟨rfl, hb⟩
    replace HT := Lib.hid (HT.out.below hb)
    replace R_a := Lib.hid (R_a.out.below hb)
    replace R_b := Lib.hid (R_b.out.below hb)
    replace R_c := Lib.hid (R_c.out.below hb)
    replace Q_z := Lib.hid (Q_z.out.below hb)
    replace Q_o := Lib.hid (Q_o.out.below hb)
    replace Q_x := Lib.hid (Q_x.out.below hb)
    replace B_a := Lib.hid (B_a.out.below hb)
    replace B_b := Lib.hid (B_b.out.below hb)
    replace B_c := Lib.hid (B_c.out.below hb)
    replace B_z := Lib.hid (B_z.out.below hb)
    replace B_o := Lib.hid (B_o.out.below hb)
    replace B_x := Lib.hid (B_x.out.below hb)
    replace B_q := Lib.hid (B_q.out.below hb)
    replace hB := below_next hB hb
    clear hb
    have c_a0 := B_a.out.cell0
    have c_a1 := B_a.out.cell1
    have c_a2 := B_a.out.cell2
    have c_b0 := B_b.out.cell0
    have c_b1 := B_b.out.cell1
    have c_b2 := B_b.out.cell2
    have c_c0 := B_c.out.cell0
    have c_c1 := B_c.out.cell1
    have c_c2 := B_c.out.cell2
    have c_z0 := B_z.out.cell0
    have c_z1 := B_z.out.cell1
    have c_z2 := B_z.out.cell2
    have c_o0 := B_o.out.cell0
    have c_o1 := B_o.out.cell1
    have c_o2 := B_o.out.cell2
    have c_x0 := B_x.out.cell0
    have c_x1 := B_x.out.cell1
    have c_x2 := B_x.out.cell2
    have c_q0 := B_q.out.cell0
    have c_q1 := B_q.out.cell1
    have c_q2 := B_q.out.cell2
    go_wp2
    clear c_a0 c_a1 c_a2 c_b0 c_b1 c_b2 c_c0 c_c1 c_c2 c_z0 c_z1 c_z2 c_o0 c_o1 c_o2 c_x0 c_x1 c_x2 c_q0 c_q1 c_q2
    refine wp_region_named (S := (fun w' => (w'.cell? ⟨w.heap.size + 1, 0, none⟩ = some (.bool b_b) ∧ w'.cell? ⟨w.heap.size + 1, 1, none⟩ = some m_b ∧ w'.cell? ⟨w.heap.size + 1, 2, none⟩ = some d_b) ∧ (w'.cell? ⟨g_x, 0, none⟩ = some (.bool b_x) ∧ w'.cell? ⟨g_x, 1, none⟩ = some (.slice A_x n_x c_x) ∧ w'.cell? ⟨g_x, 2, none⟩ = some (.slice D_x e_x f_x)))) (by kernel_rfl) (by exact ⟨B_b.out.c3, B_x.out.c3⟩) (fun V48 hb hHeld => ?_)
    replace HT := Lib.hid (HT.out.below hb)
    replace R_a := Lib.hid (R_a.out.below hb)
    replace R_b := Lib.hid (R_b.out.below hb)
    replace R_c := Lib.hid (R_c.out.below hb)
    replace Q_z := Lib.hid (Q_z.out.below hb)
    replace Q_o := Lib.hid (Q_o.out.below hb)
    replace Q_x := Lib.hid (Q_x.out.below hb)
    replace B_a := Lib.hid (B_a.out.below hb)
    replace B_b := Lib.hid (B_b.out.below hb)
    replace B_c := Lib.hid (B_c.out.below hb)
    replace B_z := Lib.hid (B_z.out.below hb)
    replace B_o := Lib.hid (B_o.out.below hb)
    replace B_x := Lib.hid (B_x.out.below hb)
    replace B_q := Lib.hid (B_q.out.below hb)
    replace hB := below_next hB hb
    clear hb
    refine wpAnyH_takeQ 0 (v := ?_) (fun _ _ _ _ _ h => h) (by simp only [List.getElem?_toArray, List.getElem?_cons_zero]; rfl) (by kernel_rfl) (by kernel_rfl) (by kernel_rfl) (by rfl) ?_ hHeld ?_; rotate_left; · (intro w hSw; (try dsimp only at hSw); go_simp; (try with_reducible rfl))
    try simp only [Act.put, List.setIfInBounds_toArray, List.set_cons_zero, List.set_cons_succ]
    refine wpAnyH_takeQ 1 (v := ?_) (fun _ _ _ _ _ h => h) (by simp only [List.getElem?_toArray, List.getElem?_cons_succ, List.getElem?_cons_zero]; rfl) (by kernel_rfl) (by kernel_rfl) (by kernel_rfl) (by rfl) ?_ hHeld ?_; rotate_left; · (intro w hSw; (try dsimp only at hSw); go_simp; (try with_reducible rfl))
    try simp only [Act.put, List.setIfInBounds_toArray, List.set_cons_zero, List.set_cons_succ]
    refine wpAnyH_takeQ 2 (v := ?_) (fun _ _ _ _ _ h => h) (by simp only [List.getElem?_toArray, List.getElem?_cons_succ, List.getElem?_cons_zero]; rfl) (by kernel_rfl) (by kernel_rfl) (by kernel_rfl) (by rfl) ?_ hHeld ?_; rotate_left; · (intro w hSw; (try dsimp only at hSw); go_simp; (try with_reducible rfl))
    try simp only [Act.put, List.setIfInBounds_toArray, List.set_cons_zero, List.set_cons_succ]
    refine wpAnyH_skipQ 3 (fun _ _ _ _ _ h => h) (by simp only [List.getElem?_toArray, List.getElem?_cons_succ, List.getElem?_cons_zero]; rfl) (by kernel_rfl) (by kernel_rfl) (by kernel_rfl) (by rfl) hHeld ?_
    try simp only [Act.put, List.setIfInBounds_toArray, List.set_cons_zero, List.set_cons_succ]
    refine wpAnyH_skipQ 4 (fun _ _ _ _ _ h => h) (by simp only [List.getElem?_toArray, List.getElem?_cons_succ, List.getElem?_cons_zero]; rfl) (by kernel_rfl) (by kernel_rfl) (by kernel_rfl) (by rfl) hHeld ?_
    try simp only [Act.put, List.setIfInBounds_toArray, List.set_cons_zero, List.set_cons_succ]
    refine wpAnyH_skipQ 5 (fun _ _ _ _ _ h => h) (by simp only [List.getElem?_toArray, List.getElem?_cons_succ, List.getElem?_cons_zero]; rfl) (by kernel_rfl) (by kernel_rfl) (by kernel_rfl) (by rfl) hHeld ?_
    try simp only [Act.put, List.setIfInBounds_toArray, List.set_cons_zero, List.set_cons_succ]
    refine wpAnyH_skipQ 6 (fun _ _ _ _ _ h => h) (by simp only [List.getElem?_toArray, List.getElem?_cons_succ, List.getElem?_cons_zero]; rfl) (by kernel_rfl) (by kernel_rfl) (by kernel_rfl) (by rfl) hHeld ?_
    try simp only [Act.put, List.setIfInBounds_toArray, List.set_cons_zero, List.set_cons_succ]
    refine wpAnyH_skipQ 7 (fun _ _ _ _ _ h => h) (by simp only [List.getElem?_toArray, List.getElem?_cons_succ, List.getElem?_cons_zero]; rfl) (by kernel_rfl) (by kernel_rfl) (by kernel_rfl) (by rfl) hHeld ?_
    try simp only [Act.put, List.setIfInBounds_toArray, List.set_cons_zero, List.set_cons_succ]
    refine wpAnyH_takeQ 8 (v := ?_) (fun _ _ _ _ _ h => h) (by simp only [List.getElem?_toArray, List.getElem?_cons_succ, List.getElem?_cons_zero]; rfl) (by kernel_rfl) (by kernel_rfl) (by kernel_rfl) (by rfl) ?_ hHeld ?_; rotate_left; · (intro w hSw; (try dsimp only at hSw); go_simp; (try with_reducible rfl))
    try simp only [Act.put, List.setIfInBounds_toArray, List.set_cons_zero, List.set_cons_succ]
    refine wpAnyH_takeQ 9 (v := ?_) (fun _ _ _ _ _ h => h) (by simp only [List.getElem?_toArray, List.getElem?_cons_succ, List.getElem?_cons_zero]; rfl) (by kernel_rfl) (by kernel_rfl) (by kernel_rfl) (by rfl) ?_ hHeld ?_; rotate_left; · (intro w hSw; (try dsimp only at hSw); go_simp; (try with_reducible rfl))
    try simp only [Act.put, List.setIfInBounds_toArray, List.set_cons_zero, List.set_cons_succ]
    refine wpAnyH_ready (rs := [10]) (by kernel_rfl) (by simp) ?_
    refine AllReadyH.cons (by simp only [List.getElem?_toArray, List.getElem?_cons_succ, List.getElem?_cons_zero]; rfl) (fun K hK => ?_) AllReadyH.nil
    go_simp
    clear hHeld
    refine (holds_any _ (by exact HT.out)).mono ?_
    rintro e w49 ⟨rfl, hb⟩
    replace HT := Lib.hid (HT.out.below hb)
    replace R_a := Lib.hid (R_a.out.below hb)
    replace R_b := Lib.hid (R_b.out.below hb)
    replace R_c := Lib.hid (R_c.out.below hb)
    replace Q_z := Lib.hid (Q_z.out.below hb)
    replace Q_o := Lib.hid (Q_o.out.below hb)
    replace Q_x := Lib.hid (Q_x.out.below hb)
    replace B_a := Lib.hid (B_a.out.below hb)
    replace B_b := Lib.hid (B_b.out.below hb)
    replace B_c := Lib.hid (B_c.out.below hb)
    replace B_z := Lib.hid (B_z.out.below hb)
    replace B_o := Lib.hid (B_o.out.below hb)
    replace B_x := Lib.hid (B_x.out.below hb)
    replace B_q := Lib.hid (B_q.out.below hb)
    replace hB := below_next hB hb
    clear hb
    go_wp2_with fail
    refine hK.out _ _ (by exact ⟨B_b.out.c3, B_x.out.c3⟩) (fun hHeld => ?_)
    clear hK K
    refine wpAnyH_takeQ 11 (v := ?_) (fun _ _ _ _ _ h => h) (by simp only [List.getElem?_toArray, List.getElem?_cons_succ, List.getElem?_cons_zero]; rfl) (by kernel_rfl) (by kernel_rfl) (by kernel_rfl) (by rfl) ?_ hHeld ?_; rotate_left; · (intro w hSw; (try dsimp only at hSw); go_simp; (try with_reducible rfl))
    try simp only [Act.put, List.setIfInBounds_toArray, List.set_cons_zero, List.set_cons_succ]
    refine wpAnyH_takeQ 12 (v := ?_) (fun _ _ _ _ _ h => h) (by simp only [List.getElem?_toArray, List.getElem?_cons_succ, List.getElem?_cons_zero]; rfl) (by kernel_rfl) (by kernel_rfl) (by kernel_rfl) (by rfl) ?_ hHeld ?_; rotate_left; · (intro w hSw; (try dsimp only at hSw); go_simp; (try with_reducible rfl))
    try simp only [Act.put, List.setIfInBounds_toArray, List.set_cons_zero, List.set_cons_succ]
    refine wpAnyH_done (by kernel_rfl) (NoPanic.normal ?_) _
    clear hHeld
    have c_a0 := B_a.out.cell0
    have c_a1 := B_a.out.cell1
    have c_a2 := B_a.out.cell2
    have c_b0 := B_b.out.cell0
    have c_b1 := B_b.out.cell1
    have c_b2 := B_b.out.cell2
    have c_c0 := B_c.out.cell0
    have c_c1 := B_c.out.cell1
    have c_c2 := B_c.out.cell2
    have c_z0 := B_z.out.cell0
    have c_z1 := B_z.out.cell1
    have c_z2 := B_z.out.cell2
    have c_o0 := B_o.out.cell0
    have c_o1 := B_o.out.cell1
    have c_o2 := B_o.out.cell2
    have c_x0 := B_x.out.cell0
    have c_x1 := B_x.out.cell1
    have c_x2 := B_x.out.cell2
    have c_q0 := B_q.out.cell0
    have c_q1 := B_q.out.cell1
    have c_q2 := B_q.out.cell2
    go_wp2
    go_ret
    exact ⟨rfl, hB⟩
  · skip
    have c_a0 := B_a.out.cell0
    have c_a1 := B_a.out.cell1
    have c_a2 := B_a.out.cell2
    have c_b0 := B_b.out.cell0
    have c_b1 := B_b.out.cell1
    have c_b2 := B_b.out.cell2
    have c_c0 := B_c.out.cell0
    have c_c1 := B_c.out.cell1
    have c_c2 := B_c.out.cell2
    have c_z0 := B_z.out.cell0
    have c_z1 := B_z.out.cell1
    have c_z2 := B_z.out.cell2
    have c_o0 := B_o.out.cell0
    have c_o1 := B_o.out.cell1
    have c_o2 := B_o.out.cell2
    have c_x0 := B_x.out.cell0
    have c_x1 := B_x.out.cell1
    have c_x2 := B_x.out.cell2
    go_wp2_with fail
    clear c_a0 c_a1 c_a2 c_b0 c_b1 c_b2 c_c0 c_c1 c_c2 c_z0 c_z1 c_z2 c_o0 c_o1 c_o2 c_x0 c_x1 c_x2
    refine (qdiv_any _ _ _ _ 6 _ _ _ _ 6 _ (by exact R_a.out) (by exact R_b.out) (by omega) (by omega) (by omega) (by omega) hq).mono ?_
    rintro e w50 ⟨b_q, A_q, n_q, c_q, D_q, e_q, f_q, rfl, h_q, hb⟩
    replace HT := Lib.hid (HT.out.below hb)
    replace R_a := Lib.hid (R_a.out.below hb)
    replace R_b := Lib.hid (R_b.out.below hb)
    replace R_c := Lib.hid (R_c.out.below hb)
    replace Q_z := Lib.hid (Q_z.out.below hb)
    replace Q_o := Lib.hid (Q_o.out.below hb)
    replace Q_x := Lib.hid (Q_x.out.below hb)
    replace B_a := Lib.hid (B_a.out.below hb)
    replace B_b := Lib.hid (B_b.out.below hb)
    replace B_c := Lib.hid (B_c.out.below hb)
    replace B_z := Lib.hid (B_z.out.below hb)
    replace B_o := Lib.hid (B_o.out.below hb)
    replace B_x := Lib.hid (B_x.out.below hb)
    replace hB := below_next hB hb
    clear hb
    have Q_q := Lib.hid h_q
    clear h_q
    have c_a0 := B_a.out.cell0
    have c_a1 := B_a.out.cell1
    have c_a2 := B_a.out.cell2
    have c_b0 := B_b.out.cell0
    have c_b1 := B_b.out.cell1
    have c_b2 := B_b.out.cell2
    have c_c0 := B_c.out.cell0
    have c_c1 := B_c.out.cell1
    have c_c2 := B_c.out.cell2
    have c_z0 := B_z.out.cell0
    have c_z1 := B_z.out.cell1
    have c_z2 := B_z.out.cell2
    have c_o0 := B_o.out.cell0
    have c_o1 := B_o.out.cell1
    have c_o2 := B_o.out.cell2
    have c_x0 := B_x.out.cell0
    have c_x1 := B_x.out.cell1
    have c_x2 := B_x.out.cell2
    go_upto_region 11 with fail
    clear c_a0 c_a1 c_a2 c_b0 c_b1 c_b2 c_c0 c_c1 c_c2 c_z0 c_z1 c_z2 c_o0 c_o1 c_o2 c_x0 c_x1 c_x2
    obtain ⟨W51, g_q, hV, hg, NB, hb⟩ := newR w50 (.bool b_q) (.slice A_q n_q c_q) (.slice D_q e_q f_q)
    rw [hV, hg]
    clear hV
    have l_q_a : w.heap.size < g_q := hg ▸ B_a.out.lt
    have l_q_b : w.heap.size + 1 < g_q := hg ▸ B_b.out.lt
    have l_q_c : w.heap.size + 1 + 1 < g_q := hg ▸ B_c.out.lt
    have l_q_z : g_z < g_q := hg ▸ B_z.out.lt
    have l_q_o : g_o < g_q := hg ▸ B_o.out.lt
    have l_q_x : g_x < g_q := hg ▸ B_x.out.lt
    replace HT := Lib.hid (HT.out.below hb)
    replace R_a := Lib.hid (R_a.out.below hb)
    replace R_b := Lib.hid (R_b.out.below hb)
    replace R_c := Lib.hid (R_c.out.below hb)
    replace Q_z := Lib.hid (Q_z.out.below hb)
    replace Q_o := Lib.hid (Q_o.out.below hb)
    replace Q_x := Lib.hid (Q_x.out.below hb)
    replace Q_q := Lib.hid (Q_q.out.below hb)
    replace B_a := Lib.hid (B_a.out.below hb)
    replace B_b := Lib.hid (B_b.out.below hb)
    replace B_c := Lib.hid (B_c.out.below hb)
    replace B_z := Lib.hid (B_z.out.below hb)
    replace B_o := Lib.hid (B_o.out.below hb)
    replace B_x := Lib.hid (B_x.out.below hb)
    replace hB := below_next hB hb
    have B_q := NB
    clear NB hb hg
    have c_a0 := B_a.out.cell0
    have c_a1 := B_a.out.cell1
    have c_a2 := B_a.out.cell2
    have c_b0 := B_b.out.cell0
    have c_b1 := B_b.out.cell1
    have c_b2 := B_b.out.cell2
    have c_c0 := B_c.out.cell0
    have c_c1 := B_c.out.cell1
    have c_c2 := B_c.out.cell2
    have c_z0 := B_z.out.cell0
    have c_z1 := B_z.out.cell1
    have c_z2 := B_z.out.cell2
    have c_o0 := B_o.out.cell0
    have c_o1 := B_o.out.cell1
    have c_o2 := B_o.out.cell2
    have c_x0 := B_x.out.cell0
    have c_x1 := B_x.out.cell1
    have c_x2 := B_x.out.cell2
    have c_q0 := B_q.out.cell0
    have c_q1 := B_q.out.cell1
    have c_q2 := B_q.out.cell2
    go_wp2_with fail
    clear c_a0 c_a1 c_a2 c_b0 c_b1 c_b2 c_c0 c_c1 c_c2 c_z0 c_z1 c_z2 c_o0 c_o1 c_o2 c_x0 c_x1 c_x2 c_q0 c_q1 c_q2
    obtain ⟨v, hv, v1, v2⟩ := qord_ne hq
    have HV := Lib.hid hv
    clear hv v2
    refine (qcmp_is (k := 6) (j := 1) (v := v) (by exact R_b.out) (by exact Q_z.out.rat qsz0) (by omega) (by omega) (by omega) (by omega) (by exact HV.out)).mono ?_
    rintro e w52 ⟨rfl, hb⟩
    replace HT := Lib.hid (HT.out.below hb)
    replace R_a := Lib.hid (R_a.out.below hb)
    replace R_b := Lib.hid (R_b.out.below hb)
    replace R_c := Lib.hid (R_c.out.below hb)
    replace Q_z := Lib.hid (Q_z.out.below hb)
    replace Q_o := Lib.hid (Q_o.out.below hb)
    replace Q_x := Lib.hid (Q_x.out.below hb)
    replace Q_q := Lib.hid (Q_q.out.below hb)
    replace B_a := Lib.hid (B_a.out.below hb)
    replace B_b := Lib.hid (B_b.out.below hb)
    replace B_c := Lib.hid (B_c.out.below hb)
    replace B_z := Lib.hid (B_z.out.below hb)
    replace B_o := Lib.hid (B_o.out.below hb)
    replace B_x := Lib.hid (B_x.out.below hb)
    replace B_q := Lib.hid (B_q.out.below hb)
    replace hB := below_next hB hb
    clear hb
    have c_a0 := B_a.out.cell0
    have c_a1 := B_a.out.cell1
    have c_a2 := B_a.out.cell2
    have c_b0 := B_b.out.cell0
    have c_b1 := B_b.out.cell1
    have c_b2 := B_b.out.cell2
    have c_c0 := B_c.out.cell0
    have c_c1 := B_c.out.cell1
    have c_c2 := B_c.out.cell2
    have c_z0 := B_z.out.cell0
    have c_z1 := B_z.out.cell1
    have c_z2 := B_z.out.cell2
    have c_o0 := B_o.out.cell0
    have c_o1 := B_o.out.cell1
    have c_o2 := B_o.out.cell2
    have c_x0 := B_x.out.cell0
    have c_x1 := B_x.out.cell1
    have c_x2 := B_x.out.cell2
    have c_q0 := B_q.out.cell0
    have c_q1 := B_q.out.cell1
    have c_q2 := B_q.out.cell2
    go_wp2
    clear c_a0 c_a1 c_a2 c_b0 c_b1 c_b2 c_c0 c_c1 c_c2 c_z0 c_z1 c_z2 c_o0 c_o1 c_o2 c_x0 c_x1 c_x2 c_q0 c_q1 c_q2
    refine wp_region_named (S := (fun w' => (w'.cell? ⟨g_q, 0, none⟩ = some (.bool b_q) ∧ w'.cell? ⟨g_q, 1, none⟩ = some (.slice A_q n_q c_q) ∧ w'.cell? ⟨g_q, 2, none⟩ = some (.slice D_q e_q f_q)) ∧ (w'.cell? ⟨w.heap.size + 1, 0, none⟩ = some (.bool b_b) ∧ w'.cell? ⟨w.heap.size + 1, 1, none⟩ = some m_b ∧ w'.cell? ⟨w.heap.size + 1, 2, none⟩ = some d_b) ∧ (w'.cell? ⟨g_x, 0, none⟩ = some (.bool b_x) ∧ w'.cell? ⟨g_x, 1, none⟩ = some (.slice A_x n_x c_x) ∧ w'.cell? ⟨g_x, 2, none⟩ = some (.slice D_x e_x f_x)))) (by kernel_rfl) (by exact ⟨B_q.out.c3, B_b.out.c3, B_x.out.c3⟩) (fun V53 hb hHeld => ?_)
    replace HT := Lib.hid (HT.out.below hb)
    replace R_a := Lib.hid (R_a.out.below hb)
    replace R_b := Lib.hid (R_b.out.below hb)
    replace R_c := Lib.hid (R_c.out.below hb)
    replace Q_z := Lib.hid (Q_z.out.below hb)
    replace Q_o := Lib.hid (Q_o.out.below hb)
    replace Q_x := Lib.hid (Q_x.out.below hb)
    replace Q_q := Lib.hid (Q_q.out.below hb)
    replace B_a := Lib.hid (B_a.out.below hb)
    replace B_b := Lib.hid (B_b.out.below hb)
    replace B_c := Lib.hid (B_c.out.below hb)
    replace B_z := Lib.hid (B_z.out.below hb)
    replace B_o := Lib.hid (B_o.out.below hb)
    replace B_x := Lib.hid (B_x.out.below hb)
    replace B_q := Lib.hid (B_q.out.below hb)
    replace hB := below_next hB hb
    clear hb
    refine wpAnyH_takeQ 0 (v := ?_) (fun _ _ _ _ _ h => h) (by simp only [List.getElem?_toArray, List.getElem?_cons_zero]; rfl) (by kernel_rfl) (by kernel_rfl) (by kernel_rfl) (by rfl) ?_ hHeld ?_; rotate_left; · (intro w hSw; (try dsimp only at hSw); go_simp; (try with_reducible rfl))
    try simp only [Act.put, List.setIfInBounds_toArray, List.set_cons_zero, List.set_cons_succ]
    refine wpAnyH_takeQ 1 (v := ?_) (fun _ _ _ _ _ h => h) (by simp only [List.getElem?_toArray, List.getElem?_cons_succ, List.getElem?_cons_zero]; rfl) (by kernel_rfl) (by kernel_rfl) (by kernel_rfl) (by rfl) ?_ hHeld ?_; rotate_left; · (intro w hSw; (try dsimp only at hSw); go_simp; (try with_reducible rfl))
    try simp only [Act.put, List.setIfInBounds_toArray, List.set_cons_zero, List.set_cons_succ]
    refine wpAnyH_takeQ 2 (v := ?_) (fun _ _ _ _ _ h => h) (by simp only [List.getElem?_toArray, List.getElem?_cons_succ, List.getElem?_cons_zero]; rfl) (by kernel_rfl) (by kernel_rfl) (by kernel_rfl) (by rfl) ?_ hHeld ?_; rotate_left; · (intro w hSw; (try dsimp only at hSw); go_simp; (try with_reducible rfl))
    try simp only [Act.put, List.setIfInBounds_toArray, List.set_cons_zero, List.set_cons_succ]
    refine wpAnyH_takeQ 3 (v := ?_) (fun _ _ _ _ _ h => h) (by simp only [List.getElem?_toArray, List.getElem?_cons_succ, List.getElem?_cons_zero]; rfl) (by kernel_rfl) (by kernel_rfl) (by kernel_rfl) (by rfl) ?_ hHeld ?_; rotate_left; · (intro w hSw; (try dsimp only at hSw); go_simp; (try with_reducible rfl))
    try simp only [Act.put, List.setIfInBounds_toArray, List.set_cons_zero, List.set_cons_succ]
    refine wpAnyH_takeQ 4 (v := ?_) (fun _ _ _ _ _ h => h) (by simp only [List.getElem?_toArray, List.getElem?_cons_succ, List.getElem?_cons_zero]; rfl) (by kernel_rfl) (by kernel_rfl) (by kernel_rfl) (by rfl) ?_ hHeld ?_; rotate_left; · (intro w hSw; (try dsimp only at hSw); go_simp; (try with_reducible rfl))
    try simp only [Act.put, List.setIfInBounds_toArray, List.set_cons_zero, List.set_cons_succ]
    refine wpAnyH_takeQ 6 (v := ?_) (fun _ _ _ _ _ h => h) (by simp only [List.getElem?_toArray, List.getElem?_cons_succ, List.getElem?_cons_zero]; rfl) (by kernel_rfl) (by kernel_rfl) (by kernel_rfl) (by rfl) ?_ hHeld ?_; rotate_left; · (intro w hSw; (try dsimp only at hSw); go_simp; (try with_reducible rfl))
    try simp only [Act.put, List.setIfInBounds_toArray, List.set_cons_zero, List.set_cons_succ]
    refine wpAnyH_ready (rs := [5]) (by kernel_rfl) (by simp) ?_
    refine AllReadyH.cons (by simp only [List.getElem?_toArray, List.getElem?_cons_succ, List.getElem?_cons_zero]; rfl) (fun K hK => ?_) AllReadyH.nil
    go_simp
    clear hHeld
    refine (qmul_any _ _ _ _ 12 _ _ _ _ 6 _ (by exact Q_q.out.rat ((S_a.div S_b).more (by omega))) (by exact R_b.out) (by omega) (by omega) (by omega) (by omega)).mono ?_
    rintro e w54 ⟨b_m, A_m, n_m, c_m, D_m, e_m, f_m, rfl, h_m, hb⟩
    replace HT := Lib.hid (HT.out.below hb)
    replace R_a := Lib.hid (R_a.out.below hb)
    replace R_b := Lib.hid (R_b.out.below hb)
    replace R_c := Lib.hid (R_c.out.below hb)
    replace Q_z := Lib.hid (Q_z.out.below hb)
    replace Q_o := Lib.hid (Q_o.out.below hb)
    replace Q_x := Lib.hid (Q_x.out.below hb)
    replace Q_q := Lib.hid (Q_q.out.below hb)
    replace B_a := Lib.hid (B_a.out.below hb)
    replace B_b := Lib.hid (B_b.out.below hb)
    replace B_c := Lib.hid (B_c.out.below hb)
    replace B_z := Lib.hid (B_z.out.below hb)
    replace B_o := Lib.hid (B_o.out.below hb)
    replace B_x := Lib.hid (B_x.out.below hb)
    replace B_q := Lib.hid (B_q.out.below hb)
    replace hB := below_next hB hb
    clear hb
    have Q_m := Lib.hid h_m
    clear h_m
    go_wp2_with fail
    refine hK.out _ _ (by exact ⟨B_q.out.c3, B_b.out.c3, B_x.out.c3⟩) (fun hHeld => ?_)
    clear hK K
    refine wpAnyH_ready (rs := [7]) (by kernel_rfl) (by simp) ?_
    refine AllReadyH.cons (by simp only [List.getElem?_toArray, List.getElem?_cons_succ, List.getElem?_cons_zero]; rfl) (fun K hK => ?_) AllReadyH.nil
    go_simp
    clear hHeld
    refine (rsame_q (by exact Q_m.out) (by exact Q_x.out) (Rat.div_mul_cancel hq)).mono ?_
    rintro e w55 ⟨rfl, hb⟩
    replace HT := Lib.hid (HT.out.below hb)
    replace R_a := Lib.hid (R_a.out.below hb)
    replace R_b := Lib.hid (R_b.out.below hb)
    replace R_c := Lib.hid (R_c.out.below hb)
    replace Q_z := Lib.hid (Q_z.out.below hb)
    replace Q_o := Lib.hid (Q_o.out.below hb)
    replace Q_x := Lib.hid (Q_x.out.below hb)
    replace Q_q := Lib.hid (Q_q.out.below hb)
    replace Q_m := Lib.hid (Q_m.out.below hb)
    replace B_a := Lib.hid (B_a.out.below hb)
    replace B_b := Lib.hid (B_b.out.below hb)
    replace B_c := Lib.hid (B_c.out.below hb)
    replace B_z := Lib.hid (B_z.out.below hb)
    replace B_o := Lib.hid (B_o.out.below hb)
    replace B_x := Lib.hid (B_x.out.below hb)
    replace B_q := Lib.hid (B_q.out.below hb)
    replace hB := below_next hB hb
    clear hb
    go_wp2_with fail
    refine hK.out _ _ (by exact ⟨B_q.out.c3, B_b.out.c3, B_x.out.c3⟩) (fun hHeld => ?_)
    clear hK K
    refine wpAnyH_takeQ 8 (v := ?_) (fun _ _ _ _ _ h => h) (by simp only [List.getElem?_toArray, List.getElem?_cons_succ, List.getElem?_cons_zero]; rfl) (by kernel_rfl) (by kernel_rfl) (by kernel_rfl) (by rfl) ?_ hHeld ?_; rotate_left; · (intro w hSw; (try dsimp only at hSw); go_simp; (try with_reducible rfl))
    try simp only [Act.put, List.setIfInBounds_toArray, List.set_cons_zero, List.set_cons_succ]
    refine wpAnyH_takeQ 9 (v := ?_) (fun _ _ _ _ _ h => h) (by simp only [List.getElem?_toArray, List.getElem?_cons_succ, List.getElem?_cons_zero]; rfl) (by kernel_rfl) (by kernel_rfl) (by kernel_rfl) (by rfl) ?_ hHeld ?_; rotate_left; · (intro w hSw; (try dsimp only at hSw); go_simp; (try with_reducible rfl))
    try simp only [Act.put, List.setIfInBounds_toArray, List.set_cons_zero, List.set_cons_succ]
    refine wpAnyH_ready (rs := [10]) (by kernel_rfl) (by simp) ?_
    refine AllReadyH.cons (by simp only [List.getElem?_toArray, List.getElem?_cons_succ, List.getElem?_cons_zero]; rfl) (fun K hK => ?_) AllReadyH.nil
    go_simp
    clear hHeld
    refine (holds_any _ (by exact HT.out)).mono ?_
    rintro e w56 ⟨rfl, hb⟩
    replace HT := Lib.hid (HT.out.below hb)
    replace R_a := Lib.hid (R_a.out.below hb)
    replace R_b := Lib.hid (R_b.out.below hb)
    replace R_c := Lib.hid (R_c.out.below hb)
    replace Q_z := Lib.hid (Q_z.out.below hb)
    replace Q_o := Lib.hid (Q_o.out.below hb)
    replace Q_x := Lib.hid (Q_x.out.below hb)
    replace Q_q := Lib.hid (Q_q.out.below hb)
    replace Q_m := Lib.hid (Q_m.out.below hb)
    replace B_a := Lib.hid (B_a.out.below hb)
    replace B_b := Lib.hid (B_b.out.below hb)
    replace B_c := Lib.hid (B_c.out.below hb)
    replace B_z := Lib.hid (B_z.out.below hb)
    replace B_o := Lib.hid (B_o.out.below hb)
    replace B_x := Lib.hid (B_x.out.below hb)
    replace B_q := Lib.hid (B_q.out.below hb)
    replace hB := below_next hB hb
    clear hb
    go_wp2_with fail
    refine hK.out _ _ (by exact ⟨B_q.out.c3, B_b.out.c3, B_x.out.c3⟩) (fun hHeld => ?_)
    clear hK K
    refine wpAnyH_takeQ 11 (v := ?_) (fun _ _ _ _ _ h => h) (by simp only [List.getElem?_toArray, List.getElem?_cons_succ, List.getElem?_cons_zero]; rfl) (by kernel_rfl) (by kernel_rfl) (by kernel_rfl) (by rfl) ?_ hHeld ?_; rotate_left; · (intro w hSw; (try dsimp only at hSw); go_simp; (try with_reducible rfl))
    try simp only [Act.put, List.setIfInBounds_toArray, List.set_cons_zero, List.set_cons_succ]
    refine wpAnyH_takeQ 12 (v := ?_) (fun _ _ _ _ _ h => h) (by simp only [List.getElem?_toArray, List.getElem?_cons_succ, List.getElem?_cons_zero]; rfl) (by kernel_rfl) (by kernel_rfl) (by kernel_rfl) (by rfl) ?_ hHeld ?_; rotate_left; · (intro w hSw; (try dsimp only at hSw); go_simp; (try with_reducible rfl))
    try simp only [Act.put, List.setIfInBounds_toArray, List.set_cons_zero, List.set_cons_succ]
    refine wpAnyH_done (by kernel_rfl) (NoPanic.normal ?_) _
    clear hHeld
    have c_a0 := B_a.out.cell0
    have c_a1 := B_a.out.cell1
    have c_a2 := B_a.out.cell2
    have c_b0 := B_b.out.cell0
    have c_b1 := B_b.out.cell1
    have c_b2 := B_b.out.cell2
    have c_c0 := B_c.out.cell0
    have c_c1 := B_c.out.cell1
    have c_c2 := B_c.out.cell2
    have c_z0 := B_z.out.cell0
    have c_z1 := B_z.out.cell1
    have c_z2 := B_z.out.cell2
    have c_o0 := B_o.out.cell0
    have c_o1 := B_o.out.cell1
    have c_o2 := B_o.out.cell2
    have c_x0 := B_x.out.cell0
    have c_x1 := B_x.out.cell1
    have c_x2 := B_x.out.cell2
    have c_q0 := B_q.out.cell0
    have c_q1 := B_q.out.cell1
    have c_q2 := B_q.out.cell2
    go_wp2
    go_ret
    exact ⟨rfl, hB⟩
end Go.Proofs.YtoflndeonegkpaaDoor
