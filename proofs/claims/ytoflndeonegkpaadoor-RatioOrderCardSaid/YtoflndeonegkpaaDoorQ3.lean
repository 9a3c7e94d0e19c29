/- ratio: Add, Mul, Sub. -/
import Derived.Test.YtoflndeonegkpaaDoorQ2
namespace Go.Proofs.YtoflndeonegkpaaDoor
open Go.RowKit

set_option maxRecDepth 100000 in
set_option maxHeartbeats 8000000 in
theorem qadd_any (b_a : Bool) (m_a d_a : Value) (p : Rat) (k : Nat) (b_b : Bool) (m_b d_b : Value) (q : Rat) (j : Nat) (w : World) (h_a : RAt w b_a m_a d_a p k) (h_b : RAt w b_b m_b d_b q j) (hk : 1 ≤ k) (hk2 : k ≤ 50000) (hj : 1 ≤ j) (hj2 : j ≤ 50000) : Calls Tryd.prog 13 #[.agg #[.bool b_a, m_a, d_a], .agg #[.bool b_b, m_b, d_b]] w (GivesQ w (p + q)) := by
  have R_a := Lib.hid h_a
  obtain ⟨xs_a, ys_a, hx_a, hy_a, -, -, -⟩ := h_a
  obtain ⟨A_a, c_a, rfl, _, _⟩ := hx_a.form
  obtain ⟨D_a, f_a, rfl, _, _⟩ := hy_a.form
  clear hx_a hy_a
  have R_b := Lib.hid h_b
  obtain ⟨xs_b, ys_b, hx_b, hy_b, -, -, -⟩ := h_b
  obtain ⟨A_b, c_b, rfl, _, _⟩ := hx_b.form
  obtain ⟨D_b, f_b, rfl, _, _⟩ := hy_b.form
  clear hx_b hy_b
  go_enter Tryd.func13, Tryd.ntmps13
  go_upto_region 1 with fail
  obtain ⟨W0, hW, B_a, B_b, B_r, HW, HS⟩ := rbox3 w (.bool b_a) (.slice A_a xs_a.length c_a) (.slice D_a ys_a.length f_a) (.bool b_b) (.slice A_b xs_b.length c_b) (.slice D_b ys_b.length f_b) (.bool false) (.slice none 0 0) (.slice none 0 0)
  rw [hW]
  clear hW
  replace R_a := Lib.hid (R_a.out.below HW.out)
  replace R_b := Lib.hid (R_b.out.below HW.out)
  have hB := HW.out
  have hsz := HS.out
  clear HW HS
  go_cut [] (fun wx => VMid w p q k j wx ∧ RBox wx (w.heap.size + 1 + 1) (.bool false) (.slice none 0 0) (.slice none 0 0))
  case first =>
    refine wp_region_named (S := (fun w' => True)) (by kernel_rfl) (by exact trivial) (fun V1 hb hHeld => ?_)
    replace R_a := Lib.hid (R_a.out.below hb)
    replace R_b := Lib.hid (R_b.out.below hb)
    replace B_a := Lib.hid (B_a.out.below hb)
    replace B_b := Lib.hid (B_b.out.below hb)
    replace B_r := Lib.hid (B_r.out.below hb)
    replace hB := below_next hB hb
    clear hb
    refine wpAnyH_ready (rs := [0, 2]) (by kernel_rfl) (by simp) ?_
    refine AllReadyH.cons (by simp only [List.getElem?_toArray, List.getElem?_cons_zero]; rfl) (fun K hK => ?_) ?_
    have c_a0 := B_a.out.cell0
    have c_a1 := B_a.out.cell1
    have c_a2 := B_a.out.cell2
    have c_b0 := B_b.out.cell0
    have c_b1 := B_b.out.cell1
    have c_b2 := B_b.out.cell2
    have c_r0 := B_r.out.cell0
    have c_r1 := B_r.out.cell1
    have c_r2 := B_r.out.cell2
    go_simp
    clear c_a0 c_a1 c_a2 c_b0 c_b1 c_b2 c_r0 c_r1 c_r2
    clear hHeld
    refine hK.out _ _ (by exact trivial) (fun hHeld => ?_)
    clear hK K
    try simp only [Act.put, List.setIfInBounds_toArray, List.set_cons_zero, List.set_cons_succ]
    refine wpAnyH_ready (rs := [1, 2]) (by kernel_rfl) (by simp) ?_
    refine AllReadyH.cons (by simp only [List.getElem?_toArray, List.getElem?_cons_succ, List.getElem?_cons_zero]; rfl) (fun K hK => ?_) ?_
    go_simp
    clear hHeld
    refine (qvalue_any _ _ _ p k _ (by exact R_a.out) hk).mono ?_
    rintro e w2 ⟨b_v, A_v, n_v, c_v, D_v, e_v, f_v, xs_v, ys_v, rfl, hx_v, hy_v, lx_v, ly_v, nz_v, eq_v, hb⟩
    replace R_a := Lib.hid (R_a.out.below hb)
    replace R_b := Lib.hid (R_b.out.below hb)
    replace B_a := Lib.hid (B_a.out.below hb)
    replace B_b := Lib.hid (B_b.out.below hb)
    replace B_r := Lib.hid (B_r.out.below hb)
    replace hB := below_next hB hb
    clear hb
    have X_v := Lib.hid hx_v
    clear hx_v
    have Y_v := Lib.hid hy_v
    clear hy_v
    go_wp2_with fail
    refine hK.out _ _ (by exact trivial) (fun hHeld => ?_)
    clear hK K
    refine wpAnyH_ready (rs := [2]) (by kernel_rfl) (by simp) ?_
    refine AllReadyH.cons (by simp only [List.getElem?_toArray, List.getElem?_cons_succ, List.getElem?_cons_zero]; rfl) (fun K hK => ?_) AllReadyH.nil
    have c_a0 := B_a.out.cell0
    have c_a1 := B_a.out.cell1
    have c_a2 := B_a.out.cell2
    have c_b0 := B_b.out.cell0
    have c_b1 := B_b.out.cell1
    have c_b2 := B_b.out.cell2
    have c_r0 := B_r.out.cell0
    have c_r1 := B_r.out.cell1
    have c_r2 := B_r.out.cell2
    go_simp
    clear c_a0 c_a1 c_a2 c_b0 c_b1 c_b2 c_r0 c_r1 c_r2
    clear hHeld
    refine hK.out _ _ (by exact trivial) (fun hHeld => ?_)
    clear hK K
    try simp only [Act.put, List.setIfInBounds_toArray, List.set_cons_zero, List.set_cons_succ]
    refine wpAnyH_ready (rs := [3]) (by kernel_rfl) (by simp) ?_
    refine AllReadyH.cons (by simp only [List.getElem?_toArray, List.getElem?_cons_succ, List.getElem?_cons_zero]; rfl) (fun K hK => ?_) AllReadyH.nil
    go_simp
    clear hHeld
    refine (qvalue_any _ _ _ q j _ (by exact R_b.out) hj).mono ?_
    rintro e w3 ⟨b_u, A_u, n_u, c_u, D_u, e_u, f_u, xs_u, ys_u, rfl, hx_u, hy_u, lx_u, ly_u, nz_u, eq_u, hb⟩
    replace R_a := Lib.hid (R_a.out.below hb)
    replace R_b := Lib.hid (R_b.out.below hb)
    replace X_v := Lib.hid (X_v.out.below hb)
    replace Y_v := Lib.hid (Y_v.out.below hb)
    replace B_a := Lib.hid (B_a.out.below hb)
    replace B_b := Lib.hid (B_b.out.below hb)
    replace B_r := Lib.hid (B_r.out.below hb)
    replace hB := below_next hB hb
    clear hb
    have X_u := Lib.hid hx_u
    clear hx_u
    have Y_u := Lib.hid hy_u
    clear hy_u
    go_wp2_with fail
    refine hK.out _ _ (by exact trivial) (fun hHeld => ?_)
    clear hK K
    refine wpAnyH_ready (rs := [4]) (by kernel_rfl) (by simp) ?_
    refine AllReadyH.cons (by simp only [List.getElem?_toArray, List.getElem?_cons_succ, List.getElem?_cons_zero]; rfl) (fun K hK => ?_) AllReadyH.nil
    have c_a0 := B_a.out.cell0
    have c_a1 := B_a.out.cell1
    have c_a2 := B_a.out.cell2
    have f_a0 := B_a.out.fro 0
    have f_a1 := B_a.out.fro 1
    have f_a2 := B_a.out.fro 2
    have c_b0 := B_b.out.cell0
    have c_b1 := B_b.out.cell1
    have c_b2 := B_b.out.cell2
    have c_r0 := B_r.out.cell0
    have c_r1 := B_r.out.cell1
    have c_r2 := B_r.out.cell2
    go_simp
    clear c_a0 c_a1 c_a2 f_a0 f_a1 f_a2 c_b0 c_b1 c_b2 c_r0 c_r1 c_r2
    clear hHeld
    obtain ⟨V4, hV, NB, KP⟩ := storeR B_a.out (.bool b_v) (.slice A_v n_v c_v) (.slice D_v e_v f_v)
    rw [hV]
    clear hV
    replace R_a := Lib.hid (R_a.out.keeps KP.out)
    replace R_b := Lib.hid (R_b.out.keeps KP.out)
    replace X_v := Lib.hid (X_v.out.keeps KP.out)
    replace Y_v := Lib.hid (Y_v.out.keeps KP.out)
    replace X_u := Lib.hid (X_u.out.keeps KP.out)
    replace Y_u := Lib.hid (Y_u.out.keeps KP.out)
    replace B_b := Lib.hid (B_b.out.keeps KP.out (by omega))
    replace B_r := Lib.hid (B_r.out.keeps KP.out (by omega))
    replace hB := below_keeps hB KP.out (by omega)
    have B_a := NB
    clear NB KP
    refine hK.out _ _ (by exact trivial) (fun hHeld => ?_)
    clear hK K
    try simp only [Act.put, List.setIfInBounds_toArray, List.set_cons_zero, List.set_cons_succ]
    refine wpAnyH_ready (rs := [5]) (by kernel_rfl) (by simp) ?_
    refine AllReadyH.cons (by simp only [List.getElem?_toArray, List.getElem?_cons_succ, List.getElem?_cons_zero]; rfl) (fun K hK => ?_) AllReadyH.nil
    have c_a0 := B_a.out.cell0
    have c_a1 := B_a.out.cell1
    have c_a2 := B_a.out.cell2
    have c_b0 := B_b.out.cell0
    have c_b1 := B_b.out.cell1
    have c_b2 := B_b.out.cell2
    have f_b0 := B_b.out.fro 0
    have f_b1 := B_b.out.fro 1
    have f_b2 := B_b.out.fro 2
    have c_r0 := B_r.out.cell0
    have c_r1 := B_r.out.cell1
    have c_r2 := B_r.out.cell2
    go_simp
    clear c_a0 c_a1 c_a2 c_b0 c_b1 c_b2 f_b0 f_b1 f_b2 c_r0 c_r1 c_r2
    clear hHeld
    obtain ⟨V5, hV, NB, KP⟩ := storeR B_b.out (.bool b_u) (.slice A_u n_u c_u) (.slice D_u e_u f_u)
    rw [hV]
    clear hV
    replace R_a := Lib.hid (R_a.out.keeps KP.out)
    replace R_b := Lib.hid (R_b.out.keeps KP.out)
    replace X_v := Lib.hid (X_v.out.keeps KP.out)
    replace Y_v := Lib.hid (Y_v.out.keeps KP.out)
    replace X_u := Lib.hid (X_u.out.keeps KP.out)
    replace Y_u := Lib.hid (Y_u.out.keeps KP.out)
    replace B_a := Lib.hid (B_a.out.keeps KP.out (by omega))
    replace B_r := Lib.hid (B_r.out.keeps KP.out (by omega))
    replace hB := below_keeps hB KP.out (by omega)
    have B_b := NB
    clear NB KP
    refine hK.out _ _ (by exact trivial) (fun hHeld => ?_)
    clear hK K
    try simp only [Act.put, List.setIfInBounds_toArray, List.set_cons_zero, List.set_cons_succ]
    refine wpAnyH_done (by kernel_rfl) (NoPanic.normal ?_) _
    clear hHeld
    go_wp2_with fail
    go_meet
    exact ⟨⟨b_v, A_v, n_v, c_v, D_v, e_v, f_v, xs_v, ys_v, b_u, A_u, n_u, c_u, D_u, e_u, f_u, xs_u, ys_u, B_a.out, B_b.out, X_v.out, Y_v.out, X_u.out, Y_u.out, lx_v, ly_v, lx_u, ly_u, nz_v, nz_u, eq_v, eq_u, hB⟩, B_r.out⟩
    refine AllReadyH.cons (by simp only [List.getElem?_toArray, List.getElem?_cons_succ, List.getElem?_cons_zero]; rfl) (fun K hK => ?_) ?_
    have c_a0 := B_a.out.cell0
    have c_a1 := B_a.out.cell1
    have c_a2 := B_a.out.cell2
    have c_b0 := B_b.out.cell0
    have c_b1 := B_b.out.cell1
    have c_b2 := B_b.out.cell2
    have c_r0 := B_r.out.cell0
    have c_r1 := B_r.out.cell1
    have c_r2 := B_r.out.cell2
    go_simp
    clear c_a0 c_a1 c_a2 c_b0 c_b1 c_b2 c_r0 c_r1 c_r2
    clear hHeld
    refine hK.out _ _ (by exact trivial) (fun hHeld => ?_)
    clear hK K
    try simp only [Act.put, List.setIfInBounds_toArray, List.set_cons_zero, List.set_cons_succ]
    refine wpAnyH_ready (rs := [1]) (by kernel_rfl) (by simp) ?_
    refine AllReadyH.cons (by simp only [List.getElem?_toArray, List.getElem?_cons_succ, List.getElem?_cons_zero]; rfl) (fun K hK => ?_) AllReadyH.nil
    go_simp
    clear hHeld
    refine (qvalue_any _ _ _ p k _ (by exact R_a.out) hk).mono ?_
    rintro e w6 ⟨b_v, A_v, n_v, c_v, D_v, e_v, f_v, xs_v, ys_v, rfl, hx_v, hy_v, lx_v, ly_v, nz_v, eq_v, hb⟩
    replace R_a := Lib.hid (R_a.out.below hb)
    replace R_b := Lib.hid (R_b.out.below hb)
    replace B_a := Lib.hid (B_a.out.below hb)
    replace B_b := Lib.hid (B_b.out.below hb)
    replace B_r := Lib.hid (B_r.out.below hb)
    replace hB := below_next hB hb
    clear hb
    have X_v := Lib.hid hx_v
    clear hx_v
    have Y_v := Lib.hid hy_v
    clear hy_v
    go_wp2_with fail
    refine hK.out _ _ (by exact trivial) (fun hHeld => ?_)
    clear hK K
    refine wpAnyH_ready (rs := [3]) (by kernel_rfl) (by simp) ?_
    refine AllReadyH.cons (by simp only [List.getElem?_toArray, List.getElem?_cons_succ, List.getElem?_cons_zero]; rfl) (fun K hK => ?_) AllReadyH.nil
    go_simp
    clear hHeld
    refine (qvalue_any _ _ _ q j _ (by exact R_b.out) hj).mono ?_
    rintro e w7 ⟨b_u, A_u, n_u, c_u, D_u, e_u, f_u, xs_u, ys_u, rfl, hx_u, hy_u, lx_u, ly_u, nz_u, eq_u, hb⟩
    replace R_a := Lib.hid (R_a.out.below hb)
    replace R_b := Lib.hid (R_b.out.below hb)
    replace X_v := Lib.hid (X_v.out.below hb)
    replace Y_v := Lib.hid (Y_v.out.below hb)
    replace B_a := Lib.hid (B_a.out.below hb)
    replace B_b := Lib.hid (B_b.out.below hb)
    replace B_r := Lib.hid (B_r.out.below hb)
    replace hB := below_next hB hb
    clear hb
    have X_u := Lib.hid hx_u
    clear hx_u
    have Y_u := Lib.hid hy_u
    clear hy_u
    go_wp2_with fail
    refine hK.out _ _ (by exact trivial) (fun hHeld => ?_)
    clear hK K
    refine wpAnyH_ready (rs := [4]) (by kernel_rfl) (by simp) ?_
    refine AllReadyH.cons (by simp only [List.getElem?_toArray, List.getElem?_cons_succ, List.getElem?_cons_zero]; rfl) (fun K hK => ?_) AllReadyH.nil
    have c_a0 := B_a.out.cell0
    have c_a1 := B_a.out.cell1
    have c_a2 := B_a.out.cell2
    have f_a0 := B_a.out.fro 0
    have f_a1 := B_a.out.fro 1
    have f_a2 := B_a.out.fro 2
    have c_b0 := B_b.out.cell0
    have c_b1 := B_b.out.cell1
    have c_b2 := B_b.out.cell2
    have c_r0 := B_r.out.cell0
    have c_r1 := B_r.out.cell1
    have c_r2 := B_r.out.cell2
    go_simp
    clear c_a0 c_a1 c_a2 f_a0 f_a1 f_a2 c_b0 c_b1 c_b2 c_r0 c_r1 c_r2
    clear hHeld
    obtain ⟨V8, hV, NB, KP⟩ := storeR B_a.out (.bool b_v) (.slice A_v n_v c_v) (.slice D_v e_v f_v)
    rw [hV]
    clear hV
    replace R_a := Lib.hid (R_a.out.keeps KP.out)
    replace R_b := Lib.hid (R_b.out.keeps KP.out)
    replace X_v := Lib.hid (X_v.out.keeps KP.out)
    replace Y_v := Lib.hid (Y_v.out.keeps KP.out)
    replace X_u := Lib.hid (X_u.out.keeps KP.out)
    replace Y_u := Lib.hid (Y_u.out.keeps KP.out)
    replace B_b := Lib.hid (B_b.out.keeps KP.out (by omega))
    replace B_r := Lib.hid (B_r.out.keeps KP.out (by omega))
    replace hB := below_keeps hB KP.out (by omega)
    have B_a := NB
    clear NB KP
    refine hK.out _ _ (by exact trivial) (fun hHeld => ?_)
    clear hK K
    try simp only [Act.put, List.setIfInBounds_toArray, List.set_cons_zero, List.set_cons_succ]
    refine wpAnyH_ready (rs := [5]) (by kernel_rfl) (by simp) ?_
    refine AllReadyH.cons (by simp only [List.getElem?_toArray, List.getElem?_cons_succ, List.getElem?_cons_zero]; rfl) (fun K hK => ?_) AllReadyH.nil
    have c_a0 := B_a.out.cell0
    have c_a1 := B_a.out.cell1
    have c_a2 := B_a.out.cell2
    have c_b0 := B_b.out.cell0
    have c_b1 := B_b.out.cell1
    have c_b2 := B_b.out.cell2
    have f_b0 := B_b.out.fro 0
    have f_b1 := B_b.out.fro 1
    have f_b2 := B_b.out.fro 2
    have c_r0 := B_r.out.cell0
    have c_r1 := B_r.out.cell1
    have c_r2 := B_r.out.cell2
    go_simp
    clear c_a0 c_a1 c_a2 c_b0 c_b1 c_b2 f_b0 f_b1 f_b2 c_r0 c_r1 c_r2
    clear hHeld
    obtain ⟨V9, hV, NB, KP⟩ := storeR B_b.out (.bool b_u) (.slice A_u n_u c_u) (.slice D_u e_u f_u)
    rw [hV]
    clear hV
    replace R_a := Lib.hid (R_a.out.keeps KP.out)
    replace R_b := Lib.hid (R_b.out.keeps KP.out)
    replace X_v := Lib.hid (X_v.out.keeps KP.out)
    replace Y_v := Lib.hid (Y_v.out.keeps KP.out)
    replace X_u := Lib.hid (X_u.out.keeps KP.out)
    replace Y_u := Lib.hid (Y_u.out.keeps KP.out)
    replace B_a := Lib.hid (B_a.out.keeps KP.out (by omega))
    replace B_r := Lib.hid (B_r.out.keeps KP.out (by omega))
    replace hB := below_keeps hB KP.out (by omega)
    have B_b := NB
    clear NB KP
    refine hK.out _ _ (by exact trivial) (fun hHeld => ?_)
    clear hK K
    try simp only [Act.put, List.setIfInBounds_toArray, List.set_cons_zero, List.set_cons_succ]
    refine wpAnyH_done (by kernel_rfl) (NoPanic.normal ?_) _
    clear hHeld
    go_wp2_with fail
    go_meet
    exact ⟨⟨b_v, A_v, n_v, c_v, D_v, e_v, f_v, xs_v, ys_v, b_u, A_u, n_u, c_u, D_u, e_u, f_u, xs_u, ys_u, B_a.out, B_b.out, X_v.out, Y_v.out, X_u.out, Y_u.out, lx_v, ly_v, lx_u, ly_u, nz_v, nz_u, eq_v, eq_u, hB⟩, B_r.out⟩
    exact AllReadyH.nil
    refine AllReadyH.cons (by simp only [List.getElem?_toArray, List.getElem?_cons_succ, List.getElem?_cons_zero]; rfl) (fun K hK => ?_) ?_
    have c_a0 := B_a.out.cell0
    have c_a1 := B_a.out.cell1
    have c_a2 := B_a.out.cell2
    have c_b0 := B_b.out.cell0
    have c_b1 := B_b.out.cell1
    have c_b2 := B_b.out.cell2
    have c_r0 := B_r.out.cell0
    have c_r1 := B_r.out.cell1
    have c_r2 := B_r.out.cell2
    go_simp
    clear c_a0 c_a1 c_a2 c_b0 c_b1 c_b2 c_r0 c_r1 c_r2
    clear hHeld
    refine hK.out _ _ (by exact trivial) (fun hHeld => ?_)
    clear hK K
    try simp only [Act.put, List.setIfInBounds_toArray, List.set_cons_zero, List.set_cons_succ]
    refine wpAnyH_ready (rs := [0]) (by kernel_rfl) (by simp) ?_
    refine AllReadyH.cons (by simp only [List.getElem?_toArray, List.getElem?_cons_zero]; rfl) (fun K hK => ?_) AllReadyH.nil
    have c_a0 := B_a.out.cell0
    have c_a1 := B_a.out.cell1
    have c_a2 := B_a.out.cell2
    have c_b0 := B_b.out.cell0
    have c_b1 := B_b.out.cell1
    have c_b2 := B_b.out.cell2
    have c_r0 := B_r.out.cell0
    have c_r1 := B_r.out.cell1
    have c_r2 := B_r.out.cell2
    go_simp
    clear c_a0 c_a1 c_a2 c_b0 c_b1 c_b2 c_r0 c_r1 c_r2
    clear hHeld
    refine hK.out _ _ (by exact trivial) (fun hHeld => ?_)
    clear hK K
    try simp only [Act.put, List.setIfInBounds_toArray, List.set_cons_zero, List.set_cons_succ]
    refine wpAnyH_ready (rs := [1]) (by kernel_rfl) (by simp) ?_
    refine AllReadyH.cons (by simp only [List.getElem?_toArray, List.getElem?_cons_succ, List.getElem?_cons_zero]; rfl) (fun K hK => ?_) AllReadyH.nil
    go_simp
    clear hHeld
    refine (qvalue_any _ _ _ p k _ (by exact R_a.out) hk).mono ?_
    rintro e w10 ⟨b_v, A_v, n_v, c_v, D_v, e_v, f_v, xs_v, ys_v, rfl, hx_v, hy_v, lx_v, ly_v, nz_v, eq_v, hb⟩
    replace R_a := Lib.hid (R_a.out.below hb)
    replace R_b := Lib.hid (R_b.out.below hb)
    replace B_a := Lib.hid (B_a.out.below hb)
    replace B_b := Lib.hid (B_b.out.below hb)
    replace B_r := Lib.hid (B_r.out.below hb)
    replace hB := below_next hB hb
    clear hb
    have X_v := Lib.hid hx_v
    clear hx_v
    have Y_v := Lib.hid hy_v
    clear hy_v
    go_wp2_with fail
    refine hK.out _ _ (by exact trivial) (fun hHeld => ?_)
    clear hK K
    refine wpAnyH_ready (rs := [3]) (by kernel_rfl) (by simp) ?_
    refine AllReadyH.cons (by simp only [List.getElem?_toArray, List.getElem?_cons_succ, List.getElem?_cons_zero]; rfl) (fun K hK => ?_) AllReadyH.nil
    go_simp
    clear hHeld
    refine (qvalue_any _ _ _ q j _ (by exact R_b.out) hj).mono ?_
    rintro e w11 ⟨b_u, A_u, n_u, c_u, D_u, e_u, f_u, xs_u, ys_u, rfl, hx_u, hy_u, lx_u, ly_u, nz_u, eq_u, hb⟩
    replace R_a := Lib.hid (R_a.out.below hb)
    replace R_b := Lib.hid (R_b.out.below hb)
    replace X_v := Lib.hid (X_v.out.below hb)
    replace Y_v := Lib.hid (Y_v.out.below hb)
    replace B_a := Lib.hid (B_a.out.below hb)
    replace B_b := Lib.hid (B_b.out.below hb)
    replace B_r := Lib.hid (B_r.out.below hb)
    replace hB := below_next hB hb
    clear hb
    have X_u := Lib.hid hx_u
    clear hx_u
    have Y_u := Lib.hid hy_u
    clear hy_u
    go_wp2_with fail
    refine hK.out _ _ (by exact trivial) (fun hHeld => ?_)
    clear hK K
    refine wpAnyH_ready (rs := [4]) (by kernel_rfl) (by simp) ?_
    refine AllReadyH.cons (by simp only [List.getElem?_toArray, List.getElem?_cons_succ, List.getElem?_cons_zero]; rfl) (fun K hK => ?_) AllReadyH.nil
    have c_a0 := B_a.out.cell0
    have c_a1 := B_a.out.cell1
    have c_a2 := B_a.out.cell2
    have f_a0 := B_a.out.fro 0
    have f_a1 := B_a.out.fro 1
    have f_a2 := B_a.out.fro 2
    have c_b0 := B_b.out.cell0
    have c_b1 := B_b.out.cell1
    have c_b2 := B_b.out.cell2
    have c_r0 := B_r.out.cell0
    have c_r1 := B_r.out.cell1
    have c_r2 := B_r.out.cell2
    go_simp
    clear c_a0 c_a1 c_a2 f_a0 f_a1 f_a2 c_b0 c_b1 c_b2 c_r0 c_r1 c_r2
    clear hHeld
    obtain ⟨V12, hV, NB, KP⟩ := storeR B_a.out (.bool b_v) (.slice A_v n_v c_v) (.slice D_v e_v f_v)
    rw [hV]
    clear hV
    replace R_a := Lib.hid (R_a.out.keeps KP.out)
    replace R_b := Lib.hid (R_b.out.keeps KP.out)
    replace X_v := Lib.hid (X_v.out.keeps KP.out)
    replace Y_v := Lib.hid (Y_v.out.keeps KP.out)
    replace X_u := Lib.hid (X_u.out.keeps KP.out)
    replace Y_u := Lib.hid (Y_u.out.keeps KP.out)
    replace B_b := Lib.hid (B_b.out.keeps KP.out (by omega))
    replace B_r := Lib.hid (B_r.out.keeps KP.out (by omega))
    replace hB := below_keeps hB KP.out (by omega)
    have B_a := NB
    clear NB KP
    refine hK.out _ _ (by exact trivial) (fun hHeld => ?_)
    clear hK K
    try simp only [Act.put, List.setIfInBounds_toArray, List.set_cons_zero, List.set_cons_succ]
    refine wpAnyH_ready (rs := [5]) (by kernel_rfl) (by simp) ?_
    refine AllReadyH.cons (by simp only [List.getElem?_toArray, List.getElem?_cons_succ, List.getElem?_cons_zero]; rfl) (fun K hK => ?_) AllReadyH.nil
    have c_a0 := B_a.out.cell0
    have c_a1 := B_a.out.cell1
    have c_a2 := B_a.out.cell2
    have c_b0 := B_b.out.cell0
    have c_b1 := B_b.out.cell1
    have c_b2 := B_b.out.cell2
    have f_b0 := B_b.out.fro 0
    have f_b1 := B_b.out.fro 1
    have f_b2 := B_b.out.fro 2
    have c_r0 := B_r.out.cell0
    have c_r1 := B_r.out.cell1
    have c_r2 := B_r.out.cell2
    go_simp
    clear c_a0 c_a1 c_a2 c_b0 c_b1 c_b2 f_b0 f_b1 f_b2 c_r0 c_r1 c_r2
    clear hHeld
    obtain ⟨V13, hV, NB, KP⟩ := storeR B_b.out (.bool b_u) (.slice A_u n_u c_u) (.slice D_u e_u f_u)
    rw [hV]
    clear hV
    replace R_a := Lib.hid (R_a.out.keeps KP.out)
    replace R_b := Lib.hid (R_b.out.keeps KP.out)
    replace X_v := Lib.hid (X_v.out.keeps KP.out)
    replace Y_v := Lib.hid (Y_v.out.keeps KP.out)
    replace X_u := Lib.hid (X_u.out.keeps KP.out)
    replace Y_u := Lib.hid (Y_u.out.keeps KP.out)
    replace B_a := Lib.hid (B_a.out.keeps KP.out (by omega))
    replace B_r := Lib.hid (B_r.out.keeps KP.out (by omega))
    replace hB := below_keeps hB KP.out (by omega)
    have B_b := NB
    clear NB KP
    refine hK.out _ _ (by exact trivial) (fun hHeld => ?_)
    clear hK K
    try simp only [Act.put, List.setIfInBounds_toArray, List.set_cons_zero, List.set_cons_succ]
    refine wpAnyH_done (by kernel_rfl) (NoPanic.normal ?_) _
    clear hHeld
    go_wp2_with fail
    go_meet
    exact ⟨⟨b_v, A_v, n_v, c_v, D_v, e_v, f_v, xs_v, ys_v, b_u, A_u, n_u, c_u, D_u, e_u, f_u, xs_u, ys_u, B_a.out, B_b.out, X_v.out, Y_v.out, X_u.out, Y_u.out, lx_v, ly_v, lx_u, ly_u, nz_v, nz_u, eq_v, eq_u, hB⟩, B_r.out⟩
    exact AllReadyH.nil
  case rest =>
    obtain ⟨hcut, B0⟩ := hcut
    obtain ⟨b_v, A_v, n_v, c_v, D_v, e_v, f_v, xs_v, ys_v, b_u, A_u, n_u, c_u, D_u, e_u, f_u, xs_u, ys_u, B1, B2, x1, y1, x2, y2, lx_v, ly_v, lx_u, ly_u, nz_v, nz_u, eq_v, eq_u, hB9⟩ := hcut
    clear R_a R_b B_a B_b hB B_r
    have hB := hB9
    have B_a := Lib.hid B1
    have B_b := Lib.hid B2
    have X_v := Lib.hid x1
    have Y_v := Lib.hid y1
    have X_u := Lib.hid x2
    have Y_u := Lib.hid y2
    clear hB9 B1 B2 x1 y1 x2 y2
    have B_r := Lib.hid B0
    clear B0
    have S_m : Hid (Sz (zval b_v xs_v * (val ys_u : Int)).natAbs (k + j)) := by show Sz _ _; rw [Int.natAbs_mul, zval_abs, Int.natAbs_natCast]; exact (X_v.out.sz lx_v).mul (Y_u.out.sz ly_u)
    have S_o : Hid (Sz (zval b_u xs_u * (val ys_v : Int)).natAbs (k + j)) := by show Sz _ _; rw [Int.natAbs_mul, zval_abs, Int.natAbs_natCast, Nat.add_comm]; exact (X_u.out.sz lx_u).mul (Y_v.out.sz ly_v)
    have c_a0 := B_a.out.cell0
    have c_a1 := B_a.out.cell1
    have c_a2 := B_a.out.cell2
    have c_b0 := B_b.out.cell0
    have c_b1 := B_b.out.cell1
    have c_b2 := B_b.out.cell2
    have c_r0 := B_r.out.cell0
    have c_r1 := B_r.out.cell1
    have c_r2 := B_r.out.cell2
    go_wp2_with fail
    clear c_a0 c_a1 c_a2 c_b0 c_b1 c_b2 c_r0 c_r1 c_r2
    go_cut [5] (fun s5 wy => ∃ (b : Bool) (A : Option Addr) (n c g : Nat), s5 = .pointer (some ⟨g, 0, none⟩) ∧ w.heap.size + 1 + 1 < g ∧ Box wy g (.bool b) (.slice A n c) ∧ ZAt wy b (.slice A n c) (zval b_v xs_v * (val ys_u : Int) + zval b_u xs_u * (val ys_v : Int)) ∧ RBox wy w.heap.size (.bool b_v) (.slice A_v n_v c_v) (.slice D_v e_v f_v) ∧ RBox wy (w.heap.size + 1) (.bool b_u) (.slice A_u n_u c_u) (.slice D_u e_u f_u) ∧ RBox wy (w.heap.size + 1 + 1) (.bool false) (.slice none 0 0) (.slice none 0 0) ∧ NatAt wy (.slice D_v e_v f_v) ys_v ∧ NatAt wy (.slice D_u e_u f_u) ys_u ∧ Below w.heap.size w wy)
    case first =>
      refine wp_region_named (S := (fun w' => (w'.cell? ⟨w.heap.size, 0, none⟩ = some (.bool b_v) ∧ w'.cell? ⟨w.heap.size, 1, none⟩ = some (.slice A_v n_v c_v) ∧ w'.cell? ⟨w.heap.size, 2, none⟩ = some (.slice D_v e_v f_v)) ∧ (w'.cell? ⟨w.heap.size + 1, 0, none⟩ = some (.bool b_u) ∧ w'.cell? ⟨w.heap.size + 1, 1, none⟩ = some (.slice A_u n_u c_u) ∧ w'.cell? ⟨w.heap.size + 1, 2, none⟩ = some (.slice D_u e_u f_u)))) (by kernel_rfl) (by exact ⟨B_a.out.c3, B_b.out.c3⟩) (fun V14 hb hHeld => ?_)
      replace X_v := Lib.hid (X_v.out.below hb)
      replace Y_v := Lib.hid (Y_v.out.below hb)
      replace X_u := Lib.hid (X_u.out.below hb)
      replace Y_u := Lib.hid (Y_u.out.below hb)
      replace B_a := Lib.hid (B_a.out.below hb)
      replace B_b := Lib.hid (B_b.out.below hb)
      replace B_r := Lib.hid (B_r.out.below hb)
      replace hB := below_next hB hb
      clear hb
      refine wpAnyH_takeQ 0 (v := ?_) (fun _ _ _ _ _ h => h) (by simp only [List.getElem?_toArray, List.getElem?_cons_zero]; rfl) (by kernel_rfl) (by kernel_rfl) (by kernel_rfl) (by rfl) ?_ hHeld ?_; rotate_left; · (intro w hSw; (try dsimp only at hSw); go_simp; (try with_reducible rfl))
      try simp only [Act.put, List.setIfInBounds_toArray, List.set_cons_zero, List.set_cons_succ]
      refine wpAnyH_takeQ 1 (v := ?_) (fun _ _ _ _ _ h => h) (by simp only [List.getElem?_toArray, List.getElem?_cons_succ, List.getElem?_cons_zero]; rfl) (by kernel_rfl) (by kernel_rfl) (by kernel_rfl) (by rfl) ?_ hHeld ?_; rotate_left; · (intro w hSw; (try dsimp only at hSw); go_simp; (try with_reducible rfl))
      try simp only [Act.put, List.setIfInBounds_toArray, List.set_cons_zero, List.set_cons_succ]
      refine wpAnyH_takeQ 2 (v := ?_) (fun _ _ _ _ _ h => h) (by simp only [List.getElem?_toArray, List.getElem?_cons_succ, List.getElem?_cons_zero]; rfl) (by kernel_rfl) (by kernel_rfl) (by kernel_rfl) (by rfl) ?_ hHeld ?_; rotate_left; · (intro w hSw; (try dsimp only at hSw); go_simp; (try with_reducible rfl))
      try simp only [Act.put, List.setIfInBounds_toArray, List.set_cons_zero, List.set_cons_succ]
      refine wpAnyH_takeQ 3 (v := ?_) (fun _ _ _ _ _ h => h) (by simp only [List.getElem?_toArray, List.getElem?_cons_succ, List.getElem?_cons_zero]; rfl) (by kernel_rfl) (by kernel_rfl) (by kernel_rfl) (by rfl) ?_ hHeld ?_; rotate_left; · (intro w hSw; (try dsimp only at hSw); go_simp; (try with_reducible rfl))
      try simp only [Act.put, List.setIfInBounds_toArray, List.set_cons_zero, List.set_cons_succ]
      refine wpAnyH_takeQ 6 (v := ?_) (fun _ _ _ _ _ h => h) (by simp only [List.getElem?_toArray, List.getElem?_cons_succ, List.getElem?_cons_zero]; rfl) (by kernel_rfl) (by kernel_rfl) (by kernel_rfl) (by rfl) ?_ hHeld ?_; rotate_left; · (intro w hSw; (try dsimp only at hSw); go_simp; (try with_reducible rfl))
      try simp only [Act.put, List.setIfInBounds_toArray, List.set_cons_zero, List.set_cons_succ]
      refine wpAnyH_takeQ 7 (v := ?_) (fun _ _ _ _ _ h => h) (by simp only [List.getElem?_toArray, List.getElem?_cons_succ, List.getElem?_cons_zero]; rfl) (by kernel_rfl) (by kernel_rfl) (by kernel_rfl) (by rfl) ?_ hHeld ?_; rotate_left; · (intro w hSw; (try dsimp only at hSw); go_simp; (try with_reducible rfl))
      try simp only [Act.put, List.setIfInBounds_toArray, List.set_cons_zero, List.set_cons_succ]
      refine wpAnyH_takeQ 8 (v := ?_) (fun _ _ _ _ _ h => h) (by simp only [List.getElem?_toArray, List.getElem?_cons_succ, List.getElem?_cons_zero]; rfl) (by kernel_rfl) (by kernel_rfl) (by kernel_rfl) (by rfl) ?_ hHeld ?_; rotate_left; · (intro w hSw; (try dsimp only at hSw); go_simp; (try with_reducible rfl))
      try simp only [Act.put, List.setIfInBounds_toArray, List.set_cons_zero, List.set_cons_succ]
      refine wpAnyH_takeQ 9 (v := ?_) (fun _ _ _ _ _ h => h) (by simp only [List.getElem?_toArray, List.getElem?_cons_succ, List.getElem?_cons_zero]; rfl) (by kernel_rfl) (by kernel_rfl) (by kernel_rfl) (by rfl) ?_ hHeld ?_; rotate_left; · (intro w hSw; (try dsimp only at hSw); go_simp; (try with_reducible rfl))
      try simp only [Act.put, List.setIfInBounds_toArray, List.set_cons_zero, List.set_cons_succ]
      refine wpAnyH_ready (rs := [4, 13]) (by kernel_rfl) (by simp) ?_
      refine AllReadyH.cons (by simp only [List.getElem?_toArray, List.getElem?_cons_succ, List.getElem?_cons_zero]; rfl) (fun K hK => ?_) ?_
      go_simp
      clear hHeld
      refine (qpos_any _ _ _ _).mono ?_
      rintro e w15 ⟨rfl, hb⟩
      replace X_v := Lib.hid (X_v.out.below hb)
      replace Y_v := Lib.hid (Y_v.out.below hb)
      replace X_u := Lib.hid (X_u.out.below hb)
      replace Y_u := Lib.hid (Y_u.out.below hb)
      replace B_a := Lib.hid (B_a.out.below hb)
      replace B_b := Lib.hid (B_b.out.below hb)
      replace B_r := Lib.hid (B_r.out.below hb)
      replace hB := below_next hB hb
      clear hb
      go_wp2_with fail
      refine hK.out _ _ (by exact ⟨B_a.out.c3, B_b.out.c3⟩) (fun hHeld => ?_)
      clear hK K
      refine wpAnyH_ready (rs := [5, 13]) (by kernel_rfl) (by simp) ?_
      refine AllReadyH.cons (by simp only [List.getElem?_toArray, List.getElem?_cons_succ, List.getElem?_cons_zero]; rfl) (fun K hK => ?_) ?_
      go_simp
      clear hHeld
      refine (imul_any _ _ _ _ (zval b_v xs_v) (val ys_u) k j _ (by exact ⟨_, X_v.out, lx_v, rfl⟩) (by exact ⟨_, Y_u.out, ly_u, rfl⟩) (by omega) (by omega)).mono ?_
      rintro e w16 ⟨b_m, A_m, n_m, c_m, rfl, h_m, hb⟩
      replace X_v := Lib.hid (X_v.out.below hb)
      replace Y_v := Lib.hid (Y_v.out.below hb)
      replace X_u := Lib.hid (X_u.out.below hb)
      replace Y_u := Lib.hid (Y_u.out.below hb)
      replace B_a := Lib.hid (B_a.out.below hb)
      replace B_b := Lib.hid (B_b.out.below hb)
      replace B_r := Lib.hid (B_r.out.below hb)
      replace hB := below_next hB hb
      clear hb
      have Z_m := Lib.hid h_m
      clear h_m
      go_wp2_with fail
      refine hK.out _ _ (by exact ⟨B_a.out.c3, B_b.out.c3⟩) (fun hHeld => ?_)
      clear hK K
      refine wpAnyH_ready (rs := [10, 13]) (by kernel_rfl) (by simp) ?_
      refine AllReadyH.cons (by simp only [List.getElem?_toArray, List.getElem?_cons_succ, List.getElem?_cons_zero]; rfl) (fun K hK => ?_) ?_
      go_simp
      clear hHeld
      refine (qpos_any _ _ _ _).mono ?_
      rintro e w17 ⟨rfl, hb⟩
      replace X_v := Lib.hid (X_v.out.below hb)
      replace Y_v := Lib.hid (Y_v.out.below hb)
      replace X_u := Lib.hid (X_u.out.below hb)
      replace Y_u := Lib.hid (Y_u.out.below hb)
      replace Z_m := Lib.hid (Z_m.out.below hb)
      replace B_a := Lib.hid (B_a.out.below hb)
      replace B_b := Lib.hid (B_b.out.below hb)
      replace B_r := Lib.hid (B_r.out.below hb)
      replace hB := below_next hB hb
      clear hb
      go_wp2_with fail
      refine hK.out _ _ (by exact ⟨B_a.out.c3, B_b.out.c3⟩) (fun hHeld => ?_)
      clear hK K
      refine wpAnyH_ready (rs := [11, 13]) (by kernel_rfl) (by simp) ?_
      refine AllReadyH.cons (by simp only [List.getElem?_toArray, List.getElem?_cons_succ, List.getElem?_cons_zero]; rfl) (fun K hK => ?_) ?_
      go_simp
      clear hHeld
      refine (imul_any _ _ _ _ (zval b_u xs_u) (val ys_v) j k _ (by exact ⟨_, X_u.out, lx_u, rfl⟩) (by exact ⟨_, Y_v.out, ly_v, rfl⟩) (by omega) (by omega)).mono ?_
      rintro e w18 ⟨b_o, A_o, n_o, c_o, rfl, h_o, hb⟩
      replace X_v := Lib.hid (X_v.out.below hb)
      replace Y_v := Lib.hid (Y_v.out.below hb)
      replace X_u := Lib.hid (X_u.out.below hb)
      replace Y_u := Lib.hid (Y_u.out.below hb)
      replace Z_m := Lib.hid (Z_m.out.below hb)
      replace B_a := Lib.hid (B_a.out.below hb)
      replace B_b := Lib.hid (B_b.out.below hb)
      replace B_r := Lib.hid (B_r.out.below hb)
      replace hB := below_next hB hb
      clear hb
      have Z_o := Lib.hid h_o
      clear h_o
      go_wp2_with fail
      refine hK.out _ _ (by exact ⟨B_a.out.c3, B_b.out.c3⟩) (fun hHeld => ?_)
      clear hK K
      refine wpAnyH_ready (rs := [12, 13]) (by kernel_rfl) (by simp) ?_
      refine AllReadyH.cons (by simp only [List.getElem?_toArray, List.getElem?_cons_succ, List.getElem?_cons_zero]; rfl) (fun K hK => ?_) ?_
      go_simp
      clear hHeld
      refine (iadd_any _ _ _ _ _ _ (k + j) (k + j) _ (by exact Z_m.out.int (limbs_length_le S_m.out)) (by exact Z_o.out.int (limbs_length_le S_o.out)) (by omega) (by omega)).mono ?_
      rintro e w19 ⟨b_t, A_t, n_t, c_t, rfl, h_t, hb⟩
      replace X_v := Lib.hid (X_v.out.below hb)
      replace Y_v := Lib.hid (Y_v.out.below hb)
      replace X_u := Lib.hid (X_u.out.below hb)
      replace Y_u := Lib.hid (Y_u.out.below hb)
      replace Z_m := Lib.hid (Z_m.out.below hb)
      replace Z_o := Lib.hid (Z_o.out.below hb)
      replace B_a := Lib.hid (B_a.out.below hb)
      replace B_b := Lib.hid (B_b.out.below hb)
      replace B_r := Lib.hid (B_r.out.below hb)
      replace hB := below_next hB hb
      clear hb
      have Z_t := Lib.hid h_t
      clear h_t
      go_wp2_with fail
      refine hK.out _ _ (by exact ⟨B_a.out.c3, B_b.out.c3⟩) (fun hHeld => ?_)
      clear hK K
      refine wpAnyH_ready (rs := [13]) (by kernel_rfl) (by simp) ?_
      refine AllReadyH.cons (by simp only [List.getElem?_toArray, List.getElem?_cons_succ, List.getElem?_cons_zero]; rfl) (fun K hK => ?_) AllReadyH.nil
      go_simp
      clear hHeld
      obtain ⟨A20, g_t, hV, hg, NB, hb⟩ := newI w19 (.bool false) (.slice none 0 0)
      rw [hV, hg]
      clear hV
      have l_t_a : w.heap.size < g_t := hg ▸ B_a.out.lt
      have l_t_b : w.heap.size + 1 < g_t := hg ▸ B_b.out.lt
      have l_t_r : w.heap.size + 1 + 1 < g_t := hg ▸ B_r.out.lt
      replace X_v := Lib.hid (X_v.out.below hb)
      replace Y_v := Lib.hid (Y_v.out.below hb)
      replace X_u := Lib.hid (X_u.out.below hb)
      replace Y_u := Lib.hid (Y_u.out.below hb)
      replace Z_m := Lib.hid (Z_m.out.below hb)
      replace Z_o := Lib.hid (Z_o.out.below hb)
      replace Z_t := Lib.hid (Z_t.out.below hb)
      replace B_a := Lib.hid (B_a.out.below hb)
      replace B_b := Lib.hid (B_b.out.below hb)
      replace B_r := Lib.hid (B_r.out.below hb)
      replace hB := below_next hB hb
      have B_t := NB
      clear NB hb hg
      refine hK.out _ _ (by exact ⟨B_a.out.c3, B_b.out.c3⟩) (fun hHeld => ?_)
      clear hK K
      try simp only [Act.put, List.setIfInBounds_toArray, List.set_cons_zero, List.set_cons_succ]
      refine wpAnyH_ready (rs := [14]) (by kernel_rfl) (by simp) ?_
      refine AllReadyH.cons (by simp only [List.getElem?_toArray, List.getElem?_cons_succ, List.getElem?_cons_zero]; rfl) (fun K hK => ?_) AllReadyH.nil
      have c_a0 := B_a.out.cell0
      have c_a1 := B_a.out.cell1
      have c_a2 := B_a.out.cell2
      have c_b0 := B_b.out.cell0
      have c_b1 := B_b.out.cell1
      have c_b2 := B_b.out.cell2
      have c_r0 := B_r.out.cell0
      have c_r1 := B_r.out.cell1
      have c_r2 := B_r.out.cell2
      have c_t0 := B_t.out.cell0
      have c_t1 := B_t.out.cell1
      have f_t0 := B_t.out.fro 0
      have f_t1 := B_t.out.fro 1
      go_simp
      clear c_a0 c_a1 c_a2 c_b0 c_b1 c_b2 c_r0 c_r1 c_r2 c_t0 c_t1 f_t0 f_t1
      clear hHeld
      obtain ⟨V21, hV, NB, KP⟩ := storeI B_t.out (.bool b_t) (.slice A_t n_t c_t)
      rw [hV]
      clear hV
      replace X_v := Lib.hid (X_v.out.keeps KP.out)
      replace Y_v := Lib.hid (Y_v.out.keeps KP.out)
      replace X_u := Lib.hid (X_u.out.keeps KP.out)
      replace Y_u := Lib.hid (Y_u.out.keeps KP.out)
      replace Z_m := Lib.hid (Z_m.out.keeps KP.out)
      replace Z_o := Lib.hid (Z_o.out.keeps KP.out)
      replace Z_t := Lib.hid (Z_t.out.keeps KP.out)
      replace B_a := Lib.hid (B_a.out.keeps KP.out (by omega))
      replace B_b := Lib.hid (B_b.out.keeps KP.out (by omega))
      replace B_r := Lib.hid (B_r.out.keeps KP.out (by omega))
      replace hB := below_keeps hB KP.out (by omega)
      have B_t := NB
      clear NB KP
      refine hK.out _ _ (by exact ⟨B_a.out.c3, B_b.out.c3⟩) (fun hHeld => ?_)
      clear hK K
      try simp only [Act.put, List.setIfInBounds_toArray, List.set_cons_zero, List.set_cons_succ]
      refine wpAnyH_done (by kernel_rfl) (NoPanic.normal ?_) _
      clear hHeld
      go_wp2_with fail
      go_meet
      exact ⟨b_t, A_t, n_t, c_t, g_t, rfl, l_t_r, B_t.out, Z_t.out, B_a.out, B_b.out, B_r.out, Y_v.out, Y_u.out, hB⟩
      refine AllReadyH.cons (by simp only [List.getElem?_toArray, List.getElem?_cons_succ, List.getElem?_cons_zero]; rfl) (fun K hK => ?_) ?_
      go_simp
      clear hHeld
      obtain ⟨A22, g_t, hV, hg, NB, hb⟩ := newI w18 (.bool false) (.slice none 0 0)
      rw [hV, hg]
      clear hV
      have l_t_a : w.heap.size < g_t := hg ▸ B_a.out.lt
      have l_t_b : w.heap.size + 1 < g_t := hg ▸ B_b.out.lt
      have l_t_r : w.heap.size + 1 + 1 < g_t := hg ▸ B_r.out.lt
      replace X_v := Lib.hid (X_v.out.below hb)
      replace Y_v := Lib.hid (Y_v.out.below hb)
      replace X_u := Lib.hid (X_u.out.below hb)
      replace Y_u := Lib.hid (Y_u.out.below hb)
      replace Z_m := Lib.hid (Z_m.out.below hb)
      replace Z_o := Lib.hid (Z_o.out.below hb)
      replace B_a := Lib.hid (B_a.out.below hb)
      replace B_b := Lib.hid (B_b.out.below hb)
      replace B_r := Lib.hid (B_r.out.below hb)
      replace hB := below_next hB hb
      have B_t := NB
      clear NB hb hg
      refine hK.out _ _ (by exact ⟨B_a.out.c3, B_b.out.c3⟩) (fun hHeld => ?_)
      clear hK K
      try simp only [Act.put, List.setIfInBounds_toArray, List.set_cons_zero, List.set_cons_succ]
      refine wpAnyH_ready (rs := [12]) (by kernel_rfl) (by simp) ?_
      refine AllReadyH.cons (by simp only [List.getElem?_toArray, List.getElem?_cons_succ, List.getElem?_cons_zero]; rfl) (fun K hK => ?_) AllReadyH.nil
      go_simp
      clear hHeld
      refine (iadd_any _ _ _ _ _ _ (k + j) (k + j) _ (by exact Z_m.out.int (limbs_length_le S_m.out)) (by exact Z_o.out.int (limbs_length_le S_o.out)) (by omega) (by omega)).mono ?_
      rintro e w23 ⟨b_t, A_t, n_t, c_t, rfl, h_t, hb⟩
      replace X_v := Lib.hid (X_v.out.below hb)
      replace Y_v := Lib.hid (Y_v.out.below hb)
      replace X_u := Lib.hid (X_u.out.below hb)
      replace Y_u := Lib.hid (Y_u.out.below hb)
      replace Z_m := Lib.hid (Z_m.out.below hb)
      replace Z_o := Lib.hid (Z_o.out.below hb)
      replace B_a := Lib.hid (B_a.out.below hb)
      replace B_b := Lib.hid (B_b.out.below hb)
      replace B_r := Lib.hid (B_r.out.below hb)
      replace B_t := Lib.hid (B_t.out.below hb)
      replace hB := below_next hB hb
      clear hb
      have Z_t := Lib.hid h_t
      clear h_t
      go_wp2_with fail
      refine hK.out _ _ (by exact ⟨B_a.out.c3, B_b.out.c3⟩) (fun hHeld => ?_)
      clear hK K
      refine wpAnyH_ready (rs := [14]) (by kernel_rfl) (by simp) ?_
      refine AllReadyH.cons (by simp only [List.getElem?_toArray, List.getElem?_cons_succ, List.getElem?_cons_zero]; rfl) (fun K hK => ?_) AllReadyH.nil
      have c_a0 := B_a.out.cell0
      have c_a1 := B_a.out.cell1
      have c_a2 := B_a.out.cell2
      have c_b0 := B_b.out.cell0
      have c_b1 := B_b.out.cell1
      have c_b2 := B_b.out.cell2
      have c_r0 := B_r.out.cell0
      have c_r1 := B_r.out.cell1
      have c_r2 := B_r.out.cell2
      have c_t0 := B_t.out.cell0
      have c_t1 := B_t.out.cell1
      have f_t0 := B_t.out.fro 0
      have f_t1 := B_t.out.fro 1
      go_simp
      clear c_a0 c_a1 c_a2 c_b0 c_b1 c_b2 c_r0 c_r1 c_r2 c_t0 c_t1 f_t0 f_t1
      clear hHeld
      obtain ⟨V24, hV, NB, KP⟩ := storeI B_t.out (.bool b_t) (.slice A_t n_t c_t)
      rw [hV]
      clear hV
      replace X_v := Lib.hid (X_v.out.keeps KP.out)
      replace Y_v := Lib.hid (Y_v.out.keeps KP.out)
      replace X_u := Lib.hid (X_u.out.keeps KP.out)
      replace Y_u := Lib.hid (Y_u.out.keeps KP.out)
      replace Z_m := Lib.hid (Z_m.out.keeps KP.out)
      replace Z_o := Lib.hid (Z_o.out.keeps KP.out)
      replace Z_t := Lib.hid (Z_t.out.keeps KP.out)
      replace B_a := Lib.hid (B_a.out.keeps KP.out (by omega))
      replace B_b := Lib.hid (B_b.out.keeps KP.out (by omega))
      replace B_r := Lib.hid (B_r.out.keeps KP.out (by omega))
      replace hB := below_keeps hB KP.out (by omega)
      have B_t := NB
      clear NB KP
      refine hK.out _ _ (by exact ⟨B_a.out.c3, B_b.out.c3⟩) (fun hHeld => ?_)
      clear hK K
      try simp only [Act.put, List.setIfInBounds_toArray, List.set_cons_zero, List.set_cons_succ]
      refine wpAnyH_done (by kernel_rfl) (NoPanic.normal ?_) _
      clear hHeld
      go_wp2_with fail
      go_meet
      exact ⟨b_t, A_t, n_t, c_t, g_t, rfl, l_t_r, B_t.out, Z_t.out, B_a.out, B_b.out, B_r.out, Y_v.out, Y_u.out, hB⟩
      exact AllReadyH.nil
      refine AllReadyH.cons (by simp only [List.getElem?_toArray, List.getElem?_cons_succ, List.getElem?_cons_zero]; rfl) (fun K hK => ?_) ?_
      go_simp
      clear hHeld
      obtain ⟨A25, g_t, hV, hg, NB, hb⟩ := newI w17 (.bool false) (.slice none 0 0)
      rw [hV, hg]
      clear hV
      have l_t_a : w.heap.size < g_t := hg ▸ B_a.out.lt
      have l_t_b : w.heap.size + 1 < g_t := hg ▸ B_b.out.lt
      have l_t_r : w.heap.size + 1 + 1 < g_t := hg ▸ B_r.out.lt
      replace X_v := Lib.hid (X_v.out.below hb)
      replace Y_v := Lib.hid (Y_v.out.below hb)
      replace X_u := Lib.hid (X_u.out.below hb)
      replace Y_u := Lib.hid (Y_u.out.below hb)
      replace Z_m := Lib.hid (Z_m.out.below hb)
      replace B_a := Lib.hid (B_a.out.below hb)
      replace B_b := Lib.hid (B_b.out.below hb)
      replace B_r := Lib.hid (B_r.out.below hb)
      replace hB := below_next hB hb
      have B_t := NB
      clear NB hb hg
      refine hK.out _ _ (by exact ⟨B_a.out.c3, B_b.out.c3⟩) (fun hHeld => ?_)
      clear hK K
      try simp only [Act.put, List.setIfInBounds_toArray, List.set_cons_zero, List.set_cons_succ]
      refine wpAnyH_ready (rs := [11]) (by kernel_rfl) (by simp) ?_
      refine AllReadyH.cons (by simp only [List.getElem?_toArray, List.getElem?_cons_succ, List.getElem?_cons_zero]; rfl) (fun K hK => ?_) AllReadyH.nil
      go_simp
      clear hHeld
      refine (imul_any _ _ _ _ (zval b_u xs_u) (val ys_v) j k _ (by exact ⟨_, X_u.out, lx_u, rfl⟩) (by exact ⟨_, Y_v.out, ly_v, rfl⟩) (by omega) (by omega)).mono ?_
      rintro e w26 ⟨b_o, A_o, n_o, c_o, rfl, h_o, hb⟩
      replace X_v := Lib.hid (X_v.out.below hb)
      replace Y_v := Lib.hid (Y_v.out.below hb)
      replace X_u := Lib.hid (X_u.out.below hb)
      replace Y_u := Lib.hid (Y_u.out.below hb)
      replace Z_m := Lib.hid (Z_m.out.below hb)
      replace B_a := Lib.hid (B_a.out.below hb)
      replace B_b := Lib.hid (B_b.out.below hb)
      replace B_r := Lib.hid (B_r.out.below hb)
      replace B_t := Lib.hid (B_t.out.below hb)
      replace hB := below_next hB hb
      clear hb
      have Z_o := Lib.hid h_o
      clear h_o
      go_wp2_with fail
      refine hK.out _ _ (by exact ⟨B_a.out.c3, B_b.out.c3⟩) (fun hHeld => ?_)
      clear hK K
      refine wpAnyH_ready (rs := [12]) (by kernel_rfl) (by simp) ?_
      refine AllReadyH.cons (by simp only [List.getElem?_toArray, List.getElem?_cons_succ, List.getElem?_cons_zero]; rfl) (fun K hK => ?_) AllReadyH.nil
      go_simp
      clear hHeld
      refine (iadd_any _ _ _ _ _ _ (k + j) (k + j) _ (by exact Z_m.out.int (limbs_length_le S_m.out)) (by exact Z_o.out.int (limbs_length_le S_o.out)) (by omega) (by omega)).mono ?_
      rintro e w27 ⟨b_t, A_t, n_t, c_t, rfl, h_t, hb⟩
      replace X_v := Lib.hid (X_v.out.below hb)
      replace Y_v := Lib.hid (Y_v.out.below hb)
      replace X_u := Lib.hid (X_u.out.below hb)
      replace Y_u := Lib.hid (Y_u.out.below hb)
      replace Z_m := Lib.hid (Z_m.out.below hb)
      replace Z_o := Lib.hid (Z_o.out.below hb)
      replace B_a := Lib.hid (B_a.out.below hb)
      replace B_b := Lib.hid (B_b.out.below hb)
      replace B_r := Lib.hid (B_r.out.below hb)
      replace B_t := Lib.hid (B_t.out.below hb)
      replace hB := below_next hB hb
      clear hb
      have Z_t := Lib.hid h_t
      clear h_t
      go_wp2_with fail
      refine hK.out _ _ (by exact ⟨B_a.out.c3, B_b.out.c3⟩) (fun hHeld => ?_)
      clear hK K
      refine wpAnyH_ready (rs := [14]) (by kernel_rfl) (by simp) ?_
      refine AllReadyH.cons (by simp only [List.getElem?_toArray, List.getElem?_cons_succ, List.getElem?_cons_zero]; rfl) (fun K hK => ?_) AllReadyH.nil
      have c_a0 := B_a.out.cell0
      have c_a1 := B_a.out.cell1
      have c_a2 := B_a.out.cell2
      have c_b0 := B_b.out.cell0
      have c_b1 := B_b.out.cell1
      have c_b2 := B_b.out.cell2
      have c_r0 := B_r.out.cell0
      have c_r1 := B_r.out.cell1
      have c_r2 := B_r.out.cell2
      have c_t0 := B_t.out.cell0
      have c_t1 := B_t.out.cell1
      have f_t0 := B_t.out.fro 0
      have f_t1 := B_t.out.fro 1
      go_simp
      clear c_a0 c_a1 c_a2 c_b0 c_b1 c_b2 c_r0 c_r1 c_r2 c_t0 c_t1 f_t0 f_t1
      clear hHeld
      obtain ⟨V28, hV, NB, KP⟩ := storeI B_t.out (.bool b_t) (.slice A_t n_t c_t)
      rw [hV]
      clear hV
      replace X_v := Lib.hid (X_v.out.keeps KP.out)
      replace Y_v := Lib.hid (Y_v.out.keeps KP.out)
      replace X_u := Lib.hid (X_u.out.keeps KP.out)
      replace Y_u := Lib.hid (Y_u.out.keeps KP.out)
      replace Z_m := Lib.hid (Z_m.out.keeps KP.out)
      replace Z_o := Lib.hid (Z_o.out.keeps KP.out)
      replace Z_t := Lib.hid (Z_t.out.keeps KP.out)
      replace B_a := Lib.hid (B_a.out.keeps KP.out (by omega))
      replace B_b := Lib.hid (B_b.out.keeps KP.out (by omega))
      replace B_r := Lib.hid (B_r.out.keeps KP.out (by omega))
      replace hB := below_keeps hB KP.out (by omega)
      have B_t := NB
      clear NB KP
      refine hK.out _ _ (by exact ⟨B_a.out.c3, B_b.out.c3⟩) (fun hHeld => ?_)
      clear hK K
      try simp only [Act.put, List.setIfInBounds_toArray, List.set_cons_zero, List.set_cons_succ]
      refine wpAnyH_done (by kernel_rfl) (NoPanic.normal ?_) _
      clear hHeld
      go_wp2_with fail
      go_meet
      exact ⟨b_t, A_t, n_t, c_t, g_t, rfl, l_t_r, B_t.out, Z_t.out, B_a.out, B_b.out, B_r.out, Y_v.out, Y_u.out, hB⟩
      exact AllReadyH.nil
      refine AllReadyH.cons (by simp only [List.getElem?_toArray, List.getElem?_cons_succ, List.getElem?_cons_zero]; rfl) (fun K hK => ?_) ?_
      go_simp
      clear hHeld
      obtain ⟨A29, g_t, hV, hg, NB, hb⟩ := newI w16 (.bool false) (.slice none 0 0)
      rw [hV, hg]
      clear hV
      have l_t_a : w.heap.size < g_t := hg ▸ B_a.out.lt
      have l_t_b : w.heap.size + 1 < g_t := hg ▸ B_b.out.lt
      have l_t_r : w.heap.size + 1 + 1 < g_t := hg ▸ B_r.out.lt
      replace X_v := Lib.hid (X_v.out.below hb)
      replace Y_v := Lib.hid (Y_v.out.below hb)
      replace X_u := Lib.hid (X_u.out.below hb)
      replace Y_u := Lib.hid (Y_u.out.below hb)
      replace Z_m := Lib.hid (Z_m.out.below hb)
      replace B_a := Lib.hid (B_a.out.below hb)
      replace B_b := Lib.hid (B_b.out.below hb)
      replace B_r := Lib.hid (B_r.out.below hb)
      replace hB := below_next hB hb
      have B_t := NB
      clear NB hb hg
      refine hK.out _ _ (by exact ⟨B_a.out.c3, B_b.out.c3⟩) (fun hHeld => ?_)
      clear hK K
      try simp only [Act.put, List.setIfInBounds_toArray, List.set_cons_zero, List.set_cons_succ]
      refine wpAnyH_ready (rs := [10]) (by kernel_rfl) (by simp) ?_
      refine AllReadyH.cons (by simp only [List.getElem?_toArray, List.getElem?_cons_succ, List.getElem?_cons_zero]; rfl) (fun K hK => ?_) AllReadyH.nil
      go_simp
      clear hHeld
      refine (qpos_any _ _ _ _).mono ?_
      rintro e w30 ⟨rfl, hb⟩
      replace X_v := Lib.hid (X_v.out.below hb)
      replace Y_v := Lib.hid (Y_v.out.below hb)
      replace X_u := Lib.hid (X_u.out.below hb)
      replace Y_u := Lib.hid (Y_u.out.below hb)
      replace Z_m := Lib.hid (Z_m.out.below hb)
      replace B_a := Lib.hid (B_a.out.below hb)
      replace B_b := Lib.hid (B_b.out.below hb)
      replace B_r := Lib.hid (B_r.out.below hb)
      replace B_t := Lib.hid (B_t.out.below hb)
      replace hB := below_next hB hb
      clear hb
      go_wp2_with fail
      refine hK.out _ _ (by exact ⟨B_a.out.c3, B_b.out.c3⟩) (fun hHeld => ?_)
      clear hK K
      refine wpAnyH_ready (rs := [11]) (by kernel_rfl) (by simp) ?_
      refine AllReadyH.cons (by simp only [List.getElem?_toArray, List.getElem?_cons_succ, List.getElem?_cons_zero]; rfl) (fun K hK => ?_) AllReadyH.nil
      go_simp
      clear hHeld
      refine (imul_any _ _ _ _ (zval b_u xs_u) (val ys_v) j k _ (by exact ⟨_, X_u.out, lx_u, rfl⟩) (by exact ⟨_, Y_v.out, ly_v, rfl⟩) (by omega) (by omega)).mono ?_
      rintro e w31 ⟨b_o, A_o, n_o, c_o, rfl, h_o, hb⟩
      replace X_v := Lib.hid (X_v.out.below hb)
      replace Y_v := Lib.hid (Y_v.out.below hb)
      replace X_u := Lib.hid (X_u.out.below hb)
      replace Y_u := Lib.hid (Y_u.out.below hb)
      replace Z_m := Lib.hid (Z_m.out.below hb)
      replace B_a := Lib.hid (B_a.out.below hb)
      replace B_b := Lib.hid (B_b.out.below hb)
      replace B_r := Lib.hid (B_r.out.below hb)
      replace B_t := Lib.hid (B_t.out.below hb)
      replace hB := below_next hB hb
      clear hb
      have Z_o := Lib.hid h_o
      clear h_o
      go_wp2_with fail
      refine hK.out _ _ (by exact ⟨B_a.out.c3, B_b.out.c3⟩) (fun hHeld => ?_)
      clear hK K
      refine wpAnyH_ready (rs := [12]) (by kernel_rfl) (by simp) ?_
      refine AllReadyH.cons (by simp only [List.getElem?_toArray, List.getElem?_cons_succ, List.getElem?_cons_zero]; rfl) (fun K hK => ?_) AllReadyH.nil
      go_simp
      clear hHeld
      refine (iadd_any _ _ _ _ _ _ (k + j) (k + j) _ (by exact Z_m.out.int (limbs_length_le S_m.out)) (by exact Z_o.out.int (limbs_length_le S_o.out)) (by omega) (by omega)).mono ?_
      rintro e w32 ⟨b_t, A_t, n_t, c_t, rfl, h_t, hb⟩
      replace X_v := Lib.hid (X_v.out.below hb)
      replace Y_v := Lib.hid (Y_v.out.below hb)
      replace X_u := Lib.hid (X_u.out.below hb)
      replace Y_u := Lib.hid (Y_u.out.below hb)
      replace Z_m := Lib.hid (Z_m.out.below hb)
      replace Z_o := Lib.hid (Z_o.out.below hb)
      replace B_a := Lib.hid (B_a.out.below hb)
      replace B_b := Lib.hid (B_b.out.below hb)
      replace B_r := Lib.hid (B_r.out.below hb)
      replace B_t := Lib.hid (B_t.out.below hb)
      replace hB := below_next hB hb
      clear hb
      have Z_t := Lib.hid h_t
      clear h_t
      go_wp2_with fail
      refine hK.out _ _ (by exact ⟨B_a.out.c3, B_b.out.c3⟩) (fun hHeld => ?_)
      clear hK K
      refine wpAnyH_ready (rs := [14]) (by kernel_rfl) (by simp) ?_
      refine AllReadyH.cons (by simp only [List.getElem?_toArray, List.getElem?_cons_succ, List.getElem?_cons_zero]; rfl) (fun K hK => ?_) AllReadyH.nil
      have c_a0 := B_a.out.cell0
      have c_a1 := B_a.out.cell1
      have c_a2 := B_a.out.cell2
      have c_b0 := B_b.out.cell0
      have c_b1 := B_b.out.cell1
      have c_b2 := B_b.out.cell2
      have c_r0 := B_r.out.cell0
      have c_r1 := B_r.out.cell1
      have c_r2 := B_r.out.cell2
      have c_t0 := B_t.out.cell0
      have c_t1 := B_t.out.cell1
      have f_t0 := B_t.out.fro 0
      have f_t1 := B_t.out.fro 1
      go_simp
      clear c_a0 c_a1 c_a2 c_b0 c_b1 c_b2 c_r0 c_r1 c_r2 c_t0 c_t1 f_t0 f_t1
      clear hHeld
      obtain ⟨V33, hV, NB, KP⟩ := storeI B_t.out (.bool b_t) (.slice A_t n_t c_t)
      rw [hV]
      clear hV
      replace X_v := Lib.hid (X_v.out.keeps KP.out)
      replace Y_v := Lib.hid (Y_v.out.keeps KP.out)
      replace X_u := Lib.hid (X_u.out.keeps KP.out)
      replace Y_u := Lib.hid (Y_u.out.keeps KP.out)
      replace Z_m := Lib.hid (Z_m.out.keeps KP.out)
      replace Z_o := Lib.hid (Z_o.out.keeps KP.out)
      replace Z_t := Lib.hid (Z_t.out.keeps KP.out)
      replace B_a := Lib.hid (B_a.out.keeps KP.out (by omega))
      replace B_b := Lib.hid (B_b.out.keeps KP.out (by omega))
      replace B_r := Lib.hid (B_r.out.keeps KP.out (by omega))
      replace hB := below_keeps hB KP.out (by omega)
      have B_t := NB
      clear NB KP
      refine hK.out _ _ (by exact ⟨B_a.out.c3, B_b.out.c3⟩) (fun hHeld => ?_)
      clear hK K
      try simp only [Act.put, List.setIfInBounds_toArray, List.set_cons_zero, List.set_cons_succ]
      refine wpAnyH_done (by kernel_rfl) (NoPanic.normal ?_) _
      clear hHeld
      go_wp2_with fail
      go_meet
      exact ⟨b_t, A_t, n_t, c_t, g_t, rfl, l_t_r, B_t.out, Z_t.out, B_a.out, B_b.out, B_r.out, Y_v.out, Y_u.out, hB⟩
      exact AllReadyH.nil
      refine AllReadyH.cons (by simp only [List.getElem?_toArray, List.getElem?_cons_succ, List.getElem?_cons_zero]; rfl) (fun K hK => ?_) ?_
      go_simp
      clear hHeld
      obtain ⟨A34, g_t, hV, hg, NB, hb⟩ := newI w15 (.bool false) (.slice none 0 0)
      rw [hV, hg]
      clear hV
      have l_t_a : w.heap.size < g_t := hg ▸ B_a.out.lt
      have l_t_b : w.heap.size + 1 < g_t := hg ▸ B_b.out.lt
      have l_t_r : w.heap.size + 1 + 1 < g_t := hg ▸ B_r.out.lt
      replace X_v := Lib.hid (X_v.out.below hb)
      replace Y_v := Lib.hid (Y_v.out.below hb)
      replace X_u := Lib.hid (X_u.out.below hb)
      replace Y_u := Lib.hid (Y_u.out.below hb)
      replace B_a := Lib.hid (B_a.out.below hb)
      replace B_b := Lib.hid (B_b.out.below hb)
      replace B_r := Lib.hid (B_r.out.below hb)
      replace hB := below_next hB hb
      have B_t := NB
      clear NB hb hg
      refine hK.out _ _ (by exact ⟨B_a.out.c3, B_b.out.c3⟩) (fun hHeld => ?_)
      clear hK K
      try simp only [Act.put, List.setIfInBounds_toArray, List.set_cons_zero, List.set_cons_succ]
      refine wpAnyH_ready (rs := [5]) (by kernel_rfl) (by simp) ?_
      refine AllReadyH.cons (by simp only [List.getElem?_toArray, List.getElem?_cons_succ, List.getElem?_cons_zero]; rfl) (fun K hK => ?_) AllReadyH.nil
      go_simp
      clear hHeld
      refine (imul_any _ _ _ _ (zval b_v xs_v) (val ys_u) k j _ (by exact ⟨_, X_v.out, lx_v, rfl⟩) (by exact ⟨_, Y_u.out, ly_u, rfl⟩) (by omega) (by omega)).mono ?_
      rintro e w35 ⟨b_m, A_m, n_m, c_m, rfl, h_m, hb⟩
      replace X_v := Lib.hid (X_v.out.below hb)
      replace Y_v := Lib.hid (Y_v.out.below hb)
      replace X_u := Lib.hid (X_u.out.below hb)
      replace Y_u := Lib.hid (Y_u.out.below hb)
      replace B_a := Lib.hid (B_a.out.below hb)
      replace B_b := Lib.hid (B_b.out.below hb)
      replace B_r := Lib.hid (B_r.out.below hb)
      replace B_t := Lib.hid (B_t.out.below hb)
      replace hB := below_next hB hb
      clear hb
      have Z_m := Lib.hid h_m
      clear h_m
      go_wp2_with fail
      refine hK.out _ _ (by exact ⟨B_a.out.c3, B_b.out.c3⟩) (fun hHeld => ?_)
      clear hK K
      refine wpAnyH_ready (rs := [10]) (by kernel_rfl) (by simp) ?_
      refine AllReadyH.cons (by simp only [List.getElem?_toArray, List.getElem?_cons_succ, List.getElem?_cons_zero]; rfl) (fun K hK => ?_) AllReadyH.nil
      go_simp
      clear hHeld
      refine (qpos_any _ _ _ _).mono ?_
      rintro e w36 ⟨rfl, hb⟩
      replace X_v := Lib.hid (X_v.out.below hb)
      replace Y_v := Lib.hid (Y_v.out.below hb)
      replace X_u := Lib.hid (X_u.out.below hb)
      replace Y_u := Lib.hid (Y_u.out.below hb)
      replace Z_m := Lib.hid (Z_m.out.below hb)
      replace B_a := Lib.hid (B_a.out.below hb)
      replace B_b := Lib.hid (B_b.out.below hb)
      replace B_r := Lib.hid (B_r.out.below hb)
      replace B_t := Lib.hid (B_t.out.below hb)
      replace hB := below_next hB hb
      clear hb
      go_wp2_with fail
      refine hK.out _ _ (by exact ⟨B_a.out.c3, B_b.out.c3⟩) (fun hHeld => ?_)
      clear hK K
      refine wpAnyH_ready (rs := [11]) (by kernel_rfl) (by simp) ?_
      refine AllReadyH.cons (by simp only [List.getElem?_toArray, List.getElem?_cons_succ, List.getElem?_cons_zero]; rfl) (fun K hK => ?_) AllReadyH.nil
      go_simp
      clear hHeld
      refine (imul_any _ _ _ _ (zval b_u xs_u) (val ys_v) j k _ (by exact ⟨_, X_u.out, lx_u, rfl⟩) (by exact ⟨_, Y_v.out, ly_v, rfl⟩) (by omega) (by omega)).mono ?_
      rintro e w37 ⟨b_o, A_o, n_o, c_o, rfl, h_o, hb⟩
      replace X_v := Lib.hid (X_v.out.below hb)
      replace Y_v := Lib.hid (Y_v.out.below hb)
      replace X_u := Lib.hid (X_u.out.below hb)
      replace Y_u := Lib.hid (Y_u.out.below hb)
      replace Z_m := Lib.hid (Z_m.out.below hb)
      replace B_a := Lib.hid (B_a.out.below hb)
      replace B_b := Lib.hid (B_b.out.below hb)
      replace B_r := Lib.hid (B_r.out.below hb)
      replace B_t := Lib.hid (B_t.out.below hb)
      replace hB := below_next hB hb
      clear hb
      have Z_o := Lib.hid h_o
      clear h_o
      go_wp2_with fail
      refine hK.out _ _ (by exact ⟨B_a.out.c3, B_b.out.c3⟩) (fun hHeld => ?_)
      clear hK K
      refine wpAnyH_ready (rs := [12]) (by kernel_rfl) (by simp) ?_
      refine AllReadyH.cons (by simp only [List.getElem?_toArray, List.getElem?_cons_succ, List.getElem?_cons_zero]; rfl) (fun K hK => ?_) AllReadyH.nil
      go_simp
      clear hHeld
      refine (iadd_any _ _ _ _ _ _ (k + j) (k + j) _ (by exact Z_m.out.int (limbs_length_le S_m.out)) (by exact Z_o.out.int (limbs_length_le S_o.out)) (by omega) (by omega)).mono ?_
      rintro e w38 ⟨b_t, A_t, n_t, c_t, rfl, h_t, hb⟩
      replace X_v := Lib.hid (X_v.out.below hb)
      replace Y_v := Lib.hid (Y_v.out.below hb)
      replace X_u := Lib.hid (X_u.out.below hb)
      replace Y_u := Lib.hid (Y_u.out.below hb)
      replace Z_m := Lib.hid (Z_m.out.below hb)
      replace Z_o := Lib.hid (Z_o.out.below hb)
      replace B_a := Lib.hid (B_a.out.below hb)
      replace B_b := Lib.hid (B_b.out.below hb)
      replace B_r := Lib.hid (B_r.out.below hb)
      replace B_t := Lib.hid (B_t.out.below hb)
      replace hB := below_next hB hb
      clear hb
      have Z_t := Lib.hid h_t
      clear h_t
      go_wp2_with fail
      refine hK.out _ _ (by exact ⟨B_a.out.c3, B_b.out.c3⟩) (fun hHeld => ?_)
      clear hK K
      refine wpAnyH_ready (rs := [14]) (by kernel_rfl) (by simp) ?_
      refine AllReadyH.cons (by simp only [List.getElem?_toArray, List.getElem?_cons_succ, List.getElem?_cons_zero]; rfl) (fun K hK => ?_) AllReadyH.nil
      have c_a0 := B_a.out.cell0
      have c_a1 := B_a.out.cell1
      have c_a2 := B_a.out.cell2
      have c_b0 := B_b.out.cell0
      have c_b1 := B_b.out.cell1
      have c_b2 := B_b.out.cell2
      have c_r0 := B_r.out.cell0
      have c_r1 := B_r.out.cell1
      have c_r2 := B_r.out.cell2
      have c_t0 := B_t.out.cell0
      have c_t1 := B_t.out.cell1
      have f_t0 := B_t.out.fro 0
      have f_t1 := B_t.out.fro 1
      go_simp
      clear c_a0 c_a1 c_a2 c_b0 c_b1 c_b2 c_r0 c_r1 c_r2 c_t0 c_t1 f_t0 f_t1
      clear hHeld
      obtain ⟨V39, hV, NB, KP⟩ := storeI B_t.out (.bool b_t) (.slice A_t n_t c_t)
      rw [hV]
      clear hV
      replace X_v := Lib.hid (X_v.out.keeps KP.out)
      replace Y_v := Lib.hid (Y_v.out.keeps KP.out)
      replace X_u := Lib.hid (X_u.out.keeps KP.out)
      replace Y_u := Lib.hid (Y_u.out.keeps KP.out)
      replace Z_m := Lib.hid (Z_m.out.keeps KP.out)
      replace Z_o := Lib.hid (Z_o.out.keeps KP.out)
      replace Z_t := Lib.hid (Z_t.out.keeps KP.out)
      replace B_a := Lib.hid (B_a.out.keeps KP.out (by omega))
      replace B_b := Lib.hid (B_b.out.keeps KP.out (by omega))
      replace B_r := Lib.hid (B_r.out.keeps KP.out (by omega))
      replace hB := below_keeps hB KP.out (by omega)
      have B_t := NB
      clear NB KP
      refine hK.out _ _ (by exact ⟨B_a.out.c3, B_b.out.c3⟩) (fun hHeld => ?_)
      clear hK K
      try simp only [Act.put, List.setIfInBounds_toArray, List.set_cons_zero, List.set_cons_succ]
      refine wpAnyH_done (by kernel_rfl) (NoPanic.normal ?_) _
      clear hHeld
      go_wp2_with fail
      go_meet
      exact ⟨b_t, A_t, n_t, c_t, g_t, rfl, l_t_r, B_t.out, Z_t.out, B_a.out, B_b.out, B_r.out, Y_v.out, Y_u.out, hB⟩
      exact AllReadyH.nil
      refine AllReadyH.cons (by simp only [List.getElem?_toArray, List.getElem?_cons_succ, List.getElem?_cons_zero]; rfl) (fun K hK => ?_) ?_
      go_simp
      clear hHeld
      obtain ⟨A40, g_t, hV, hg, NB, hb⟩ := newI V14 (.bool false) (.slice none 0 0)
      rw [hV, hg]
      clear hV
      have l_t_a : w.heap.size < g_t := hg ▸ B_a.out.lt
      have l_t_b : w.heap.size + 1 < g_t := hg ▸ B_b.out.lt
      have l_t_r : w.heap.size + 1 + 1 < g_t := hg ▸ B_r.out.lt
      replace X_v := Lib.hid (X_v.out.below hb)
      replace Y_v := Lib.hid (Y_v.out.below hb)
      replace X_u := Lib.hid (X_u.out.below hb)
      replace Y_u := Lib.hid (Y_u.out.below hb)
      replace B_a := Lib.hid (B_a.out.below hb)
      replace B_b := Lib.hid (B_b.out.below hb)
      replace B_r := Lib.hid (B_r.out.below hb)
      replace hB := below_next hB hb
      have B_t := NB
      clear NB hb hg
      refine hK.out _ _ (by exact ⟨B_a.out.c3, B_b.out.c3⟩) (fun hHeld => ?_)
      clear hK K
      try simp only [Act.put, List.setIfInBounds_toArray, List.set_cons_zero, List.set_cons_succ]
      refine wpAnyH_ready (rs := [4]) (by kernel_rfl) (by simp) ?_
      refine AllReadyH.cons (by simp only [List.getElem?_toArray, List.getElem?_cons_succ, List.getElem?_cons_zero]; rfl) (fun K hK => ?_) AllReadyH.nil
      go_simp
      clear hHeld
      refine (qpos_any _ _ _ _).mono ?_
      rintro e w41 ⟨rfl, hb⟩
      replace X_v := Lib.hid (X_v.out.below hb)
      replace Y_v := Lib.hid (Y_v.out.below hb)
      replace X_u := Lib.hid (X_u.out.below hb)
      replace Y_u := Lib.hid (Y_u.out.below hb)
      replace B_a := Lib.hid (B_a.out.below hb)
      replace B_b := Lib.hid (B_b.out.below hb)
      replace B_r := Lib.hid (B_r.out.below hb)
      replace B_t := Lib.hid (B_t.out.below hb)
      replace hB := below_next hB hb
      clear hb
      go_wp2_with fail
      refine hK.out _ _ (by exact ⟨B_a.out.c3, B_b.out.c3⟩) (fun hHeld => ?_)
      clear hK K
      refine wpAnyH_ready (rs := [5]) (by kernel_rfl) (by simp) ?_
      refine AllReadyH.cons (by simp only [List.getElem?_toArray, List.getElem?_cons_succ, List.getElem?_cons_zero]; rfl) (fun K hK => ?_) AllReadyH.nil
      go_simp
      clear hHeld
      refine (imul_any _ _ _ _ (zval b_v xs_v) (val ys_u) k j _ (by exact ⟨_, X_v.out, lx_v, rfl⟩) (by exact ⟨_, Y_u.out, ly_u, rfl⟩) (by omega) (by omega)).mono ?_
      rintro e w42 ⟨b_m, A_m, n_m, c_m, rfl, h_m, hb⟩
      replace X_v := Lib.hid (X_v.out.below hb)
      replace Y_v := Lib.hid (Y_v.out.below hb)
      replace X_u := Lib.hid (X_u.out.below hb)
      replace Y_u := Lib.hid (Y_u.out.below hb)
      replace B_a := Lib.hid (B_a.out.below hb)
      replace B_b := Lib.hid (B_b.out.below hb)
      replace B_r := Lib.hid (B_r.out.below hb)
      replace B_t := Lib.hid (B_t.out.below hb)
      replace hB := below_next hB hb
      clear hb
      have Z_m := Lib.hid h_m
      clear h_m
      go_wp2_with fail
      refine hK.out _ _ (by exact ⟨B_a.out.c3, B_b.out.c3⟩) (fun hHeld => ?_)
      clear hK K
      refine wpAnyH_ready (rs := [10]) (by kernel_rfl) (by simp) ?_
      refine AllReadyH.cons (by simp only [List.getElem?_toArray, List.getElem?_cons_succ, List.getElem?_cons_zero]; rfl) (fun K hK => ?_) AllReadyH.nil
      go_simp
      clear hHeld
      refine (qpos_any _ _ _ _).mono ?_
      rintro e w43 ⟨rfl, hb⟩
      replace X_v := Lib.hid (X_v.out.below hb)
      replace Y_v := Lib.hid (Y_v.out.below hb)
      replace X_u := Lib.hid (X_u.out.below hb)
      replace Y_u := Lib.hid (Y_u.out.below hb)
      replace Z_m := Lib.hid (Z_m.out.below hb)
      replace B_a := Lib.hid (B_a.out.below hb)
      replace B_b := Lib.hid (B_b.out.below hb)
      replace B_r := Lib.hid (B_r.out.below hb)
      replace B_t := Lib.hid (B_t.out.below hb)
      replace hB := below_next hB hb
      clear hb
      go_wp2_with fail
      refine hK.out _ _ (by exact ⟨B_a.out.c3, B_b.out.c3⟩) (fun hHeld => ?_)
      clear hK K
      refine wpAnyH_ready (rs := [11]) (by kernel_rfl) (by simp) ?_
      refine AllReadyH.cons (by simp only [List.getElem?_toArray, List.getElem?_cons_succ, List.getElem?_cons_zero]; rfl) (fun K hK => ?_) AllReadyH.nil
      go_simp
      clear hHeld
      refine (imul_any _ _ _ _ (zval b_u xs_u) (val ys_v) j k _ (by exact ⟨_, X_u.out, lx_u, rfl⟩) (by exact ⟨_, Y_v.out, ly_v, rfl⟩) (by omega) (by omega)).mono ?_
      rintro e w44 ⟨b_o, A_o, n_o, c_o, rfl, h_o, hb⟩
      replace X_v := Lib.hid (X_v.out.below hb)
      replace Y_v := Lib.hid (Y_v.out.below hb)
      replace X_u := Lib.hid (X_u.out.below hb)
      replace Y_u := Lib.hid (Y_u.out.below hb)
      replace Z_m := Lib.hid (Z_m.out.below hb)
      replace B_a := Lib.hid (B_a.out.below hb)
      replace B_b := Lib.hid (B_b.out.below hb)
      replace B_r := Lib.hid (B_r.out.below hb)
      replace B_t := Lib.hid (B_t.out.below hb)
      replace hB := below_next hB hb
      clear hb
      have Z_o := Lib.hid h_o
      clear h_o
      go_wp2_with fail
      refine hK.out _ _ (by exact ⟨B_a.out.c3, B_b.out.c3⟩) (fun hHeld => ?_)
      clear hK K
      refine wpAnyH_ready (rs := [12]) (by kernel_rfl) (by simp) ?_
      refine AllReadyH.cons (by simp only [List.getElem?_toArray, List.getElem?_cons_succ, List.getElem?_cons_zero]; rfl) (fun K hK => ?_) AllReadyH.nil
      go_simp
      clear hHeld
      refine (iadd_any _ _ _ _ _ _ (k + j) (k + j) _ (by exact Z_m.out.int (limbs_length_le S_m.out)) (by exact Z_o.out.int (limbs_length_le S_o.out)) (by omega) (by omega)).mono ?_
      rintro e w45 ⟨b_t, A_t, n_t, c_t, rfl, h_t, hb⟩
      replace X_v := Lib.hid (X_v.out.below hb)
      replace Y_v := Lib.hid (Y_v.out.below hb)
      replace X_u := Lib.hid (X_u.out.below hb)
      replace Y_u := Lib.hid (Y_u.out.below hb)
      replace Z_m := Lib.hid (Z_m.out.below hb)
      replace Z_o := Lib.hid (Z_o.out.below hb)
      replace B_a := Lib.hid (B_a.out.below hb)
      replace B_b := Lib.hid (B_b.out.below hb)
      replace B_r := Lib.hid (B_r.out.below hb)
      replace B_t := Lib.hid (B_t.out.below hb)
      replace hB := below_next hB hb
      clear hb
      have Z_t := Lib.hid h_t
      clear h_t
      go_wp2_with fail
      refine hK.out _ _ (by exact ⟨B_a.out.c3, B_b.out.c3⟩) (fun hHeld => ?_)
      clear hK K
      refine wpAnyH_ready (rs := [14]) (by kernel_rfl) (by simp) ?_
      refine AllReadyH.cons (by simp only [List.getElem?_toArray, List.getElem?_cons_succ, List.getElem?_cons_zero]; rfl) (fun K hK => ?_) AllReadyH.nil
      have c_a0 := B_a.out.cell0
      have c_a1 := B_a.out.cell1
      have c_a2 := B_a.out.cell2
      have c_b0 := B_b.out.cell0
      have c_b1 := B_b.out.cell1
      have c_b2 := B_b.out.cell2
      have c_r0 := B_r.out.cell0
      have c_r1 := B_r.out.cell1
      have c_r2 := B_r.out.cell2
      have c_t0 := B_t.out.cell0
      have c_t1 := B_t.out.cell1
      have f_t0 := B_t.out.fro 0
      have f_t1 := B_t.out.fro 1
      go_simp
      clear c_a0 c_a1 c_a2 c_b0 c_b1 c_b2 c_r0 c_r1 c_r2 c_t0 c_t1 f_t0 f_t1
      clear hHeld
      obtain ⟨V46, hV, NB, KP⟩ := storeI B_t.out (.bool b_t) (.slice A_t n_t c_t)
      rw [hV]
      clear hV
      replace X_v := Lib.hid (X_v.out.keeps KP.out)
      replace Y_v := Lib.hid (Y_v.out.keeps KP.out)
      replace X_u := Lib.hid (X_u.out.keeps KP.out)
      replace Y_u := Lib.hid (Y_u.out.keeps KP.out)
      replace Z_m := Lib.hid (Z_m.out.keeps KP.out)
      replace Z_o := Lib.hid (Z_o.out.keeps KP.out)
      replace Z_t := Lib.hid (Z_t.out.keeps KP.out)
      replace B_a := Lib.hid (B_a.out.keeps KP.out (by omega))
      replace B_b := Lib.hid (B_b.out.keeps KP.out (by omega))
      replace B_r := Lib.hid (B_r.out.keeps KP.out (by omega))
      replace hB := below_keeps hB KP.out (by omega)
      have B_t := NB
      clear NB KP
      refine hK.out _ _ (by exact ⟨B_a.out.c3, B_b.out.c3⟩) (fun hHeld => ?_)
      clear hK K
      try simp only [Act.put, List.setIfInBounds_toArray, List.set_cons_zero, List.set_cons_succ]
      refine wpAnyH_done (by kernel_rfl) (NoPanic.normal ?_) _
      clear hHeld
      go_wp2_with fail
      go_meet
      exact ⟨b_t, A_t, n_t, c_t, g_t, rfl, l_t_r, B_t.out, Z_t.out, B_a.out, B_b.out, B_r.out, Y_v.out, Y_u.out, hB⟩
      exact AllReadyH.nil
    case rest =>
      obtain ⟨b_t, A_t, n_t, c_t, g_t, rfl, hgt, bt, zt, ba, bb, br, yv, yu, hB9⟩ := hcut
      clear X_v X_u Y_v Y_u B_a B_b B_r hB
      have hB := hB9
      have B_a := Lib.hid ba
      have B_b := Lib.hid bb
      have B_r := Lib.hid br
      have B_t := Lib.hid bt
      have Z_t := Lib.hid zt
      have Y_v := Lib.hid yv
      have Y_u := Lib.hid yu
      clear hB9 ba bb br bt zt yv yu
      have c_a0 := B_a.out.cell0
      have c_a1 := B_a.out.cell1
      have c_a2 := B_a.out.cell2
      have c_b0 := B_b.out.cell0
      have c_b1 := B_b.out.cell1
      have c_b2 := B_b.out.cell2
      have c_r0 := B_r.out.cell0
      have c_r1 := B_r.out.cell1
      have c_r2 := B_r.out.cell2
      have c_t0 := B_t.out.cell0
      have c_t1 := B_t.out.cell1
      go_wp2_with fail
      clear c_a0 c_a1 c_a2 c_b0 c_b1 c_b2 c_r0 c_r1 c_r2 c_t0 c_t1
      have S_t := Lib.hid (limbs_length_le ((S_m.out.add S_o.out).le (Int.natAbs_add_le _ _)))
      refine wp_region_named (S := (fun w' => (w'.cell? ⟨w.heap.size, 0, none⟩ = some (.bool b_v) ∧ w'.cell? ⟨w.heap.size, 1, none⟩ = some (.slice A_v n_v c_v) ∧ w'.cell? ⟨w.heap.size, 2, none⟩ = some (.slice D_v e_v f_v)) ∧ (w'.cell? ⟨w.heap.size + 1, 0, none⟩ = some (.bool b_u) ∧ w'.cell? ⟨w.heap.size + 1, 1, none⟩ = some (.slice A_u n_u c_u) ∧ w'.cell? ⟨w.heap.size + 1, 2, none⟩ = some (.slice D_u e_u f_u)) ∧ (w'.cell? ⟨g_t, 0, none⟩ = some (.bool b_t) ∧ w'.cell? ⟨g_t, 1, none⟩ = some (.slice A_t n_t c_t)))) (by kernel_rfl) (by exact ⟨B_a.out.c3, B_b.out.c3, ⟨B_t.out.cell0, B_t.out.cell1⟩⟩) (fun V47 hb hHeld => ?_)
      replace Z_t := Lib.hid (Z_t.out.below hb)
      replace Y_v := Lib.hid (Y_v.out.below hb)
      replace Y_u := Lib.hid (Y_u.out.below hb)
      replace B_a := Lib.hid (B_a.out.below hb)
      replace B_b := Lib.hid (B_b.out.below hb)
      replace B_r := Lib.hid (B_r.out.below hb)
      replace B_t := Lib.hid (B_t.out.below hb)
      replace hB := below_next hB hb
      clear hb
      refine wpAnyH_takeQ 0 (v := ?_) (fun _ _ _ _ _ h => h) (by simp only [List.getElem?_toArray, List.getElem?_cons_zero]; rfl) (by kernel_rfl) (by kernel_rfl) (by kernel_rfl) (by rfl) ?_ hHeld ?_; rotate_left; · (intro w hSw; (try dsimp only at hSw); go_simp; (try with_reducible rfl))
      try simp only [Act.put, List.setIfInBounds_toArray, List.set_cons_zero, List.set_cons_succ]
      refine wpAnyH_takeQ 1 (v := ?_) (fun _ _ _ _ _ h => h) (by simp only [List.getElem?_toArray, List.getElem?_cons_succ, List.getElem?_cons_zero]; rfl) (by kernel_rfl) (by kernel_rfl) (by kernel_rfl) (by rfl) ?_ hHeld ?_; rotate_left; · (intro w hSw; (try dsimp only at hSw); go_simp; (try with_reducible rfl))
      try simp only [Act.put, List.setIfInBounds_toArray, List.set_cons_zero, List.set_cons_succ]
      refine wpAnyH_takeQ 2 (v := ?_) (fun _ _ _ _ _ h => h) (by simp only [List.getElem?_toArray, List.getElem?_cons_succ, List.getElem?_cons_zero]; rfl) (by kernel_rfl) (by kernel_rfl) (by kernel_rfl) (by rfl) ?_ hHeld ?_; rotate_left; · (intro w hSw; (try dsimp only at hSw); go_simp; (try with_reducible rfl))
      try simp only [Act.put, List.setIfInBounds_toArray, List.set_cons_zero, List.set_cons_succ]
      refine wpAnyH_takeQ 3 (v := ?_) (fun _ _ _ _ _ h => h) (by simp only [List.getElem?_toArray, List.getElem?_cons_succ, List.getElem?_cons_zero]; rfl) (by kernel_rfl) (by kernel_rfl) (by kernel_rfl) (by rfl) ?_ hHeld ?_; rotate_left; · (intro w hSw; (try dsimp only at hSw); go_simp; (try with_reducible rfl))
      try simp only [Act.put, List.setIfInBounds_toArray, List.set_cons_zero, List.set_cons_succ]
      refine wpAnyH_takeQ 4 (v := ?_) (fun _ _ _ _ _ h => h) (by simp only [List.getElem?_toArray, List.getElem?_cons_succ, List.getElem?_cons_zero]; rfl) (by kernel_rfl) (by kernel_rfl) (by kernel_rfl) (by rfl) ?_ hHeld ?_; rotate_left; · (intro w hSw; (try dsimp only at hSw); go_simp; (try with_reducible rfl))
      try simp only [Act.put, List.setIfInBounds_toArray, List.set_cons_zero, List.set_cons_succ]
      refine wpAnyH_ready (rs := [5]) (by kernel_rfl) (by simp) ?_
      refine AllReadyH.cons (by simp only [List.getElem?_toArray, List.getElem?_cons_succ, List.getElem?_cons_zero]; rfl) (fun K hK => ?_) AllReadyH.nil
      go_simp
      clear hHeld
      refine (mul_any _ _ _ _ _ (by exact Y_v.out) (by exact Y_u.out) (by omega) (by omega)).mono ?_
      rintro e w48 ⟨v_d, rfl, h_d, hb⟩
      replace Z_t := Lib.hid (Z_t.out.below hb)
      replace Y_v := Lib.hid (Y_v.out.below hb)
      replace Y_u := Lib.hid (Y_u.out.below hb)
      replace B_a := Lib.hid (B_a.out.below hb)
      replace B_b := Lib.hid (B_b.out.below hb)
      replace B_r := Lib.hid (B_r.out.below hb)
      replace B_t := Lib.hid (B_t.out.below hb)
      replace hB := below_next hB hb
      clear hb
      have N_d := Lib.hid h_d
      clear h_d
      go_wp2_with fail
      refine hK.out _ _ (by exact ⟨B_a.out.c3, B_b.out.c3, ⟨B_t.out.cell0, B_t.out.cell1⟩⟩) (fun hHeld => ?_)
      clear hK K
      refine wpAnyH_ready (rs := [6]) (by kernel_rfl) (by simp) ?_
      refine AllReadyH.cons (by simp only [List.getElem?_toArray, List.getElem?_cons_succ, List.getElem?_cons_zero]; rfl) (fun K hK => ?_) AllReadyH.nil
      go_simp
      clear hHeld
      refine (qreduce_any _ _ _ _ _ _ (by exact Z_t.out.2) (by exact N_d.out) (Nat.le_trans S_t.out (by omega)) (Nat.le_trans (limbs_length_le ((Y_v.out.sz ly_v).mul (Y_u.out.sz ly_u))) (by omega)) (by rw [val_limbs]; exact Nat.mul_ne_zero nz_v nz_u)).mono ?_
      rintro e w49 ⟨b_s, A_s, n_s, c_s, D_s, e_s, f_s, rfl, h_s, hb⟩
      replace Z_t := Lib.hid (Z_t.out.below hb)
      replace Y_v := Lib.hid (Y_v.out.below hb)
      replace Y_u := Lib.hid (Y_u.out.below hb)
      replace N_d := Lib.hid (N_d.out.below hb)
      replace B_a := Lib.hid (B_a.out.below hb)
      replace B_b := Lib.hid (B_b.out.below hb)
      replace B_r := Lib.hid (B_r.out.below hb)
      replace B_t := Lib.hid (B_t.out.below hb)
      replace hB := below_next hB hb
      clear hb
      rw [Z_t.out.1, zval_norm, val_limbs, ← Rat.mkRat_add_mkRat _ _ nz_v nz_u, ← eq_v, ← eq_u] at h_s
      have Q_s := Lib.hid h_s
      clear h_s
      go_wp2_with fail
      refine hK.out _ _ (by exact ⟨B_a.out.c3, B_b.out.c3, ⟨B_t.out.cell0, B_t.out.cell1⟩⟩) (fun hHeld => ?_)
      clear hK K
      refine wpAnyH_ready (rs := [7]) (by kernel_rfl) (by simp) ?_
      refine AllReadyH.cons (by simp only [List.getElem?_toArray, List.getElem?_cons_succ, List.getElem?_cons_zero]; rfl) (fun K hK => ?_) AllReadyH.nil
      have c_a0 := B_a.out.cell0
      have c_a1 := B_a.out.cell1
      have c_a2 := B_a.out.cell2
      have c_b0 := B_b.out.cell0
      have c_b1 := B_b.out.cell1
      have c_b2 := B_b.out.cell2
      have c_r0 := B_r.out.cell0
      have c_r1 := B_r.out.cell1
      have c_r2 := B_r.out.cell2
      have f_r0 := B_r.out.fro 0
      have f_r1 := B_r.out.fro 1
      have f_r2 := B_r.out.fro 2
      have c_t0 := B_t.out.cell0
      have c_t1 := B_t.out.cell1
      go_simp
      clear c_a0 c_a1 c_a2 c_b0 c_b1 c_b2 c_r0 c_r1 c_r2 f_r0 f_r1 f_r2 c_t0 c_t1
      clear hHeld
      obtain ⟨V50, hV, NB, KP⟩ := storeR B_r.out (.bool b_s) (.slice A_s n_s c_s) (.slice D_s e_s f_s)
      rw [hV]
      clear hV
      replace Z_t := Lib.hid (Z_t.out.keeps KP.out)
      replace Y_v := Lib.hid (Y_v.out.keeps KP.out)
      replace Y_u := Lib.hid (Y_u.out.keeps KP.out)
      replace N_d := Lib.hid (N_d.out.keeps KP.out)
      replace Q_s := Lib.hid (Q_s.out.keeps KP.out)
      replace B_a := Lib.hid (B_a.out.keeps KP.out (by omega))
      replace B_b := Lib.hid (B_b.out.keeps KP.out (by omega))
      replace B_t := Lib.hid (B_t.out.keeps KP.out (by omega))
      replace hB := below_keeps hB KP.out (by omega)
      have B_r := NB
      clear NB KP
      refine hK.out _ _ (by exact ⟨B_a.out.c3, B_b.out.c3, ⟨B_t.out.cell0, B_t.out.cell1⟩⟩) (fun hHeld => ?_)
      clear hK K
      try simp only [Act.put, List.setIfInBounds_toArray, List.set_cons_zero, List.set_cons_succ]
      refine wpAnyH_done (by kernel_rfl) (NoPanic.normal ?_) _
      clear hHeld
      go_wp2
      have c_r0 := B_r.out.cell0
      have c_r1 := B_r.out.cell1
      have c_r2 := B_r.out.cell2
      refine bodyPost_ret (v := .agg #[.bool b_s, .slice A_s n_s c_s, .slice D_s e_s f_s]) (by simp [results, Tryd.results13, go_sem, c_r0, c_r1, c_r2]) rfl ?_
      exact ⟨_, _, _, _, _, _, _, rfl, Q_s.out, hB⟩
set_option maxRecDepth 100000 in
set_option maxHeartbeats 8000000 in
theorem qmul_any (b_a : Bool) (m_a d_a : Value) (p : Rat) (k : Nat) (b_b : Bool) (m_b d_b : Value) (q : Rat) (j : Nat) (w : World) (h_a : RAt w b_a m_a d_a p k) (h_b : RAt w b_b m_b d_b q j) (hk : 1 ≤ k) (hk2 : k ≤ 50000) (hj : 1 ≤ j) (hj2 : j ≤ 50000) : Calls Tryd.prog 14 #[.agg #[.bool b_a, m_a, d_a], .agg #[.bool b_b, m_b, d_b]] w (GivesQ w (p * q)) := by
  have R_a := Lib.hid h_a
  obtain ⟨xs_a, ys_a, hx_a, hy_a, -, -, -⟩ := h_a
  obtain ⟨A_a, c_a, rfl, _, _⟩ := hx_a.form
  obtain ⟨D_a, f_a, rfl, _, _⟩ := hy_a.form
  clear hx_a hy_a
  have R_b := Lib.hid h_b
  obtain ⟨xs_b, ys_b, hx_b, hy_b, -, -, -⟩ := h_b
  obtain ⟨A_b, c_b, rfl, _, _⟩ := hx_b.form
  obtain ⟨D_b, f_b, rfl, _, _⟩ := hy_b.form
  clear hx_b hy_b
  go_enter Tryd.func14, Tryd.ntmps14
  go_upto_region 1 with fail
  obtain ⟨W0, hW, B_a, B_b, B_r, HW, HS⟩ := rbox3 w (.bool b_a) (.slice A_a xs_a.length c_a) (.slice D_a ys_a.length f_a) (.bool b_b) (.slice A_b xs_b.length c_b) (.slice D_b ys_b.length f_b) (.bool false) (.slice none 0 0) (.slice none 0 0)
  rw [hW]
  clear hW
  replace R_a := Lib.hid (R_a.out.below HW.out)
  replace R_b := Lib.hid (R_b.out.below HW.out)
  have hB := HW.out
  have hsz := HS.out
  clear HW HS
  go_cut [] (fun wx => VMid w p q k j wx ∧ RBox wx (w.heap.size + 1 + 1) (.bool false) (.slice none 0 0) (.slice none 0 0))
  case first =>
    refine wp_region_named (S := (fun w' => True)) (by kernel_rfl) (by exact trivial) (fun V1 hb hHeld => ?_)
    replace R_a := Lib.hid (R_a.out.below hb)
    replace R_b := Lib.hid (R_b.out.below hb)
    replace B_a := Lib.hid (B_a.out.below hb)
    replace B_b := Lib.hid (B_b.out.below hb)
    replace B_r := Lib.hid (B_r.out.below hb)
    replace hB := below_next hB hb
    clear hb
    refine wpAnyH_ready (rs := [0, 2]) (by kernel_rfl) (by simp) ?_
    refine AllReadyH.cons (by simp only [List.getElem?_toArray, List.getElem?_cons_zero]; rfl) (fun K hK => ?_) ?_
    have c_a0 := B_a.out.cell0
    have c_a1 := B_a.out.cell1
    have c_a2 := B_a.out.cell2
    have c_b0 := B_b.out.cell0
    have c_b1 := B_b.out.cell1
    have c_b2 := B_b.out.cell2
    have c_r0 := B_r.out.cell0
    have c_r1 := B_r.out.cell1
    have c_r2 := B_r.out.cell2
    go_simp
    clear c_a0 c_a1 c_a2 c_b0 c_b1 c_b2 c_r0 c_r1 c_r2
    clear hHeld
    refine hK.out _ _ (by exact trivial) (fun hHeld => ?_)
    clear hK K
    try simp only [Act.put, List.setIfInBounds_toArray, List.set_cons_zero, List.set_cons_succ]
    refine wpAnyH_ready (rs := [1, 2]) (by kernel_rfl) (by simp) ?_
    refine AllReadyH.cons (by simp only [List.getElem?_toArray, List.getElem?_cons_succ, List.getElem?_cons_zero]; rfl) (fun K hK => ?_) ?_
    go_simp
    clear hHeld
    refine (qvalue_any _ _ _ p k _ (by exact R_a.out) hk).mono ?_
    rintro e w2 ⟨b_v, A_v, n_v, c_v, D_v, e_v, f_v, xs_v, ys_v, rfl, hx_v, hy_v, lx_v, ly_v, nz_v, eq_v, hb⟩
    replace R_a := Lib.hid (R_a.out.below hb)
    replace R_b := Lib.hid (R_b.out.below hb)
    replace B_a := Lib.hid (B_a.out.below hb)
    replace B_b := Lib.hid (B_b.out.below hb)
    replace B_r := Lib.hid (B_r.out.below hb)
    replace hB := below_next hB hb
    clear hb
    have X_v := Lib.hid hx_v
    clear hx_v
    have Y_v := Lib.hid hy_v
    clear hy_v
    go_wp2_with fail
    refine hK.out _ _ (by exact trivial) (fun hHeld => ?_)
    clear hK K
    refine wpAnyH_ready (rs := [2]) (by kernel_rfl) (by simp) ?_
    refine AllReadyH.cons (by simp only [List.getElem?_toArray, List.getElem?_cons_succ, List.getElem?_cons_zero]; rfl) (fun K hK => ?_) AllReadyH.nil
    have c_a0 := B_a.out.cell0
    have c_a1 := B_a.out.cell1
    have c_a2 := B_a.out.cell2
    have c_b0 := B_b.out.cell0
    have c_b1 := B_b.out.cell1
    have c_b2 := B_b.out.cell2
    have c_r0 := B_r.out.cell0
    have c_r1 := B_r.out.cell1
    have c_r2 := B_r.out.cell2
    go_simp
    clear c_a0 c_a1 c_a2 c_b0 c_b1 c_b2 c_r0 c_r1 c_r2
    clear hHeld
    refine hK.out _ _ (by exact trivial) (fun hHeld => ?_)
    clear hK K
    try simp only [Act.put, List.setIfInBounds_toArray, List.set_cons_zero, List.set_cons_succ]
    refine wpAnyH_ready (rs := [3]) (by kernel_rfl) (by simp) ?_
    refine AllReadyH.cons (by simp only [List.getElem?_toArray, List.getElem?_cons_succ, List.getElem?_cons_zero]; rfl) (fun K hK => ?_) AllReadyH.nil
    go_simp
    clear hHeld
    refine (qvalue_any _ _ _ q j _ (by exact R_b.out) hj).mono ?_
    rintro e w3 ⟨b_u, A_u, n_u, c_u, D_u, e_u, f_u, xs_u, ys_u, rfl, hx_u, hy_u, lx_u, ly_u, nz_u, eq_u, hb⟩
    replace R_a := Lib.hid (R_a.out.below hb)
    replace R_b := Lib.hid (R_b.out.below hb)
    replace X_v := Lib.hid (X_v.out.below hb)
    replace Y_v := Lib.hid (Y_v.out.below hb)
    replace B_a := Lib.hid (B_a.out.below hb)
    replace B_b := Lib.hid (B_b.out.below hb)
    replace B_r := Lib.hid (B_r.out.below hb)
    replace hB := below_next hB hb
    clear hb
    have X_u := Lib.hid hx_u
    clear hx_u
    have Y_u := Lib.hid hy_u
    clear hy_u
    go_wp2_with fail
    refine hK.out _ _ (by exact trivial) (fun hHeld => ?_)
    clear hK K
    refine wpAnyH_ready (rs := [4]) (by kernel_rfl) (by simp) ?_
    refine AllReadyH.cons (by simp only [List.getElem?_toArray, List.getElem?_cons_succ, List.getElem?_cons_zero]; rfl) (fun K hK => ?_) AllReadyH.nil
    have c_a0 := B_a.out.cell0
    have c_a1 := B_a.out.cell1
    have c_a2 := B_a.out.cell2
    have f_a0 := B_a.out.fro 0
    have f_a1 := B_a.out.fro 1
    have f_a2 := B_a.out.fro 2
    have c_b0 := B_b.out.cell0
    have c_b1 := B_b.out.cell1
    have c_b2 := B_b.out.cell2
    have c_r0 := B_r.out.cell0
    have c_r1 := B_r.out.cell1
    have c_r2 := B_r.out.cell2
    go_simp
    clear c_a0 c_a1 c_a2 f_a0 f_a1 f_a2 c_b0 c_b1 c_b2 c_r0 c_r1 c_r2
    clear hHeld
    obtain ⟨V4, hV, NB, KP⟩ := storeR B_a.out (.bool b_v) (.slice A_v n_v c_v) (.slice D_v e_v f_v)
    rw [hV]
    clear hV
    replace R_a := Lib.hid (R_a.out.keeps KP.out)
    replace R_b := Lib.hid (R_b.out.keeps KP.out)
    replace X_v := Lib.hid (X_v.out.keeps KP.out)
    replace Y_v := Lib.hid (Y_v.out.keeps KP.out)
    replace X_u := Lib.hid (X_u.out.keeps KP.out)
    replace Y_u := Lib.hid (Y_u.out.keeps KP.out)
    replace B_b := Lib.hid (B_b.out.keeps KP.out (by omega))
    replace B_r := Lib.hid (B_r.out.keeps KP.out (by omega))
    replace hB := below_keeps hB KP.out (by omega)
    have B_a := NB
    clear NB KP
    refine hK.out _ _ (by exact trivial) (fun hHeld => ?_)
    clear hK K
    try simp only [Act.put, List.setIfInBounds_toArray, List.set_cons_zero, List.set_cons_succ]
    refine wpAnyH_ready (rs := [5]) (by kernel_rfl) (by simp) ?_
    refine AllReadyH.cons (by simp only [List.getElem?_toArray, List.getElem?_cons_succ, List.getElem?_cons_zero]; rfl) (fun K hK => ?_) AllReadyH.nil
    have c_a0 := B_a.out.cell0
    have c_a1 := B_a.out.cell1
    have c_a2 := B_a.out.cell2
    have c_b0 := B_b.out.cell0
    have c_b1 := B_b.out.cell1
    have c_b2 := B_b.out.cell2
    have f_b0 := B_b.out.fro 0
    have f_b1 := B_b.out.fro 1
    have f_b2 := B_b.out.fro 2
    have c_r0 := B_r.out.cell0
    have c_r1 := B_r.out.cell1
    have c_r2 := B_r.out.cell2
    go_simp
    clear c_a0 c_a1 c_a2 c_b0 c_b1 c_b2 f_b0 f_b1 f_b2 c_r0 c_r1 c_r2
    clear hHeld
    obtain ⟨V5, hV, NB, KP⟩ := storeR B_b.out (.bool b_u) (.slice A_u n_u c_u) (.slice D_u e_u f_u)
    rw [hV]
    clear hV
    replace R_a := Lib.hid (R_a.out.keeps KP.out)
    replace R_b := Lib.hid (R_b.out.keeps KP.out)
    replace X_v := Lib.hid (X_v.out.keeps KP.out)
    replace Y_v := Lib.hid (Y_v.out.keeps KP.out)
    replace X_u := Lib.hid (X_u.out.keeps KP.out)
    replace Y_u := Lib.hid (Y_u.out.keeps KP.out)
    replace B_a := Lib.hid (B_a.out.keeps KP.out (by omega))
    replace B_r := Lib.hid (B_r.out.keeps KP.out (by omega))
    replace hB := below_keeps hB KP.out (by omega)
    have B_b := NB
    clear NB KP
    refine hK.out _ _ (by exact trivial) (fun hHeld => ?_)
    clear hK K
    try simp only [Act.put, List.setIfInBounds_toArray, List.set_cons_zero, List.set_cons_succ]
    refine wpAnyH_done (by kernel_rfl) (NoPanic.normal ?_) _
    clear hHeld
    go_wp2_with fail
    go_meet
    exact ⟨⟨b_v, A_v, n_v, c_v, D_v, e_v, f_v, xs_v, ys_v, b_u, A_u, n_u, c_u, D_u, e_u, f_u, xs_u, ys_u, B_a.out, B_b.out, X_v.out, Y_v.out, X_u.out, Y_u.out, lx_v, ly_v, lx_u, ly_u, nz_v, nz_u, eq_v, eq_u, hB⟩, B_r.out⟩
    refine AllReadyH.cons (by simp only [List.getElem?_toArray, List.getElem?_cons_succ, List.getElem?_cons_zero]; rfl) (fun K hK => ?_) ?_
    have c_a0 := B_a.out.cell0
    have c_a1 := B_a.out.cell1
    have c_a2 := B_a.out.cell2
    have c_b0 := B_b.out.cell0
    have c_b1 := B_b.out.cell1
    have c_b2 := B_b.out.cell2
    have c_r0 := B_r.out.cell0
    have c_r1 := B_r.out.cell1
    have c_r2 := B_r.out.cell2
    go_simp
    clear c_a0 c_a1 c_a2 c_b0 c_b1 c_b2 c_r0 c_r1 c_r2
    clear hHeld
    refine hK.out _ _ (by exact trivial) (fun hHeld => ?_)
    clear hK K
    try simp only [Act.put, List.setIfInBounds_toArray, List.set_cons_zero, List.set_cons_succ]
    refine wpAnyH_ready (rs := [1]) (by kernel_rfl) (by simp) ?_
    refine AllReadyH.cons (by simp only [List.getElem?_toArray, List.getElem?_cons_succ, List.getElem?_cons_zero]; rfl) (fun K hK => ?_) AllReadyH.nil
    go_simp
    clear hHeld
    refine (qvalue_any _ _ _ p k _ (by exact R_a.out) hk).mono ?_
    rintro e w6 ⟨b_v, A_v, n_v, c_v, D_v, e_v, f_v, xs_v, ys_v, rfl, hx_v, hy_v, lx_v, ly_v, nz_v, eq_v, hb⟩
    replace R_a := Lib.hid (R_a.out.below hb)
    replace R_b := Lib.hid (R_b.out.below hb)
    replace B_a := Lib.hid (B_a.out.below hb)
    replace B_b := Lib.hid (B_b.out.below hb)
    replace B_r := Lib.hid (B_r.out.below hb)
    replace hB := below_next hB hb
    clear hb
    have X_v := Lib.hid hx_v
    clear hx_v
    have Y_v := Lib.hid hy_v
    clear hy_v
    go_wp2_with fail
    refine hK.out _ _ (by exact trivial) (fun hHeld => ?_)
    clear hK K
    refine wpAnyH_ready (rs := [3]) (by kernel_rfl) (by simp) ?_
    refine AllReadyH.cons (by simp only [List.getElem?_toArray, List.getElem?_cons_succ, List.getElem?_cons_zero]; rfl) (fun K hK => ?_) AllReadyH.nil
    go_simp
    clear hHeld
    refine (qvalue_any _ _ _ q j _ (by exact R_b.out) hj).mono ?_
    rintro e w7 ⟨b_u, A_u, n_u, c_u, D_u, e_u, f_u, xs_u, ys_u, rfl, hx_u, hy_u, lx_u, ly_u, nz_u, eq_u, hb⟩
    replace R_a := Lib.hid (R_a.out.below hb)
    replace R_b := Lib.hid (R_b.out.below hb)
    replace X_v := Lib.hid (X_v.out.below hb)
    replace Y_v := Lib.hid (Y_v.out.below hb)
    replace B_a := Lib.hid (B_a.out.below hb)
    replace B_b := Lib.hid (B_b.out.below hb)
    replace B_r := Lib.hid (B_r.out.below hb)
    replace hB := below_next hB hb
    clear hb
    have X_u := Lib.hid hx_u
    clear hx_u
    have Y_u := Lib.hid hy_u
    clear hy_u
    go_wp2_with fail
    refine hK.out _ _ (by exact trivial) (fun hHeld => ?_)
    clear hK K
    refine wpAnyH_ready (rs := [4]) (by kernel_rfl) (by simp) ?_
    refine AllReadyH.cons (by simp only [List.getElem?_toArray, List.getElem?_cons_succ, List.getElem?_cons_zero]; rfl) (fun K hK => ?_) AllReadyH.nil
    have c_a0 := B_a.out.cell0
    have c_a1 := B_a.out.cell1
    have c_a2 := B_a.out.cell2
    have f_a0 := B_a.out.fro 0
    have f_a1 := B_a.out.fro 1
    have f_a2 := B_a.out.fro 2
    have c_b0 := B_b.out.cell0
    have c_b1 := B_b.out.cell1
    have c_b2 := B_b.out.cell2
    have c_r0 := B_r.out.cell0
    have c_r1 := B_r.out.cell1
    have c_r2 := B_r.out.cell2
    go_simp
    clear c_a0 c_a1 c_a2 f_a0 f_a1 f_a2 c_b0 c_b1 c_b2 c_r0 c_r1 c_r2
    clear hHeld
    obtain ⟨V8, hV, NB, KP⟩ := storeR B_a.out (.bool b_v) (.slice A_v n_v c_v) (.slice D_v e_v f_v)
    rw [hV]
    clear hV
    replace R_a := Lib.hid (R_a.out.keeps KP.out)
    replace R_b := Lib.hid (R_b.out.keeps KP.out)
    replace X_v := Lib.hid (X_v.out.keeps KP.out)
    replace Y_v := Lib.hid (Y_v.out.keeps KP.out)
    replace X_u := Lib.hid (X_u.out.keeps KP.out)
    replace Y_u := Lib.hid (Y_u.out.keeps KP.out)
    replace B_b := Lib.hid (B_b.out.keeps KP.out (by omega))
    replace B_r := Lib.hid (B_r.out.keeps KP.out (by omega))
    replace hB := below_keeps hB KP.out (by omega)
    have B_a := NB
    clear NB KP
    refine hK.out _ _ (by exact trivial) (fun hHeld => ?_)
    clear hK K
    try simp only [Act.put, List.setIfInBounds_toArray, List.set_cons_zero, List.set_cons_succ]
    refine wpAnyH_ready (rs := [5]) (by kernel_rfl) (by simp) ?_
    refine AllReadyH.cons (by simp only [List.getElem?_toArray, List.getElem?_cons_succ, List.getElem?_cons_zero]; rfl) (fun K hK => ?_) AllReadyH.nil
    have c_a0 := B_a.out.cell0
    have c_a1 := B_a.out.cell1
    have c_a2 := B_a.out.cell2
    have c_b0 := B_b.out.cell0
    have c_b1 := B_b.out.cell1
    have c_b2 := B_b.out.cell2
    have f_b0 := B_b.out.fro 0
    have f_b1 := B_b.out.fro 1
    have f_b2 := B_b.out.fro 2
    have c_r0 := B_r.out.cell0
    have c_r1 := B_r.out.cell1
    have c_r2 := B_r.out.cell2
    go_simp
    clear c_a0 c_a1 c_a2 c_b0 c_b1 c_b2 f_b0 f_b1 f_b2 c_r0 c_r1 c_r2
    clear hHeld
    obtain ⟨V9, hV, NB, KP⟩ := storeR B_b.out (.bool b_u) (.slice A_u n_u c_u) (.slice D_u e_u f_u)
    rw [hV]
    clear hV
    replace R_a := Lib.hid (R_a.out.keeps KP.out)
    replace R_b := Lib.hid (R_b.out.keeps KP.out)
    replace X_v := Lib.hid (X_v.out.keeps KP.out)
    replace Y_v := Lib.hid (Y_v.out.keeps KP.out)
    replace X_u := Lib.hid (X_u.out.keeps KP.out)
    replace Y_u := Lib.hid (Y_u.out.keeps KP.out)
    replace B_a := Lib.hid (B_a.out.keeps KP.out (by omega))
    replace B_r := Lib.hid (B_r.out.keeps KP.out (by omega))
    replace hB := below_keeps hB KP.out (by omega)
    have B_b := NB
    clear NB KP
    refine hK.out _ _ (by exact trivial) (fun hHeld => ?_)
    clear hK K
    try simp only [Act.put, List.setIfInBounds_toArray, List.set_cons_zero, List.set_cons_succ]
    refine wpAnyH_done (by kernel_rfl) (NoPanic.normal ?_) _
    clear hHeld
    go_wp2_with fail
    go_meet
    exact ⟨⟨b_v, A_v, n_v, c_v, D_v, e_v, f_v, xs_v, ys_v, b_u, A_u, n_u, c_u, D_u, e_u, f_u, xs_u, ys_u, B_a.out, B_b.out, X_v.out, Y_v.out, X_u.out, Y_u.out, lx_v, ly_v, lx_u, ly_u, nz_v, nz_u, eq_v, eq_u, hB⟩, B_r.out⟩
    exact AllReadyH.nil
    refine AllReadyH.cons (by simp only [List.getElem?_toArray, List.getElem?_cons_succ, List.getElem?_cons_zero]; rfl) (fun K hK => ?_) ?_
    have c_a0 := B_a.out.cell0
    have c_a1 := B_a.out.cell1
    have c_a2 := B_a.out.cell2
    have c_b0 := B_b.out.cell0
    have c_b1 := B_b.out.cell1
    have c_b2 := B_b.out.cell2
    have c_r0 := B_r.out.cell0
    have c_r1 := B_r.out.cell1
    have c_r2 := B_r.out.cell2
    go_simp
    clear c_a0 c_a1 c_a2 c_b0 c_b1 c_b2 c_r0 c_r1 c_r2
    clear hHeld
    refine hK.out _ _ (by exact trivial) (fun hHeld => ?_)
    clear hK K
    try simp only [Act.put, List.setIfInBounds_toArray, List.set_cons_zero, List.set_cons_succ]
    refine wpAnyH_ready (rs := [0]) (by kernel_rfl) (by simp) ?_
    refine AllReadyH.cons (by simp only [List.getElem?_toArray, List.getElem?_cons_zero]; rfl) (fun K hK => ?_) AllReadyH.nil
    have c_a0 := B_a.out.cell0
    have c_a1 := B_a.out.cell1
    have c_a2 := B_a.out.cell2
    have c_b0 := B_b.out.cell0
    have c_b1 := B_b.out.cell1
    have c_b2 := B_b.out.cell2
    have c_r0 := B_r.out.cell0
    have c_r1 := B_r.out.cell1
    have c_r2 := B_r.out.cell2
    go_simp
    clear c_a0 c_a1 c_a2 c_b0 c_b1 c_b2 c_r0 c_r1 c_r2
    clear hHeld
    refine hK.out _ _ (by exact trivial) (fun hHeld => ?_)
    clear hK K
    try simp only [Act.put, List.setIfInBounds_toArray, List.set_cons_zero, List.set_cons_succ]
    refine wpAnyH_ready (rs := [1]) (by kernel_rfl) (by simp) ?_
    refine AllReadyH.cons (by simp only [List.getElem?_toArray, List.getElem?_cons_succ, List.getElem?_cons_zero]; rfl) (fun K hK => ?_) AllReadyH.nil
    go_simp
    clear hHeld
    refine (qvalue_any _ _ _ p k _ (by exact R_a.out) hk).mono ?_
    rintro e w10 ⟨b_v, A_v, n_v, c_v, D_v, e_v, f_v, xs_v, ys_v, rfl, hx_v, hy_v, lx_v, ly_v, nz_v, eq_v, hb⟩
    replace R_a := Lib.hid (R_a.out.below hb)
    replace R_b := Lib.hid (R_b.out.below hb)
    replace B_a := Lib.hid (B_a.out.below hb)
    replace B_b := Lib.hid (B_b.out.below hb)
    replace B_r := Lib.hid (B_r.out.below hb)
    replace hB := below_next hB hb
    clear hb
    have X_v := Lib.hid hx_v
    clear hx_v
    have Y_v := Lib.hid hy_v
    clear hy_v
    go_wp2_with fail
    refine hK.out _ _ (by exact trivial) (fun hHeld => ?_)
    clear hK K
    refine wpAnyH_ready (rs := [3]) (by kernel_rfl) (by simp) ?_
    refine AllReadyH.cons (by simp only [List.getElem?_toArray, List.getElem?_cons_succ, List.getElem?_cons_zero]; rfl) (fun K hK => ?_) AllReadyH.nil
    go_simp
    clear hHeld
    refine (qvalue_any _ _ _ q j _ (by exact R_b.out) hj).mono ?_
    rintro e w11 ⟨b_u, A_u, n_u, c_u, D_u, e_u, f_u, xs_u, ys_u, rfl, hx_u, hy_u, lx_u, ly_u, nz_u, eq_u, hb⟩
    replace R_a := Lib.hid (R_a.out.below hb)
    replace R_b := Lib.hid (R_b.out.below hb)
    replace X_v := Lib.hid (X_v.out.below hb)
    replace Y_v := Lib.hid (Y_v.out.below hb)
    replace B_a := Lib.hid (B_a.out.below hb)
    replace B_b := Lib.hid (B_b.out.below hb)
    replace B_r := Lib.hid (B_r.out.below hb)
    replace hB := below_next hB hb
    clear hb
    have X_u := Lib.hid hx_u
    clear hx_u
    have Y_u := Lib.hid hy_u
    clear hy_u
    go_wp2_with fail
    refine hK.out _ _ (by exact trivial) (fun hHeld => ?_)
    clear hK K
    refine wpAnyH_ready (rs := [4]) (by kernel_rfl) (by simp) ?_
    refine AllReadyH.cons (by simp only [List.getElem?_toArray, List.getElem?_cons_succ, List.getElem?_cons_zero]; rfl) (fun K hK => ?_) AllReadyH.nil
    have c_a0 := B_a.out.cell0
    have c_a1 := B_a.out.cell1
    have c_a2 := B_a.out.cell2
    have f_a0 := B_a.out.fro 0
    have f_a1 := B_a.out.fro 1
    have f_a2 := B_a.out.fro 2
    have c_b0 := B_b.out.cell0
    have c_b1 := B_b.out.cell1
    have c_b2 := B_b.out.cell2
    have c_r0 := B_r.out.cell0
    have c_r1 := B_r.out.cell1
    have c_r2 := B_r.out.cell2
    go_simp
    clear c_a0 c_a1 c_a2 f_a0 f_a1 f_a2 c_b0 c_b1 c_b2 c_r0 c_r1 c_r2
    clear hHeld
    obtain ⟨V12, hV, NB, KP⟩ := storeR B_a.out (.bool b_v) (.slice A_v n_v c_v) (.slice D_v e_v f_v)
    rw [hV]
    clear hV
    replace R_a := Lib.hid (R_a.out.keeps KP.out)
    replace R_b := Lib.hid (R_b.out.keeps KP.out)
    replace X_v := Lib.hid (X_v.out.keeps KP.out)
    replace Y_v := Lib.hid (Y_v.out.keeps KP.out)
    replace X_u := Lib.hid (X_u.out.keeps KP.out)
    replace Y_u := Lib.hid (Y_u.out.keeps KP.out)
    replace B_b := Lib.hid (B_b.out.keeps KP.out (by omega))
    replace B_r := Lib.hid (B_r.out.keeps KP.out (by omega))
    replace hB := below_keeps hB KP.out (by omega)
    have B_a := NB
    clear NB KP
    refine hK.out _ _ (by exact trivial) (fun hHeld => ?_)
    clear hK K
    try simp only [Act.put, List.setIfInBounds_toArray, List.set_cons_zero, List.set_cons_succ]
    refine wpAnyH_ready (rs := [5]) (by kernel_rfl) (by simp) ?_
    refine AllReadyH.cons (by simp only [List.getElem?_toArray, List.getElem?_cons_succ, List.getElem?_cons_zero]; rfl) (fun K hK => ?_) AllReadyH.nil
    have c_a0 := B_a.out.cell0
    have c_a1 := B_a.out.cell1
    have c_a2 := B_a.out.cell2
    have c_b0 := B_b.out.cell0
    have c_b1 := B_b.out.cell1
    have c_b2 := B_b.out.cell2
    have f_b0 := B_b.out.fro 0
    have f_b1 := B_b.out.fro 1
    have f_b2 := B_b.out.fro 2
    have c_r0 := B_r.out.cell0
    have c_r1 := B_r.out.cell1
    have c_r2 := B_r.out.cell2
    go_simp
    clear c_a0 c_a1 c_a2 c_b0 c_b1 c_b2 f_b0 f_b1 f_b2 c_r0 c_r1 c_r2
    clear hHeld
    obtain ⟨V13, hV, NB, KP⟩ := storeR B_b.out (.bool b_u) (.slice A_u n_u c_u) (.slice D_u e_u f_u)
    rw [hV]
    clear hV
    replace R_a := Lib.hid (R_a.out.keeps KP.out)
    replace R_b := Lib.hid (R_b.out.keeps KP.out)
    replace X_v := Lib.hid (X_v.out.keeps KP.out)
    replace Y_v := Lib.hid (Y_v.out.keeps KP.out)
    replace X_u := Lib.hid (X_u.out.keeps KP.out)
    replace Y_u := Lib.hid (Y_u.out.keeps KP.out)
    replace B_a := Lib.hid (B_a.out.keeps KP.out (by omega))
    replace B_r := Lib.hid (B_r.out.keeps KP.out (by omega))
    replace hB := below_keeps hB KP.out (by omega)
    have B_b := NB
    clear NB KP
    refine hK.out _ _ (by exact trivial) (fun hHeld => ?_)
    clear hK K
    try simp only [Act.put, List.setIfInBounds_toArray, List.set_cons_zero, List.set_cons_succ]
    refine wpAnyH_done (by kernel_rfl) (NoPanic.normal ?_) _
    clear hHeld
    go_wp2_with fail
    go_meet
    exact ⟨⟨b_v, A_v, n_v, c_v, D_v, e_v, f_v, xs_v, ys_v, b_u, A_u, n_u, c_u, D_u, e_u, f_u, xs_u, ys_u, B_a.out, B_b.out, X_v.out, Y_v.out, X_u.out, Y_u.out, lx_v, ly_v, lx_u, ly_u, nz_v, nz_u, eq_v, eq_u, hB⟩, B_r.out⟩
    exact AllReadyH.nil
  case rest =>
    obtain ⟨hcut, B0⟩ := hcut
    obtain ⟨b_v, A_v, n_v, c_v, D_v, e_v, f_v, xs_v, ys_v, b_u, A_u, n_u, c_u, D_u, e_u, f_u, xs_u, ys_u, B1, B2, x1, y1, x2, y2, lx_v, ly_v, lx_u, ly_u, nz_v, nz_u, eq_v, eq_u, hB9⟩ := hcut
    clear R_a R_b B_a B_b hB B_r
    have hB := hB9
    have B_a := Lib.hid B1
    have B_b := Lib.hid B2
    have X_v := Lib.hid x1
    have Y_v := Lib.hid y1
    have X_u := Lib.hid x2
    have Y_u := Lib.hid y2
    clear hB9 B1 B2 x1 y1 x2 y2
    have B_r := Lib.hid B0
    clear B0
    have c_a0 := B_a.out.cell0
    have c_a1 := B_a.out.cell1
    have c_a2 := B_a.out.cell2
    have c_b0 := B_b.out.cell0
    have c_b1 := B_b.out.cell1
    have c_b2 := B_b.out.cell2
    have c_r0 := B_r.out.cell0
    have c_r1 := B_r.out.cell1
    have c_r2 := B_r.out.cell2
    go_wp2_with fail
    clear c_a0 c_a1 c_a2 c_b0 c_b1 c_b2 c_r0 c_r1 c_r2
    have S_m : Hid (Sz (zval b_v xs_v * zval b_u xs_u).natAbs (k + j)) := by show Sz _ _; rw [Int.natAbs_mul, zval_abs, zval_abs]; exact (X_v.out.sz lx_v).mul (X_u.out.sz lx_u)
    refine wp_region_named (S := (fun w' => (w'.cell? ⟨w.heap.size, 0, none⟩ = some (.bool b_v) ∧ w'.cell? ⟨w.heap.size, 1, none⟩ = some (.slice A_v n_v c_v) ∧ w'.cell? ⟨w.heap.size, 2, none⟩ = some (.slice D_v e_v f_v)) ∧ (w'.cell? ⟨w.heap.size + 1, 0, none⟩ = some (.bool b_u) ∧ w'.cell? ⟨w.heap.size + 1, 1, none⟩ = some (.slice A_u n_u c_u) ∧ w'.cell? ⟨w.heap.size + 1, 2, none⟩ = some (.slice D_u e_u f_u)))) (by kernel_rfl) (by exact ⟨B_a.out.c3, B_b.out.c3⟩) (fun V14 hb hHeld => ?_)
    replace X_v := Lib.hid (X_v.out.below hb)
    replace Y_v := Lib.hid (Y_v.out.below hb)
    replace X_u := Lib.hid (X_u.out.below hb)
    replace Y_u := Lib.hid (Y_u.out.below hb)
    replace B_a := Lib.hid (B_a.out.below hb)
    replace B_b := Lib.hid (B_b.out.below hb)
    replace B_r := Lib.hid (B_r.out.below hb)
    replace hB := below_next hB hb
    clear hb
    refine wpAnyH_takeQ 0 (v := ?_) (fun _ _ _ _ _ h => h) (by simp only [List.getElem?_toArray, List.getElem?_cons_zero]; rfl) (by kernel_rfl) (by kernel_rfl) (by kernel_rfl) (by rfl) ?_ hHeld ?_; rotate_left; · (intro w hSw; (try dsimp only at hSw); go_simp; (try with_reducible rfl))
    try simp only [Act.put, List.setIfInBounds_toArray, List.set_cons_zero, List.set_cons_succ]
    refine wpAnyH_takeQ 1 (v := ?_) (fun _ _ _ _ _ h => h) (by simp only [List.getElem?_toArray, List.getElem?_cons_succ, List.getElem?_cons_zero]; rfl) (by kernel_rfl) (by kernel_rfl) (by kernel_rfl) (by rfl) ?_ hHeld ?_; rotate_left; · (intro w hSw; (try dsimp only at hSw); go_simp; (try with_reducible rfl))
    try simp only [Act.put, List.setIfInBounds_toArray, List.set_cons_zero, List.set_cons_succ]
    refine wpAnyH_takeQ 2 (v := ?_) (fun _ _ _ _ _ h => h) (by simp only [List.getElem?_toArray, List.getElem?_cons_succ, List.getElem?_cons_zero]; rfl) (by kernel_rfl) (by kernel_rfl) (by kernel_rfl) (by rfl) ?_ hHeld ?_; rotate_left; · (intro w hSw; (try dsimp only at hSw); go_simp; (try with_reducible rfl))
    try simp only [Act.put, List.setIfInBounds_toArray, List.set_cons_zero, List.set_cons_succ]
    refine wpAnyH_takeQ 3 (v := ?_) (fun _ _ _ _ _ h => h) (by simp only [List.getElem?_toArray, List.getElem?_cons_succ, List.getElem?_cons_zero]; rfl) (by kernel_rfl) (by kernel_rfl) (by kernel_rfl) (by rfl) ?_ hHeld ?_; rotate_left; · (intro w hSw; (try dsimp only at hSw); go_simp; (try with_reducible rfl))
    try simp only [Act.put, List.setIfInBounds_toArray, List.set_cons_zero, List.set_cons_succ]
    refine wpAnyH_takeQ 5 (v := ?_) (fun _ _ _ _ _ h => h) (by simp only [List.getElem?_toArray, List.getElem?_cons_succ, List.getElem?_cons_zero]; rfl) (by kernel_rfl) (by kernel_rfl) (by kernel_rfl) (by rfl) ?_ hHeld ?_; rotate_left; · (intro w hSw; (try dsimp only at hSw); go_simp; (try with_reducible rfl))
    try simp only [Act.put, List.setIfInBounds_toArray, List.set_cons_zero, List.set_cons_succ]
    refine wpAnyH_takeQ 6 (v := ?_) (fun _ _ _ _ _ h => h) (by simp only [List.getElem?_toArray, List.getElem?_cons_succ, List.getElem?_cons_zero]; rfl) (by kernel_rfl) (by kernel_rfl) (by kernel_rfl) (by rfl) ?_ hHeld ?_; rotate_left; · (intro w hSw; (try dsimp only at hSw); go_simp; (try with_reducible rfl))
    try simp only [Act.put, List.setIfInBounds_toArray, List.set_cons_zero, List.set_cons_succ]
    refine wpAnyH_takeQ 7 (v := ?_) (fun _ _ _ _ _ h => h) (by simp only [List.getElem?_toArray, List.getElem?_cons_succ, List.getElem?_cons_zero]; rfl) (by kernel_rfl) (by kernel_rfl) (by kernel_rfl) (by rfl) ?_ hHeld ?_; rotate_left; · (intro w hSw; (try dsimp only at hSw); go_simp; (try with_reducible rfl))
    try simp only [Act.put, List.setIfInBounds_toArray, List.set_cons_zero, List.set_cons_succ]
    refine wpAnyH_takeQ 8 (v := ?_) (fun _ _ _ _ _ h => h) (by simp only [List.getElem?_toArray, List.getElem?_cons_succ, List.getElem?_cons_zero]; rfl) (by kernel_rfl) (by kernel_rfl) (by kernel_rfl) (by rfl) ?_ hHeld ?_; rotate_left; · (intro w hSw; (try dsimp only at hSw); go_simp; (try with_reducible rfl))
    try simp only [Act.put, List.setIfInBounds_toArray, List.set_cons_zero, List.set_cons_succ]
    refine wpAnyH_ready (rs := [4]) (by kernel_rfl) (by simp) ?_
    refine AllReadyH.cons (by simp only [List.getElem?_toArray, List.getElem?_cons_succ, List.getElem?_cons_zero]; rfl) (fun K hK => ?_) AllReadyH.nil
    go_simp
    clear hHeld
    refine (imul_any _ _ _ _ (zval b_v xs_v) (zval b_u xs_u) k j _ (by exact ⟨_, X_v.out, lx_v, rfl⟩) (by exact ⟨_, X_u.out, lx_u, rfl⟩) (by omega) (by omega)).mono ?_
    rintro e w15 ⟨b_m, A_m, n_m, c_m, rfl, h_m, hb⟩
    replace X_v := Lib.hid (X_v.out.below hb)
    replace Y_v := Lib.hid (Y_v.out.below hb)
    replace X_u := Lib.hid (X_u.out.below hb)
    replace Y_u := Lib.hid (Y_u.out.below hb)
    replace B_a := Lib.hid (B_a.out.below hb)
    replace B_b := Lib.hid (B_b.out.below hb)
    replace B_r := Lib.hid (B_r.out.below hb)
    replace hB := below_next hB hb
    clear hb
    have Z_m := Lib.hid h_m
    clear h_m
    go_wp2_with fail
    refine hK.out _ _ (by exact ⟨B_a.out.c3, B_b.out.c3⟩) (fun hHeld => ?_)
    clear hK K
    refine wpAnyH_ready (rs := [9]) (by kernel_rfl) (by simp) ?_
    refine AllReadyH.cons (by simp only [List.getElem?_toArray, List.getElem?_cons_succ, List.getElem?_cons_zero]; rfl) (fun K hK => ?_) AllReadyH.nil
    go_simp
    clear hHeld
    refine (mul_any _ _ _ _ _ (by exact Y_v.out) (by exact Y_u.out) (by omega) (by omega)).mono ?_
    rintro e w16 ⟨v_d, rfl, h_d, hb⟩
    replace X_v := Lib.hid (X_v.out.below hb)
    replace Y_v := Lib.hid (Y_v.out.below hb)
    replace X_u := Lib.hid (X_u.out.below hb)
    replace Y_u := Lib.hid (Y_u.out.below hb)
    replace Z_m := Lib.hid (Z_m.out.below hb)
    replace B_a := Lib.hid (B_a.out.below hb)
    replace B_b := Lib.hid (B_b.out.below hb)
    replace B_r := Lib.hid (B_r.out.below hb)
    replace hB := below_next hB hb
    clear hb
    have N_d := Lib.hid h_d
    clear h_d
    go_wp2_with fail
    refine hK.out _ _ (by exact ⟨B_a.out.c3, B_b.out.c3⟩) (fun hHeld => ?_)
    clear hK K
    refine wpAnyH_ready (rs := [10]) (by kernel_rfl) (by simp) ?_
    refine AllReadyH.cons (by simp only [List.getElem?_toArray, List.getElem?_cons_succ, List.getElem?_cons_zero]; rfl) (fun K hK => ?_) AllReadyH.nil
    go_simp
    clear hHeld
    refine (qreduce_any _ _ _ _ _ _ (by exact Z_m.out.2) (by exact N_d.out) (Nat.le_trans (limbs_length_le S_m.out) (by omega)) (Nat.le_trans (limbs_length_le ((Y_v.out.sz ly_v).mul (Y_u.out.sz ly_u))) (by omega)) (by rw [val_limbs]; exact Nat.mul_ne_zero nz_v nz_u)).mono ?_
    rintro e w17 ⟨b_s, A_s, n_s, c_s, D_s, e_s, f_s, rfl, h_s, hb⟩
    replace X_v := Lib.hid (X_v.out.below hb)
    replace Y_v := Lib.hid (Y_v.out.below hb)
    replace X_u := Lib.hid (X_u.out.below hb)
    replace Y_u := Lib.hid (Y_u.out.below hb)
    replace Z_m := Lib.hid (Z_m.out.below hb)
    replace N_d := Lib.hid (N_d.out.below hb)
    replace B_a := Lib.hid (B_a.out.below hb)
    replace B_b := Lib.hid (B_b.out.below hb)
    replace B_r := Lib.hid (B_r.out.below hb)
    replace hB := below_next hB hb
    clear hb
    rw [Z_m.out.1, zval_norm, val_limbs, ← Rat.mkRat_mul_mkRat, ← eq_v, ← eq_u] at h_s
    have Q_s := Lib.hid h_s
    clear h_s
    go_wp2_with fail
    refine hK.out _ _ (by exact ⟨B_a.out.c3, B_b.out.c3⟩) (fun hHeld => ?_)
    clear hK K
    refine wpAnyH_ready (rs := [11]) (by kernel_rfl) (by simp) ?_
    refine AllReadyH.cons (by simp only [List.getElem?_toArray, List.getElem?_cons_succ, List.getElem?_cons_zero]; rfl) (fun K hK => ?_) AllReadyH.nil
    have c_a0 := B_a.out.cell0
    have c_a1 := B_a.out.cell1
    have c_a2 := B_a.out.cell2
    have c_b0 := B_b.out.cell0
    have c_b1 := B_b.out.cell1
    have c_b2 := B_b.out.cell2
    have c_r0 := B_r.out.cell0
    have c_r1 := B_r.out.cell1
    have c_r2 := B_r.out.cell2
    have f_r0 := B_r.out.fro 0
    have f_r1 := B_r.out.fro 1
    have f_r2 := B_r.out.fro 2
    go_simp
    clear c_a0 c_a1 c_a2 c_b0 c_b1 c_b2 c_r0 c_r1 c_r2 f_r0 f_r1 f_r2
    clear hHeld
    obtain ⟨V18, hV, NB, KP⟩ := storeR B_r.out (.bool b_s) (.slice A_s n_s c_s) (.slice D_s e_s f_s)
    rw [hV]
    clear hV
    replace X_v := Lib.hid (X_v.out.keeps KP.out)
    replace Y_v := Lib.hid (Y_v.out.keeps KP.out)
    replace X_u := Lib.hid (X_u.out.keeps KP.out)
    replace Y_u := Lib.hid (Y_u.out.keeps KP.out)
    replace Z_m := Lib.hid (Z_m.out.keeps KP.out)
    replace N_d := Lib.hid (N_d.out.keeps KP.out)
    replace Q_s := Lib.hid (Q_s.out.keeps KP.out)
    replace B_a := Lib.hid (B_a.out.keeps KP.out (by omega))
    replace B_b := Lib.hid (B_b.out.keeps KP.out (by omega))
    replace hB := below_keeps hB KP.out (by omega)
    have B_r := NB
    clear NB KP
    refine hK.out _ _ (by exact ⟨B_a.out.c3, B_b.out.c3⟩) (fun hHeld => ?_)
    clear hK K
    try simp only [Act.put, List.setIfInBounds_toArray, List.set_cons_zero, List.set_cons_succ]
    refine wpAnyH_done (by kernel_rfl) (NoPanic.normal ?_) _
    clear hHeld
    go_wp2
    have c_r0 := B_r.out.cell0
    have c_r1 := B_r.out.cell1
    have c_r2 := B_r.out.cell2
    refine bodyPost_ret (v := .agg #[.bool b_s, .slice A_s n_s c_s, .slice D_s e_s f_s]) (by simp [results, Tryd.results14, go_sem, c_r0, c_r1, c_r2]) rfl ?_
    exact ⟨_, _, _, _, _, _, _, rfl, Q_s.out, hB⟩
set_option maxRecDepth 100000 in
set_option maxHeartbeats 8000000 in
theorem qsub_any (b_a : Bool) (m_a d_a : Value) (p : Rat) (k : Nat) (b_b : Bool) (m_b d_b : Value) (q : Rat) (j : Nat) (w : World) (h_a : RAt w b_a m_a d_a p k) (h_b : RAt w b_b m_b d_b q j) (hk : 1 ≤ k) (hk2 : k ≤ 50000) (hj : 1 ≤ j) (hj2 : j ≤ 50000) : Calls Tryd.prog 16 #[.agg #[.bool b_a, m_a, d_a], .agg #[.bool b_b, m_b, d_b]] w (GivesQ w (p - q)) := by
  have R_a := Lib.hid h_a
  obtain ⟨xs_a, ys_a, hx_a, hy_a, -, -, -⟩ := h_a
  obtain ⟨A_a, c_a, rfl, _, _⟩ := hx_a.form
  obtain ⟨D_a, f_a, rfl, _, _⟩ := hy_a.form
  clear hx_a hy_a
  have R_b := Lib.hid h_b
  obtain ⟨xs_b, ys_b, hx_b, hy_b, -, -, -⟩ := h_b
  obtain ⟨A_b, c_b, rfl, _, _⟩ := hx_b.form
  obtain ⟨D_b, f_b, rfl, _, _⟩ := hy_b.form
  clear hx_b hy_b
  have S_b := (RAt.sz R_b.out hj).neg
  go_enter Tryd.func16, Tryd.ntmps16
  go_upto_region 1 with fail
  obtain ⟨W0, hW, B_a, B_b, B_r, HW, HS⟩ := rbox3 w (.bool b_a) (.slice A_a xs_a.length c_a) (.slice D_a ys_a.length f_a) (.bool b_b) (.slice A_b xs_b.length c_b) (.slice D_b ys_b.length f_b) (.bool false) (.slice none 0 0) (.slice none 0 0)
  rw [hW]
  clear hW
  replace R_a := Lib.hid (R_a.out.below HW.out)
  replace R_b := Lib.hid (R_b.out.below HW.out)
  have hB := HW.out
  have hsz := HS.out
  clear HW HS
  refine wp_region_named (S := (fun w' => (w'.cell? ⟨w.heap.size, 0, none⟩ = some (.bool b_a) ∧ w'.cell? ⟨w.heap.size, 1, none⟩ = some (.slice A_a xs_a.length c_a) ∧ w'.cell? ⟨w.heap.size, 2, none⟩ = some (.slice D_a ys_a.length f_a)) ∧ (w'.cell? ⟨w.heap.size + 1, 0, none⟩ = some (.bool b_b) ∧ w'.cell? ⟨w.heap.size + 1, 1, none⟩ = some (.slice A_b xs_b.length c_b) ∧ w'.cell? ⟨w.heap.size + 1, 2, none⟩ = some (.slice D_b ys_b.length f_b)))) (by kernel_rfl) (by exact ⟨B_a.out.c3, B_b.out.c3⟩) (fun V1 hb hHeld => ?_)
  replace R_a := Lib.hid (R_a.out.below hb)
  replace R_b := Lib.hid (R_b.out.below hb)
  replace B_a := Lib.hid (B_a.out.below hb)
  replace B_b := Lib.hid (B_b.out.below hb)
  replace B_r := Lib.hid (B_r.out.below hb)
  replace hB := below_next hB hb
  clear hb
  refine wpAnyH_takeQ 0 (v := ?_) (fun _ _ _ _ _ h => h) (by simp only [List.getElem?_toArray, List.getElem?_cons_zero]; rfl) (by kernel_rfl) (by kernel_rfl) (by kernel_rfl) (by rfl) ?_ hHeld ?_; rotate_left; · (intro w hSw; (try dsimp only at hSw); go_simp; (try with_reducible rfl))
  try simp only [Act.put, List.setIfInBounds_toArray, List.set_cons_zero, List.set_cons_succ]
  refine wpAnyH_takeQ 1 (v := ?_) (fun _ _ _ _ _ h => h) (by simp only [List.getElem?_toArray, List.getElem?_cons_succ, List.getElem?_cons_zero]; rfl) (by kernel_rfl) (by kernel_rfl) (by kernel_rfl) (by rfl) ?_ hHeld ?_; rotate_left; · (intro w hSw; (try dsimp only at hSw); go_simp; (try with_reducible rfl))
  try simp only [Act.put, List.setIfInBounds_toArray, List.set_cons_zero, List.set_cons_succ]
  refine wpAnyH_ready (rs := [2]) (by kernel_rfl) (by simp) ?_
  refine AllReadyH.cons (by simp only [List.getElem?_toArray, List.getElem?_cons_succ, List.getElem?_cons_zero]; rfl) (fun K hK => ?_) AllReadyH.nil
  go_simp
  clear hHeld
  refine (qneg_any _ _ _ q j _ (by exact R_b.out) hj (by omega)).mono ?_
  rintro e w2 ⟨b_n, A_n, n_n, c_n, D_n, e_n, f_n, rfl, h_n, hb⟩
  replace R_a := Lib.hid (R_a.out.below hb)
  replace R_b := Lib.hid (R_b.out.below hb)
  replace B_a := Lib.hid (B_a.out.below hb)
  replace B_b := Lib.hid (B_b.out.below hb)
  replace B_r := Lib.hid (B_r.out.below hb)
  replace hB := below_next hB hb
  clear hb
  have Q_n := Lib.hid h_n
  clear h_n
  go_wp2_with fail
  refine hK.out _ _ (by exact ⟨B_a.out.c3, B_b.out.c3⟩) (fun hHeld => ?_)
  clear hK K
  refine wpAnyH_ready (rs := [3]) (by kernel_rfl) (by simp) ?_
  refine AllReadyH.cons (by simp only [List.getElem?_toArray, List.getElem?_cons_succ, List.getElem?_cons_zero]; rfl) (fun K hK => ?_) AllReadyH.nil
  go_simp
  clear hHeld
  refine (qadd_any _ _ _ p k _ _ _ (-q) j _ (by exact R_a.out) (by exact Q_n.out.rat S_b) hk hk2 hj hj2).mono ?_
  rintro e w3 ⟨b_s, A_s, n_s, c_s, D_s, e_s, f_s, rfl, h_s, hb⟩
  replace R_a := Lib.hid (R_a.out.below hb)
  replace R_b := Lib.hid (R_b.out.below hb)
  replace Q_n := Lib.hid (Q_n.out.below hb)
  replace B_a := Lib.hid (B_a.out.below hb)
  replace B_b := Lib.hid (B_b.out.below hb)
  replace B_r := Lib.hid (B_r.out.below hb)
  replace hB := below_next hB hb
  clear hb
  rw [← Rat.sub_eq_add_neg] at h_s
  have Q_s := Lib.hid h_s
  clear h_s
  go_wp2_with fail
  refine hK.out _ _ (by exact ⟨B_a.out.c3, B_b.out.c3⟩) (fun hHeld => ?_)
  clear hK K
  refine wpAnyH_ready (rs := [4]) (by kernel_rfl) (by simp) ?_
  refine AllReadyH.cons (by simp only [List.getElem?_toArray, List.getElem?_cons_succ, List.getElem?_cons_zero]; rfl) (fun K hK => ?_) AllReadyH.nil
  have c_a0 := B_a.out.cell0
  have c_a1 := B_a.out.cell1
  have c_a2 := B_a.out.cell2
  have c_b0 := B_b.out.cell0
  have c_b1 := B_b.out.cell1
  have c_b2 := B_b.out.cell2
  have c_r0 := B_r.out.cell0
  have c_r1 := B_r.out.cell1
  have c_r2 := B_r.out.cell2
  have f_r0 := B_r.out.fro 0
  have f_r1 := B_r.out.fro 1
  have f_r2 := B_r.out.fro 2
  go_simp
  clear c_a0 c_a1 c_a2 c_b0 c_b1 c_b2 c_r0 c_r1 c_r2 f_r0 f_r1 f_r2
  clear hHeld
  obtain ⟨V4, hV, NB, KP⟩ := storeR B_r.out (.bool b_s) (.slice A_s n_s c_s) (.slice D_s e_s f_s)
  rw [hV]
  clear hV
  replace R_a := Lib.hid (R_a.out.keeps KP.out)
  replace R_b := Lib.hid (R_b.out.keeps KP.out)
  replace Q_n := Lib.hid (Q_n.out.keeps KP.out)
  replace Q_s := Lib.hid (Q_s.out.keeps KP.out)
  replace B_a := Lib.hid (B_a.out.keeps KP.out (by omega))
  replace B_b := Lib.hid (B_b.out.keeps KP.out (by omega))
  replace hB := below_keeps hB KP.out (by omega)
  have B_r := NB
  clear NB KP
  refine hK.out _ _ (by exact ⟨B_a.out.c3, B_b.out.c3⟩) (fun hHeld => ?_)
  clear hK K
  try simp only [Act.put, List.setIfInBounds_toArray, List.set_cons_zero, List.set_cons_succ]
  refine wpAnyH_done (by kernel_rfl) (NoPanic.normal ?_) _
  clear hHeld
  go_wp2
  have c_r0 := B_r.out.cell0
  have c_r1 := B_r.out.cell1
  have c_r2 := B_r.out.cell2
  refine bodyPost_ret (v := .agg #[.bool b_s, .slice A_s n_s c_s, .slice D_s e_s f_s]) (by simp [results, Tryd.results16, go_sem, c_r0, c_r1, c_r2]) rfl ?_
  exact ⟨_, _, _, _, _, _, _, rfl, Q_s.out, hB⟩
end Go.Proofs.YtoflndeonegkpaaDoor
