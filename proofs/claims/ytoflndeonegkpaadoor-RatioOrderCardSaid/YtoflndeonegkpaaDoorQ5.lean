/- ratio: Floor, Round, Text. -/
import Derived.Test.YtoflndeonegkpaaDoorQ2
namespace Go.Proofs.YtoflndeonegkpaaDoor
open Go.RowKit

set_option maxRecDepth 100000 in
set_option maxHeartbeats 8000000 in
theorem qfloor_any (b_a : Bool) (m_a d_a : Value) (q : Rat) (k : Nat) (w : World) (h_a : RAt w b_a m_a d_a q k) (hk : 1 ≤ k) (hk2 : k ≤ 50000) : Calls Tryd.prog 20 #[.agg #[.bool b_a, m_a, d_a]] w (GivesZ w q.floor) := by
  have R_a := Lib.hid h_a
  obtain ⟨xs_a, ys_a, hx_a, hy_a, -, -, -⟩ := h_a
  obtain ⟨A_a, c_a, rfl, _, _⟩ := hx_a.form
  obtain ⟨D_a, f_a, rfl, _, _⟩ := hy_a.form
  clear hx_a hy_a
  go_enter Tryd.func20, Tryd.ntmps20
  go_upto_region 1 with fail
  obtain ⟨W0, hW, B_a, B_r, HW, HS⟩ := rboxRI w (.bool b_a) (.slice A_a xs_a.length c_a) (.slice D_a ys_a.length f_a) (.bool false) (.slice none 0 0)
  rw [hW]
  clear hW
  replace R_a := Lib.hid (R_a.out.below HW.out)
  have hB := HW.out
  have hsz := HS.out
  clear HW HS
  have c_a0 := B_a.out.cell0
  have c_a1 := B_a.out.cell1
  have c_a2 := B_a.out.cell2
  have c_r0 := B_r.out.cell0
  have c_r1 := B_r.out.cell1
  go_wp2_with fail
  clear c_a0 c_a1 c_a2 c_r0 c_r1
  refine (qvalue_any _ _ _ q k _ (by exact R_a.out) hk).mono ?_
  rintro e w1 ⟨b_v, A_v, n_v, c_v, D_v, e_v, f_v, xs_v, ys_v, rfl, hx_v, hy_v, lx_v, ly_v, nz_v, eq_v, hb⟩
  replace R_a := Lib.hid (R_a.out.below hb)
  replace B_a := Lib.hid (B_a.out.below hb)
  replace B_r := Lib.hid (B_r.out.below hb)
  replace hB := below_next hB hb
  clear hb
  have X_v := Lib.hid hx_v
  clear hx_v
  have Y_v := Lib.hid hy_v
  clear hy_v
  have c_a0 := B_a.out.cell0
  have c_a1 := B_a.out.cell1
  have c_a2 := B_a.out.cell2
  have f_a0 := B_a.out.fro 0
  have f_a1 := B_a.out.fro 1
  have f_a2 := B_a.out.fro 2
  have c_r0 := B_r.out.cell0
  have c_r1 := B_r.out.cell1
  go_upto_region 2 with fail
  clear c_a0 c_a1 c_a2 f_a0 f_a1 f_a2 c_r0 c_r1
  obtain ⟨V2, hV, NB, KP⟩ := storeR B_a.out (.bool b_v) (.slice A_v n_v c_v) (.slice D_v e_v f_v)
  rw [hV]
  clear hV
  replace R_a := Lib.hid (R_a.out.keeps KP.out)
  replace X_v := Lib.hid (X_v.out.keeps KP.out)
  replace Y_v := Lib.hid (Y_v.out.keeps KP.out)
  replace B_r := Lib.hid (B_r.out.keeps KP.out (by omega))
  replace hB := below_keeps hB KP.out (by omega)
  have B_a := NB
  clear NB KP
  clear R_a
  go_cut [3] (fun s3 wy => ∃ (b : Bool) (A : Option Addr) (n c g : Nat), s3 = .pointer (some ⟨g, 0, none⟩) ∧ w.heap.size + 1 < g ∧ Box wy g (.bool b) (.slice A n c) ∧ ZAt wy b (.slice A n c) q.floor ∧ Box wy (w.heap.size + 1) (.bool false) (.slice none 0 0) ∧ Below w.heap.size w wy)
  case first =>
    refine wp_region_named (S := (fun w' => (w'.cell? ⟨w.heap.size, 0, none⟩ = some (.bool b_v) ∧ w'.cell? ⟨w.heap.size, 1, none⟩ = some (.slice A_v n_v c_v) ∧ w'.cell? ⟨w.heap.size, 2, none⟩ = some (.slice D_v e_v f_v)))) (by kernel_rfl) (by exact B_a.out.c3) (fun V3 hb hHeld => ?_)
    replace X_v := Lib.hid (X_v.out.below hb)
    replace Y_v := Lib.hid (Y_v.out.below hb)
    replace B_a := Lib.hid (B_a.out.below hb)
    replace B_r := Lib.hid (B_r.out.below hb)
    replace hB := below_next hB hb
    clear hb
    refine wpAnyH_takeQ 0 (v := ?_) (fun _ _ _ _ _ h => h) (by simp only [List.getElem?_toArray, List.getElem?_cons_zero]; rfl) (by kernel_rfl) (by kernel_rfl) (by kernel_rfl) (by rfl) ?_ hHeld ?_; rotate_left; · (intro w hSw; (try dsimp only at hSw); go_simp; (try with_reducible rfl))
    try simp only [Act.put, List.setIfInBounds_toArray, List.set_cons_zero, List.set_cons_succ]
    refine wpAnyH_takeQ 1 (v := ?_) (fun _ _ _ _ _ h => h) (by simp only [List.getElem?_toArray, List.getElem?_cons_succ, List.getElem?_cons_zero]; rfl) (by kernel_rfl) (by kernel_rfl) (by kernel_rfl) (by rfl) ?_ hHeld ?_; rotate_left; · (intro w hSw; (try dsimp only at hSw); go_simp; (try with_reducible rfl))
    try simp only [Act.put, List.setIfInBounds_toArray, List.set_cons_zero, List.set_cons_succ]
    refine wpAnyH_takeQ 2 (v := ?_) (fun _ _ _ _ _ h => h) (by simp only [List.getElem?_toArray, List.getElem?_cons_succ, List.getElem?_cons_zero]; rfl) (by kernel_rfl) (by kernel_rfl) (by kernel_rfl) (by rfl) ?_ hHeld ?_; rotate_left; · (intro w hSw; (try dsimp only at hSw); go_simp; (try with_reducible rfl))
    try simp only [Act.put, List.setIfInBounds_toArray, List.set_cons_zero, List.set_cons_succ]
    refine wpAnyH_takeQ 3 (v := ?_) (fun _ _ _ _ _ h => h) (by simp only [List.getElem?_toArray, List.getElem?_cons_succ, List.getElem?_cons_zero]; rfl) (by kernel_rfl) (by kernel_rfl) (by kernel_rfl) (by rfl) ?_ hHeld ?_; rotate_left; · (intro w hSw; (try dsimp only at hSw); go_simp; (try with_reducible rfl))
    try simp only [Act.put, List.setIfInBounds_toArray, List.set_cons_zero, List.set_cons_succ]
    refine wpAnyH_ready (rs := [4, 10, 11]) (by kernel_rfl) (by simp) ?_
    refine AllReadyH.cons (by simp only [List.getElem?_toArray, List.getElem?_cons_succ, List.getElem?_cons_zero]; rfl) (fun K hK => ?_) ?_
    go_simp
    clear hHeld
    refine (qpos_any _ _ _ _).mono ?_
    rintro e w4 ⟨rfl, hb⟩
    replace X_v := Lib.hid (X_v.out.below hb)
    replace Y_v := Lib.hid (Y_v.out.below hb)
    replace B_a := Lib.hid (B_a.out.below hb)
    replace B_r := Lib.hid (B_r.out.below hb)
    replace hB := below_next hB hb
    clear hb
    go_wp2_with fail
    refine hK.out _ _ (by exact B_a.out.c3) (fun hHeld => ?_)
    clear hK K
    refine wpAnyH_ready (rs := [5, 10, 11]) (by kernel_rfl) (by simp) ?_
    refine AllReadyH.cons (by simp only [List.getElem?_toArray, List.getElem?_cons_succ, List.getElem?_cons_zero]; rfl) (fun K hK => ?_) ?_
    go_simp
    clear hHeld
    refine (idivmod_any _ _ _ _ (zval b_v xs_v) (val ys_v) k k _ (by exact ⟨_, X_v.out, lx_v, rfl⟩) (by exact ⟨_, Y_v.out, ly_v, rfl⟩) (by omega) (by omega) (by omega)).mono ?_
    rintro e w5 ⟨b_q, A_q, n_q, c_q, b_s, A_s, n_s, c_s, rfl, h_q, h_s, hb⟩
    replace X_v := Lib.hid (X_v.out.below hb)
    replace Y_v := Lib.hid (Y_v.out.below hb)
    replace B_a := Lib.hid (B_a.out.below hb)
    replace B_r := Lib.hid (B_r.out.below hb)
    replace hB := below_next hB hb
    clear hb
    have Z_q := Lib.hid h_q
    clear h_q
    have Z_s := Lib.hid h_s
    clear h_s
    go_wp2_with fail
    refine hK.out _ _ (by exact B_a.out.c3) (fun hHeld => ?_)
    clear hK K
    refine wpAnyH_takeQ 6 (v := ?_) (fun _ _ _ _ _ h => h) (by simp only [List.getElem?_toArray, List.getElem?_cons_succ, List.getElem?_cons_zero]; rfl) (by kernel_rfl) (by kernel_rfl) (by kernel_rfl) (by rfl) ?_ hHeld ?_; rotate_left; · (intro w hSw; (try dsimp only at hSw); go_simp; (try with_reducible rfl))
    try simp only [Act.put, List.setIfInBounds_toArray, List.set_cons_zero, List.set_cons_succ]
    refine wpAnyH_takeQ 7 (v := ?_) (fun _ _ _ _ _ h => h) (by simp only [List.getElem?_toArray, List.getElem?_cons_succ, List.getElem?_cons_zero]; rfl) (by kernel_rfl) (by kernel_rfl) (by kernel_rfl) (by rfl) ?_ hHeld ?_; rotate_left; · (intro w hSw; (try dsimp only at hSw); go_simp; (try with_reducible rfl))
    try simp only [Act.put, List.setIfInBounds_toArray, List.set_cons_zero, List.set_cons_succ]
    refine wpAnyH_takeQ 8 (v := ?_) (fun _ _ _ _ _ h => h) (by simp only [List.getElem?_toArray, List.getElem?_cons_succ, List.getElem?_cons_zero]; rfl) (by kernel_rfl) (by kernel_rfl) (by kernel_rfl) (by rfl) ?_ hHeld ?_; rotate_left; · (intro w hSw; (try dsimp only at hSw); go_simp; (try with_reducible rfl))
    try simp only [Act.put, List.setIfInBounds_toArray, List.set_cons_zero, List.set_cons_succ]
    refine wpAnyH_takeQ 9 (v := ?_) (fun _ _ _ _ _ h => h) (by simp only [List.getElem?_toArray, List.getElem?_cons_succ, List.getElem?_cons_zero]; rfl) (by kernel_rfl) (by kernel_rfl) (by kernel_rfl) (by rfl) ?_ hHeld ?_; rotate_left; · (intro w hSw; (try dsimp only at hSw); go_simp; (try with_reducible rfl))
    try simp only [Act.put, List.setIfInBounds_toArray, List.set_cons_zero, List.set_cons_succ]
    refine wpAnyH_ready (rs := [10, 11]) (by kernel_rfl) (by simp) ?_
    refine AllReadyH.cons (by simp only [List.getElem?_toArray, List.getElem?_cons_succ, List.getElem?_cons_zero]; rfl) (fun K hK => ?_) ?_
    go_simp
    clear hHeld
    obtain ⟨A6, g_x, hV, hg, NB, hb⟩ := newI w5 (.bool false) (.slice none 0 0)
    rw [hV, hg]
    clear hV
    have l_x_a : w.heap.size < g_x := hg ▸ B_a.out.lt
    have l_x_r : w.heap.size + 1 < g_x := hg ▸ B_r.out.lt
    replace X_v := Lib.hid (X_v.out.below hb)
    replace Y_v := Lib.hid (Y_v.out.below hb)
    replace Z_q := Lib.hid (Z_q.out.below hb)
    replace Z_s := Lib.hid (Z_s.out.below hb)
    replace B_a := Lib.hid (B_a.out.below hb)
    replace B_r := Lib.hid (B_r.out.below hb)
    replace hB := below_next hB hb
    have B_x := NB
    clear NB hb hg
    refine hK.out _ _ (by exact B_a.out.c3) (fun hHeld => ?_)
    clear hK K
    try simp only [Act.put, List.setIfInBounds_toArray, List.set_cons_zero, List.set_cons_succ]
    refine wpAnyH_ready (rs := [11]) (by kernel_rfl) (by simp) ?_
    refine AllReadyH.cons (by simp only [List.getElem?_toArray, List.getElem?_cons_succ, List.getElem?_cons_zero]; rfl) (fun K hK => ?_) AllReadyH.nil
    go_simp
    clear hHeld
    obtain ⟨A7, g_y, hV, hg, NB, hb⟩ := newI A6 (.bool false) (.slice none 0 0)
    rw [hV, hg]
    clear hV
    have l_y_a : w.heap.size < g_y := hg ▸ B_a.out.lt
    have l_y_r : w.heap.size + 1 < g_y := hg ▸ B_r.out.lt
    have l_y_x : g_x < g_y := hg ▸ B_x.out.lt
    replace X_v := Lib.hid (X_v.out.below hb)
    replace Y_v := Lib.hid (Y_v.out.below hb)
    replace Z_q := Lib.hid (Z_q.out.below hb)
    replace Z_s := Lib.hid (Z_s.out.below hb)
    replace B_a := Lib.hid (B_a.out.below hb)
    replace B_r := Lib.hid (B_r.out.below hb)
    replace B_x := Lib.hid (B_x.out.below hb)
    replace hB := below_next hB hb
    have B_y := NB
    clear NB hb hg
    refine hK.out _ _ (by exact B_a.out.c3) (fun hHeld => ?_)
    clear hK K
    try simp only [Act.put, List.setIfInBounds_toArray, List.set_cons_zero, List.set_cons_succ]
    refine wpAnyH_ready (rs := [12]) (by kernel_rfl) (by simp) ?_
    refine AllReadyH.cons (by simp only [List.getElem?_toArray, List.getElem?_cons_succ, List.getElem?_cons_zero]; rfl) (fun K hK => ?_) AllReadyH.nil
    have c_a0 := B_a.out.cell0
    have c_a1 := B_a.out.cell1
    have c_a2 := B_a.out.cell2
    have c_r0 := B_r.out.cell0
    have c_r1 := B_r.out.cell1
    have c_x0 := B_x.out.cell0
    have c_x1 := B_x.out.cell1
    have f_x0 := B_x.out.fro 0
    have f_x1 := B_x.out.fro 1
    have c_y0 := B_y.out.cell0
    have c_y1 := B_y.out.cell1
    go_simp
    clear c_a0 c_a1 c_a2 c_r0 c_r1 c_x0 c_x1 f_x0 f_x1 c_y0 c_y1
    clear hHeld
    obtain ⟨V8, hV, NB, KP⟩ := storeI B_x.out (.bool b_q) (.slice A_q n_q c_q)
    rw [hV]
    clear hV
    replace X_v := Lib.hid (X_v.out.keeps KP.out)
    replace Y_v := Lib.hid (Y_v.out.keeps KP.out)
    replace Z_q := Lib.hid (Z_q.out.keeps KP.out)
    replace Z_s := Lib.hid (Z_s.out.keeps KP.out)
    replace B_a := Lib.hid (B_a.out.keeps KP.out (by omega))
    replace B_r := Lib.hid (B_r.out.keeps KP.out (by omega))
    replace B_y := Lib.hid (B_y.out.keeps KP.out (by omega))
    replace hB := below_keeps hB KP.out (by omega)
    have B_x := NB
    clear NB KP
    refine hK.out _ _ (by exact B_a.out.c3) (fun hHeld => ?_)
    clear hK K
    try simp only [Act.put, List.setIfInBounds_toArray, List.set_cons_zero, List.set_cons_succ]
    refine wpAnyH_ready (rs := [13]) (by kernel_rfl) (by simp) ?_
    refine AllReadyH.cons (by simp only [List.getElem?_toArray, List.getElem?_cons_succ, List.getElem?_cons_zero]; rfl) (fun K hK => ?_) AllReadyH.nil
    have c_a0 := B_a.out.cell0
    have c_a1 := B_a.out.cell1
    have c_a2 := B_a.out.cell2
    have c_r0 := B_r.out.cell0
    have c_r1 := B_r.out.cell1
    have c_x0 := B_x.out.cell0
    have c_x1 := B_x.out.cell1
    have c_y0 := B_y.out.cell0
    have c_y1 := B_y.out.cell1
    have f_y0 := B_y.out.fro 0
    have f_y1 := B_y.out.fro 1
    go_simp
    clear c_a0 c_a1 c_a2 c_r0 c_r1 c_x0 c_x1 c_y0 c_y1 f_y0 f_y1
    clear hHeld
    obtain ⟨V9, hV, NB, KP⟩ := storeI B_y.out (.bool b_s) (.slice A_s n_s c_s)
    rw [hV]
    clear hV
    replace X_v := Lib.hid (X_v.out.keeps KP.out)
    replace Y_v := Lib.hid (Y_v.out.keeps KP.out)
    replace Z_q := Lib.hid (Z_q.out.keeps KP.out)
    replace Z_s := Lib.hid (Z_s.out.keeps KP.out)
    replace B_a := Lib.hid (B_a.out.keeps KP.out (by omega))
    replace B_r := Lib.hid (B_r.out.keeps KP.out (by omega))
    replace B_x := Lib.hid (B_x.out.keeps KP.out (by omega))
    replace hB := below_keeps hB KP.out (by omega)
    have B_y := NB
    clear NB KP
    refine hK.out _ _ (by exact B_a.out.c3) (fun hHeld => ?_)
    clear hK K
    try simp only [Act.put, List.setIfInBounds_toArray, List.set_cons_zero, List.set_cons_succ]
    refine wpAnyH_takeQ 14 (v := ?_) (fun _ _ _ _ _ h => h) (by simp only [List.getElem?_toArray, List.getElem?_cons_succ, List.getElem?_cons_zero]; rfl) (by kernel_rfl) (by kernel_rfl) (by kernel_rfl) (by rfl) ?_ hHeld ?_; rotate_left; · (intro w hSw; (try dsimp only at hSw); go_simp; (try with_reducible rfl))
    try simp only [Act.put, List.setIfInBounds_toArray, List.set_cons_zero, List.set_cons_succ]
    refine wpAnyH_done (by kernel_rfl) (NoPanic.normal ?_) _
    clear hHeld
    go_wp2_with fail
    go_meet
    exact ⟨b_q, A_q, n_q, c_q, g_x, rfl, l_x_r, B_x.out, by rw [eq_v, ← mk_floor _ nz_v]; exact Z_q.out, B_r.out, hB⟩
    refine AllReadyH.cons (by simp only [List.getElem?_toArray, List.getElem?_cons_succ, List.getElem?_cons_zero]; rfl) (fun K hK => ?_) ?_
    go_simp
    clear hHeld
    obtain ⟨A10, g_y, hV, hg, NB, hb⟩ := newI w5 (.bool false) (.slice none 0 0)
    rw [hV, hg]
    clear hV
    have l_y_a : w.heap.size < g_y := hg ▸ B_a.out.lt
    have l_y_r : w.heap.size + 1 < g_y := hg ▸ B_r.out.lt
    replace X_v := Lib.hid (X_v.out.below hb)
    replace Y_v := Lib.hid (Y_v.out.below hb)
    replace Z_q := Lib.hid (Z_q.out.below hb)
    replace Z_s := Lib.hid (Z_s.out.below hb)
    replace B_a := Lib.hid (B_a.out.below hb)
    replace B_r := Lib.hid (B_r.out.below hb)
    replace hB := below_next hB hb
    have B_y := NB
    clear NB hb hg
    refine hK.out _ _ (by exact B_a.out.c3) (fun hHeld => ?_)
    clear hK K
    try simp only [Act.put, List.setIfInBounds_toArray, List.set_cons_zero, List.set_cons_succ]
    refine wpAnyH_ready (rs := [10]) (by kernel_rfl) (by simp) ?_
    refine AllReadyH.cons (by simp only [List.getElem?_toArray, List.getElem?_cons_succ, List.getElem?_cons_zero]; rfl) (fun K hK => ?_) AllReadyH.nil
    go_simp
    clear hHeld
    obtain ⟨A11, g_x, hV, hg, NB, hb⟩ := newI A10 (.bool false) (.slice none 0 0)
    rw [hV, hg]
    clear hV
    have l_x_a : w.heap.size < g_x := hg ▸ B_a.out.lt
    have l_x_r : w.heap.size + 1 < g_x := hg ▸ B_r.out.lt
    have l_x_y : g_y < g_x := hg ▸ B_y.out.lt
    replace X_v := Lib.hid (X_v.out.below hb)
    replace Y_v := Lib.hid (Y_v.out.below hb)
    replace Z_q := Lib.hid (Z_q.out.below hb)
    replace Z_s := Lib.hid (Z_s.out.below hb)
    replace B_a := Lib.hid (B_a.out.below hb)
    replace B_r := Lib.hid (B_r.out.below hb)
    replace B_y := Lib.hid (B_y.out.below hb)
    replace hB := below_next hB hb
    have B_x := NB
    clear NB hb hg
    refine hK.out _ _ (by exact B_a.out.c3) (fun hHeld => ?_)
    clear hK K
    try simp only [Act.put, List.setIfInBounds_toArray, List.set_cons_zero, List.set_cons_succ]
    refine wpAnyH_ready (rs := [12]) (by kernel_rfl) (by simp) ?_
    refine AllReadyH.cons (by simp only [List.getElem?_toArray, List.getElem?_cons_succ, List.getElem?_cons_zero]; rfl) (fun K hK => ?_) AllReadyH.nil
    have c_a0 := B_a.out.cell0
    have c_a1 := B_a.out.cell1
    have c_a2 := B_a.out.cell2
    have c_r0 := B_r.out.cell0
    have c_r1 := B_r.out.cell1
    have c_y0 := B_y.out.cell0
    have c_y1 := B_y.out.cell1
    have c_x0 := B_x.out.cell0
    have c_x1 := B_x.out.cell1
    have f_x0 := B_x.out.fro 0
    have f_x1 := B_x.out.fro 1
    go_simp
    clear c_a0 c_a1 c_a2 c_r0 c_r1 c_y0 c_y1 c_x0 c_x1 f_x0 f_x1
    clear hHeld
    obtain ⟨V12, hV, NB, KP⟩ := storeI B_x.out (.bool b_q) (.slice A_q n_q c_q)
    rw [hV]
    clear hV
    replace X_v := Lib.hid (X_v.out.keeps KP.out)
    replace Y_v := Lib.hid (Y_v.out.keeps KP.out)
    replace Z_q := Lib.hid (Z_q.out.keeps KP.out)
    replace Z_s := Lib.hid (Z_s.out.keeps KP.out)
    replace B_a := Lib.hid (B_a.out.keeps KP.out (by omega))
    replace B_r := Lib.hid (B_r.out.keeps KP.out (by omega))
    replace B_y := Lib.hid (B_y.out.keeps KP.out (by omega))
    replace hB := below_keeps hB KP.out (by omega)
    have B_x := NB
    clear NB KP
    refine hK.out _ _ (by exact B_a.out.c3) (fun hHeld => ?_)
    clear hK K
    try simp only [Act.put, List.setIfInBounds_toArray, List.set_cons_zero, List.set_cons_succ]
    refine wpAnyH_ready (rs := [13]) (by kernel_rfl) (by simp) ?_
    refine AllReadyH.cons (by simp only [List.getElem?_toArray, List.getElem?_cons_succ, List.getElem?_cons_zero]; rfl) (fun K hK => ?_) AllReadyH.nil
    have c_a0 := B_a.out.cell0
    have c_a1 := B_a.out.cell1
    have c_a2 := B_a.out.cell2
    have c_r0 := B_r.out.cell0
    have c_r1 := B_r.out.cell1
    have c_y0 := B_y.out.cell0
    have c_y1 := B_y.out.cell1
    have f_y0 := B_y.out.fro 0
    have f_y1 := B_y.out.fro 1
    have c_x0 := B_x.out.cell0
    have c_x1 := B_x.out.cell1
    go_simp
    clear c_a0 c_a1 c_a2 c_r0 c_r1 c_y0 c_y1 f_y0 f_y1 c_x0 c_x1
    clear hHeld
    obtain ⟨V13, hV, NB, KP⟩ := storeI B_y.out (.bool b_s) (.slice A_s n_s c_s)
    rw [hV]
    clear hV
    replace X_v := Lib.hid (X_v.out.keeps KP.out)
    replace Y_v := Lib.hid (Y_v.out.keeps KP.out)
    replace Z_q := Lib.hid (Z_q.out.keeps KP.out)
    replace Z_s := Lib.hid (Z_s.out.keeps KP.out)
    replace B_a := Lib.hid (B_a.out.keeps KP.out (by omega))
    replace B_r := Lib.hid (B_r.out.keeps KP.out (by omega))
    replace B_x := Lib.hid (B_x.out.keeps KP.out (by omega))
    replace hB := below_keeps hB KP.out (by omega)
    have B_y := NB
    clear NB KP
    refine hK.out _ _ (by exact B_a.out.c3) (fun hHeld => ?_)
    clear hK K
    try simp only [Act.put, List.setIfInBounds_toArray, List.set_cons_zero, List.set_cons_succ]
    refine wpAnyH_takeQ 14 (v := ?_) (fun _ _ _ _ _ h => h) (by simp only [List.getElem?_toArray, List.getElem?_cons_succ, List.getElem?_cons_zero]; rfl) (by kernel_rfl) (by kernel_rfl) (by kernel_rfl) (by rfl) ?_ hHeld ?_; rotate_left; · (intro w hSw; (try dsimp only at hSw); go_simp; (try with_reducible rfl))
    try simp only [Act.put, List.setIfInBounds_toArray, List.set_cons_zero, List.set_cons_succ]
    refine wpAnyH_done (by kernel_rfl) (NoPanic.normal ?_) _
    clear hHeld
    go_wp2_with fail
    go_meet
    exact ⟨b_q, A_q, n_q, c_q, g_x, rfl, l_x_r, B_x.out, by rw [eq_v, ← mk_floor _ nz_v]; exact Z_q.out, B_r.out, hB⟩
    exact AllReadyH.nil
    refine AllReadyH.cons (by simp only [List.getElem?_toArray, List.getElem?_cons_succ, List.getElem?_cons_zero]; rfl) (fun K hK => ?_) ?_
    go_simp
    clear hHeld
    obtain ⟨A14, g_x, hV, hg, NB, hb⟩ := newI w4 (.bool false) (.slice none 0 0)
    rw [hV, hg]
    clear hV
    have l_x_a : w.heap.size < g_x := hg ▸ B_a.out.lt
    have l_x_r : w.heap.size + 1 < g_x := hg ▸ B_r.out.lt
    replace X_v := Lib.hid (X_v.out.below hb)
    replace Y_v := Lib.hid (Y_v.out.below hb)
    replace B_a := Lib.hid (B_a.out.below hb)
    replace B_r := Lib.hid (B_r.out.below hb)
    replace hB := below_next hB hb
    have B_x := NB
    clear NB hb hg
    refine hK.out _ _ (by exact B_a.out.c3) (fun hHeld => ?_)
    clear hK K
    try simp only [Act.put, List.setIfInBounds_toArray, List.set_cons_zero, List.set_cons_succ]
    refine wpAnyH_ready (rs := [5, 11]) (by kernel_rfl) (by simp) ?_
    refine AllReadyH.cons (by simp only [List.getElem?_toArray, List.getElem?_cons_succ, List.getElem?_cons_zero]; rfl) (fun K hK => ?_) ?_
    go_simp
    clear hHeld
    refine (idivmod_any _ _ _ _ (zval b_v xs_v) (val ys_v) k k _ (by exact ⟨_, X_v.out, lx_v, rfl⟩) (by exact ⟨_, Y_v.out, ly_v, rfl⟩) (by omega) (by omega) (by omega)).mono ?_
    rintro e w15 ⟨b_q, A_q, n_q, c_q, b_s, A_s, n_s, c_s, rfl, h_q, h_s, hb⟩
    replace X_v := Lib.hid (X_v.out.below hb)
    replace Y_v := Lib.hid (Y_v.out.below hb)
    replace B_a := Lib.hid (B_a.out.below hb)
    replace B_r := Lib.hid (B_r.out.below hb)
    replace B_x := Lib.hid (B_x.out.below hb)
    replace hB := below_next hB hb
    clear hb
    have Z_q := Lib.hid h_q
    clear h_q
    have Z_s := Lib.hid h_s
    clear h_s
    go_wp2_with fail
    refine hK.out _ _ (by exact B_a.out.c3) (fun hHeld => ?_)
    clear hK K
    refine wpAnyH_takeQ 6 (v := ?_) (fun _ _ _ _ _ h => h) (by simp only [List.getElem?_toArray, List.getElem?_cons_succ, List.getElem?_cons_zero]; rfl) (by kernel_rfl) (by kernel_rfl) (by kernel_rfl) (by rfl) ?_ hHeld ?_; rotate_left; · (intro w hSw; (try dsimp only at hSw); go_simp; (try with_reducible rfl))
    try simp only [Act.put, List.setIfInBounds_toArray, List.set_cons_zero, List.set_cons_succ]
    refine wpAnyH_takeQ 7 (v := ?_) (fun _ _ _ _ _ h => h) (by simp only [List.getElem?_toArray, List.getElem?_cons_succ, List.getElem?_cons_zero]; rfl) (by kernel_rfl) (by kernel_rfl) (by kernel_rfl) (by rfl) ?_ hHeld ?_; rotate_left; · (intro w hSw; (try dsimp only at hSw); go_simp; (try with_reducible rfl))
    try simp only [Act.put, List.setIfInBounds_toArray, List.set_cons_zero, List.set_cons_succ]
    refine wpAnyH_takeQ 8 (v := ?_) (fun _ _ _ _ _ h => h) (by simp only [List.getElem?_toArray, List.getElem?_cons_succ, List.getElem?_cons_zero]; rfl) (by kernel_rfl) (by kernel_rfl) (by kernel_rfl) (by rfl) ?_ hHeld ?_; rotate_left; · (intro w hSw; (try dsimp only at hSw); go_simp; (try with_reducible rfl))
    try simp only [Act.put, List.setIfInBounds_toArray, List.set_cons_zero, List.set_cons_succ]
    refine wpAnyH_takeQ 9 (v := ?_) (fun _ _ _ _ _ h => h) (by simp only [List.getElem?_toArray, List.getElem?_cons_succ, List.getElem?_cons_zero]; rfl) (by kernel_rfl) (by kernel_rfl) (by kernel_rfl) (by rfl) ?_ hHeld ?_; rotate_left; · (intro w hSw; (try dsimp only at hSw); go_simp; (try with_reducible rfl))
    try simp only [Act.put, List.setIfInBounds_toArray, List.set_cons_zero, List.set_cons_succ]
    refine wpAnyH_ready (rs := [11]) (by kernel_rfl) (by simp) ?_
    refine AllReadyH.cons (by simp only [List.getElem?_toArray, List.getElem?_cons_succ, List.getElem?_cons_zero]; rfl) (fun K hK => ?_) AllReadyH.nil
    go_simp
    clear hHeld
    obtain ⟨A16, g_y, hV, hg, NB, hb⟩ := newI w15 (.bool false) (.slice none 0 0)
    rw [hV, hg]
    clear hV
    have l_y_a : w.heap.size < g_y := hg ▸ B_a.out.lt
    have l_y_r : w.heap.size + 1 < g_y := hg ▸ B_r.out.lt
    have l_y_x : g_x < g_y := hg ▸ B_x.out.lt
    replace X_v := Lib.hid (X_v.out.below hb)
    replace Y_v := Lib.hid (Y_v.out.below hb)
    replace Z_q := Lib.hid (Z_q.out.below hb)
    replace Z_s := Lib.hid (Z_s.out.below hb)
    replace B_a := Lib.hid (B_a.out.below hb)
    replace B_r := Lib.hid (B_r.out.below hb)
    replace B_x := Lib.hid (B_x.out.below hb)
    replace hB := below_next hB hb
    have B_y := NB
    clear NB hb hg
    refine hK.out _ _ (by exact B_a.out.c3) (fun hHeld => ?_)
    clear hK K
    try simp only [Act.put, List.setIfInBounds_toArray, List.set_cons_zero, List.set_cons_succ]
    refine wpAnyH_ready (rs := [12]) (by kernel_rfl) (by simp) ?_
    refine AllReadyH.cons (by simp only [List.getElem?_toArray, List.getElem?_cons_succ, List.getElem?_cons_zero]; rfl) (fun K hK => ?_) AllReadyH.nil
    have c_a0 := B_a.out.cell0
    have c_a1 := B_a.out.cell1
    have c_a2 := B_a.out.cell2
    have c_r0 := B_r.out.cell0
    have c_r1 := B_r.out.cell1
    have c_x0 := B_x.out.cell0
    have c_x1 := B_x.out.cell1
    have f_x0 := B_x.out.fro 0
    have f_x1 := B_x.out.fro 1
    have c_y0 := B_y.out.cell0
    have c_y1 := B_y.out.cell1
    go_simp
    clear c_a0 c_a1 c_a2 c_r0 c_r1 c_x0 c_x1 f_x0 f_x1 c_y0 c_y1
    clear hHeld
    obtain ⟨V17, hV, NB, KP⟩ := storeI B_x.out (.bool b_q) (.slice A_q n_q c_q)
    rw [hV]
    clear hV
    replace X_v := Lib.hid (X_v.out.keeps KP.out)
    replace Y_v := Lib.hid (Y_v.out.keeps KP.out)
    replace Z_q := Lib.hid (Z_q.out.keeps KP.out)
    replace Z_s := Lib.hid (Z_s.out.keeps KP.out)
    replace B_a := Lib.hid (B_a.out.keeps KP.out (by omega))
    replace B_r := Lib.hid (B_r.out.keeps KP.out (by omega))
    replace B_y := Lib.hid (B_y.out.keeps KP.out (by omega))
    replace hB := below_keeps hB KP.out (by omega)
    have B_x := NB
    clear NB KP
    refine hK.out _ _ (by exact B_a.out.c3) (fun hHeld => ?_)
    clear hK K
    try simp only [Act.put, List.setIfInBounds_toArray, List.set_cons_zero, List.set_cons_succ]
    refine wpAnyH_ready (rs := [13]) (by kernel_rfl) (by simp) ?_
    refine AllReadyH.cons (by simp only [List.getElem?_toArray, List.getElem?_cons_succ, List.getElem?_cons_zero]; rfl) (fun K hK => ?_) AllReadyH.nil
    have c_a0 := B_a.out.cell0
    have c_a1 := B_a.out.cell1
    have c_a2 := B_a.out.cell2
    have c_r0 := B_r.out.cell0
    have c_r1 := B_r.out.cell1
    have c_x0 := B_x.out.cell0
    have c_x1 := B_x.out.cell1
    have c_y0 := B_y.out.cell0
    have c_y1 := B_y.out.cell1
    have f_y0 := B_y.out.fro 0
    have f_y1 := B_y.out.fro 1
    go_simp
    clear c_a0 c_a1 c_a2 c_r0 c_r1 c_x0 c_x1 c_y0 c_y1 f_y0 f_y1
    clear hHeld
    obtain ⟨V18, hV, NB, KP⟩ := storeI B_y.out (.bool b_s) (.slice A_s n_s c_s)
    rw [hV]
    clear hV
    replace X_v := Lib.hid (X_v.out.keeps KP.out)
    replace Y_v := Lib.hid (Y_v.out.keeps KP.out)
    replace Z_q := Lib.hid (Z_q.out.keeps KP.out)
    replace Z_s := Lib.hid (Z_s.out.keeps KP.out)
    replace B_a := Lib.hid (B_a.out.keeps KP.out (by omega))
    replace B_r := Lib.hid (B_r.out.keeps KP.out (by omega))
    replace B_x := Lib.hid (B_x.out.keeps KP.out (by omega))
    replace hB := below_keeps hB KP.out (by omega)
    have B_y := NB
    clear NB KP
    refine hK.out _ _ (by exact B_a.out.c3) (fun hHeld => ?_)
    clear hK K
    try simp only [Act.put, List.setIfInBounds_toArray, List.set_cons_zero, List.set_cons_succ]
    refine wpAnyH_takeQ 14 (v := ?_) (fun _ _ _ _ _ h => h) (by simp only [List.getElem?_toArray, List.getElem?_cons_succ, List.getElem?_cons_zero]; rfl) (by kernel_rfl) (by kernel_rfl) (by kernel_rfl) (by rfl) ?_ hHeld ?_; rotate_left; · (intro w hSw; (try dsimp only at hSw); go_simp; (try with_reducible rfl))
    try simp only [Act.put, List.setIfInBounds_toArray, List.set_cons_zero, List.set_cons_succ]
    refine wpAnyH_done (by kernel_rfl) (NoPanic.normal ?_) _
    clear hHeld
    go_wp2_with fail
    go_meet
    exact ⟨b_q, A_q, n_q, c_q, g_x, rfl, l_x_r, B_x.out, by rw [eq_v, ← mk_floor _ nz_v]; exact Z_q.out, B_r.out, hB⟩
    refine AllReadyH.cons (by simp only [List.getElem?_toArray, List.getElem?_cons_succ, List.getElem?_cons_zero]; rfl) (fun K hK => ?_) ?_
    go_simp
    clear hHeld
    obtain ⟨A19, g_y, hV, hg, NB, hb⟩ := newI A14 (.bool false) (.slice none 0 0)
    rw [hV, hg]
    clear hV
    have l_y_a : w.heap.size < g_y := hg ▸ B_a.out.lt
    have l_y_r : w.heap.size + 1 < g_y := hg ▸ B_r.out.lt
    have l_y_x : g_x < g_y := hg ▸ B_x.out.lt
    replace X_v := Lib.hid (X_v.out.below hb)
    replace Y_v := Lib.hid (Y_v.out.below hb)
    replace B_a := Lib.hid (B_a.out.below hb)
    replace B_r := Lib.hid (B_r.out.below hb)
    replace B_x := Lib.hid (B_x.out.below hb)
    replace hB := below_next hB hb
    have B_y := NB
    clear NB hb hg
    refine hK.out _ _ (by exact B_a.out.c3) (fun hHeld => ?_)
    clear hK K
    try simp only [Act.put, List.setIfInBounds_toArray, List.set_cons_zero, List.set_cons_succ]
    refine wpAnyH_ready (rs := [5]) (by kernel_rfl) (by simp) ?_
    refine AllReadyH.cons (by simp only [List.getElem?_toArray, List.getElem?_cons_succ, List.getElem?_cons_zero]; rfl) (fun K hK => ?_) AllReadyH.nil
    go_simp
    clear hHeld
    refine (idivmod_any _ _ _ _ (zval b_v xs_v) (val ys_v) k k _ (by exact ⟨_, X_v.out, lx_v, rfl⟩) (by exact ⟨_, Y_v.out, ly_v, rfl⟩) (by omega) (by omega) (by omega)).mono ?_
    rintro e w20 ⟨b_q, A_q, n_q, c_q, b_s, A_s, n_s, c_s, rfl, h_q, h_s, hb⟩
    replace X_v := Lib.hid (X_v.out.below hb)
    replace Y_v := Lib.hid (Y_v.out.below hb)
    replace B_a := Lib.hid (B_a.out.below hb)
    replace B_r := Lib.hid (B_r.out.below hb)
    replace B_x := Lib.hid (B_x.out.below hb)
    replace B_y := Lib.hid (B_y.out.below hb)
    replace hB := below_next hB hb
    clear hb
    have Z_q := Lib.hid h_q
    clear h_q
    have Z_s := Lib.hid h_s
    clear h_s
    go_wp2_with fail
    refine hK.out _ _ (by exact B_a.out.c3) (fun hHeld => ?_)
    clear hK K
    refine wpAnyH_takeQ 6 (v := ?_) (fun _ _ _ _ _ h => h) (by simp only [List.getElem?_toArray, List.getElem?_cons_succ, List.getElem?_cons_zero]; rfl) (by kernel_rfl) (by kernel_rfl) (by kernel_rfl) (by rfl) ?_ hHeld ?_; rotate_left; · (intro w hSw; (try dsimp only at hSw); go_simp; (try with_reducible rfl))
    try simp only [Act.put, List.setIfInBounds_toArray, List.set_cons_zero, List.set_cons_succ]
    refine wpAnyH_takeQ 7 (v := ?_) (fun _ _ _ _ _ h => h) (by simp only [List.getElem?_toArray, List.getElem?_cons_succ, List.getElem?_cons_zero]; rfl) (by kernel_rfl) (by kernel_rfl) (by kernel_rfl) (by rfl) ?_ hHeld ?_; rotate_left; · (intro w hSw; (try dsimp only at hSw); go_simp; (try with_reducible rfl))
    try simp only [Act.put, List.setIfInBounds_toArray, List.set_cons_zero, List.set_cons_succ]
    refine wpAnyH_takeQ 8 (v := ?_) (fun _ _ _ _ _ h => h) (by simp only [List.getElem?_toArray, List.getElem?_cons_succ, List.getElem?_cons_zero]; rfl) (by kernel_rfl) (by kernel_rfl) (by kernel_rfl) (by rfl) ?_ hHeld ?_; rotate_left; · (intro w hSw; (try dsimp only at hSw); go_simp; (try with_reducible rfl))
    try simp only [Act.put, List.setIfInBounds_toArray, List.set_cons_zero, List.set_cons_succ]
    refine wpAnyH_takeQ 9 (v := ?_) (fun _ _ _ _ _ h => h) (by simp only [List.getElem?_toArray, List.getElem?_cons_succ, List.getElem?_cons_zero]; rfl) (by kernel_rfl) (by kernel_rfl) (by kernel_rfl) (by rfl) ?_ hHeld ?_; rotate_left; · (intro w hSw; (try dsimp only at hSw); go_simp; (try with_reducible rfl))
    try simp only [Act.put, List.setIfInBounds_toArray, List.set_cons_zero, List.set_cons_succ]
    refine wpAnyH_ready (rs := [12]) (by kernel_rfl) (by simp) ?_
    refine AllReadyH.cons (by simp only [List.getElem?_toArray, List.getElem?_cons_succ, List.getElem?_cons_zero]; rfl) (fun K hK => ?_) AllReadyH.nil
    have c_a0 := B_a.out.cell0
    have c_a1 := B_a.out.cell1
    have c_a2 := B_a.out.cell2
    have c_r0 := B_r.out.cell0
    have c_r1 := B_r.out.cell1
    have c_x0 := B_x.out.cell0
    have c_x1 := B_x.out.cell1
    have f_x0 := B_x.out.fro 0
    have f_x1 := B_x.out.fro 1
    have c_y0 := B_y.out.cell0
    have c_y1 := B_y.out.cell1
    go_simp
    clear c_a0 c_a1 c_a2 c_r0 c_r1 c_x0 c_x1 f_x0 f_x1 c_y0 c_y1
    clear hHeld
    obtain ⟨V21, hV, NB, KP⟩ := storeI B_x.out (.bool b_q) (.slice A_q n_q c_q)
    rw [hV]
    clear hV
    replace X_v := Lib.hid (X_v.out.keeps KP.out)
    replace Y_v := Lib.hid (Y_v.out.keeps KP.out)
    replace Z_q := Lib.hid (Z_q.out.keeps KP.out)
    replace Z_s := Lib.hid (Z_s.out.keeps KP.out)
    replace B_a := Lib.hid (B_a.out.keeps KP.out (by omega))
    replace B_r := Lib.hid (B_r.out.keeps KP.out (by omega))
    replace B_y := Lib.hid (B_y.out.keeps KP.out (by omega))
    replace hB := below_keeps hB KP.out (by omega)
    have B_x := NB
    clear NB KP
    refine hK.out _ _ (by exact B_a.out.c3) (fun hHeld => ?_)
    clear hK K
    try simp only [Act.put, List.setIfInBounds_toArray, List.set_cons_zero, List.set_cons_succ]
    refine wpAnyH_ready (rs := [13]) (by kernel_rfl) (by simp) ?_
    refine AllReadyH.cons (by simp only [List.getElem?_toArray, List.getElem?_cons_succ, List.getElem?_cons_zero]; rfl) (fun K hK => ?_) AllReadyH.nil
    have c_a0 := B_a.out.cell0
    have c_a1 := B_a.out.cell1
    have c_a2 := B_a.out.cell2
    have c_r0 := B_r.out.cell0
    have c_r1 := B_r.out.cell1
    have c_x0 := B_x.out.cell0
    have c_x1 := B_x.out.cell1
    have c_y0 := B_y.out.cell0
    have c_y1 := B_y.out.cell1
    have f_y0 := B_y.out.fro 0
    have f_y1 := B_y.out.fro 1
    go_simp
    clear c_a0 c_a1 c_a2 c_r0 c_r1 c_x0 c_x1 c_y0 c_y1 f_y0 f_y1
    clear hHeld
    obtain ⟨V22, hV, NB, KP⟩ := storeI B_y.out (.bool b_s) (.slice A_s n_s c_s)
    rw [hV]
    clear hV
    replace X_v := Lib.hid (X_v.out.keeps KP.out)
    replace Y_v := Lib.hid (Y_v.out.keeps KP.out)
    replace Z_q := Lib.hid (Z_q.out.keeps KP.out)
    replace Z_s := Lib.hid (Z_s.out.keeps KP.out)
    replace B_a := Lib.hid (B_a.out.keeps KP.out (by omega))
    replace B_r := Lib.hid (B_r.out.keeps KP.out (by omega))
    replace B_x := Lib.hid (B_x.out.keeps KP.out (by omega))
    replace hB := below_keeps hB KP.out (by omega)
    have B_y := NB
    clear NB KP
    refine hK.out _ _ (by exact B_a.out.c3) (fun hHeld => ?_)
    clear hK K
    try simp only [Act.put, List.setIfInBounds_toArray, List.set_cons_zero, List.set_cons_succ]
    refine wpAnyH_takeQ 14 (v := ?_) (fun _ _ _ _ _ h => h) (by simp only [List.getElem?_toArray, List.getElem?_cons_succ, List.getElem?_cons_zero]; rfl) (by kernel_rfl) (by kernel_rfl) (by kernel_rfl) (by rfl) ?_ hHeld ?_; rotate_left; · (intro w hSw; (try dsimp only at hSw); go_simp; (try with_reducible rfl))
    try simp only [Act.put, List.setIfInBounds_toArray, List.set_cons_zero, List.set_cons_succ]
    refine wpAnyH_done (by kernel_rfl) (NoPanic.normal ?_) _
    clear hHeld
    go_wp2_with fail
    go_meet
    exact ⟨b_q, A_q, n_q, c_q, g_x, rfl, l_x_r, B_x.out, by rw [eq_v, ← mk_floor _ nz_v]; exact Z_q.out, B_r.out, hB⟩
    exact AllReadyH.nil
    refine AllReadyH.cons (by simp only [List.getElem?_toArray, List.getElem?_cons_succ, List.getElem?_cons_zero]; rfl) (fun K hK => ?_) ?_
    go_simp
    clear hHeld
    obtain ⟨A23, g_y, hV, hg, NB, hb⟩ := newI w4 (.bool false) (.slice none 0 0)
    rw [hV, hg]
    clear hV
    have l_y_a : w.heap.size < g_y := hg ▸ B_a.out.lt
    have l_y_r : w.heap.size + 1 < g_y := hg ▸ B_r.out.lt
    replace X_v := Lib.hid (X_v.out.below hb)
    replace Y_v := Lib.hid (Y_v.out.below hb)
    replace B_a := Lib.hid (B_a.out.below hb)
    replace B_r := Lib.hid (B_r.out.below hb)
    replace hB := below_next hB hb
    have B_y := NB
    clear NB hb hg
    refine hK.out _ _ (by exact B_a.out.c3) (fun hHeld => ?_)
    clear hK K
    try simp only [Act.put, List.setIfInBounds_toArray, List.set_cons_zero, List.set_cons_succ]
    refine wpAnyH_ready (rs := [5, 10]) (by kernel_rfl) (by simp) ?_
    refine AllReadyH.cons (by simp only [List.getElem?_toArray, List.getElem?_cons_succ, List.getElem?_cons_zero]; rfl) (fun K hK => ?_) ?_
    go_simp
    clear hHeld
    refine (idivmod_any _ _ _ _ (zval b_v xs_v) (val ys_v) k k _ (by exact ⟨_, X_v.out, lx_v, rfl⟩) (by exact ⟨_, Y_v.out, ly_v, rfl⟩) (by omega) (by omega) (by omega)).mono ?_
    rintro e w24 ⟨b_q, A_q, n_q, c_q, b_s, A_s, n_s, c_s, rfl, h_q, h_s, hb⟩
    replace X_v := Lib.hid (X_v.out.below hb)
    replace Y_v := Lib.hid (Y_v.out.below hb)
    replace B_a := Lib.hid (B_a.out.below hb)
    replace B_r := Lib.hid (B_r.out.below hb)
    replace B_y := Lib.hid (B_y.out.below hb)
    replace hB := below_next hB hb
    clear hb
    have Z_q := Lib.hid h_q
    clear h_q
    have Z_s := Lib.hid h_s
    clear h_s
    go_wp2_with fail
    refine hK.out _ _ (by exact B_a.out.c3) (fun hHeld => ?_)
    clear hK K
    refine wpAnyH_takeQ 6 (v := ?_) (fun _ _ _ _ _ h => h) (by simp only [List.getElem?_toArray, List.getElem?_cons_succ, List.getElem?_cons_zero]; rfl) (by kernel_rfl) (by kernel_rfl) (by kernel_rfl) (by rfl) ?_ hHeld ?_; rotate_left; · (intro w hSw; (try dsimp only at hSw); go_simp; (try with_reducible rfl))
    try simp only [Act.put, List.setIfInBounds_toArray, List.set_cons_zero, List.set_cons_succ]
    refine wpAnyH_takeQ 7 (v := ?_) (fun _ _ _ _ _ h => h) (by simp only [List.getElem?_toArray, List.getElem?_cons_succ, List.getElem?_cons_zero]; rfl) (by kernel_rfl) (by kernel_rfl) (by kernel_rfl) (by rfl) ?_ hHeld ?_; rotate_left; · (intro w hSw; (try dsimp only at hSw); go_simp; (try with_reducible rfl))
    try simp only [Act.put, List.setIfInBounds_toArray, List.set_cons_zero, List.set_cons_succ]
    refine wpAnyH_takeQ 8 (v := ?_) (fun _ _ _ _ _ h => h) (by simp only [List.getElem?_toArray, List.getElem?_cons_succ, List.getElem?_cons_zero]; rfl) (by kernel_rfl) (by kernel_rfl) (by kernel_rfl) (by rfl) ?_ hHeld ?_; rotate_left; · (intro w hSw; (try dsimp only at hSw); go_simp; (try with_reducible rfl))
    try simp only [Act.put, List.setIfInBounds_toArray, List.set_cons_zero, List.set_cons_succ]
    refine wpAnyH_takeQ 9 (v := ?_) (fun _ _ _ _ _ h => h) (by simp only [List.getElem?_toArray, List.getElem?_cons_succ, List.getElem?_cons_zero]; rfl) (by kernel_rfl) (by kernel_rfl) (by kernel_rfl) (by rfl) ?_ hHeld ?_; rotate_left; · (intro w hSw; (try dsimp only at hSw); go_simp; (try with_reducible rfl))
    try simp only [Act.put, List.setIfInBounds_toArray, List.set_cons_zero, List.set_cons_succ]
    refine wpAnyH_ready (rs := [10]) (by kernel_rfl) (by simp) ?_
    refine AllReadyH.cons (by simp only [List.getElem?_toArray, List.getElem?_cons_succ, List.getElem?_cons_zero]; rfl) (fun K hK => ?_) AllReadyH.nil
    go_simp
    clear hHeld
    obtain ⟨A25, g_x, hV, hg, NB, hb⟩ := newI w24 (.bool false) (.slice none 0 0)
    rw [hV, hg]
    clear hV
    have l_x_a : w.heap.size < g_x := hg ▸ B_a.out.lt
    have l_x_r : w.heap.size + 1 < g_x := hg ▸ B_r.out.lt
    have l_x_y : g_y < g_x := hg ▸ B_y.out.lt
    replace X_v := Lib.hid (X_v.out.below hb)
    replace Y_v := Lib.hid (Y_v.out.below hb)
    replace Z_q := Lib.hid (Z_q.out.below hb)
    replace Z_s := Lib.hid (Z_s.out.below hb)
    replace B_a := Lib.hid (B_a.out.below hb)
    replace B_r := Lib.hid (B_r.out.below hb)
    replace B_y := Lib.hid (B_y.out.below hb)
    replace hB := below_next hB hb
    have B_x := NB
    clear NB hb hg
    refine hK.out _ _ (by exact B_a.out.c3) (fun hHeld => ?_)
    clear hK K
    try simp only [Act.put, List.setIfInBounds_toArray, List.set_cons_zero, List.set_cons_succ]
    refine wpAnyH_ready (rs := [12]) (by kernel_rfl) (by simp) ?_
    refine AllReadyH.cons (by simp only [List.getElem?_toArray, List.getElem?_cons_succ, List.getElem?_cons_zero]; rfl) (fun K hK => ?_) AllReadyH.nil
    have c_a0 := B_a.out.cell0
    have c_a1 := B_a.out.cell1
    have c_a2 := B_a.out.cell2
    have c_r0 := B_r.out.cell0
    have c_r1 := B_r.out.cell1
    have c_y0 := B_y.out.cell0
    have c_y1 := B_y.out.cell1
    have c_x0 := B_x.out.cell0
    have c_x1 := B_x.out.cell1
    have f_x0 := B_x.out.fro 0
    have f_x1 := B_x.out.fro 1
    go_simp
    clear c_a0 c_a1 c_a2 c_r0 c_r1 c_y0 c_y1 c_x0 c_x1 f_x0 f_x1
    clear hHeld
    obtain ⟨V26, hV, NB, KP⟩ := storeI B_x.out (.bool b_q) (.slice A_q n_q c_q)
    rw [hV]
    clear hV
    replace X_v := Lib.hid (X_v.out.keeps KP.out)
    replace Y_v := Lib.hid (Y_v.out.keeps KP.out)
    replace Z_q := Lib.hid (Z_q.out.keeps KP.out)
    replace Z_s := Lib.hid (Z_s.out.keeps KP.out)
    replace B_a := Lib.hid (B_a.out.keeps KP.out (by omega))
    replace B_r := Lib.hid (B_r.out.keeps KP.out (by omega))
    replace B_y := Lib.hid (B_y.out.keeps KP.out (by omega))
    replace hB := below_keeps hB KP.out (by omega)
    have B_x := NB
    clear NB KP
    refine hK.out _ _ (by exact B_a.out.c3) (fun hHeld => ?_)
    clear hK K
    try simp only [Act.put, List.setIfInBounds_toArray, List.set_cons_zero, List.set_cons_succ]
    refine wpAnyH_ready (rs := [13]) (by kernel_rfl) (by simp) ?_
    refine AllReadyH.cons (by simp only [List.getElem?_toArray, List.getElem?_cons_succ, List.getElem?_cons_zero]; rfl) (fun K hK => ?_) AllReadyH.nil
    have c_a0 := B_a.out.cell0
    have c_a1 := B_a.out.cell1
    have c_a2 := B_a.out.cell2
    have c_r0 := B_r.out.cell0
    have c_r1 := B_r.out.cell1
    have c_y0 := B_y.out.cell0
    have c_y1 := B_y.out.cell1
    have f_y0 := B_y.out.fro 0
    have f_y1 := B_y.out.fro 1
    have c_x0 := B_x.out.cell0
    have c_x1 := B_x.out.cell1
    go_simp
    clear c_a0 c_a1 c_a2 c_r0 c_r1 c_y0 c_y1 f_y0 f_y1 c_x0 c_x1
    clear hHeld
    obtain ⟨V27, hV, NB, KP⟩ := storeI B_y.out (.bool b_s) (.slice A_s n_s c_s)
    rw [hV]
    clear hV
    replace X_v := Lib.hid (X_v.out.keeps KP.out)
    replace Y_v := Lib.hid (Y_v.out.keeps KP.out)
    replace Z_q := Lib.hid (Z_q.out.keeps KP.out)
    replace Z_s := Lib.hid (Z_s.out.keeps KP.out)
    replace B_a := Lib.hid (B_a.out.keeps KP.out (by omega))
    replace B_r := Lib.hid (B_r.out.keeps KP.out (by omega))
    replace B_x := Lib.hid (B_x.out.keeps KP.out (by omega))
    replace hB := below_keeps hB KP.out (by omega)
    have B_y := NB
    clear NB KP
    refine hK.out _ _ (by exact B_a.out.c3) (fun hHeld => ?_)
    clear hK K
    try simp only [Act.put, List.setIfInBounds_toArray, List.set_cons_zero, List.set_cons_succ]
    refine wpAnyH_takeQ 14 (v := ?_) (fun _ _ _ _ _ h => h) (by simp only [List.getElem?_toArray, List.getElem?_cons_succ, List.getElem?_cons_zero]; rfl) (by kernel_rfl) (by kernel_rfl) (by kernel_rfl) (by rfl) ?_ hHeld ?_; rotate_left; · (intro w hSw; (try dsimp only at hSw); go_simp; (try with_reducible rfl))
    try simp only [Act.put, List.setIfInBounds_toArray, List.set_cons_zero, List.set_cons_succ]
    refine wpAnyH_done (by kernel_rfl) (NoPanic.normal ?_) _
    clear hHeld
    go_wp2_with fail
    go_meet
    exact ⟨b_q, A_q, n_q, c_q, g_x, rfl, l_x_r, B_x.out, by rw [eq_v, ← mk_floor _ nz_v]; exact Z_q.out, B_r.out, hB⟩
    refine AllReadyH.cons (by simp only [List.getElem?_toArray, List.getElem?_cons_succ, List.getElem?_cons_zero]; rfl) (fun K hK => ?_) ?_
    go_simp
    clear hHeld
    obtain ⟨A28, g_x, hV, hg, NB, hb⟩ := newI A23 (.bool false) (.slice none 0 0)
    rw [hV, hg]
    clear hV
    have l_x_a : w.heap.size < g_x := hg ▸ B_a.out.lt
    have l_x_r : w.heap.size + 1 < g_x := hg ▸ B_r.out.lt
    have l_x_y : g_y < g_x := hg ▸ B_y.out.lt
    replace X_v := Lib.hid (X_v.out.below hb)
    replace Y_v := Lib.hid (Y_v.out.below hb)
    replace B_a := Lib.hid (B_a.out.below hb)
    replace B_r := Lib.hid (B_r.out.below hb)
    replace B_y := Lib.hid (B_y.out.below hb)
    replace hB := below_next hB hb
    have B_x := NB
    clear NB hb hg
    refine hK.out _ _ (by exact B_a.out.c3) (fun hHeld => ?_)
    clear hK K
    try simp only [Act.put, List.setIfInBounds_toArray, List.set_cons_zero, List.set_cons_succ]
    refine wpAnyH_ready (rs := [5]) (by kernel_rfl) (by simp) ?_
    refine AllReadyH.cons (by simp only [List.getElem?_toArray, List.getElem?_cons_succ, List.getElem?_cons_zero]; rfl) (fun K hK => ?_) AllReadyH.nil
    go_simp
    clear hHeld
    refine (idivmod_any _ _ _ _ (zval b_v xs_v) (val ys_v) k k _ (by exact ⟨_, X_v.out, lx_v, rfl⟩) (by exact ⟨_, Y_v.out, ly_v, rfl⟩) (by omega) (by omega) (by omega)).mono ?_
    rintro e w29 ⟨b_q, A_q, n_q, c_q, b_s, A_s, n_s, c_s, rfl, h_q, h_s, hb⟩
    replace X_v := Lib.hid (X_v.out.below hb)
    replace Y_v := Lib.hid (Y_v.out.below hb)
    replace B_a := Lib.hid (B_a.out.below hb)
    replace B_r := Lib.hid (B_r.out.below hb)
    replace B_y := Lib.hid (B_y.out.below hb)
    replace B_x := Lib.hid (B_x.out.below hb)
    replace hB := below_next hB hb
    clear hb
    have Z_q := Lib.hid h_q
    clear h_q
    have Z_s := Lib.hid h_s
    clear h_s
    go_wp2_with fail
    refine hK.out _ _ (by exact B_a.out.c3) (fun hHeld => ?_)
    clear hK K
    refine wpAnyH_takeQ 6 (v := ?_) (fun _ _ _ _ _ h => h) (by simp only [List.getElem?_toArray, List.getElem?_cons_succ, List.getElem?_cons_zero]; rfl) (by kernel_rfl) (by kernel_rfl) (by kernel_rfl) (by rfl) ?_ hHeld ?_; rotate_left; · (intro w hSw; (try dsimp only at hSw); go_simp; (try with_reducible rfl))
    try simp only [Act.put, List.setIfInBounds_toArray, List.set_cons_zero, List.set_cons_succ]
    refine wpAnyH_takeQ 7 (v := ?_) (fun _ _ _ _ _ h => h) (by simp only [List.getElem?_toArray, List.getElem?_cons_succ, List.getElem?_cons_zero]; rfl) (by kernel_rfl) (by kernel_rfl) (by kernel_rfl) (by rfl) ?_ hHeld ?_; rotate_left; · (intro w hSw; (try dsimp only at hSw); go_simp; (try with_reducible rfl))
    try simp only [Act.put, List.setIfInBounds_toArray, List.set_cons_zero, List.set_cons_succ]
    refine wpAnyH_takeQ 8 (v := ?_) (fun _ _ _ _ _ h => h) (by simp only [List.getElem?_toArray, List.getElem?_cons_succ, List.getElem?_cons_zero]; rfl) (by kernel_rfl) (by kernel_rfl) (by kernel_rfl) (by rfl) ?_ hHeld ?_; rotate_left; · (intro w hSw; (try dsimp only at hSw); go_simp; (try with_reducible rfl))
    try simp only [Act.put, List.setIfInBounds_toArray, List.set_cons_zero, List.set_cons_succ]
    refine wpAnyH_takeQ 9 (v := ?_) (fun _ _ _ _ _ h => h) (by simp only [List.getElem?_toArray, List.getElem?_cons_succ, List.getElem?_cons_zero]; rfl) (by kernel_rfl) (by kernel_rfl) (by kernel_rfl) (by rfl) ?_ hHeld ?_; rotate_left; · (intro w hSw; (try dsimp only at hSw); go_simp; (try with_reducible rfl))
    try simp only [Act.put, List.setIfInBounds_toArray, List.set_cons_zero, List.set_cons_succ]
    refine wpAnyH_ready (rs := [12]) (by kernel_rfl) (by simp) ?_
    refine AllReadyH.cons (by simp only [List.getElem?_toArray, List.getElem?_cons_succ, List.getElem?_cons_zero]; rfl) (fun K hK => ?_) AllReadyH.nil
    have c_a0 := B_a.out.cell0
    have c_a1 := B_a.out.cell1
    have c_a2 := B_a.out.cell2
    have c_r0 := B_r.out.cell0
    have c_r1 := B_r.out.cell1
    have c_y0 := B_y.out.cell0
    have c_y1 := B_y.out.cell1
    have c_x0 := B_x.out.cell0
    have c_x1 := B_x.out.cell1
    have f_x0 := B_x.out.fro 0
    have f_x1 := B_x.out.fro 1
    go_simp
    clear c_a0 c_a1 c_a2 c_r0 c_r1 c_y0 c_y1 c_x0 c_x1 f_x0 f_x1
    clear hHeld
    obtain ⟨V30, hV, NB, KP⟩ := storeI B_x.out (.bool b_q) (.slice A_q n_q c_q)
    rw [hV]
    clear hV
    replace X_v := Lib.hid (X_v.out.keeps KP.out)
    replace Y_v := Lib.hid (Y_v.out.keeps KP.out)
    replace Z_q := Lib.hid (Z_q.out.keeps KP.out)
    replace Z_s := Lib.hid (Z_s.out.keeps KP.out)
    replace B_a := Lib.hid (B_a.out.keeps KP.out (by omega))
    replace B_r := Lib.hid (B_r.out.keeps KP.out (by omega))
    replace B_y := Lib.hid (B_y.out.keeps KP.out (by omega))
    replace hB := below_keeps hB KP.out (by omega)
    have B_x := NB
    clear NB KP
    refine hK.out _ _ (by exact B_a.out.c3) (fun hHeld => ?_)
    clear hK K
    try simp only [Act.put, List.setIfInBounds_toArray, List.set_cons_zero, List.set_cons_succ]
    refine wpAnyH_ready (rs := [13]) (by kernel_rfl) (by simp) ?_
    refine AllReadyH.cons (by simp only [List.getElem?_toArray, List.getElem?_cons_succ, List.getElem?_cons_zero]; rfl) (fun K hK => ?_) AllReadyH.nil
    have c_a0 := B_a.out.cell0
    have c_a1 := B_a.out.cell1
    have c_a2 := B_a.out.cell2
    have c_r0 := B_r.out.cell0
    have c_r1 := B_r.out.cell1
    have c_y0 := B_y.out.cell0
    have c_y1 := B_y.out.cell1
    have f_y0 := B_y.out.fro 0
    have f_y1 := B_y.out.fro 1
    have c_x0 := B_x.out.cell0
    have c_x1 := B_x.out.cell1
    go_simp
    clear c_a0 c_a1 c_a2 c_r0 c_r1 c_y0 c_y1 f_y0 f_y1 c_x0 c_x1
    clear hHeld
    obtain ⟨V31, hV, NB, KP⟩ := storeI B_y.out (.bool b_s) (.slice A_s n_s c_s)
    rw [hV]
    clear hV
    replace X_v := Lib.hid (X_v.out.keeps KP.out)
    replace Y_v := Lib.hid (Y_v.out.keeps KP.out)
    replace Z_q := Lib.hid (Z_q.out.keeps KP.out)
    replace Z_s := Lib.hid (Z_s.out.keeps KP.out)
    replace B_a := Lib.hid (B_a.out.keeps KP.out (by omega))
    replace B_r := Lib.hid (B_r.out.keeps KP.out (by omega))
    replace B_x := Lib.hid (B_x.out.keeps KP.out (by omega))
    replace hB := below_keeps hB KP.out (by omega)
    have B_y := NB
    clear NB KP
    refine hK.out _ _ (by exact B_a.out.c3) (fun hHeld => ?_)
    clear hK K
    try simp only [Act.put, List.setIfInBounds_toArray, List.set_cons_zero, List.set_cons_succ]
    refine wpAnyH_takeQ 14 (v := ?_) (fun _ _ _ _ _ h => h) (by simp only [List.getElem?_toArray, List.getElem?_cons_succ, List.getElem?_cons_zero]; rfl) (by kernel_rfl) (by kernel_rfl) (by kernel_rfl) (by rfl) ?_ hHeld ?_; rotate_left; · (intro w hSw; (try dsimp only at hSw); go_simp; (try with_reducible rfl))
    try simp only [Act.put, List.setIfInBounds_toArray, List.set_cons_zero, List.set_cons_succ]
    refine wpAnyH_done (by kernel_rfl) (NoPanic.normal ?_) _
    clear hHeld
    go_wp2_with fail
    go_meet
    exact ⟨b_q, A_q, n_q, c_q, g_x, rfl, l_x_r, B_x.out, by rw [eq_v, ← mk_floor _ nz_v]; exact Z_q.out, B_r.out, hB⟩
    exact AllReadyH.nil
    exact AllReadyH.nil
    refine AllReadyH.cons (by simp only [List.getElem?_toArray, List.getElem?_cons_succ, List.getElem?_cons_zero]; rfl) (fun K hK => ?_) ?_
    go_simp
    clear hHeld
    obtain ⟨A32, g_x, hV, hg, NB, hb⟩ := newI V3 (.bool false) (.slice none 0 0)
    rw [hV, hg]
    clear hV
    have l_x_a : w.heap.size < g_x := hg ▸ B_a.out.lt
    have l_x_r : w.heap.size + 1 < g_x := hg ▸ B_r.out.lt
    replace X_v := Lib.hid (X_v.out.below hb)
    replace Y_v := Lib.hid (Y_v.out.below hb)
    replace B_a := Lib.hid (B_a.out.below hb)
    replace B_r := Lib.hid (B_r.out.below hb)
    replace hB := below_next hB hb
    have B_x := NB
    clear NB hb hg
    refine hK.out _ _ (by exact B_a.out.c3) (fun hHeld => ?_)
    clear hK K
    try simp only [Act.put, List.setIfInBounds_toArray, List.set_cons_zero, List.set_cons_succ]
    refine wpAnyH_ready (rs := [4, 11]) (by kernel_rfl) (by simp) ?_
    refine AllReadyH.cons (by simp only [List.getElem?_toArray, List.getElem?_cons_succ, List.getElem?_cons_zero]; rfl) (fun K hK => ?_) ?_
    go_simp
    clear hHeld
    refine (qpos_any _ _ _ _).mono ?_
    rintro e w33 ⟨rfl, hb⟩
    replace X_v := Lib.hid (X_v.out.below hb)
    replace Y_v := Lib.hid (Y_v.out.below hb)
    replace B_a := Lib.hid (B_a.out.below hb)
    replace B_r := Lib.hid (B_r.out.below hb)
    replace B_x := Lib.hid (B_x.out.below hb)
    replace hB := below_next hB hb
    clear hb
    go_wp2_with fail
    refine hK.out _ _ (by exact B_a.out.c3) (fun hHeld => ?_)
    clear hK K
    refine wpAnyH_ready (rs := [5, 11]) (by kernel_rfl) (by simp) ?_
    refine AllReadyH.cons (by simp only [List.getElem?_toArray, List.getElem?_cons_succ, List.getElem?_cons_zero]; rfl) (fun K hK => ?_) ?_
    go_simp
    clear hHeld
    refine (idivmod_any _ _ _ _ (zval b_v xs_v) (val ys_v) k k _ (by exact ⟨_, X_v.out, lx_v, rfl⟩) (by exact ⟨_, Y_v.out, ly_v, rfl⟩) (by omega) (by omega) (by omega)).mono ?_
    rintro e w34 ⟨b_q, A_q, n_q, c_q, b_s, A_s, n_s, c_s, rfl, h_q, h_s, hb⟩
    replace X_v := Lib.hid (X_v.out.below hb)
    replace Y_v := Lib.hid (Y_v.out.below hb)
    replace B_a := Lib.hid (B_a.out.below hb)
    replace B_r := Lib.hid (B_r.out.below hb)
    replace B_x := Lib.hid (B_x.out.below hb)
    replace hB := below_next hB hb
    clear hb
    have Z_q := Lib.hid h_q
    clear h_q
    have Z_s := Lib.hid h_s
    clear h_s
    go_wp2_with fail
    refine hK.out _ _ (by exact B_a.out.c3) (fun hHeld => ?_)
    clear hK K
    refine wpAnyH_takeQ 6 (v := ?_) (fun _ _ _ _ _ h => h) (by simp only [List.getElem?_toArray, List.getElem?_cons_succ, List.getElem?_cons_zero]; rfl) (by kernel_rfl) (by kernel_rfl) (by kernel_rfl) (by rfl) ?_ hHeld ?_; rotate_left; · (intro w hSw; (try dsimp only at hSw); go_simp; (try with_reducible rfl))
    try simp only [Act.put, List.setIfInBounds_toArray, List.set_cons_zero, List.set_cons_succ]
    refine wpAnyH_takeQ 7 (v := ?_) (fun _ _ _ _ _ h => h) (by simp only [List.getElem?_toArray, List.getElem?_cons_succ, List.getElem?_cons_zero]; rfl) (by kernel_rfl) (by kernel_rfl) (by kernel_rfl) (by rfl) ?_ hHeld ?_; rotate_left; · (intro w hSw; (try dsimp only at hSw); go_simp; (try with_reducible rfl))
    try simp only [Act.put, List.setIfInBounds_toArray, List.set_cons_zero, List.set_cons_succ]
    refine wpAnyH_takeQ 8 (v := ?_) (fun _ _ _ _ _ h => h) (by simp only [List.getElem?_toArray, List.getElem?_cons_succ, List.getElem?_cons_zero]; rfl) (by kernel_rfl) (by kernel_rfl) (by kernel_rfl) (by rfl) ?_ hHeld ?_; rotate_left; · (intro w hSw; (try dsimp only at hSw); go_simp; (try with_reducible rfl))
    try simp only [Act.put, List.setIfInBounds_toArray, List.set_cons_zero, List.set_cons_succ]
    refine wpAnyH_takeQ 9 (v := ?_) (fun _ _ _ _ _ h => h) (by simp only [List.getElem?_toArray, List.getElem?_cons_succ, List.getElem?_cons_zero]; rfl) (by kernel_rfl) (by kernel_rfl) (by kernel_rfl) (by rfl) ?_ hHeld ?_; rotate_left; · (intro w hSw; (try dsimp only at hSw); go_simp; (try with_reducible rfl))
    try simp only [Act.put, List.setIfInBounds_toArray, List.set_cons_zero, List.set_cons_succ]
    refine wpAnyH_ready (rs := [11]) (by kernel_rfl) (by simp) ?_
    refine AllReadyH.cons (by simp only [List.getElem?_toArray, List.getElem?_cons_succ, List.getElem?_cons_zero]; rfl) (fun K hK => ?_) AllReadyH.nil
    go_simp
    clear hHeld
    obtain ⟨A35, g_y, hV, hg, NB, hb⟩ := newI w34 (.bool false) (.slice none 0 0)
    rw [hV, hg]
    clear hV
    have l_y_a : w.heap.size < g_y := hg ▸ B_a.out.lt
    have l_y_r : w.heap.size + 1 < g_y := hg ▸ B_r.out.lt
    have l_y_x : g_x < g_y := hg ▸ B_x.out.lt
    replace X_v := Lib.hid (X_v.out.below hb)
    replace Y_v := Lib.hid (Y_v.out.below hb)
    replace Z_q := Lib.hid (Z_q.out.below hb)
    replace Z_s := Lib.hid (Z_s.out.below hb)
    replace B_a := Lib.hid (B_a.out.below hb)
    replace B_r := Lib.hid (B_r.out.below hb)
    replace B_x := Lib.hid (B_x.out.below hb)
    replace hB := below_next hB hb
    have B_y := NB
    clear NB hb hg
    refine hK.out _ _ (by exact B_a.out.c3) (fun hHeld => ?_)
    clear hK K
    try simp only [Act.put, List.setIfInBounds_toArray, List.set_cons_zero, List.set_cons_succ]
    refine wpAnyH_ready (rs := [12]) (by kernel_rfl) (by simp) ?_
    refine AllReadyH.cons (by simp only [List.getElem?_toArray, List.getElem?_cons_succ, List.getElem?_cons_zero]; rfl) (fun K hK => ?_) AllReadyH.nil
    have c_a0 := B_a.out.cell0
    have c_a1 := B_a.out.cell1
    have c_a2 := B_a.out.cell2
    have c_r0 := B_r.out.cell0
    have c_r1 := B_r.out.cell1
    have c_x0 := B_x.out.cell0
    have c_x1 := B_x.out.cell1
    have f_x0 := B_x.out.fro 0
    have f_x1 := B_x.out.fro 1
    have c_y0 := B_y.out.cell0
    have c_y1 := B_y.out.cell1
    go_simp
    clear c_a0 c_a1 c_a2 c_r0 c_r1 c_x0 c_x1 f_x0 f_x1 c_y0 c_y1
    clear hHeld
    obtain ⟨V36, hV, NB, KP⟩ := storeI B_x.out (.bool b_q) (.slice A_q n_q c_q)
    rw [hV]
    clear hV
    replace X_v := Lib.hid (X_v.out.keeps KP.out)
    replace Y_v := Lib.hid (Y_v.out.keeps KP.out)
    replace Z_q := Lib.hid (Z_q.out.keeps KP.out)
    replace Z_s := Lib.hid (Z_s.out.keeps KP.out)
    replace B_a := Lib.hid (B_a.out.keeps KP.out (by omega))
    replace B_r := Lib.hid (B_r.out.keeps KP.out (by omega))
    replace B_y := Lib.hid (B_y.out.keeps KP.out (by omega))
    replace hB := below_keeps hB KP.out (by omega)
    have B_x := NB
    clear NB KP
    refine hK.out _ _ (by exact B_a.out.c3) (fun hHeld => ?_)
    clear hK K
    try simp only [Act.put, List.setIfInBounds_toArray, List.set_cons_zero, List.set_cons_succ]
    refine wpAnyH_ready (rs := [13]) (by kernel_rfl) (by simp) ?_
    refine AllReadyH.cons (by simp only [List.getElem?_toArray, List.getElem?_cons_succ, List.getElem?_cons_zero]; rfl) (fun K hK => ?_) AllReadyH.nil
    have c_a0 := B_a.out.cell0
    have c_a1 := B_a.out.cell1
    have c_a2 := B_a.out.cell2
    have c_r0 := B_r.out.cell0
    have c_r1 := B_r.out.cell1
    have c_x0 := B_x.out.cell0
    have c_x1 := B_x.out.cell1
    have c_y0 := B_y.out.cell0
    have c_y1 := B_y.out.cell1
    have f_y0 := B_y.out.fro 0
    have f_y1 := B_y.out.fro 1
    go_simp
    clear c_a0 c_a1 c_a2 c_r0 c_r1 c_x0 c_x1 c_y0 c_y1 f_y0 f_y1
    clear hHeld
    obtain ⟨V37, hV, NB, KP⟩ := storeI B_y.out (.bool b_s) (.slice A_s n_s c_s)
    rw [hV]
    clear hV
    replace X_v := Lib.hid (X_v.out.keeps KP.out)
    replace Y_v := Lib.hid (Y_v.out.keeps KP.out)
    replace Z_q := Lib.hid (Z_q.out.keeps KP.out)
    replace Z_s := Lib.hid (Z_s.out.keeps KP.out)
    replace B_a := Lib.hid (B_a.out.keeps KP.out (by omega))
    replace B_r := Lib.hid (B_r.out.keeps KP.out (by omega))
    replace B_x := Lib.hid (B_x.out.keeps KP.out (by omega))
    replace hB := below_keeps hB KP.out (by omega)
    have B_y := NB
    clear NB KP
    refine hK.out _ _ (by exact B_a.out.c3) (fun hHeld => ?_)
    clear hK K
    try simp only [Act.put, List.setIfInBounds_toArray, List.set_cons_zero, List.set_cons_succ]
    refine wpAnyH_takeQ 14 (v := ?_) (fun _ _ _ _ _ h => h) (by simp only [List.getElem?_toArray, List.getElem?_cons_succ, List.getElem?_cons_zero]; rfl) (by kernel_rfl) (by kernel_rfl) (by kernel_rfl) (by rfl) ?_ hHeld ?_; rotate_left; · (intro w hSw; (try dsimp only at hSw); go_simp; (try with_reducible rfl))
    try simp only [Act.put, List.setIfInBounds_toArray, List.set_cons_zero, List.set_cons_succ]
    refine wpAnyH_done (by kernel_rfl) (NoPanic.normal ?_) _
    clear hHeld
    go_wp2_with fail
    go_meet
    exact ⟨b_q, A_q, n_q, c_q, g_x, rfl, l_x_r, B_x.out, by rw [eq_v, ← mk_floor _ nz_v]; exact Z_q.out, B_r.out, hB⟩
    refine AllReadyH.cons (by simp only [List.getElem?_toArray, List.getElem?_cons_succ, List.getElem?_cons_zero]; rfl) (fun K hK => ?_) ?_
    go_simp
    clear hHeld
    obtain ⟨A38, g_y, hV, hg, NB, hb⟩ := newI w33 (.bool false) (.slice none 0 0)
    rw [hV, hg]
    clear hV
    have l_y_a : w.heap.size < g_y := hg ▸ B_a.out.lt
    have l_y_r : w.heap.size + 1 < g_y := hg ▸ B_r.out.lt
    have l_y_x : g_x < g_y := hg ▸ B_x.out.lt
    replace X_v := Lib.hid (X_v.out.below hb)
    replace Y_v := Lib.hid (Y_v.out.below hb)
    replace B_a := Lib.hid (B_a.out.below hb)
    replace B_r := Lib.hid (B_r.out.below hb)
    replace B_x := Lib.hid (B_x.out.below hb)
    replace hB := below_next hB hb
    have B_y := NB
    clear NB hb hg
    refine hK.out _ _ (by exact B_a.out.c3) (fun hHeld => ?_)
    clear hK K
    try simp only [Act.put, List.setIfInBounds_toArray, List.set_cons_zero, List.set_cons_succ]
    refine wpAnyH_ready (rs := [5]) (by kernel_rfl) (by simp) ?_
    refine AllReadyH.cons (by simp only [List.getElem?_toArray, List.getElem?_cons_succ, List.getElem?_cons_zero]; rfl) (fun K hK => ?_) AllReadyH.nil
    go_simp
    clear hHeld
    refine (idivmod_any _ _ _ _ (zval b_v xs_v) (val ys_v) k k _ (by exact ⟨_, X_v.out, lx_v, rfl⟩) (by exact ⟨_, Y_v.out, ly_v, rfl⟩) (by omega) (by omega) (by omega)).mono ?_
    rintro e w39 ⟨b_q, A_q, n_q, c_q, b_s, A_s, n_s, c_s, rfl, h_q, h_s, hb⟩
    replace X_v := Lib.hid (X_v.out.below hb)
    replace Y_v := Lib.hid (Y_v.out.below hb)
    replace B_a := Lib.hid (B_a.out.below hb)
    replace B_r := Lib.hid (B_r.out.below hb)
    replace B_x := Lib.hid (B_x.out.below hb)
    replace B_y := Lib.hid (B_y.out.below hb)
    replace hB := below_next hB hb
    clear hb
    have Z_q := Lib.hid h_q
    clear h_q
    have Z_s := Lib.hid h_s
    clear h_s
    go_wp2_with fail
    refine hK.out _ _ (by exact B_a.out.c3) (fun hHeld => ?_)
    clear hK K
    refine wpAnyH_takeQ 6 (v := ?_) (fun _ _ _ _ _ h => h) (by simp only [List.getElem?_toArray, List.getElem?_cons_succ, List.getElem?_cons_zero]; rfl) (by kernel_rfl) (by kernel_rfl) (by kernel_rfl) (by rfl) ?_ hHeld ?_; rotate_left; · (intro w hSw; (try dsimp only at hSw); go_simp; (try with_reducible rfl))
    try simp only [Act.put, List.setIfInBounds_toArray, List.set_cons_zero, List.set_cons_succ]
    refine wpAnyH_takeQ 7 (v := ?_) (fun _ _ _ _ _ h => h) (by simp only [List.getElem?_toArray, List.getElem?_cons_succ, List.getElem?_cons_zero]; rfl) (by kernel_rfl) (by kernel_rfl) (by kernel_rfl) (by rfl) ?_ hHeld ?_; rotate_left; · (intro w hSw; (try dsimp only at hSw); go_simp; (try with_reducible rfl))
    try simp only [Act.put, List.setIfInBounds_toArray, List.set_cons_zero, List.set_cons_succ]
    refine wpAnyH_takeQ 8 (v := ?_) (fun _ _ _ _ _ h => h) (by simp only [List.getElem?_toArray, List.getElem?_cons_succ, List.getElem?_cons_zero]; rfl) (by kernel_rfl) (by kernel_rfl) (by kernel_rfl) (by rfl) ?_ hHeld ?_; rotate_left; · (intro w hSw; (try dsimp only at hSw); go_simp; (try with_reducible rfl))
    try simp only [Act.put, List.setIfInBounds_toArray, List.set_cons_zero, List.set_cons_succ]
    refine wpAnyH_takeQ 9 (v := ?_) (fun _ _ _ _ _ h => h) (by simp only [List.getElem?_toArray, List.getElem?_cons_succ, List.getElem?_cons_zero]; rfl) (by kernel_rfl) (by kernel_rfl) (by kernel_rfl) (by rfl) ?_ hHeld ?_; rotate_left; · (intro w hSw; (try dsimp only at hSw); go_simp; (try with_reducible rfl))
    try simp only [Act.put, List.setIfInBounds_toArray, List.set_cons_zero, List.set_cons_succ]
    refine wpAnyH_ready (rs := [12]) (by kernel_rfl) (by simp) ?_
    refine AllReadyH.cons (by simp only [List.getElem?_toArray, List.getElem?_cons_succ, List.getElem?_cons_zero]; rfl) (fun K hK => ?_) AllReadyH.nil
    have c_a0 := B_a.out.cell0
    have c_a1 := B_a.out.cell1
    have c_a2 := B_a.out.cell2
    have c_r0 := B_r.out.cell0
    have c_r1 := B_r.out.cell1
    have c_x0 := B_x.out.cell0
    have c_x1 := B_x.out.cell1
    have f_x0 := B_x.out.fro 0
    have f_x1 := B_x.out.fro 1
    have c_y0 := B_y.out.cell0
    have c_y1 := B_y.out.cell1
    go_simp
    clear c_a0 c_a1 c_a2 c_r0 c_r1 c_x0 c_x1 f_x0 f_x1 c_y0 c_y1
    clear hHeld
    obtain ⟨V40, hV, NB, KP⟩ := storeI B_x.out (.bool b_q) (.slice A_q n_q c_q)
    rw [hV]
    clear hV
    replace X_v := Lib.hid (X_v.out.keeps KP.out)
    replace Y_v := Lib.hid (Y_v.out.keeps KP.out)
    replace Z_q := Lib.hid (Z_q.out.keeps KP.out)
    replace Z_s := Lib.hid (Z_s.out.keeps KP.out)
    replace B_a := Lib.hid (B_a.out.keeps KP.out (by omega))
    replace B_r := Lib.hid (B_r.out.keeps KP.out (by omega))
    replace B_y := Lib.hid (B_y.out.keeps KP.out (by omega))
    replace hB := below_keeps hB KP.out (by omega)
    have B_x := NB
    clear NB KP
    refine hK.out _ _ (by exact B_a.out.c3) (fun hHeld => ?_)
    clear hK K
    try simp only [Act.put, List.setIfInBounds_toArray, List.set_cons_zero, List.set_cons_succ]
    refine wpAnyH_ready (rs := [13]) (by kernel_rfl) (by simp) ?_
    refine AllReadyH.cons (by simp only [List.getElem?_toArray, List.getElem?_cons_succ, List.getElem?_cons_zero]; rfl) (fun K hK => ?_) AllReadyH.nil
    have c_a0 := B_a.out.cell0
    have c_a1 := B_a.out.cell1
    have c_a2 := B_a.out.cell2
    have c_r0 := B_r.out.cell0
    have c_r1 := B_r.out.cell1
    have c_x0 := B_x.out.cell0
    have c_x1 := B_x.out.cell1
    have c_y0 := B_y.out.cell0
    have c_y1 := B_y.out.cell1
    have f_y0 := B_y.out.fro 0
    have f_y1 := B_y.out.fro 1
    go_simp
    clear c_a0 c_a1 c_a2 c_r0 c_r1 c_x0 c_x1 c_y0 c_y1 f_y0 f_y1
    clear hHeld
    obtain ⟨V41, hV, NB, KP⟩ := storeI B_y.out (.bool b_s) (.slice A_s n_s c_s)
    rw [hV]
    clear hV
    replace X_v := Lib.hid (X_v.out.keeps KP.out)
    replace Y_v := Lib.hid (Y_v.out.keeps KP.out)
    replace Z_q := Lib.hid (Z_q.out.keeps KP.out)
    replace Z_s := Lib.hid (Z_s.out.keeps KP.out)
    replace B_a := Lib.hid (B_a.out.keeps KP.out (by omega))
    replace B_r := Lib.hid (B_r.out.keeps KP.out (by omega))
    replace B_x := Lib.hid (B_x.out.keeps KP.out (by omega))
    replace hB := below_keeps hB KP.out (by omega)
    have B_y := NB
    clear NB KP
    refine hK.out _ _ (by exact B_a.out.c3) (fun hHeld => ?_)
    clear hK K
    try simp only [Act.put, List.setIfInBounds_toArray, List.set_cons_zero, List.set_cons_succ]
    refine wpAnyH_takeQ 14 (v := ?_) (fun _ _ _ _ _ h => h) (by simp only [List.getElem?_toArray, List.getElem?_cons_succ, List.getElem?_cons_zero]; rfl) (by kernel_rfl) (by kernel_rfl) (by kernel_rfl) (by rfl) ?_ hHeld ?_; rotate_left; · (intro w hSw; (try dsimp only at hSw); go_simp; (try with_reducible rfl))
    try simp only [Act.put, List.setIfInBounds_toArray, List.set_cons_zero, List.set_cons_succ]
    refine wpAnyH_done (by kernel_rfl) (NoPanic.normal ?_) _
    clear hHeld
    go_wp2_with fail
    go_meet
    exact ⟨b_q, A_q, n_q, c_q, g_x, rfl, l_x_r, B_x.out, by rw [eq_v, ← mk_floor _ nz_v]; exact Z_q.out, B_r.out, hB⟩
    exact AllReadyH.nil
    refine AllReadyH.cons (by simp only [List.getElem?_toArray, List.getElem?_cons_succ, List.getElem?_cons_zero]; rfl) (fun K hK => ?_) ?_
    go_simp
    clear hHeld
    obtain ⟨A42, g_y, hV, hg, NB, hb⟩ := newI A32 (.bool false) (.slice none 0 0)
    rw [hV, hg]
    clear hV
    have l_y_a : w.heap.size < g_y := hg ▸ B_a.out.lt
    have l_y_r : w.heap.size + 1 < g_y := hg ▸ B_r.out.lt
    have l_y_x : g_x < g_y := hg ▸ B_x.out.lt
    replace X_v := Lib.hid (X_v.out.below hb)
    replace Y_v := Lib.hid (Y_v.out.below hb)
    replace B_a := Lib.hid (B_a.out.below hb)
    replace B_r := Lib.hid (B_r.out.below hb)
    replace B_x := Lib.hid (B_x.out.below hb)
    replace hB := below_next hB hb
    have B_y := NB
    clear NB hb hg
    refine hK.out _ _ (by exact B_a.out.c3) (fun hHeld => ?_)
    clear hK K
    try simp only [Act.put, List.setIfInBounds_toArray, List.set_cons_zero, List.set_cons_succ]
    refine wpAnyH_ready (rs := [4]) (by kernel_rfl) (by simp) ?_
    refine AllReadyH.cons (by simp only [List.getElem?_toArray, List.getElem?_cons_succ, List.getElem?_cons_zero]; rfl) (fun K hK => ?_) AllReadyH.nil
    go_simp
    clear hHeld
    refine (qpos_any _ _ _ _).mono ?_
    rintro e w43 ⟨rfl, hb⟩
    replace X_v := Lib.hid (X_v.out.below hb)
    replace Y_v := Lib.hid (Y_v.out.below hb)
    replace B_a := Lib.hid (B_a.out.below hb)
    replace B_r := Lib.hid (B_r.out.below hb)
    replace B_x := Lib.hid (B_x.out.below hb)
    replace B_y := Lib.hid (B_y.out.below hb)
    replace hB := below_next hB hb
    clear hb
    go_wp2_with fail
    refine hK.out _ _ (by exact B_a.out.c3) (fun hHeld => ?_)
    clear hK K
    refine wpAnyH_ready (rs := [5]) (by kernel_rfl) (by simp) ?_
    refine AllReadyH.cons (by simp only [List.getElem?_toArray, List.getElem?_cons_succ, List.getElem?_cons_zero]; rfl) (fun K hK => ?_) AllReadyH.nil
    go_simp
    clear hHeld
    refine (idivmod_any _ _ _ _ (zval b_v xs_v) (val ys_v) k k _ (by exact ⟨_, X_v.out, lx_v, rfl⟩) (by exact ⟨_, Y_v.out, ly_v, rfl⟩) (by omega) (by omega) (by omega)).mono ?_
    rintro e w44 ⟨b_q, A_q, n_q, c_q, b_s, A_s, n_s, c_s, rfl, h_q, h_s, hb⟩
    replace X_v := Lib.hid (X_v.out.below hb)
    replace Y_v := Lib.hid (Y_v.out.below hb)
    replace B_a := Lib.hid (B_a.out.below hb)
    replace B_r := Lib.hid (B_r.out.below hb)
    replace B_x := Lib.hid (B_x.out.below hb)
    replace B_y := Lib.hid (B_y.out.below hb)
    replace hB := below_next hB hb
    clear hb
    have Z_q := Lib.hid h_q
    clear h_q
    have Z_s := Lib.hid h_s
    clear h_s
    go_wp2_with fail
    refine hK.out _ _ (by exact B_a.out.c3) (fun hHeld => ?_)
    clear hK K
    refine wpAnyH_takeQ 6 (v := ?_) (fun _ _ _ _ _ h => h) (by simp only [List.getElem?_toArray, List.getElem?_cons_succ, List.getElem?_cons_zero]; rfl) (by kernel_rfl) (by kernel_rfl) (by kernel_rfl) (by rfl) ?_ hHeld ?_; rotate_left; · (intro w hSw; (try dsimp only at hSw); go_simp; (try with_reducible rfl))
    try simp only [Act.put, List.setIfInBounds_toArray, List.set_cons_zero, List.set_cons_succ]
    refine wpAnyH_takeQ 7 (v := ?_) (fun _ _ _ _ _ h => h) (by simp only [List.getElem?_toArray, List.getElem?_cons_succ, List.getElem?_cons_zero]; rfl) (by kernel_rfl) (by kernel_rfl) (by kernel_rfl) (by rfl) ?_ hHeld ?_; rotate_left; · (intro w hSw; (try dsimp only at hSw); go_simp; (try with_reducible rfl))
    try simp only [Act.put, List.setIfInBounds_toArray, List.set_cons_zero, List.set_cons_succ]
    refine wpAnyH_takeQ 8 (v := ?_) (fun _ _ _ _ _ h => h) (by simp only [List.getElem?_toArray, List.getElem?_cons_succ, List.getElem?_cons_zero]; rfl) (by kernel_rfl) (by kernel_rfl) (by kernel_rfl) (by rfl) ?_ hHeld ?_; rotate_left; · (intro w hSw; (try dsimp only at hSw); go_simp; (try with_reducible rfl))
    try simp only [Act.put, List.setIfInBounds_toArray, List.set_cons_zero, List.set_cons_succ]
    refine wpAnyH_takeQ 9 (v := ?_) (fun _ _ _ _ _ h => h) (by simp only [List.getElem?_toArray, List.getElem?_cons_succ, List.getElem?_cons_zero]; rfl) (by kernel_rfl) (by kernel_rfl) (by kernel_rfl) (by rfl) ?_ hHeld ?_; rotate_left; · (intro w hSw; (try dsimp only at hSw); go_simp; (try with_reducible rfl))
    try simp only [Act.put, List.setIfInBounds_toArray, List.set_cons_zero, List.set_cons_succ]
    refine wpAnyH_ready (rs := [12]) (by kernel_rfl) (by simp) ?_
    refine AllReadyH.cons (by simp only [List.getElem?_toArray, List.getElem?_cons_succ, List.getElem?_cons_zero]; rfl) (fun K hK => ?_) AllReadyH.nil
    have c_a0 := B_a.out.cell0
    have c_a1 := B_a.out.cell1
    have c_a2 := B_a.out.cell2
    have c_r0 := B_r.out.cell0
    have c_r1 := B_r.out.cell1
    have c_x0 := B_x.out.cell0
    have c_x1 := B_x.out.cell1
    have f_x0 := B_x.out.fro 0
    have f_x1 := B_x.out.fro 1
    have c_y0 := B_y.out.cell0
    have c_y1 := B_y.out.cell1
    go_simp
    clear c_a0 c_a1 c_a2 c_r0 c_r1 c_x0 c_x1 f_x0 f_x1 c_y0 c_y1
    clear hHeld
    obtain ⟨V45, hV, NB, KP⟩ := storeI B_x.out (.bool b_q) (.slice A_q n_q c_q)
    rw [hV]
    clear hV
    replace X_v := Lib.hid (X_v.out.keeps KP.out)
    replace Y_v := Lib.hid (Y_v.out.keeps KP.out)
    replace Z_q := Lib.hid (Z_q.out.keeps KP.out)
    replace Z_s := Lib.hid (Z_s.out.keeps KP.out)
    replace B_a := Lib.hid (B_a.out.keeps KP.out (by omega))
    replace B_r := Lib.hid (B_r.out.keeps KP.out (by omega))
    replace B_y := Lib.hid (B_y.out.keeps KP.out (by omega))
    replace hB := below_keeps hB KP.out (by omega)
    have B_x := NB
    clear NB KP
    refine hK.out _ _ (by exact B_a.out.c3) (fun hHeld => ?_)
    clear hK K
    try simp only [Act.put, List.setIfInBounds_toArray, List.set_cons_zero, List.set_cons_succ]
    refine wpAnyH_ready (rs := [13]) (by kernel_rfl) (by simp) ?_
    refine AllReadyH.cons (by simp only [List.getElem?_toArray, List.getElem?_cons_succ, List.getElem?_cons_zero]; rfl) (fun K hK => ?_) AllReadyH.nil
    have c_a0 := B_a.out.cell0
    have c_a1 := B_a.out.cell1
    have c_a2 := B_a.out.cell2
    have c_r0 := B_r.out.cell0
    have c_r1 := B_r.out.cell1
    have c_x0 := B_x.out.cell0
    have c_x1 := B_x.out.cell1
    have c_y0 := B_y.out.cell0
    have c_y1 := B_y.out.cell1
    have f_y0 := B_y.out.fro 0
    have f_y1 := B_y.out.fro 1
    go_simp
    clear c_a0 c_a1 c_a2 c_r0 c_r1 c_x0 c_x1 c_y0 c_y1 f_y0 f_y1
    clear hHeld
    obtain ⟨V46, hV, NB, KP⟩ := storeI B_y.out (.bool b_s) (.slice A_s n_s c_s)
    rw [hV]
    clear hV
    replace X_v := Lib.hid (X_v.out.keeps KP.out)
    replace Y_v := Lib.hid (Y_v.out.keeps KP.out)
    replace Z_q := Lib.hid (Z_q.out.keeps KP.out)
    replace Z_s := Lib.hid (Z_s.out.keeps KP.out)
    replace B_a := Lib.hid (B_a.out.keeps KP.out (by omega))
    replace B_r := Lib.hid (B_r.out.keeps KP.out (by omega))
    replace B_x := Lib.hid (B_x.out.keeps KP.out (by omega))
    replace hB := below_keeps hB KP.out (by omega)
    have B_y := NB
    clear NB KP
    refine hK.out _ _ (by exact B_a.out.c3) (fun hHeld => ?_)
    clear hK K
    try simp only [Act.put, List.setIfInBounds_toArray, List.set_cons_zero, List.set_cons_succ]
    refine wpAnyH_takeQ 14 (v := ?_) (fun _ _ _ _ _ h => h) (by simp only [List.getElem?_toArray, List.getElem?_cons_succ, List.getElem?_cons_zero]; rfl) (by kernel_rfl) (by kernel_rfl) (by kernel_rfl) (by rfl) ?_ hHeld ?_; rotate_left; · (intro w hSw; (try dsimp only at hSw); go_simp; (try with_reducible rfl))
    try simp only [Act.put, List.setIfInBounds_toArray, List.set_cons_zero, List.set_cons_succ]
    refine wpAnyH_done (by kernel_rfl) (NoPanic.normal ?_) _
    clear hHeld
    go_wp2_with fail
    go_meet
    exact ⟨b_q, A_q, n_q, c_q, g_x, rfl, l_x_r, B_x.out, by rw [eq_v, ← mk_floor _ nz_v]; exact Z_q.out, B_r.out, hB⟩
    exact AllReadyH.nil
    refine AllReadyH.cons (by simp only [List.getElem?_toArray, List.getElem?_cons_succ, List.getElem?_cons_zero]; rfl) (fun K hK => ?_) ?_
    go_simp
    clear hHeld
    obtain ⟨A47, g_y, hV, hg, NB, hb⟩ := newI V3 (.bool false) (.slice none 0 0)
    rw [hV, hg]
    clear hV
    have l_y_a : w.heap.size < g_y := hg ▸ B_a.out.lt
    have l_y_r : w.heap.size + 1 < g_y := hg ▸ B_r.out.lt
    replace X_v := Lib.hid (X_v.out.below hb)
    replace Y_v := Lib.hid (Y_v.out.below hb)
    replace B_a := Lib.hid (B_a.out.below hb)
    replace B_r := Lib.hid (B_r.out.below hb)
    replace hB := below_next hB hb
    have B_y := NB
    clear NB hb hg
    refine hK.out _ _ (by exact B_a.out.c3) (fun hHeld => ?_)
    clear hK K
    try simp only [Act.put, List.setIfInBounds_toArray, List.set_cons_zero, List.set_cons_succ]
    refine wpAnyH_ready (rs := [4, 10]) (by kernel_rfl) (by simp) ?_
    refine AllReadyH.cons (by simp only [List.getElem?_toArray, List.getElem?_cons_succ, List.getElem?_cons_zero]; rfl) (fun K hK => ?_) ?_
    go_simp
    clear hHeld
    refine (qpos_any _ _ _ _).mono ?_
    rintro e w48 ⟨rfl, hb⟩
    replace X_v := Lib.hid (X_v.out.below hb)
    replace Y_v := Lib.hid (Y_v.out.below hb)
    replace B_a := Lib.hid (B_a.out.below hb)
    replace B_r := Lib.hid (B_r.out.below hb)
    replace B_y := Lib.hid (B_y.out.below hb)
    replace hB := below_next hB hb
    clear hb
    go_wp2_with fail
    refine hK.out _ _ (by exact B_a.out.c3) (fun hHeld => ?_)
    clear hK K
    refine wpAnyH_ready (rs := [5, 10]) (by kernel_rfl) (by simp) ?_
    refine AllReadyH.cons (by simp only [List.getElem?_toArray, List.getElem?_cons_succ, List.getElem?_cons_zero]; rfl) (fun K hK => ?_) ?_
    go_simp
    clear hHeld
    refine (idivmod_any _ _ _ _ (zval b_v xs_v) (val ys_v) k k _ (by exact ⟨_, X_v.out, lx_v, rfl⟩) (by exact ⟨_, Y_v.out, ly_v, rfl⟩) (by omega) (by omega) (by omega)).mono ?_
    rintro e w49 ⟨b_q, A_q, n_q, c_q, b_s, A_s, n_s, c_s, rfl, h_q, h_s, hb⟩
    replace X_v := Lib.hid (X_v.out.below hb)
    replace Y_v := Lib.hid (Y_v.out.below hb)
    replace B_a := Lib.hid (B_a.out.below hb)
    replace B_r := Lib.hid (B_r.out.below hb)
    replace B_y := Lib.hid (B_y.out.below hb)
    replace hB := below_next hB hb
    clear hb
    have Z_q := Lib.hid h_q
    clear h_q
    have Z_s := Lib.hid h_s
    clear h_s
    go_wp2_with fail
    refine hK.out _ _ (by exact B_a.out.c3) (fun hHeld => ?_)
    clear hK K
    refine wpAnyH_takeQ 6 (v := ?_) (fun _ _ _ _ _ h => h) (by simp only [List.getElem?_toArray, List.getElem?_cons_succ, List.getElem?_cons_zero]; rfl) (by kernel_rfl) (by kernel_rfl) (by kernel_rfl) (by rfl) ?_ hHeld ?_; rotate_left; · (intro w hSw; (try dsimp only at hSw); go_simp; (try with_reducible rfl))
    try simp only [Act.put, List.setIfInBounds_toArray, List.set_cons_zero, List.set_cons_succ]
    refine wpAnyH_takeQ 7 (v := ?_) (fun _ _ _ _ _ h => h) (by simp only [List.getElem?_toArray, List.getElem?_cons_succ, List.getElem?_cons_zero]; rfl) (by kernel_rfl) (by kernel_rfl) (by kernel_rfl) (by rfl) ?_ hHeld ?_; rotate_left; · (intro w hSw; (try dsimp only at hSw); go_simp; (try with_reducible rfl))
    try simp only [Act.put, List.setIfInBounds_toArray, List.set_cons_zero, List.set_cons_succ]
    refine wpAnyH_takeQ 8 (v := ?_) (fun _ _ _ _ _ h => h) (by simp only [List.getElem?_toArray, List.getElem?_cons_succ, List.getElem?_cons_zero]; rfl) (by kernel_rfl) (by kernel_rfl) (by kernel_rfl) (by rfl) ?_ hHeld ?_; rotate_left; · (intro w hSw; (try dsimp only at hSw); go_simp; (try with_reducible rfl))
    try simp only [Act.put, List.setIfInBounds_toArray, List.set_cons_zero, List.set_cons_succ]
    refine wpAnyH_takeQ 9 (v := ?_) (fun _ _ _ _ _ h => h) (by simp only [List.getElem?_toArray, List.getElem?_cons_succ, List.getElem?_cons_zero]; rfl) (by kernel_rfl) (by kernel_rfl) (by kernel_rfl) (by rfl) ?_ hHeld ?_; rotate_left; · (intro w hSw; (try dsimp only at hSw); go_simp; (try with_reducible rfl))
    try simp only [Act.put, List.setIfInBounds_toArray, List.set_cons_zero, List.set_cons_succ]
    refine wpAnyH_ready (rs := [10]) (by kernel_rfl) (by simp) ?_
    refine AllReadyH.cons (by simp only [List.getElem?_toArray, List.getElem?_cons_succ, List.getElem?_cons_zero]; rfl) (fun K hK => ?_) AllReadyH.nil
    go_simp
    clear hHeld
    obtain ⟨A50, g_x, hV, hg, NB, hb⟩ := newI w49 (.bool false) (.slice none 0 0)
    rw [hV, hg]
    clear hV
    have l_x_a : w.heap.size < g_x := hg ▸ B_a.out.lt
    have l_x_r : w.heap.size + 1 < g_x := hg ▸ B_r.out.lt
    have l_x_y : g_y < g_x := hg ▸ B_y.out.lt
    replace X_v := Lib.hid (X_v.out.below hb)
    replace Y_v := Lib.hid (Y_v.out.below hb)
    replace Z_q := Lib.hid (Z_q.out.below hb)
    replace Z_s := Lib.hid (Z_s.out.below hb)
    replace B_a := Lib.hid (B_a.out.below hb)
    replace B_r := Lib.hid (B_r.out.below hb)
    replace B_y := Lib.hid (B_y.out.below hb)
    replace hB := below_next hB hb
    have B_x := NB
    clear NB hb hg
    refine hK.out _ _ (by exact B_a.out.c3) (fun hHeld => ?_)
    clear hK K
    try simp only [Act.put, List.setIfInBounds_toArray, List.set_cons_zero, List.set_cons_succ]
    refine wpAnyH_ready (rs := [12]) (by kernel_rfl) (by simp) ?_
    refine AllReadyH.cons (by simp only [List.getElem?_toArray, List.getElem?_cons_succ, List.getElem?_cons_zero]; rfl) (fun K hK => ?_) AllReadyH.nil
    have c_a0 := B_a.out.cell0
    have c_a1 := B_a.out.cell1
    have c_a2 := B_a.out.cell2
    have c_r0 := B_r.out.cell0
    have c_r1 := B_r.out.cell1
    have c_y0 := B_y.out.cell0
    have c_y1 := B_y.out.cell1
    have c_x0 := B_x.out.cell0
    have c_x1 := B_x.out.cell1
    have f_x0 := B_x.out.fro 0
    have f_x1 := B_x.out.fro 1
    go_simp
    clear c_a0 c_a1 c_a2 c_r0 c_r1 c_y0 c_y1 c_x0 c_x1 f_x0 f_x1
    clear hHeld
    obtain ⟨V51, hV, NB, KP⟩ := storeI B_x.out (.bool b_q) (.slice A_q n_q c_q)
    rw [hV]
    clear hV
    replace X_v := Lib.hid (X_v.out.keeps KP.out)
    replace Y_v := Lib.hid (Y_v.out.keeps KP.out)
    replace Z_q := Lib.hid (Z_q.out.keeps KP.out)
    replace Z_s := Lib.hid (Z_s.out.keeps KP.out)
    replace B_a := Lib.hid (B_a.out.keeps KP.out (by omega))
    replace B_r := Lib.hid (B_r.out.keeps KP.out (by omega))
    replace B_y := Lib.hid (B_y.out.keeps KP.out (by omega))
    replace hB := below_keeps hB KP.out (by omega)
    have B_x := NB
    clear NB KP
    refine hK.out _ _ (by exact B_a.out.c3) (fun hHeld => ?_)
    clear hK K
    try simp only [Act.put, List.setIfInBounds_toArray, List.set_cons_zero, List.set_cons_succ]
    refine wpAnyH_ready (rs := [13]) (by kernel_rfl) (by simp) ?_
    refine AllReadyH.cons (by simp only [List.getElem?_toArray, List.getElem?_cons_succ, List.getElem?_cons_zero]; rfl) (fun K hK => ?_) AllReadyH.nil
    have c_a0 := B_a.out.cell0
    have c_a1 := B_a.out.cell1
    have c_a2 := B_a.out.cell2
    have c_r0 := B_r.out.cell0
    have c_r1 := B_r.out.cell1
    have c_y0 := B_y.out.cell0
    have c_y1 := B_y.out.cell1
    have f_y0 := B_y.out.fro 0
    have f_y1 := B_y.out.fro 1
    have c_x0 := B_x.out.cell0
    have c_x1 := B_x.out.cell1
    go_simp
    clear c_a0 c_a1 c_a2 c_r0 c_r1 c_y0 c_y1 f_y0 f_y1 c_x0 c_x1
    clear hHeld
    obtain ⟨V52, hV, NB, KP⟩ := storeI B_y.out (.bool b_s) (.slice A_s n_s c_s)
    rw [hV]
    clear hV
    replace X_v := Lib.hid (X_v.out.keeps KP.out)
    replace Y_v := Lib.hid (Y_v.out.keeps KP.out)
    replace Z_q := Lib.hid (Z_q.out.keeps KP.out)
    replace Z_s := Lib.hid (Z_s.out.keeps KP.out)
    replace B_a := Lib.hid (B_a.out.keeps KP.out (by omega))
    replace B_r := Lib.hid (B_r.out.keeps KP.out (by omega))
    replace B_x := Lib.hid (B_x.out.keeps KP.out (by omega))
    replace hB := below_keeps hB KP.out (by omega)
    have B_y := NB
    clear NB KP
    refine hK.out _ _ (by exact B_a.out.c3) (fun hHeld => ?_)
    clear hK K
    try simp only [Act.put, List.setIfInBounds_toArray, List.set_cons_zero, List.set_cons_succ]
    refine wpAnyH_takeQ 14 (v := ?_) (fun _ _ _ _ _ h => h) (by simp only [List.getElem?_toArray, List.getElem?_cons_succ, List.getElem?_cons_zero]; rfl) (by kernel_rfl) (by kernel_rfl) (by kernel_rfl) (by rfl) ?_ hHeld ?_; rotate_left; · (intro w hSw; (try dsimp only at hSw); go_simp; (try with_reducible rfl))
    try simp only [Act.put, List.setIfInBounds_toArray, List.set_cons_zero, List.set_cons_succ]
    refine wpAnyH_done (by kernel_rfl) (NoPanic.normal ?_) _
    clear hHeld
    go_wp2_with fail
    go_meet
    exact ⟨b_q, A_q, n_q, c_q, g_x, rfl, l_x_r, B_x.out, by rw [eq_v, ← mk_floor _ nz_v]; exact Z_q.out, B_r.out, hB⟩
    refine AllReadyH.cons (by simp only [List.getElem?_toArray, List.getElem?_cons_succ, List.getElem?_cons_zero]; rfl) (fun K hK => ?_) ?_
    go_simp
    clear hHeld
    obtain ⟨A53, g_x, hV, hg, NB, hb⟩ := newI w48 (.bool false) (.slice none 0 0)
    rw [hV, hg]
    clear hV
    have l_x_a : w.heap.size < g_x := hg ▸ B_a.out.lt
    have l_x_r : w.heap.size + 1 < g_x := hg ▸ B_r.out.lt
    have l_x_y : g_y < g_x := hg ▸ B_y.out.lt
    replace X_v := Lib.hid (X_v.out.below hb)
    replace Y_v := Lib.hid (Y_v.out.below hb)
    replace B_a := Lib.hid (B_a.out.below hb)
    replace B_r := Lib.hid (B_r.out.below hb)
    replace B_y := Lib.hid (B_y.out.below hb)
    replace hB := below_next hB hb
    have B_x := NB
    clear NB hb hg
    refine hK.out _ _ (by exact B_a.out.c3) (fun hHeld => ?_)
    clear hK K
    try simp only [Act.put, List.setIfInBounds_toArray, List.set_cons_zero, List.set_cons_succ]
    refine wpAnyH_ready (rs := [5]) (by kernel_rfl) (by simp) ?_
    refine AllReadyH.cons (by simp only [List.getElem?_toArray, List.getElem?_cons_succ, List.getElem?_cons_zero]; rfl) (fun K hK => ?_) AllReadyH.nil
    go_simp
    clear hHeld
    refine (idivmod_any _ _ _ _ (zval b_v xs_v) (val ys_v) k k _ (by exact ⟨_, X_v.out, lx_v, rfl⟩) (by exact ⟨_, Y_v.out, ly_v, rfl⟩) (by omega) (by omega) (by omega)).mono ?_
    rintro e w54 ⟨b_q, A_q, n_q, c_q, b_s, A_s, n_s, c_s, rfl, h_q, h_s, hb⟩
    replace X_v := Lib.hid (X_v.out.below hb)
    replace Y_v := Lib.hid (Y_v.out.below hb)
    replace B_a := Lib.hid (B_a.out.below hb)
    replace B_r := Lib.hid (B_r.out.below hb)
    replace B_y := Lib.hid (B_y.out.below hb)
    replace B_x := Lib.hid (B_x.out.below hb)
    replace hB := below_next hB hb
    clear hb
    have Z_q := Lib.hid h_q
    clear h_q
    have Z_s := Lib.hid h_s
    clear h_s
    go_wp2_with fail
    refine hK.out _ _ (by exact B_a.out.c3) (fun hHeld => ?_)
    clear hK K
    refine wpAnyH_takeQ 6 (v := ?_) (fun _ _ _ _ _ h => h) (by simp only [List.getElem?_toArray, List.getElem?_cons_succ, List.getElem?_cons_zero]; rfl) (by kernel_rfl) (by kernel_rfl) (by kernel_rfl) (by rfl) ?_ hHeld ?_; rotate_left; · (intro w hSw; (try dsimp only at hSw); go_simp; (try with_reducible rfl))
    try simp only [Act.put, List.setIfInBounds_toArray, List.set_cons_zero, List.set_cons_succ]
    refine wpAnyH_takeQ 7 (v := ?_) (fun _ _ _ _ _ h => h) (by simp only [List.getElem?_toArray, List.getElem?_cons_succ, List.getElem?_cons_zero]; rfl) (by kernel_rfl) (by kernel_rfl) (by kernel_rfl) (by rfl) ?_ hHeld ?_; rotate_left; · (intro w hSw; (try dsimp only at hSw); go_simp; (try with_reducible rfl))
    try simp only [Act.put, List.setIfInBounds_toArray, List.set_cons_zero, List.set_cons_succ]
    refine wpAnyH_takeQ 8 (v := ?_) (fun _ _ _ _ _ h => h) (by simp only [List.getElem?_toArray, List.getElem?_cons_succ, List.getElem?_cons_zero]; rfl) (by kernel_rfl) (by kernel_rfl) (by kernel_rfl) (by rfl) ?_ hHeld ?_; rotate_left; · (intro w hSw; (try dsimp only at hSw); go_simp; (try with_reducible rfl))
    try simp only [Act.put, List.setIfInBounds_toArray, List.set_cons_zero, List.set_cons_succ]
    refine wpAnyH_takeQ 9 (v := ?_) (fun _ _ _ _ _ h => h) (by simp only [List.getElem?_toArray, List.getElem?_cons_succ, List.getElem?_cons_zero]; rfl) (by kernel_rfl) (by kernel_rfl) (by kernel_rfl) (by rfl) ?_ hHeld ?_; rotate_left; · (intro w hSw; (try dsimp only at hSw); go_simp; (try with_reducible rfl))
    try simp only [Act.put, List.setIfInBounds_toArray, List.set_cons_zero, List.set_cons_succ]
    refine wpAnyH_ready (rs := [12]) (by kernel_rfl) (by simp) ?_
    refine AllReadyH.cons (by simp only [List.getElem?_toArray, List.getElem?_cons_succ, List.getElem?_cons_zero]; rfl) (fun K hK => ?_) AllReadyH.nil
    have c_a0 := B_a.out.cell0
    have c_a1 := B_a.out.cell1
    have c_a2 := B_a.out.cell2
    have c_r0 := B_r.out.cell0
    have c_r1 := B_r.out.cell1
    have c_y0 := B_y.out.cell0
    have c_y1 := B_y.out.cell1
    have c_x0 := B_x.out.cell0
    have c_x1 := B_x.out.cell1
    have f_x0 := B_x.out.fro 0
    have f_x1 := B_x.out.fro 1
    go_simp
    clear c_a0 c_a1 c_a2 c_r0 c_r1 c_y0 c_y1 c_x0 c_x1 f_x0 f_x1
    clear hHeld
    obtain ⟨V55, hV, NB, KP⟩ := storeI B_x.out (.bool b_q) (.slice A_q n_q c_q)
    rw [hV]
    clear hV
    replace X_v := Lib.hid (X_v.out.keeps KP.out)
    replace Y_v := Lib.hid (Y_v.out.keeps KP.out)
    replace Z_q := Lib.hid (Z_q.out.keeps KP.out)
    replace Z_s := Lib.hid (Z_s.out.keeps KP.out)
    replace B_a := Lib.hid (B_a.out.keeps KP.out (by omega))
    replace B_r := Lib.hid (B_r.out.keeps KP.out (by omega))
    replace B_y := Lib.hid (B_y.out.keeps KP.out (by omega))
    replace hB := below_keeps hB KP.out (by omega)
    have B_x := NB
    clear NB KP
    refine hK.out _ _ (by exact B_a.out.c3) (fun hHeld => ?_)
    clear hK K
    try simp only [Act.put, List.setIfInBounds_toArray, List.set_cons_zero, List.set_cons_succ]
    refine wpAnyH_ready (rs := [13]) (by kernel_rfl) (by simp) ?_
    refine AllReadyH.cons (by simp only [List.getElem?_toArray, List.getElem?_cons_succ, List.getElem?_cons_zero]; rfl) (fun K hK => ?_) AllReadyH.nil
    have c_a0 := B_a.out.cell0
    have c_a1 := B_a.out.cell1
    have c_a2 := B_a.out.cell2
    have c_r0 := B_r.out.cell0
    have c_r1 := B_r.out.cell1
    have c_y0 := B_y.out.cell0
    have c_y1 := B_y.out.cell1
    have f_y0 := B_y.out.fro 0
    have f_y1 := B_y.out.fro 1
    have c_x0 := B_x.out.cell0
    have c_x1 := B_x.out.cell1
    go_simp
    clear c_a0 c_a1 c_a2 c_r0 c_r1 c_y0 c_y1 f_y0 f_y1 c_x0 c_x1
    clear hHeld
    obtain ⟨V56, hV, NB, KP⟩ := storeI B_y.out (.bool b_s) (.slice A_s n_s c_s)
    rw [hV]
    clear hV
    replace X_v := Lib.hid (X_v.out.keeps KP.out)
    replace Y_v := Lib.hid (Y_v.out.keeps KP.out)
    replace Z_q := Lib.hid (Z_q.out.keeps KP.out)
    replace Z_s := Lib.hid (Z_s.out.keeps KP.out)
    replace B_a := Lib.hid (B_a.out.keeps KP.out (by omega))
    replace B_r := Lib.hid (B_r.out.keeps KP.out (by omega))
    replace B_x := Lib.hid (B_x.out.keeps KP.out (by omega))
    replace hB := below_keeps hB KP.out (by omega)
    have B_y := NB
    clear NB KP
    refine hK.out _ _ (by exact B_a.out.c3) (fun hHeld => ?_)
    clear hK K
    try simp only [Act.put, List.setIfInBounds_toArray, List.set_cons_zero, List.set_cons_succ]
    refine wpAnyH_takeQ 14 (v := ?_) (fun _ _ _ _ _ h => h) (by simp only [List.getElem?_toArray, List.getElem?_cons_succ, List.getElem?_cons_zero]; rfl) (by kernel_rfl) (by kernel_rfl) (by kernel_rfl) (by rfl) ?_ hHeld ?_; rotate_left; · (intro w hSw; (try dsimp only at hSw); go_simp; (try with_reducible rfl))
    try simp only [Act.put, List.setIfInBounds_toArray, List.set_cons_zero, List.set_cons_succ]
    refine wpAnyH_done (by kernel_rfl) (NoPanic.normal ?_) _
    clear hHeld
    go_wp2_with fail
    go_meet
    exact ⟨b_q, A_q, n_q, c_q, g_x, rfl, l_x_r, B_x.out, by rw [eq_v, ← mk_floor _ nz_v]; exact Z_q.out, B_r.out, hB⟩
    exact AllReadyH.nil
    refine AllReadyH.cons (by simp only [List.getElem?_toArray, List.getElem?_cons_succ, List.getElem?_cons_zero]; rfl) (fun K hK => ?_) ?_
    go_simp
    clear hHeld
    obtain ⟨A57, g_x, hV, hg, NB, hb⟩ := newI A47 (.bool false) (.slice none 0 0)
    rw [hV, hg]
    clear hV
    have l_x_a : w.heap.size < g_x := hg ▸ B_a.out.lt
    have l_x_r : w.heap.size + 1 < g_x := hg ▸ B_r.out.lt
    have l_x_y : g_y < g_x := hg ▸ B_y.out.lt
    replace X_v := Lib.hid (X_v.out.below hb)
    replace Y_v := Lib.hid (Y_v.out.below hb)
    replace B_a := Lib.hid (B_a.out.below hb)
    replace B_r := Lib.hid (B_r.out.below hb)
    replace B_y := Lib.hid (B_y.out.below hb)
    replace hB := below_next hB hb
    have B_x := NB
    clear NB hb hg
    refine hK.out _ _ (by exact B_a.out.c3) (fun hHeld => ?_)
    clear hK K
    try simp only [Act.put, List.setIfInBounds_toArray, List.set_cons_zero, List.set_cons_succ]
    refine wpAnyH_ready (rs := [4]) (by kernel_rfl) (by simp) ?_
    refine AllReadyH.cons (by simp only [List.getElem?_toArray, List.getElem?_cons_succ, List.getElem?_cons_zero]; rfl) (fun K hK => ?_) AllReadyH.nil
    go_simp
    clear hHeld
    refine (qpos_any _ _ _ _).mono ?_
    rintro e w58 ⟨rfl, hb⟩
    replace X_v := Lib.hid (X_v.out.below hb)
    replace Y_v := Lib.hid (Y_v.out.below hb)
    replace B_a := Lib.hid (B_a.out.below hb)
    replace B_r := Lib.hid (B_r.out.below hb)
    replace B_y := Lib.hid (B_y.out.below hb)
    replace B_x := Lib.hid (B_x.out.below hb)
    replace hB := below_next hB hb
    clear hb
    go_wp2_with fail
    refine hK.out _ _ (by exact B_a.out.c3) (fun hHeld => ?_)
    clear hK K
    refine wpAnyH_ready (rs := [5]) (by kernel_rfl) (by simp) ?_
    refine AllReadyH.cons (by simp only [List.getElem?_toArray, List.getElem?_cons_succ, List.getElem?_cons_zero]; rfl) (fun K hK => ?_) AllReadyH.nil
    go_simp
    clear hHeld
    refine (idivmod_any _ _ _ _ (zval b_v xs_v) (val ys_v) k k _ (by exact ⟨_, X_v.out, lx_v, rfl⟩) (by exact ⟨_, Y_v.out, ly_v, rfl⟩) (by omega) (by omega) (by omega)).mono ?_
    rintro e w59 ⟨b_q, A_q, n_q, c_q, b_s, A_s, n_s, c_s, rfl, h_q, h_s, hb⟩
    replace X_v := Lib.hid (X_v.out.below hb)
    replace Y_v := Lib.hid (Y_v.out.below hb)
    replace B_a := Lib.hid (B_a.out.below hb)
    replace B_r := Lib.hid (B_r.out.below hb)
    replace B_y := Lib.hid (B_y.out.below hb)
    replace B_x := Lib.hid (B_x.out.below hb)
    replace hB := below_next hB hb
    clear hb
    have Z_q := Lib.hid h_q
    clear h_q
    have Z_s := Lib.hid h_s
    clear h_s
    go_wp2_with fail
    refine hK.out _ _ (by exact B_a.out.c3) (fun hHeld => ?_)
    clear hK K
    refine wpAnyH_takeQ 6 (v := ?_) (fun _ _ _ _ _ h => h) (by simp only [List.getElem?_toArray, List.getElem?_cons_succ, List.getElem?_cons_zero]; rfl) (by kernel_rfl) (by kernel_rfl) (by kernel_rfl) (by rfl) ?_ hHeld ?_; rotate_left; · (intro w hSw; (try dsimp only at hSw); go_simp; (try with_reducible rfl))
    try simp only [Act.put, List.setIfInBounds_toArray, List.set_cons_zero, List.set_cons_succ]
    refine wpAnyH_takeQ 7 (v := ?_) (fun _ _ _ _ _ h => h) (by simp only [List.getElem?_toArray, List.getElem?_cons_succ, List.getElem?_cons_zero]; rfl) (by kernel_rfl) (by kernel_rfl) (by kernel_rfl) (by rfl) ?_ hHeld ?_; rotate_left; · (intro w hSw; (try dsimp only at hSw); go_simp; (try with_reducible rfl))
    try simp only [Act.put, List.setIfInBounds_toArray, List.set_cons_zero, List.set_cons_succ]
    refine wpAnyH_takeQ 8 (v := ?_) (fun _ _ _ _ _ h => h) (by simp only [List.getElem?_toArray, List.getElem?_cons_succ, List.getElem?_cons_zero]; rfl) (by kernel_rfl) (by kernel_rfl) (by kernel_rfl) (by rfl) ?_ hHeld ?_; rotate_left; · (intro w hSw; (try dsimp only at hSw); go_simp; (try with_reducible rfl))
    try simp only [Act.put, List.setIfInBounds_toArray, List.set_cons_zero, List.set_cons_succ]
    refine wpAnyH_takeQ 9 (v := ?_) (fun _ _ _ _ _ h => h) (by simp only [List.getElem?_toArray, List.getElem?_cons_succ, List.getElem?_cons_zero]; rfl) (by kernel_rfl) (by kernel_rfl) (by kernel_rfl) (by rfl) ?_ hHeld ?_; rotate_left; · (intro w hSw; (try dsimp only at hSw); go_simp; (try with_reducible rfl))
    try simp only [Act.put, List.setIfInBounds_toArray, List.set_cons_zero, List.set_cons_succ]
    refine wpAnyH_ready (rs := [12]) (by kernel_rfl) (by simp) ?_
    refine AllReadyH.cons (by simp only [List.getElem?_toArray, List.getElem?_cons_succ, List.getElem?_cons_zero]; rfl) (fun K hK => ?_) AllReadyH.nil
    have c_a0 := B_a.out.cell0
    have c_a1 := B_a.out.cell1
    have c_a2 := B_a.out.cell2
    have c_r0 := B_r.out.cell0
    have c_r1 := B_r.out.cell1
    have c_y0 := B_y.out.cell0
    have c_y1 := B_y.out.cell1
    have c_x0 := B_x.out.cell0
    have c_x1 := B_x.out.cell1
    have f_x0 := B_x.out.fro 0
    have f_x1 := B_x.out.fro 1
    go_simp
    clear c_a0 c_a1 c_a2 c_r0 c_r1 c_y0 c_y1 c_x0 c_x1 f_x0 f_x1
    clear hHeld
    obtain ⟨V60, hV, NB, KP⟩ := storeI B_x.out (.bool b_q) (.slice A_q n_q c_q)
    rw [hV]
    clear hV
    replace X_v := Lib.hid (X_v.out.keeps KP.out)
    replace Y_v := Lib.hid (Y_v.out.keeps KP.out)
    replace Z_q := Lib.hid (Z_q.out.keeps KP.out)
    replace Z_s := Lib.hid (Z_s.out.keeps KP.out)
    replace B_a := Lib.hid (B_a.out.keeps KP.out (by omega))
    replace B_r := Lib.hid (B_r.out.keeps KP.out (by omega))
    replace B_y := Lib.hid (B_y.out.keeps KP.out (by omega))
    replace hB := below_keeps hB KP.out (by omega)
    have B_x := NB
    clear NB KP
    refine hK.out _ _ (by exact B_a.out.c3) (fun hHeld => ?_)
    clear hK K
    try simp only [Act.put, List.setIfInBounds_toArray, List.set_cons_zero, List.set_cons_succ]
    refine wpAnyH_ready (rs := [13]) (by kernel_rfl) (by simp) ?_
    refine AllReadyH.cons (by simp only [List.getElem?_toArray, List.getElem?_cons_succ, List.getElem?_cons_zero]; rfl) (fun K hK => ?_) AllReadyH.nil
    have c_a0 := B_a.out.cell0
    have c_a1 := B_a.out.cell1
    have c_a2 := B_a.out.cell2
    have c_r0 := B_r.out.cell0
    have c_r1 := B_r.out.cell1
    have c_y0 := B_y.out.cell0
    have c_y1 := B_y.out.cell1
    have f_y0 := B_y.out.fro 0
    have f_y1 := B_y.out.fro 1
    have c_x0 := B_x.out.cell0
    have c_x1 := B_x.out.cell1
    go_simp
    clear c_a0 c_a1 c_a2 c_r0 c_r1 c_y0 c_y1 f_y0 f_y1 c_x0 c_x1
    clear hHeld
    obtain ⟨V61, hV, NB, KP⟩ := storeI B_y.out (.bool b_s) (.slice A_s n_s c_s)
    rw [hV]
    clear hV
    replace X_v := Lib.hid (X_v.out.keeps KP.out)
    replace Y_v := Lib.hid (Y_v.out.keeps KP.out)
    replace Z_q := Lib.hid (Z_q.out.keeps KP.out)
    replace Z_s := Lib.hid (Z_s.out.keeps KP.out)
    replace B_a := Lib.hid (B_a.out.keeps KP.out (by omega))
    replace B_r := Lib.hid (B_r.out.keeps KP.out (by omega))
    replace B_x := Lib.hid (B_x.out.keeps KP.out (by omega))
    replace hB := below_keeps hB KP.out (by omega)
    have B_y := NB
    clear NB KP
    refine hK.out _ _ (by exact B_a.out.c3) (fun hHeld => ?_)
    clear hK K
    try simp only [Act.put, List.setIfInBounds_toArray, List.set_cons_zero, List.set_cons_succ]
    refine wpAnyH_takeQ 14 (v := ?_) (fun _ _ _ _ _ h => h) (by simp only [List.getElem?_toArray, List.getElem?_cons_succ, List.getElem?_cons_zero]; rfl) (by kernel_rfl) (by kernel_rfl) (by kernel_rfl) (by rfl) ?_ hHeld ?_; rotate_left; · (intro w hSw; (try dsimp only at hSw); go_simp; (try with_reducible rfl))
    try simp only [Act.put, List.setIfInBounds_toArray, List.set_cons_zero, List.set_cons_succ]
    refine wpAnyH_done (by kernel_rfl) (NoPanic.normal ?_) _
    clear hHeld
    go_wp2_with fail
    go_meet
    exact ⟨b_q, A_q, n_q, c_q, g_x, rfl, l_x_r, B_x.out, by rw [eq_v, ← mk_floor _ nz_v]; exact Z_q.out, B_r.out, hB⟩
    exact AllReadyH.nil
    exact AllReadyH.nil
  case rest =>
    obtain ⟨b_q, A_q, n_q, c_q, g_x, rfl, hgx, bx, zx, br, hB9⟩ := hcut
    clear X_v Y_v B_a B_r hB
    have hB := hB9
    have B_x := Lib.hid bx
    have B_r := Lib.hid br
    have Z_q := Lib.hid zx
    clear hB9 bx br zx
    have c_r0 := B_r.out.cell0
    have c_r1 := B_r.out.cell1
    have f_r0 := B_r.out.fro 0
    have f_r1 := B_r.out.fro 1
    have c_x0 := B_x.out.cell0
    have c_x1 := B_x.out.cell1
    go_wp2
    clear c_r0 c_r1 f_r0 f_r1 c_x0 c_x1
    obtain ⟨V62, hV, NB, KP⟩ := storeI B_r.out (.bool b_q) (.slice A_q n_q c_q)
    rw [hV]
    clear hV
    replace Z_q := Lib.hid (Z_q.out.keeps KP.out)
    replace B_x := Lib.hid (B_x.out.keeps KP.out (by omega))
    replace hB := below_keeps hB KP.out (by omega)
    have B_r := NB
    clear NB KP
    have c_r0 := B_r.out.cell0
    have c_r1 := B_r.out.cell1
    refine bodyPost_ret (v := .agg #[.bool b_q, .slice A_q n_q c_q]) (by simp [results, Tryd.results20, go_sem, c_r0, c_r1]) rfl ?_
    exact ⟨_, _, _, _, rfl, Z_q.out, hB⟩
set_option maxRecDepth 100000 in
set_option maxHeartbeats 8000000 in
theorem qround_any (b_a : Bool) (m_a d_a : Value) (q : Rat) (k : Nat) (w : World) (h_a : RAt w b_a m_a d_a q k) (hk : 1 ≤ k) (hk2 : k ≤ 50000) : Calls Tryd.prog 21 #[.agg #[.bool b_a, m_a, d_a]] w (GivesZ w (qround q)) := by
  have R_a := Lib.hid h_a
  obtain ⟨xs_a, ys_a, hx_a, hy_a, -, -, -⟩ := h_a
  obtain ⟨A_a, c_a, rfl, _, _⟩ := hx_a.form
  obtain ⟨D_a, f_a, rfl, _, _⟩ := hy_a.form
  clear hx_a hy_a
  go_enter Tryd.func21, Tryd.ntmps21
  go_upto_region 1 with fail
  obtain ⟨W0, hW, B_a, B_r, HW, HS⟩ := rboxRI w (.bool b_a) (.slice A_a xs_a.length c_a) (.slice D_a ys_a.length f_a) (.bool false) (.slice none 0 0)
  rw [hW]
  clear hW
  replace R_a := Lib.hid (R_a.out.below HW.out)
  have hB := HW.out
  have hsz := HS.out
  clear HW HS
  have c_a0 := B_a.out.cell0
  have c_a1 := B_a.out.cell1
  have c_a2 := B_a.out.cell2
  have c_r0 := B_r.out.cell0
  have c_r1 := B_r.out.cell1
  go_wp2_with fail
  clear c_a0 c_a1 c_a2 c_r0 c_r1
  refine (qvalue_any _ _ _ q k _ (by exact R_a.out) hk).mono ?_
  rintro e w1 ⟨b_v, A_v, n_v, c_v, D_v, e_v, f_v, xs_v, ys_v, rfl, hx_v, hy_v, lx_v, ly_v, nz_v, eq_v, hb⟩
  replace R_a := Lib.hid (R_a.out.below hb)
  replace B_a := Lib.hid (B_a.out.below hb)
  replace B_r := Lib.hid (B_r.out.below hb)
  replace hB := below_next hB hb
  clear hb
  have X_v := Lib.hid hx_v
  clear hx_v
  have Y_v := Lib.hid hy_v
  clear hy_v
  have c_a0 := B_a.out.cell0
  have c_a1 := B_a.out.cell1
  have c_a2 := B_a.out.cell2
  have f_a0 := B_a.out.fro 0
  have f_a1 := B_a.out.fro 1
  have f_a2 := B_a.out.fro 2
  have c_r0 := B_r.out.cell0
  have c_r1 := B_r.out.cell1
  go_upto_region 2 with fail
  clear c_a0 c_a1 c_a2 f_a0 f_a1 f_a2 c_r0 c_r1
  obtain ⟨V2, hV, NB, KP⟩ := storeR B_a.out (.bool b_v) (.slice A_v n_v c_v) (.slice D_v e_v f_v)
  rw [hV]
  clear hV
  replace R_a := Lib.hid (R_a.out.keeps KP.out)
  replace X_v := Lib.hid (X_v.out.keeps KP.out)
  replace Y_v := Lib.hid (Y_v.out.keeps KP.out)
  replace B_r := Lib.hid (B_r.out.keeps KP.out (by omega))
  replace hB := below_keeps hB KP.out (by omega)
  have B_a := NB
  clear NB KP
  clear R_a
  have S_x := Lib.hid (X_v.out.sz lx_v)
  have S_y := Lib.hid (Y_v.out.sz ly_v)
  have c_a0 := B_a.out.cell0
  have c_a1 := B_a.out.cell1
  have c_a2 := B_a.out.cell2
  have c_r0 := B_r.out.cell0
  have c_r1 := B_r.out.cell1
  go_wp2_with fail
  clear c_a0 c_a1 c_a2 c_r0 c_r1
  refine (add_any _ _ _ _ _ (by exact X_v.out) (by exact X_v.out) (by omega) (by omega)).mono ?_
  rintro e w3 ⟨v_t, rfl, h_t, hb⟩
  replace X_v := Lib.hid (X_v.out.below hb)
  replace Y_v := Lib.hid (Y_v.out.below hb)
  replace B_a := Lib.hid (B_a.out.below hb)
  replace B_r := Lib.hid (B_r.out.below hb)
  replace hB := below_next hB hb
  clear hb
  have N_t := Lib.hid h_t
  clear h_t
  have c_a0 := B_a.out.cell0
  have c_a1 := B_a.out.cell1
  have c_a2 := B_a.out.cell2
  have c_r0 := B_r.out.cell0
  have c_r1 := B_r.out.cell1
  go_wp2_with fail
  clear c_a0 c_a1 c_a2 c_r0 c_r1
  refine wp_region_named (S := (fun w' => (w'.cell? ⟨w.heap.size, 0, none⟩ = some (.bool b_v) ∧ w'.cell? ⟨w.heap.size, 1, none⟩ = some (.slice A_v n_v c_v) ∧ w'.cell? ⟨w.heap.size, 2, none⟩ = some (.slice D_v e_v f_v)))) (by kernel_rfl) (by exact B_a.out.c3) (fun V4 hb hHeld => ?_)
  replace X_v := Lib.hid (X_v.out.below hb)
  replace Y_v := Lib.hid (Y_v.out.below hb)
  replace N_t := Lib.hid (N_t.out.below hb)
  replace B_a := Lib.hid (B_a.out.below hb)
  replace B_r := Lib.hid (B_r.out.below hb)
  replace hB := below_next hB hb
  clear hb
  refine wpAnyH_takeQ 0 (v := ?_) (fun _ _ _ _ _ h => h) (by simp only [List.getElem?_toArray, List.getElem?_cons_zero]; rfl) (by kernel_rfl) (by kernel_rfl) (by kernel_rfl) (by rfl) ?_ hHeld ?_; rotate_left; · (intro w hSw; (try dsimp only at hSw); go_simp; (try with_reducible rfl))
  try simp only [Act.put, List.setIfInBounds_toArray, List.set_cons_zero, List.set_cons_succ]
  refine wpAnyH_takeQ 1 (v := ?_) (fun _ _ _ _ _ h => h) (by simp only [List.getElem?_toArray, List.getElem?_cons_succ, List.getElem?_cons_zero]; rfl) (by kernel_rfl) (by kernel_rfl) (by kernel_rfl) (by rfl) ?_ hHeld ?_; rotate_left; · (intro w hSw; (try dsimp only at hSw); go_simp; (try with_reducible rfl))
  try simp only [Act.put, List.setIfInBounds_toArray, List.set_cons_zero, List.set_cons_succ]
  refine wpAnyH_takeQ 2 (v := ?_) (fun _ _ _ _ _ h => h) (by simp only [List.getElem?_toArray, List.getElem?_cons_succ, List.getElem?_cons_zero]; rfl) (by kernel_rfl) (by kernel_rfl) (by kernel_rfl) (by rfl) ?_ hHeld ?_; rotate_left; · (intro w hSw; (try dsimp only at hSw); go_simp; (try with_reducible rfl))
  try simp only [Act.put, List.setIfInBounds_toArray, List.set_cons_zero, List.set_cons_succ]
  refine wpAnyH_takeQ 4 (v := ?_) (fun _ _ _ _ _ h => h) (by simp only [List.getElem?_toArray, List.getElem?_cons_succ, List.getElem?_cons_zero]; rfl) (by kernel_rfl) (by kernel_rfl) (by kernel_rfl) (by rfl) ?_ hHeld ?_; rotate_left; · (intro w hSw; (try dsimp only at hSw); go_simp; (try with_reducible rfl))
  try simp only [Act.put, List.setIfInBounds_toArray, List.set_cons_zero, List.set_cons_succ]
  refine wpAnyH_takeQ 5 (v := ?_) (fun _ _ _ _ _ h => h) (by simp only [List.getElem?_toArray, List.getElem?_cons_succ, List.getElem?_cons_zero]; rfl) (by kernel_rfl) (by kernel_rfl) (by kernel_rfl) (by rfl) ?_ hHeld ?_; rotate_left; · (intro w hSw; (try dsimp only at hSw); go_simp; (try with_reducible rfl))
  try simp only [Act.put, List.setIfInBounds_toArray, List.set_cons_zero, List.set_cons_succ]
  refine wpAnyH_takeQ 6 (v := ?_) (fun _ _ _ _ _ h => h) (by simp only [List.getElem?_toArray, List.getElem?_cons_succ, List.getElem?_cons_zero]; rfl) (by kernel_rfl) (by kernel_rfl) (by kernel_rfl) (by rfl) ?_ hHeld ?_; rotate_left; · (intro w hSw; (try dsimp only at hSw); go_simp; (try with_reducible rfl))
  try simp only [Act.put, List.setIfInBounds_toArray, List.set_cons_zero, List.set_cons_succ]
  refine wpAnyH_takeQ 7 (v := ?_) (fun _ _ _ _ _ h => h) (by simp only [List.getElem?_toArray, List.getElem?_cons_succ, List.getElem?_cons_zero]; rfl) (by kernel_rfl) (by kernel_rfl) (by kernel_rfl) (by rfl) ?_ hHeld ?_; rotate_left; · (intro w hSw; (try dsimp only at hSw); go_simp; (try with_reducible rfl))
  try simp only [Act.put, List.setIfInBounds_toArray, List.set_cons_zero, List.set_cons_succ]
  refine wpAnyH_ready (rs := [3]) (by kernel_rfl) (by simp) ?_
  refine AllReadyH.cons (by simp only [List.getElem?_toArray, List.getElem?_cons_succ, List.getElem?_cons_zero]; rfl) (fun K hK => ?_) AllReadyH.nil
  go_simp
  clear hHeld
  refine (add_any _ _ _ _ _ (by exact N_t.out) (by exact Y_v.out) (Nat.le_trans (limbs_length_le (S_x.out.add S_x.out)) (by omega)) (by omega)).mono ?_
  rintro e w5 ⟨v_u, rfl, h_u, hb⟩
  replace X_v := Lib.hid (X_v.out.below hb)
  replace Y_v := Lib.hid (Y_v.out.below hb)
  replace N_t := Lib.hid (N_t.out.below hb)
  replace B_a := Lib.hid (B_a.out.below hb)
  replace B_r := Lib.hid (B_r.out.below hb)
  replace hB := below_next hB hb
  clear hb
  rw [val_limbs] at h_u
  have N_u := Lib.hid h_u
  clear h_u
  go_wp2_with fail
  refine hK.out _ _ (by exact B_a.out.c3) (fun hHeld => ?_)
  clear hK K
  refine wpAnyH_ready (rs := [8]) (by kernel_rfl) (by simp) ?_
  refine AllReadyH.cons (by simp only [List.getElem?_toArray, List.getElem?_cons_succ, List.getElem?_cons_zero]; rfl) (fun K hK => ?_) AllReadyH.nil
  go_simp
  clear hHeld
  refine (add_any _ _ _ _ _ (by exact Y_v.out) (by exact Y_v.out) (by omega) (by omega)).mono ?_
  rintro e w6 ⟨v_d, rfl, h_d, hb⟩
  replace X_v := Lib.hid (X_v.out.below hb)
  replace Y_v := Lib.hid (Y_v.out.below hb)
  replace N_t := Lib.hid (N_t.out.below hb)
  replace N_u := Lib.hid (N_u.out.below hb)
  replace B_a := Lib.hid (B_a.out.below hb)
  replace B_r := Lib.hid (B_r.out.below hb)
  replace hB := below_next hB hb
  clear hb
  have N_d := Lib.hid h_d
  clear h_d
  go_wp2_with fail
  refine hK.out _ _ (by exact B_a.out.c3) (fun hHeld => ?_)
  clear hK K
  refine wpAnyH_ready (rs := [9]) (by kernel_rfl) (by simp) ?_
  refine AllReadyH.cons (by simp only [List.getElem?_toArray, List.getElem?_cons_succ, List.getElem?_cons_zero]; rfl) (fun K hK => ?_) AllReadyH.nil
  go_simp
  clear hHeld
  refine (divmod_any _ _ _ _ _ (by exact N_u.out) (by exact N_d.out) (Nat.le_trans (limbs_length_le ((S_x.out.add S_x.out).add (S_y.out.more (Nat.le_succ k)))) (by omega)) (Nat.le_trans (limbs_length_le (S_y.out.add S_y.out)) (by omega)) (by rw [val_limbs]; omega)).mono ?_
  rintro e w7 ⟨v_q, u_q, rfl, h_q, z_q, hb⟩
  replace X_v := Lib.hid (X_v.out.below hb)
  replace Y_v := Lib.hid (Y_v.out.below hb)
  replace N_t := Lib.hid (N_t.out.below hb)
  replace N_u := Lib.hid (N_u.out.below hb)
  replace N_d := Lib.hid (N_d.out.below hb)
  replace B_a := Lib.hid (B_a.out.below hb)
  replace B_r := Lib.hid (B_r.out.below hb)
  replace hB := below_next hB hb
  clear hb
  clear z_q
  rw [val_limbs, val_limbs] at h_q
  obtain ⟨A_q, c_q, rfl, _, _⟩ := h_q.form
  have N_q := Lib.hid h_q
  clear h_q
  go_wp2_with fail
  refine hK.out _ _ (by exact B_a.out.c3) (fun hHeld => ?_)
  clear hK K
  refine wpAnyH_takeQ 10 (v := ?_) (fun _ _ _ _ _ h => h) (by simp only [List.getElem?_toArray, List.getElem?_cons_succ, List.getElem?_cons_zero]; rfl) (by kernel_rfl) (by kernel_rfl) (by kernel_rfl) (by rfl) ?_ hHeld ?_; rotate_left; · (intro w hSw; (try dsimp only at hSw); go_simp; (try with_reducible rfl))
  try simp only [Act.put, List.setIfInBounds_toArray, List.set_cons_zero, List.set_cons_succ]
  refine wpAnyH_takeQ 11 (v := ?_) (fun _ _ _ _ _ h => h) (by simp only [List.getElem?_toArray, List.getElem?_cons_succ, List.getElem?_cons_zero]; rfl) (by kernel_rfl) (by kernel_rfl) (by kernel_rfl) (by rfl) ?_ hHeld ?_; rotate_left; · (intro w hSw; (try dsimp only at hSw); go_simp; (try with_reducible rfl))
  try simp only [Act.put, List.setIfInBounds_toArray, List.set_cons_zero, List.set_cons_succ]
  refine wpAnyH_takeQ 12 (v := ?_) (fun _ _ _ _ _ h => h) (by simp only [List.getElem?_toArray, List.getElem?_cons_succ, List.getElem?_cons_zero]; rfl) (by kernel_rfl) (by kernel_rfl) (by kernel_rfl) (by rfl) ?_ hHeld ?_; rotate_left; · (intro w hSw; (try dsimp only at hSw); go_simp; (try with_reducible rfl))
  try simp only [Act.put, List.setIfInBounds_toArray, List.set_cons_zero, List.set_cons_succ]
  refine wpAnyH_takeQ 13 (v := ?_) (fun _ _ _ _ _ h => h) (by simp only [List.getElem?_toArray, List.getElem?_cons_succ, List.getElem?_cons_zero]; rfl) (by kernel_rfl) (by kernel_rfl) (by kernel_rfl) (by rfl) ?_ hHeld ?_; rotate_left; · (intro w hSw; (try dsimp only at hSw); go_simp; (try with_reducible rfl))
  try simp only [Act.put, List.setIfInBounds_toArray, List.set_cons_zero, List.set_cons_succ]
  refine wpAnyH_takeQ 14 (v := ?_) (fun _ _ _ _ _ h => h) (by simp only [List.getElem?_toArray, List.getElem?_cons_succ, List.getElem?_cons_zero]; rfl) (by kernel_rfl) (by kernel_rfl) (by kernel_rfl) (by rfl) ?_ hHeld ?_; rotate_left; · (intro w hSw; (try dsimp only at hSw); go_simp; (try with_reducible rfl))
  try simp only [Act.put, List.setIfInBounds_toArray, List.set_cons_zero, List.set_cons_succ]
  refine wpAnyH_takeQ 15 (v := ?_) (fun _ _ _ _ _ h => h) (by simp only [List.getElem?_toArray, List.getElem?_cons_succ, List.getElem?_cons_zero]; rfl) (by kernel_rfl) (by kernel_rfl) (by kernel_rfl) (by rfl) ?_ hHeld ?_; rotate_left; · (intro w hSw; (try dsimp only at hSw); go_simp; (try with_reducible rfl))
  try simp only [Act.put, List.setIfInBounds_toArray, List.set_cons_zero, List.set_cons_succ]
  refine wpAnyH_takeQ 16 (v := ?_) (fun _ _ _ _ _ h => h) (by simp only [List.getElem?_toArray, List.getElem?_cons_succ, List.getElem?_cons_zero]; rfl) (by kernel_rfl) (by kernel_rfl) (by kernel_rfl) (by rfl) ?_ hHeld ?_; rotate_left; · (intro w hSw; (try dsimp only at hSw); go_simp; (try with_reducible rfl))
  try simp only [Act.put, List.setIfInBounds_toArray, List.set_cons_zero, List.set_cons_succ]
  refine wpAnyH_done (by kernel_rfl) (NoPanic.normal ?_) _
  clear hHeld
  have c_a0 := B_a.out.cell0
  have c_a1 := B_a.out.cell1
  have c_a2 := B_a.out.cell2
  have c_r0 := B_r.out.cell0
  have c_r1 := B_r.out.cell1
  go_wp2_with fail
  clear c_a0 c_a1 c_a2 c_r0 c_r1
  refine (inorm_any _ _ _ (k + 2) _ (by exact ⟨_, N_q.out, limbs_length_le (((S_x.out.add S_x.out).add (S_y.out.more (Nat.le_succ k))).le (Nat.div_le_self _ _)), rfl⟩) (by omega)).mono ?_
  rintro e w8 ⟨b_s, A_s, n_s, c_s, rfl, h_s, hb⟩
  replace X_v := Lib.hid (X_v.out.below hb)
  replace Y_v := Lib.hid (Y_v.out.below hb)
  replace N_t := Lib.hid (N_t.out.below hb)
  replace N_u := Lib.hid (N_u.out.below hb)
  replace N_d := Lib.hid (N_d.out.below hb)
  replace N_q := Lib.hid (N_q.out.below hb)
  replace B_a := Lib.hid (B_a.out.below hb)
  replace B_r := Lib.hid (B_r.out.below hb)
  replace hB := below_next hB hb
  clear hb
  rw [mk_round b_v xs_v nz_v, ← eq_v] at h_s
  have Z_s := Lib.hid h_s
  clear h_s
  have c_a0 := B_a.out.cell0
  have c_a1 := B_a.out.cell1
  have c_a2 := B_a.out.cell2
  have c_r0 := B_r.out.cell0
  have c_r1 := B_r.out.cell1
  have f_r0 := B_r.out.fro 0
  have f_r1 := B_r.out.fro 1
  go_wp2
  clear c_a0 c_a1 c_a2 c_r0 c_r1 f_r0 f_r1
  obtain ⟨V9, hV, NB, KP⟩ := storeI B_r.out (.bool b_s) (.slice A_s n_s c_s)
  rw [hV]
  clear hV
  replace X_v := Lib.hid (X_v.out.keeps KP.out)
  replace Y_v := Lib.hid (Y_v.out.keeps KP.out)
  replace N_t := Lib.hid (N_t.out.keeps KP.out)
  replace N_u := Lib.hid (N_u.out.keeps KP.out)
  replace N_d := Lib.hid (N_d.out.keeps KP.out)
  replace N_q := Lib.hid (N_q.out.keeps KP.out)
  replace Z_s := Lib.hid (Z_s.out.keeps KP.out)
  replace B_a := Lib.hid (B_a.out.keeps KP.out (by omega))
  replace hB := below_keeps hB KP.out (by omega)
  have B_r := NB
  clear NB KP
  have c_r0 := B_r.out.cell0
  have c_r1 := B_r.out.cell1
  refine bodyPost_ret (v := .agg #[.bool b_s, .slice A_s n_s c_s]) (by simp [results, Tryd.results21, go_sem, c_r0, c_r1]) rfl ?_
  exact ⟨_, _, _, _, rfl, Z_s.out, hB⟩
open Go.Lib (decDigits)
theorem ncmp_is {va vb : Value} {xs ys : List Nat} {w : World} {v : Int} (ha : NatAt w va xs) (hb : NatAt w vb ys) (h : ord (val xs) (val ys) = v) : Calls Tryd.prog 46 #[va, vb] w (GivesOrd w v) :=
  (cmp_below va vb xs ys w ha hb).mono fun _ _ ⟨he, hb, _⟩ => ⟨by rw [he, h], hb⟩
/-- A ratio's notation. -/
def qtext (q : Rat) : List UInt8 := if q.den = 1 then ztext q.num else ztext q.num ++ 47 :: decDigits q.den
theorem str_slash (a b : List UInt8) : (ByteArray.mk a.toArray ++ ByteArray.mk #[47]) ++ ByteArray.mk b.toArray = ByteArray.mk (a ++ 47 :: b).toArray := by
  rw [ByteArray.mk_append_mk a [47], ByteArray.mk_append_mk]
  simp
theorem ztext_len {z : Int} {k : Nat} (h : (limbs z.natAbs).length ≤ k) : (ztext z).length ≤ 10 * k + 2 := by
  have := dec_len_le z.natAbs
  unfold ztext
  split
  · rw [List.length_cons]; omega
  · omega
set_option maxRecDepth 100000 in
set_option maxHeartbeats 8000000 in
theorem qtext_any (b_a : Bool) (m_a d_a : Value) (q : Rat) (k : Nat) (w : World) (h_a : RAt w b_a m_a d_a q k) (hk : 1 ≤ k) (hk2 : k ≤ 100000) (htab : Tab w) : Calls Tryd.prog 24 #[.agg #[.bool b_a, m_a, d_a]] w (GivesStr w (qtext q)) := by
  have R_a := Lib.hid h_a
  obtain ⟨xs_a, ys_a, hx_a, hy_a, -, -, -⟩ := h_a
  obtain ⟨A_a, c_a, rfl, _, _⟩ := hx_a.form
  obtain ⟨D_a, f_a, rfl, _, _⟩ := hy_a.form
  clear hx_a hy_a
  have HT := Lib.hid htab
  have S_q := Lib.hid (RAt.sz R_a.out hk)
  have ln := limbs_length_le S_q.out.1
  have ld := limbs_length_le S_q.out.2
  have tn := ztext_len ln
  have td := dec_len_le q.den
  have tl1 : ¬ (9223372036854775807 < (ztext q.num).length + 1) := by omega
  have tl2 : ¬ (9223372036854775807 < (ztext q.num).length + 1 + (decDigits q.den).length) := by omega
  clear htab
  by_cases h1 : q.den = 1
  · skip
    go_enter Tryd.func24, Tryd.ntmps24
    go_upto_region 1 with fail
    obtain ⟨W0, hW, B_a, HW, HS⟩ := rbox1 w (.bool b_a) (.slice A_a xs_a.length c_a) (.slice D_a ys_a.length f_a)
    rw [hW]
    clear hW
    replace R_a := Lib.hid (R_a.out.below HW.out)
    have hB := HW.out
    have hsz := HS.out
    clear HW HS
    have c_a0 := B_a.out.cell0
    have c_a1 := B_a.out.cell1
    have c_a2 := B_a.out.cell2
    go_wp2_with fail
    clear c_a0 c_a1 c_a2
    refine (qnorm_any _ _ _ q k _ (by exact R_a.out) hk (by omega)).mono ?_
    rintro e w1 ⟨b_s, A_s, n_s, c_s, D_s, e_s, f_s, rfl, h_s, hb⟩
    replace R_a := Lib.hid (R_a.out.below hb)
    replace B_a := Lib.hid (B_a.out.below hb)
    replace hB := below_next hB hb
    clear hb
    have Q_s := Lib.hid h_s
    clear h_s
    have c_a0 := B_a.out.cell0
    have c_a1 := B_a.out.cell1
    have c_a2 := B_a.out.cell2
    have f_a0 := B_a.out.fro 0
    have f_a1 := B_a.out.fro 1
    have f_a2 := B_a.out.fro 2
    go_upto_region 2 with fail
    clear c_a0 c_a1 c_a2 f_a0 f_a1 f_a2
    obtain ⟨V2, hV, NB, KP⟩ := storeR B_a.out (.bool b_s) (.slice A_s n_s c_s) (.slice D_s e_s f_s)
    rw [hV]
    clear hV
    replace R_a := Lib.hid (R_a.out.keeps KP.out)
    replace Q_s := Lib.hid (Q_s.out.keeps KP.out)
    replace hB := below_keeps hB KP.out (by omega)
    have B_a := NB
    clear NB KP
    clear R_a
    refine wp_region_named (S := (fun w' => (w'.cell? ⟨w.heap.size, 0, none⟩ = some (.bool b_s) ∧ w'.cell? ⟨w.heap.size, 1, none⟩ = some (.slice A_s n_s c_s) ∧ w'.cell? ⟨w.heap.size, 2, none⟩ = some (.slice D_s e_s f_s)))) (by kernel_rfl) (by exact B_a.out.c3) (fun V3 hb hHeld => ?_)
    replace Q_s := Lib.hid (Q_s.out.below hb)
    replace B_a := Lib.hid (B_a.out.below hb)
    replace hB := below_next hB hb
    clear hb
    refine wpAnyH_takeQ 0 (v := ?_) (fun _ _ _ _ _ h => h) (by simp only [List.getElem?_toArray, List.getElem?_cons_zero]; rfl) (by kernel_rfl) (by kernel_rfl) (by kernel_rfl) (by rfl) ?_ hHeld ?_; rotate_left; · (intro w hSw; (try dsimp only at hSw); go_simp; (try with_reducible rfl))
    try simp only [Act.put, List.setIfInBounds_toArray, List.set_cons_zero, List.set_cons_succ]
    refine wpAnyH_takeQ 1 (v := ?_) (fun _ _ _ _ _ h => h) (by simp only [List.getElem?_toArray, List.getElem?_cons_succ, List.getElem?_cons_zero]; rfl) (by kernel_rfl) (by kernel_rfl) (by kernel_rfl) (by rfl) ?_ hHeld ?_; rotate_left; · (intro w hSw; (try dsimp only at hSw); go_simp; (try with_reducible rfl))
    try simp only [Act.put, List.setIfInBounds_toArray, List.set_cons_zero, List.set_cons_succ]
    refine wpAnyH_ready (rs := [2]) (by kernel_rfl) (by simp) ?_
    refine AllReadyH.cons (by simp only [List.getElem?_toArray, List.getElem?_cons_succ, List.getElem?_cons_zero]; rfl) (fun K hK => ?_) AllReadyH.nil
    go_simp
    clear hHeld
    refine (of_any 1 _ (by omega)).mono ?_
    rintro e w4 ⟨v_o, rfl, h_o, hb⟩
    replace Q_s := Lib.hid (Q_s.out.below hb)
    replace B_a := Lib.hid (B_a.out.below hb)
    replace hB := below_next hB hb
    clear hb
    have N_o := Lib.hid h_o
    clear h_o
    go_wp2_with fail
    refine hK.out _ _ (by exact B_a.out.c3) (fun hHeld => ?_)
    clear hK K
    refine wpAnyH_ready (rs := [3]) (by kernel_rfl) (by simp) ?_
    refine AllReadyH.cons (by simp only [List.getElem?_toArray, List.getElem?_cons_succ, List.getElem?_cons_zero]; rfl) (fun K hK => ?_) AllReadyH.nil
    go_simp
    clear hHeld
    refine (ncmp_is (v := 0) (by exact Q_s.out.2) (by exact N_o.out) (by rw [val_limbs, val_limbs]; exact ord_eq h1)).mono ?_
    rintro e w5 ⟨rfl, hb⟩
    replace Q_s := Lib.hid (Q_s.out.below hb)
    replace N_o := Lib.hid (N_o.out.below hb)
    replace B_a := Lib.hid (B_a.out.below hb)
    replace hB := below_next hB hb
    clear hb
    go_wp2_with fail
    refine hK.out _ _ (by exact B_a.out.c3) (fun hHeld => ?_)
    clear hK K
    refine wpAnyH_takeQ 4 (v := ?_) (fun _ _ _ _ _ h => h) (by simp only [List.getElem?_toArray, List.getElem?_cons_succ, List.getElem?_cons_zero]; rfl) (by kernel_rfl) (by kernel_rfl) (by kernel_rfl) (by rfl) ?_ hHeld ?_; rotate_left; · (intro w hSw; (try dsimp only at hSw); go_simp; (try with_reducible rfl))
    try simp only [Act.put, List.setIfInBounds_toArray, List.set_cons_zero, List.set_cons_succ]
    refine wpAnyH_done (by kernel_rfl) (NoPanic.normal ?_) _
    clear hHeld
    have c_a0 := B_a.out.cell0
    have c_a1 := B_a.out.cell1
    have c_a2 := B_a.out.cell2
    go_wp2_with fail
    clear c_a0 c_a1 c_a2
    refine (itext_any _ _ q.num k _ (by exact Q_s.out.1.int ln) (by omega) (by exact HT.out.below hB)).mono ?_
    rintro e w6 ⟨rfl, hb⟩
    replace Q_s := Lib.hid (Q_s.out.below hb)
    replace N_o := Lib.hid (N_o.out.below hb)
    replace B_a := Lib.hid (B_a.out.below hb)
    replace hB := below_next hB hb
    clear hb
    go_wp2
    go_ret
    rw [show qtext q = ztext q.num from if_pos h1]
    exact ⟨rfl, hB⟩
  · skip
    go_enter Tryd.func24, Tryd.ntmps24
    go_upto_region 1 with fail
    obtain ⟨W0, hW, B_a, HW, HS⟩ := rbox1 w (.bool b_a) (.slice A_a xs_a.length c_a) (.slice D_a ys_a.length f_a)
    rw [hW]
    clear hW
    replace R_a := Lib.hid (R_a.out.below HW.out)
    have hB := HW.out
    have hsz := HS.out
    clear HW HS
    have c_a0 := B_a.out.cell0
    have c_a1 := B_a.out.cell1
    have c_a2 := B_a.out.cell2
    go_wp2_with fail
    clear c_a0 c_a1 c_a2
    refine (qnorm_any _ _ _ q k _ (by exact R_a.out) hk (by omega)).mono ?_
    rintro e w1 ⟨b_s, A_s, n_s, c_s, D_s, e_s, f_s, rfl, h_s, hb⟩
    replace R_a := Lib.hid (R_a.out.below hb)
    replace B_a := Lib.hid (B_a.out.below hb)
    replace hB := below_next hB hb
    clear hb
    have Q_s := Lib.hid h_s
    clear h_s
    have c_a0 := B_a.out.cell0
    have c_a1 := B_a.out.cell1
    have c_a2 := B_a.out.cell2
    have f_a0 := B_a.out.fro 0
    have f_a1 := B_a.out.fro 1
    have f_a2 := B_a.out.fro 2
    go_upto_region 2 with fail
    clear c_a0 c_a1 c_a2 f_a0 f_a1 f_a2
    obtain ⟨V2, hV, NB, KP⟩ := storeR B_a.out (.bool b_s) (.slice A_s n_s c_s) (.slice D_s e_s f_s)
    rw [hV]
    clear hV
    replace R_a := Lib.hid (R_a.out.keeps KP.out)
    replace Q_s := Lib.hid (Q_s.out.keeps KP.out)
    replace hB := below_keeps hB KP.out (by omega)
    have B_a := NB
    clear NB KP
    clear R_a
    refine wp_region_named (S := (fun w' => (w'.cell? ⟨w.heap.size, 0, none⟩ = some (.bool b_s) ∧ w'.cell? ⟨w.heap.size, 1, none⟩ = some (.slice A_s n_s c_s) ∧ w'.cell? ⟨w.heap.size, 2, none⟩ = some (.slice D_s e_s f_s)))) (by kernel_rfl) (by exact B_a.out.c3) (fun V3 hb hHeld => ?_)
    replace Q_s := Lib.hid (Q_s.out.below hb)
    replace B_a := Lib.hid (B_a.out.below hb)
    replace hB := below_next hB hb
    clear hb
    refine wpAnyH_takeQ 0 (v := ?_) (fun _ _ _ _ _ h => h) (by simp only [List.getElem?_toArray, List.getElem?_cons_zero]; rfl) (by kernel_rfl) (by kernel_rfl) (by kernel_rfl) (by rfl) ?_ hHeld ?_; rotate_left; · (intro w hSw; (try dsimp only at hSw); go_simp; (try with_reducible rfl))
    try simp only [Act.put, List.setIfInBounds_toArray, List.set_cons_zero, List.set_cons_succ]
    refine wpAnyH_takeQ 1 (v := ?_) (fun _ _ _ _ _ h => h) (by simp only [List.getElem?_toArray, List.getElem?_cons_succ, List.getElem?_cons_zero]; rfl) (by kernel_rfl) (by kernel_rfl) (by kernel_rfl) (by rfl) ?_ hHeld ?_; rotate_left; · (intro w hSw; (try dsimp only at hSw); go_simp; (try with_reducible rfl))
    try simp only [Act.put, List.setIfInBounds_toArray, List.set_cons_zero, List.set_cons_succ]
    refine wpAnyH_ready (rs := [2]) (by kernel_rfl) (by simp) ?_
    refine AllReadyH.cons (by simp only [List.getElem?_toArray, List.getElem?_cons_succ, List.getElem?_cons_zero]; rfl) (fun K hK => ?_) AllReadyH.nil
    go_simp
    clear hHeld
    refine (of_any 1 _ (by omega)).mono ?_
    rintro e w4 ⟨v_o, rfl, h_o, hb⟩
    replace Q_s := Lib.hid (Q_s.out.below hb)
    replace B_a := Lib.hid (B_a.out.below hb)
    replace hB := below_next hB hb
    clear hb
    have N_o := Lib.hid h_o
    clear h_o
    go_wp2_with fail
    refine hK.out _ _ (by exact B_a.out.c3) (fun hHeld => ?_)
    clear hK K
    refine wpAnyH_ready (rs := [3]) (by kernel_rfl) (by simp) ?_
    refine AllReadyH.cons (by simp only [List.getElem?_toArray, List.getElem?_cons_succ, List.getElem?_cons_zero]; rfl) (fun K hK => ?_) AllReadyH.nil
    go_simp
    clear hHeld
    refine (ncmp_is (v := 1) (by exact Q_s.out.2) (by exact N_o.out) (by rw [val_limbs, val_limbs]; exact ord_gt (by have := q.den_pos; omega))).mono ?_
    rintro e w5 ⟨rfl, hb⟩
    replace Q_s := Lib.hid (Q_s.out.below hb)
    replace N_o := Lib.hid (N_o.out.below hb)
    replace B_a := Lib.hid (B_a.out.below hb)
    replace hB := below_next hB hb
    clear hb
    go_wp2_with fail
    refine hK.out _ _ (by exact B_a.out.c3) (fun hHeld => ?_)
    clear hK K
    refine wpAnyH_takeQ 4 (v := ?_) (fun _ _ _ _ _ h => h) (by simp only [List.getElem?_toArray, List.getElem?_cons_succ, List.getElem?_cons_zero]; rfl) (by kernel_rfl) (by kernel_rfl) (by kernel_rfl) (by rfl) ?_ hHeld ?_; rotate_left; · (intro w hSw; (try dsimp only at hSw); go_simp; (try with_reducible rfl))
    try simp only [Act.put, List.setIfInBounds_toArray, List.set_cons_zero, List.set_cons_succ]
    refine wpAnyH_done (by kernel_rfl) (NoPanic.normal ?_) _
    clear hHeld
    have c_a0 := B_a.out.cell0
    have c_a1 := B_a.out.cell1
    have c_a2 := B_a.out.cell2
    go_wp2_with fail
    clear c_a0 c_a1 c_a2
    refine wp_region_named (S := (fun w' => (w'.cell? ⟨w.heap.size, 0, none⟩ = some (.bool b_s) ∧ w'.cell? ⟨w.heap.size, 1, none⟩ = some (.slice A_s n_s c_s) ∧ w'.cell? ⟨w.heap.size, 2, none⟩ = some (.slice D_s e_s f_s)))) (by kernel_rfl) (by exact B_a.out.c3) (fun V6 hb hHeld => ?_)
    replace Q_s := Lib.hid (Q_s.out.below hb)
    replace N_o := Lib.hid (N_o.out.below hb)
    replace B_a := Lib.hid (B_a.out.below hb)
    replace hB := below_next hB hb
    clear hb
    refine wpAnyH_takeQ 0 (v := ?_) (fun _ _ _ _ _ h => h) (by simp only [List.getElem?_toArray, List.getElem?_cons_zero]; rfl) (by kernel_rfl) (by kernel_rfl) (by kernel_rfl) (by rfl) ?_ hHeld ?_; rotate_left; · (intro w hSw; (try dsimp only at hSw); go_simp; (try with_reducible rfl))
    try simp only [Act.put, List.setIfInBounds_toArray, List.set_cons_zero, List.set_cons_succ]
    refine wpAnyH_takeQ 1 (v := ?_) (fun _ _ _ _ _ h => h) (by simp only [List.getElem?_toArray, List.getElem?_cons_succ, List.getElem?_cons_zero]; rfl) (by kernel_rfl) (by kernel_rfl) (by kernel_rfl) (by rfl) ?_ hHeld ?_; rotate_left; · (intro w hSw; (try dsimp only at hSw); go_simp; (try with_reducible rfl))
    try simp only [Act.put, List.setIfInBounds_toArray, List.set_cons_zero, List.set_cons_succ]
    refine wpAnyH_takeQ 4 (v := ?_) (fun _ _ _ _ _ h => h) (by simp only [List.getElem?_toArray, List.getElem?_cons_succ, List.getElem?_cons_zero]; rfl) (by kernel_rfl) (by kernel_rfl) (by kernel_rfl) (by rfl) ?_ hHeld ?_; rotate_left; · (intro w hSw; (try dsimp only at hSw); go_simp; (try with_reducible rfl))
    try simp only [Act.put, List.setIfInBounds_toArray, List.set_cons_zero, List.set_cons_succ]
    refine wpAnyH_takeQ 5 (v := ?_) (fun _ _ _ _ _ h => h) (by simp only [List.getElem?_toArray, List.getElem?_cons_succ, List.getElem?_cons_zero]; rfl) (by kernel_rfl) (by kernel_rfl) (by kernel_rfl) (by rfl) ?_ hHeld ?_; rotate_left; · (intro w hSw; (try dsimp only at hSw); go_simp; (try with_reducible rfl))
    try simp only [Act.put, List.setIfInBounds_toArray, List.set_cons_zero, List.set_cons_succ]
    refine wpAnyH_ready (rs := [2]) (by kernel_rfl) (by simp) ?_
    refine AllReadyH.cons (by simp only [List.getElem?_toArray, List.getElem?_cons_succ, List.getElem?_cons_zero]; rfl) (fun K hK => ?_) AllReadyH.nil
    go_simp
    clear hHeld
    refine (itext_any _ _ q.num k _ (by exact Q_s.out.1.int ln) (by omega) (by exact HT.out.below hB)).mono ?_
    rintro e w7 ⟨rfl, hb⟩
    replace Q_s := Lib.hid (Q_s.out.below hb)
    replace N_o := Lib.hid (N_o.out.below hb)
    replace B_a := Lib.hid (B_a.out.below hb)
    replace hB := below_next hB hb
    clear hb
    go_wp2_with fail
    refine hK.out _ _ (by exact B_a.out.c3) (fun hHeld => ?_)
    clear hK K
    refine wpAnyH_takeQ 3 (v := ?_) (fun _ _ _ _ _ h => h) (by simp only [List.getElem?_toArray, List.getElem?_cons_succ, List.getElem?_cons_zero]; rfl) (by kernel_rfl) (by kernel_rfl) (by kernel_rfl) (by rfl) ?_ hHeld ?_; rotate_left; · (intro w hSw; (try dsimp only at hSw); go_simp; (try with_reducible rfl))
    try simp only [Act.put, List.setIfInBounds_toArray, List.set_cons_zero, List.set_cons_succ]
    refine wpAnyH_ready (rs := [6]) (by kernel_rfl) (by simp) ?_
    refine AllReadyH.cons (by simp only [List.getElem?_toArray, List.getElem?_cons_succ, List.getElem?_cons_zero]; rfl) (fun K hK => ?_) AllReadyH.nil
    go_simp
    clear hHeld
    refine (text_any _ _ _ (by exact Q_s.out.2) (by omega) (by exact HT.out.below hB)).mono ?_
    rintro e w8 ⟨rfl, hb⟩
    replace Q_s := Lib.hid (Q_s.out.below hb)
    replace N_o := Lib.hid (N_o.out.below hb)
    replace B_a := Lib.hid (B_a.out.below hb)
    replace hB := below_next hB hb
    clear hb
    rw [val_limbs]
    go_wp2_with fail
    refine hK.out _ _ (by exact B_a.out.c3) (fun hHeld => ?_)
    clear hK K
    refine wpAnyH_takeQ 7 (v := ?_) (fun _ _ _ _ _ h => h) (by simp only [List.getElem?_toArray, List.getElem?_cons_succ, List.getElem?_cons_zero]; rfl) (by kernel_rfl) (by kernel_rfl) (by kernel_rfl) (by rfl) ?_ hHeld ?_; rotate_left; · (intro w hSw; (try dsimp only at hSw); go_simp; (try with_reducible rfl))
    try simp only [Act.put, List.setIfInBounds_toArray, List.set_cons_zero, List.set_cons_succ]
    refine wpAnyH_takeQ 8 (v := ?_) (fun _ _ _ _ _ h => h) (by simp only [List.getElem?_toArray, List.getElem?_cons_succ, List.getElem?_cons_zero]; rfl) (by kernel_rfl) (by kernel_rfl) (by kernel_rfl) (by rfl) ?_ hHeld ?_; rotate_left; · (intro w hSw; (try dsimp only at hSw); go_simp; (try with_reducible rfl))
    try simp only [Act.put, List.setIfInBounds_toArray, List.set_cons_zero, List.set_cons_succ]
    refine wpAnyH_done (by kernel_rfl) (NoPanic.normal ?_) _
    clear hHeld
    go_wp2
    go_ret
    rw [show qtext q = ztext q.num ++ 47 :: decDigits q.den from if_neg h1]
    exact ⟨congrArg Ending.returned (congrArg Value.string (str_slash _ _)), hB⟩
end Go.Proofs.YtoflndeonegkpaaDoor
