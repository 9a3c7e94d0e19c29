/- ratio: Neg, Cmp. -/
import Derived.Test.YtoflndeonegkpaaDoorQ1
namespace Go.Proofs.YtoflndeonegkpaaDoor
open Go.RowKit

/-- Two forms whose denominators are not 0, in the boxes of two parameters. -/
def VMid (w : World) (p q : Rat) (k j : Nat) (wx : World) : Prop := ∃ (b1 : Bool) (A1 : Option Addr) (n1 c1 : Nat) (D1 : Option Addr) (e1 f1 : Nat) (xs1 ys1 : List Nat) (b2 : Bool) (A2 : Option Addr) (n2 c2 : Nat) (D2 : Option Addr) (e2 f2 : Nat) (xs2 ys2 : List Nat),
  RBox wx w.heap.size (.bool b1) (.slice A1 n1 c1) (.slice D1 e1 f1) ∧ RBox wx (w.heap.size + 1) (.bool b2) (.slice A2 n2 c2) (.slice D2 e2 f2) ∧ NatAt wx (.slice A1 n1 c1) xs1 ∧ NatAt wx (.slice D1 e1 f1) ys1 ∧ NatAt wx (.slice A2 n2 c2) xs2 ∧ NatAt wx (.slice D2 e2 f2) ys2 ∧
  xs1.length ≤ k ∧ ys1.length ≤ k ∧ xs2.length ≤ j ∧ ys2.length ≤ j ∧ val ys1 ≠ 0 ∧ val ys2 ≠ 0 ∧ p = mkRat (zval b1 xs1) (val ys1) ∧ q = mkRat (zval b2 xs2) (val ys2) ∧ Below w.heap.size w wx
theorem zneg_len {w : World} {m : Value} {xs : List Nat} {b : Bool} {k j : Nat} (h : NatAt w m xs) (l : xs.length ≤ k) (hj : k ≤ j) : (limbs (-zval b xs).natAbs).length ≤ j := by
  rw [Int.natAbs_neg, zval_abs]; exact Nat.le_trans (limbs_val_length h.lim) (by omega)
set_option maxRecDepth 100000 in
set_option maxHeartbeats 8000000 in
theorem qneg_any (b_a : Bool) (m_a d_a : Value) (q : Rat) (k : Nat) (w : World) (h_a : RAt w b_a m_a d_a q k) (hk : 1 ≤ k) (hk2 : k ≤ 100000) : Calls Tryd.prog 15 #[.agg #[.bool b_a, m_a, d_a]] w (GivesQ w (-q)) := by
  have R_a := Lib.hid h_a
  obtain ⟨xs_a, ys_a, hx_a, hy_a, -, -, -⟩ := h_a
  obtain ⟨A_a, c_a, rfl, _, _⟩ := hx_a.form
  obtain ⟨D_a, f_a, rfl, _, _⟩ := hy_a.form
  clear hx_a hy_a
  go_enter Tryd.func15, Tryd.ntmps15
  go_upto_region 1 with fail
  obtain ⟨W0, hW, B_a, B_r, HW, HS⟩ := rbox2 w (.bool b_a) (.slice A_a xs_a.length c_a) (.slice D_a ys_a.length f_a) (.bool false) (.slice none 0 0) (.slice none 0 0)
  rw [hW]
  clear hW
  replace R_a := Lib.hid (R_a.out.below HW.out)
  have hB := HW.out
  have hsz := HS.out
  clear HW HS
  have c_a0 := B_a.out.cell0
  have c_a1 := B_a.out.cell1
  have c_a2 := B_a.out.cell2
  have c_r0 := B_r.out.cell0
  have c_r1 := B_r.out.cell1
  have c_r2 := B_r.out.cell2
  go_wp2_with fail
  clear c_a0 c_a1 c_a2 c_r0 c_r1 c_r2
  refine (qvalue_any _ _ _ q k _ (by exact R_a.out) hk).mono ?_
  rintro e w1 ⟨b_v, A_v, n_v, c_v, D_v, e_v, f_v, xs_v, ys_v, rfl, hx_v, hy_v, lx_v, ly_v, nz_v, eq_v, hb⟩
  replace R_a := Lib.hid (R_a.out.below hb)
  replace B_a := Lib.hid (B_a.out.below hb)
  replace B_r := Lib.hid (B_r.out.below hb)
  replace hB := below_next hB hb
  clear hb
  have X_v := Lib.hid hx_v
  clear hx_v
  have Y_v := Lib.hid hy_v
  clear hy_v
  have c_a0 := B_a.out.cell0
  have c_a1 := B_a.out.cell1
  have c_a2 := B_a.out.cell2
  have f_a0 := B_a.out.fro 0
  have f_a1 := B_a.out.fro 1
  have f_a2 := B_a.out.fro 2
  have c_r0 := B_r.out.cell0
  have c_r1 := B_r.out.cell1
  have c_r2 := B_r.out.cell2
  go_upto_region 2 with fail
  clear c_a0 c_a1 c_a2 f_a0 f_a1 f_a2 c_r0 c_r1 c_r2
  obtain ⟨V2, hV, NB, KP⟩ := storeR B_a.out (.bool b_v) (.slice A_v n_v c_v) (.slice D_v e_v f_v)
  rw [hV]
  clear hV
  replace R_a := Lib.hid (R_a.out.keeps KP.out)
  replace X_v := Lib.hid (X_v.out.keeps KP.out)
  replace Y_v := Lib.hid (Y_v.out.keeps KP.out)
  replace B_r := Lib.hid (B_r.out.keeps KP.out (by omega))
  replace hB := below_keeps hB KP.out (by omega)
  have B_a := NB
  clear NB KP
  refine wp_region_named (S := (fun w' => (w'.cell? ⟨w.heap.size, 0, none⟩ = some (.bool b_v) ∧ w'.cell? ⟨w.heap.size, 1, none⟩ = some (.slice A_v n_v c_v) ∧ w'.cell? ⟨w.heap.size, 2, none⟩ = some (.slice D_v e_v f_v)))) (by kernel_rfl) (by exact B_a.out.c3) (fun V3 hb hHeld => ?_)
  replace R_a := Lib.hid (R_a.out.below hb)
  replace X_v := Lib.hid (X_v.out.below hb)
  replace Y_v := Lib.hid (Y_v.out.below hb)
  replace B_a := Lib.hid (B_a.out.below hb)
  replace B_r := Lib.hid (B_r.out.below hb)
  replace hB := below_next hB hb
  clear hb
  refine wpAnyH_takeQ 0 (v := ?_) (fun _ _ _ _ _ h => h) (by simp only [List.getElem?_toArray, List.getElem?_cons_zero]; rfl) (by kernel_rfl) (by kernel_rfl) (by kernel_rfl) (by rfl) ?_ hHeld ?_; rotate_left; · (intro w hSw; (try dsimp only at hSw); go_simp; (try with_reducible rfl))
  try simp only [Act.put, List.setIfInBounds_toArray, List.set_cons_zero, List.set_cons_succ]
  refine wpAnyH_takeQ 1 (v := ?_) (fun _ _ _ _ _ h => h) (by simp only [List.getElem?_toArray, List.getElem?_cons_succ, List.getElem?_cons_zero]; rfl) (by kernel_rfl) (by kernel_rfl) (by kernel_rfl) (by rfl) ?_ hHeld ?_; rotate_left; · (intro w hSw; (try dsimp only at hSw); go_simp; (try with_reducible rfl))
  try simp only [Act.put, List.setIfInBounds_toArray, List.set_cons_zero, List.set_cons_succ]
  refine wpAnyH_takeQ 3 (v := ?_) (fun _ _ _ _ _ h => h) (by simp only [List.getElem?_toArray, List.getElem?_cons_succ, List.getElem?_cons_zero]; rfl) (by kernel_rfl) (by kernel_rfl) (by kernel_rfl) (by rfl) ?_ hHeld ?_; rotate_left; · (intro w hSw; (try dsimp only at hSw); go_simp; (try with_reducible rfl))
  try simp only [Act.put, List.setIfInBounds_toArray, List.set_cons_zero, List.set_cons_succ]
  refine wpAnyH_takeQ 4 (v := ?_) (fun _ _ _ _ _ h => h) (by simp only [List.getElem?_toArray, List.getElem?_cons_succ, List.getElem?_cons_zero]; rfl) (by kernel_rfl) (by kernel_rfl) (by kernel_rfl) (by rfl) ?_ hHeld ?_; rotate_left; · (intro w hSw; (try dsimp only at hSw); go_simp; (try with_reducible rfl))
  try simp only [Act.put, List.setIfInBounds_toArray, List.set_cons_zero, List.set_cons_succ]
  refine wpAnyH_ready (rs := [2]) (by kernel_rfl) (by simp) ?_
  refine AllReadyH.cons (by simp only [List.getElem?_toArray, List.getElem?_cons_succ, List.getElem?_cons_zero]; rfl) (fun K hK => ?_) AllReadyH.nil
  go_simp
  clear hHeld
  refine (ineg_any _ _ _ k _ (by exact ⟨_, X_v.out, lx_v, rfl⟩) (by omega)).mono ?_
  rintro e w4 ⟨b_n, A_n, n_n, c_n, rfl, h_n, hb⟩
  replace R_a := Lib.hid (R_a.out.below hb)
  replace X_v := Lib.hid (X_v.out.below hb)
  replace Y_v := Lib.hid (Y_v.out.below hb)
  replace B_a := Lib.hid (B_a.out.below hb)
  replace B_r := Lib.hid (B_r.out.below hb)
  replace hB := below_next hB hb
  clear hb
  have Z_n := Lib.hid h_n
  clear h_n
  go_wp2_with fail
  refine hK.out _ _ (by exact B_a.out.c3) (fun hHeld => ?_)
  clear hK K
  refine wpAnyH_ready (rs := [5]) (by kernel_rfl) (by simp) ?_
  refine AllReadyH.cons (by simp only [List.getElem?_toArray, List.getElem?_cons_succ, List.getElem?_cons_zero]; rfl) (fun K hK => ?_) AllReadyH.nil
  go_simp
  clear hHeld
  refine (qreduce_any _ _ _ _ _ _ (by exact Z_n.out.2) (by exact Y_v.out) (zneg_len X_v.out lx_v (by omega)) (by omega) nz_v).mono ?_
  rintro e w5 ⟨b_s, A_s, n_s, c_s, D_s, e_s, f_s, rfl, h_s, hb⟩
  replace R_a := Lib.hid (R_a.out.below hb)
  replace X_v := Lib.hid (X_v.out.below hb)
  replace Y_v := Lib.hid (Y_v.out.below hb)
  replace Z_n := Lib.hid (Z_n.out.below hb)
  replace B_a := Lib.hid (B_a.out.below hb)
  replace B_r := Lib.hid (B_r.out.below hb)
  replace hB := below_next hB hb
  clear hb
  rw [Z_n.out.1, zval_norm, ← Rat.neg_mkRat, ← eq_v] at h_s
  have Q_s := Lib.hid h_s
  clear h_s
  go_wp2_with fail
  refine hK.out _ _ (by exact B_a.out.c3) (fun hHeld => ?_)
  clear hK K
  refine wpAnyH_ready (rs := [6]) (by kernel_rfl) (by simp) ?_
  refine AllReadyH.cons (by simp only [List.getElem?_toArray, List.getElem?_cons_succ, List.getElem?_cons_zero]; rfl) (fun K hK => ?_) AllReadyH.nil
  have c_a0 := B_a.out.cell0
  have c_a1 := B_a.out.cell1
  have c_a2 := B_a.out.cell2
  have c_r0 := B_r.out.cell0
  have c_r1 := B_r.out.cell1
  have c_r2 := B_r.out.cell2
  have f_r0 := B_r.out.fro 0
  have f_r1 := B_r.out.fro 1
  have f_r2 := B_r.out.fro 2
  go_simp
  clear c_a0 c_a1 c_a2 c_r0 c_r1 c_r2 f_r0 f_r1 f_r2
  clear hHeld
  obtain ⟨V6, hV, NB, KP⟩ := storeR B_r.out (.bool b_s) (.slice A_s n_s c_s) (.slice D_s e_s f_s)
  rw [hV]
  clear hV
  replace R_a := Lib.hid (R_a.out.keeps KP.out)
  replace X_v := Lib.hid (X_v.out.keeps KP.out)
  replace Y_v := Lib.hid (Y_v.out.keeps KP.out)
  replace Z_n := Lib.hid (Z_n.out.keeps KP.out)
  replace Q_s := Lib.hid (Q_s.out.keeps KP.out)
  replace B_a := Lib.hid (B_a.out.keeps KP.out (by omega))
  replace hB := below_keeps hB KP.out (by omega)
  have B_r := NB
  clear NB KP
  refine hK.out _ _ (by exact B_a.out.c3) (fun hHeld => ?_)
  clear hK K
  try simp only [Act.put, List.setIfInBounds_toArray, List.set_cons_zero, List.set_cons_succ]
  refine wpAnyH_done (by kernel_rfl) (NoPanic.normal ?_) _
  clear hHeld
  go_wp2
  have c_r0 := B_r.out.cell0
  have c_r1 := B_r.out.cell1
  have c_r2 := B_r.out.cell2
  refine bodyPost_ret (v := .agg #[.bool b_s, .slice A_s n_s c_s, .slice D_s e_s f_s]) (by simp [results, Tryd.results15, go_sem, c_r0, c_r1, c_r2]) rfl ?_
  exact ⟨_, _, _, _, _, _, _, rfl, Q_s.out, hB⟩
set_option maxRecDepth 100000 in
set_option maxHeartbeats 8000000 in
theorem qcmp_any (b_a : Bool) (m_a d_a : Value) (p : Rat) (k : Nat) (b_b : Bool) (m_b d_b : Value) (q : Rat) (j : Nat) (w : World) (h_a : RAt w b_a m_a d_a p k) (h_b : RAt w b_b m_b d_b q j) (hk : 1 ≤ k) (hk2 : k ≤ 50000) (hj : 1 ≤ j) (hj2 : j ≤ 50000) : Calls Tryd.prog 18 #[.agg #[.bool b_a, m_a, d_a], .agg #[.bool b_b, m_b, d_b]] w (GivesOrd w (qord p q)) := by
  have R_a := Lib.hid h_a
  obtain ⟨xs_a, ys_a, hx_a, hy_a, -, -, -⟩ := h_a
  obtain ⟨A_a, c_a, rfl, _, _⟩ := hx_a.form
  obtain ⟨D_a, f_a, rfl, _, _⟩ := hy_a.form
  clear hx_a hy_a
  have R_b := Lib.hid h_b
  obtain ⟨xs_b, ys_b, hx_b, hy_b, -, -, -⟩ := h_b
  obtain ⟨A_b, c_b, rfl, _, _⟩ := hx_b.form
  obtain ⟨D_b, f_b, rfl, _, _⟩ := hy_b.form
  clear hx_b hy_b
  go_enter Tryd.func18, Tryd.ntmps18
  go_upto_region 1 with fail
  obtain ⟨W0, hW, B_a, B_b, HW, HS⟩ := rbox2 w (.bool b_a) (.slice A_a xs_a.length c_a) (.slice D_a ys_a.length f_a) (.bool b_b) (.slice A_b xs_b.length c_b) (.slice D_b ys_b.length f_b)
  rw [hW]
  clear hW
  replace R_a := Lib.hid (R_a.out.below HW.out)
  replace R_b := Lib.hid (R_b.out.below HW.out)
  have hB := HW.out
  have hsz := HS.out
  clear HW HS
  go_cut [] (fun wx => VMid w p q k j wx)
  case first =>
    refine wp_region_named (S := (fun w' => True)) (by kernel_rfl) (by exact trivial) (fun V1 hb hHeld => ?_)
    replace R_a := Lib.hid (R_a.out.below hb)
    replace R_b := Lib.hid (R_b.out.below hb)
    replace B_a := Lib.hid (B_a.out.below hb)
    replace B_b := Lib.hid (B_b.out.below hb)
    replace hB := below_next hB hb
    clear hb
    refine wpAnyH_ready (rs := [0, 2]) (by kernel_rfl) (by simp) ?_
    refine AllReadyH.cons (by simp only [List.getElem?_toArray, List.getElem?_cons_zero]; rfl) (fun K hK => ?_) ?_
    have c_a0 := B_a.out.cell0
    have c_a1 := B_a.out.cell1
    have c_a2 := B_a.out.cell2
    have c_b0 := B_b.out.cell0
    have c_b1 := B_b.out.cell1
    have c_b2 := B_b.out.cell2
    go_simp
    clear c_a0 c_a1 c_a2 c_b0 c_b1 c_b2
    clear hHeld
    refine hK.out _ _ (by exact trivial) (fun hHeld => ?_)
    clear hK K
    try simp only [Act.put, List.setIfInBounds_toArray, List.set_cons_zero, List.set_cons_succ]
    refine wpAnyH_ready (rs := [1, 2]) (by kernel_rfl) (by simp) ?_
    refine AllReadyH.cons (by simp only [List.getElem?_toArray, List.getElem?_cons_succ, List.getElem?_cons_zero]; rfl) (fun K hK => ?_) ?_
    go_simp
    clear hHeld
    refine (qvalue_any _ _ _ p k _ (by exact R_a.out) hk).mono ?_
    rintro e w2 ⟨b_v, A_v, n_v, c_v, D_v, e_v, f_v, xs_v, ys_v, rfl, hx_v, hy_v, lx_v, ly_v, nz_v, eq_v, hb⟩
    replace R_a := Lib.hid (R_a.out.below hb)
    replace R_b := Lib.hid (R_b.out.below hb)
    replace B_a := Lib.hid (B_a.out.below hb)
    replace B_b := Lib.hid (B_b.out.below hb)
    replace hB := below_next hB hb
    clear hb
    have X_v := Lib.hid hx_v
    clear hx_v
    have Y_v := Lib.hid hy_v
    clear hy_v
    go_wp2_with fail
    refine hK.out _ _ (by exact trivial) (fun hHeld => ?_)
    clear hK K
    refine wpAnyH_ready (rs := [2]) (by kernel_rfl) (by simp) ?_
    refine AllReadyH.cons (by simp only [List.getElem?_toArray, List.getElem?_cons_succ, List.getElem?_cons_zero]; rfl) (fun K hK => ?_) AllReadyH.nil
    have c_a0 := B_a.out.cell0
    have c_a1 := B_a.out.cell1
    have c_a2 := B_a.out.cell2
    have c_b0 := B_b.out.cell0
    have c_b1 := B_b.out.cell1
    have c_b2 := B_b.out.cell2
    go_simp
    clear c_a0 c_a1 c_a2 c_b0 c_b1 c_b2
    clear hHeld
    refine hK.out _ _ (by exact trivial) (fun hHeld => ?_)
    clear hK K
    try simp only [Act.put, List.setIfInBounds_toArray, List.set_cons_zero, List.set_cons_succ]
    refine wpAnyH_ready (rs := [3]) (by kernel_rfl) (by simp) ?_
    refine AllReadyH.cons (by simp only [List.getElem?_toArray, List.getElem?_cons_succ, List.getElem?_cons_zero]; rfl) (fun K hK => ?_) AllReadyH.nil
    go_simp
    clear hHeld
    refine (qvalue_any _ _ _ q j _ (by exact R_b.out) hj).mono ?_
    rintro e w3 ⟨b_u, A_u, n_u, c_u, D_u, e_u, f_u, xs_u, ys_u, rfl, hx_u, hy_u, lx_u, ly_u, nz_u, eq_u, hb⟩
    replace R_a := Lib.hid (R_a.out.below hb)
    replace R_b := Lib.hid (R_b.out.below hb)
    replace X_v := Lib.hid (X_v.out.below hb)
    replace Y_v := Lib.hid (Y_v.out.below hb)
    replace B_a := Lib.hid (B_a.out.below hb)
    replace B_b := Lib.hid (B_b.out.below hb)
    replace hB := below_next hB hb
    clear hb
    have X_u := Lib.hid hx_u
    clear hx_u
    have Y_u := Lib.hid hy_u
    clear hy_u
    go_wp2_with fail
    refine hK.out _ _ (by exact trivial) (fun hHeld => ?_)
    clear hK K
    refine wpAnyH_ready (rs := [4]) (by kernel_rfl) (by simp) ?_
    refine AllReadyH.cons (by simp only [List.getElem?_toArray, List.getElem?_cons_succ, List.getElem?_cons_zero]; rfl) (fun K hK => ?_) AllReadyH.nil
    have c_a0 := B_a.out.cell0
    have c_a1 := B_a.out.cell1
    have c_a2 := B_a.out.cell2
    have f_a0 := B_a.out.fro 0
    have f_a1 := B_a.out.fro 1
    have f_a2 := B_a.out.fro 2
    have c_b0 := B_b.out.cell0
    have c_b1 := B_b.out.cell1
    have c_b2 := B_b.out.cell2
    go_simp
    clear c_a0 c_a1 c_a2 f_a0 f_a1 f_a2 c_b0 c_b1 c_b2
    clear hHeld
    obtain ⟨V4, hV, NB, KP⟩ := storeR B_a.out (.bool b_v) (.slice A_v n_v c_v) (.slice D_v e_v f_v)
    rw [hV]
    clear hV
    replace R_a := Lib.hid (R_a.out.keeps KP.out)
    replace R_b := Lib.hid (R_b.out.keeps KP.out)
    replace X_v := Lib.hid (X_v.out.keeps KP.out)
    replace Y_v := Lib.hid (Y_v.out.keeps KP.out)
    replace X_u := Lib.hid (X_u.out.keeps KP.out)
    replace Y_u := Lib.hid (Y_u.out.keeps KP.out)
    replace B_b := Lib.hid (B_b.out.keeps KP.out (by omega))
    replace hB := below_keeps hB KP.out (by omega)
    have B_a := NB
    clear NB KP
    refine hK.out _ _ (by exact trivial) (fun hHeld => ?_)
    clear hK K
    try simp only [Act.put, List.setIfInBounds_toArray, List.set_cons_zero, List.set_cons_succ]
    refine wpAnyH_ready (rs := [5]) (by kernel_rfl) (by simp) ?_
    refine AllReadyH.cons (by simp only [List.getElem?_toArray, List.getElem?_cons_succ, List.getElem?_cons_zero]; rfl) (fun K hK => ?_) AllReadyH.nil
    have c_a0 := B_a.out.cell0
    have c_a1 := B_a.out.cell1
    have c_a2 := B_a.out.cell2
    have c_b0 := B_b.out.cell0
    have c_b1 := B_b.out.cell1
    have c_b2 := B_b.out.cell2
    have f_b0 := B_b.out.fro 0
    have f_b1 := B_b.out.fro 1
    have f_b2 := B_b.out.fro 2
    go_simp
    clear c_a0 c_a1 c_a2 c_b0 c_b1 c_b2 f_b0 f_b1 f_b2
    clear hHeld
    obtain ⟨V5, hV, NB, KP⟩ := storeR B_b.out (.bool b_u) (.slice A_u n_u c_u) (.slice D_u e_u f_u)
    rw [hV]
    clear hV
    replace R_a := Lib.hid (R_a.out.keeps KP.out)
    replace R_b := Lib.hid (R_b.out.keeps KP.out)
    replace X_v := Lib.hid (X_v.out.keeps KP.out)
    replace Y_v := Lib.hid (Y_v.out.keeps KP.out)
    replace X_u := Lib.hid (X_u.out.keeps KP.out)
    replace Y_u := Lib.hid (Y_u.out.keeps KP.out)
    replace B_a := Lib.hid (B_a.out.keeps KP.out (by omega))
    replace hB := below_keeps hB KP.out (by omega)
    have B_b := NB
    clear NB KP
    refine hK.out _ _ (by exact trivial) (fun hHeld => ?_)
    clear hK K
    try simp only [Act.put, List.setIfInBounds_toArray, List.set_cons_zero, List.set_cons_succ]
    refine wpAnyH_done (by kernel_rfl) (NoPanic.normal ?_) _
    clear hHeld
    go_wp2_with fail
    go_meet
    exact ⟨b_v, A_v, n_v, c_v, D_v, e_v, f_v, xs_v, ys_v, b_u, A_u, n_u, c_u, D_u, e_u, f_u, xs_u, ys_u, B_a.out, B_b.out, X_v.out, Y_v.out, X_u.out, Y_u.out, lx_v, ly_v, lx_u, ly_u, nz_v, nz_u, eq_v, eq_u, hB⟩
    refine AllReadyH.cons (by simp only [List.getElem?_toArray, List.getElem?_cons_succ, List.getElem?_cons_zero]; rfl) (fun K hK => ?_) ?_
    have c_a0 := B_a.out.cell0
    have c_a1 := B_a.out.cell1
    have c_a2 := B_a.out.cell2
    have c_b0 := B_b.out.cell0
    have c_b1 := B_b.out.cell1
    have c_b2 := B_b.out.cell2
    go_simp
    clear c_a0 c_a1 c_a2 c_b0 c_b1 c_b2
    clear hHeld
    refine hK.out _ _ (by exact trivial) (fun hHeld => ?_)
    clear hK K
    try simp only [Act.put, List.setIfInBounds_toArray, List.set_cons_zero, List.set_cons_succ]
    refine wpAnyH_ready (rs := [1]) (by kernel_rfl) (by simp) ?_
    refine AllReadyH.cons (by simp only [List.getElem?_toArray, List.getElem?_cons_succ, List.getElem?_cons_zero]; rfl) (fun K hK => ?_) AllReadyH.nil
    go_simp
    clear hHeld
    refine (qvalue_any _ _ _ p k _ (by exact R_a.out) hk).mono ?_
    rintro e w6 ⟨b_v, A_v, n_v, c_v, D_v, e_v, f_v, xs_v, ys_v, rfl, hx_v, hy_v, lx_v, ly_v, nz_v, eq_v, hb⟩
    replace R_a := Lib.hid (R_a.out.below hb)
    replace R_b := Lib.hid (R_b.out.below hb)
    replace B_a := Lib.hid (B_a.out.below hb)
    replace B_b := Lib.hid (B_b.out.below hb)
    replace hB := below_next hB hb
    clear hb
    have X_v := Lib.hid hx_v
    clear hx_v
    have Y_v := Lib.hid hy_v
    clear hy_v
    go_wp2_with fail
    refine hK.out _ _ (by exact trivial) (fun hHeld => ?_)
    clear hK K
    refine wpAnyH_ready (rs := [3]) (by kernel_rfl) (by simp) ?_
    refine AllReadyH.cons (by simp only [List.getElem?_toArray, List.getElem?_cons_succ, List.getElem?_cons_zero]; rfl) (fun K hK => ?_) AllReadyH.nil
    go_simp
    clear hHeld
    refine (qvalue_any _ _ _ q j _ (by exact R_b.out) hj).mono ?_
    rintro e w7 ⟨b_u, A_u, n_u, c_u, D_u, e_u, f_u, xs_u, ys_u, rfl, hx_u, hy_u, lx_u, ly_u, nz_u, eq_u, hb⟩
    replace R_a := Lib.hid (R_a.out.below hb)
    replace R_b := Lib.hid (R_b.out.below hb)
    replace X_v := Lib.hid (X_v.out.below hb)
    replace Y_v := Lib.hid (Y_v.out.below hb)
    replace B_a := Lib.hid (B_a.out.below hb)
    replace B_b := Lib.hid (B_b.out.below hb)
    replace hB := below_next hB hb
    clear hb
    have X_u := Lib.hid hx_u
    clear hx_u
    have Y_u := Lib.hid hy_u
    clear hy_u
    go_wp2_with fail
    refine hK.out _ _ (by exact trivial) (fun hHeld => ?_)
    clear hK K
    refine wpAnyH_ready (rs := [4]) (by kernel_rfl) (by simp) ?_
    refine AllReadyH.cons (by simp only [List.getElem?_toArray, List.getElem?_cons_succ, List.getElem?_cons_zero]; rfl) (fun K hK => ?_) AllReadyH.nil
    have c_a0 := B_a.out.cell0
    have c_a1 := B_a.out.cell1
    have c_a2 := B_a.out.cell2
    have f_a0 := B_a.out.fro 0
    have f_a1 := B_a.out.fro 1
    have f_a2 := B_a.out.fro 2
    have c_b0 := B_b.out.cell0
    have c_b1 := B_b.out.cell1
    have c_b2 := B_b.out.cell2
    go_simp
    clear c_a0 c_a1 c_a2 f_a0 f_a1 f_a2 c_b0 c_b1 c_b2
    clear hHeld
    obtain ⟨V8, hV, NB, KP⟩ := storeR B_a.out (.bool b_v) (.slice A_v n_v c_v) (.slice D_v e_v f_v)
    rw [hV]
    clear hV
    replace R_a := Lib.hid (R_a.out.keeps KP.out)
    replace R_b := Lib.hid (R_b.out.keeps KP.out)
    replace X_v := Lib.hid (X_v.out.keeps KP.out)
    replace Y_v := Lib.hid (Y_v.out.keeps KP.out)
    replace X_u := Lib.hid (X_u.out.keeps KP.out)
    replace Y_u := Lib.hid (Y_u.out.keeps KP.out)
    replace B_b := Lib.hid (B_b.out.keeps KP.out (by omega))
    replace hB := below_keeps hB KP.out (by omega)
    have B_a := NB
    clear NB KP
    refine hK.out _ _ (by exact trivial) (fun hHeld => ?_)
    clear hK K
    try simp only [Act.put, List.setIfInBounds_toArray, List.set_cons_zero, List.set_cons_succ]
    refine wpAnyH_ready (rs := [5]) (by kernel_rfl) (by simp) ?_
    refine AllReadyH.cons (by simp only [List.getElem?_toArray, List.getElem?_cons_succ, List.getElem?_cons_zero]; rfl) (fun K hK => ?_) AllReadyH.nil
    have c_a0 := B_a.out.cell0
    have c_a1 := B_a.out.cell1
    have c_a2 := B_a.out.cell2
    have c_b0 := B_b.out.cell0
    have c_b1 := B_b.out.cell1
    have c_b2 := B_b.out.cell2
    have f_b0 := B_b.out.fro 0
    have f_b1 := B_b.out.fro 1
    have f_b2 := B_b.out.fro 2
    go_simp
    clear c_a0 c_a1 c_a2 c_b0 c_b1 c_b2 f_b0 f_b1 f_b2
    clear hHeld
    obtain ⟨V9, hV, NB, KP⟩ := storeR B_b.out (.bool b_u) (.slice A_u n_u c_u) (.slice D_u e_u f_u)
    rw [hV]
    clear hV
    replace R_a := Lib.hid (R_a.out.keeps KP.out)
    replace R_b := Lib.hid (R_b.out.keeps KP.out)
    replace X_v := Lib.hid (X_v.out.keeps KP.out)
    replace Y_v := Lib.hid (Y_v.out.keeps KP.out)
    replace X_u := Lib.hid (X_u.out.keeps KP.out)
    replace Y_u := Lib.hid (Y_u.out.keeps KP.out)
    replace B_a := Lib.hid (B_a.out.keeps KP.out (by omega))
    replace hB := below_keeps hB KP.out (by omega)
    have B_b := NB
    clear NB KP
    refine hK.out _ _ (by exact trivial) (fun hHeld => ?_)
    clear hK K
    try simp only [Act.put, List.setIfInBounds_toArray, List.set_cons_zero, List.set_cons_succ]
    refine wpAnyH_done (by kernel_rfl) (NoPanic.normal ?_) _
    clear hHeld
    go_wp2_with fail
    go_meet
    exact ⟨b_v, A_v, n_v, c_v, D_v, e_v, f_v, xs_v, ys_v, b_u, A_u, n_u, c_u, D_u, e_u, f_u, xs_u, ys_u, B_a.out, B_b.out, X_v.out, Y_v.out, X_u.out, Y_u.out, lx_v, ly_v, lx_u, ly_u, nz_v, nz_u, eq_v, eq_u, hB⟩
    exact AllReadyH.nil
    refine AllReadyH.cons (by simp only [List.getElem?_toArray, List.getElem?_cons_succ, List.getElem?_cons_zero]; rfl) (fun K hK => ?_) ?_
    have c_a0 := B_a.out.cell0
    have c_a1 := B_a.out.cell1
    have c_a2 := B_a.out.cell2
    have c_b0 := B_b.out.cell0
    have c_b1 := B_b.out.cell1
    have c_b2 := B_b.out.cell2
    go_simp
    clear c_a0 c_a1 c_a2 c_b0 c_b1 c_b2
    clear hHeld
    refine hK.out _ _ (by exact trivial) (fun hHeld => ?_)
    clear hK K
    try simp only [Act.put, List.setIfInBounds_toArray, List.set_cons_zero, List.set_cons_succ]
    refine wpAnyH_ready (rs := [0]) (by kernel_rfl) (by simp) ?_
    refine AllReadyH.cons (by simp only [List.getElem?_toArray, List.getElem?_cons_zero]; rfl) (fun K hK => ?_) AllReadyH.nil
    have c_a0 := B_a.out.cell0
    have c_a1 := B_a.out.cell1
    have c_a2 := B_a.out.cell2
    have c_b0 := B_b.out.cell0
    have c_b1 := B_b.out.cell1
    have c_b2 := B_b.out.cell2
    go_simp
    clear c_a0 c_a1 c_a2 c_b0 c_b1 c_b2
    clear hHeld
    refine hK.out _ _ (by exact trivial) (fun hHeld => ?_)
    clear hK K
    try simp only [Act.put, List.setIfInBounds_toArray, List.set_cons_zero, List.set_cons_succ]
    refine wpAnyH_ready (rs := [1]) (by kernel_rfl) (by simp) ?_
    refine AllReadyH.cons (by simp only [List.getElem?_toArray, List.getElem?_cons_succ, List.getElem?_cons_zero]; rfl) (fun K hK => ?_) AllReadyH.nil
    go_simp
    clear hHeld
    refine (qvalue_any _ _ _ p k _ (by exact R_a.out) hk).mono ?_
    rintro e w10 ⟨b_v, A_v, n_v, c_v, D_v, e_v, f_v, xs_v, ys_v, rfl, hx_v, hy_v, lx_v, ly_v, nz_v, eq_v, hb⟩
    replace R_a := Lib.hid (R_a.out.below hb)
    replace R_b := Lib.hid (R_b.out.below hb)
    replace B_a := Lib.hid (B_a.out.below hb)
    replace B_b := Lib.hid (B_b.out.below hb)
    replace hB := below_next hB hb
    clear hb
    have X_v := Lib.hid hx_v
    clear hx_v
    have Y_v := Lib.hid hy_v
    clear hy_v
    go_wp2_with fail
    refine hK.out _ _ (by exact trivial) (fun hHeld => ?_)
    clear hK K
    refine wpAnyH_ready (rs := [3]) (by kernel_rfl) (by simp) ?_
    refine AllReadyH.cons (by simp only [List.getElem?_toArray, List.getElem?_cons_succ, List.getElem?_cons_zero]; rfl) (fun K hK => ?_) AllReadyH.nil
    go_simp
    clear hHeld
    refine (qvalue_any _ _ _ q j _ (by exact R_b.out) hj).mono ?_
    rintro e w11 ⟨b_u, A_u, n_u, c_u, D_u, e_u, f_u, xs_u, ys_u, rfl, hx_u, hy_u, lx_u, ly_u, nz_u, eq_u, hb⟩
    replace R_a := Lib.hid (R_a.out.below hb)
    replace R_b := Lib.hid (R_b.out.below hb)
    replace X_v := Lib.hid (X_v.out.below hb)
    replace Y_v := Lib.hid (Y_v.out.below hb)
    replace B_a := Lib.hid (B_a.out.below hb)
    replace B_b := Lib.hid (B_b.out.below hb)
    replace hB := below_next hB hb
    clear hb
    have X_u := Lib.hid hx_u
    clear hx_u
    have Y_u := Lib.hid hy_u
    clear hy_u
    go_wp2_with fail
    refine hK.out _ _ (by exact trivial) (fun hHeld => ?_)
    clear hK K
    refine wpAnyH_ready (rs := [4]) (by kernel_rfl) (by simp) ?_
    refine AllReadyH.cons (by simp only [List.getElem?_toArray, List.getElem?_cons_succ, List.getElem?_cons_zero]; rfl) (fun K hK => ?_) AllReadyH.nil
    have c_a0 := B_a.out.cell0
    have c_a1 := B_a.out.cell1
    have c_a2 := B_a.out.cell2
    have f_a0 := B_a.out.fro 0
    have f_a1 := B_a.out.fro 1
    have f_a2 := B_a.out.fro 2
    have c_b0 := B_b.out.cell0
    have c_b1 := B_b.out.cell1
    have c_b2 := B_b.out.cell2
    go_simp
    clear c_a0 c_a1 c_a2 f_a0 f_a1 f_a2 c_b0 c_b1 c_b2
    clear hHeld
    obtain ⟨V12, hV, NB, KP⟩ := storeR B_a.out (.bool b_v) (.slice A_v n_v c_v) (.slice D_v e_v f_v)
    rw [hV]
    clear hV
    replace R_a := Lib.hid (R_a.out.keeps KP.out)
    replace R_b := Lib.hid (R_b.out.keeps KP.out)
    replace X_v := Lib.hid (X_v.out.keeps KP.out)
    replace Y_v := Lib.hid (Y_v.out.keeps KP.out)
    replace X_u := Lib.hid (X_u.out.keeps KP.out)
    replace Y_u := Lib.hid (Y_u.out.keeps KP.out)
    replace B_b := Lib.hid (B_b.out.keeps KP.out (by omega))
    replace hB := below_keeps hB KP.out (by omega)
    have B_a := NB
    clear NB KP
    refine hK.out _ _ (by exact trivial) (fun hHeld => ?_)
    clear hK K
    try simp only [Act.put, List.setIfInBounds_toArray, List.set_cons_zero, List.set_cons_succ]
    refine wpAnyH_ready (rs := [5]) (by kernel_rfl) (by simp) ?_
    refine AllReadyH.cons (by simp only [List.getElem?_toArray, List.getElem?_cons_succ, List.getElem?_cons_zero]; rfl) (fun K hK => ?_) AllReadyH.nil
    have c_a0 := B_a.out.cell0
    have c_a1 := B_a.out.cell1
    have c_a2 := B_a.out.cell2
    have c_b0 := B_b.out.cell0
    have c_b1 := B_b.out.cell1
    have c_b2 := B_b.out.cell2
    have f_b0 := B_b.out.fro 0
    have f_b1 := B_b.out.fro 1
    have f_b2 := B_b.out.fro 2
    go_simp
    clear c_a0 c_a1 c_a2 c_b0 c_b1 c_b2 f_b0 f_b1 f_b2
    clear hHeld
    obtain ⟨V13, hV, NB, KP⟩ := storeR B_b.out (.bool b_u) (.slice A_u n_u c_u) (.slice D_u e_u f_u)
    rw [hV]
    clear hV
    replace R_a := Lib.hid (R_a.out.keeps KP.out)
    replace R_b := Lib.hid (R_b.out.keeps KP.out)
    replace X_v := Lib.hid (X_v.out.keeps KP.out)
    replace Y_v := Lib.hid (Y_v.out.keeps KP.out)
    replace X_u := Lib.hid (X_u.out.keeps KP.out)
    replace Y_u := Lib.hid (Y_u.out.keeps KP.out)
    replace B_a := Lib.hid (B_a.out.keeps KP.out (by omega))
    replace hB := below_keeps hB KP.out (by omega)
    have B_b := NB
    clear NB KP
    refine hK.out _ _ (by exact trivial) (fun hHeld => ?_)
    clear hK K
    try simp only [Act.put, List.setIfInBounds_toArray, List.set_cons_zero, List.set_cons_succ]
    refine wpAnyH_done (by kernel_rfl) (NoPanic.normal ?_) _
    clear hHeld
    go_wp2_with fail
    go_meet
    exact ⟨b_v, A_v, n_v, c_v, D_v, e_v, f_v, xs_v, ys_v, b_u, A_u, n_u, c_u, D_u, e_u, f_u, xs_u, ys_u, B_a.out, B_b.out, X_v.out, Y_v.out, X_u.out, Y_u.out, lx_v, ly_v, lx_u, ly_u, nz_v, nz_u, eq_v, eq_u, hB⟩
    exact AllReadyH.nil
  case rest =>
    skip
    obtain ⟨b_v, A_v, n_v, c_v, D_v, e_v, f_v, xs_v, ys_v, b_u, A_u, n_u, c_u, D_u, e_u, f_u, xs_u, ys_u, B1, B2, x1, y1, x2, y2, lx_v, ly_v, lx_u, ly_u, nz_v, nz_u, eq_v, eq_u, hB9⟩ := hcut
    clear R_a R_b B_a B_b hB
    have hB := hB9
    have B_a := Lib.hid B1
    have B_b := Lib.hid B2
    have X_v := Lib.hid x1
    have Y_v := Lib.hid y1
    have X_u := Lib.hid x2
    have Y_u := Lib.hid y2
    clear hB9 B1 B2 x1 y1 x2 y2
    have S_m : Hid (Sz (zval b_v xs_v * (val ys_u : Int)).natAbs (k + j)) := by show Sz _ _; rw [Int.natAbs_mul, zval_abs, Int.natAbs_natCast]; exact (X_v.out.sz lx_v).mul (Y_u.out.sz ly_u)
    have S_o : Hid (Sz (zval b_u xs_u * (val ys_v : Int)).natAbs (k + j)) := by show Sz _ _; rw [Int.natAbs_mul, zval_abs, Int.natAbs_natCast, Nat.add_comm]; exact (X_u.out.sz lx_u).mul (Y_v.out.sz ly_v)
    have c_a0 := B_a.out.cell0
    have c_a1 := B_a.out.cell1
    have c_a2 := B_a.out.cell2
    have c_b0 := B_b.out.cell0
    have c_b1 := B_b.out.cell1
    have c_b2 := B_b.out.cell2
    go_wp2_with fail
    clear c_a0 c_a1 c_a2 c_b0 c_b1 c_b2
    refine wp_region_named (S := (fun w' => (w'.cell? ⟨w.heap.size, 0, none⟩ = some (.bool b_v) ∧ w'.cell? ⟨w.heap.size, 1, none⟩ = some (.slice A_v n_v c_v) ∧ w'.cell? ⟨w.heap.size, 2, none⟩ = some (.slice D_v e_v f_v)) ∧ (w'.cell? ⟨w.heap.size + 1, 0, none⟩ = some (.bool b_u) ∧ w'.cell? ⟨w.heap.size + 1, 1, none⟩ = some (.slice A_u n_u c_u) ∧ w'.cell? ⟨w.heap.size + 1, 2, none⟩ = some (.slice D_u e_u f_u)))) (by kernel_rfl) (by exact ⟨B_a.out.c3, B_b.out.c3⟩) (fun V14 hb hHeld => ?_)
    replace X_v := Lib.hid (X_v.out.below hb)
    replace Y_v := Lib.hid (Y_v.out.below hb)
    replace X_u := Lib.hid (X_u.out.below hb)
    replace Y_u := Lib.hid (Y_u.out.below hb)
    replace B_a := Lib.hid (B_a.out.below hb)
    replace B_b := Lib.hid (B_b.out.below hb)
    replace hB := below_next hB hb
    clear hb
    refine wpAnyH_takeQ 0 (v := ?_) (fun _ _ _ _ _ h => h) (by simp only [List.getElem?_toArray, List.getElem?_cons_zero]; rfl) (by kernel_rfl) (by kernel_rfl) (by kernel_rfl) (by rfl) ?_ hHeld ?_; rotate_left; · (intro w hSw; (try dsimp only at hSw); go_simp; (try with_reducible rfl))
    try simp only [Act.put, List.setIfInBounds_toArray, List.set_cons_zero, List.set_cons_succ]
    refine wpAnyH_takeQ 1 (v := ?_) (fun _ _ _ _ _ h => h) (by simp only [List.getElem?_toArray, List.getElem?_cons_succ, List.getElem?_cons_zero]; rfl) (by kernel_rfl) (by kernel_rfl) (by kernel_rfl) (by rfl) ?_ hHeld ?_; rotate_left; · (intro w hSw; (try dsimp only at hSw); go_simp; (try with_reducible rfl))
    try simp only [Act.put, List.setIfInBounds_toArray, List.set_cons_zero, List.set_cons_succ]
    refine wpAnyH_takeQ 2 (v := ?_) (fun _ _ _ _ _ h => h) (by simp only [List.getElem?_toArray, List.getElem?_cons_succ, List.getElem?_cons_zero]; rfl) (by kernel_rfl) (by kernel_rfl) (by kernel_rfl) (by rfl) ?_ hHeld ?_; rotate_left; · (intro w hSw; (try dsimp only at hSw); go_simp; (try with_reducible rfl))
    try simp only [Act.put, List.setIfInBounds_toArray, List.set_cons_zero, List.set_cons_succ]
    refine wpAnyH_takeQ 3 (v := ?_) (fun _ _ _ _ _ h => h) (by simp only [List.getElem?_toArray, List.getElem?_cons_succ, List.getElem?_cons_zero]; rfl) (by kernel_rfl) (by kernel_rfl) (by kernel_rfl) (by rfl) ?_ hHeld ?_; rotate_left; · (intro w hSw; (try dsimp only at hSw); go_simp; (try with_reducible rfl))
    try simp only [Act.put, List.setIfInBounds_toArray, List.set_cons_zero, List.set_cons_succ]
    refine wpAnyH_takeQ 6 (v := ?_) (fun _ _ _ _ _ h => h) (by simp only [List.getElem?_toArray, List.getElem?_cons_succ, List.getElem?_cons_zero]; rfl) (by kernel_rfl) (by kernel_rfl) (by kernel_rfl) (by rfl) ?_ hHeld ?_; rotate_left; · (intro w hSw; (try dsimp only at hSw); go_simp; (try with_reducible rfl))
    try simp only [Act.put, List.setIfInBounds_toArray, List.set_cons_zero, List.set_cons_succ]
    refine wpAnyH_takeQ 7 (v := ?_) (fun _ _ _ _ _ h => h) (by simp only [List.getElem?_toArray, List.getElem?_cons_succ, List.getElem?_cons_zero]; rfl) (by kernel_rfl) (by kernel_rfl) (by kernel_rfl) (by rfl) ?_ hHeld ?_; rotate_left; · (intro w hSw; (try dsimp only at hSw); go_simp; (try with_reducible rfl))
    try simp only [Act.put, List.setIfInBounds_toArray, List.set_cons_zero, List.set_cons_succ]
    refine wpAnyH_takeQ 8 (v := ?_) (fun _ _ _ _ _ h => h) (by simp only [List.getElem?_toArray, List.getElem?_cons_succ, List.getElem?_cons_zero]; rfl) (by kernel_rfl) (by kernel_rfl) (by kernel_rfl) (by rfl) ?_ hHeld ?_; rotate_left; · (intro w hSw; (try dsimp only at hSw); go_simp; (try with_reducible rfl))
    try simp only [Act.put, List.setIfInBounds_toArray, List.set_cons_zero, List.set_cons_succ]
    refine wpAnyH_takeQ 9 (v := ?_) (fun _ _ _ _ _ h => h) (by simp only [List.getElem?_toArray, List.getElem?_cons_succ, List.getElem?_cons_zero]; rfl) (by kernel_rfl) (by kernel_rfl) (by kernel_rfl) (by rfl) ?_ hHeld ?_; rotate_left; · (intro w hSw; (try dsimp only at hSw); go_simp; (try with_reducible rfl))
    try simp only [Act.put, List.setIfInBounds_toArray, List.set_cons_zero, List.set_cons_succ]
    refine wpAnyH_ready (rs := [4]) (by kernel_rfl) (by simp) ?_
    refine AllReadyH.cons (by simp only [List.getElem?_toArray, List.getElem?_cons_succ, List.getElem?_cons_zero]; rfl) (fun K hK => ?_) AllReadyH.nil
    go_simp
    clear hHeld
    refine (qpos_any _ _ _ _).mono ?_
    rintro e w15 ⟨rfl, hb⟩
    replace X_v := Lib.hid (X_v.out.below hb)
    replace Y_v := Lib.hid (Y_v.out.below hb)
    replace X_u := Lib.hid (X_u.out.below hb)
    replace Y_u := Lib.hid (Y_u.out.below hb)
    replace B_a := Lib.hid (B_a.out.below hb)
    replace B_b := Lib.hid (B_b.out.below hb)
    replace hB := below_next hB hb
    clear hb
    go_wp2_with fail
    refine hK.out _ _ (by exact ⟨B_a.out.c3, B_b.out.c3⟩) (fun hHeld => ?_)
    clear hK K
    refine wpAnyH_ready (rs := [5]) (by kernel_rfl) (by simp) ?_
    refine AllReadyH.cons (by simp only [List.getElem?_toArray, List.getElem?_cons_succ, List.getElem?_cons_zero]; rfl) (fun K hK => ?_) AllReadyH.nil
    go_simp
    clear hHeld
    refine (imul_any _ _ _ _ (zval b_v xs_v) (val ys_u) k j _ (by exact ⟨_, X_v.out, lx_v, rfl⟩) (by exact ⟨_, Y_u.out, ly_u, rfl⟩) (by omega) (by omega)).mono ?_
    rintro e w16 ⟨b_m, A_m, n_m, c_m, rfl, h_m, hb⟩
    replace X_v := Lib.hid (X_v.out.below hb)
    replace Y_v := Lib.hid (Y_v.out.below hb)
    replace X_u := Lib.hid (X_u.out.below hb)
    replace Y_u := Lib.hid (Y_u.out.below hb)
    replace B_a := Lib.hid (B_a.out.below hb)
    replace B_b := Lib.hid (B_b.out.below hb)
    replace hB := below_next hB hb
    clear hb
    have Z_m := Lib.hid h_m
    clear h_m
    go_wp2_with fail
    refine hK.out _ _ (by exact ⟨B_a.out.c3, B_b.out.c3⟩) (fun hHeld => ?_)
    clear hK K
    refine wpAnyH_ready (rs := [10]) (by kernel_rfl) (by simp) ?_
    refine AllReadyH.cons (by simp only [List.getElem?_toArray, List.getElem?_cons_succ, List.getElem?_cons_zero]; rfl) (fun K hK => ?_) AllReadyH.nil
    go_simp
    clear hHeld
    refine (qpos_any _ _ _ _).mono ?_
    rintro e w17 ⟨rfl, hb⟩
    replace X_v := Lib.hid (X_v.out.below hb)
    replace Y_v := Lib.hid (Y_v.out.below hb)
    replace X_u := Lib.hid (X_u.out.below hb)
    replace Y_u := Lib.hid (Y_u.out.below hb)
    replace Z_m := Lib.hid (Z_m.out.below hb)
    replace B_a := Lib.hid (B_a.out.below hb)
    replace B_b := Lib.hid (B_b.out.below hb)
    replace hB := below_next hB hb
    clear hb
    go_wp2_with fail
    refine hK.out _ _ (by exact ⟨B_a.out.c3, B_b.out.c3⟩) (fun hHeld => ?_)
    clear hK K
    refine wpAnyH_ready (rs := [11]) (by kernel_rfl) (by simp) ?_
    refine AllReadyH.cons (by simp only [List.getElem?_toArray, List.getElem?_cons_succ, List.getElem?_cons_zero]; rfl) (fun K hK => ?_) AllReadyH.nil
    go_simp
    clear hHeld
    refine (imul_any _ _ _ _ (zval b_u xs_u) (val ys_v) j k _ (by exact ⟨_, X_u.out, lx_u, rfl⟩) (by exact ⟨_, Y_v.out, ly_v, rfl⟩) (by omega) (by omega)).mono ?_
    rintro e w18 ⟨b_o, A_o, n_o, c_o, rfl, h_o, hb⟩
    replace X_v := Lib.hid (X_v.out.below hb)
    replace Y_v := Lib.hid (Y_v.out.below hb)
    replace X_u := Lib.hid (X_u.out.below hb)
    replace Y_u := Lib.hid (Y_u.out.below hb)
    replace Z_m := Lib.hid (Z_m.out.below hb)
    replace B_a := Lib.hid (B_a.out.below hb)
    replace B_b := Lib.hid (B_b.out.below hb)
    replace hB := below_next hB hb
    clear hb
    have Z_o := Lib.hid h_o
    clear h_o
    go_wp2_with fail
    refine hK.out _ _ (by exact ⟨B_a.out.c3, B_b.out.c3⟩) (fun hHeld => ?_)
    clear hK K
    refine wpAnyH_ready (rs := [12]) (by kernel_rfl) (by simp) ?_
    refine AllReadyH.cons (by simp only [List.getElem?_toArray, List.getElem?_cons_succ, List.getElem?_cons_zero]; rfl) (fun K hK => ?_) AllReadyH.nil
    go_simp
    clear hHeld
    refine (icmp_any _ _ _ _ _ _ (k + j) (k + j) _ (by exact Z_m.out.int (limbs_length_le S_m.out)) (by exact Z_o.out.int (limbs_length_le S_o.out)) (by omega) (by omega)).mono ?_
    rintro e w19 ⟨rfl, hb⟩
    replace X_v := Lib.hid (X_v.out.below hb)
    replace Y_v := Lib.hid (Y_v.out.below hb)
    replace X_u := Lib.hid (X_u.out.below hb)
    replace Y_u := Lib.hid (Y_u.out.below hb)
    replace Z_m := Lib.hid (Z_m.out.below hb)
    replace Z_o := Lib.hid (Z_o.out.below hb)
    replace B_a := Lib.hid (B_a.out.below hb)
    replace B_b := Lib.hid (B_b.out.below hb)
    replace hB := below_next hB hb
    clear hb
    go_wp2_with fail
    refine hK.out _ _ (by exact ⟨B_a.out.c3, B_b.out.c3⟩) (fun hHeld => ?_)
    clear hK K
    refine wpAnyH_takeQ 13 (v := ?_) (fun _ _ _ _ _ h => h) (by simp only [List.getElem?_toArray, List.getElem?_cons_succ, List.getElem?_cons_zero]; rfl) (by kernel_rfl) (by kernel_rfl) (by kernel_rfl) (by rfl) ?_ hHeld ?_; rotate_left; · (intro w hSw; (try dsimp only at hSw); go_simp; (try with_reducible rfl))
    try simp only [Act.put, List.setIfInBounds_toArray, List.set_cons_zero, List.set_cons_succ]
    refine wpAnyH_done (by kernel_rfl) (NoPanic.normal ?_) _
    clear hHeld
    rw [qord_of nz_v nz_u, ← eq_v, ← eq_u]
    go_wp2
    go_ret
    exact ⟨rfl, hB⟩
end Go.Proofs.YtoflndeonegkpaaDoor
