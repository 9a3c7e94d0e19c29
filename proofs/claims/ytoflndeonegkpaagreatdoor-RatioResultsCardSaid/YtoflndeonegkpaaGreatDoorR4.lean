/- garmentref03: Div. -/
import Derived.Test.YtoflndeonegkpaaGreatDoorR3
import Derived.Test.YtoflndeonegkpaaGreatDoorQ4
namespace Go.Proofs.YtoflndeonegkpaaGreatDoor
open Go.RowKit

theorem low_div {p q : Rat} {c d : Bool} (h1 : c = decide (p.num < 0)) (h2 : d = decide (q.num < 0)) (h : q ≠ 0) : mkRat (zval (!(c == d)) (limbs (p.num.natAbs * q.den))) (p.den * q.num.natAbs) = p / q := by
  have hn : q.num.natAbs ≠ 0 := fun e => h (Rat.num_eq_zero.1 (by omega))
  have := div_sgn (b1 := c) (b2 := d) (x1 := limbs p.num.natAbs) (x2 := limbs q.num.natAbs) (y1 := limbs p.den) (y2 := limbs q.den) (by rw [val_limbs]; exact p.den_nz) (by rw [val_limbs]; exact q.den_nz) (by rw [val_limbs]; exact hn)
  rw [val_limbs, val_limbs, val_limbs, val_limbs, h1, h2, zval_norm, zval_norm, Rat.mkRat_self, Rat.mkRat_self] at this
  rw [h1, h2]
  exact this
set_option maxRecDepth 100000 in
set_option maxHeartbeats 8000000 in
theorem r3div_zero (b_a : Bool) (m_a d_a : Value) (p : Rat) (k : Nat) (b_b : Bool) (m_b d_b : Value) (q : Rat) (j : Nat) (w : World) (h_a : RAt w b_a m_a d_a p k) (h_b : RAt w b_b m_b d_b q j) (hj2 : j ≤ 20000) (hq : q = 0) : Calls Tryz.prog 23 #[.agg #[.bool b_a, m_a, d_a], .agg #[.bool b_b, m_b, d_b]] w (GivesNo w) := by
  have R_a := Lib.hid h_a
  obtain ⟨xs_a, ys_a, hx_a, hy_a, -, -, -⟩ := h_a
  obtain ⟨A_a, c_a, rfl, _, _⟩ := hx_a.form
  obtain ⟨D_a, f_a, rfl, _, _⟩ := hy_a.form
  clear hx_a hy_a
  have R_b := Lib.hid h_b
  obtain ⟨xs_b, ys_b, hx_b, hy_b, -, -, -⟩ := h_b
  obtain ⟨A_b, c_b, rfl, _, _⟩ := hx_b.form
  obtain ⟨D_b, f_b, rfl, _, _⟩ := hy_b.form
  clear hx_b hy_b
  go_enter Tryz.func23, Tryz.ntmps23
  go_upto_region 1 with fail
  obtain ⟨W0, hW, B_a, B_b, B_r, HW, HS⟩ := rbox3 w (.bool b_a) (.slice A_a xs_a.length c_a) (.slice D_a ys_a.length f_a) (.bool b_b) (.slice A_b xs_b.length c_b) (.slice D_b ys_b.length f_b) (.bool false) (.slice none 0 0) (.slice none 0 0)
  rw [hW]
  clear hW
  replace R_a := Lib.hid (R_a.out.below HW.out)
  replace R_b := Lib.hid (R_b.out.below HW.out)
  have hB := HW.out
  have hsz := HS.out
  clear HW HS
  have c_a0 := B_a.out.cell0
  have c_a1 := B_a.out.cell1
  have c_a2 := B_a.out.cell2
  have c_b0 := B_b.out.cell0
  have c_b1 := B_b.out.cell1
  have c_b2 := B_b.out.cell2
  have c_r0 := B_r.out.cell0
  have c_r1 := B_r.out.cell1
  have c_r2 := B_r.out.cell2
  go_wp2_with fail
  clear c_a0 c_a1 c_a2 c_b0 c_b1 c_b2 c_r0 c_r1 c_r2
  refine (r3zero_is (v := true) (by exact R_b.out) (by omega) (decide_eq_true hq)).mono ?_
  rintro e w1 ⟨rfl, hb⟩
  replace R_a := Lib.hid (R_a.out.below hb)
  replace R_b := Lib.hid (R_b.out.below hb)
  replace B_a := Lib.hid (B_a.out.below hb)
  replace B_b := Lib.hid (B_b.out.below hb)
  replace B_r := Lib.hid (B_r.out.below hb)
  replace hB := below_next hB hb
  clear hb
  have c_a0 := B_a.out.cell0
  have c_a1 := B_a.out.cell1
  have c_a2 := B_a.out.cell2
  have c_b0 := B_b.out.cell0
  have c_b1 := B_b.out.cell1
  have c_b2 := B_b.out.cell2
  have c_r0 := B_r.out.cell0
  have c_r1 := B_r.out.cell1
  have c_r2 := B_r.out.cell2
  have f_r0 := B_r.out.fro 0
  have f_r1 := B_r.out.fro 1
  have f_r2 := B_r.out.fro 2
  go_wp2
  clear c_a0 c_a1 c_a2 c_b0 c_b1 c_b2 c_r0 c_r1 c_r2 f_r0 f_r1 f_r2
  obtain ⟨V2, hV, NB, KP⟩ := storeR B_r.out (.bool false) (.slice none 0 0) (.slice none 0 0)
  rw [hV]
  clear hV
  replace R_a := Lib.hid (R_a.out.keeps KP.out)
  replace R_b := Lib.hid (R_b.out.keeps KP.out)
  replace B_a := Lib.hid (B_a.out.keeps KP.out (by omega))
  replace B_b := Lib.hid (B_b.out.keeps KP.out (by omega))
  replace hB := below_keeps hB KP.out (by omega)
  have B_r := NB
  clear NB KP
  have c_r0 := B_r.out.cell0
  have c_r1 := B_r.out.cell1
  have c_r2 := B_r.out.cell2
  refine bodyPost_ret (v := .tuple #[.agg #[.bool false, .slice none 0 0, .slice none 0 0], .bool false]) (by simp [results, Tryz.results23, go_sem, c_r0, c_r1, c_r2]) rfl ?_
  exact ⟨rfl, hB⟩
set_option maxRecDepth 100000 in
set_option maxHeartbeats 8000000 in
theorem r3div_any (b_a : Bool) (m_a d_a : Value) (p : Rat) (k : Nat) (b_b : Bool) (m_b d_b : Value) (q : Rat) (j : Nat) (w : World) (h_a : RAt w b_a m_a d_a p k) (h_b : RAt w b_b m_b d_b q j) (hk : 1 ≤ k) (hk2 : k ≤ 20000) (hj : 1 ≤ j) (hj2 : j ≤ 20000) (hq : q ≠ 0) : Calls Tryz.prog 23 #[.agg #[.bool b_a, m_a, d_a], .agg #[.bool b_b, m_b, d_b]] w (GivesQB w (p / q) true) := by
  have R_a := Lib.hid h_a
  obtain ⟨xs_a, ys_a, hx_a, hy_a, -, -, -⟩ := h_a
  obtain ⟨A_a, c_a, rfl, _, _⟩ := hx_a.form
  obtain ⟨D_a, f_a, rfl, _, _⟩ := hy_a.form
  clear hx_a hy_a
  have R_b := Lib.hid h_b
  obtain ⟨xs_b, ys_b, hx_b, hy_b, -, -, -⟩ := h_b
  obtain ⟨A_b, c_b, rfl, _, _⟩ := hx_b.form
  obtain ⟨D_b, f_b, rfl, _, _⟩ := hy_b.form
  clear hx_b hy_b
  have S_a := RAt.sz R_a.out hk
  have S_b := RAt.sz R_b.out hj
  have ln_v := limbs_length_le S_a.1
  have ld_v := limbs_length_le S_a.2
  have ln_u := limbs_length_le S_b.1
  have ld_u := limbs_length_le S_b.2
  have hn : q.num.natAbs ≠ 0 := fun e => hq (Rat.num_eq_zero.1 (by omega))
  go_enter Tryz.func23, Tryz.ntmps23
  go_upto_region 1 with fail
  obtain ⟨W0, hW, B_a, B_b, B_r, HW, HS⟩ := rbox3 w (.bool b_a) (.slice A_a xs_a.length c_a) (.slice D_a ys_a.length f_a) (.bool b_b) (.slice A_b xs_b.length c_b) (.slice D_b ys_b.length f_b) (.bool false) (.slice none 0 0) (.slice none 0 0)
  rw [hW]
  clear hW
  replace R_a := Lib.hid (R_a.out.below HW.out)
  replace R_b := Lib.hid (R_b.out.below HW.out)
  have hB := HW.out
  have hsz := HS.out
  clear HW HS
  have c_a0 := B_a.out.cell0
  have c_a1 := B_a.out.cell1
  have c_a2 := B_a.out.cell2
  have c_b0 := B_b.out.cell0
  have c_b1 := B_b.out.cell1
  have c_b2 := B_b.out.cell2
  have c_r0 := B_r.out.cell0
  have c_r1 := B_r.out.cell1
  have c_r2 := B_r.out.cell2
  go_wp2_with fail
  clear c_a0 c_a1 c_a2 c_b0 c_b1 c_b2 c_r0 c_r1 c_r2
  refine (r3zero_is (v := false) (by exact R_b.out) (by omega) (decide_eq_false hq)).mono ?_
  rintro e w1 ⟨rfl, hb⟩
  replace R_a := Lib.hid (R_a.out.below hb)
  replace R_b := Lib.hid (R_b.out.below hb)
  replace B_a := Lib.hid (B_a.out.below hb)
  replace B_b := Lib.hid (B_b.out.below hb)
  replace B_r := Lib.hid (B_r.out.below hb)
  replace hB := below_next hB hb
  clear hb
  have c_a0 := B_a.out.cell0
  have c_a1 := B_a.out.cell1
  have c_a2 := B_a.out.cell2
  have c_b0 := B_b.out.cell0
  have c_b1 := B_b.out.cell1
  have c_b2 := B_b.out.cell2
  have c_r0 := B_r.out.cell0
  have c_r1 := B_r.out.cell1
  have c_r2 := B_r.out.cell2
  go_wp2_with fail
  clear c_a0 c_a1 c_a2 c_b0 c_b1 c_b2 c_r0 c_r1 c_r2
  go_cut [6, 7] (fun s1 s2 wx => QMid w (w.heap.size + 1 + 1) p q s1 s2 wx ∧ RBox wx (w.heap.size + 1 + 1) (.bool false) (.slice none 0 0) (.slice none 0 0))
  case first =>
    refine wp_region_named (S := (fun w' => (w'.cell? ⟨w.heap.size, 0, none⟩ = some (.bool b_a) ∧ w'.cell? ⟨w.heap.size, 1, none⟩ = some (.slice A_a xs_a.length c_a) ∧ w'.cell? ⟨w.heap.size, 2, none⟩ = some (.slice D_a ys_a.length f_a)) ∧ (w'.cell? ⟨w.heap.size + 1, 0, none⟩ = some (.bool b_b) ∧ w'.cell? ⟨w.heap.size + 1, 1, none⟩ = some (.slice A_b xs_b.length c_b) ∧ w'.cell? ⟨w.heap.size + 1, 2, none⟩ = some (.slice D_b ys_b.length f_b)))) (by kernel_rfl) (by exact ⟨B_a.out.c3, B_b.out.c3⟩) (fun V2 hb hHeld => ?_)
    replace R_a := Lib.hid (R_a.out.below hb)
    replace R_b := Lib.hid (R_b.out.below hb)
    replace B_a := Lib.hid (B_a.out.below hb)
    replace B_b := Lib.hid (B_b.out.below hb)
    replace B_r := Lib.hid (B_r.out.below hb)
    replace hB := below_next hB hb
    clear hb
    refine wpAnyH_takeQ 0 (v := ?_) (fun _ _ _ _ _ h => h) (by simp only [List.getElem?_toArray, List.getElem?_cons_zero]; rfl) (by kernel_rfl) (by kernel_rfl) (by kernel_rfl) (by rfl) ?_ hHeld ?_; rotate_left; · (intro w hSw; (try dsimp only at hSw); go_simp; (try with_reducible rfl))
    try simp only [Act.put, List.setIfInBounds_toArray, List.set_cons_zero, List.set_cons_succ]
    refine wpAnyH_takeQ 2 (v := ?_) (fun _ _ _ _ _ h => h) (by simp only [List.getElem?_toArray, List.getElem?_cons_succ, List.getElem?_cons_zero]; rfl) (by kernel_rfl) (by kernel_rfl) (by kernel_rfl) (by rfl) ?_ hHeld ?_; rotate_left; · (intro w hSw; (try dsimp only at hSw); go_simp; (try with_reducible rfl))
    try simp only [Act.put, List.setIfInBounds_toArray, List.set_cons_zero, List.set_cons_succ]
    refine wpAnyH_key4R 2 #[true, true, true, true, true, true, false, false] 12 14 6 7 (fun v1 v2 s1 s2 wx => ∃ (b1 : Bool) (A1 : Option Addr) (n1 c1 : Nat) (D1 : Option Addr) (e1 f1 g1 : Nat) (b2 : Bool) (A2 : Option Addr) (n2 c2 : Nat) (D2 : Option Addr) (e2 f2 g2 : Nat), v1 = .agg #[.bool b1, .slice A1 n1 c1, .slice D1 e1 f1] ∧ v2 = .agg #[.bool b2, .slice A2 n2 c2, .slice D2 e2 f2] ∧ s1 = .pointer (some ⟨g1, 0, none⟩) ∧ s2 = .pointer (some ⟨g2, 0, none⟩) ∧ w.heap.size + 1 + 1 < g1 ∧ w.heap.size + 1 + 1 < g2 ∧ g1 ≠ g2 ∧ RBox wx g1 (.bool false) (.slice none 0 0) (.slice none 0 0) ∧ RBox wx g2 (.bool false) (.slice none 0 0) (.slice none 0 0) ∧ QAt wx b1 (.slice A1 n1 c1) (.slice D1 e1 f1) p ∧ QAt wx b2 (.slice A2 n2 c2) (.slice D2 e2 f2) q ∧ RBox wx (w.heap.size) (.bool b_a) (.slice A_a xs_a.length c_a) (.slice D_a ys_a.length f_a) ∧ RBox wx (w.heap.size + 1) (.bool b_b) (.slice A_b xs_b.length c_b) (.slice D_b ys_b.length f_b) ∧ RBox wx (w.heap.size + 1 + 1) (.bool false) (.slice none 0 0) (.slice none 0 0) ∧ Below w.heap.size w wx) ?_ (fun key => ?_)
    rotate_left
    · simp only [Act.put, List.setIfInBounds_toArray, List.set_cons_zero, List.set_cons_succ] at key
      have KEY := Lib.hid key
      clear key
      refine wpAnyH_ready (rs := [1, 4, 5]) (by kernel_rfl) (by simp) ?_
      refine AllReadyH.cons (by simp only [List.getElem?_toArray, List.getElem?_cons_succ, List.getElem?_cons_zero]; rfl) (fun K hK => ?_) ?_
      go_simp
      clear hHeld
      refine (r3norm_any _ _ _ p k _ (by exact R_a.out) hk (by omega)).mono ?_
      rintro e w3 ⟨b_v, A_v, n_v, c_v, D_v, e_v, f_v, rfl, h_v, hb⟩
      replace R_a := Lib.hid (R_a.out.below hb)
      replace R_b := Lib.hid (R_b.out.below hb)
      replace B_a := Lib.hid (B_a.out.below hb)
      replace B_b := Lib.hid (B_b.out.below hb)
      replace B_r := Lib.hid (B_r.out.below hb)
      replace hB := below_next hB hb
      clear hb
      have Q_v := Lib.hid h_v
      clear h_v
      go_wp2_with fail
      refine hK.out _ _ (by exact ⟨B_a.out.c3, B_b.out.c3⟩) (fun hHeld => ?_)
      clear hK K
      try simp only [Act.put, List.setIfInBounds_toArray, List.set_cons_zero, List.set_cons_succ]
      refine wpAnyH_ready (rs := [3, 4, 5]) (by kernel_rfl) (by simp) ?_
      refine AllReadyH.cons (by simp only [List.getElem?_toArray, List.getElem?_cons_succ, List.getElem?_cons_zero]; rfl) (fun K hK => ?_) ?_
      go_simp
      clear hHeld
      refine (r3norm_any _ _ _ q j _ (by exact R_b.out) hj (by omega)).mono ?_
      rintro e w4 ⟨b_u, A_u, n_u, c_u, D_u, e_u, f_u, rfl, h_u, hb⟩
      replace R_a := Lib.hid (R_a.out.below hb)
      replace R_b := Lib.hid (R_b.out.below hb)
      replace Q_v := Lib.hid (Q_v.out.below hb)
      replace B_a := Lib.hid (B_a.out.below hb)
      replace B_b := Lib.hid (B_b.out.below hb)
      replace B_r := Lib.hid (B_r.out.below hb)
      replace hB := below_next hB hb
      clear hb
      have Q_u := Lib.hid h_u
      clear h_u
      go_wp2_with fail
      refine hK.out _ _ (by exact ⟨B_a.out.c3, B_b.out.c3⟩) (fun hHeld => ?_)
      clear hK K
      try simp only [Act.put, List.setIfInBounds_toArray, List.set_cons_zero, List.set_cons_succ]
      refine wpAnyH_ready (rs := [4, 5]) (by kernel_rfl) (by simp) ?_
      refine AllReadyH.cons (by simp only [List.getElem?_toArray, List.getElem?_cons_succ, List.getElem?_cons_zero]; rfl) (fun K hK => ?_) ?_
      go_simp
      clear hHeld
      obtain ⟨A5, g_x, hV, hg, NB, hb⟩ := newR w4 (.bool false) (.slice none 0 0) (.slice none 0 0)
      rw [hV, hg]
      clear hV
      have l_x_a : w.heap.size < g_x := hg ▸ B_a.out.lt
      have l_x_b : w.heap.size + 1 < g_x := hg ▸ B_b.out.lt
      have l_x_r : w.heap.size + 1 + 1 < g_x := hg ▸ B_r.out.lt
      replace R_a := Lib.hid (R_a.out.below hb)
      replace R_b := Lib.hid (R_b.out.below hb)
      replace Q_v := Lib.hid (Q_v.out.below hb)
      replace Q_u := Lib.hid (Q_u.out.below hb)
      replace B_a := Lib.hid (B_a.out.below hb)
      replace B_b := Lib.hid (B_b.out.below hb)
      replace B_r := Lib.hid (B_r.out.below hb)
      replace hB := below_next hB hb
      have B_x := NB
      clear NB hb hg
      refine hK.out _ _ (by exact ⟨B_a.out.c3, B_b.out.c3⟩) (fun hHeld => ?_)
      clear hK K
      try simp only [Act.put, List.setIfInBounds_toArray, List.set_cons_zero, List.set_cons_succ]
      refine wpAnyH_ready (rs := [5]) (by kernel_rfl) (by simp) ?_
      refine AllReadyH.cons (by simp only [List.getElem?_toArray, List.getElem?_cons_succ, List.getElem?_cons_zero]; rfl) (fun K hK => ?_) AllReadyH.nil
      go_simp
      clear hHeld
      obtain ⟨A6, g_y, hV, hg, NB, hb⟩ := newR A5 (.bool false) (.slice none 0 0) (.slice none 0 0)
      rw [hV, hg]
      clear hV
      have l_y_a : w.heap.size < g_y := hg ▸ B_a.out.lt
      have l_y_b : w.heap.size + 1 < g_y := hg ▸ B_b.out.lt
      have l_y_r : w.heap.size + 1 + 1 < g_y := hg ▸ B_r.out.lt
      have l_y_x : g_x < g_y := hg ▸ B_x.out.lt
      replace R_a := Lib.hid (R_a.out.below hb)
      replace R_b := Lib.hid (R_b.out.below hb)
      replace Q_v := Lib.hid (Q_v.out.below hb)
      replace Q_u := Lib.hid (Q_u.out.below hb)
      replace B_a := Lib.hid (B_a.out.below hb)
      replace B_b := Lib.hid (B_b.out.below hb)
      replace B_r := Lib.hid (B_r.out.below hb)
      replace B_x := Lib.hid (B_x.out.below hb)
      replace hB := below_next hB hb
      have B_y := NB
      clear NB hb hg
      refine hK.out _ _ (by exact ⟨B_a.out.c3, B_b.out.c3⟩) (fun hHeld => ?_)
      clear hK K
      try simp only [Act.put, List.setIfInBounds_toArray, List.set_cons_zero, List.set_cons_succ]
      exact wpAnyH_atR #[true, true, true, true, true, true, false, false] (by kernel_rfl) (KEY.out _ _ _ _ _ ⟨b_v, A_v, n_v, c_v, D_v, e_v, f_v, g_x, b_u, A_u, n_u, c_u, D_u, e_u, f_u, g_y, rfl, rfl, rfl, rfl, l_x_r, l_y_r, by omega, B_x.out, B_y.out, Q_v.out, Q_u.out, B_a.out, B_b.out, B_r.out, hB⟩)
      refine AllReadyH.cons (by simp only [List.getElem?_toArray, List.getElem?_cons_succ, List.getElem?_cons_zero]; rfl) (fun K hK => ?_) ?_
      go_simp
      clear hHeld
      obtain ⟨A7, g_y, hV, hg, NB, hb⟩ := newR w4 (.bool false) (.slice none 0 0) (.slice none 0 0)
      rw [hV, hg]
      clear hV
      have l_y_a : w.heap.size < g_y := hg ▸ B_a.out.lt
      have l_y_b : w.heap.size + 1 < g_y := hg ▸ B_b.out.lt
      have l_y_r : w.heap.size + 1 + 1 < g_y := hg ▸ B_r.out.lt
      replace R_a := Lib.hid (R_a.out.below hb)
      replace R_b := Lib.hid (R_b.out.below hb)
      replace Q_v := Lib.hid (Q_v.out.below hb)
      replace Q_u := Lib.hid (Q_u.out.below hb)
      replace B_a := Lib.hid (B_a.out.below hb)
      replace B_b := Lib.hid (B_b.out.below hb)
      replace B_r := Lib.hid (B_r.out.below hb)
      replace hB := below_next hB hb
      have B_y := NB
      clear NB hb hg
      refine hK.out _ _ (by exact ⟨B_a.out.c3, B_b.out.c3⟩) (fun hHeld => ?_)
      clear hK K
      try simp only [Act.put, List.setIfInBounds_toArray, List.set_cons_zero, List.set_cons_succ]
      refine wpAnyH_ready (rs := [4]) (by kernel_rfl) (by simp) ?_
      refine AllReadyH.cons (by simp only [List.getElem?_toArray, List.getElem?_cons_succ, List.getElem?_cons_zero]; rfl) (fun K hK => ?_) AllReadyH.nil
      go_simp
      clear hHeld
      obtain ⟨A8, g_x, hV, hg, NB, hb⟩ := newR A7 (.bool false) (.slice none 0 0) (.slice none 0 0)
      rw [hV, hg]
      clear hV
      have l_x_a : w.heap.size < g_x := hg ▸ B_a.out.lt
      have l_x_b : w.heap.size + 1 < g_x := hg ▸ B_b.out.lt
      have l_x_r : w.heap.size + 1 + 1 < g_x := hg ▸ B_r.out.lt
      have l_x_y : g_y < g_x := hg ▸ B_y.out.lt
      replace R_a := Lib.hid (R_a.out.below hb)
      replace R_b := Lib.hid (R_b.out.below hb)
      replace Q_v := Lib.hid (Q_v.out.below hb)
      replace Q_u := Lib.hid (Q_u.out.below hb)
      replace B_a := Lib.hid (B_a.out.below hb)
      replace B_b := Lib.hid (B_b.out.below hb)
      replace B_r := Lib.hid (B_r.out.below hb)
      replace B_y := Lib.hid (B_y.out.below hb)
      replace hB := below_next hB hb
      have B_x := NB
      clear NB hb hg
      refine hK.out _ _ (by exact ⟨B_a.out.c3, B_b.out.c3⟩) (fun hHeld => ?_)
      clear hK K
      try simp only [Act.put, List.setIfInBounds_toArray, List.set_cons_zero, List.set_cons_succ]
      exact wpAnyH_atR #[true, true, true, true, true, true, false, false] (by kernel_rfl) (KEY.out _ _ _ _ _ ⟨b_v, A_v, n_v, c_v, D_v, e_v, f_v, g_x, b_u, A_u, n_u, c_u, D_u, e_u, f_u, g_y, rfl, rfl, rfl, rfl, l_x_r, l_y_r, by omega, B_x.out, B_y.out, Q_v.out, Q_u.out, B_a.out, B_b.out, B_r.out, hB⟩)
      exact AllReadyH.nil
      refine AllReadyH.cons (by simp only [List.getElem?_toArray, List.getElem?_cons_succ, List.getElem?_cons_zero]; rfl) (fun K hK => ?_) ?_
      go_simp
      clear hHeld
      obtain ⟨A9, g_x, hV, hg, NB, hb⟩ := newR w3 (.bool false) (.slice none 0 0) (.slice none 0 0)
      rw [hV, hg]
      clear hV
      have l_x_a : w.heap.size < g_x := hg ▸ B_a.out.lt
      have l_x_b : w.heap.size + 1 < g_x := hg ▸ B_b.out.lt
      have l_x_r : w.heap.size + 1 + 1 < g_x := hg ▸ B_r.out.lt
      replace R_a := Lib.hid (R_a.out.below hb)
      replace R_b := Lib.hid (R_b.out.below hb)
      replace Q_v := Lib.hid (Q_v.out.below hb)
      replace B_a := Lib.hid (B_a.out.below hb)
      replace B_b := Lib.hid (B_b.out.below hb)
      replace B_r := Lib.hid (B_r.out.below hb)
      replace hB := below_next hB hb
      have B_x := NB
      clear NB hb hg
      refine hK.out _ _ (by exact ⟨B_a.out.c3, B_b.out.c3⟩) (fun hHeld => ?_)
      clear hK K
      try simp only [Act.put, List.setIfInBounds_toArray, List.set_cons_zero, List.set_cons_succ]
      refine wpAnyH_ready (rs := [3, 5]) (by kernel_rfl) (by simp) ?_
      refine AllReadyH.cons (by simp only [List.getElem?_toArray, List.getElem?_cons_succ, List.getElem?_cons_zero]; rfl) (fun K hK => ?_) ?_
      go_simp
      clear hHeld
      refine (r3norm_any _ _ _ q j _ (by exact R_b.out) hj (by omega)).mono ?_
      rintro e w10 ⟨b_u, A_u, n_u, c_u, D_u, e_u, f_u, rfl, h_u, hb⟩
      replace R_a := Lib.hid (R_a.out.below hb)
      replace R_b := Lib.hid (R_b.out.below hb)
      replace Q_v := Lib.hid (Q_v.out.below hb)
      replace B_a := Lib.hid (B_a.out.below hb)
      replace B_b := Lib.hid (B_b.out.below hb)
      replace B_r := Lib.hid (B_r.out.below hb)
      replace B_x := Lib.hid (B_x.out.below hb)
      replace hB := below_next hB hb
      clear hb
      have Q_u := Lib.hid h_u
      clear h_u
      go_wp2_with fail
      refine hK.out _ _ (by exact ⟨B_a.out.c3, B_b.out.c3⟩) (fun hHeld => ?_)
      clear hK K
      try simp only [Act.put, List.setIfInBounds_toArray, List.set_cons_zero, List.set_cons_succ]
      refine wpAnyH_ready (rs := [5]) (by kernel_rfl) (by simp) ?_
      refine AllReadyH.cons (by simp only [List.getElem?_toArray, List.getElem?_cons_succ, List.getElem?_cons_zero]; rfl) (fun K hK => ?_) AllReadyH.nil
      go_simp
      clear hHeld
      obtain ⟨A11, g_y, hV, hg, NB, hb⟩ := newR w10 (.bool false) (.slice none 0 0) (.slice none 0 0)
      rw [hV, hg]
      clear hV
      have l_y_a : w.heap.size < g_y := hg ▸ B_a.out.lt
      have l_y_b : w.heap.size + 1 < g_y := hg ▸ B_b.out.lt
      have l_y_r : w.heap.size + 1 + 1 < g_y := hg ▸ B_r.out.lt
      have l_y_x : g_x < g_y := hg ▸ B_x.out.lt
      replace R_a := Lib.hid (R_a.out.below hb)
      replace R_b := Lib.hid (R_b.out.below hb)
      replace Q_v := Lib.hid (Q_v.out.below hb)
      replace Q_u := Lib.hid (Q_u.out.below hb)
      replace B_a := Lib.hid (B_a.out.below hb)
      replace B_b := Lib.hid (B_b.out.below hb)
      replace B_r := Lib.hid (B_r.out.below hb)
      replace B_x := Lib.hid (B_x.out.below hb)
      replace hB := below_next hB hb
      have B_y := NB
      clear NB hb hg
      refine hK.out _ _ (by exact ⟨B_a.out.c3, B_b.out.c3⟩) (fun hHeld => ?_)
      clear hK K
      try simp only [Act.put, List.setIfInBounds_toArray, List.set_cons_zero, List.set_cons_succ]
      exact wpAnyH_atR #[true, true, true, true, true, true, false, false] (by kernel_rfl) (KEY.out _ _ _ _ _ ⟨b_v, A_v, n_v, c_v, D_v, e_v, f_v, g_x, b_u, A_u, n_u, c_u, D_u, e_u, f_u, g_y, rfl, rfl, rfl, rfl, l_x_r, l_y_r, by omega, B_x.out, B_y.out, Q_v.out, Q_u.out, B_a.out, B_b.out, B_r.out, hB⟩)
      refine AllReadyH.cons (by simp only [List.getElem?_toArray, List.getElem?_cons_succ, List.getElem?_cons_zero]; rfl) (fun K hK => ?_) ?_
      go_simp
      clear hHeld
      obtain ⟨A12, g_y, hV, hg, NB, hb⟩ := newR A9 (.bool false) (.slice none 0 0) (.slice none 0 0)
      rw [hV, hg]
      clear hV
      have l_y_a : w.heap.size < g_y := hg ▸ B_a.out.lt
      have l_y_b : w.heap.size + 1 < g_y := hg ▸ B_b.out.lt
      have l_y_r : w.heap.size + 1 + 1 < g_y := hg ▸ B_r.out.lt
      have l_y_x : g_x < g_y := hg ▸ B_x.out.lt
      replace R_a := Lib.hid (R_a.out.below hb)
      replace R_b := Lib.hid (R_b.out.below hb)
      replace Q_v := Lib.hid (Q_v.out.below hb)
      replace B_a := Lib.hid (B_a.out.below hb)
      replace B_b := Lib.hid (B_b.out.below hb)
      replace B_r := Lib.hid (B_r.out.below hb)
      replace B_x := Lib.hid (B_x.out.below hb)
      replace hB := below_next hB hb
      have B_y := NB
      clear NB hb hg
      refine hK.out _ _ (by exact ⟨B_a.out.c3, B_b.out.c3⟩) (fun hHeld => ?_)
      clear hK K
      try simp only [Act.put, List.setIfInBounds_toArray, List.set_cons_zero, List.set_cons_succ]
      refine wpAnyH_ready (rs := [3]) (by kernel_rfl) (by simp) ?_
      refine AllReadyH.cons (by simp only [List.getElem?_toArray, List.getElem?_cons_succ, List.getElem?_cons_zero]; rfl) (fun K hK => ?_) AllReadyH.nil
      go_simp
      clear hHeld
      refine (r3norm_any _ _ _ q j _ (by exact R_b.out) hj (by omega)).mono ?_
      rintro e w13 ⟨b_u, A_u, n_u, c_u, D_u, e_u, f_u, rfl, h_u, hb⟩
      replace R_a := Lib.hid (R_a.out.below hb)
      replace R_b := Lib.hid (R_b.out.below hb)
      replace Q_v := Lib.hid (Q_v.out.below hb)
      replace B_a := Lib.hid (B_a.out.below hb)
      replace B_b := Lib.hid (B_b.out.below hb)
      replace B_r := Lib.hid (B_r.out.below hb)
      replace B_x := Lib.hid (B_x.out.below hb)
      replace B_y := Lib.hid (B_y.out.below hb)
      replace hB := below_next hB hb
      clear hb
      have Q_u := Lib.hid h_u
      clear h_u
      go_wp2_with fail
      refine hK.out _ _ (by exact ⟨B_a.out.c3, B_b.out.c3⟩) (fun hHeld => ?_)
      clear hK K
      try simp only [Act.put, List.setIfInBounds_toArray, List.set_cons_zero, List.set_cons_succ]
      exact wpAnyH_atR #[true, true, true, true, true, true, false, false] (by kernel_rfl) (KEY.out _ _ _ _ _ ⟨b_v, A_v, n_v, c_v, D_v, e_v, f_v, g_x, b_u, A_u, n_u, c_u, D_u, e_u, f_u, g_y, rfl, rfl, rfl, rfl, l_x_r, l_y_r, by omega, B_x.out, B_y.out, Q_v.out, Q_u.out, B_a.out, B_b.out, B_r.out, hB⟩)
      exact AllReadyH.nil
      refine AllReadyH.cons (by simp only [List.getElem?_toArray, List.getElem?_cons_succ, List.getElem?_cons_zero]; rfl) (fun K hK => ?_) ?_
      go_simp
      clear hHeld
      obtain ⟨A14, g_y, hV, hg, NB, hb⟩ := newR w3 (.bool false) (.slice none 0 0) (.slice none 0 0)
      rw [hV, hg]
      clear hV
      have l_y_a : w.heap.size < g_y := hg ▸ B_a.out.lt
      have l_y_b : w.heap.size + 1 < g_y := hg ▸ B_b.out.lt
      have l_y_r : w.heap.size + 1 + 1 < g_y := hg ▸ B_r.out.lt
      replace R_a := Lib.hid (R_a.out.below hb)
      replace R_b := Lib.hid (R_b.out.below hb)
      replace Q_v := Lib.hid (Q_v.out.below hb)
      replace B_a := Lib.hid (B_a.out.below hb)
      replace B_b := Lib.hid (B_b.out.below hb)
      replace B_r := Lib.hid (B_r.out.below hb)
      replace hB := below_next hB hb
      have B_y := NB
      clear NB hb hg
      refine hK.out _ _ (by exact ⟨B_a.out.c3, B_b.out.c3⟩) (fun hHeld => ?_)
      clear hK K
      try simp only [Act.put, List.setIfInBounds_toArray, List.set_cons_zero, List.set_cons_succ]
      refine wpAnyH_ready (rs := [3, 4]) (by kernel_rfl) (by simp) ?_
      refine AllReadyH.cons (by simp only [List.getElem?_toArray, List.getElem?_cons_succ, List.getElem?_cons_zero]; rfl) (fun K hK => ?_) ?_
      go_simp
      clear hHeld
      refine (r3norm_any _ _ _ q j _ (by exact R_b.out) hj (by omega)).mono ?_
      rintro e w15 ⟨b_u, A_u, n_u, c_u, D_u, e_u, f_u, rfl, h_u, hb⟩
      replace R_a := Lib.hid (R_a.out.below hb)
      replace R_b := Lib.hid (R_b.out.below hb)
      replace Q_v := Lib.hid (Q_v.out.below hb)
      replace B_a := Lib.hid (B_a.out.below hb)
      replace B_b := Lib.hid (B_b.out.below hb)
      replace B_r := Lib.hid (B_r.out.below hb)
      replace B_y := Lib.hid (B_y.out.below hb)
      replace hB := below_next hB hb
      clear hb
      have Q_u := Lib.hid h_u
      clear h_u
      go_wp2_with fail
      refine hK.out _ _ (by exact ⟨B_a.out.c3, B_b.out.c3⟩) (fun hHeld => ?_)
      clear hK K
      try simp only [Act.put, List.setIfInBounds_toArray, List.set_cons_zero, List.set_cons_succ]
      refine wpAnyH_ready (rs := [4]) (by kernel_rfl) (by simp) ?_
      refine AllReadyH.cons (by simp only [List.getElem?_toArray, List.getElem?_cons_succ, List.getElem?_cons_zero]; rfl) (fun K hK => ?_) AllReadyH.nil
      go_simp
      clear hHeld
      obtain ⟨A16, g_x, hV, hg, NB, hb⟩ := newR w15 (.bool false) (.slice none 0 0) (.slice none 0 0)
      rw [hV, hg]
      clear hV
      have l_x_a : w.heap.size < g_x := hg ▸ B_a.out.lt
      have l_x_b : w.heap.size + 1 < g_x := hg ▸ B_b.out.lt
      have l_x_r : w.heap.size + 1 + 1 < g_x := hg ▸ B_r.out.lt
      have l_x_y : g_y < g_x := hg ▸ B_y.out.lt
      replace R_a := Lib.hid (R_a.out.below hb)
      replace R_b := Lib.hid (R_b.out.below hb)
      replace Q_v := Lib.hid (Q_v.out.below hb)
      replace Q_u := Lib.hid (Q_u.out.below hb)
      replace B_a := Lib.hid (B_a.out.below hb)
      replace B_b := Lib.hid (B_b.out.below hb)
      replace B_r := Lib.hid (B_r.out.below hb)
      replace B_y := Lib.hid (B_y.out.below hb)
      replace hB := below_next hB hb
      have B_x := NB
      clear NB hb hg
      refine hK.out _ _ (by exact ⟨B_a.out.c3, B_b.out.c3⟩) (fun hHeld => ?_)
      clear hK K
      try simp only [Act.put, List.setIfInBounds_toArray, List.set_cons_zero, List.set_cons_succ]
      exact wpAnyH_atR #[true, true, true, true, true, true, false, false] (by kernel_rfl) (KEY.out _ _ _ _ _ ⟨b_v, A_v, n_v, c_v, D_v, e_v, f_v, g_x, b_u, A_u, n_u, c_u, D_u, e_u, f_u, g_y, rfl, rfl, rfl, rfl, l_x_r, l_y_r, by omega, B_x.out, B_y.out, Q_v.out, Q_u.out, B_a.out, B_b.out, B_r.out, hB⟩)
      refine AllReadyH.cons (by simp only [List.getElem?_toArray, List.getElem?_cons_succ, List.getElem?_cons_zero]; rfl) (fun K hK => ?_) ?_
      go_simp
      clear hHeld
      obtain ⟨A17, g_x, hV, hg, NB, hb⟩ := newR A14 (.bool false) (.slice none 0 0) (.slice none 0 0)
      rw [hV, hg]
      clear hV
      have l_x_a : w.heap.size < g_x := hg ▸ B_a.out.lt
      have l_x_b : w.heap.size + 1 < g_x := hg ▸ B_b.out.lt
      have l_x_r : w.heap.size + 1 + 1 < g_x := hg ▸ B_r.out.lt
      have l_x_y : g_y < g_x := hg ▸ B_y.out.lt
      replace R_a := Lib.hid (R_a.out.below hb)
      replace R_b := Lib.hid (R_b.out.below hb)
      replace Q_v := Lib.hid (Q_v.out.below hb)
      replace B_a := Lib.hid (B_a.out.below hb)
      replace B_b := Lib.hid (B_b.out.below hb)
      replace B_r := Lib.hid (B_r.out.below hb)
      replace B_y := Lib.hid (B_y.out.below hb)
      replace hB := below_next hB hb
      have B_x := NB
      clear NB hb hg
      refine hK.out _ _ (by exact ⟨B_a.out.c3, B_b.out.c3⟩) (fun hHeld => ?_)
      clear hK K
      try simp only [Act.put, List.setIfInBounds_toArray, List.set_cons_zero, List.set_cons_succ]
      refine wpAnyH_ready (rs := [3]) (by kernel_rfl) (by simp) ?_
      refine AllReadyH.cons (by simp only [List.getElem?_toArray, List.getElem?_cons_succ, List.getElem?_cons_zero]; rfl) (fun K hK => ?_) AllReadyH.nil
      go_simp
      clear hHeld
      refine (r3norm_any _ _ _ q j _ (by exact R_b.out) hj (by omega)).mono ?_
      rintro e w18 ⟨b_u, A_u, n_u, c_u, D_u, e_u, f_u, rfl, h_u, hb⟩
      replace R_a := Lib.hid (R_a.out.below hb)
      replace R_b := Lib.hid (R_b.out.below hb)
      replace Q_v := Lib.hid (Q_v.out.below hb)
      replace B_a := Lib.hid (B_a.out.below hb)
      replace B_b := Lib.hid (B_b.out.below hb)
      replace B_r := Lib.hid (B_r.out.below hb)
      replace B_y := Lib.hid (B_y.out.below hb)
      replace B_x := Lib.hid (B_x.out.below hb)
      replace hB := below_next hB hb
      clear hb
      have Q_u := Lib.hid h_u
      clear h_u
      go_wp2_with fail
      refine hK.out _ _ (by exact ⟨B_a.out.c3, B_b.out.c3⟩) (fun hHeld => ?_)
      clear hK K
      try simp only [Act.put, List.setIfInBounds_toArray, List.set_cons_zero, List.set_cons_succ]
      exact wpAnyH_atR #[true, true, true, true, true, true, false, false] (by kernel_rfl) (KEY.out _ _ _ _ _ ⟨b_v, A_v, n_v, c_v, D_v, e_v, f_v, g_x, b_u, A_u, n_u, c_u, D_u, e_u, f_u, g_y, rfl, rfl, rfl, rfl, l_x_r, l_y_r, by omega, B_x.out, B_y.out, Q_v.out, Q_u.out, B_a.out, B_b.out, B_r.out, hB⟩)
      exact AllReadyH.nil
      exact AllReadyH.nil
      refine AllReadyH.cons (by simp only [List.getElem?_toArray, List.getElem?_cons_succ, List.getElem?_cons_zero]; rfl) (fun K hK => ?_) ?_
      go_simp
      clear hHeld
      obtain ⟨A19, g_x, hV, hg, NB, hb⟩ := newR V2 (.bool false) (.slice none 0 0) (.slice none 0 0)
      rw [hV, hg]
      clear hV
      have l_x_a : w.heap.size < g_x := hg ▸ B_a.out.lt
      have l_x_b : w.heap.size + 1 < g_x := hg ▸ B_b.out.lt
      have l_x_r : w.heap.size + 1 + 1 < g_x := hg ▸ B_r.out.lt
      replace R_a := Lib.hid (R_a.out.below hb)
      replace R_b := Lib.hid (R_b.out.below hb)
      replace B_a := Lib.hid (B_a.out.below hb)
      replace B_b := Lib.hid (B_b.out.below hb)
      replace B_r := Lib.hid (B_r.out.below hb)
      replace hB := below_next hB hb
      have B_x := NB
      clear NB hb hg
      refine hK.out _ _ (by exact ⟨B_a.out.c3, B_b.out.c3⟩) (fun hHeld => ?_)
      clear hK K
      try simp only [Act.put, List.setIfInBounds_toArray, List.set_cons_zero, List.set_cons_succ]
      refine wpAnyH_ready (rs := [1, 5]) (by kernel_rfl) (by simp) ?_
      refine AllReadyH.cons (by simp only [List.getElem?_toArray, List.getElem?_cons_succ, List.getElem?_cons_zero]; rfl) (fun K hK => ?_) ?_
      go_simp
      clear hHeld
      refine (r3norm_any _ _ _ p k _ (by exact R_a.out) hk (by omega)).mono ?_
      rintro e w20 ⟨b_v, A_v, n_v, c_v, D_v, e_v, f_v, rfl, h_v, hb⟩
      replace R_a := Lib.hid (R_a.out.below hb)
      replace R_b := Lib.hid (R_b.out.below hb)
      replace B_a := Lib.hid (B_a.out.below hb)
      replace B_b := Lib.hid (B_b.out.below hb)
      replace B_r := Lib.hid (B_r.out.below hb)
      replace B_x := Lib.hid (B_x.out.below hb)
      replace hB := below_next hB hb
      clear hb
      have Q_v := Lib.hid h_v
      clear h_v
      go_wp2_with fail
      refine hK.out _ _ (by exact ⟨B_a.out.c3, B_b.out.c3⟩) (fun hHeld => ?_)
      clear hK K
      try simp only [Act.put, List.setIfInBounds_toArray, List.set_cons_zero, List.set_cons_succ]
      refine wpAnyH_ready (rs := [3, 5]) (by kernel_rfl) (by simp) ?_
      refine AllReadyH.cons (by simp only [List.getElem?_toArray, List.getElem?_cons_succ, List.getElem?_cons_zero]; rfl) (fun K hK => ?_) ?_
      go_simp
      clear hHeld
      refine (r3norm_any _ _ _ q j _ (by exact R_b.out) hj (by omega)).mono ?_
      rintro e w21 ⟨b_u, A_u, n_u, c_u, D_u, e_u, f_u, rfl, h_u, hb⟩
      replace R_a := Lib.hid (R_a.out.below hb)
      replace R_b := Lib.hid (R_b.out.below hb)
      replace Q_v := Lib.hid (Q_v.out.below hb)
      replace B_a := Lib.hid (B_a.out.below hb)
      replace B_b := Lib.hid (B_b.out.below hb)
      replace B_r := Lib.hid (B_r.out.below hb)
      replace B_x := Lib.hid (B_x.out.below hb)
      replace hB := below_next hB hb
      clear hb
      have Q_u := Lib.hid h_u
      clear h_u
      go_wp2_with fail
      refine hK.out _ _ (by exact ⟨B_a.out.c3, B_b.out.c3⟩) (fun hHeld => ?_)
      clear hK K
      try simp only [Act.put, List.setIfInBounds_toArray, List.set_cons_zero, List.set_cons_succ]
      refine wpAnyH_ready (rs := [5]) (by kernel_rfl) (by simp) ?_
      refine AllReadyH.cons (by simp only [List.getElem?_toArray, List.getElem?_cons_succ, List.getElem?_cons_zero]; rfl) (fun K hK => ?_) AllReadyH.nil
      go_simp
      clear hHeld
      obtain ⟨A22, g_y, hV, hg, NB, hb⟩ := newR w21 (.bool false) (.slice none 0 0) (.slice none 0 0)
      rw [hV, hg]
      clear hV
      have l_y_a : w.heap.size < g_y := hg ▸ B_a.out.lt
      have l_y_b : w.heap.size + 1 < g_y := hg ▸ B_b.out.lt
      have l_y_r : w.heap.size + 1 + 1 < g_y := hg ▸ B_r.out.lt
      have l_y_x : g_x < g_y := hg ▸ B_x.out.lt
      replace R_a := Lib.hid (R_a.out.below hb)
      replace R_b := Lib.hid (R_b.out.below hb)
      replace Q_v := Lib.hid (Q_v.out.below hb)
      replace Q_u := Lib.hid (Q_u.out.below hb)
      replace B_a := Lib.hid (B_a.out.below hb)
      replace B_b := Lib.hid (B_b.out.below hb)
      replace B_r := Lib.hid (B_r.out.below hb)
      replace B_x := Lib.hid (B_x.out.below hb)
      replace hB := below_next hB hb
      have B_y := NB
      clear NB hb hg
      refine hK.out _ _ (by exact ⟨B_a.out.c3, B_b.out.c3⟩) (fun hHeld => ?_)
      clear hK K
      try simp only [Act.put, List.setIfInBounds_toArray, List.set_cons_zero, List.set_cons_succ]
      exact wpAnyH_atR #[true, true, true, true, true, true, false, false] (by kernel_rfl) (KEY.out _ _ _ _ _ ⟨b_v, A_v, n_v, c_v, D_v, e_v, f_v, g_x, b_u, A_u, n_u, c_u, D_u, e_u, f_u, g_y, rfl, rfl, rfl, rfl, l_x_r, l_y_r, by omega, B_x.out, B_y.out, Q_v.out, Q_u.out, B_a.out, B_b.out, B_r.out, hB⟩)
      refine AllReadyH.cons (by simp only [List.getElem?_toArray, List.getElem?_cons_succ, List.getElem?_cons_zero]; rfl) (fun K hK => ?_) ?_
      go_simp
      clear hHeld
      obtain ⟨A23, g_y, hV, hg, NB, hb⟩ := newR w20 (.bool false) (.slice none 0 0) (.slice none 0 0)
      rw [hV, hg]
      clear hV
      have l_y_a : w.heap.size < g_y := hg ▸ B_a.out.lt
      have l_y_b : w.heap.size + 1 < g_y := hg ▸ B_b.out.lt
      have l_y_r : w.heap.size + 1 + 1 < g_y := hg ▸ B_r.out.lt
      have l_y_x : g_x < g_y := hg ▸ B_x.out.lt
      replace R_a := Lib.hid (R_a.out.below hb)
      replace R_b := Lib.hid (R_b.out.below hb)
      replace Q_v := Lib.hid (Q_v.out.below hb)
      replace B_a := Lib.hid (B_a.out.below hb)
      replace B_b := Lib.hid (B_b.out.below hb)
      replace B_r := Lib.hid (B_r.out.below hb)
      replace B_x := Lib.hid (B_x.out.below hb)
      replace hB := below_next hB hb
      have B_y := NB
      clear NB hb hg
      refine hK.out _ _ (by exact ⟨B_a.out.c3, B_b.out.c3⟩) (fun hHeld => ?_)
      clear hK K
      try simp only [Act.put, List.setIfInBounds_toArray, List.set_cons_zero, List.set_cons_succ]
      refine wpAnyH_ready (rs := [3]) (by kernel_rfl) (by simp) ?_
      refine AllReadyH.cons (by simp only [List.getElem?_toArray, List.getElem?_cons_succ, List.getElem?_cons_zero]; rfl) (fun K hK => ?_) AllReadyH.nil
      go_simp
      clear hHeld
      refine (r3norm_any _ _ _ q j _ (by exact R_b.out) hj (by omega)).mono ?_
      rintro e w24 ⟨b_u, A_u, n_u, c_u, D_u, e_u, f_u, rfl, h_u, hb⟩
      replace R_a := Lib.hid (R_a.out.below hb)
      replace R_b := Lib.hid (R_b.out.below hb)
      replace Q_v := Lib.hid (Q_v.out.below hb)
      replace B_a := Lib.hid (B_a.out.below hb)
      replace B_b := Lib.hid (B_b.out.below hb)
      replace B_r := Lib.hid (B_r.out.below hb)
      replace B_x := Lib.hid (B_x.out.below hb)
      replace B_y := Lib.hid (B_y.out.below hb)
      replace hB := below_next hB hb
      clear hb
      have Q_u := Lib.hid h_u
      clear h_u
      go_wp2_with fail
      refine hK.out _ _ (by exact ⟨B_a.out.c3, B_b.out.c3⟩) (fun hHeld => ?_)
      clear hK K
      try simp only [Act.put, List.setIfInBounds_toArray, List.set_cons_zero, List.set_cons_succ]
      exact wpAnyH_atR #[true, true, true, true, true, true, false, false] (by kernel_rfl) (KEY.out _ _ _ _ _ ⟨b_v, A_v, n_v, c_v, D_v, e_v, f_v, g_x, b_u, A_u, n_u, c_u, D_u, e_u, f_u, g_y, rfl, rfl, rfl, rfl, l_x_r, l_y_r, by omega, B_x.out, B_y.out, Q_v.out, Q_u.out, B_a.out, B_b.out, B_r.out, hB⟩)
      exact AllReadyH.nil
      refine AllReadyH.cons (by simp only [List.getElem?_toArray, List.getElem?_cons_succ, List.getElem?_cons_zero]; rfl) (fun K hK => ?_) ?_
      go_simp
      clear hHeld
      obtain ⟨A25, g_y, hV, hg, NB, hb⟩ := newR A19 (.bool false) (.slice none 0 0) (.slice none 0 0)
      rw [hV, hg]
      clear hV
      have l_y_a : w.heap.size < g_y := hg ▸ B_a.out.lt
      have l_y_b : w.heap.size + 1 < g_y := hg ▸ B_b.out.lt
      have l_y_r : w.heap.size + 1 + 1 < g_y := hg ▸ B_r.out.lt
      have l_y_x : g_x < g_y := hg ▸ B_x.out.lt
      replace R_a := Lib.hid (R_a.out.below hb)
      replace R_b := Lib.hid (R_b.out.below hb)
      replace B_a := Lib.hid (B_a.out.below hb)
      replace B_b := Lib.hid (B_b.out.below hb)
      replace B_r := Lib.hid (B_r.out.below hb)
      replace B_x := Lib.hid (B_x.out.below hb)
      replace hB := below_next hB hb
      have B_y := NB
      clear NB hb hg
      refine hK.out _ _ (by exact ⟨B_a.out.c3, B_b.out.c3⟩) (fun hHeld => ?_)
      clear hK K
      try simp only [Act.put, List.setIfInBounds_toArray, List.set_cons_zero, List.set_cons_succ]
      refine wpAnyH_ready (rs := [1]) (by kernel_rfl) (by simp) ?_
      refine AllReadyH.cons (by simp only [List.getElem?_toArray, List.getElem?_cons_succ, List.getElem?_cons_zero]; rfl) (fun K hK => ?_) AllReadyH.nil
      go_simp
      clear hHeld
      refine (r3norm_any _ _ _ p k _ (by exact R_a.out) hk (by omega)).mono ?_
      rintro e w26 ⟨b_v, A_v, n_v, c_v, D_v, e_v, f_v, rfl, h_v, hb⟩
      replace R_a := Lib.hid (R_a.out.below hb)
      replace R_b := Lib.hid (R_b.out.below hb)
      replace B_a := Lib.hid (B_a.out.below hb)
      replace B_b := Lib.hid (B_b.out.below hb)
      replace B_r := Lib.hid (B_r.out.below hb)
      replace B_x := Lib.hid (B_x.out.below hb)
      replace B_y := Lib.hid (B_y.out.below hb)
      replace hB := below_next hB hb
      clear hb
      have Q_v := Lib.hid h_v
      clear h_v
      go_wp2_with fail
      refine hK.out _ _ (by exact ⟨B_a.out.c3, B_b.out.c3⟩) (fun hHeld => ?_)
      clear hK K
      try simp only [Act.put, List.setIfInBounds_toArray, List.set_cons_zero, List.set_cons_succ]
      refine wpAnyH_ready (rs := [3]) (by kernel_rfl) (by simp) ?_
      refine AllReadyH.cons (by simp only [List.getElem?_toArray, List.getElem?_cons_succ, List.getElem?_cons_zero]; rfl) (fun K hK => ?_) AllReadyH.nil
      go_simp
      clear hHeld
      refine (r3norm_any _ _ _ q j _ (by exact R_b.out) hj (by omega)).mono ?_
      rintro e w27 ⟨b_u, A_u, n_u, c_u, D_u, e_u, f_u, rfl, h_u, hb⟩
      replace R_a := Lib.hid (R_a.out.below hb)
      replace R_b := Lib.hid (R_b.out.below hb)
      replace Q_v := Lib.hid (Q_v.out.below hb)
      replace B_a := Lib.hid (B_a.out.below hb)
      replace B_b := Lib.hid (B_b.out.below hb)
      replace B_r := Lib.hid (B_r.out.below hb)
      replace B_x := Lib.hid (B_x.out.below hb)
      replace B_y := Lib.hid (B_y.out.below hb)
      replace hB := below_next hB hb
      clear hb
      have Q_u := Lib.hid h_u
      clear h_u
      go_wp2_with fail
      refine hK.out _ _ (by exact ⟨B_a.out.c3, B_b.out.c3⟩) (fun hHeld => ?_)
      clear hK K
      try simp only [Act.put, List.setIfInBounds_toArray, List.set_cons_zero, List.set_cons_succ]
      exact wpAnyH_atR #[true, true, true, true, true, true, false, false] (by kernel_rfl) (KEY.out _ _ _ _ _ ⟨b_v, A_v, n_v, c_v, D_v, e_v, f_v, g_x, b_u, A_u, n_u, c_u, D_u, e_u, f_u, g_y, rfl, rfl, rfl, rfl, l_x_r, l_y_r, by omega, B_x.out, B_y.out, Q_v.out, Q_u.out, B_a.out, B_b.out, B_r.out, hB⟩)
      exact AllReadyH.nil
      refine AllReadyH.cons (by simp only [List.getElem?_toArray, List.getElem?_cons_succ, List.getElem?_cons_zero]; rfl) (fun K hK => ?_) ?_
      go_simp
      clear hHeld
      obtain ⟨A28, g_y, hV, hg, NB, hb⟩ := newR V2 (.bool false) (.slice none 0 0) (.slice none 0 0)
      rw [hV, hg]
      clear hV
      have l_y_a : w.heap.size < g_y := hg ▸ B_a.out.lt
      have l_y_b : w.heap.size + 1 < g_y := hg ▸ B_b.out.lt
      have l_y_r : w.heap.size + 1 + 1 < g_y := hg ▸ B_r.out.lt
      replace R_a := Lib.hid (R_a.out.below hb)
      replace R_b := Lib.hid (R_b.out.below hb)
      replace B_a := Lib.hid (B_a.out.below hb)
      replace B_b := Lib.hid (B_b.out.below hb)
      replace B_r := Lib.hid (B_r.out.below hb)
      replace hB := below_next hB hb
      have B_y := NB
      clear NB hb hg
      refine hK.out _ _ (by exact ⟨B_a.out.c3, B_b.out.c3⟩) (fun hHeld => ?_)
      clear hK K
      try simp only [Act.put, List.setIfInBounds_toArray, List.set_cons_zero, List.set_cons_succ]
      refine wpAnyH_ready (rs := [1, 4]) (by kernel_rfl) (by simp) ?_
      refine AllReadyH.cons (by simp only [List.getElem?_toArray, List.getElem?_cons_succ, List.getElem?_cons_zero]; rfl) (fun K hK => ?_) ?_
      go_simp
      clear hHeld
      refine (r3norm_any _ _ _ p k _ (by exact R_a.out) hk (by omega)).mono ?_
      rintro e w29 ⟨b_v, A_v, n_v, c_v, D_v, e_v, f_v, rfl, h_v, hb⟩
      replace R_a := Lib.hid (R_a.out.below hb)
      replace R_b := Lib.hid (R_b.out.below hb)
      replace B_a := Lib.hid (B_a.out.below hb)
      replace B_b := Lib.hid (B_b.out.below hb)
      replace B_r := Lib.hid (B_r.out.below hb)
      replace B_y := Lib.hid (B_y.out.below hb)
      replace hB := below_next hB hb
      clear hb
      have Q_v := Lib.hid h_v
      clear h_v
      go_wp2_with fail
      refine hK.out _ _ (by exact ⟨B_a.out.c3, B_b.out.c3⟩) (fun hHeld => ?_)
      clear hK K
      try simp only [Act.put, List.setIfInBounds_toArray, List.set_cons_zero, List.set_cons_succ]
      refine wpAnyH_ready (rs := [3, 4]) (by kernel_rfl) (by simp) ?_
      refine AllReadyH.cons (by simp only [List.getElem?_toArray, List.getElem?_cons_succ, List.getElem?_cons_zero]; rfl) (fun K hK => ?_) ?_
      go_simp
      clear hHeld
      refine (r3norm_any _ _ _ q j _ (by exact R_b.out) hj (by omega)).mono ?_
      rintro e w30 ⟨b_u, A_u, n_u, c_u, D_u, e_u, f_u, rfl, h_u, hb⟩
      replace R_a := Lib.hid (R_a.out.below hb)
      replace R_b := Lib.hid (R_b.out.below hb)
      replace Q_v := Lib.hid (Q_v.out.below hb)
      replace B_a := Lib.hid (B_a.out.below hb)
      replace B_b := Lib.hid (B_b.out.below hb)
      replace B_r := Lib.hid (B_r.out.below hb)
      replace B_y := Lib.hid (B_y.out.below hb)
      replace hB := below_next hB hb
      clear hb
      have Q_u := Lib.hid h_u
      clear h_u
      go_wp2_with fail
      refine hK.out _ _ (by exact ⟨B_a.out.c3, B_b.out.c3⟩) (fun hHeld => ?_)
      clear hK K
      try simp only [Act.put, List.setIfInBounds_toArray, List.set_cons_zero, List.set_cons_succ]
      refine wpAnyH_ready (rs := [4]) (by kernel_rfl) (by simp) ?_
      refine AllReadyH.cons (by simp only [List.getElem?_toArray, List.getElem?_cons_succ, List.getElem?_cons_zero]; rfl) (fun K hK => ?_) AllReadyH.nil
      go_simp
      clear hHeld
      obtain ⟨A31, g_x, hV, hg, NB, hb⟩ := newR w30 (.bool false) (.slice none 0 0) (.slice none 0 0)
      rw [hV, hg]
      clear hV
      have l_x_a : w.heap.size < g_x := hg ▸ B_a.out.lt
      have l_x_b : w.heap.size + 1 < g_x := hg ▸ B_b.out.lt
      have l_x_r : w.heap.size + 1 + 1 < g_x := hg ▸ B_r.out.lt
      have l_x_y : g_y < g_x := hg ▸ B_y.out.lt
      replace R_a := Lib.hid (R_a.out.below hb)
      replace R_b := Lib.hid (R_b.out.below hb)
      replace Q_v := Lib.hid (Q_v.out.below hb)
      replace Q_u := Lib.hid (Q_u.out.below hb)
      replace B_a := Lib.hid (B_a.out.below hb)
      replace B_b := Lib.hid (B_b.out.below hb)
      replace B_r := Lib.hid (B_r.out.below hb)
      replace B_y := Lib.hid (B_y.out.below hb)
      replace hB := below_next hB hb
      have B_x := NB
      clear NB hb hg
      refine hK.out _ _ (by exact ⟨B_a.out.c3, B_b.out.c3⟩) (fun hHeld => ?_)
      clear hK K
      try simp only [Act.put, List.setIfInBounds_toArray, List.set_cons_zero, List.set_cons_succ]
      exact wpAnyH_atR #[true, true, true, true, true, true, false, false] (by kernel_rfl) (KEY.out _ _ _ _ _ ⟨b_v, A_v, n_v, c_v, D_v, e_v, f_v, g_x, b_u, A_u, n_u, c_u, D_u, e_u, f_u, g_y, rfl, rfl, rfl, rfl, l_x_r, l_y_r, by omega, B_x.out, B_y.out, Q_v.out, Q_u.out, B_a.out, B_b.out, B_r.out, hB⟩)
      refine AllReadyH.cons (by simp only [List.getElem?_toArray, List.getElem?_cons_succ, List.getElem?_cons_zero]; rfl) (fun K hK => ?_) ?_
      go_simp
      clear hHeld
      obtain ⟨A32, g_x, hV, hg, NB, hb⟩ := newR w29 (.bool false) (.slice none 0 0) (.slice none 0 0)
      rw [hV, hg]
      clear hV
      have l_x_a : w.heap.size < g_x := hg ▸ B_a.out.lt
      have l_x_b : w.heap.size + 1 < g_x := hg ▸ B_b.out.lt
      have l_x_r : w.heap.size + 1 + 1 < g_x := hg ▸ B_r.out.lt
      have l_x_y : g_y < g_x := hg ▸ B_y.out.lt
      replace R_a := Lib.hid (R_a.out.below hb)
      replace R_b := Lib.hid (R_b.out.below hb)
      replace Q_v := Lib.hid (Q_v.out.below hb)
      replace B_a := Lib.hid (B_a.out.below hb)
      replace B_b := Lib.hid (B_b.out.below hb)
      replace B_r := Lib.hid (B_r.out.below hb)
      replace B_y := Lib.hid (B_y.out.below hb)
      replace hB := below_next hB hb
      have B_x := NB
      clear NB hb hg
      refine hK.out _ _ (by exact ⟨B_a.out.c3, B_b.out.c3⟩) (fun hHeld => ?_)
      clear hK K
      try simp only [Act.put, List.setIfInBounds_toArray, List.set_cons_zero, List.set_cons_succ]
      refine wpAnyH_ready (rs := [3]) (by kernel_rfl) (by simp) ?_
      refine AllReadyH.cons (by simp only [List.getElem?_toArray, List.getElem?_cons_succ, List.getElem?_cons_zero]; rfl) (fun K hK => ?_) AllReadyH.nil
      go_simp
      clear hHeld
      refine (r3norm_any _ _ _ q j _ (by exact R_b.out) hj (by omega)).mono ?_
      rintro e w33 ⟨b_u, A_u, n_u, c_u, D_u, e_u, f_u, rfl, h_u, hb⟩
      replace R_a := Lib.hid (R_a.out.below hb)
      replace R_b := Lib.hid (R_b.out.below hb)
      replace Q_v := Lib.hid (Q_v.out.below hb)
      replace B_a := Lib.hid (B_a.out.below hb)
      replace B_b := Lib.hid (B_b.out.below hb)
      replace B_r := Lib.hid (B_r.out.below hb)
      replace B_y := Lib.hid (B_y.out.below hb)
      replace B_x := Lib.hid (B_x.out.below hb)
      replace hB := below_next hB hb
      clear hb
      have Q_u := Lib.hid h_u
      clear h_u
      go_wp2_with fail
      refine hK.out _ _ (by exact ⟨B_a.out.c3, B_b.out.c3⟩) (fun hHeld => ?_)
      clear hK K
      try simp only [Act.put, List.setIfInBounds_toArray, List.set_cons_zero, List.set_cons_succ]
      exact wpAnyH_atR #[true, true, true, true, true, true, false, false] (by kernel_rfl) (KEY.out _ _ _ _ _ ⟨b_v, A_v, n_v, c_v, D_v, e_v, f_v, g_x, b_u, A_u, n_u, c_u, D_u, e_u, f_u, g_y, rfl, rfl, rfl, rfl, l_x_r, l_y_r, by omega, B_x.out, B_y.out, Q_v.out, Q_u.out, B_a.out, B_b.out, B_r.out, hB⟩)
      exact AllReadyH.nil
      refine AllReadyH.cons (by simp only [List.getElem?_toArray, List.getElem?_cons_succ, List.getElem?_cons_zero]; rfl) (fun K hK => ?_) ?_
      go_simp
      clear hHeld
      obtain ⟨A34, g_x, hV, hg, NB, hb⟩ := newR A28 (.bool false) (.slice none 0 0) (.slice none 0 0)
      rw [hV, hg]
      clear hV
      have l_x_a : w.heap.size < g_x := hg ▸ B_a.out.lt
      have l_x_b : w.heap.size + 1 < g_x := hg ▸ B_b.out.lt
      have l_x_r : w.heap.size + 1 + 1 < g_x := hg ▸ B_r.out.lt
      have l_x_y : g_y < g_x := hg ▸ B_y.out.lt
      replace R_a := Lib.hid (R_a.out.below hb)
      replace R_b := Lib.hid (R_b.out.below hb)
      replace B_a := Lib.hid (B_a.out.below hb)
      replace B_b := Lib.hid (B_b.out.below hb)
      replace B_r := Lib.hid (B_r.out.below hb)
      replace B_y := Lib.hid (B_y.out.below hb)
      replace hB := below_next hB hb
      have B_x := NB
      clear NB hb hg
      refine hK.out _ _ (by exact ⟨B_a.out.c3, B_b.out.c3⟩) (fun hHeld => ?_)
      clear hK K
      try simp only [Act.put, List.setIfInBounds_toArray, List.set_cons_zero, List.set_cons_succ]
      refine wpAnyH_ready (rs := [1]) (by kernel_rfl) (by simp) ?_
      refine AllReadyH.cons (by simp only [List.getElem?_toArray, List.getElem?_cons_succ, List.getElem?_cons_zero]; rfl) (fun K hK => ?_) AllReadyH.nil
      go_simp
      clear hHeld
      refine (r3norm_any _ _ _ p k _ (by exact R_a.out) hk (by omega)).mono ?_
      rintro e w35 ⟨b_v, A_v, n_v, c_v, D_v, e_v, f_v, rfl, h_v, hb⟩
      replace R_a := Lib.hid (R_a.out.below hb)
      replace R_b := Lib.hid (R_b.out.below hb)
      replace B_a := Lib.hid (B_a.out.below hb)
      replace B_b := Lib.hid (B_b.out.below hb)
      replace B_r := Lib.hid (B_r.out.below hb)
      replace B_y := Lib.hid (B_y.out.below hb)
      replace B_x := Lib.hid (B_x.out.below hb)
      replace hB := below_next hB hb
      clear hb
      have Q_v := Lib.hid h_v
      clear h_v
      go_wp2_with fail
      refine hK.out _ _ (by exact ⟨B_a.out.c3, B_b.out.c3⟩) (fun hHeld => ?_)
      clear hK K
      try simp only [Act.put, List.setIfInBounds_toArray, List.set_cons_zero, List.set_cons_succ]
      refine wpAnyH_ready (rs := [3]) (by kernel_rfl) (by simp) ?_
      refine AllReadyH.cons (by simp only [List.getElem?_toArray, List.getElem?_cons_succ, List.getElem?_cons_zero]; rfl) (fun K hK => ?_) AllReadyH.nil
      go_simp
      clear hHeld
      refine (r3norm_any _ _ _ q j _ (by exact R_b.out) hj (by omega)).mono ?_
      rintro e w36 ⟨b_u, A_u, n_u, c_u, D_u, e_u, f_u, rfl, h_u, hb⟩
      replace R_a := Lib.hid (R_a.out.below hb)
      replace R_b := Lib.hid (R_b.out.below hb)
      replace Q_v := Lib.hid (Q_v.out.below hb)
      replace B_a := Lib.hid (B_a.out.below hb)
      replace B_b := Lib.hid (B_b.out.below hb)
      replace B_r := Lib.hid (B_r.out.below hb)
      replace B_y := Lib.hid (B_y.out.below hb)
      replace B_x := Lib.hid (B_x.out.below hb)
      replace hB := below_next hB hb
      clear hb
      have Q_u := Lib.hid h_u
      clear h_u
      go_wp2_with fail
      refine hK.out _ _ (by exact ⟨B_a.out.c3, B_b.out.c3⟩) (fun hHeld => ?_)
      clear hK K
      try simp only [Act.put, List.setIfInBounds_toArray, List.set_cons_zero, List.set_cons_succ]
      exact wpAnyH_atR #[true, true, true, true, true, true, false, false] (by kernel_rfl) (KEY.out _ _ _ _ _ ⟨b_v, A_v, n_v, c_v, D_v, e_v, f_v, g_x, b_u, A_u, n_u, c_u, D_u, e_u, f_u, g_y, rfl, rfl, rfl, rfl, l_x_r, l_y_r, by omega, B_x.out, B_y.out, Q_v.out, Q_u.out, B_a.out, B_b.out, B_r.out, hB⟩)
      exact AllReadyH.nil
      exact AllReadyH.nil
    · rintro _ _ _ _ K9 ⟨b_v, A_v, n_v, c_v, D_v, e_v, f_v, g_x, b_u, A_u, n_u, c_u, D_u, e_u, f_u, g_y, rfl, rfl, rfl, rfl, l_x_r, l_y_r, ne, yx, yy, xv, xu, ya, yb, yr, hB9⟩
      clear R_a R_b hB B_a B_b B_r
      have hB := hB9
      have B_x := Lib.hid yx
      have B_y := Lib.hid yy
      have Q_v := Lib.hid xv
      have Q_u := Lib.hid xu
      have B_a := Lib.hid ya
      have B_b := Lib.hid yb
      have B_r := Lib.hid yr
      clear hB9 yx yy xv xu ya yb yr
      try simp only [Act.put, List.setIfInBounds_toArray, List.set_cons_zero, List.set_cons_succ]
      refine wpAnyH_ready (rs := [6]) (by kernel_rfl) (by simp) ?_
      refine AllReadyH.cons (by simp only [List.getElem?_toArray, List.getElem?_cons_succ, List.getElem?_cons_zero]; rfl) (fun K hK => ?_) AllReadyH.nil
      have c_a0 := B_a.out.cell0
      have c_a1 := B_a.out.cell1
      have c_a2 := B_a.out.cell2
      have c_b0 := B_b.out.cell0
      have c_b1 := B_b.out.cell1
      have c_b2 := B_b.out.cell2
      have c_r0 := B_r.out.cell0
      have c_r1 := B_r.out.cell1
      have c_r2 := B_r.out.cell2
      have c_x0 := B_x.out.cell0
      have c_x1 := B_x.out.cell1
      have c_x2 := B_x.out.cell2
      have f_x0 := B_x.out.fro 0
      have f_x1 := B_x.out.fro 1
      have f_x2 := B_x.out.fro 2
      have c_y0 := B_y.out.cell0
      have c_y1 := B_y.out.cell1
      have c_y2 := B_y.out.cell2
      go_simp
      clear c_a0 c_a1 c_a2 c_b0 c_b1 c_b2 c_r0 c_r1 c_r2 c_x0 c_x1 c_x2 f_x0 f_x1 f_x2 c_y0 c_y1 c_y2
      clear hHeld
      obtain ⟨V37, hV, NB, KP⟩ := storeR B_x.out (.bool b_v) (.slice A_v n_v c_v) (.slice D_v e_v f_v)
      rw [hV]
      clear hV
      replace Q_v := Lib.hid (Q_v.out.keeps KP.out)
      replace Q_u := Lib.hid (Q_u.out.keeps KP.out)
      replace B_a := Lib.hid (B_a.out.keeps KP.out (by omega))
      replace B_b := Lib.hid (B_b.out.keeps KP.out (by omega))
      replace B_r := Lib.hid (B_r.out.keeps KP.out (by omega))
      replace B_y := Lib.hid (B_y.out.keeps KP.out (by omega))
      replace hB := below_keeps hB KP.out (by omega)
      have B_x := NB
      clear NB KP
      refine hK.out _ _ (by exact ⟨B_a.out.c3, B_b.out.c3⟩) (fun hHeld => ?_)
      clear hK K
      try simp only [List.setIfInBounds_toArray, List.set_cons_zero, List.set_cons_succ]
      refine wpAnyH_ready (rs := [7]) (by kernel_rfl) (by simp) ?_
      refine AllReadyH.cons (by simp only [List.getElem?_toArray, List.getElem?_cons_succ, List.getElem?_cons_zero]; rfl) (fun K hK => ?_) AllReadyH.nil
      have c_a0 := B_a.out.cell0
      have c_a1 := B_a.out.cell1
      have c_a2 := B_a.out.cell2
      have c_b0 := B_b.out.cell0
      have c_b1 := B_b.out.cell1
      have c_b2 := B_b.out.cell2
      have c_r0 := B_r.out.cell0
      have c_r1 := B_r.out.cell1
      have c_r2 := B_r.out.cell2
      have c_x0 := B_x.out.cell0
      have c_x1 := B_x.out.cell1
      have c_x2 := B_x.out.cell2
      have c_y0 := B_y.out.cell0
      have c_y1 := B_y.out.cell1
      have c_y2 := B_y.out.cell2
      have f_y0 := B_y.out.fro 0
      have f_y1 := B_y.out.fro 1
      have f_y2 := B_y.out.fro 2
      go_simp
      clear c_a0 c_a1 c_a2 c_b0 c_b1 c_b2 c_r0 c_r1 c_r2 c_x0 c_x1 c_x2 c_y0 c_y1 c_y2 f_y0 f_y1 f_y2
      clear hHeld
      obtain ⟨V38, hV, NB, KP⟩ := storeR B_y.out (.bool b_u) (.slice A_u n_u c_u) (.slice D_u e_u f_u)
      rw [hV]
      clear hV
      replace Q_v := Lib.hid (Q_v.out.keeps KP.out)
      replace Q_u := Lib.hid (Q_u.out.keeps KP.out)
      replace B_a := Lib.hid (B_a.out.keeps KP.out (by omega))
      replace B_b := Lib.hid (B_b.out.keeps KP.out (by omega))
      replace B_r := Lib.hid (B_r.out.keeps KP.out (by omega))
      replace B_x := Lib.hid (B_x.out.keeps KP.out (by omega))
      replace hB := below_keeps hB KP.out (by omega)
      have B_y := NB
      clear NB KP
      refine hK.out _ _ (by exact ⟨B_a.out.c3, B_b.out.c3⟩) (fun hHeld => ?_)
      clear hK K
      try simp only [List.setIfInBounds_toArray, List.set_cons_zero, List.set_cons_succ]
      refine wpAnyH_done (by kernel_rfl) (NoPanic.normal ?_) _
      clear hHeld
      go_wp2_with fail
      go_meet
      exact ⟨⟨b_v, A_v, n_v, c_v, D_v, e_v, f_v, g_x, b_u, A_u, n_u, c_u, D_u, e_u, f_u, g_y, rfl, rfl, l_x_r, l_y_r, by omega, B_x.out, B_y.out, Q_v.out, Q_u.out, hB⟩, B_r.out⟩
  case rest =>
    obtain ⟨hcut, B0⟩ := hcut
    obtain ⟨b_v, A_v, n_v, c_v, D_v, e_v, f_v, g_x, b_u, A_u, n_u, c_u, D_u, e_u, f_u, g_y, rfl, rfl, hgx, hgy, hxy, bx, by_, qv, qu, hB9⟩ := hcut
    clear R_a R_b B_a B_b hB B_r
    have hB := hB9
    have B_x := Lib.hid bx
    have B_y := Lib.hid by_
    have Q_v := Lib.hid qv
    have Q_u := Lib.hid qu
    clear hB9 bx by_ qv qu
    have B_r := Lib.hid B0
    clear B0
    have c_r0 := B_r.out.cell0
    have c_r1 := B_r.out.cell1
    have c_r2 := B_r.out.cell2
    have c_x0 := B_x.out.cell0
    have c_x1 := B_x.out.cell1
    have c_x2 := B_x.out.cell2
    have c_y0 := B_y.out.cell0
    have c_y1 := B_y.out.cell1
    have c_y2 := B_y.out.cell2
    go_wp2_with fail
    clear c_r0 c_r1 c_r2 c_x0 c_x1 c_x2 c_y0 c_y1 c_y2
    have S_n := Lib.hid (limbs_length_le (S_a.1.mul S_b.2))
    have S_d := Lib.hid (limbs_length_le (S_a.2.mul S_b.1))
    refine wp_region_named (S := (fun w' => (w'.cell? ⟨g_x, 0, none⟩ = some (.bool b_v) ∧ w'.cell? ⟨g_x, 1, none⟩ = some (.slice A_v n_v c_v) ∧ w'.cell? ⟨g_x, 2, none⟩ = some (.slice D_v e_v f_v)) ∧ (w'.cell? ⟨g_y, 0, none⟩ = some (.bool b_u) ∧ w'.cell? ⟨g_y, 1, none⟩ = some (.slice A_u n_u c_u) ∧ w'.cell? ⟨g_y, 2, none⟩ = some (.slice D_u e_u f_u)))) (by kernel_rfl) (by exact ⟨B_x.out.c3, B_y.out.c3⟩) (fun V39 hb hHeld => ?_)
    replace Q_v := Lib.hid (Q_v.out.below hb)
    replace Q_u := Lib.hid (Q_u.out.below hb)
    replace B_r := Lib.hid (B_r.out.below hb)
    replace B_x := Lib.hid (B_x.out.below hb)
    replace B_y := Lib.hid (B_y.out.below hb)
    replace hB := below_next hB hb
    clear hb
    refine wpAnyH_takeQ 0 (v := ?_) (fun _ _ _ _ _ h => h) (by simp only [List.getElem?_toArray, List.getElem?_cons_zero]; rfl) (by kernel_rfl) (by kernel_rfl) (by kernel_rfl) (by rfl) ?_ hHeld ?_; rotate_left; · (intro w hSw; (try dsimp only at hSw); go_simp; (try with_reducible rfl))
    try simp only [Act.put, List.setIfInBounds_toArray, List.set_cons_zero, List.set_cons_succ]
    refine wpAnyH_takeQ 1 (v := ?_) (fun _ _ _ _ _ h => h) (by simp only [List.getElem?_toArray, List.getElem?_cons_succ, List.getElem?_cons_zero]; rfl) (by kernel_rfl) (by kernel_rfl) (by kernel_rfl) (by rfl) ?_ hHeld ?_; rotate_left; · (intro w hSw; (try dsimp only at hSw); go_simp; (try with_reducible rfl))
    try simp only [Act.put, List.setIfInBounds_toArray, List.set_cons_zero, List.set_cons_succ]
    refine wpAnyH_takeQ 2 (v := ?_) (fun _ _ _ _ _ h => h) (by simp only [List.getElem?_toArray, List.getElem?_cons_succ, List.getElem?_cons_zero]; rfl) (by kernel_rfl) (by kernel_rfl) (by kernel_rfl) (by rfl) ?_ hHeld ?_; rotate_left; · (intro w hSw; (try dsimp only at hSw); go_simp; (try with_reducible rfl))
    try simp only [Act.put, List.setIfInBounds_toArray, List.set_cons_zero, List.set_cons_succ]
    refine wpAnyH_takeQ 3 (v := ?_) (fun _ _ _ _ _ h => h) (by simp only [List.getElem?_toArray, List.getElem?_cons_succ, List.getElem?_cons_zero]; rfl) (by kernel_rfl) (by kernel_rfl) (by kernel_rfl) (by rfl) ?_ hHeld ?_; rotate_left; · (intro w hSw; (try dsimp only at hSw); go_simp; (try with_reducible rfl))
    try simp only [Act.put, List.setIfInBounds_toArray, List.set_cons_zero, List.set_cons_succ]
    refine wpAnyH_takeQ 4 (v := ?_) (fun _ _ _ _ _ h => h) (by simp only [List.getElem?_toArray, List.getElem?_cons_succ, List.getElem?_cons_zero]; rfl) (by kernel_rfl) (by kernel_rfl) (by kernel_rfl) (by rfl) ?_ hHeld ?_; rotate_left; · (intro w hSw; (try dsimp only at hSw); go_simp; (try with_reducible rfl))
    try simp only [Act.put, List.setIfInBounds_toArray, List.set_cons_zero, List.set_cons_succ]
    refine wpAnyH_takeQ 5 (v := ?_) (fun _ _ _ _ _ h => h) (by simp only [List.getElem?_toArray, List.getElem?_cons_succ, List.getElem?_cons_zero]; rfl) (by kernel_rfl) (by kernel_rfl) (by kernel_rfl) (by rfl) ?_ hHeld ?_; rotate_left; · (intro w hSw; (try dsimp only at hSw); go_simp; (try with_reducible rfl))
    try simp only [Act.put, List.setIfInBounds_toArray, List.set_cons_zero, List.set_cons_succ]
    refine wpAnyH_takeQ 6 (v := ?_) (fun _ _ _ _ _ h => h) (by simp only [List.getElem?_toArray, List.getElem?_cons_succ, List.getElem?_cons_zero]; rfl) (by kernel_rfl) (by kernel_rfl) (by kernel_rfl) (by rfl) ?_ hHeld ?_; rotate_left; · (intro w hSw; (try dsimp only at hSw); go_simp; (try with_reducible rfl))
    try simp only [Act.put, List.setIfInBounds_toArray, List.set_cons_zero, List.set_cons_succ]
    refine wpAnyH_takeQ 7 (v := ?_) (fun _ _ _ _ _ h => h) (by simp only [List.getElem?_toArray, List.getElem?_cons_succ, List.getElem?_cons_zero]; rfl) (by kernel_rfl) (by kernel_rfl) (by kernel_rfl) (by rfl) ?_ hHeld ?_; rotate_left; · (intro w hSw; (try dsimp only at hSw); go_simp; (try with_reducible rfl))
    try simp only [Act.put, List.setIfInBounds_toArray, List.set_cons_zero, List.set_cons_succ]
    refine wpAnyH_takeQ 8 (v := ?_) (fun _ _ _ _ _ h => h) (by simp only [List.getElem?_toArray, List.getElem?_cons_succ, List.getElem?_cons_zero]; rfl) (by kernel_rfl) (by kernel_rfl) (by kernel_rfl) (by rfl) ?_ hHeld ?_; rotate_left; · (intro w hSw; (try dsimp only at hSw); go_simp; (try with_reducible rfl))
    try simp only [Act.put, List.setIfInBounds_toArray, List.set_cons_zero, List.set_cons_succ]
    refine wpAnyH_takeQ 9 (v := ?_) (fun _ _ _ _ _ h => h) (by simp only [List.getElem?_toArray, List.getElem?_cons_succ, List.getElem?_cons_zero]; rfl) (by kernel_rfl) (by kernel_rfl) (by kernel_rfl) (by rfl) ?_ hHeld ?_; rotate_left; · (intro w hSw; (try dsimp only at hSw); go_simp; (try with_reducible rfl))
    try simp only [Act.put, List.setIfInBounds_toArray, List.set_cons_zero, List.set_cons_succ]
    refine wpAnyH_takeQ 10 (v := ?_) (fun _ _ _ _ _ h => h) (by simp only [List.getElem?_toArray, List.getElem?_cons_succ, List.getElem?_cons_zero]; rfl) (by kernel_rfl) (by kernel_rfl) (by kernel_rfl) (by rfl) ?_ hHeld ?_; rotate_left; · (intro w hSw; (try dsimp only at hSw); go_simp; (try with_reducible rfl))
    try simp only [Act.put, List.setIfInBounds_toArray, List.set_cons_zero, List.set_cons_succ]
    refine wpAnyH_takeQ 11 (v := ?_) (fun _ _ _ _ _ h => h) (by simp only [List.getElem?_toArray, List.getElem?_cons_succ, List.getElem?_cons_zero]; rfl) (by kernel_rfl) (by kernel_rfl) (by kernel_rfl) (by rfl) ?_ hHeld ?_; rotate_left; · (intro w hSw; (try dsimp only at hSw); go_simp; (try with_reducible rfl))
    try simp only [Act.put, List.setIfInBounds_toArray, List.set_cons_zero, List.set_cons_succ]
    refine wpAnyH_takeQ 13 (v := ?_) (fun _ _ _ _ _ h => h) (by simp only [List.getElem?_toArray, List.getElem?_cons_succ, List.getElem?_cons_zero]; rfl) (by kernel_rfl) (by kernel_rfl) (by kernel_rfl) (by rfl) ?_ hHeld ?_; rotate_left; · (intro w hSw; (try dsimp only at hSw); go_simp; (try with_reducible rfl))
    try simp only [Act.put, List.setIfInBounds_toArray, List.set_cons_zero, List.set_cons_succ]
    refine wpAnyH_takeQ 14 (v := ?_) (fun _ _ _ _ _ h => h) (by simp only [List.getElem?_toArray, List.getElem?_cons_succ, List.getElem?_cons_zero]; rfl) (by kernel_rfl) (by kernel_rfl) (by kernel_rfl) (by rfl) ?_ hHeld ?_; rotate_left; · (intro w hSw; (try dsimp only at hSw); go_simp; (try with_reducible rfl))
    try simp only [Act.put, List.setIfInBounds_toArray, List.set_cons_zero, List.set_cons_succ]
    refine wpAnyH_takeQ 15 (v := ?_) (fun _ _ _ _ _ h => h) (by simp only [List.getElem?_toArray, List.getElem?_cons_succ, List.getElem?_cons_zero]; rfl) (by kernel_rfl) (by kernel_rfl) (by kernel_rfl) (by rfl) ?_ hHeld ?_; rotate_left; · (intro w hSw; (try dsimp only at hSw); go_simp; (try with_reducible rfl))
    try simp only [Act.put, List.setIfInBounds_toArray, List.set_cons_zero, List.set_cons_succ]
    refine wpAnyH_takeQ 16 (v := ?_) (fun _ _ _ _ _ h => h) (by simp only [List.getElem?_toArray, List.getElem?_cons_succ, List.getElem?_cons_zero]; rfl) (by kernel_rfl) (by kernel_rfl) (by kernel_rfl) (by rfl) ?_ hHeld ?_; rotate_left; · (intro w hSw; (try dsimp only at hSw); go_simp; (try with_reducible rfl))
    try simp only [Act.put, List.setIfInBounds_toArray, List.set_cons_zero, List.set_cons_succ]
    refine wpAnyH_takeQ 17 (v := ?_) (fun _ _ _ _ _ h => h) (by simp only [List.getElem?_toArray, List.getElem?_cons_succ, List.getElem?_cons_zero]; rfl) (by kernel_rfl) (by kernel_rfl) (by kernel_rfl) (by rfl) ?_ hHeld ?_; rotate_left; · (intro w hSw; (try dsimp only at hSw); go_simp; (try with_reducible rfl))
    try simp only [Act.put, List.setIfInBounds_toArray, List.set_cons_zero, List.set_cons_succ]
    refine wpAnyH_ready (rs := [12]) (by kernel_rfl) (by simp) ?_
    refine AllReadyH.cons (by simp only [List.getElem?_toArray, List.getElem?_cons_succ, List.getElem?_cons_zero]; rfl) (fun K hK => ?_) AllReadyH.nil
    go_simp
    clear hHeld
    refine (rmul_any _ _ _ _ _ (by exact Q_v.out.1.2) (by exact Q_u.out.2) (by omega) (by omega)).mono ?_
    rintro e w40 ⟨v_n, rfl, h_n, hb⟩
    replace Q_v := Lib.hid (Q_v.out.below hb)
    replace Q_u := Lib.hid (Q_u.out.below hb)
    replace B_r := Lib.hid (B_r.out.below hb)
    replace B_x := Lib.hid (B_x.out.below hb)
    replace B_y := Lib.hid (B_y.out.below hb)
    replace hB := below_next hB hb
    clear hb
    rw [val_limbs, val_limbs] at h_n
    have N_n := Lib.hid h_n
    clear h_n
    go_wp2_with fail
    refine hK.out _ _ (by exact ⟨B_x.out.c3, B_y.out.c3⟩) (fun hHeld => ?_)
    clear hK K
    try simp only [Act.put, List.setIfInBounds_toArray, List.set_cons_zero, List.set_cons_succ]
    refine wpAnyH_ready (rs := [18]) (by kernel_rfl) (by simp) ?_
    refine AllReadyH.cons (by simp only [List.getElem?_toArray, List.getElem?_cons_succ, List.getElem?_cons_zero]; rfl) (fun K hK => ?_) AllReadyH.nil
    go_simp
    clear hHeld
    refine (rmul_any _ _ _ _ _ (by exact Q_v.out.2) (by exact Q_u.out.1.2) (by omega) (by omega)).mono ?_
    rintro e w41 ⟨v_d, rfl, h_d, hb⟩
    replace Q_v := Lib.hid (Q_v.out.below hb)
    replace Q_u := Lib.hid (Q_u.out.below hb)
    replace N_n := Lib.hid (N_n.out.below hb)
    replace B_r := Lib.hid (B_r.out.below hb)
    replace B_x := Lib.hid (B_x.out.below hb)
    replace B_y := Lib.hid (B_y.out.below hb)
    replace hB := below_next hB hb
    clear hb
    rw [val_limbs, val_limbs] at h_d
    have N_d := Lib.hid h_d
    clear h_d
    go_wp2_with fail
    refine hK.out _ _ (by exact ⟨B_x.out.c3, B_y.out.c3⟩) (fun hHeld => ?_)
    clear hK K
    try simp only [Act.put, List.setIfInBounds_toArray, List.set_cons_zero, List.set_cons_succ]
    refine wpAnyH_ready (rs := [19]) (by kernel_rfl) (by simp) ?_
    refine AllReadyH.cons (by simp only [List.getElem?_toArray, List.getElem?_cons_succ, List.getElem?_cons_zero]; rfl) (fun K hK => ?_) AllReadyH.nil
    go_simp
    clear hHeld
    refine (r3reduce_any _ _ _ _ _ _ (by exact N_n.out) (by exact N_d.out) (Nat.le_trans S_n.out (by omega)) (Nat.le_trans S_d.out (by omega)) (by rw [val_limbs]; exact Nat.mul_ne_zero p.den_nz hn)).mono ?_
    rintro e w42 ⟨b_s, A_s, n_s, c_s, D_s, e_s, f_s, rfl, h_s, hb⟩
    replace Q_v := Lib.hid (Q_v.out.below hb)
    replace Q_u := Lib.hid (Q_u.out.below hb)
    replace N_n := Lib.hid (N_n.out.below hb)
    replace N_d := Lib.hid (N_d.out.below hb)
    replace B_r := Lib.hid (B_r.out.below hb)
    replace B_x := Lib.hid (B_x.out.below hb)
    replace B_y := Lib.hid (B_y.out.below hb)
    replace hB := below_next hB hb
    clear hb
    rw [val_limbs, low_div Q_v.out.1.1 Q_u.out.1.1 hq] at h_s
    have Q_s := Lib.hid h_s
    clear h_s
    go_wp2_with fail
    refine hK.out _ _ (by exact ⟨B_x.out.c3, B_y.out.c3⟩) (fun hHeld => ?_)
    clear hK K
    try simp only [Act.put, List.setIfInBounds_toArray, List.set_cons_zero, List.set_cons_succ]
    refine wpAnyH_ready (rs := [20]) (by kernel_rfl) (by simp) ?_
    refine AllReadyH.cons (by simp only [List.getElem?_toArray, List.getElem?_cons_succ, List.getElem?_cons_zero]; rfl) (fun K hK => ?_) AllReadyH.nil
    have c_r0 := B_r.out.cell0
    have c_r1 := B_r.out.cell1
    have c_r2 := B_r.out.cell2
    have f_r0 := B_r.out.fro 0
    have f_r1 := B_r.out.fro 1
    have f_r2 := B_r.out.fro 2
    have c_x0 := B_x.out.cell0
    have c_x1 := B_x.out.cell1
    have c_x2 := B_x.out.cell2
    have c_y0 := B_y.out.cell0
    have c_y1 := B_y.out.cell1
    have c_y2 := B_y.out.cell2
    go_simp
    clear c_r0 c_r1 c_r2 f_r0 f_r1 f_r2 c_x0 c_x1 c_x2 c_y0 c_y1 c_y2
    clear hHeld
    obtain ⟨V43, hV, NB, KP⟩ := storeR B_r.out (.bool b_s) (.slice A_s n_s c_s) (.slice D_s e_s f_s)
    rw [hV]
    clear hV
    replace Q_v := Lib.hid (Q_v.out.keeps KP.out)
    replace Q_u := Lib.hid (Q_u.out.keeps KP.out)
    replace N_n := Lib.hid (N_n.out.keeps KP.out)
    replace N_d := Lib.hid (N_d.out.keeps KP.out)
    replace Q_s := Lib.hid (Q_s.out.keeps KP.out)
    replace B_x := Lib.hid (B_x.out.keeps KP.out (by omega))
    replace B_y := Lib.hid (B_y.out.keeps KP.out (by omega))
    replace hB := below_keeps hB KP.out (by omega)
    have B_r := NB
    clear NB KP
    refine hK.out _ _ (by exact ⟨B_x.out.c3, B_y.out.c3⟩) (fun hHeld => ?_)
    clear hK K
    try simp only [Act.put, List.setIfInBounds_toArray, List.set_cons_zero, List.set_cons_succ]
    refine wpAnyH_takeQ 21 (v := ?_) (fun _ _ _ _ _ h => h) (by simp only [List.getElem?_toArray, List.getElem?_cons_succ, List.getElem?_cons_zero]; rfl) (by kernel_rfl) (by kernel_rfl) (by kernel_rfl) (by rfl) ?_ hHeld ?_; rotate_left; · (intro w hSw; (try dsimp only at hSw); go_simp; (try with_reducible rfl))
    try simp only [Act.put, List.setIfInBounds_toArray, List.set_cons_zero, List.set_cons_succ]
    refine wpAnyH_done (by kernel_rfl) (NoPanic.normal ?_) _
    clear hHeld
    go_wp2
    have c_r0 := B_r.out.cell0
    have c_r1 := B_r.out.cell1
    have c_r2 := B_r.out.cell2
    refine bodyPost_ret (v := .tuple #[.agg #[.bool b_s, .slice A_s n_s c_s, .slice D_s e_s f_s], .bool true]) (by simp [results, Tryz.results23, go_sem, c_r0, c_r1, c_r2]) rfl ?_
    exact ⟨_, _, _, _, _, _, _, rfl, Q_s.out, hB⟩
end Go.Proofs.YtoflndeonegkpaaGreatDoor
