/- garmentref03: Floor, Round, Text. -/
import Derived.Test.YtoflndeonegkpaaGreatDoorR1
import Derived.Test.YtoflndeonegkpaaGreatDoorQ5
namespace Go.Proofs.YtoflndeonegkpaaGreatDoor
open Go.RowKit

theorem ridivmod_ne2 {b1 b2 : Bool} {m1 m2 : Value} {z1 z2 : Int} {k1 k2 : Nat} {w : World} (h1 : IntAt w b1 m1 z1 k1) (h2 : IntAt w b2 m2 z2 k2) (hk1 : k1 ≤ 50000) (hk2 : k2 ≤ 50000) (h0 : z2 ≠ 0) :
    Calls Tryz.prog 44 #[.agg #[.bool b1, m1], .agg #[.bool b2, m2]] w (GivesZZ w (z1 / z2) (z1 % z2) true) := by
  have h := ridivmod_all b1 b2 m1 m2 z1 z2 k1 k2 w h1 h2 hk1 hk2
  rw [if_neg h0, if_neg h0, decide_eq_true h0] at h
  exact h
set_option maxRecDepth 100000 in
set_option maxHeartbeats 8000000 in
theorem r3floor_any (b_a : Bool) (m_a d_a : Value) (q : Rat) (k : Nat) (w : World) (h_a : RAt w b_a m_a d_a q k) (hk : 1 ≤ k) (hk2 : k ≤ 50000) : Calls Tryz.prog 14 #[.agg #[.bool b_a, m_a, d_a]] w (GivesZ w q.floor) := by
  have R_a := Lib.hid h_a
  obtain ⟨xs_a, ys_a, hx_a, hy_a, -, -, -⟩ := h_a
  obtain ⟨A_a, c_a, rfl, _, _⟩ := hx_a.form
  obtain ⟨D_a, f_a, rfl, _, _⟩ := hy_a.form
  clear hx_a hy_a
  have S_a := RAt.sz R_a.out hk
  have ln := limbs_length_le S_a.1
  have ld := limbs_length_le S_a.2
  go_enter Tryz.func14, Tryz.ntmps14
  go_upto_region 1 with fail
  obtain ⟨W0, hW, B_a, B_r, HW, HS⟩ := rboxRI w (.bool b_a) (.slice A_a xs_a.length c_a) (.slice D_a ys_a.length f_a) (.bool false) (.slice none 0 0)
  rw [hW]
  clear hW
  replace R_a := Lib.hid (R_a.out.below HW.out)
  have hB := HW.out
  have hsz := HS.out
  clear HW HS
  have c_a0 := B_a.out.cell0
  have c_a1 := B_a.out.cell1
  have c_a2 := B_a.out.cell2
  have c_r0 := B_r.out.cell0
  have c_r1 := B_r.out.cell1
  go_wp2_with fail
  clear c_a0 c_a1 c_a2 c_r0 c_r1
  refine (r3norm_any _ _ _ q k _ (by exact R_a.out) hk (by omega)).mono ?_
  rintro e w1 ⟨b_v, A_v, n_v, c_v, D_v, e_v, f_v, rfl, h_v, hb⟩
  replace R_a := Lib.hid (R_a.out.below hb)
  replace B_a := Lib.hid (B_a.out.below hb)
  replace B_r := Lib.hid (B_r.out.below hb)
  replace hB := below_next hB hb
  clear hb
  have Q_v := Lib.hid h_v
  clear h_v
  have c_a0 := B_a.out.cell0
  have c_a1 := B_a.out.cell1
  have c_a2 := B_a.out.cell2
  have c_r0 := B_r.out.cell0
  have c_r1 := B_r.out.cell1
  go_upto_region 2 with fail
  clear c_a0 c_a1 c_a2 c_r0 c_r1
  obtain ⟨W2, g_x, hV, hg, NB, hb⟩ := newR w1 (.bool b_v) (.slice A_v n_v c_v) (.slice D_v e_v f_v)
  rw [hV, hg]
  clear hV
  have l_x_a : w.heap.size < g_x := hg ▸ B_a.out.lt
  have l_x_r : w.heap.size + 1 < g_x := hg ▸ B_r.out.lt
  replace R_a := Lib.hid (R_a.out.below hb)
  replace Q_v := Lib.hid (Q_v.out.below hb)
  replace B_a := Lib.hid (B_a.out.below hb)
  replace B_r := Lib.hid (B_r.out.below hb)
  replace hB := below_next hB hb
  have B_x := NB
  clear NB hb hg
  have c_a0 := B_a.out.cell0
  have c_a1 := B_a.out.cell1
  have c_a2 := B_a.out.cell2
  have c_r0 := B_r.out.cell0
  have c_r1 := B_r.out.cell1
  have c_x0 := B_x.out.cell0
  have c_x1 := B_x.out.cell1
  have c_x2 := B_x.out.cell2
  go_wp2_with fail
  clear c_a0 c_a1 c_a2 c_r0 c_r1 c_x0 c_x1 c_x2
  refine (ridivmod_ne2 (z2 := (q.den : Int)) (k1 := k) (k2 := k) (by exact Q_v.out.1.int ln) (by exact ⟨_, Q_v.out.2, ld, by rw [zval_false, val_limbs]⟩) (by omega) (by omega) (by have := q.den_pos; omega)).mono ?_
  rintro e w3 ⟨b_q, A_q, n_q, c_q, b_s, A_s, n_s, c_s, rfl, h_q, h_s, hb⟩
  replace R_a := Lib.hid (R_a.out.below hb)
  replace Q_v := Lib.hid (Q_v.out.below hb)
  replace B_a := Lib.hid (B_a.out.below hb)
  replace B_r := Lib.hid (B_r.out.below hb)
  replace B_x := Lib.hid (B_x.out.below hb)
  replace hB := below_next hB hb
  clear hb
  rw [← Rat.floor_def] at h_q
  have Z_q := Lib.hid h_q
  clear h_q
  have Z_s := Lib.hid h_s
  clear h_s
  have c_a0 := B_a.out.cell0
  have c_a1 := B_a.out.cell1
  have c_a2 := B_a.out.cell2
  have c_r0 := B_r.out.cell0
  have c_r1 := B_r.out.cell1
  have c_x0 := B_x.out.cell0
  have c_x1 := B_x.out.cell1
  have c_x2 := B_x.out.cell2
  go_upto_region 3 with fail
  clear c_a0 c_a1 c_a2 c_r0 c_r1 c_x0 c_x1 c_x2
  obtain ⟨W4, hW, NB, NC, HW, HS⟩ := boxes2 w3 (.bool b_q) (.slice A_q n_q c_q) (.bool b_s) (.slice A_s n_s c_s)
  rw [hW]
  clear hW
  have l_y_a : w.heap.size < w3.heap.size := by have := B_a.out.lt; omega
  have l_y_r : w.heap.size + 1 < w3.heap.size := by have := B_r.out.lt; omega
  have l_y_x : g_x < w3.heap.size := by have := B_x.out.lt; omega
  have l_z_a : w.heap.size < w3.heap.size + 1 := by have := B_a.out.lt; omega
  have l_z_r : w.heap.size + 1 < w3.heap.size + 1 := by have := B_r.out.lt; omega
  have l_z_x : g_x < w3.heap.size + 1 := by have := B_x.out.lt; omega
  replace R_a := Lib.hid (R_a.out.below HW.out)
  replace Q_v := Lib.hid (Q_v.out.below HW.out)
  replace Z_q := Lib.hid (Z_q.out.below HW.out)
  replace Z_s := Lib.hid (Z_s.out.below HW.out)
  replace B_a := Lib.hid (B_a.out.below HW.out)
  replace B_r := Lib.hid (B_r.out.below HW.out)
  replace B_x := Lib.hid (B_x.out.below HW.out)
  replace hB := below_next hB HW.out
  have B_y := NB
  have B_z := NC
  clear NB NC HW HS
  have c_a0 := B_a.out.cell0
  have c_a1 := B_a.out.cell1
  have c_a2 := B_a.out.cell2
  have c_r0 := B_r.out.cell0
  have c_r1 := B_r.out.cell1
  have f_r0 := B_r.out.fro 0
  have f_r1 := B_r.out.fro 1
  have c_x0 := B_x.out.cell0
  have c_x1 := B_x.out.cell1
  have c_x2 := B_x.out.cell2
  have c_y0 := B_y.out.cell0
  have c_y1 := B_y.out.cell1
  have c_z0 := B_z.out.cell0
  have c_z1 := B_z.out.cell1
  go_wp2
  clear c_a0 c_a1 c_a2 c_r0 c_r1 f_r0 f_r1 c_x0 c_x1 c_x2 c_y0 c_y1 c_z0 c_z1
  obtain ⟨V5, hV, NB, KP⟩ := storeI B_r.out (.bool b_q) (.slice A_q n_q c_q)
  rw [hV]
  clear hV
  replace R_a := Lib.hid (R_a.out.keeps KP.out)
  replace Q_v := Lib.hid (Q_v.out.keeps KP.out)
  replace Z_q := Lib.hid (Z_q.out.keeps KP.out)
  replace Z_s := Lib.hid (Z_s.out.keeps KP.out)
  replace B_a := Lib.hid (B_a.out.keeps KP.out (by omega))
  replace B_x := Lib.hid (B_x.out.keeps KP.out (by omega))
  replace B_y := Lib.hid (B_y.out.keeps KP.out (by omega))
  replace B_z := Lib.hid (B_z.out.keeps KP.out (by omega))
  replace hB := below_keeps hB KP.out (by omega)
  have B_r := NB
  clear NB KP
  have c_r0 := B_r.out.cell0
  have c_r1 := B_r.out.cell1
  refine bodyPost_ret (v := .agg #[.bool b_q, .slice A_q n_q c_q]) (by simp [results, Tryz.results14, go_sem, c_r0, c_r1]) rfl ?_
  exact ⟨_, _, _, _, rfl, Z_q.out, hB⟩
theorem low_round (q : Rat) : zval (decide (q.num < 0)) (limbs ((2 * q.num.natAbs + q.den) / (2 * q.den))) = qround q := by
  unfold qround
  by_cases h : q.num < 0
  · rw [if_pos h, decide_eq_true h, zval_true, val_limbs]
  · rw [if_neg h, decide_eq_false h, zval_false, val_limbs]
set_option maxRecDepth 100000 in
set_option maxHeartbeats 8000000 in
theorem r3round_any (b_a : Bool) (m_a d_a : Value) (q : Rat) (k : Nat) (w : World) (h_a : RAt w b_a m_a d_a q k) (hk : 1 ≤ k) (hk2 : k ≤ 50000) : Calls Tryz.prog 16 #[.agg #[.bool b_a, m_a, d_a]] w (GivesZ w (qround q)) := by
  have R_a := Lib.hid h_a
  obtain ⟨xs_a, ys_a, hx_a, hy_a, -, -, -⟩ := h_a
  obtain ⟨A_a, c_a, rfl, _, _⟩ := hx_a.form
  obtain ⟨D_a, f_a, rfl, _, _⟩ := hy_a.form
  clear hx_a hy_a
  have S_a := RAt.sz R_a.out hk
  have ln := limbs_length_le S_a.1
  have ld := limbs_length_le S_a.2
  go_enter Tryz.func16, Tryz.ntmps16
  go_upto_region 1 with fail
  obtain ⟨W0, hW, B_a, B_r, HW, HS⟩ := rboxRI w (.bool b_a) (.slice A_a xs_a.length c_a) (.slice D_a ys_a.length f_a) (.bool false) (.slice none 0 0)
  rw [hW]
  clear hW
  replace R_a := Lib.hid (R_a.out.below HW.out)
  have hB := HW.out
  have hsz := HS.out
  clear HW HS
  have c_a0 := B_a.out.cell0
  have c_a1 := B_a.out.cell1
  have c_a2 := B_a.out.cell2
  have c_r0 := B_r.out.cell0
  have c_r1 := B_r.out.cell1
  go_wp2_with fail
  clear c_a0 c_a1 c_a2 c_r0 c_r1
  refine (r3norm_any _ _ _ q k _ (by exact R_a.out) hk (by omega)).mono ?_
  rintro e w1 ⟨b_v, A_v, n_v, c_v, D_v, e_v, f_v, rfl, h_v, hb⟩
  replace R_a := Lib.hid (R_a.out.below hb)
  replace B_a := Lib.hid (B_a.out.below hb)
  replace B_r := Lib.hid (B_r.out.below hb)
  replace hB := below_next hB hb
  clear hb
  have Q_v := Lib.hid h_v
  clear h_v
  have c_a0 := B_a.out.cell0
  have c_a1 := B_a.out.cell1
  have c_a2 := B_a.out.cell2
  have c_r0 := B_r.out.cell0
  have c_r1 := B_r.out.cell1
  go_upto_region 2 with fail
  clear c_a0 c_a1 c_a2 c_r0 c_r1
  obtain ⟨W2, g_x, hV, hg, NB, hb⟩ := newR w1 (.bool b_v) (.slice A_v n_v c_v) (.slice D_v e_v f_v)
  rw [hV, hg]
  clear hV
  have l_x_a : w.heap.size < g_x := hg ▸ B_a.out.lt
  have l_x_r : w.heap.size + 1 < g_x := hg ▸ B_r.out.lt
  replace R_a := Lib.hid (R_a.out.below hb)
  replace Q_v := Lib.hid (Q_v.out.below hb)
  replace B_a := Lib.hid (B_a.out.below hb)
  replace B_r := Lib.hid (B_r.out.below hb)
  replace hB := below_next hB hb
  have B_x := NB
  clear NB hb hg
  have c_a0 := B_a.out.cell0
  have c_a1 := B_a.out.cell1
  have c_a2 := B_a.out.cell2
  have c_r0 := B_r.out.cell0
  have c_r1 := B_r.out.cell1
  have c_x0 := B_x.out.cell0
  have c_x1 := B_x.out.cell1
  have c_x2 := B_x.out.cell2
  go_wp2_with fail
  clear c_a0 c_a1 c_a2 c_r0 c_r1 c_x0 c_x1 c_x2
  refine (rof_any 2 _ (by omega)).mono ?_
  rintro e w3 ⟨v_o, rfl, h_o, hb⟩
  replace R_a := Lib.hid (R_a.out.below hb)
  replace Q_v := Lib.hid (Q_v.out.below hb)
  replace B_a := Lib.hid (B_a.out.below hb)
  replace B_r := Lib.hid (B_r.out.below hb)
  replace B_x := Lib.hid (B_x.out.below hb)
  replace hB := below_next hB hb
  clear hb
  have N_o := Lib.hid h_o
  clear h_o
  have c_a0 := B_a.out.cell0
  have c_a1 := B_a.out.cell1
  have c_a2 := B_a.out.cell2
  have c_r0 := B_r.out.cell0
  have c_r1 := B_r.out.cell1
  have c_x0 := B_x.out.cell0
  have c_x1 := B_x.out.cell1
  have c_x2 := B_x.out.cell2
  go_wp2
  clear c_a0 c_a1 c_a2 c_r0 c_r1 c_x0 c_x1 c_x2
  have ST : Sz (2 * q.num.natAbs) (1 + k) := Sz.mul (show Sz 2 1 by unfold Sz; omega) S_a.1
  have SD : Sz (2 * q.den) (1 + k) := Sz.mul (show Sz 2 1 by unfold Sz; omega) S_a.2
  have lo : (limbs 2).length ≤ 1 := limbs_length_le (by omega)
  have lT := limbs_length_le ST
  have lD := limbs_length_le SD
  have SU := ST.add (S_a.2.more (show k ≤ 1 + k by omega))
  have lU := limbs_length_le SU
  refine wp_region_named (S := (fun w' => w'.cell? ⟨g_x, 0, none⟩ = some (.bool b_v) ∧ w'.cell? ⟨g_x, 1, none⟩ = some (.slice A_v n_v c_v) ∧ w'.cell? ⟨g_x, 2, none⟩ = some (.slice D_v e_v f_v))) (by kernel_rfl) (by exact ⟨B_x.out.cell0, B_x.out.cell1, B_x.out.cell2⟩) (fun V4 hb hHeld => ?_)
  replace R_a := Lib.hid (R_a.out.below hb)
  replace Q_v := Lib.hid (Q_v.out.below hb)
  replace N_o := Lib.hid (N_o.out.below hb)
  replace B_a := Lib.hid (B_a.out.below hb)
  replace B_r := Lib.hid (B_r.out.below hb)
  replace B_x := Lib.hid (B_x.out.below hb)
  replace hB := below_next hB hb
  clear hb
  refine wpAnyH_takeQ 0 (v := ?_) (fun _ _ _ _ _ h => h) (by simp only [List.getElem?_toArray, List.getElem?_cons_zero]; rfl) (by kernel_rfl) (by kernel_rfl) (by kernel_rfl) (by rfl) ?_ hHeld ?_
  rotate_left
  · (intro w hSw; (try dsimp only at hSw); go_simp; (try with_reducible rfl))
  try simp only [Act.put, List.setIfInBounds_toArray, List.set_cons_zero, List.set_cons_succ]
  refine wpAnyH_takeQ 1 (v := ?_) (fun _ _ _ _ _ h => h) (by simp only [List.getElem?_toArray, List.getElem?_cons_succ, List.getElem?_cons_zero]; rfl) (by kernel_rfl) (by kernel_rfl) (by kernel_rfl) (by rfl) ?_ hHeld ?_
  rotate_left
  · (intro w hSw; (try dsimp only at hSw); go_simp; (try with_reducible rfl))
  try simp only [Act.put, List.setIfInBounds_toArray, List.set_cons_zero, List.set_cons_succ]
  refine wpAnyH_takeQ 2 (v := ?_) (fun _ _ _ _ _ h => h) (by simp only [List.getElem?_toArray, List.getElem?_cons_succ, List.getElem?_cons_zero]; rfl) (by kernel_rfl) (by kernel_rfl) (by kernel_rfl) (by rfl) ?_ hHeld ?_
  rotate_left
  · (intro w hSw; (try dsimp only at hSw); go_simp; (try with_reducible rfl))
  try simp only [Act.put, List.setIfInBounds_toArray, List.set_cons_zero, List.set_cons_succ]
  refine wpAnyH_takeQ 3 (v := ?_) (fun _ _ _ _ _ h => h) (by simp only [List.getElem?_toArray, List.getElem?_cons_succ, List.getElem?_cons_zero]; rfl) (by kernel_rfl) (by kernel_rfl) (by kernel_rfl) (by rfl) ?_ hHeld ?_
  rotate_left
  · (intro w hSw; (try dsimp only at hSw); go_simp; (try with_reducible rfl))
  try simp only [Act.put, List.setIfInBounds_toArray, List.set_cons_zero, List.set_cons_succ]
  refine wpAnyH_takeQ 5 (v := ?_) (fun _ _ _ _ _ h => h) (by simp only [List.getElem?_toArray, List.getElem?_cons_succ, List.getElem?_cons_zero]; rfl) (by kernel_rfl) (by kernel_rfl) (by kernel_rfl) (by rfl) ?_ hHeld ?_
  rotate_left
  · (intro w hSw; (try dsimp only at hSw); go_simp; (try with_reducible rfl))
  try simp only [Act.put, List.setIfInBounds_toArray, List.set_cons_zero, List.set_cons_succ]
  refine wpAnyH_takeQ 6 (v := ?_) (fun _ _ _ _ _ h => h) (by simp only [List.getElem?_toArray, List.getElem?_cons_succ, List.getElem?_cons_zero]; rfl) (by kernel_rfl) (by kernel_rfl) (by kernel_rfl) (by rfl) ?_ hHeld ?_
  rotate_left
  · (intro w hSw; (try dsimp only at hSw); go_simp; (try with_reducible rfl))
  try simp only [Act.put, List.setIfInBounds_toArray, List.set_cons_zero, List.set_cons_succ]
  refine wpAnyH_takeQ 8 (v := ?_) (fun _ _ _ _ _ h => h) (by simp only [List.getElem?_toArray, List.getElem?_cons_succ, List.getElem?_cons_zero]; rfl) (by kernel_rfl) (by kernel_rfl) (by kernel_rfl) (by rfl) ?_ hHeld ?_
  rotate_left
  · (intro w hSw; (try dsimp only at hSw); go_simp; (try with_reducible rfl))
  try simp only [Act.put, List.setIfInBounds_toArray, List.set_cons_zero, List.set_cons_succ]
  refine wpAnyH_takeQ 9 (v := ?_) (fun _ _ _ _ _ h => h) (by simp only [List.getElem?_toArray, List.getElem?_cons_succ, List.getElem?_cons_zero]; rfl) (by kernel_rfl) (by kernel_rfl) (by kernel_rfl) (by rfl) ?_ hHeld ?_
  rotate_left
  · (intro w hSw; (try dsimp only at hSw); go_simp; (try with_reducible rfl))
  try simp only [Act.put, List.setIfInBounds_toArray, List.set_cons_zero, List.set_cons_succ]
  refine wpAnyH_takeQ 10 (v := ?_) (fun _ _ _ _ _ h => h) (by simp only [List.getElem?_toArray, List.getElem?_cons_succ, List.getElem?_cons_zero]; rfl) (by kernel_rfl) (by kernel_rfl) (by kernel_rfl) (by rfl) ?_ hHeld ?_
  rotate_left
  · (intro w hSw; (try dsimp only at hSw); go_simp; (try with_reducible rfl))
  try simp only [Act.put, List.setIfInBounds_toArray, List.set_cons_zero, List.set_cons_succ]
  refine wpAnyH_ready (rs := [4]) (by kernel_rfl) (by simp) ?_
  refine AllReadyH.cons (by simp only [List.getElem?_toArray, List.getElem?_cons_succ, List.getElem?_cons_zero]; rfl) (fun K hK => ?_) AllReadyH.nil
  go_simp
  clear hHeld
  refine (rmul_any _ _ _ _ _ (by exact N_o.out) (by exact Q_v.out.1.2) (by omega) (by omega)).mono ?_
  rintro e w5 ⟨v_t, rfl, h_t, hb⟩
  replace R_a := Lib.hid (R_a.out.below hb)
  replace Q_v := Lib.hid (Q_v.out.below hb)
  replace N_o := Lib.hid (N_o.out.below hb)
  replace B_a := Lib.hid (B_a.out.below hb)
  replace B_r := Lib.hid (B_r.out.below hb)
  replace B_x := Lib.hid (B_x.out.below hb)
  replace hB := below_next hB hb
  clear hb
  rw [val_limbs, val_limbs] at h_t
  have N_t := Lib.hid h_t
  clear h_t
  go_wp2_with fail
  refine hK.out _ _ (by exact ⟨B_x.out.cell0, B_x.out.cell1, B_x.out.cell2⟩) (fun hHeld => ?_)
  clear hK K
  try simp only [Act.put, List.setIfInBounds_toArray, List.set_cons_zero, List.set_cons_succ]
  refine wpAnyH_ready (rs := [7]) (by kernel_rfl) (by simp) ?_
  refine AllReadyH.cons (by simp only [List.getElem?_toArray, List.getElem?_cons_succ, List.getElem?_cons_zero]; rfl) (fun K hK => ?_) AllReadyH.nil
  go_simp
  clear hHeld
  refine (radd_any _ _ _ _ _ (by exact N_t.out) (by exact Q_v.out.2) (by omega) (by omega)).mono ?_
  rintro e w6 ⟨v_u, rfl, h_u, hb⟩
  replace R_a := Lib.hid (R_a.out.below hb)
  replace Q_v := Lib.hid (Q_v.out.below hb)
  replace N_o := Lib.hid (N_o.out.below hb)
  replace N_t := Lib.hid (N_t.out.below hb)
  replace B_a := Lib.hid (B_a.out.below hb)
  replace B_r := Lib.hid (B_r.out.below hb)
  replace B_x := Lib.hid (B_x.out.below hb)
  replace hB := below_next hB hb
  clear hb
  rw [val_limbs, val_limbs] at h_u
  have N_u := Lib.hid h_u
  clear h_u
  go_wp2_with fail
  refine hK.out _ _ (by exact ⟨B_x.out.cell0, B_x.out.cell1, B_x.out.cell2⟩) (fun hHeld => ?_)
  clear hK K
  try simp only [Act.put, List.setIfInBounds_toArray, List.set_cons_zero, List.set_cons_succ]
  refine wpAnyH_ready (rs := [11]) (by kernel_rfl) (by simp) ?_
  refine AllReadyH.cons (by simp only [List.getElem?_toArray, List.getElem?_cons_succ, List.getElem?_cons_zero]; rfl) (fun K hK => ?_) AllReadyH.nil
  go_simp
  clear hHeld
  refine (rmul_any _ _ _ _ _ (by exact N_o.out) (by exact Q_v.out.2) (by omega) (by omega)).mono ?_
  rintro e w7 ⟨v_d, rfl, h_d, hb⟩
  replace R_a := Lib.hid (R_a.out.below hb)
  replace Q_v := Lib.hid (Q_v.out.below hb)
  replace N_o := Lib.hid (N_o.out.below hb)
  replace N_t := Lib.hid (N_t.out.below hb)
  replace N_u := Lib.hid (N_u.out.below hb)
  replace B_a := Lib.hid (B_a.out.below hb)
  replace B_r := Lib.hid (B_r.out.below hb)
  replace B_x := Lib.hid (B_x.out.below hb)
  replace hB := below_next hB hb
  clear hb
  rw [val_limbs, val_limbs] at h_d
  have N_d := Lib.hid h_d
  clear h_d
  go_wp2_with fail
  refine hK.out _ _ (by exact ⟨B_x.out.cell0, B_x.out.cell1, B_x.out.cell2⟩) (fun hHeld => ?_)
  clear hK K
  try simp only [Act.put, List.setIfInBounds_toArray, List.set_cons_zero, List.set_cons_succ]
  refine wpAnyH_ready (rs := [12]) (by kernel_rfl) (by simp) ?_
  refine AllReadyH.cons (by simp only [List.getElem?_toArray, List.getElem?_cons_succ, List.getElem?_cons_zero]; rfl) (fun K hK => ?_) AllReadyH.nil
  go_simp
  clear hHeld
  refine (rdivmod_any _ _ _ _ _ (by exact N_u.out) (by exact N_d.out) (by omega) (by omega) (by rw [val_limbs]; have := q.den_pos; omega)).mono ?_
  rintro e w8 ⟨v_q, u_q, rfl, h_q, z_q, hb⟩
  replace R_a := Lib.hid (R_a.out.below hb)
  replace Q_v := Lib.hid (Q_v.out.below hb)
  replace N_o := Lib.hid (N_o.out.below hb)
  replace N_t := Lib.hid (N_t.out.below hb)
  replace N_u := Lib.hid (N_u.out.below hb)
  replace N_d := Lib.hid (N_d.out.below hb)
  replace B_a := Lib.hid (B_a.out.below hb)
  replace B_r := Lib.hid (B_r.out.below hb)
  replace B_x := Lib.hid (B_x.out.below hb)
  replace hB := below_next hB hb
  clear hb
  clear z_q
  rw [val_limbs, val_limbs] at h_q
  obtain ⟨A_q, c_q, rfl, _, _⟩ := h_q.form
  have N_q := Lib.hid h_q
  clear h_q
  go_wp2_with fail
  refine hK.out _ _ (by exact ⟨B_x.out.cell0, B_x.out.cell1, B_x.out.cell2⟩) (fun hHeld => ?_)
  clear hK K
  try simp only [Act.put, List.setIfInBounds_toArray, List.set_cons_zero, List.set_cons_succ]
  refine wpAnyH_takeQ 13 (v := ?_) (fun _ _ _ _ _ h => h) (by simp only [List.getElem?_toArray, List.getElem?_cons_succ, List.getElem?_cons_zero]; rfl) (by kernel_rfl) (by kernel_rfl) (by kernel_rfl) (by rfl) ?_ hHeld ?_
  rotate_left
  · (intro w hSw; (try dsimp only at hSw); go_simp; (try with_reducible rfl))
  try simp only [Act.put, List.setIfInBounds_toArray, List.set_cons_zero, List.set_cons_succ]
  refine wpAnyH_takeQ 14 (v := ?_) (fun _ _ _ _ _ h => h) (by simp only [List.getElem?_toArray, List.getElem?_cons_succ, List.getElem?_cons_zero]; rfl) (by kernel_rfl) (by kernel_rfl) (by kernel_rfl) (by rfl) ?_ hHeld ?_
  rotate_left
  · (intro w hSw; (try dsimp only at hSw); go_simp; (try with_reducible rfl))
  try simp only [Act.put, List.setIfInBounds_toArray, List.set_cons_zero, List.set_cons_succ]
  refine wpAnyH_takeQ 15 (v := ?_) (fun _ _ _ _ _ h => h) (by simp only [List.getElem?_toArray, List.getElem?_cons_succ, List.getElem?_cons_zero]; rfl) (by kernel_rfl) (by kernel_rfl) (by kernel_rfl) (by rfl) ?_ hHeld ?_
  rotate_left
  · (intro w hSw; (try dsimp only at hSw); go_simp; (try with_reducible rfl))
  try simp only [Act.put, List.setIfInBounds_toArray, List.set_cons_zero, List.set_cons_succ]
  refine wpAnyH_takeQ 16 (v := ?_) (fun _ _ _ _ _ h => h) (by simp only [List.getElem?_toArray, List.getElem?_cons_succ, List.getElem?_cons_zero]; rfl) (by kernel_rfl) (by kernel_rfl) (by kernel_rfl) (by rfl) ?_ hHeld ?_
  rotate_left
  · (intro w hSw; (try dsimp only at hSw); go_simp; (try with_reducible rfl))
  try simp only [Act.put, List.setIfInBounds_toArray, List.set_cons_zero, List.set_cons_succ]
  refine wpAnyH_takeQ 17 (v := ?_) (fun _ _ _ _ _ h => h) (by simp only [List.getElem?_toArray, List.getElem?_cons_succ, List.getElem?_cons_zero]; rfl) (by kernel_rfl) (by kernel_rfl) (by kernel_rfl) (by rfl) ?_ hHeld ?_
  rotate_left
  · (intro w hSw; (try dsimp only at hSw); go_simp; (try with_reducible rfl))
  try simp only [Act.put, List.setIfInBounds_toArray, List.set_cons_zero, List.set_cons_succ]
  refine wpAnyH_takeQ 18 (v := ?_) (fun _ _ _ _ _ h => h) (by simp only [List.getElem?_toArray, List.getElem?_cons_succ, List.getElem?_cons_zero]; rfl) (by kernel_rfl) (by kernel_rfl) (by kernel_rfl) (by rfl) ?_ hHeld ?_
  rotate_left
  · (intro w hSw; (try dsimp only at hSw); go_simp; (try with_reducible rfl))
  try simp only [Act.put, List.setIfInBounds_toArray, List.set_cons_zero, List.set_cons_succ]
  refine wpAnyH_takeQ 19 (v := ?_) (fun _ _ _ _ _ h => h) (by simp only [List.getElem?_toArray, List.getElem?_cons_succ, List.getElem?_cons_zero]; rfl) (by kernel_rfl) (by kernel_rfl) (by kernel_rfl) (by rfl) ?_ hHeld ?_
  rotate_left
  · (intro w hSw; (try dsimp only at hSw); go_simp; (try with_reducible rfl))
  try simp only [Act.put, List.setIfInBounds_toArray, List.set_cons_zero, List.set_cons_succ]
  refine wpAnyH_done (by kernel_rfl) (NoPanic.normal ?_) _
  clear hHeld
  have c_a0 := B_a.out.cell0
  have c_a1 := B_a.out.cell1
  have c_a2 := B_a.out.cell2
  have c_r0 := B_r.out.cell0
  have c_r1 := B_r.out.cell1
  have c_x0 := B_x.out.cell0
  have c_x1 := B_x.out.cell1
  have c_x2 := B_x.out.cell2
  go_wp2_with fail
  clear c_a0 c_a1 c_a2 c_r0 c_r1 c_x0 c_x1 c_x2
  refine (rinorm_any _ _ _ (1 + k + 1) _ (by exact ⟨_, N_q.out, limbs_length_le (SU.le (Nat.div_le_self _ _)), rfl⟩) (by omega)).mono ?_
  rintro e w9 ⟨b_s, A_s, n_s, c_s, rfl, h_s, hb⟩
  replace R_a := Lib.hid (R_a.out.below hb)
  replace Q_v := Lib.hid (Q_v.out.below hb)
  replace N_o := Lib.hid (N_o.out.below hb)
  replace N_t := Lib.hid (N_t.out.below hb)
  replace N_u := Lib.hid (N_u.out.below hb)
  replace N_d := Lib.hid (N_d.out.below hb)
  replace N_q := Lib.hid (N_q.out.below hb)
  replace B_a := Lib.hid (B_a.out.below hb)
  replace B_r := Lib.hid (B_r.out.below hb)
  replace B_x := Lib.hid (B_x.out.below hb)
  replace hB := below_next hB hb
  clear hb
  rw [Q_v.out.1.1, low_round] at h_s
  have Z_s := Lib.hid h_s
  clear h_s
  have c_a0 := B_a.out.cell0
  have c_a1 := B_a.out.cell1
  have c_a2 := B_a.out.cell2
  have c_r0 := B_r.out.cell0
  have c_r1 := B_r.out.cell1
  have f_r0 := B_r.out.fro 0
  have f_r1 := B_r.out.fro 1
  have c_x0 := B_x.out.cell0
  have c_x1 := B_x.out.cell1
  have c_x2 := B_x.out.cell2
  go_wp2
  clear c_a0 c_a1 c_a2 c_r0 c_r1 f_r0 f_r1 c_x0 c_x1 c_x2
  obtain ⟨V10, hV, NB, KP⟩ := storeI B_r.out (.bool b_s) (.slice A_s n_s c_s)
  rw [hV]
  clear hV
  replace R_a := Lib.hid (R_a.out.keeps KP.out)
  replace Q_v := Lib.hid (Q_v.out.keeps KP.out)
  replace N_o := Lib.hid (N_o.out.keeps KP.out)
  replace N_t := Lib.hid (N_t.out.keeps KP.out)
  replace N_u := Lib.hid (N_u.out.keeps KP.out)
  replace N_d := Lib.hid (N_d.out.keeps KP.out)
  replace N_q := Lib.hid (N_q.out.keeps KP.out)
  replace Z_s := Lib.hid (Z_s.out.keeps KP.out)
  replace B_a := Lib.hid (B_a.out.keeps KP.out (by omega))
  replace B_x := Lib.hid (B_x.out.keeps KP.out (by omega))
  replace hB := below_keeps hB KP.out (by omega)
  have B_r := NB
  clear NB KP
  have c_r0 := B_r.out.cell0
  have c_r1 := B_r.out.cell1
  refine bodyPost_ret (v := .agg #[.bool b_s, .slice A_s n_s c_s]) (by simp [results, Tryz.results16, go_sem, c_r0, c_r1]) rfl ?_
  exact ⟨_, _, _, _, rfl, Z_s.out, hB⟩
open Go.Lib (decDigits)
theorem rncmp_is {va vb : Value} {xs ys : List Nat} {w : World} {v : Int} (ha : NatAt w va xs) (hb : NatAt w vb ys) (h : ord (val xs) (val ys) = v) : Calls Tryz.prog 57 #[va, vb] w (GivesOrd w v) :=
  (rcmp_below va vb xs ys w ha hb).mono fun _ _ ⟨he, hb, _⟩ => ⟨by rw [he, h], hb⟩
set_option maxRecDepth 100000 in
set_option maxHeartbeats 8000000 in
theorem r3text_any (b_a : Bool) (m_a d_a : Value) (q : Rat) (k : Nat) (w : World) (h_a : RAt w b_a m_a d_a q k) (hk : 1 ≤ k) (hk2 : k ≤ 50000) : Calls Tryz.prog 18 #[.agg #[.bool b_a, m_a, d_a]] w (GivesStr w (qtext q)) := by
  have R_a := Lib.hid h_a
  obtain ⟨xs_a, ys_a, hx_a, hy_a, -, -, -⟩ := h_a
  obtain ⟨A_a, c_a, rfl, _, _⟩ := hx_a.form
  obtain ⟨D_a, f_a, rfl, _, _⟩ := hy_a.form
  clear hx_a hy_a
  have S_a := RAt.sz R_a.out hk
  have ln := limbs_length_le S_a.1
  have ld := limbs_length_le S_a.2
  have tn := ztext_len ln
  have td := dec_len_le q.den
  have tl1 : ¬ (9223372036854775807 < (ztext q.num).length + 1) := by omega
  have tl2 : ¬ (9223372036854775807 < (ztext q.num).length + 1 + (decDigits q.den).length) := by omega
  by_cases h1 : q.den = 1
  · skip
    go_enter Tryz.func18, Tryz.ntmps18
    go_upto_region 1 with fail
    obtain ⟨W0, hW, B_a, HW, HS⟩ := rbox1 w (.bool b_a) (.slice A_a xs_a.length c_a) (.slice D_a ys_a.length f_a)
    rw [hW]
    clear hW
    replace R_a := Lib.hid (R_a.out.below HW.out)
    have hB := HW.out
    have hsz := HS.out
    clear HW HS
    have c_a0 := B_a.out.cell0
    have c_a1 := B_a.out.cell1
    have c_a2 := B_a.out.cell2
    go_wp2_with fail
    clear c_a0 c_a1 c_a2
    refine (r3norm_any _ _ _ q k _ (by exact R_a.out) hk (by omega)).mono ?_
    rintro e w1 ⟨b_v, A_v, n_v, c_v, D_v, e_v, f_v, rfl, h_v, hb⟩
    replace R_a := Lib.hid (R_a.out.below hb)
    replace B_a := Lib.hid (B_a.out.below hb)
    replace hB := below_next hB hb
    clear hb
    have Q_v := Lib.hid h_v
    clear h_v
    have c_a0 := B_a.out.cell0
    have c_a1 := B_a.out.cell1
    have c_a2 := B_a.out.cell2
    go_wp2
    clear c_a0 c_a1 c_a2
    obtain ⟨W2, g_x, hV, hg, NB, hb⟩ := newR w1 (.bool b_v) (.slice A_v n_v c_v) (.slice D_v e_v f_v)
    rw [hV, hg]
    clear hV
    have l_x_a : w.heap.size < g_x := hg ▸ B_a.out.lt
    replace R_a := Lib.hid (R_a.out.below hb)
    replace Q_v := Lib.hid (Q_v.out.below hb)
    replace B_a := Lib.hid (B_a.out.below hb)
    replace hB := below_next hB hb
    have B_x := NB
    clear NB hb hg
    clear R_a
    refine wp_region_named (S := (fun w' => w'.cell? ⟨g_x, 0, none⟩ = some (.bool b_v) ∧ w'.cell? ⟨g_x, 1, none⟩ = some (.slice A_v n_v c_v) ∧ w'.cell? ⟨g_x, 2, none⟩ = some (.slice D_v e_v f_v))) (by kernel_rfl) (by exact ⟨B_x.out.cell0, B_x.out.cell1, B_x.out.cell2⟩) (fun V3 hb hHeld => ?_)
    replace Q_v := Lib.hid (Q_v.out.below hb)
    replace B_a := Lib.hid (B_a.out.below hb)
    replace B_x := Lib.hid (B_x.out.below hb)
    replace hB := below_next hB hb
    clear hb
    refine wpAnyH_takeQ 0 (v := ?_) (fun _ _ _ _ _ h => h) (by simp only [List.getElem?_toArray, List.getElem?_cons_zero]; rfl) (by kernel_rfl) (by kernel_rfl) (by kernel_rfl) (by rfl) ?_ hHeld ?_
    rotate_left
    · (intro w hSw; (try dsimp only at hSw); go_simp; (try with_reducible rfl))
    try simp only [Act.put, List.setIfInBounds_toArray, List.set_cons_zero, List.set_cons_succ]
    refine wpAnyH_takeQ 1 (v := ?_) (fun _ _ _ _ _ h => h) (by simp only [List.getElem?_toArray, List.getElem?_cons_succ, List.getElem?_cons_zero]; rfl) (by kernel_rfl) (by kernel_rfl) (by kernel_rfl) (by rfl) ?_ hHeld ?_
    rotate_left
    · (intro w hSw; (try dsimp only at hSw); go_simp; (try with_reducible rfl))
    try simp only [Act.put, List.setIfInBounds_toArray, List.set_cons_zero, List.set_cons_succ]
    refine wpAnyH_ready (rs := [2]) (by kernel_rfl) (by simp) ?_
    refine AllReadyH.cons (by simp only [List.getElem?_toArray, List.getElem?_cons_succ, List.getElem?_cons_zero]; rfl) (fun K hK => ?_) AllReadyH.nil
    go_simp
    clear hHeld
    refine (rof_any 1 _ (by omega)).mono ?_
    rintro e w4 ⟨v_o, rfl, h_o, hb⟩
    replace Q_v := Lib.hid (Q_v.out.below hb)
    replace B_a := Lib.hid (B_a.out.below hb)
    replace B_x := Lib.hid (B_x.out.below hb)
    replace hB := below_next hB hb
    clear hb
    have N_o := Lib.hid h_o
    clear h_o
    go_wp2_with fail
    refine hK.out _ _ (by exact ⟨B_x.out.cell0, B_x.out.cell1, B_x.out.cell2⟩) (fun hHeld => ?_)
    clear hK K
    try simp only [Act.put, List.setIfInBounds_toArray, List.set_cons_zero, List.set_cons_succ]
    refine wpAnyH_ready (rs := [3]) (by kernel_rfl) (by simp) ?_
    refine AllReadyH.cons (by simp only [List.getElem?_toArray, List.getElem?_cons_succ, List.getElem?_cons_zero]; rfl) (fun K hK => ?_) AllReadyH.nil
    go_simp
    clear hHeld
    refine (rncmp_is (v := 0) (by exact Q_v.out.2) (by exact N_o.out) (by rw [val_limbs, val_limbs]; exact ord_eq h1)).mono ?_
    rintro e w5 ⟨rfl, hb⟩
    replace Q_v := Lib.hid (Q_v.out.below hb)
    replace N_o := Lib.hid (N_o.out.below hb)
    replace B_a := Lib.hid (B_a.out.below hb)
    replace B_x := Lib.hid (B_x.out.below hb)
    replace hB := below_next hB hb
    clear hb
    go_wp2_with fail
    refine hK.out _ _ (by exact ⟨B_x.out.cell0, B_x.out.cell1, B_x.out.cell2⟩) (fun hHeld => ?_)
    clear hK K
    try simp only [Act.put, List.setIfInBounds_toArray, List.set_cons_zero, List.set_cons_succ]
    refine wpAnyH_takeQ 4 (v := ?_) (fun _ _ _ _ _ h => h) (by simp only [List.getElem?_toArray, List.getElem?_cons_succ, List.getElem?_cons_zero]; rfl) (by kernel_rfl) (by kernel_rfl) (by kernel_rfl) (by rfl) ?_ hHeld ?_
    rotate_left
    · (intro w hSw; (try dsimp only at hSw); go_simp; (try with_reducible rfl))
    try simp only [Act.put, List.setIfInBounds_toArray, List.set_cons_zero, List.set_cons_succ]
    refine wpAnyH_done (by kernel_rfl) (NoPanic.normal ?_) _
    clear hHeld
    have c_a0 := B_a.out.cell0
    have c_a1 := B_a.out.cell1
    have c_a2 := B_a.out.cell2
    have c_x0 := B_x.out.cell0
    have c_x1 := B_x.out.cell1
    have c_x2 := B_x.out.cell2
    go_wp2_with fail
    clear c_a0 c_a1 c_a2 c_x0 c_x1 c_x2
    refine (ritext_any _ _ q.num k _ (by exact Q_v.out.1.int ln) (by omega)).mono ?_
    rintro e w6 ⟨rfl, hb⟩
    replace Q_v := Lib.hid (Q_v.out.below hb)
    replace N_o := Lib.hid (N_o.out.below hb)
    replace B_a := Lib.hid (B_a.out.below hb)
    replace B_x := Lib.hid (B_x.out.below hb)
    replace hB := below_next hB hb
    clear hb
    go_wp2
    go_ret
    rw [show qtext q = ztext q.num from if_pos h1]
    exact ⟨rfl, hB⟩
  · skip
    go_enter Tryz.func18, Tryz.ntmps18
    go_upto_region 1 with fail
    obtain ⟨W0, hW, B_a, HW, HS⟩ := rbox1 w (.bool b_a) (.slice A_a xs_a.length c_a) (.slice D_a ys_a.length f_a)
    rw [hW]
    clear hW
    replace R_a := Lib.hid (R_a.out.below HW.out)
    have hB := HW.out
    have hsz := HS.out
    clear HW HS
    have c_a0 := B_a.out.cell0
    have c_a1 := B_a.out.cell1
    have c_a2 := B_a.out.cell2
    go_wp2_with fail
    clear c_a0 c_a1 c_a2
    refine (r3norm_any _ _ _ q k _ (by exact R_a.out) hk (by omega)).mono ?_
    rintro e w1 ⟨b_v, A_v, n_v, c_v, D_v, e_v, f_v, rfl, h_v, hb⟩
    replace R_a := Lib.hid (R_a.out.below hb)
    replace B_a := Lib.hid (B_a.out.below hb)
    replace hB := below_next hB hb
    clear hb
    have Q_v := Lib.hid h_v
    clear h_v
    have c_a0 := B_a.out.cell0
    have c_a1 := B_a.out.cell1
    have c_a2 := B_a.out.cell2
    go_wp2
    clear c_a0 c_a1 c_a2
    obtain ⟨W2, g_x, hV, hg, NB, hb⟩ := newR w1 (.bool b_v) (.slice A_v n_v c_v) (.slice D_v e_v f_v)
    rw [hV, hg]
    clear hV
    have l_x_a : w.heap.size < g_x := hg ▸ B_a.out.lt
    replace R_a := Lib.hid (R_a.out.below hb)
    replace Q_v := Lib.hid (Q_v.out.below hb)
    replace B_a := Lib.hid (B_a.out.below hb)
    replace hB := below_next hB hb
    have B_x := NB
    clear NB hb hg
    clear R_a
    refine wp_region_named (S := (fun w' => w'.cell? ⟨g_x, 0, none⟩ = some (.bool b_v) ∧ w'.cell? ⟨g_x, 1, none⟩ = some (.slice A_v n_v c_v) ∧ w'.cell? ⟨g_x, 2, none⟩ = some (.slice D_v e_v f_v))) (by kernel_rfl) (by exact ⟨B_x.out.cell0, B_x.out.cell1, B_x.out.cell2⟩) (fun V3 hb hHeld => ?_)
    replace Q_v := Lib.hid (Q_v.out.below hb)
    replace B_a := Lib.hid (B_a.out.below hb)
    replace B_x := Lib.hid (B_x.out.below hb)
    replace hB := below_next hB hb
    clear hb
    refine wpAnyH_takeQ 0 (v := ?_) (fun _ _ _ _ _ h => h) (by simp only [List.getElem?_toArray, List.getElem?_cons_zero]; rfl) (by kernel_rfl) (by kernel_rfl) (by kernel_rfl) (by rfl) ?_ hHeld ?_
    rotate_left
    · (intro w hSw; (try dsimp only at hSw); go_simp; (try with_reducible rfl))
    try simp only [Act.put, List.setIfInBounds_toArray, List.set_cons_zero, List.set_cons_succ]
    refine wpAnyH_takeQ 1 (v := ?_) (fun _ _ _ _ _ h => h) (by simp only [List.getElem?_toArray, List.getElem?_cons_succ, List.getElem?_cons_zero]; rfl) (by kernel_rfl) (by kernel_rfl) (by kernel_rfl) (by rfl) ?_ hHeld ?_
    rotate_left
    · (intro w hSw; (try dsimp only at hSw); go_simp; (try with_reducible rfl))
    try simp only [Act.put, List.setIfInBounds_toArray, List.set_cons_zero, List.set_cons_succ]
    refine wpAnyH_ready (rs := [2]) (by kernel_rfl) (by simp) ?_
    refine AllReadyH.cons (by simp only [List.getElem?_toArray, List.getElem?_cons_succ, List.getElem?_cons_zero]; rfl) (fun K hK => ?_) AllReadyH.nil
    go_simp
    clear hHeld
    refine (rof_any 1 _ (by omega)).mono ?_
    rintro e w4 ⟨v_o, rfl, h_o, hb⟩
    replace Q_v := Lib.hid (Q_v.out.below hb)
    replace B_a := Lib.hid (B_a.out.below hb)
    replace B_x := Lib.hid (B_x.out.below hb)
    replace hB := below_next hB hb
    clear hb
    have N_o := Lib.hid h_o
    clear h_o
    go_wp2_with fail
    refine hK.out _ _ (by exact ⟨B_x.out.cell0, B_x.out.cell1, B_x.out.cell2⟩) (fun hHeld => ?_)
    clear hK K
    try simp only [Act.put, List.setIfInBounds_toArray, List.set_cons_zero, List.set_cons_succ]
    refine wpAnyH_ready (rs := [3]) (by kernel_rfl) (by simp) ?_
    refine AllReadyH.cons (by simp only [List.getElem?_toArray, List.getElem?_cons_succ, List.getElem?_cons_zero]; rfl) (fun K hK => ?_) AllReadyH.nil
    go_simp
    clear hHeld
    refine (rncmp_is (v := 1) (by exact Q_v.out.2) (by exact N_o.out) (by rw [val_limbs, val_limbs]; exact ord_gt (by have := q.den_pos; omega))).mono ?_
    rintro e w5 ⟨rfl, hb⟩
    replace Q_v := Lib.hid (Q_v.out.below hb)
    replace N_o := Lib.hid (N_o.out.below hb)
    replace B_a := Lib.hid (B_a.out.below hb)
    replace B_x := Lib.hid (B_x.out.below hb)
    replace hB := below_next hB hb
    clear hb
    go_wp2_with fail
    refine hK.out _ _ (by exact ⟨B_x.out.cell0, B_x.out.cell1, B_x.out.cell2⟩) (fun hHeld => ?_)
    clear hK K
    try simp only [Act.put, List.setIfInBounds_toArray, List.set_cons_zero, List.set_cons_succ]
    refine wpAnyH_takeQ 4 (v := ?_) (fun _ _ _ _ _ h => h) (by simp only [List.getElem?_toArray, List.getElem?_cons_succ, List.getElem?_cons_zero]; rfl) (by kernel_rfl) (by kernel_rfl) (by kernel_rfl) (by rfl) ?_ hHeld ?_
    rotate_left
    · (intro w hSw; (try dsimp only at hSw); go_simp; (try with_reducible rfl))
    try simp only [Act.put, List.setIfInBounds_toArray, List.set_cons_zero, List.set_cons_succ]
    refine wpAnyH_done (by kernel_rfl) (NoPanic.normal ?_) _
    clear hHeld
    have c_a0 := B_a.out.cell0
    have c_a1 := B_a.out.cell1
    have c_a2 := B_a.out.cell2
    have c_x0 := B_x.out.cell0
    have c_x1 := B_x.out.cell1
    have c_x2 := B_x.out.cell2
    go_wp2_with fail
    clear c_a0 c_a1 c_a2 c_x0 c_x1 c_x2
    refine wp_region_named (S := (fun w' => w'.cell? ⟨g_x, 0, none⟩ = some (.bool b_v) ∧ w'.cell? ⟨g_x, 1, none⟩ = some (.slice A_v n_v c_v) ∧ w'.cell? ⟨g_x, 2, none⟩ = some (.slice D_v e_v f_v))) (by kernel_rfl) (by exact ⟨B_x.out.cell0, B_x.out.cell1, B_x.out.cell2⟩) (fun V6 hb hHeld => ?_)
    replace Q_v := Lib.hid (Q_v.out.below hb)
    replace N_o := Lib.hid (N_o.out.below hb)
    replace B_a := Lib.hid (B_a.out.below hb)
    replace B_x := Lib.hid (B_x.out.below hb)
    replace hB := below_next hB hb
    clear hb
    refine wpAnyH_takeQ 0 (v := ?_) (fun _ _ _ _ _ h => h) (by simp only [List.getElem?_toArray, List.getElem?_cons_zero]; rfl) (by kernel_rfl) (by kernel_rfl) (by kernel_rfl) (by rfl) ?_ hHeld ?_
    rotate_left
    · (intro w hSw; (try dsimp only at hSw); go_simp; (try with_reducible rfl))
    try simp only [Act.put, List.setIfInBounds_toArray, List.set_cons_zero, List.set_cons_succ]
    refine wpAnyH_takeQ 1 (v := ?_) (fun _ _ _ _ _ h => h) (by simp only [List.getElem?_toArray, List.getElem?_cons_succ, List.getElem?_cons_zero]; rfl) (by kernel_rfl) (by kernel_rfl) (by kernel_rfl) (by rfl) ?_ hHeld ?_
    rotate_left
    · (intro w hSw; (try dsimp only at hSw); go_simp; (try with_reducible rfl))
    try simp only [Act.put, List.setIfInBounds_toArray, List.set_cons_zero, List.set_cons_succ]
    refine wpAnyH_takeQ 4 (v := ?_) (fun _ _ _ _ _ h => h) (by simp only [List.getElem?_toArray, List.getElem?_cons_succ, List.getElem?_cons_zero]; rfl) (by kernel_rfl) (by kernel_rfl) (by kernel_rfl) (by rfl) ?_ hHeld ?_
    rotate_left
    · (intro w hSw; (try dsimp only at hSw); go_simp; (try with_reducible rfl))
    try simp only [Act.put, List.setIfInBounds_toArray, List.set_cons_zero, List.set_cons_succ]
    refine wpAnyH_takeQ 5 (v := ?_) (fun _ _ _ _ _ h => h) (by simp only [List.getElem?_toArray, List.getElem?_cons_succ, List.getElem?_cons_zero]; rfl) (by kernel_rfl) (by kernel_rfl) (by kernel_rfl) (by rfl) ?_ hHeld ?_
    rotate_left
    · (intro w hSw; (try dsimp only at hSw); go_simp; (try with_reducible rfl))
    try simp only [Act.put, List.setIfInBounds_toArray, List.set_cons_zero, List.set_cons_succ]
    refine wpAnyH_ready (rs := [2]) (by kernel_rfl) (by simp) ?_
    refine AllReadyH.cons (by simp only [List.getElem?_toArray, List.getElem?_cons_succ, List.getElem?_cons_zero]; rfl) (fun K hK => ?_) AllReadyH.nil
    go_simp
    clear hHeld
    refine (ritext_any _ _ q.num k _ (by exact Q_v.out.1.int ln) (by omega)).mono ?_
    rintro e w7 ⟨rfl, hb⟩
    replace Q_v := Lib.hid (Q_v.out.below hb)
    replace N_o := Lib.hid (N_o.out.below hb)
    replace B_a := Lib.hid (B_a.out.below hb)
    replace B_x := Lib.hid (B_x.out.below hb)
    replace hB := below_next hB hb
    clear hb
    go_wp2_with fail
    refine hK.out _ _ (by exact ⟨B_x.out.cell0, B_x.out.cell1, B_x.out.cell2⟩) (fun hHeld => ?_)
    clear hK K
    try simp only [Act.put, List.setIfInBounds_toArray, List.set_cons_zero, List.set_cons_succ]
    refine wpAnyH_takeQ 3 (v := ?_) (fun _ _ _ _ _ h => h) (by simp only [List.getElem?_toArray, List.getElem?_cons_succ, List.getElem?_cons_zero]; rfl) (by kernel_rfl) (by kernel_rfl) (by kernel_rfl) (by rfl) ?_ hHeld ?_
    rotate_left
    · (intro w hSw; (try dsimp only at hSw); go_simp; (try with_reducible rfl))
    try simp only [Act.put, List.setIfInBounds_toArray, List.set_cons_zero, List.set_cons_succ]
    refine wpAnyH_ready (rs := [6]) (by kernel_rfl) (by simp) ?_
    refine AllReadyH.cons (by simp only [List.getElem?_toArray, List.getElem?_cons_succ, List.getElem?_cons_zero]; rfl) (fun K hK => ?_) AllReadyH.nil
    go_simp
    clear hHeld
    refine (rtext_any _ _ _ (by exact Q_v.out.2) (by omega)).mono ?_
    rintro e w8 ⟨rfl, hb⟩
    replace Q_v := Lib.hid (Q_v.out.below hb)
    replace N_o := Lib.hid (N_o.out.below hb)
    replace B_a := Lib.hid (B_a.out.below hb)
    replace B_x := Lib.hid (B_x.out.below hb)
    replace hB := below_next hB hb
    clear hb
    rw [val_limbs]
    go_wp2_with fail
    refine hK.out _ _ (by exact ⟨B_x.out.cell0, B_x.out.cell1, B_x.out.cell2⟩) (fun hHeld => ?_)
    clear hK K
    try simp only [Act.put, List.setIfInBounds_toArray, List.set_cons_zero, List.set_cons_succ]
    refine wpAnyH_takeQ 7 (v := ?_) (fun _ _ _ _ _ h => h) (by simp only [List.getElem?_toArray, List.getElem?_cons_succ, List.getElem?_cons_zero]; rfl) (by kernel_rfl) (by kernel_rfl) (by kernel_rfl) (by rfl) ?_ hHeld ?_
    rotate_left
    · (intro w hSw; (try dsimp only at hSw); go_simp; (try with_reducible rfl))
    try simp only [Act.put, List.setIfInBounds_toArray, List.set_cons_zero, List.set_cons_succ]
    refine wpAnyH_takeQ 8 (v := ?_) (fun _ _ _ _ _ h => h) (by simp only [List.getElem?_toArray, List.getElem?_cons_succ, List.getElem?_cons_zero]; rfl) (by kernel_rfl) (by kernel_rfl) (by kernel_rfl) (by rfl) ?_ hHeld ?_
    rotate_left
    · (intro w hSw; (try dsimp only at hSw); go_simp; (try with_reducible rfl))
    try simp only [Act.put, List.setIfInBounds_toArray, List.set_cons_zero, List.set_cons_succ]
    refine wpAnyH_done (by kernel_rfl) (NoPanic.normal ?_) _
    clear hHeld
    go_wp2
    go_ret
    rw [show qtext q = ztext q.num ++ 47 :: decDigits q.den from if_neg h1]
    exact ⟨congrArg Ending.returned (congrArg Value.string (str_slash _ _)), hB⟩
end Go.Proofs.YtoflndeonegkpaaGreatDoor
