/- ratio: zero, positive, value, reduce, Norm, Of. -/
import Derived.Test.YtoflndeonegkpaaDoorQ
namespace Go.Proofs.YtoflndeonegkpaaDoor
open Go.RowKit

theorem ordz (n : Nat) : ord n (val []) = if n = 0 then 0 else 1 := by
  unfold ord
  rw [if_neg (by simp [val])]
  by_cases h : n = 0
  · rw [if_pos h, if_neg (by simp [val, h])]
  · rw [if_neg h, if_pos (by simp [val]; omega)]
theorem qzero_any (v : Value) (xs : List Nat) (w : World) (h : NatAt w v xs) : Calls Tryd.prog 38 #[v] w (GivesB w (decide (val xs = 0))) := by
  have H := Lib.hid h
  clear h
  by_cases h0 : val xs = 0
  · rw [decide_eq_true h0]
    go_enter Tryd.func38, Tryd.ntmps38
    go_wp2_with fail
    refine (cmp_below _ _ _ [] _ (by exact H.out) (NatAt.nil _)).mono ?_
    rintro e w1 ⟨rfl, hb, _⟩
    rw [ordz, if_pos h0]
    go_wp2
    go_ret
    exact ⟨rfl, hb⟩
  · rw [decide_eq_false h0]
    go_enter Tryd.func38, Tryd.ntmps38
    go_wp2_with fail
    refine (cmp_below _ _ _ [] _ (by exact H.out) (NatAt.nil _)).mono ?_
    rintro e w1 ⟨rfl, hb, _⟩
    rw [ordz, if_neg h0]
    go_wp2
    go_ret
    exact ⟨rfl, hb⟩
theorem qzero_is {u : Bool} {v : Value} {xs : List Nat} {w : World} (h : NatAt w v xs) (hu : decide (val xs = 0) = u) : Calls Tryd.prog 38 #[v] w (GivesB w u) := hu ▸ qzero_any v xs w h
def GivesPos (w : World) (v : Value) (e : Ending) (w' : World) : Prop := e = .returned (.agg #[.bool false, v]) ∧ Below w.heap.size w w'
theorem qpos_any (A : Option Addr) (n c : Nat) (w : World) : Calls Tryd.prog 35 #[.slice A n c] w (GivesPos w (.slice A n c)) := by
  go_enter Tryd.func35, Tryd.ntmps35
  go_wp2
  obtain ⟨W, g, hV, hg, NB, hb⟩ := newI w (.bool false) (.slice A n c)
  rw [hV]
  have c0 := NB.out.cell0
  have c1 := NB.out.cell1
  subst hg
  exact bodyPost_ret (v := .agg #[.bool false, .slice A n c]) (by simp [results, Tryd.results35, go_sem, c0, c1]) rfl ⟨rfl, hb⟩
set_option maxRecDepth 100000 in
set_option maxHeartbeats 8000000 in
theorem qvalue_any (b_a : Bool) (m_a d_a : Value) (q : Rat) (k : Nat) (w : World) (h_a : RAt w b_a m_a d_a q k) (hk : 1 ≤ k) : Calls Tryd.prog 31 #[.agg #[.bool b_a, m_a, d_a]] w (GivesV w q k) := by
  obtain ⟨xs_a, ys_a, hx_a, hy_a, lx_a, ly_a, rfl⟩ := h_a
  obtain ⟨A_a, c_a, rfl, _, _⟩ := hx_a.form
  obtain ⟨D_a, f_a, rfl, _, _⟩ := hy_a.form
  have X_a := Lib.hid hx_a
  have Y_a := Lib.hid hy_a
  clear hx_a hy_a
  by_cases h0 : val ys_a = 0
  · skip
    go_enter Tryd.func31, Tryd.ntmps31
    go_upto_region 1 with fail
    obtain ⟨W0, hW, B_a, B_r, HW, HS⟩ := rbox2 w (.bool b_a) (.slice A_a xs_a.length c_a) (.slice D_a ys_a.length f_a) (.bool false) (.slice none 0 0) (.slice none 0 0)
    rw [hW]
    clear hW
    replace X_a := Lib.hid (X_a.out.below HW.out)
    replace Y_a := Lib.hid (Y_a.out.below HW.out)
    have hB := HW.out
    have hsz := HS.out
    clear HW HS
    have c_a0 := B_a.out.cell0
    have c_a1 := B_a.out.cell1
    have c_a2 := B_a.out.cell2
    have c_r0 := B_r.out.cell0
    have c_r1 := B_r.out.cell1
    have c_r2 := B_r.out.cell2
    go_wp2_with fail
    clear c_a0 c_a1 c_a2 c_r0 c_r1 c_r2
    refine (qzero_is (u := true) (by exact Y_a.out) (decide_eq_true h0)).mono ?_
    rintro e w1 ⟨rfl, hb⟩
    replace X_a := Lib.hid (X_a.out.below hb)
    replace Y_a := Lib.hid (Y_a.out.below hb)
    replace B_a := Lib.hid (B_a.out.below hb)
    replace B_r := Lib.hid (B_r.out.below hb)
    replace hB := below_next hB hb
    clear hb
    have c_a0 := B_a.out.cell0
    have c_a1 := B_a.out.cell1
    have c_a2 := B_a.out.cell2
    have c_r0 := B_r.out.cell0
    have c_r1 := B_r.out.cell1
    have c_r2 := B_r.out.cell2
    go_wp2_with fail
    clear c_a0 c_a1 c_a2 c_r0 c_r1 c_r2
    refine (of_any 1 _ (by omega)).mono ?_
    rintro e w2 ⟨v_o, rfl, h_o, hb⟩
    replace X_a := Lib.hid (X_a.out.below hb)
    replace Y_a := Lib.hid (Y_a.out.below hb)
    replace B_a := Lib.hid (B_a.out.below hb)
    replace B_r := Lib.hid (B_r.out.below hb)
    replace hB := below_next hB hb
    clear hb
    obtain ⟨A_o, c_o, rfl, _, _⟩ := h_o.form
    have N_o := Lib.hid h_o
    clear h_o
    have c_a0 := B_a.out.cell0
    have c_a1 := B_a.out.cell1
    have c_a2 := B_a.out.cell2
    have c_r0 := B_r.out.cell0
    have c_r1 := B_r.out.cell1
    have c_r2 := B_r.out.cell2
    have f_r0 := B_r.out.fro 0
    have f_r1 := B_r.out.fro 1
    have f_r2 := B_r.out.fro 2
    go_wp2
    clear c_a0 c_a1 c_a2 c_r0 c_r1 c_r2 f_r0 f_r1 f_r2
    obtain ⟨V3, hV, NB, KP⟩ := storeR B_r.out (.bool false) (.slice none 0 0) (.slice A_o (limbs 1).length c_o)
    rw [hV]
    clear hV
    replace X_a := Lib.hid (X_a.out.keeps KP.out)
    replace Y_a := Lib.hid (Y_a.out.keeps KP.out)
    replace N_o := Lib.hid (N_o.out.keeps KP.out)
    replace B_a := Lib.hid (B_a.out.keeps KP.out (by omega))
    replace hB := below_keeps hB KP.out (by omega)
    have B_r := NB
    clear NB KP
    have c_r0 := B_r.out.cell0
    have c_r1 := B_r.out.cell1
    have c_r2 := B_r.out.cell2
    refine bodyPost_ret (v := .agg #[.bool false, .slice none 0 0, .slice A_o (limbs 1).length c_o]) (by simp [results, Tryd.results31, go_sem, c_r0, c_r1, c_r2]) rfl ?_
    exact ⟨_, _, _, _, _, _, _, [], limbs 1, rfl, NatAt.nil _, N_o.out, by simp, Nat.le_trans (limbs_length_le (k := 1) (by omega)) hk, by rw [val_limbs]; omega, by rw [h0, Rat.mkRat_zero, show zval false [] = 0 from rfl, Rat.zero_mkRat], hB⟩
  · skip
    go_enter Tryd.func31, Tryd.ntmps31
    go_upto_region 1 with fail
    obtain ⟨W0, hW, B_a, B_r, HW, HS⟩ := rbox2 w (.bool b_a) (.slice A_a xs_a.length c_a) (.slice D_a ys_a.length f_a) (.bool false) (.slice none 0 0) (.slice none 0 0)
    rw [hW]
    clear hW
    replace X_a := Lib.hid (X_a.out.below HW.out)
    replace Y_a := Lib.hid (Y_a.out.below HW.out)
    have hB := HW.out
    have hsz := HS.out
    clear HW HS
    have c_a0 := B_a.out.cell0
    have c_a1 := B_a.out.cell1
    have c_a2 := B_a.out.cell2
    have c_r0 := B_r.out.cell0
    have c_r1 := B_r.out.cell1
    have c_r2 := B_r.out.cell2
    go_wp2_with fail
    clear c_a0 c_a1 c_a2 c_r0 c_r1 c_r2
    refine (qzero_is (u := false) (by exact Y_a.out) (decide_eq_false h0)).mono ?_
    rintro e w1 ⟨rfl, hb⟩
    replace X_a := Lib.hid (X_a.out.below hb)
    replace Y_a := Lib.hid (Y_a.out.below hb)
    replace B_a := Lib.hid (B_a.out.below hb)
    replace B_r := Lib.hid (B_r.out.below hb)
    replace hB := below_next hB hb
    clear hb
    have c_a0 := B_a.out.cell0
    have c_a1 := B_a.out.cell1
    have c_a2 := B_a.out.cell2
    have c_r0 := B_r.out.cell0
    have c_r1 := B_r.out.cell1
    have c_r2 := B_r.out.cell2
    have f_r0 := B_r.out.fro 0
    have f_r1 := B_r.out.fro 1
    have f_r2 := B_r.out.fro 2
    go_wp2
    clear c_a0 c_a1 c_a2 c_r0 c_r1 c_r2 f_r0 f_r1 f_r2
    obtain ⟨V2, hV, NB, KP⟩ := storeR B_r.out (.bool b_a) (.slice A_a xs_a.length c_a) (.slice D_a ys_a.length f_a)
    rw [hV]
    clear hV
    replace X_a := Lib.hid (X_a.out.keeps KP.out)
    replace Y_a := Lib.hid (Y_a.out.keeps KP.out)
    replace B_a := Lib.hid (B_a.out.keeps KP.out (by omega))
    replace hB := below_keeps hB KP.out (by omega)
    have B_r := NB
    clear NB KP
    have c_r0 := B_r.out.cell0
    have c_r1 := B_r.out.cell1
    have c_r2 := B_r.out.cell2
    refine bodyPost_ret (v := .agg #[.bool b_a, .slice A_a xs_a.length c_a, .slice D_a ys_a.length f_a]) (by simp [results, Tryd.results31, go_sem, c_r0, c_r1, c_r2]) rfl ?_
    exact ⟨_, _, _, _, _, _, _, xs_a, ys_a, rfl, X_a.out, Y_a.out, lx_a, ly_a, h0, rfl, hB⟩
set_option maxRecDepth 100000 in
set_option maxHeartbeats 8000000 in
theorem qreduce_any (b : Bool) (m d : Value) (xs ys : List Nat) (w : World) (hx : NatAt w m xs) (hy : NatAt w d ys) (lx : xs.length ≤ 200000) (ly : ys.length ≤ 200000) (h0 : val ys ≠ 0) : Calls Tryd.prog 30 #[.agg #[.bool b, m], d] w (GivesQ w (mkRat (zval b xs) (val ys))) := by
  have X := Lib.hid hx
  have Y := Lib.hid hy
  have hn := qnum_of b xs h0
  have hd := qden_of (zval b xs) h0
  rw [zval_abs] at hd
  have hg0 := gcd_ne (X := val xs) h0
  have hgl : (limbs (Nat.gcd (val xs) (val ys))).length ≤ 200000 := limbs_len_of_lt (Nat.gcd_le_right _ (by omega)) (Nat.le_trans (limbs_val_length hy.lim) ly)
  have hnl : (limbs (val xs / Nat.gcd (val xs) (val ys))).length ≤ 200000 := limbs_len_of_lt (Nat.div_le_self _ _) (Nat.le_trans (limbs_val_length hx.lim) lx)
  clear hx hy
  go_enter Tryd.func30, Tryd.ntmps30
  go_upto_region 1 with fail
  obtain ⟨W0, hW, B_a, B_r, HW, HS⟩ := rboxIR w (.bool b) m (.bool false) (.slice none 0 0) (.slice none 0 0)
  rw [hW]
  clear hW
  replace X := Lib.hid (X.out.below HW.out)
  replace Y := Lib.hid (Y.out.below HW.out)
  have hB := HW.out
  have hsz := HS.out
  clear HW HS
  have c_a0 := B_a.out.cell0
  have c_a1 := B_a.out.cell1
  have c_r0 := B_r.out.cell0
  have c_r1 := B_r.out.cell1
  have c_r2 := B_r.out.cell2
  go_wp2_with fail
  clear c_a0 c_a1 c_r0 c_r1 c_r2
  refine (gcd_any _ _ _ _ _ (by exact X.out) (by exact Y.out) (by omega) (by omega)).mono ?_
  rintro e w1 ⟨v_g, rfl, h_g, hb⟩
  replace X := Lib.hid (X.out.below hb)
  replace Y := Lib.hid (Y.out.below hb)
  replace B_a := Lib.hid (B_a.out.below hb)
  replace B_r := Lib.hid (B_r.out.below hb)
  replace hB := below_next hB hb
  clear hb
  have N_g := Lib.hid h_g
  clear h_g
  have c_a0 := B_a.out.cell0
  have c_a1 := B_a.out.cell1
  have c_r0 := B_r.out.cell0
  have c_r1 := B_r.out.cell1
  have c_r2 := B_r.out.cell2
  go_wp2_with fail
  clear c_a0 c_a1 c_r0 c_r1 c_r2
  refine (divmod_any _ _ _ _ _ (by exact X.out) (by exact N_g.out) (by omega) (by omega) (by rw [val_limbs]; exact hg0)).mono ?_
  rintro e w2 ⟨v_n, u_n, rfl, h_n, z_n, hb⟩
  replace X := Lib.hid (X.out.below hb)
  replace Y := Lib.hid (Y.out.below hb)
  replace N_g := Lib.hid (N_g.out.below hb)
  replace B_a := Lib.hid (B_a.out.below hb)
  replace B_r := Lib.hid (B_r.out.below hb)
  replace hB := below_next hB hb
  clear hb
  clear z_n
  rw [val_limbs] at h_n
  obtain ⟨A_n, c_n, rfl, _, _⟩ := h_n.form
  have N_n := Lib.hid h_n
  clear h_n
  have c_a0 := B_a.out.cell0
  have c_a1 := B_a.out.cell1
  have c_r0 := B_r.out.cell0
  have c_r1 := B_r.out.cell1
  have c_r2 := B_r.out.cell2
  go_wp2_with fail
  clear c_a0 c_a1 c_r0 c_r1 c_r2
  refine (divmod_any _ _ _ _ _ (by exact Y.out) (by exact N_g.out) (by omega) (by omega) (by rw [val_limbs]; exact hg0)).mono ?_
  rintro e w3 ⟨v_d, u_d, rfl, h_d, z_d, hb⟩
  replace X := Lib.hid (X.out.below hb)
  replace Y := Lib.hid (Y.out.below hb)
  replace N_g := Lib.hid (N_g.out.below hb)
  replace N_n := Lib.hid (N_n.out.below hb)
  replace B_a := Lib.hid (B_a.out.below hb)
  replace B_r := Lib.hid (B_r.out.below hb)
  replace hB := below_next hB hb
  clear hb
  clear z_d
  rw [val_limbs] at h_d
  obtain ⟨A_d, c_d, rfl, _, _⟩ := h_d.form
  have N_d := Lib.hid h_d
  clear h_d
  have c_a0 := B_a.out.cell0
  have c_a1 := B_a.out.cell1
  have c_r0 := B_r.out.cell0
  have c_r1 := B_r.out.cell1
  have c_r2 := B_r.out.cell2
  go_wp2_with fail
  clear c_a0 c_a1 c_r0 c_r1 c_r2
  refine (inorm_any _ _ _ 200000 _ (by exact ⟨_, N_n.out, hnl, rfl⟩) (by omega)).mono ?_
  rintro e w4 ⟨b_s, A_s, n_s, c_s, rfl, h_s, hb⟩
  replace X := Lib.hid (X.out.below hb)
  replace Y := Lib.hid (Y.out.below hb)
  replace N_g := Lib.hid (N_g.out.below hb)
  replace N_n := Lib.hid (N_n.out.below hb)
  replace N_d := Lib.hid (N_d.out.below hb)
  replace B_a := Lib.hid (B_a.out.below hb)
  replace B_r := Lib.hid (B_r.out.below hb)
  replace hB := below_next hB hb
  clear hb
  have Z_s := Lib.hid h_s
  clear h_s
  have c_a0 := B_a.out.cell0
  have c_a1 := B_a.out.cell1
  have c_r0 := B_r.out.cell0
  have c_r1 := B_r.out.cell1
  have c_r2 := B_r.out.cell2
  have f_r0 := B_r.out.fro 0
  have f_r1 := B_r.out.fro 1
  have f_r2 := B_r.out.fro 2
  go_wp2
  clear c_a0 c_a1 c_r0 c_r1 c_r2 f_r0 f_r1 f_r2
  obtain ⟨V5, hV, NB, KP⟩ := storeR B_r.out (.bool b_s) (.slice A_s n_s c_s) (.slice A_d (limbs (val ys / Nat.gcd (val xs) (val ys))).length c_d)
  rw [hV]
  clear hV
  replace X := Lib.hid (X.out.keeps KP.out)
  replace Y := Lib.hid (Y.out.keeps KP.out)
  replace N_g := Lib.hid (N_g.out.keeps KP.out)
  replace N_n := Lib.hid (N_n.out.keeps KP.out)
  replace N_d := Lib.hid (N_d.out.keeps KP.out)
  replace Z_s := Lib.hid (Z_s.out.keeps KP.out)
  replace B_a := Lib.hid (B_a.out.keeps KP.out (by omega))
  replace hB := below_keeps hB KP.out (by omega)
  have B_r := NB
  clear NB KP
  have c_r0 := B_r.out.cell0
  have c_r1 := B_r.out.cell1
  have c_r2 := B_r.out.cell2
  refine bodyPost_ret (v := .agg #[.bool b_s, .slice A_s n_s c_s, .slice A_d (limbs (val ys / Nat.gcd (val xs) (val ys))).length c_d]) (by simp [results, Tryd.results30, go_sem, c_r0, c_r1, c_r2]) rfl ?_
  exact ⟨_, _, _, _, _, _, _, rfl, ⟨by rw [hn]; exact Z_s.out, by rw [hd]; exact N_d.out⟩, hB⟩
set_option maxRecDepth 100000 in
set_option maxHeartbeats 8000000 in
theorem qnorm_any (b_a : Bool) (m_a d_a : Value) (q : Rat) (k : Nat) (w : World) (h_a : RAt w b_a m_a d_a q k) (hk : 1 ≤ k) (hk2 : k ≤ 200000) : Calls Tryd.prog 11 #[.agg #[.bool b_a, m_a, d_a]] w (GivesQ w q) := by
  have R_a := Lib.hid h_a
  obtain ⟨xs_a, ys_a, hx_a, hy_a, -, -, -⟩ := h_a
  obtain ⟨A_a, c_a, rfl, _, _⟩ := hx_a.form
  obtain ⟨D_a, f_a, rfl, _, _⟩ := hy_a.form
  clear hx_a hy_a
  go_enter Tryd.func11, Tryd.ntmps11
  go_upto_region 1 with fail
  obtain ⟨W0, hW, B_a, B_r, HW, HS⟩ := rbox2 w (.bool b_a) (.slice A_a xs_a.length c_a) (.slice D_a ys_a.length f_a) (.bool false) (.slice none 0 0) (.slice none 0 0)
  rw [hW]
  clear hW
  replace R_a := Lib.hid (R_a.out.below HW.out)
  have hB := HW.out
  have hsz := HS.out
  clear HW HS
  have c_a0 := B_a.out.cell0
  have c_a1 := B_a.out.cell1
  have c_a2 := B_a.out.cell2
  have c_r0 := B_r.out.cell0
  have c_r1 := B_r.out.cell1
  have c_r2 := B_r.out.cell2
  go_wp2_with fail
  clear c_a0 c_a1 c_a2 c_r0 c_r1 c_r2
  refine (qvalue_any _ _ _ q k _ (by exact R_a.out) hk).mono ?_
  rintro e w1 ⟨b_v, A_v, n_v, c_v, D_v, e_v, f_v, xs_v, ys_v, rfl, hx_v, hy_v, lx_v, ly_v, nz_v, eq_v, hb⟩
  replace R_a := Lib.hid (R_a.out.below hb)
  replace B_a := Lib.hid (B_a.out.below hb)
  replace B_r := Lib.hid (B_r.out.below hb)
  replace hB := below_next hB hb
  clear hb
  have X_v := Lib.hid hx_v
  clear hx_v
  have Y_v := Lib.hid hy_v
  clear hy_v
  have c_a0 := B_a.out.cell0
  have c_a1 := B_a.out.cell1
  have c_a2 := B_a.out.cell2
  have f_a0 := B_a.out.fro 0
  have f_a1 := B_a.out.fro 1
  have f_a2 := B_a.out.fro 2
  have c_r0 := B_r.out.cell0
  have c_r1 := B_r.out.cell1
  have c_r2 := B_r.out.cell2
  go_upto_region 2 with fail
  clear c_a0 c_a1 c_a2 f_a0 f_a1 f_a2 c_r0 c_r1 c_r2
  obtain ⟨V2, hV, NB, KP⟩ := storeR B_a.out (.bool b_v) (.slice A_v n_v c_v) (.slice D_v e_v f_v)
  rw [hV]
  clear hV
  replace R_a := Lib.hid (R_a.out.keeps KP.out)
  replace X_v := Lib.hid (X_v.out.keeps KP.out)
  replace Y_v := Lib.hid (Y_v.out.keeps KP.out)
  replace B_r := Lib.hid (B_r.out.keeps KP.out (by omega))
  replace hB := below_keeps hB KP.out (by omega)
  have B_a := NB
  clear NB KP
  have c_a0 := B_a.out.cell0
  have c_a1 := B_a.out.cell1
  have c_a2 := B_a.out.cell2
  have c_r0 := B_r.out.cell0
  have c_r1 := B_r.out.cell1
  have c_r2 := B_r.out.cell2
  go_wp2_with fail
  clear c_a0 c_a1 c_a2 c_r0 c_r1 c_r2
  refine (qreduce_any _ _ _ _ _ _ (by exact X_v.out) (by exact Y_v.out) (by omega) (by omega) nz_v).mono ?_
  rintro e w3 ⟨b_s, A_s, n_s, c_s, D_s, e_s, f_s, rfl, h_s, hb⟩
  replace R_a := Lib.hid (R_a.out.below hb)
  replace X_v := Lib.hid (X_v.out.below hb)
  replace Y_v := Lib.hid (Y_v.out.below hb)
  replace B_a := Lib.hid (B_a.out.below hb)
  replace B_r := Lib.hid (B_r.out.below hb)
  replace hB := below_next hB hb
  clear hb
  rw [← eq_v] at h_s
  have Q_s := Lib.hid h_s
  clear h_s
  have c_a0 := B_a.out.cell0
  have c_a1 := B_a.out.cell1
  have c_a2 := B_a.out.cell2
  have c_r0 := B_r.out.cell0
  have c_r1 := B_r.out.cell1
  have c_r2 := B_r.out.cell2
  have f_r0 := B_r.out.fro 0
  have f_r1 := B_r.out.fro 1
  have f_r2 := B_r.out.fro 2
  go_wp2
  clear c_a0 c_a1 c_a2 c_r0 c_r1 c_r2 f_r0 f_r1 f_r2
  obtain ⟨V4, hV, NB, KP⟩ := storeR B_r.out (.bool b_s) (.slice A_s n_s c_s) (.slice D_s e_s f_s)
  rw [hV]
  clear hV
  replace R_a := Lib.hid (R_a.out.keeps KP.out)
  replace X_v := Lib.hid (X_v.out.keeps KP.out)
  replace Y_v := Lib.hid (Y_v.out.keeps KP.out)
  replace Q_s := Lib.hid (Q_s.out.keeps KP.out)
  replace B_a := Lib.hid (B_a.out.keeps KP.out (by omega))
  replace hB := below_keeps hB KP.out (by omega)
  have B_r := NB
  clear NB KP
  have c_r0 := B_r.out.cell0
  have c_r1 := B_r.out.cell1
  have c_r2 := B_r.out.cell2
  refine bodyPost_ret (v := .agg #[.bool b_s, .slice A_s n_s c_s, .slice D_s e_s f_s]) (by simp [results, Tryd.results11, go_sem, c_r0, c_r1, c_r2]) rfl ?_
  exact ⟨_, _, _, _, _, _, _, rfl, Q_s.out, hB⟩
/-- n / d, d not 0. -/
def qof (n d : Int) : Rat := mkRat (if d < 0 then -n else n) d.natAbs
theorem zsgn {n d : Int} {b c : Bool} (hb : b = decide (n < 0)) (hc : c = decide (d < 0)) : zval (!(b == c)) (limbs n.natAbs) = if d < 0 then -n else n := by
  subst hb hc
  by_cases h1 : n < 0 <;> by_cases h2 : d < 0 <;> simp [h1, h2, zval, val_limbs] <;> omega
theorem qof_zero (n : Int) (w : World) : Calls Tryd.prog 10 #[.int .i64 n, .int .i64 0] w (GivesNo w) := by
  go_enter Tryd.func10, Tryd.ntmps10
  go_wp2
  obtain ⟨W0, hW, B_r, HW, HS⟩ := rbox1 w (.bool false) (.slice none 0 0) (.slice none 0 0)
  rw [hW]
  have c0 := B_r.out.cell0
  have c1 := B_r.out.cell1
  have c2 := B_r.out.cell2
  exact bodyPost_ret (v := .tuple #[.agg #[.bool false, .slice none 0 0, .slice none 0 0], .bool false]) (by simp [results, Tryd.results10, go_sem, c0, c1, c2]) rfl ⟨rfl, HW.out⟩
set_option maxRecDepth 100000 in
set_option maxHeartbeats 8000000 in
theorem qof_any (n d : Int) (w : World) (n1 : -9223372036854775808 ≤ n) (n2 : n ≤ 9223372036854775807) (d1 : -9223372036854775808 ≤ d) (d2 : d ≤ 9223372036854775807) (h0 : d ≠ 0) : Calls Tryd.prog 10 #[.int .i64 n, .int .i64 d] w (GivesQB w (qof n d) true) := by
  have e0 : (d == 0) = false := by rw [beq_eq_false_iff_ne]; exact h0
  go_enter Tryd.func10, Tryd.ntmps10
  go_upto_region 3 with fail
  obtain ⟨W0, hW, B_r, HW, HS⟩ := rbox1 w (.bool false) (.slice none 0 0) (.slice none 0 0)
  rw [hW]
  clear hW
  have hB := HW.out
  have hsz := HS.out
  clear HW HS
  have c_r0 := B_r.out.cell0
  have c_r1 := B_r.out.cell1
  have c_r2 := B_r.out.cell2
  go_wp2_with fail
  clear c_r0 c_r1 c_r2
  refine (iof_any n _ n1 n2).mono ?_
  rintro e w1 ⟨b_n, A_n, n_n, c_n, rfl, h_n, hb⟩
  replace B_r := Lib.hid (B_r.out.below hb)
  replace hB := below_next hB hb
  clear hb
  have Z_n := Lib.hid h_n
  clear h_n
  have c_r0 := B_r.out.cell0
  have c_r1 := B_r.out.cell1
  have c_r2 := B_r.out.cell2
  go_wp2_with fail
  clear c_r0 c_r1 c_r2
  refine (iof_any d _ d1 d2).mono ?_
  rintro e w2 ⟨b_d, A_d, n_d, c_d, rfl, h_d, hb⟩
  replace Z_n := Lib.hid (Z_n.out.below hb)
  replace B_r := Lib.hid (B_r.out.below hb)
  replace hB := below_next hB hb
  clear hb
  have Z_d := Lib.hid h_d
  clear h_d
  have c_r0 := B_r.out.cell0
  have c_r1 := B_r.out.cell1
  have c_r2 := B_r.out.cell2
  go_upto_region 4 with fail
  clear c_r0 c_r1 c_r2
  obtain ⟨W3, hW, NB, NC, HW, HS⟩ := boxes2 w2 (.bool b_n) (.slice A_n n_n c_n) (.bool b_d) (.slice A_d n_d c_d)
  rw [hW]
  clear hW
  have l_n_r : w.heap.size < w2.heap.size := by have := B_r.out.lt; omega
  have l_d_r : w.heap.size < w2.heap.size + 1 := by have := B_r.out.lt; omega
  replace Z_n := Lib.hid (Z_n.out.below HW.out)
  replace Z_d := Lib.hid (Z_d.out.below HW.out)
  replace B_r := Lib.hid (B_r.out.below HW.out)
  replace hB := below_next hB HW.out
  have B_n := NB
  have B_d := NC
  clear NB NC HW HS
  have c_r0 := B_r.out.cell0
  have c_r1 := B_r.out.cell1
  have c_r2 := B_r.out.cell2
  have c_n0 := B_n.out.cell0
  have c_n1 := B_n.out.cell1
  have f_n0 := B_n.out.fro 0
  have f_n1 := B_n.out.fro 1
  have c_d0 := B_d.out.cell0
  have c_d1 := B_d.out.cell1
  go_upto_region 5 with fail
  clear c_r0 c_r1 c_r2 c_n0 c_n1 f_n0 f_n1 c_d0 c_d1
  obtain ⟨V4, hV, NB, KP⟩ := storeI0 B_n.out (.bool (!(b_n == b_d)))
  rw [hV]
  clear hV
  replace Z_n := Lib.hid (Z_n.out.keeps KP.out)
  replace Z_d := Lib.hid (Z_d.out.keeps KP.out)
  replace B_r := Lib.hid (B_r.out.keeps KP.out (by omega))
  replace B_d := Lib.hid (B_d.out.keeps KP.out (by omega))
  replace hB := below_keeps hB KP.out (by omega)
  have B_n := NB
  clear NB KP
  have c_r0 := B_r.out.cell0
  have c_r1 := B_r.out.cell1
  have c_r2 := B_r.out.cell2
  have c_n0 := B_n.out.cell0
  have c_n1 := B_n.out.cell1
  have c_d0 := B_d.out.cell0
  have c_d1 := B_d.out.cell1
  go_wp2_with fail
  clear c_r0 c_r1 c_r2 c_n0 c_n1 c_d0 c_d1
  refine (qreduce_any _ _ _ _ _ _ (by exact Z_n.out.2) (by exact Z_d.out.2) (Nat.le_trans (abs_two n1 n2) (by omega)) (Nat.le_trans (abs_two d1 d2) (by omega)) (by rw [val_limbs]; omega)).mono ?_
  rintro e w5 ⟨b_s, A_s, n_s, c_s, D_s, e_s, f_s, rfl, h_s, hb⟩
  replace Z_n := Lib.hid (Z_n.out.below hb)
  replace Z_d := Lib.hid (Z_d.out.below hb)
  replace B_r := Lib.hid (B_r.out.below hb)
  replace B_n := Lib.hid (B_n.out.below hb)
  replace B_d := Lib.hid (B_d.out.below hb)
  replace hB := below_next hB hb
  clear hb
  rw [zsgn Z_n.out.1 Z_d.out.1, val_limbs] at h_s
  have Q_s := Lib.hid h_s
  clear h_s
  have c_r0 := B_r.out.cell0
  have c_r1 := B_r.out.cell1
  have c_r2 := B_r.out.cell2
  have f_r0 := B_r.out.fro 0
  have f_r1 := B_r.out.fro 1
  have f_r2 := B_r.out.fro 2
  have c_n0 := B_n.out.cell0
  have c_n1 := B_n.out.cell1
  have c_d0 := B_d.out.cell0
  have c_d1 := B_d.out.cell1
  go_wp2
  clear c_r0 c_r1 c_r2 f_r0 f_r1 f_r2 c_n0 c_n1 c_d0 c_d1
  obtain ⟨V6, hV, NB, KP⟩ := storeR B_r.out (.bool b_s) (.slice A_s n_s c_s) (.slice D_s e_s f_s)
  rw [hV]
  clear hV
  replace Z_n := Lib.hid (Z_n.out.keeps KP.out)
  replace Z_d := Lib.hid (Z_d.out.keeps KP.out)
  replace Q_s := Lib.hid (Q_s.out.keeps KP.out)
  replace B_n := Lib.hid (B_n.out.keeps KP.out (by omega))
  replace B_d := Lib.hid (B_d.out.keeps KP.out (by omega))
  replace hB := below_keeps hB KP.out (by omega)
  have B_r := NB
  clear NB KP
  have c_r0 := B_r.out.cell0
  have c_r1 := B_r.out.cell1
  have c_r2 := B_r.out.cell2
  refine bodyPost_ret (v := .tuple #[.agg #[.bool b_s, .slice A_s n_s c_s, .slice D_s e_s f_s], .bool true]) (by simp [results, Tryd.results10, go_sem, c_r0, c_r1, c_r2]) rfl ?_
  exact ⟨_, _, _, _, _, _, _, rfl, Q_s.out, hB⟩
end Go.Proofs.YtoflndeonegkpaaDoor
