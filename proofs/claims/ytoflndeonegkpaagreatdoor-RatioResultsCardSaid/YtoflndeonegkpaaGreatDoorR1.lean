/- garmentref03: reduce, Zero, Whole, Of, Norm, Neg. -/
import Derived.Test.YtoflndeonegkpaaGreatDoorQ1
import Derived.Test.YtoflndeonegkpaaGreatDoorRGcd
import Derived.Test.YtoflndeonegkpaaGreatDoorRInt2
namespace Go.Proofs.YtoflndeonegkpaaGreatDoor
open Go.RowKit

set_option maxRecDepth 100000 in
set_option maxHeartbeats 8000000 in
theorem r3reduce_any (b : Bool) (m d : Value) (xs ys : List Nat) (w : World) (hx : NatAt w m xs) (hy : NatAt w d ys) (lx : xs.length ≤ 100000) (ly : ys.length ≤ 100000) (h0 : val ys ≠ 0) : Calls Tryz.prog 39 #[.bool b, m, d] w (GivesQ w (mkRat (zval b xs) (val ys))) := by
  have X := Lib.hid hx
  have Y := Lib.hid hy
  have hn := qnum_of b xs h0
  have hd := qden_of (zval b xs) h0
  rw [zval_abs] at hd
  have hg0 := gcd_ne (X := val xs) h0
  have hgl : (limbs (Nat.gcd (val xs) (val ys))).length ≤ 100000 := limbs_len_of_lt (Nat.gcd_le_right _ (by omega)) (Nat.le_trans (limbs_val_length hy.lim) ly)
  have hnl : (limbs (val xs / Nat.gcd (val xs) (val ys))).length ≤ 100000 := limbs_len_of_lt (Nat.div_le_self _ _) (Nat.le_trans (limbs_val_length hx.lim) lx)
  clear hx hy
  go_enter Tryz.func39, Tryz.ntmps39
  go_upto_region 1 with fail
  obtain ⟨W0, hW, B_r, HW, HS⟩ := rbox1 w (.bool false) (.slice none 0 0) (.slice none 0 0)
  rw [hW]
  clear hW
  replace X := Lib.hid (X.out.below HW.out)
  replace Y := Lib.hid (Y.out.below HW.out)
  have hB := HW.out
  have hsz := HS.out
  clear HW HS
  have c_r0 := B_r.out.cell0
  have c_r1 := B_r.out.cell1
  have c_r2 := B_r.out.cell2
  go_wp2_with fail
  clear c_r0 c_r1 c_r2
  refine (rgcd_any _ _ _ _ _ (by exact X.out) (by exact Y.out) (by omega) (by omega)).mono ?_
  rintro e w1 ⟨v_g, rfl, h_g, hb⟩
  replace X := Lib.hid (X.out.below hb)
  replace Y := Lib.hid (Y.out.below hb)
  replace B_r := Lib.hid (B_r.out.below hb)
  replace hB := below_next hB hb
  clear hb
  have N_g := Lib.hid h_g
  clear h_g
  have c_r0 := B_r.out.cell0
  have c_r1 := B_r.out.cell1
  have c_r2 := B_r.out.cell2
  go_wp2_with fail
  clear c_r0 c_r1 c_r2
  refine (rdivmod_any _ _ _ _ _ (by exact X.out) (by exact N_g.out) (by omega) (by omega) (by rw [val_limbs]; exact hg0)).mono ?_
  rintro e w2 ⟨v_n, u_n, rfl, h_n, z_n, hb⟩
  replace X := Lib.hid (X.out.below hb)
  replace Y := Lib.hid (Y.out.below hb)
  replace N_g := Lib.hid (N_g.out.below hb)
  replace B_r := Lib.hid (B_r.out.below hb)
  replace hB := below_next hB hb
  clear hb
  clear z_n
  rw [val_limbs] at h_n
  obtain ⟨A_n, c_n, rfl, _, _⟩ := h_n.form
  have N_n := Lib.hid h_n
  clear h_n
  have c_r0 := B_r.out.cell0
  have c_r1 := B_r.out.cell1
  have c_r2 := B_r.out.cell2
  go_wp2_with fail
  clear c_r0 c_r1 c_r2
  refine (rdivmod_any _ _ _ _ _ (by exact Y.out) (by exact N_g.out) (by omega) (by omega) (by rw [val_limbs]; exact hg0)).mono ?_
  rintro e w3 ⟨v_d, u_d, rfl, h_d, z_d, hb⟩
  replace X := Lib.hid (X.out.below hb)
  replace Y := Lib.hid (Y.out.below hb)
  replace N_g := Lib.hid (N_g.out.below hb)
  replace N_n := Lib.hid (N_n.out.below hb)
  replace B_r := Lib.hid (B_r.out.below hb)
  replace hB := below_next hB hb
  clear hb
  clear z_d
  rw [val_limbs] at h_d
  obtain ⟨A_d, c_d, rfl, _, _⟩ := h_d.form
  have N_d := Lib.hid h_d
  clear h_d
  have c_r0 := B_r.out.cell0
  have c_r1 := B_r.out.cell1
  have c_r2 := B_r.out.cell2
  go_wp2_with fail
  clear c_r0 c_r1 c_r2
  refine (rinorm_any _ _ _ 100000 _ (by exact ⟨_, N_n.out, hnl, rfl⟩) (by omega)).mono ?_
  rintro e w4 ⟨b_s, A_s, n_s, c_s, rfl, h_s, hb⟩
  replace X := Lib.hid (X.out.below hb)
  replace Y := Lib.hid (Y.out.below hb)
  replace N_g := Lib.hid (N_g.out.below hb)
  replace N_n := Lib.hid (N_n.out.below hb)
  replace N_d := Lib.hid (N_d.out.below hb)
  replace B_r := Lib.hid (B_r.out.below hb)
  replace hB := below_next hB hb
  clear hb
  have Z_s := Lib.hid h_s
  clear h_s
  have c_r0 := B_r.out.cell0
  have c_r1 := B_r.out.cell1
  have c_r2 := B_r.out.cell2
  have f_r0 := B_r.out.fro 0
  have f_r1 := B_r.out.fro 1
  have f_r2 := B_r.out.fro 2
  go_wp2
  clear c_r0 c_r1 c_r2 f_r0 f_r1 f_r2
  obtain ⟨V5, hV, NB, KP⟩ := storeR B_r.out (.bool b_s) (.slice A_s n_s c_s) (.slice A_d (limbs (val ys / Nat.gcd (val xs) (val ys))).length c_d)
  rw [hV]
  clear hV
  replace X := Lib.hid (X.out.keeps KP.out)
  replace Y := Lib.hid (Y.out.keeps KP.out)
  replace N_g := Lib.hid (N_g.out.keeps KP.out)
  replace N_n := Lib.hid (N_n.out.keeps KP.out)
  replace N_d := Lib.hid (N_d.out.keeps KP.out)
  replace Z_s := Lib.hid (Z_s.out.keeps KP.out)
  replace hB := below_keeps hB KP.out (by omega)
  have B_r := NB
  clear NB KP
  have c_r0 := B_r.out.cell0
  have c_r1 := B_r.out.cell1
  have c_r2 := B_r.out.cell2
  refine bodyPost_ret (v := .agg #[.bool b_s, .slice A_s n_s c_s, .slice A_d (limbs (val ys / Nat.gcd (val xs) (val ys))).length c_d]) (by simp [results, Tryz.results39, go_sem, c_r0, c_r1, c_r2]) rfl ?_
  exact ⟨_, _, _, _, _, _, _, rfl, ⟨by rw [hn]; exact Z_s.out, by rw [hd]; exact N_d.out⟩, hB⟩
theorem mk_zero {b : Bool} {xs ys : List Nat} : mkRat (zval b xs) (val ys) = 0 ↔ val xs = 0 ∨ val ys = 0 := by
  by_cases h : val ys = 0
  · rw [h, Rat.mkRat_zero]; simp
  · rw [Rat.mkRat_eq_zero h]
    constructor
    · intro e; exact .inl (by rw [← zval_abs b, e]; rfl)
    · rintro (e | e)
      · cases b <;> simp [zval, e]
      · exact absurd e h
set_option maxRecDepth 100000 in
set_option maxHeartbeats 8000000 in
theorem r3zero_any (b_a : Bool) (m_a d_a : Value) (q : Rat) (k : Nat) (w : World) (h_a : RAt w b_a m_a d_a q k) (hk2 : k ≤ 50000) : Calls Tryz.prog 70 #[.agg #[.bool b_a, m_a, d_a]] w (GivesB w (decide (q = 0))) := by
  obtain ⟨xs_a, ys_a, hx_a, hy_a, lx_a, ly_a, rfl⟩ := h_a
  obtain ⟨A_a, c_a, rfl, _, _⟩ := hx_a.form
  obtain ⟨D_a, f_a, rfl, _, _⟩ := hy_a.form
  have X_a := Lib.hid hx_a
  have Y_a := Lib.hid hy_a
  clear hx_a hy_a
  by_cases hx : val xs_a = 0
  · rw [decide_eq_true (mk_zero.2 (.inl hx))]
    have e1 : (limbs (val xs_a)).length = 0 := by rw [hx]; rfl
    go_enter Tryz.func70, Tryz.ntmps70
    go_upto_region 1 with fail
    obtain ⟨W0, hW, B_a, HW, HS⟩ := rbox1 w (.bool b_a) (.slice A_a xs_a.length c_a) (.slice D_a ys_a.length f_a)
    rw [hW]
    clear hW
    replace X_a := Lib.hid (X_a.out.below HW.out)
    replace Y_a := Lib.hid (Y_a.out.below HW.out)
    have hB := HW.out
    have hsz := HS.out
    clear HW HS
    have c_a0 := B_a.out.cell0
    have c_a1 := B_a.out.cell1
    have c_a2 := B_a.out.cell2
    go_wp2_with fail
    clear c_a0 c_a1 c_a2
    refine (rnorm_any _ _ _ (by exact X_a.out) (by omega)).mono ?_
    rintro e w1 ⟨v_x, rfl, h_x, hb⟩
    replace X_a := Lib.hid (X_a.out.below hb)
    replace Y_a := Lib.hid (Y_a.out.below hb)
    replace B_a := Lib.hid (B_a.out.below hb)
    replace hB := below_next hB hb
    clear hb
    obtain ⟨A_x, c_x, rfl, _, _⟩ := h_x.form
    clear h_x
    rw [e1]
    have c_a0 := B_a.out.cell0
    have c_a1 := B_a.out.cell1
    have c_a2 := B_a.out.cell2
    go_wp2
    go_ret
    exact ⟨rfl, hB⟩
  · have e1 : (((limbs (val xs_a)).length : Int) == 0) = false := by rw [beq_eq_false_iff_ne]; have := List.length_pos_iff.2 (limbs_ne_nil hx); omega
    by_cases hy : val ys_a = 0
    · rw [decide_eq_true (mk_zero.2 (.inr hy))]
      have e2 : (limbs (val ys_a)).length = 0 := by rw [hy]; rfl
      go_enter Tryz.func70, Tryz.ntmps70
      go_upto_region 1 with fail
      obtain ⟨W0, hW, B_a, HW, HS⟩ := rbox1 w (.bool b_a) (.slice A_a xs_a.length c_a) (.slice D_a ys_a.length f_a)
      rw [hW]
      clear hW
      replace X_a := Lib.hid (X_a.out.below HW.out)
      replace Y_a := Lib.hid (Y_a.out.below HW.out)
      have hB := HW.out
      have hsz := HS.out
      clear HW HS
      have c_a0 := B_a.out.cell0
      have c_a1 := B_a.out.cell1
      have c_a2 := B_a.out.cell2
      go_wp2_with fail
      clear c_a0 c_a1 c_a2
      refine (rnorm_any _ _ _ (by exact X_a.out) (by omega)).mono ?_
      rintro e w1 ⟨v_x, rfl, h_x, hb⟩
      replace X_a := Lib.hid (X_a.out.below hb)
      replace Y_a := Lib.hid (Y_a.out.below hb)
      replace B_a := Lib.hid (B_a.out.below hb)
      replace hB := below_next hB hb
      clear hb
      obtain ⟨A_x, c_x, rfl, _, _⟩ := h_x.form
      clear h_x
      have c_a0 := B_a.out.cell0
      have c_a1 := B_a.out.cell1
      have c_a2 := B_a.out.cell2
      go_wp2_with fail
      clear c_a0 c_a1 c_a2
      refine (rnorm_any _ _ _ (by exact Y_a.out) (by omega)).mono ?_
      rintro e w2 ⟨v_y, rfl, h_y, hb⟩
      replace X_a := Lib.hid (X_a.out.below hb)
      replace Y_a := Lib.hid (Y_a.out.below hb)
      replace B_a := Lib.hid (B_a.out.below hb)
      replace hB := below_next hB hb
      clear hb
      obtain ⟨A_y, c_y, rfl, _, _⟩ := h_y.form
      clear h_y
      rw [e2]
      have c_a0 := B_a.out.cell0
      have c_a1 := B_a.out.cell1
      have c_a2 := B_a.out.cell2
      go_wp2
      go_ret
      exact ⟨rfl, hB⟩
    · rw [decide_eq_false (fun h => (mk_zero.1 h).elim hx hy)]
      have e2 : (((limbs (val ys_a)).length : Int) == 0) = false := by rw [beq_eq_false_iff_ne]; have := List.length_pos_iff.2 (limbs_ne_nil hy); omega
      go_enter Tryz.func70, Tryz.ntmps70
      go_upto_region 1 with fail
      obtain ⟨W0, hW, B_a, HW, HS⟩ := rbox1 w (.bool b_a) (.slice A_a xs_a.length c_a) (.slice D_a ys_a.length f_a)
      rw [hW]
      clear hW
      replace X_a := Lib.hid (X_a.out.below HW.out)
      replace Y_a := Lib.hid (Y_a.out.below HW.out)
      have hB := HW.out
      have hsz := HS.out
      clear HW HS
      have c_a0 := B_a.out.cell0
      have c_a1 := B_a.out.cell1
      have c_a2 := B_a.out.cell2
      go_wp2_with fail
      clear c_a0 c_a1 c_a2
      refine (rnorm_any _ _ _ (by exact X_a.out) (by omega)).mono ?_
      rintro e w1 ⟨v_x, rfl, h_x, hb⟩
      replace X_a := Lib.hid (X_a.out.below hb)
      replace Y_a := Lib.hid (Y_a.out.below hb)
      replace B_a := Lib.hid (B_a.out.below hb)
      replace hB := below_next hB hb
      clear hb
      obtain ⟨A_x, c_x, rfl, _, _⟩ := h_x.form
      clear h_x
      have c_a0 := B_a.out.cell0
      have c_a1 := B_a.out.cell1
      have c_a2 := B_a.out.cell2
      go_wp2_with fail
      clear c_a0 c_a1 c_a2
      refine (rnorm_any _ _ _ (by exact Y_a.out) (by omega)).mono ?_
      rintro e w2 ⟨v_y, rfl, h_y, hb⟩
      replace X_a := Lib.hid (X_a.out.below hb)
      replace Y_a := Lib.hid (Y_a.out.below hb)
      replace B_a := Lib.hid (B_a.out.below hb)
      replace hB := below_next hB hb
      clear hb
      obtain ⟨A_y, c_y, rfl, _, _⟩ := h_y.form
      clear h_y
      have c_a0 := B_a.out.cell0
      have c_a1 := B_a.out.cell1
      have c_a2 := B_a.out.cell2
      go_wp2
      go_ret
      exact ⟨rfl, hB⟩
theorem r3zero_is {b v : Bool} {m d : Value} {q : Rat} {k : Nat} {w : World} (h : RAt w b m d q k) (hk2 : k ≤ 50000) (hv : decide (q = 0) = v) : Calls Tryz.prog 70 #[.agg #[.bool b, m, d]] w (GivesB w v) := hv ▸ r3zero_any b m d q k w h hk2
set_option maxRecDepth 100000 in
set_option maxHeartbeats 8000000 in
theorem r3whole_any (n : Int) (w : World) (n1 : -9223372036854775808 ≤ n) (n2 : n ≤ 9223372036854775807) : Calls Tryz.prog 75 #[.int .i64 n] w (GivesQ w (n : Rat)) := by
  go_enter Tryz.func75, Tryz.ntmps75
  go_upto_region 1 with fail
  obtain ⟨W0, hW, B_r, HW, HS⟩ := rbox1 w (.bool false) (.slice none 0 0) (.slice none 0 0)
  rw [hW]
  clear hW
  have hB := HW.out
  have hsz := HS.out
  clear HW HS
  have c_r0 := B_r.out.cell0
  have c_r1 := B_r.out.cell1
  have c_r2 := B_r.out.cell2
  go_wp2_with fail
  clear c_r0 c_r1 c_r2
  refine (riof_any n _ n1 n2).mono ?_
  rintro e w1 ⟨b_n, A_n, n_n, c_n, rfl, h_n, hb⟩
  replace B_r := Lib.hid (B_r.out.below hb)
  replace hB := below_next hB hb
  clear hb
  have Z_n := Lib.hid h_n
  clear h_n
  have c_r0 := B_r.out.cell0
  have c_r1 := B_r.out.cell1
  have c_r2 := B_r.out.cell2
  go_wp2_with fail
  clear c_r0 c_r1 c_r2
  refine (rof_any 1 _ (by omega)).mono ?_
  rintro e w2 ⟨v_o, rfl, h_o, hb⟩
  replace Z_n := Lib.hid (Z_n.out.below hb)
  replace B_r := Lib.hid (B_r.out.below hb)
  replace hB := below_next hB hb
  clear hb
  obtain ⟨A_o, c_o, rfl, _, _⟩ := h_o.form
  have N_o := Lib.hid h_o
  clear h_o
  have c_r0 := B_r.out.cell0
  have c_r1 := B_r.out.cell1
  have c_r2 := B_r.out.cell2
  have f_r0 := B_r.out.fro 0
  have f_r1 := B_r.out.fro 1
  have f_r2 := B_r.out.fro 2
  go_wp2
  clear c_r0 c_r1 c_r2 f_r0 f_r1 f_r2
  obtain ⟨V3, hV, NB, KP⟩ := storeR B_r.out (.bool b_n) (.slice A_n n_n c_n) (.slice A_o (limbs 1).length c_o)
  rw [hV]
  clear hV
  replace Z_n := Lib.hid (Z_n.out.keeps KP.out)
  replace N_o := Lib.hid (N_o.out.keeps KP.out)
  replace hB := below_keeps hB KP.out (by omega)
  have B_r := NB
  clear NB KP
  have c_r0 := B_r.out.cell0
  have c_r1 := B_r.out.cell1
  have c_r2 := B_r.out.cell2
  refine bodyPost_ret (v := .agg #[.bool b_n, .slice A_n n_n c_n, .slice A_o (limbs 1).length c_o]) (by simp [results, Tryz.results75, go_sem, c_r0, c_r1, c_r2]) rfl ?_
  exact ⟨_, _, _, _, _, _, _, rfl, ⟨Z_n.out, N_o.out⟩, hB⟩
theorem r3of_zero (n : Int) (w : World) : Calls Tryz.prog 8 #[.int .i64 n, .int .i64 0] w (GivesNo w) := by
  go_enter Tryz.func8, Tryz.ntmps8
  go_wp2
  obtain ⟨W0, hW, B_r, HW, HS⟩ := rbox1 w (.bool false) (.slice none 0 0) (.slice none 0 0)
  rw [hW]
  have c0 := B_r.out.cell0
  have c1 := B_r.out.cell1
  have c2 := B_r.out.cell2
  exact bodyPost_ret (v := .tuple #[.agg #[.bool false, .slice none 0 0, .slice none 0 0], .bool false]) (by simp [results, Tryz.results8, go_sem, c0, c1, c2]) rfl ⟨rfl, HW.out⟩
set_option maxRecDepth 100000 in
set_option maxHeartbeats 8000000 in
theorem r3of_any (n d : Int) (w : World) (n1 : -9223372036854775808 ≤ n) (n2 : n ≤ 9223372036854775807) (d1 : -9223372036854775808 ≤ d) (d2 : d ≤ 9223372036854775807) (h0 : d ≠ 0) : Calls Tryz.prog 8 #[.int .i64 n, .int .i64 d] w (GivesQB w (qof n d) true) := by
  have e0 : (d == 0) = false := by rw [beq_eq_false_iff_ne]; exact h0
  go_enter Tryz.func8, Tryz.ntmps8
  go_upto_region 3 with fail
  obtain ⟨W0, hW, B_r, HW, HS⟩ := rbox1 w (.bool false) (.slice none 0 0) (.slice none 0 0)
  rw [hW]
  clear hW
  have hB := HW.out
  have hsz := HS.out
  clear HW HS
  have c_r0 := B_r.out.cell0
  have c_r1 := B_r.out.cell1
  have c_r2 := B_r.out.cell2
  go_wp2_with fail
  clear c_r0 c_r1 c_r2
  refine (riof_any n _ n1 n2).mono ?_
  rintro e w1 ⟨b_n, A_n, n_n, c_n, rfl, h_n, hb⟩
  replace B_r := Lib.hid (B_r.out.below hb)
  replace hB := below_next hB hb
  clear hb
  have Z_n := Lib.hid h_n
  clear h_n
  have c_r0 := B_r.out.cell0
  have c_r1 := B_r.out.cell1
  have c_r2 := B_r.out.cell2
  go_wp2_with fail
  clear c_r0 c_r1 c_r2
  refine (riof_any d _ d1 d2).mono ?_
  rintro e w2 ⟨b_d, A_d, n_d, c_d, rfl, h_d, hb⟩
  replace Z_n := Lib.hid (Z_n.out.below hb)
  replace B_r := Lib.hid (B_r.out.below hb)
  replace hB := below_next hB hb
  clear hb
  have Z_d := Lib.hid h_d
  clear h_d
  have c_r0 := B_r.out.cell0
  have c_r1 := B_r.out.cell1
  have c_r2 := B_r.out.cell2
  go_upto_region 4 with fail
  clear c_r0 c_r1 c_r2
  obtain ⟨W3, hW, NB, NC, HW, HS⟩ := boxes2 w2 (.bool b_n) (.slice A_n n_n c_n) (.bool b_d) (.slice A_d n_d c_d)
  rw [hW]
  clear hW
  have l_n_r : w.heap.size < w2.heap.size := by have := B_r.out.lt; omega
  have l_d_r : w.heap.size < w2.heap.size + 1 := by have := B_r.out.lt; omega
  replace Z_n := Lib.hid (Z_n.out.below HW.out)
  replace Z_d := Lib.hid (Z_d.out.below HW.out)
  replace B_r := Lib.hid (B_r.out.below HW.out)
  replace hB := below_next hB HW.out
  have B_n := NB
  have B_d := NC
  clear NB NC HW HS
  have c_r0 := B_r.out.cell0
  have c_r1 := B_r.out.cell1
  have c_r2 := B_r.out.cell2
  have c_n0 := B_n.out.cell0
  have c_n1 := B_n.out.cell1
  have c_d0 := B_d.out.cell0
  have c_d1 := B_d.out.cell1
  go_wp2_with fail
  clear c_r0 c_r1 c_r2 c_n0 c_n1 c_d0 c_d1
  refine (r3reduce_any _ _ _ _ _ _ (by exact Z_n.out.2) (by exact Z_d.out.2) (Nat.le_trans (abs_two n1 n2) (by omega)) (Nat.le_trans (abs_two d1 d2) (by omega)) (by rw [val_limbs]; omega)).mono ?_
  rintro e w4 ⟨b_s, A_s, n_s, c_s, D_s, e_s, f_s, rfl, h_s, hb⟩
  replace Z_n := Lib.hid (Z_n.out.below hb)
  replace Z_d := Lib.hid (Z_d.out.below hb)
  replace B_r := Lib.hid (B_r.out.below hb)
  replace B_n := Lib.hid (B_n.out.below hb)
  replace B_d := Lib.hid (B_d.out.below hb)
  replace hB := below_next hB hb
  clear hb
  rw [zsgn Z_n.out.1 Z_d.out.1, val_limbs] at h_s
  have Q_s := Lib.hid h_s
  clear h_s
  have c_r0 := B_r.out.cell0
  have c_r1 := B_r.out.cell1
  have c_r2 := B_r.out.cell2
  have f_r0 := B_r.out.fro 0
  have f_r1 := B_r.out.fro 1
  have f_r2 := B_r.out.fro 2
  have c_n0 := B_n.out.cell0
  have c_n1 := B_n.out.cell1
  have c_d0 := B_d.out.cell0
  have c_d1 := B_d.out.cell1
  go_wp2
  clear c_r0 c_r1 c_r2 f_r0 f_r1 f_r2 c_n0 c_n1 c_d0 c_d1
  obtain ⟨V5, hV, NB, KP⟩ := storeR B_r.out (.bool b_s) (.slice A_s n_s c_s) (.slice D_s e_s f_s)
  rw [hV]
  clear hV
  replace Z_n := Lib.hid (Z_n.out.keeps KP.out)
  replace Z_d := Lib.hid (Z_d.out.keeps KP.out)
  replace Q_s := Lib.hid (Q_s.out.keeps KP.out)
  replace B_n := Lib.hid (B_n.out.keeps KP.out (by omega))
  replace B_d := Lib.hid (B_d.out.keeps KP.out (by omega))
  replace hB := below_keeps hB KP.out (by omega)
  have B_r := NB
  clear NB KP
  have c_r0 := B_r.out.cell0
  have c_r1 := B_r.out.cell1
  have c_r2 := B_r.out.cell2
  refine bodyPost_ret (v := .tuple #[.agg #[.bool b_s, .slice A_s n_s c_s, .slice D_s e_s f_s], .bool true]) (by simp [results, Tryz.results8, go_sem, c_r0, c_r1, c_r2]) rfl ?_
  exact ⟨_, _, _, _, _, _, _, rfl, Q_s.out, hB⟩
set_option maxRecDepth 100000 in
set_option maxHeartbeats 8000000 in
theorem r3norm_any (b_a : Bool) (m_a d_a : Value) (q : Rat) (k : Nat) (w : World) (h_a : RAt w b_a m_a d_a q k) (hk : 1 ≤ k) (hk2 : k ≤ 50000) : Calls Tryz.prog 27 #[.agg #[.bool b_a, m_a, d_a]] w (GivesQ w q) := by
  have _ := hk
  have R_a := Lib.hid h_a
  obtain ⟨xs_a, ys_a, hx_a, hy_a, lx_a, ly_a, eq_a⟩ := h_a
  obtain ⟨A_a, c_a, rfl, _, _⟩ := hx_a.form
  obtain ⟨D_a, f_a, rfl, _, _⟩ := hy_a.form
  have X_a := Lib.hid hx_a
  have Y_a := Lib.hid hy_a
  have EQ := Lib.hid eq_a
  clear hx_a hy_a eq_a
  by_cases h0 : q = 0
  · skip
    go_enter Tryz.func27, Tryz.ntmps27
    go_upto_region 1 with fail
    obtain ⟨W0, hW, B_a, B_r, HW, HS⟩ := rbox2 w (.bool b_a) (.slice A_a xs_a.length c_a) (.slice D_a ys_a.length f_a) (.bool false) (.slice none 0 0) (.slice none 0 0)
    rw [hW]
    clear hW
    replace R_a := Lib.hid (R_a.out.below HW.out)
    replace X_a := Lib.hid (X_a.out.below HW.out)
    replace Y_a := Lib.hid (Y_a.out.below HW.out)
    have hB := HW.out
    have hsz := HS.out
    clear HW HS
    have c_a0 := B_a.out.cell0
    have c_a1 := B_a.out.cell1
    have c_a2 := B_a.out.cell2
    have c_r0 := B_r.out.cell0
    have c_r1 := B_r.out.cell1
    have c_r2 := B_r.out.cell2
    go_wp2_with fail
    clear c_a0 c_a1 c_a2 c_r0 c_r1 c_r2
    refine (r3zero_is (v := true) (by exact R_a.out) hk2 (decide_eq_true h0)).mono ?_
    rintro e w1 ⟨rfl, hb⟩
    replace R_a := Lib.hid (R_a.out.below hb)
    replace X_a := Lib.hid (X_a.out.below hb)
    replace Y_a := Lib.hid (Y_a.out.below hb)
    replace B_a := Lib.hid (B_a.out.below hb)
    replace B_r := Lib.hid (B_r.out.below hb)
    replace hB := below_next hB hb
    clear hb
    have c_a0 := B_a.out.cell0
    have c_a1 := B_a.out.cell1
    have c_a2 := B_a.out.cell2
    have c_r0 := B_r.out.cell0
    have c_r1 := B_r.out.cell1
    have c_r2 := B_r.out.cell2
    go_wp2_with fail
    clear c_a0 c_a1 c_a2 c_r0 c_r1 c_r2
    refine (r3whole_any 0 _ (by omega) (by omega)).mono ?_
    rintro e w2 ⟨b_s, A_s, n_s, c_s, D_s, e_s, f_s, rfl, h_s, hb⟩
    replace R_a := Lib.hid (R_a.out.below hb)
    replace X_a := Lib.hid (X_a.out.below hb)
    replace Y_a := Lib.hid (Y_a.out.below hb)
    replace B_a := Lib.hid (B_a.out.below hb)
    replace B_r := Lib.hid (B_r.out.below hb)
    replace hB := below_next hB hb
    clear hb
    rw [show ((0 : Int) : Rat) = q from h0.symm] at h_s
    have Q_s := Lib.hid h_s
    clear h_s
    have c_a0 := B_a.out.cell0
    have c_a1 := B_a.out.cell1
    have c_a2 := B_a.out.cell2
    have c_r0 := B_r.out.cell0
    have c_r1 := B_r.out.cell1
    have c_r2 := B_r.out.cell2
    have f_r0 := B_r.out.fro 0
    have f_r1 := B_r.out.fro 1
    have f_r2 := B_r.out.fro 2
    go_wp2
    clear c_a0 c_a1 c_a2 c_r0 c_r1 c_r2 f_r0 f_r1 f_r2
    obtain ⟨V3, hV, NB, KP⟩ := storeR B_r.out (.bool b_s) (.slice A_s n_s c_s) (.slice D_s e_s f_s)
    rw [hV]
    clear hV
    replace R_a := Lib.hid (R_a.out.keeps KP.out)
    replace X_a := Lib.hid (X_a.out.keeps KP.out)
    replace Y_a := Lib.hid (Y_a.out.keeps KP.out)
    replace Q_s := Lib.hid (Q_s.out.keeps KP.out)
    replace B_a := Lib.hid (B_a.out.keeps KP.out (by omega))
    replace hB := below_keeps hB KP.out (by omega)
    have B_r := NB
    clear NB KP
    have c_r0 := B_r.out.cell0
    have c_r1 := B_r.out.cell1
    have c_r2 := B_r.out.cell2
    refine bodyPost_ret (v := .agg #[.bool b_s, .slice A_s n_s c_s, .slice D_s e_s f_s]) (by simp [results, Tryz.results27, go_sem, c_r0, c_r1, c_r2]) rfl ?_
    exact ⟨_, _, _, _, _, _, _, rfl, Q_s.out, hB⟩
  · skip
    go_enter Tryz.func27, Tryz.ntmps27
    go_upto_region 1 with fail
    obtain ⟨W0, hW, B_a, B_r, HW, HS⟩ := rbox2 w (.bool b_a) (.slice A_a xs_a.length c_a) (.slice D_a ys_a.length f_a) (.bool false) (.slice none 0 0) (.slice none 0 0)
    rw [hW]
    clear hW
    replace R_a := Lib.hid (R_a.out.below HW.out)
    replace X_a := Lib.hid (X_a.out.below HW.out)
    replace Y_a := Lib.hid (Y_a.out.below HW.out)
    have hB := HW.out
    have hsz := HS.out
    clear HW HS
    have c_a0 := B_a.out.cell0
    have c_a1 := B_a.out.cell1
    have c_a2 := B_a.out.cell2
    have c_r0 := B_r.out.cell0
    have c_r1 := B_r.out.cell1
    have c_r2 := B_r.out.cell2
    go_wp2_with fail
    clear c_a0 c_a1 c_a2 c_r0 c_r1 c_r2
    refine (r3zero_is (v := false) (by exact R_a.out) hk2 (decide_eq_false h0)).mono ?_
    rintro e w1 ⟨rfl, hb⟩
    replace R_a := Lib.hid (R_a.out.below hb)
    replace X_a := Lib.hid (X_a.out.below hb)
    replace Y_a := Lib.hid (Y_a.out.below hb)
    replace B_a := Lib.hid (B_a.out.below hb)
    replace B_r := Lib.hid (B_r.out.below hb)
    replace hB := below_next hB hb
    clear hb
    have c_a0 := B_a.out.cell0
    have c_a1 := B_a.out.cell1
    have c_a2 := B_a.out.cell2
    have c_r0 := B_r.out.cell0
    have c_r1 := B_r.out.cell1
    have c_r2 := B_r.out.cell2
    go_wp2_with fail
    clear c_a0 c_a1 c_a2 c_r0 c_r1 c_r2
    refine (r3reduce_any _ _ _ _ _ _ (by exact X_a.out) (by exact Y_a.out) (by omega) (by omega) (fun h => h0 (by rw [EQ.out]; exact mk_zero.2 (.inr h)))).mono ?_
    rintro e w2 ⟨b_s, A_s, n_s, c_s, D_s, e_s, f_s, rfl, h_s, hb⟩
    replace R_a := Lib.hid (R_a.out.below hb)
    replace X_a := Lib.hid (X_a.out.below hb)
    replace Y_a := Lib.hid (Y_a.out.below hb)
    replace B_a := Lib.hid (B_a.out.below hb)
    replace B_r := Lib.hid (B_r.out.below hb)
    replace hB := below_next hB hb
    clear hb
    rw [← EQ.out] at h_s
    have Q_s := Lib.hid h_s
    clear h_s
    have c_a0 := B_a.out.cell0
    have c_a1 := B_a.out.cell1
    have c_a2 := B_a.out.cell2
    have c_r0 := B_r.out.cell0
    have c_r1 := B_r.out.cell1
    have c_r2 := B_r.out.cell2
    have f_r0 := B_r.out.fro 0
    have f_r1 := B_r.out.fro 1
    have f_r2 := B_r.out.fro 2
    go_wp2
    clear c_a0 c_a1 c_a2 c_r0 c_r1 c_r2 f_r0 f_r1 f_r2
    obtain ⟨V3, hV, NB, KP⟩ := storeR B_r.out (.bool b_s) (.slice A_s n_s c_s) (.slice D_s e_s f_s)
    rw [hV]
    clear hV
    replace R_a := Lib.hid (R_a.out.keeps KP.out)
    replace X_a := Lib.hid (X_a.out.keeps KP.out)
    replace Y_a := Lib.hid (Y_a.out.keeps KP.out)
    replace Q_s := Lib.hid (Q_s.out.keeps KP.out)
    replace B_a := Lib.hid (B_a.out.keeps KP.out (by omega))
    replace hB := below_keeps hB KP.out (by omega)
    have B_r := NB
    clear NB KP
    have c_r0 := B_r.out.cell0
    have c_r1 := B_r.out.cell1
    have c_r2 := B_r.out.cell2
    refine bodyPost_ret (v := .agg #[.bool b_s, .slice A_s n_s c_s, .slice D_s e_s f_s]) (by simp [results, Tryz.results27, go_sem, c_r0, c_r1, c_r2]) rfl ?_
    exact ⟨_, _, _, _, _, _, _, rfl, Q_s.out, hB⟩
set_option maxRecDepth 100000 in
set_option maxHeartbeats 8000000 in
theorem r3neg_any (b_a : Bool) (m_a d_a : Value) (q : Rat) (k : Nat) (w : World) (h_a : RAt w b_a m_a d_a q k) (hk : 1 ≤ k) (hk2 : k ≤ 50000) : Calls Tryz.prog 29 #[.agg #[.bool b_a, m_a, d_a]] w (GivesQ w (-q)) := by
  have R_a := Lib.hid h_a
  obtain ⟨xs_a, ys_a, hx_a, hy_a, -, -, -⟩ := h_a
  obtain ⟨A_a, c_a, rfl, _, _⟩ := hx_a.form
  obtain ⟨D_a, f_a, rfl, _, _⟩ := hy_a.form
  clear hx_a hy_a
  have S_a := RAt.sz R_a.out hk
  have ln := limbs_length_le S_a.1
  have ld := limbs_length_le S_a.2
  go_enter Tryz.func29, Tryz.ntmps29
  go_upto_region 1 with fail
  obtain ⟨W0, hW, B_a, B_r, HW, HS⟩ := rbox2 w (.bool b_a) (.slice A_a xs_a.length c_a) (.slice D_a ys_a.length f_a) (.bool false) (.slice none 0 0) (.slice none 0 0)
  rw [hW]
  clear hW
  replace R_a := Lib.hid (R_a.out.below HW.out)
  have hB := HW.out
  have hsz := HS.out
  clear HW HS
  have c_a0 := B_a.out.cell0
  have c_a1 := B_a.out.cell1
  have c_a2 := B_a.out.cell2
  have c_r0 := B_r.out.cell0
  have c_r1 := B_r.out.cell1
  have c_r2 := B_r.out.cell2
  go_wp2_with fail
  clear c_a0 c_a1 c_a2 c_r0 c_r1 c_r2
  refine (r3norm_any _ _ _ q k _ (by exact R_a.out) hk (by omega)).mono ?_
  rintro e w1 ⟨b_v, A_v, n_v, c_v, D_v, e_v, f_v, rfl, h_v, hb⟩
  replace R_a := Lib.hid (R_a.out.below hb)
  replace B_a := Lib.hid (B_a.out.below hb)
  replace B_r := Lib.hid (B_r.out.below hb)
  replace hB := below_next hB hb
  clear hb
  have Q_v := Lib.hid h_v
  clear h_v
  have c_a0 := B_a.out.cell0
  have c_a1 := B_a.out.cell1
  have c_a2 := B_a.out.cell2
  have c_r0 := B_r.out.cell0
  have c_r1 := B_r.out.cell1
  have c_r2 := B_r.out.cell2
  go_wp2
  clear c_a0 c_a1 c_a2 c_r0 c_r1 c_r2
  obtain ⟨W2, g_x, hV, hg, NB, hb⟩ := newR w1 (.bool b_v) (.slice A_v n_v c_v) (.slice D_v e_v f_v)
  rw [hV, hg]
  clear hV
  have l_x_a : w.heap.size < g_x := hg ▸ B_a.out.lt
  have l_x_r : w.heap.size + 1 < g_x := hg ▸ B_r.out.lt
  replace R_a := Lib.hid (R_a.out.below hb)
  replace Q_v := Lib.hid (Q_v.out.below hb)
  replace B_a := Lib.hid (B_a.out.below hb)
  replace B_r := Lib.hid (B_r.out.below hb)
  replace hB := below_next hB hb
  have B_x := NB
  clear NB hb hg
  refine wp_region_named (S := (fun w' => (w'.cell? ⟨g_x, 0, none⟩ = some (.bool b_v) ∧ w'.cell? ⟨g_x, 1, none⟩ = some (.slice A_v n_v c_v) ∧ w'.cell? ⟨g_x, 2, none⟩ = some (.slice D_v e_v f_v)))) (by kernel_rfl) (by exact B_x.out.c3) (fun V3 hb hHeld => ?_)
  replace R_a := Lib.hid (R_a.out.below hb)
  replace Q_v := Lib.hid (Q_v.out.below hb)
  replace B_a := Lib.hid (B_a.out.below hb)
  replace B_r := Lib.hid (B_r.out.below hb)
  replace B_x := Lib.hid (B_x.out.below hb)
  replace hB := below_next hB hb
  clear hb
  refine wpAnyH_takeQ 0 (v := ?_) (fun _ _ _ _ _ h => h) (by simp only [List.getElem?_toArray, List.getElem?_cons_zero]; rfl) (by kernel_rfl) (by kernel_rfl) (by kernel_rfl) (by rfl) ?_ hHeld ?_; rotate_left; · (intro w hSw; (try dsimp only at hSw); go_simp; (try with_reducible rfl))
  try simp only [Act.put, List.setIfInBounds_toArray, List.set_cons_zero, List.set_cons_succ]
  refine wpAnyH_takeQ 1 (v := ?_) (fun _ _ _ _ _ h => h) (by simp only [List.getElem?_toArray, List.getElem?_cons_succ, List.getElem?_cons_zero]; rfl) (by kernel_rfl) (by kernel_rfl) (by kernel_rfl) (by rfl) ?_ hHeld ?_; rotate_left; · (intro w hSw; (try dsimp only at hSw); go_simp; (try with_reducible rfl))
  try simp only [Act.put, List.setIfInBounds_toArray, List.set_cons_zero, List.set_cons_succ]
  refine wpAnyH_takeQ 3 (v := ?_) (fun _ _ _ _ _ h => h) (by simp only [List.getElem?_toArray, List.getElem?_cons_succ, List.getElem?_cons_zero]; rfl) (by kernel_rfl) (by kernel_rfl) (by kernel_rfl) (by rfl) ?_ hHeld ?_; rotate_left; · (intro w hSw; (try dsimp only at hSw); go_simp; (try with_reducible rfl))
  try simp only [Act.put, List.setIfInBounds_toArray, List.set_cons_zero, List.set_cons_succ]
  refine wpAnyH_takeQ 4 (v := ?_) (fun _ _ _ _ _ h => h) (by simp only [List.getElem?_toArray, List.getElem?_cons_succ, List.getElem?_cons_zero]; rfl) (by kernel_rfl) (by kernel_rfl) (by kernel_rfl) (by rfl) ?_ hHeld ?_; rotate_left; · (intro w hSw; (try dsimp only at hSw); go_simp; (try with_reducible rfl))
  try simp only [Act.put, List.setIfInBounds_toArray, List.set_cons_zero, List.set_cons_succ]
  refine wpAnyH_ready (rs := [2]) (by kernel_rfl) (by simp) ?_
  refine AllReadyH.cons (by simp only [List.getElem?_toArray, List.getElem?_cons_succ, List.getElem?_cons_zero]; rfl) (fun K hK => ?_) AllReadyH.nil
  go_simp
  clear hHeld
  refine (rineg_any _ _ _ k _ (by exact Q_v.out.1.int ln) (by omega)).mono ?_
  rintro e w4 ⟨b_n, A_n, n_n, c_n, rfl, h_n, hb⟩
  replace R_a := Lib.hid (R_a.out.below hb)
  replace Q_v := Lib.hid (Q_v.out.below hb)
  replace B_a := Lib.hid (B_a.out.below hb)
  replace B_r := Lib.hid (B_r.out.below hb)
  replace B_x := Lib.hid (B_x.out.below hb)
  replace hB := below_next hB hb
  clear hb
  have Z_n := Lib.hid h_n
  clear h_n
  go_wp2_with fail
  refine hK.out _ _ (by exact B_x.out.c3) (fun hHeld => ?_)
  clear hK K
  try simp only [Act.put, List.setIfInBounds_toArray, List.set_cons_zero, List.set_cons_succ]
  refine wpAnyH_takeQ 5 (v := ?_) (fun _ _ _ _ _ h => h) (by simp only [List.getElem?_toArray, List.getElem?_cons_succ, List.getElem?_cons_zero]; rfl) (by kernel_rfl) (by kernel_rfl) (by kernel_rfl) (by rfl) ?_ hHeld ?_; rotate_left; · (intro w hSw; (try dsimp only at hSw); go_simp; (try with_reducible rfl))
  try simp only [Act.put, List.setIfInBounds_toArray, List.set_cons_zero, List.set_cons_succ]
  refine wpAnyH_ready (rs := [6]) (by kernel_rfl) (by simp) ?_
  refine AllReadyH.cons (by simp only [List.getElem?_toArray, List.getElem?_cons_succ, List.getElem?_cons_zero]; rfl) (fun K hK => ?_) AllReadyH.nil
  have c_a0 := B_a.out.cell0
  have c_a1 := B_a.out.cell1
  have c_a2 := B_a.out.cell2
  have c_r0 := B_r.out.cell0
  have c_r1 := B_r.out.cell1
  have c_r2 := B_r.out.cell2
  have f_r0 := B_r.out.fro 0
  have f_r1 := B_r.out.fro 1
  have f_r2 := B_r.out.fro 2
  have c_x0 := B_x.out.cell0
  have c_x1 := B_x.out.cell1
  have c_x2 := B_x.out.cell2
  go_simp
  clear c_a0 c_a1 c_a2 c_r0 c_r1 c_r2 f_r0 f_r1 f_r2 c_x0 c_x1 c_x2
  clear hHeld
  obtain ⟨V5, hV, NB, KP⟩ := storeR B_r.out (.bool b_n) (.slice A_n n_n c_n) (.slice D_v e_v f_v)
  rw [hV]
  clear hV
  replace R_a := Lib.hid (R_a.out.keeps KP.out)
  replace Q_v := Lib.hid (Q_v.out.keeps KP.out)
  replace Z_n := Lib.hid (Z_n.out.keeps KP.out)
  replace B_a := Lib.hid (B_a.out.keeps KP.out (by omega))
  replace B_x := Lib.hid (B_x.out.keeps KP.out (by omega))
  replace hB := below_keeps hB KP.out (by omega)
  have B_r := NB
  clear NB KP
  refine hK.out _ _ (by exact B_x.out.c3) (fun hHeld => ?_)
  clear hK K
  try simp only [Act.put, List.setIfInBounds_toArray, List.set_cons_zero, List.set_cons_succ]
  refine wpAnyH_done (by kernel_rfl) (NoPanic.normal ?_) _
  clear hHeld
  go_wp2
  have c_r0 := B_r.out.cell0
  have c_r1 := B_r.out.cell1
  have c_r2 := B_r.out.cell2
  refine bodyPost_ret (v := .agg #[.bool b_n, .slice A_n n_n c_n, .slice D_v e_v f_v]) (by simp [results, Tryz.results29, go_sem, c_r0, c_r1, c_r2]) rfl ?_
  exact ⟨_, _, _, _, _, _, _, rfl, ⟨Z_n.out, Q_v.out.2⟩, hB⟩
end Go.Proofs.YtoflndeonegkpaaGreatDoor
