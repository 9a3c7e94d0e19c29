/- RatioRounds -/
import Derived.Test.YtoflndeonegkpaaDoorQOf
import Derived.OpenShut
namespace Go.Proofs.YtoflndeonegkpaaDoor
open Go.RowKit

theorem floor_sz {q : Rat} {k : Nat} (h : QSz q k) : QSz (q.floor : Rat) (k + 1) := by
  refine ⟨?_, sz_one (by omega)⟩
  show Sz q.floor.natAbs (k + 1)
  rw [Rat.floor_def]
  have hb : (q.den : Int) ≠ 0 := by have := q.den_pos; omega
  have h1 := Int.emod_nonneg q.num hb
  have h2 := Int.emod_lt_of_pos q.num (show (0 : Int) < q.den by have := q.den_pos; omega)
  have h3 := Int.mul_ediv_add_emod q.num (q.den : Int)
  have h4 : ((q.den : Int) * (q.num / (q.den : Int))).natAbs ≤ q.num.natAbs + q.den := by omega
  rw [Int.natAbs_mul, Int.natAbs_natCast] at h4
  have h5 : (q.num / (q.den : Int)).natAbs ≤ q.den * (q.num / (q.den : Int)).natAbs := Nat.le_mul_of_pos_left _ q.den_pos
  exact (h.1.add h.2).le (Nat.le_trans h5 h4)
theorem round_sz {q : Rat} {k : Nat} (h : QSz q k) : QSz (qround q : Rat) (k + 1) := by
  refine ⟨?_, sz_one (by omega)⟩
  show Sz (qround q).natAbs (k + 1)
  have e : (qround q).natAbs = (2 * q.num.natAbs + q.den) / (2 * q.den) := by
    unfold qround
    split
    · rw [Int.natAbs_neg, Int.natAbs_natCast]
    · rw [Int.natAbs_natCast]
  rw [e]
  have h1 : (2 * q.num.natAbs + q.den) / (2 * q.den) ≤ q.num.natAbs + q.den := by
    refine Nat.div_le_of_le_mul ?_
    have : 1 ≤ q.den := q.den_pos
    have h2 : 1 * q.num.natAbs ≤ q.den * q.num.natAbs := Nat.mul_le_mul_right _ this
    have h3 : 1 * q.den ≤ q.den * q.den := Nat.mul_le_mul_right _ this
    rw [Nat.mul_add, Nat.mul_assoc, Nat.mul_assoc]
    omega
  exact (h.1.add h.2).le h1
theorem int_sz {n : Int} (h1 : -9223372036854775808 ≤ n) (h2 : n ≤ 9223372036854775807) : QSz (n : Rat) 2 := ⟨show Sz n.natAbs 2 by unfold Sz; omega, sz_one (by omega)⟩
set_option maxRecDepth 100000 in
set_option maxHeartbeats 8000000 in
theorem rounds_light (b_a : Bool) (m_a d_a : Value) (xs_a ys_a : List Nat) (n : Int) (w : World) (h_a : NatAt w m_a xs_a) (g_a : NatAt w d_a ys_a) (hz_n : (Lit.int .i64 n).wf = true) (htab : Tab w) (s_a : xs_a.length ≤ 8 ∧ ys_a.length ≤ 8) : Calls Tryd.prog 4 #[.agg #[.bool b_a, m_a, d_a], .int .i64 n] w (GivesTrue w) := by
  have HT := Lib.hid htab
  clear htab
  have H_a := Lib.hid h_a
  have K_a := Lib.hid g_a
  clear h_a g_a
  obtain ⟨n1, n2⟩ : -9223372036854775808 ≤ n ∧ n ≤ 9223372036854775807 := by have := Go.bounds_i64 hz_n; omega
  clear hz_n
  go_enter Tryd.func4, Tryd.ntmps4
  go_wp2_with fail
  obtain ⟨W0, hW, B_a, HW, HS⟩ := rbox1 w (.bool b_a) m_a d_a
  rw [hW]
  clear hW
  replace HT := Lib.hid (HT.out.below HW.out)
  replace H_a := Lib.hid (H_a.out.below HW.out)
  replace K_a := Lib.hid (K_a.out.below HW.out)
  have hB := HW.out
  have hsz := HS.out
  clear HW HS
  refine (rlight_is (k := 8) (v := true) (by exact H_a.out) (by exact K_a.out) (decide_eq_true s_a)).mono ?_
  rintro e w1 ⟨rfl, hb⟩
  replace HT := Lib.hid (HT.out.below hb)
  replace H_a := Lib.hid (H_a.out.below hb)
  replace K_a := Lib.hid (K_a.out.below hb)
  replace B_a := Lib.hid (B_a.out.below hb)
  replace hB := below_next hB hb
  clear hb
  obtain ⟨q_a, R_a⟩ : ∃ q, Hid (RAt w1 b_a m_a d_a q 8) := ⟨_, xs_a, ys_a, H_a.out, K_a.out, s_a.1, s_a.2, rfl⟩
  have S_a := R_a.out.sz (by omega)
  clear H_a K_a
  have c_a0 := B_a.out.cell0
  have c_a1 := B_a.out.cell1
  have c_a2 := B_a.out.cell2
  go_wp2_with fail
  clear c_a0 c_a1 c_a2
  refine (qof_any 1 1 _ (by omega) (by omega) (by omega) (by omega) (by omega)).mono ?_
  rintro e w2 ⟨b_o, A_o, n_o, c_o, D_o, e_o, f_o, rfl, h_o, hb⟩
  replace HT := Lib.hid (HT.out.below hb)
  replace R_a := Lib.hid (R_a.out.below hb)
  replace B_a := Lib.hid (B_a.out.below hb)
  replace hB := below_next hB hb
  clear hb
  rw [qof1] at h_o
  have Q_o := Lib.hid h_o
  clear h_o
  have c_a0 := B_a.out.cell0
  have c_a1 := B_a.out.cell1
  have c_a2 := B_a.out.cell2
  go_upto_region 4 with fail
  clear c_a0 c_a1 c_a2
  obtain ⟨W3, g_o, hV, hg, NB, hb⟩ := newR w2 (.bool b_o) (.slice A_o n_o c_o) (.slice D_o e_o f_o)
  rw [hV, hg]
  clear hV
  have l_o_a : w.heap.size < g_o := hg ▸ B_a.out.lt
  replace HT := Lib.hid (HT.out.below hb)
  replace R_a := Lib.hid (R_a.out.below hb)
  replace Q_o := Lib.hid (Q_o.out.below hb)
  replace B_a := Lib.hid (B_a.out.below hb)
  replace hB := below_next hB hb
  have B_o := NB
  clear NB hb hg
  have c_a0 := B_a.out.cell0
  have c_a1 := B_a.out.cell1
  have c_a2 := B_a.out.cell2
  have c_o0 := B_o.out.cell0
  have c_o1 := B_o.out.cell1
  have c_o2 := B_o.out.cell2
  go_wp2_with fail
  clear c_a0 c_a1 c_a2 c_o0 c_o1 c_o2
  refine (qof_any 1 2 _ (by omega) (by omega) (by omega) (by omega) (by omega)).mono ?_
  rintro e w4 ⟨b_h, A_h, n_h, c_h, D_h, e_h, f_h, rfl, h_h, hb⟩
  replace HT := Lib.hid (HT.out.below hb)
  replace R_a := Lib.hid (R_a.out.below hb)
  replace Q_o := Lib.hid (Q_o.out.below hb)
  replace B_a := Lib.hid (B_a.out.below hb)
  replace B_o := Lib.hid (B_o.out.below hb)
  replace hB := below_next hB hb
  clear hb
  have Q_h := Lib.hid h_h
  clear h_h
  have c_a0 := B_a.out.cell0
  have c_a1 := B_a.out.cell1
  have c_a2 := B_a.out.cell2
  have c_o0 := B_o.out.cell0
  have c_o1 := B_o.out.cell1
  have c_o2 := B_o.out.cell2
  go_wp2
  clear c_a0 c_a1 c_a2 c_o0 c_o1 c_o2
  obtain ⟨W5, g_h, hV, hg, NB, hb⟩ := newR w4 (.bool b_h) (.slice A_h n_h c_h) (.slice D_h e_h f_h)
  rw [hV, hg]
  clear hV
  have l_h_a : w.heap.size < g_h := hg ▸ B_a.out.lt
  have l_h_o : g_o < g_h := hg ▸ B_o.out.lt
  replace HT := Lib.hid (HT.out.below hb)
  replace R_a := Lib.hid (R_a.out.below hb)
  replace Q_o := Lib.hid (Q_o.out.below hb)
  replace Q_h := Lib.hid (Q_h.out.below hb)
  replace B_a := Lib.hid (B_a.out.below hb)
  replace B_o := Lib.hid (B_o.out.below hb)
  replace hB := below_next hB hb
  have B_h := NB
  clear NB hb hg
  have S_h := ex_sz 1 2 (by decide) (by decide)
  go_cut [9, 10] (fun s9 s10 wx => ∃ (b_l : Bool) (A_l : Option Addr) (n_l c_l : Nat) (D_l : Option Addr) (e_l f_l g_l : Nat) (b_n : Bool) (A_n : Option Addr) (n_n c_n : Nat) (D_n : Option Addr) (e_n f_n g_n : Nat), s9 = .pointer (some ⟨g_l, 0, none⟩) ∧ s10 = .pointer (some ⟨g_n, 0, none⟩) ∧ RBox wx g_l (.bool b_l) (.slice A_l n_l c_l) (.slice D_l e_l f_l) ∧ RBox wx g_n (.bool b_n) (.slice A_n n_n c_n) (.slice D_n e_n f_n) ∧ QAt wx b_l (.slice A_l n_l c_l) (.slice D_l e_l f_l) (q_a.floor : Rat) ∧ QAt wx b_n (.slice A_n n_n c_n) (.slice D_n e_n f_n) (qround q_a : Rat) ∧ BW W5 wx ∧ Below w.heap.size w wx)
  case first =>
    have BW0 := Lib.hid (show BW W5 W5 from Below.refl _ _)
    clear HT Q_o Q_h B_o B_h
    have BWs := hB.size
    have BWa := B_a.out.lt
    refine wp_region_named (S := (fun w' => (w'.cell? ⟨w.heap.size, 0, none⟩ = some (.bool b_a) ∧ w'.cell? ⟨w.heap.size, 1, none⟩ = some m_a ∧ w'.cell? ⟨w.heap.size, 2, none⟩ = some d_a))) (by kernel_rfl) (by exact B_a.out.c3) (fun V6 hb hHeld => ?_)
    replace R_a := Lib.hid (R_a.out.below hb)
    replace BW0 := Lib.hid (BW0.out.below hb)
    replace B_a := Lib.hid (B_a.out.below hb)
    replace hB := below_next hB hb
    clear hb
    refine wpAnyH_takeQ 0 (v := ?_) (fun _ _ _ _ _ h => h) (by simp only [List.getElem?_toArray, List.getElem?_cons_zero]; rfl) (by kernel_rfl) (by kernel_rfl) (by kernel_rfl) (by rfl) ?_ hHeld ?_; rotate_left; · (intro w hSw; (try dsimp only at hSw); go_simp; (try with_reducible rfl))
    try simp only [Act.put, List.setIfInBounds_toArray, List.set_cons_zero, List.set_cons_succ]
    refine wpAnyH_takeQ 3 (v := ?_) (fun _ _ _ _ _ h => h) (by simp only [List.getElem?_toArray, List.getElem?_cons_succ, List.getElem?_cons_zero]; rfl) (by kernel_rfl) (by kernel_rfl) (by kernel_rfl) (by rfl) ?_ hHeld ?_; rotate_left; · (intro w hSw; (try dsimp only at hSw); go_simp; (try with_reducible rfl))
    try simp only [Act.put, List.setIfInBounds_toArray, List.set_cons_zero, List.set_cons_succ]
    refine wpAnyH_key6Q 2 #[true, true, true, true, true, true, true, true, false, false] 28 29 31 32 9 10 (fun _ v29 _ v32 v9 v10 wx => ∃ (b_l : Bool) (A_l : Option Addr) (n_l c_l : Nat) (D_l : Option Addr) (e_l f_l g_l : Nat) (b_n : Bool) (A_n : Option Addr) (n_n c_n : Nat) (D_n : Option Addr) (e_n f_n g_n : Nat), v29 = .agg #[.bool b_l, .slice A_l n_l c_l, .slice D_l e_l f_l] ∧ v32 = .agg #[.bool b_n, .slice A_n n_n c_n, .slice D_n e_n f_n] ∧ v9 = .pointer (some ⟨g_l, 0, none⟩) ∧ v10 = .pointer (some ⟨g_n, 0, none⟩) ∧ g_l ≠ g_n ∧ W5.heap.size ≤ g_l ∧ W5.heap.size ≤ g_n ∧ RBox wx g_l (.bool false) (.slice none 0 0) (.slice none 0 0) ∧ RBox wx g_n (.bool false) (.slice none 0 0) (.slice none 0 0) ∧ RBox wx w.heap.size (.bool b_a) m_a d_a ∧ QAt wx b_l (.slice A_l n_l c_l) (.slice D_l e_l f_l) (q_a.floor : Rat) ∧ QAt wx b_n (.slice A_n n_n c_n) (.slice D_n e_n f_n) (qround q_a : Rat) ∧ BW W5 wx ∧ Below w.heap.size w wx) ?_ (fun key => ?_)
    rotate_left
    · simp only [Act.put, List.setIfInBounds_toArray, List.set_cons_zero, List.set_cons_succ] at key
      have KEY := Lib.hid key
      clear key
      refine wpAnyH_ready (rs := [1, 6, 7]) (by kernel_rfl) (by simp) ?_
      refine AllReadyH.cons (by simp only [List.getElem?_toArray, List.getElem?_cons_succ, List.getElem?_cons_zero]; rfl) (fun K hK => ?_) ?_
      go_simp
      clear hHeld
      refine (qfloor_any _ _ _ _ 8 _ (by exact R_a.out) (by omega) (by omega)).mono ?_
      rintro e w7 ⟨b_f, A_f, n_f, c_f, rfl, h_f, hb⟩
      replace R_a := Lib.hid (R_a.out.below hb)
      replace BW0 := Lib.hid (BW0.out.below hb)
      replace B_a := Lib.hid (B_a.out.below hb)
      replace hB := below_next hB hb
      clear hb
      have Z_f := Lib.hid h_f
      clear h_f
      go_wp2_with fail
      refine hK.out _ _ (by exact B_a.out.c3) (fun hHeld => ?_)
      clear hK K
      try simp only [Act.put, List.setIfInBounds_toArray, List.set_cons_zero, List.set_cons_succ]
      refine wpAnyH_ready (rs := [2, 6, 7]) (by kernel_rfl) (by simp) ?_
      refine AllReadyH.cons (by simp only [List.getElem?_toArray, List.getElem?_cons_succ, List.getElem?_cons_zero]; rfl) (fun K hK => ?_) ?_
      go_simp
      clear hHeld
      refine (lof_any _ _ _ _ _ _ (by exact Z_f.out)).mono ?_
      rintro e w8 ⟨b_l, A_l, n_l, c_l, D_l, e_l, f_l, rfl, h_l, hb⟩
      replace R_a := Lib.hid (R_a.out.below hb)
      replace BW0 := Lib.hid (BW0.out.below hb)
      replace Z_f := Lib.hid (Z_f.out.below hb)
      replace B_a := Lib.hid (B_a.out.below hb)
      replace hB := below_next hB hb
      clear hb
      have Q_l := Lib.hid h_l
      clear h_l
      go_wp2_with fail
      refine hK.out _ _ (by exact B_a.out.c3) (fun hHeld => ?_)
      clear hK K
      try simp only [Act.put, List.setIfInBounds_toArray, List.set_cons_zero, List.set_cons_succ]
      refine wpAnyH_ready (rs := [4, 6, 7]) (by kernel_rfl) (by simp) ?_
      refine AllReadyH.cons (by simp only [List.getElem?_toArray, List.getElem?_cons_succ, List.getElem?_cons_zero]; rfl) (fun K hK => ?_) ?_
      go_simp
      clear hHeld
      refine (qround_any _ _ _ _ 8 _ (by exact R_a.out) (by omega) (by omega)).mono ?_
      rintro e w9 ⟨b_r, A_r, n_r, c_r, rfl, h_r, hb⟩
      replace R_a := Lib.hid (R_a.out.below hb)
      replace BW0 := Lib.hid (BW0.out.below hb)
      replace Z_f := Lib.hid (Z_f.out.below hb)
      replace Q_l := Lib.hid (Q_l.out.below hb)
      replace B_a := Lib.hid (B_a.out.below hb)
      replace hB := below_next hB hb
      clear hb
      have Z_r := Lib.hid h_r
      clear h_r
      go_wp2_with fail
      refine hK.out _ _ (by exact B_a.out.c3) (fun hHeld => ?_)
      clear hK K
      try simp only [Act.put, List.setIfInBounds_toArray, List.set_cons_zero, List.set_cons_succ]
      refine wpAnyH_ready (rs := [5, 6, 7]) (by kernel_rfl) (by simp) ?_
      refine AllReadyH.cons (by simp only [List.getElem?_toArray, List.getElem?_cons_succ, List.getElem?_cons_zero]; rfl) (fun K hK => ?_) ?_
      go_simp
      clear hHeld
      refine (lof_any _ _ _ _ _ _ (by exact Z_r.out)).mono ?_
      rintro e w10 ⟨b_n, A_n, n_n, c_n, D_n, e_n, f_n, rfl, h_n, hb⟩
      replace R_a := Lib.hid (R_a.out.below hb)
      replace BW0 := Lib.hid (BW0.out.below hb)
      replace Z_f := Lib.hid (Z_f.out.below hb)
      replace Q_l := Lib.hid (Q_l.out.below hb)
      replace Z_r := Lib.hid (Z_r.out.below hb)
      replace B_a := Lib.hid (B_a.out.below hb)
      replace hB := below_next hB hb
      clear hb
      have Q_n := Lib.hid h_n
      clear h_n
      go_wp2_with fail
      refine hK.out _ _ (by exact B_a.out.c3) (fun hHeld => ?_)
      clear hK K
      try simp only [Act.put, List.setIfInBounds_toArray, List.set_cons_zero, List.set_cons_succ]
      refine wpAnyH_ready (rs := [6, 7]) (by kernel_rfl) (by simp) ?_
      refine AllReadyH.cons (by simp only [List.getElem?_toArray, List.getElem?_cons_succ, List.getElem?_cons_zero]; rfl) (fun K hK => ?_) ?_
      go_simp
      clear hHeld
      obtain ⟨A11, g_l, hV, hg, NB, hb⟩ := newR w10 (.bool false) (.slice none 0 0) (.slice none 0 0)
      rw [hV, hg]
      clear hV
      have l_l_a : w.heap.size < g_l := hg ▸ B_a.out.lt
      have l_l_BW0 := hg ▸ BW0.out.size
      replace R_a := Lib.hid (R_a.out.below hb)
      replace BW0 := Lib.hid (BW0.out.below hb)
      replace Z_f := Lib.hid (Z_f.out.below hb)
      replace Q_l := Lib.hid (Q_l.out.below hb)
      replace Z_r := Lib.hid (Z_r.out.below hb)
      replace Q_n := Lib.hid (Q_n.out.below hb)
      replace B_a := Lib.hid (B_a.out.below hb)
      replace hB := below_next hB hb
      have B_l := NB
      clear NB hb hg
      refine hK.out _ _ (by exact B_a.out.c3) (fun hHeld => ?_)
      clear hK K
      try simp only [Act.put, List.setIfInBounds_toArray, List.set_cons_zero, List.set_cons_succ]
      refine wpAnyH_ready (rs := [7]) (by kernel_rfl) (by simp) ?_
      refine AllReadyH.cons (by simp only [List.getElem?_toArray, List.getElem?_cons_succ, List.getElem?_cons_zero]; rfl) (fun K hK => ?_) AllReadyH.nil
      go_simp
      clear hHeld
      obtain ⟨A12, g_n, hV, hg, NB, hb⟩ := newR A11 (.bool false) (.slice none 0 0) (.slice none 0 0)
      rw [hV, hg]
      clear hV
      have l_n_a : w.heap.size < g_n := hg ▸ B_a.out.lt
      have l_n_l : g_l < g_n := hg ▸ B_l.out.lt
      have l_n_BW0 := hg ▸ BW0.out.size
      replace R_a := Lib.hid (R_a.out.below hb)
      replace BW0 := Lib.hid (BW0.out.below hb)
      replace Z_f := Lib.hid (Z_f.out.below hb)
      replace Q_l := Lib.hid (Q_l.out.below hb)
      replace Z_r := Lib.hid (Z_r.out.below hb)
      replace Q_n := Lib.hid (Q_n.out.below hb)
      replace B_a := Lib.hid (B_a.out.below hb)
      replace B_l := Lib.hid (B_l.out.below hb)
      replace hB := below_next hB hb
      have B_n := NB
      clear NB hb hg
      refine hK.out _ _ (by exact B_a.out.c3) (fun hHeld => ?_)
      clear hK K
      try simp only [Act.put, List.setIfInBounds_toArray, List.set_cons_zero, List.set_cons_succ]
      exact wpAnyH_atQ #[true, true, true, true, true, true, true, true, false, false] (by kernel_rfl) (KEY.out _ _ _ _ _ _ _ ⟨b_l, A_l, n_l, c_l, D_l, e_l, f_l, g_l, b_n, A_n, n_n, c_n, D_n, e_n, f_n, g_n, rfl, rfl, rfl, rfl, by omega, l_l_BW0, l_n_BW0, B_l.out, B_n.out, B_a.out, Q_l.out, Q_n.out, BW0.out, hB⟩)
      refine AllReadyH.cons (by simp only [List.getElem?_toArray, List.getElem?_cons_succ, List.getElem?_cons_zero]; rfl) (fun K hK => ?_) ?_
      go_simp
      clear hHeld
      obtain ⟨A13, g_n, hV, hg, NB, hb⟩ := newR w10 (.bool false) (.slice none 0 0) (.slice none 0 0)
      rw [hV, hg]
      clear hV
      have l_n_a : w.heap.size < g_n := hg ▸ B_a.out.lt
      have l_n_BW0 := hg ▸ BW0.out.size
      replace R_a := Lib.hid (R_a.out.below hb)
      replace BW0 := Lib.hid (BW0.out.below hb)
      replace Z_f := Lib.hid (Z_f.out.below hb)
      replace Q_l := Lib.hid (Q_l.out.below hb)
      replace Z_r := Lib.hid (Z_r.out.below hb)
      replace Q_n := Lib.hid (Q_n.out.below hb)
      replace B_a := Lib.hid (B_a.out.below hb)
      replace hB := below_next hB hb
      have B_n := NB
      clear NB hb hg
      refine hK.out _ _ (by exact B_a.out.c3) (fun hHeld => ?_)
      clear hK K
      try simp only [Act.put, List.setIfInBounds_toArray, List.set_cons_zero, List.set_cons_succ]
      refine wpAnyH_ready (rs := [6]) (by kernel_rfl) (by simp) ?_
      refine AllReadyH.cons (by simp only [List.getElem?_toArray, List.getElem?_cons_succ, List.getElem?_cons_zero]; rfl) (fun K hK => ?_) AllReadyH.nil
      go_simp
      clear hHeld
      obtain ⟨A14, g_l, hV, hg, NB, hb⟩ := newR A13 (.bool false) (.slice none 0 0) (.slice none 0 0)
      rw [hV, hg]
      clear hV
      have l_l_a : w.heap.size < g_l := hg ▸ B_a.out.lt
      have l_l_n : g_n < g_l := hg ▸ B_n.out.lt
      have l_l_BW0 := hg ▸ BW0.out.size
      replace R_a := Lib.hid (R_a.out.below hb)
      replace BW0 := Lib.hid (BW0.out.below hb)
      replace Z_f := Lib.hid (Z_f.out.below hb)
      replace Q_l := Lib.hid (Q_l.out.below hb)
      replace Z_r := Lib.hid (Z_r.out.below hb)
      replace Q_n := Lib.hid (Q_n.out.below hb)
      replace B_a := Lib.hid (B_a.out.below hb)
      replace B_n := Lib.hid (B_n.out.below hb)
      replace hB := below_next hB hb
      have B_l := NB
      clear NB hb hg
      refine hK.out _ _ (by exact B_a.out.c3) (fun hHeld => ?_)
      clear hK K
      try simp only [Act.put, List.setIfInBounds_toArray, List.set_cons_zero, List.set_cons_succ]
      exact wpAnyH_atQ #[true, true, true, true, true, true, true, true, false, false] (by kernel_rfl) (KEY.out _ _ _ _ _ _ _ ⟨b_l, A_l, n_l, c_l, D_l, e_l, f_l, g_l, b_n, A_n, n_n, c_n, D_n, e_n, f_n, g_n, rfl, rfl, rfl, rfl, by omega, l_l_BW0, l_n_BW0, B_l.out, B_n.out, B_a.out, Q_l.out, Q_n.out, BW0.out, hB⟩)
      exact AllReadyH.nil
      refine AllReadyH.cons (by simp only [List.getElem?_toArray, List.getElem?_cons_succ, List.getElem?_cons_zero]; rfl) (fun K hK => ?_) ?_
      go_simp
      clear hHeld
      obtain ⟨A15, g_l, hV, hg, NB, hb⟩ := newR w9 (.bool false) (.slice none 0 0) (.slice none 0 0)
      rw [hV, hg]
      clear hV
      have l_l_a : w.heap.size < g_l := hg ▸ B_a.out.lt
      have l_l_BW0 := hg ▸ BW0.out.size
      replace R_a := Lib.hid (R_a.out.below hb)
      replace BW0 := Lib.hid (BW0.out.below hb)
      replace Z_f := Lib.hid (Z_f.out.below hb)
      replace Q_l := Lib.hid (Q_l.out.below hb)
      replace Z_r := Lib.hid (Z_r.out.below hb)
      replace B_a := Lib.hid (B_a.out.below hb)
      replace hB := below_next hB hb
      have B_l := NB
      clear NB hb hg
      refine hK.out _ _ (by exact B_a.out.c3) (fun hHeld => ?_)
      clear hK K
      try simp only [Act.put, List.setIfInBounds_toArray, List.set_cons_zero, List.set_cons_succ]
      refine wpAnyH_ready (rs := [5, 7]) (by kernel_rfl) (by simp) ?_
      refine AllReadyH.cons (by simp only [List.getElem?_toArray, List.getElem?_cons_succ, List.getElem?_cons_zero]; rfl) (fun K hK => ?_) ?_
      go_simp
      clear hHeld
      refine (lof_any _ _ _ _ _ _ (by exact Z_r.out)).mono ?_
      rintro e w16 ⟨b_n, A_n, n_n, c_n, D_n, e_n, f_n, rfl, h_n, hb⟩
      replace R_a := Lib.hid (R_a.out.below hb)
      replace BW0 := Lib.hid (BW0.out.below hb)
      replace Z_f := Lib.hid (Z_f.out.below hb)
      replace Q_l := Lib.hid (Q_l.out.below hb)
      replace Z_r := Lib.hid (Z_r.out.below hb)
      replace B_a := Lib.hid (B_a.out.below hb)
      replace B_l := Lib.hid (B_l.out.below hb)
      replace hB := below_next hB hb
      clear hb
      have Q_n := Lib.hid h_n
      clear h_n
      go_wp2_with fail
      refine hK.out _ _ (by exact B_a.out.c3) (fun hHeld => ?_)
      clear hK K
      try simp only [Act.put, List.setIfInBounds_toArray, List.set_cons_zero, List.set_cons_succ]
      refine wpAnyH_ready (rs := [7]) (by kernel_rfl) (by simp) ?_
      refine AllReadyH.cons (by simp only [List.getElem?_toArray, List.getElem?_cons_succ, List.getElem?_cons_zero]; rfl) (fun K hK => ?_) AllReadyH.nil
      go_simp
      clear hHeld
      obtain ⟨A17, g_n, hV, hg, NB, hb⟩ := newR w16 (.bool false) (.slice none 0 0) (.slice none 0 0)
      rw [hV, hg]
      clear hV
      have l_n_a : w.heap.size < g_n := hg ▸ B_a.out.lt
      have l_n_l : g_l < g_n := hg ▸ B_l.out.lt
      have l_n_BW0 := hg ▸ BW0.out.size
      replace R_a := Lib.hid (R_a.out.below hb)
      replace BW0 := Lib.hid (BW0.out.below hb)
      replace Z_f := Lib.hid (Z_f.out.below hb)
      replace Q_l := Lib.hid (Q_l.out.below hb)
      replace Z_r := Lib.hid (Z_r.out.below hb)
      replace Q_n := Lib.hid (Q_n.out.below hb)
      replace B_a := Lib.hid (B_a.out.below hb)
      replace B_l := Lib.hid (B_l.out.below hb)
      replace hB := below_next hB hb
      have B_n := NB
      clear NB hb hg
      refine hK.out _ _ (by exact B_a.out.c3) (fun hHeld => ?_)
      clear hK K
      try simp only [Act.put, List.setIfInBounds_toArray, List.set_cons_zero, List.set_cons_succ]
      exact wpAnyH_atQ #[true, true, true, true, true, true, true, true, false, false] (by kernel_rfl) (KEY.out _ _ _ _ _ _ _ ⟨b_l, A_l, n_l, c_l, D_l, e_l, f_l, g_l, b_n, A_n, n_n, c_n, D_n, e_n, f_n, g_n, rfl, rfl, rfl, rfl, by omega, l_l_BW0, l_n_BW0, B_l.out, B_n.out, B_a.out, Q_l.out, Q_n.out, BW0.out, hB⟩)
      refine AllReadyH.cons (by simp only [List.getElem?_toArray, List.getElem?_cons_succ, List.getElem?_cons_zero]; rfl) (fun K hK => ?_) ?_
      go_simp
      clear hHeld
      obtain ⟨A18, g_n, hV, hg, NB, hb⟩ := newR A15 (.bool false) (.slice none 0 0) (.slice none 0 0)
      rw [hV, hg]
      clear hV
      have l_n_a : w.heap.size < g_n := hg ▸ B_a.out.lt
      have l_n_l : g_l < g_n := hg ▸ B_l.out.lt
      have l_n_BW0 := hg ▸ BW0.out.size
      replace R_a := Lib.hid (R_a.out.below hb)
      replace BW0 := Lib.hid (BW0.out.below hb)
      replace Z_f := Lib.hid (Z_f.out.below hb)
      replace Q_l := Lib.hid (Q_l.out.below hb)
      replace Z_r := Lib.hid (Z_r.out.below hb)
      replace B_a := Lib.hid (B_a.out.below hb)
      replace B_l := Lib.hid (B_l.out.below hb)
      replace hB := below_next hB hb
      have B_n := NB
      clear NB hb hg
      refine hK.out _ _ (by exact B_a.out.c3) (fun hHeld => ?_)
      clear hK K
      try simp only [Act.put, List.setIfInBounds_toArray, List.set_cons_zero, List.set_cons_succ]
      refine wpAnyH_ready (rs := [5]) (by kernel_rfl) (by simp) ?_
      refine AllReadyH.cons (by simp only [List.getElem?_toArray, List.getElem?_cons_succ, List.getElem?_cons_zero]; rfl) (fun K hK => ?_) AllReadyH.nil
      go_simp
      clear hHeld
      refine (lof_any _ _ _ _ _ _ (by exact Z_r.out)).mono ?_
      rintro e w19 ⟨b_n, A_n, n_n, c_n, D_n, e_n, f_n, rfl, h_n, hb⟩
      replace R_a := Lib.hid (R_a.out.below hb)
      replace BW0 := Lib.hid (BW0.out.below hb)
      replace Z_f := Lib.hid (Z_f.out.below hb)
      replace Q_l := Lib.hid (Q_l.out.below hb)
      replace Z_r := Lib.hid (Z_r.out.below hb)
      replace B_a := Lib.hid (B_a.out.below hb)
      replace B_l := Lib.hid (B_l.out.below hb)
      replace B_n := Lib.hid (B_n.out.below hb)
      replace hB := below_next hB hb
      clear hb
      have Q_n := Lib.hid h_n
      clear h_n
      go_wp2_with fail
      refine hK.out _ _ (by exact B_a.out.c3) (fun hHeld => ?_)
      clear hK K
      try simp only [Act.put, List.setIfInBounds_toArray, List.set_cons_zero, List.set_cons_succ]
      exact wpAnyH_atQ #[true, true, true, true, true, true, true, true, false, false] (by kernel_rfl) (KEY.out _ _ _ _ _ _ _ ⟨b_l, A_l, n_l, c_l, D_l, e_l, f_l, g_l, b_n, A_n, n_n, c_n, D_n, e_n, f_n, g_n, rfl, rfl, rfl, rfl, by omega, l_l_BW0, l_n_BW0, B_l.out, B_n.out, B_a.out, Q_l.out, Q_n.out, BW0.out, hB⟩)
      exact AllReadyH.nil
      refine AllReadyH.cons (by simp only [List.getElem?_toArray, List.getElem?_cons_succ, List.getElem?_cons_zero]; rfl) (fun K hK => ?_) ?_
      go_simp
      clear hHeld
      obtain ⟨A20, g_n, hV, hg, NB, hb⟩ := newR w9 (.bool false) (.slice none 0 0) (.slice none 0 0)
      rw [hV, hg]
      clear hV
      have l_n_a : w.heap.size < g_n := hg ▸ B_a.out.lt
      have l_n_BW0 := hg ▸ BW0.out.size
      replace R_a := Lib.hid (R_a.out.below hb)
      replace BW0 := Lib.hid (BW0.out.below hb)
      replace Z_f := Lib.hid (Z_f.out.below hb)
      replace Q_l := Lib.hid (Q_l.out.below hb)
      replace Z_r := Lib.hid (Z_r.out.below hb)
      replace B_a := Lib.hid (B_a.out.below hb)
      replace hB := below_next hB hb
      have B_n := NB
      clear NB hb hg
      refine hK.out _ _ (by exact B_a.out.c3) (fun hHeld => ?_)
      clear hK K
      try simp only [Act.put, List.setIfInBounds_toArray, List.set_cons_zero, List.set_cons_succ]
      refine wpAnyH_ready (rs := [5, 6]) (by kernel_rfl) (by simp) ?_
      refine AllReadyH.cons (by simp only [List.getElem?_toArray, List.getElem?_cons_succ, List.getElem?_cons_zero]; rfl) (fun K hK => ?_) ?_
      go_simp
      clear hHeld
      refine (lof_any _ _ _ _ _ _ (by exact Z_r.out)).mono ?_
      rintro e w21 ⟨b_n, A_n, n_n, c_n, D_n, e_n, f_n, rfl, h_n, hb⟩
      replace R_a := Lib.hid (R_a.out.below hb)
      replace BW0 := Lib.hid (BW0.out.below hb)
      replace Z_f := Lib.hid (Z_f.out.below hb)
      replace Q_l := Lib.hid (Q_l.out.below hb)
      replace Z_r := Lib.hid (Z_r.out.below hb)
      replace B_a := Lib.hid (B_a.out.below hb)
      replace B_n := Lib.hid (B_n.out.below hb)
      replace hB := below_next hB hb
      clear hb
      have Q_n := Lib.hid h_n
      clear h_n
      go_wp2_with fail
      refine hK.out _ _ (by exact B_a.out.c3) (fun hHeld => ?_)
      clear hK K
      try simp only [Act.put, List.setIfInBounds_toArray, List.set_cons_zero, List.set_cons_succ]
      refine wpAnyH_ready (rs := [6]) (by kernel_rfl) (by simp) ?_
      refine AllReadyH.cons (by simp only [List.getElem?_toArray, List.getElem?_cons_succ, List.getElem?_cons_zero]; rfl) (fun K hK => ?_) AllReadyH.nil
      go_simp
      clear hHeld
      obtain ⟨A22, g_l, hV, hg, NB, hb⟩ := newR w21 (.bool false) (.slice none 0 0) (.slice none 0 0)
      rw [hV, hg]
      clear hV
      have l_l_a : w.heap.size < g_l := hg ▸ B_a.out.lt
      have l_l_n : g_n < g_l := hg ▸ B_n.out.lt
      have l_l_BW0 := hg ▸ BW0.out.size
      replace R_a := Lib.hid (R_a.out.below hb)
      replace BW0 := Lib.hid (BW0.out.below hb)
      replace Z_f := Lib.hid (Z_f.out.below hb)
      replace Q_l := Lib.hid (Q_l.out.below hb)
      replace Z_r := Lib.hid (Z_r.out.below hb)
      replace Q_n := Lib.hid (Q_n.out.below hb)
      replace B_a := Lib.hid (B_a.out.below hb)
      replace B_n := Lib.hid (B_n.out.below hb)
      replace hB := below_next hB hb
      have B_l := NB
      clear NB hb hg
      refine hK.out _ _ (by exact B_a.out.c3) (fun hHeld => ?_)
      clear hK K
      try simp only [Act.put, List.setIfInBounds_toArray, List.set_cons_zero, List.set_cons_succ]
      exact wpAnyH_atQ #[true, true, true, true, true, true, true, true, false, false] (by kernel_rfl) (KEY.out _ _ _ _ _ _ _ ⟨b_l, A_l, n_l, c_l, D_l, e_l, f_l, g_l, b_n, A_n, n_n, c_n, D_n, e_n, f_n, g_n, rfl, rfl, rfl, rfl, by omega, l_l_BW0, l_n_BW0, B_l.out, B_n.out, B_a.out, Q_l.out, Q_n.out, BW0.out, hB⟩)
      refine AllReadyH.cons (by simp only [List.getElem?_toArray, List.getElem?_cons_succ, List.getElem?_cons_zero]; rfl) (fun K hK => ?_) ?_
      go_simp
      clear hHeld
      obtain ⟨A23, g_l, hV, hg, NB, hb⟩ := newR A20 (.bool false) (.slice none 0 0) (.slice none 0 0)
      rw [hV, hg]
      clear hV
      have l_l_a : w.heap.size < g_l := hg ▸ B_a.out.lt
      have l_l_n : g_n < g_l := hg ▸ B_n.out.lt
      have l_l_BW0 := hg ▸ BW0.out.size
      replace R_a := Lib.hid (R_a.out.below hb)
      replace BW0 := Lib.hid (BW0.out.below hb)
      replace Z_f := Lib.hid (Z_f.out.below hb)
      replace Q_l := Lib.hid (Q_l.out.below hb)
      replace Z_r := Lib.hid (Z_r.out.below hb)
      replace B_a := Lib.hid (B_a.out.below hb)
      replace B_n := Lib.hid (B_n.out.below hb)
      replace hB := below_next hB hb
      have B_l := NB
      clear NB hb hg
      refine hK.out _ _ (by exact B_a.out.c3) (fun hHeld => ?_)
      clear hK K
      try simp only [Act.put, List.setIfInBounds_toArray, List.set_cons_zero, List.set_cons_succ]
      refine wpAnyH_ready (rs := [5]) (by kernel_rfl) (by simp) ?_
      refine AllReadyH.cons (by simp only [List.getElem?_toArray, List.getElem?_cons_succ, List.getElem?_cons_zero]; rfl) (fun K hK => ?_) AllReadyH.nil
      go_simp
      clear hHeld
      refine (lof_any _ _ _ _ _ _ (by exact Z_r.out)).mono ?_
      rintro e w24 ⟨b_n, A_n, n_n, c_n, D_n, e_n, f_n, rfl, h_n, hb⟩
      replace R_a := Lib.hid (R_a.out.below hb)
      replace BW0 := Lib.hid (BW0.out.below hb)
      replace Z_f := Lib.hid (Z_f.out.below hb)
      replace Q_l := Lib.hid (Q_l.out.below hb)
      replace Z_r := Lib.hid (Z_r.out.below hb)
      replace B_a := Lib.hid (B_a.out.below hb)
      replace B_n := Lib.hid (B_n.out.below hb)
      replace B_l := Lib.hid (B_l.out.below hb)
      replace hB := below_next hB hb
      clear hb
      have Q_n := Lib.hid h_n
      clear h_n
      go_wp2_with fail
      refine hK.out _ _ (by exact B_a.out.c3) (fun hHeld => ?_)
      clear hK K
      try simp only [Act.put, List.setIfInBounds_toArray, List.set_cons_zero, List.set_cons_succ]
      exact wpAnyH_atQ #[true, true, true, true, true, true, true, true, false, false] (by kernel_rfl) (KEY.out _ _ _ _ _ _ _ ⟨b_l, A_l, n_l, c_l, D_l, e_l, f_l, g_l, b_n, A_n, n_n, c_n, D_n, e_n, f_n, g_n, rfl, rfl, rfl, rfl, by omega, l_l_BW0, l_n_BW0, B_l.out, B_n.out, B_a.out, Q_l.out, Q_n.out, BW0.out, hB⟩)
      exact AllReadyH.nil
      exact AllReadyH.nil
      refine AllReadyH.cons (by simp only [List.getElem?_toArray, List.getElem?_cons_succ, List.getElem?_cons_zero]; rfl) (fun K hK => ?_) ?_
      go_simp
      clear hHeld
      obtain ⟨A25, g_l, hV, hg, NB, hb⟩ := newR w8 (.bool false) (.slice none 0 0) (.slice none 0 0)
      rw [hV, hg]
      clear hV
      have l_l_a : w.heap.size < g_l := hg ▸ B_a.out.lt
      have l_l_BW0 := hg ▸ BW0.out.size
      replace R_a := Lib.hid (R_a.out.below hb)
      replace BW0 := Lib.hid (BW0.out.below hb)
      replace Z_f := Lib.hid (Z_f.out.below hb)
      replace Q_l := Lib.hid (Q_l.out.below hb)
      replace B_a := Lib.hid (B_a.out.below hb)
      replace hB := below_next hB hb
      have B_l := NB
      clear NB hb hg
      refine hK.out _ _ (by exact B_a.out.c3) (fun hHeld => ?_)
      clear hK K
      try simp only [Act.put, List.setIfInBounds_toArray, List.set_cons_zero, List.set_cons_succ]
      refine wpAnyH_ready (rs := [4, 7]) (by kernel_rfl) (by simp) ?_
      refine AllReadyH.cons (by simp only [List.getElem?_toArray, List.getElem?_cons_succ, List.getElem?_cons_zero]; rfl) (fun K hK => ?_) ?_
      go_simp
      clear hHeld
      refine (qround_any _ _ _ _ 8 _ (by exact R_a.out) (by omega) (by omega)).mono ?_
      rintro e w26 ⟨b_r, A_r, n_r, c_r, rfl, h_r, hb⟩
      replace R_a := Lib.hid (R_a.out.below hb)
      replace BW0 := Lib.hid (BW0.out.below hb)
      replace Z_f := Lib.hid (Z_f.out.below hb)
      replace Q_l := Lib.hid (Q_l.out.below hb)
      replace B_a := Lib.hid (B_a.out.below hb)
      replace B_l := Lib.hid (B_l.out.below hb)
      replace hB := below_next hB hb
      clear hb
      have Z_r := Lib.hid h_r
      clear h_r
      go_wp2_with fail
      refine hK.out _ _ (by exact B_a.out.c3) (fun hHeld => ?_)
      clear hK K
      try simp only [Act.put, List.setIfInBounds_toArray, List.set_cons_zero, List.set_cons_succ]
      refine wpAnyH_ready (rs := [5, 7]) (by kernel_rfl) (by simp) ?_
      refine AllReadyH.cons (by simp only [List.getElem?_toArray, List.getElem?_cons_succ, List.getElem?_cons_zero]; rfl) (fun K hK => ?_) ?_
      go_simp
      clear hHeld
      refine (lof_any _ _ _ _ _ _ (by exact Z_r.out)).mono ?_
      rintro e w27 ⟨b_n, A_n, n_n, c_n, D_n, e_n, f_n, rfl, h_n, hb⟩
      replace R_a := Lib.hid (R_a.out.below hb)
      replace BW0 := Lib.hid (BW0.out.below hb)
      replace Z_f := Lib.hid (Z_f.out.below hb)
      replace Q_l := Lib.hid (Q_l.out.below hb)
      replace Z_r := Lib.hid (Z_r.out.below hb)
      replace B_a := Lib.hid (B_a.out.below hb)
      replace B_l := Lib.hid (B_l.out.below hb)
      replace hB := below_next hB hb
      clear hb
      have Q_n := Lib.hid h_n
      clear h_n
      go_wp2_with fail
      refine hK.out _ _ (by exact B_a.out.c3) (fun hHeld => ?_)
      clear hK K
      try simp only [Act.put, List.setIfInBounds_toArray, List.set_cons_zero, List.set_cons_succ]
      refine wpAnyH_ready (rs := [7]) (by kernel_rfl) (by simp) ?_
      refine AllReadyH.cons (by simp only [List.getElem?_toArray, List.getElem?_cons_succ, List.getElem?_cons_zero]; rfl) (fun K hK => ?_) AllReadyH.nil
      go_simp
      clear hHeld
      obtain ⟨A28, g_n, hV, hg, NB, hb⟩ := newR w27 (.bool false) (.slice none 0 0) (.slice none 0 0)
      rw [hV, hg]
      clear hV
      have l_n_a : w.heap.size < g_n := hg ▸ B_a.out.lt
      have l_n_l : g_l < g_n := hg ▸ B_l.out.lt
      have l_n_BW0 := hg ▸ BW0.out.size
      replace R_a := Lib.hid (R_a.out.below hb)
      replace BW0 := Lib.hid (BW0.out.below hb)
      replace Z_f := Lib.hid (Z_f.out.below hb)
      replace Q_l := Lib.hid (Q_l.out.below hb)
      replace Z_r := Lib.hid (Z_r.out.below hb)
      replace Q_n := Lib.hid (Q_n.out.below hb)
      replace B_a := Lib.hid (B_a.out.below hb)
      replace B_l := Lib.hid (B_l.out.below hb)
      replace hB := below_next hB hb
      have B_n := NB
      clear NB hb hg
      refine hK.out _ _ (by exact B_a.out.c3) (fun hHeld => ?_)
      clear hK K
      try simp only [Act.put, List.setIfInBounds_toArray, List.set_cons_zero, List.set_cons_succ]
      exact wpAnyH_atQ #[true, true, true, true, true, true, true, true, false, false] (by kernel_rfl) (KEY.out _ _ _ _ _ _ _ ⟨b_l, A_l, n_l, c_l, D_l, e_l, f_l, g_l, b_n, A_n, n_n, c_n, D_n, e_n, f_n, g_n, rfl, rfl, rfl, rfl, by omega, l_l_BW0, l_n_BW0, B_l.out, B_n.out, B_a.out, Q_l.out, Q_n.out, BW0.out, hB⟩)
      refine AllReadyH.cons (by simp only [List.getElem?_toArray, List.getElem?_cons_succ, List.getElem?_cons_zero]; rfl) (fun K hK => ?_) ?_
      go_simp
      clear hHeld
      obtain ⟨A29, g_n, hV, hg, NB, hb⟩ := newR w26 (.bool false) (.slice none 0 0) (.slice none 0 0)
      rw [hV, hg]
      clear hV
      have l_n_a : w.heap.size < g_n := hg ▸ B_a.out.lt
      have l_n_l : g_l < g_n := hg ▸ B_l.out.lt
      have l_n_BW0 := hg ▸ BW0.out.size
      replace R_a := Lib.hid (R_a.out.below hb)
      replace BW0 := Lib.hid (BW0.out.below hb)
      replace Z_f := Lib.hid (Z_f.out.below hb)
      replace Q_l := Lib.hid (Q_l.out.below hb)
      replace Z_r := Lib.hid (Z_r.out.below hb)
      replace B_a := Lib.hid (B_a.out.below hb)
      replace B_l := Lib.hid (B_l.out.below hb)
      replace hB := below_next hB hb
      have B_n := NB
      clear NB hb hg
      refine hK.out _ _ (by exact B_a.out.c3) (fun hHeld => ?_)
      clear hK K
      try simp only [Act.put, List.setIfInBounds_toArray, List.set_cons_zero, List.set_cons_succ]
      refine wpAnyH_ready (rs := [5]) (by kernel_rfl) (by simp) ?_
      refine AllReadyH.cons (by simp only [List.getElem?_toArray, List.getElem?_cons_succ, List.getElem?_cons_zero]; rfl) (fun K hK => ?_) AllReadyH.nil
      go_simp
      clear hHeld
      refine (lof_any _ _ _ _ _ _ (by exact Z_r.out)).mono ?_
      rintro e w30 ⟨b_n, A_n, n_n, c_n, D_n, e_n, f_n, rfl, h_n, hb⟩
      replace R_a := Lib.hid (R_a.out.below hb)
      replace BW0 := Lib.hid (BW0.out.below hb)
      replace Z_f := Lib.hid (Z_f.out.below hb)
      replace Q_l := Lib.hid (Q_l.out.below hb)
      replace Z_r := Lib.hid (Z_r.out.below hb)
      replace B_a := Lib.hid (B_a.out.below hb)
      replace B_l := Lib.hid (B_l.out.below hb)
      replace B_n := Lib.hid (B_n.out.below hb)
      replace hB := below_next hB hb
      clear hb
      have Q_n := Lib.hid h_n
      clear h_n
      go_wp2_with fail
      refine hK.out _ _ (by exact B_a.out.c3) (fun hHeld => ?_)
      clear hK K
      try simp only [Act.put, List.setIfInBounds_toArray, List.set_cons_zero, List.set_cons_succ]
      exact wpAnyH_atQ #[true, true, true, true, true, true, true, true, false, false] (by kernel_rfl) (KEY.out _ _ _ _ _ _ _ ⟨b_l, A_l, n_l, c_l, D_l, e_l, f_l, g_l, b_n, A_n, n_n, c_n, D_n, e_n, f_n, g_n, rfl, rfl, rfl, rfl, by omega, l_l_BW0, l_n_BW0, B_l.out, B_n.out, B_a.out, Q_l.out, Q_n.out, BW0.out, hB⟩)
      exact AllReadyH.nil
      refine AllReadyH.cons (by simp only [List.getElem?_toArray, List.getElem?_cons_succ, List.getElem?_cons_zero]; rfl) (fun K hK => ?_) ?_
      go_simp
      clear hHeld
      obtain ⟨A31, g_n, hV, hg, NB, hb⟩ := newR A25 (.bool false) (.slice none 0 0) (.slice none 0 0)
      rw [hV, hg]
      clear hV
      have l_n_a : w.heap.size < g_n := hg ▸ B_a.out.lt
      have l_n_l : g_l < g_n := hg ▸ B_l.out.lt
      have l_n_BW0 := hg ▸ BW0.out.size
      replace R_a := Lib.hid (R_a.out.below hb)
      replace BW0 := Lib.hid (BW0.out.below hb)
      replace Z_f := Lib.hid (Z_f.out.below hb)
      replace Q_l := Lib.hid (Q_l.out.below hb)
      replace B_a := Lib.hid (B_a.out.below hb)
      replace B_l := Lib.hid (B_l.out.below hb)
      replace hB := below_next hB hb
      have B_n := NB
      clear NB hb hg
      refine hK.out _ _ (by exact B_a.out.c3) (fun hHeld => ?_)
      clear hK K
      try simp only [Act.put, List.setIfInBounds_toArray, List.set_cons_zero, List.set_cons_succ]
      refine wpAnyH_ready (rs := [4]) (by kernel_rfl) (by simp) ?_
      refine AllReadyH.cons (by simp only [List.getElem?_toArray, List.getElem?_cons_succ, List.getElem?_cons_zero]; rfl) (fun K hK => ?_) AllReadyH.nil
      go_simp
      clear hHeld
      refine (qround_any _ _ _ _ 8 _ (by exact R_a.out) (by omega) (by omega)).mono ?_
      rintro e w32 ⟨b_r, A_r, n_r, c_r, rfl, h_r, hb⟩
      replace R_a := Lib.hid (R_a.out.below hb)
      replace BW0 := Lib.hid (BW0.out.below hb)
      replace Z_f := Lib.hid (Z_f.out.below hb)
      replace Q_l := Lib.hid (Q_l.out.below hb)
      replace B_a := Lib.hid (B_a.out.below hb)
      replace B_l := Lib.hid (B_l.out.below hb)
      replace B_n := Lib.hid (B_n.out.below hb)
      replace hB := below_next hB hb
      clear hb
      have Z_r := Lib.hid h_r
      clear h_r
      go_wp2_with fail
      refine hK.out _ _ (by exact B_a.out.c3) (fun hHeld => ?_)
      clear hK K
      try simp only [Act.put, List.setIfInBounds_toArray, List.set_cons_zero, List.set_cons_succ]
      refine wpAnyH_ready (rs := [5]) (by kernel_rfl) (by simp) ?_
      refine AllReadyH.cons (by simp only [List.getElem?_toArray, List.getElem?_cons_succ, List.getElem?_cons_zero]; rfl) (fun K hK => ?_) AllReadyH.nil
      go_simp
      clear hHeld
      refine (lof_any _ _ _ _ _ _ (by exact Z_r.out)).mono ?_
      rintro e w33 ⟨b_n, A_n, n_n, c_n, D_n, e_n, f_n, rfl, h_n, hb⟩
      replace R_a := Lib.hid (R_a.out.below hb)
      replace BW0 := Lib.hid (BW0.out.below hb)
      replace Z_f := Lib.hid (Z_f.out.below hb)
      replace Q_l := Lib.hid (Q_l.out.below hb)
      replace Z_r := Lib.hid (Z_r.out.below hb)
      replace B_a := Lib.hid (B_a.out.below hb)
      replace B_l := Lib.hid (B_l.out.below hb)
      replace B_n := Lib.hid (B_n.out.below hb)
      replace hB := below_next hB hb
      clear hb
      have Q_n := Lib.hid h_n
      clear h_n
      go_wp2_with fail
      refine hK.out _ _ (by exact B_a.out.c3) (fun hHeld => ?_)
      clear hK K
      try simp only [Act.put, List.setIfInBounds_toArray, List.set_cons_zero, List.set_cons_succ]
      exact wpAnyH_atQ #[true, true, true, true, true, true, true, true, false, false] (by kernel_rfl) (KEY.out _ _ _ _ _ _ _ ⟨b_l, A_l, n_l, c_l, D_l, e_l, f_l, g_l, b_n, A_n, n_n, c_n, D_n, e_n, f_n, g_n, rfl, rfl, rfl, rfl, by omega, l_l_BW0, l_n_BW0, B_l.out, B_n.out, B_a.out, Q_l.out, Q_n.out, BW0.out, hB⟩)
      exact AllReadyH.nil
      refine AllReadyH.cons (by simp only [List.getElem?_toArray, List.getElem?_cons_succ, List.getElem?_cons_zero]; rfl) (fun K hK => ?_) ?_
      go_simp
      clear hHeld
      obtain ⟨A34, g_n, hV, hg, NB, hb⟩ := newR w8 (.bool false) (.slice none 0 0) (.slice none 0 0)
      rw [hV, hg]
      clear hV
      have l_n_a : w.heap.size < g_n := hg ▸ B_a.out.lt
      have l_n_BW0 := hg ▸ BW0.out.size
      replace R_a := Lib.hid (R_a.out.below hb)
      replace BW0 := Lib.hid (BW0.out.below hb)
      replace Z_f := Lib.hid (Z_f.out.below hb)
      replace Q_l := Lib.hid (Q_l.out.below hb)
      replace B_a := Lib.hid (B_a.out.below hb)
      replace hB := below_next hB hb
      have B_n := NB
      clear NB hb hg
      refine hK.out _ _ (by exact B_a.out.c3) (fun hHeld => ?_)
      clear hK K
      try simp only [Act.put, List.setIfInBounds_toArray, List.set_cons_zero, List.set_cons_succ]
      refine wpAnyH_ready (rs := [4, 6]) (by kernel_rfl) (by simp) ?_
      refine AllReadyH.cons (by simp only [List.getElem?_toArray, List.getElem?_cons_succ, List.getElem?_cons_zero]; rfl) (fun K hK => ?_) ?_
      go_simp
      clear hHeld
      refine (qround_any _ _ _ _ 8 _ (by exact R_a.out) (by omega) (by omega)).mono ?_
      rintro e w35 ⟨b_r, A_r, n_r, c_r, rfl, h_r, hb⟩
      replace R_a := Lib.hid (R_a.out.below hb)
      replace BW0 := Lib.hid (BW0.out.below hb)
      replace Z_f := Lib.hid (Z_f.out.below hb)
      replace Q_l := Lib.hid (Q_l.out.below hb)
      replace B_a := Lib.hid (B_a.out.below hb)
      replace B_n := Lib.hid (B_n.out.below hb)
      replace hB := below_next hB hb
      clear hb
      have Z_r := Lib.hid h_r
      clear h_r
      go_wp2_with fail
      refine hK.out _ _ (by exact B_a.out.c3) (fun hHeld => ?_)
      clear hK K
      try simp only [Act.put, List.setIfInBounds_toArray, List.set_cons_zero, List.set_cons_succ]
      refine wpAnyH_ready (rs := [5, 6]) (by kernel_rfl) (by simp) ?_
      refine AllReadyH.cons (by simp only [List.getElem?_toArray, List.getElem?_cons_succ, List.getElem?_cons_zero]; rfl) (fun K hK => ?_) ?_
      go_simp
      clear hHeld
      refine (lof_any _ _ _ _ _ _ (by exact Z_r.out)).mono ?_
      rintro e w36 ⟨b_n, A_n, n_n, c_n, D_n, e_n, f_n, rfl, h_n, hb⟩
      replace R_a := Lib.hid (R_a.out.below hb)
      replace BW0 := Lib.hid (BW0.out.below hb)
      replace Z_f := Lib.hid (Z_f.out.below hb)
      replace Q_l := Lib.hid (Q_l.out.below hb)
      replace Z_r := Lib.hid (Z_r.out.below hb)
      replace B_a := Lib.hid (B_a.out.below hb)
      replace B_n := Lib.hid (B_n.out.below hb)
      replace hB := below_next hB hb
      clear hb
      have Q_n := Lib.hid h_n
      clear h_n
      go_wp2_with fail
      refine hK.out _ _ (by exact B_a.out.c3) (fun hHeld => ?_)
      clear hK K
      try simp only [Act.put, List.setIfInBounds_toArray, List.set_cons_zero, List.set_cons_succ]
      refine wpAnyH_ready (rs := [6]) (by kernel_rfl) (by simp) ?_
      refine AllReadyH.cons (by simp only [List.getElem?_toArray, List.getElem?_cons_succ, List.getElem?_cons_zero]; rfl) (fun K hK => ?_) AllReadyH.nil
      go_simp
      clear hHeld
      obtain ⟨A37, g_l, hV, hg, NB, hb⟩ := newR w36 (.bool false) (.slice none 0 0) (.slice none 0 0)
      rw [hV, hg]
      clear hV
      have l_l_a : w.heap.size < g_l := hg ▸ B_a.out.lt
      have l_l_n : g_n < g_l := hg ▸ B_n.out.lt
      have l_l_BW0 := hg ▸ BW0.out.size
      replace R_a := Lib.hid (R_a.out.below hb)
      replace BW0 := Lib.hid (BW0.out.below hb)
      replace Z_f := Lib.hid (Z_f.out.below hb)
      replace Q_l := Lib.hid (Q_l.out.below hb)
      replace Z_r := Lib.hid (Z_r.out.below hb)
      replace Q_n := Lib.hid (Q_n.out.below hb)
      replace B_a := Lib.hid (B_a.out.below hb)
      replace B_n := Lib.hid (B_n.out.below hb)
      replace hB := below_next hB hb
      have B_l := NB
      clear NB hb hg
      refine hK.out _ _ (by exact B_a.out.c3) (fun hHeld => ?_)
      clear hK K
      try simp only [Act.put, List.setIfInBounds_toArray, List.set_cons_zero, List.set_cons_succ]
      exact wpAnyH_atQ #[true, true, true, true, true, true, true, true, false, false] (by kernel_rfl) (KEY.out _ _ _ _ _ _ _ ⟨b_l, A_l, n_l, c_l, D_l, e_l, f_l, g_l, b_n, A_n, n_n, c_n, D_n, e_n, f_n, g_n, rfl, rfl, rfl, rfl, by omega, l_l_BW0, l_n_BW0, B_l.out, B_n.out, B_a.out, Q_l.out, Q_n.out, BW0.out, hB⟩)
      refine AllReadyH.cons (by simp only [List.getElem?_toArray, List.getElem?_cons_succ, List.getElem?_cons_zero]; rfl) (fun K hK => ?_) ?_
      go_simp
      clear hHeld
      obtain ⟨A38, g_l, hV, hg, NB, hb⟩ := newR w35 (.bool false) (.slice none 0 0) (.slice none 0 0)
      rw [hV, hg]
      clear hV
      have l_l_a : w.heap.size < g_l := hg ▸ B_a.out.lt
      have l_l_n : g_n < g_l := hg ▸ B_n.out.lt
      have l_l_BW0 := hg ▸ BW0.out.size
      replace R_a := Lib.hid (R_a.out.below hb)
      replace BW0 := Lib.hid (BW0.out.below hb)
      replace Z_f := Lib.hid (Z_f.out.below hb)
      replace Q_l := Lib.hid (Q_l.out.below hb)
      replace Z_r := Lib.hid (Z_r.out.below hb)
      replace B_a := Lib.hid (B_a.out.below hb)
      replace B_n := Lib.hid (B_n.out.below hb)
      replace hB := below_next hB hb
      have B_l := NB
      clear NB hb hg
      refine hK.out _ _ (by exact B_a.out.c3) (fun hHeld => ?_)
      clear hK K
      try simp only [Act.put, List.setIfInBounds_toArray, List.set_cons_zero, List.set_cons_succ]
      refine wpAnyH_ready (rs := [5]) (by kernel_rfl) (by simp) ?_
      refine AllReadyH.cons (by simp only [List.getElem?_toArray, List.getElem?_cons_succ, List.getElem?_cons_zero]; rfl) (fun K hK => ?_) AllReadyH.nil
      go_simp
      clear hHeld
      refine (lof_any _ _ _ _ _ _ (by exact Z_r.out)).mono ?_
      rintro e w39 ⟨b_n, A_n, n_n, c_n, D_n, e_n, f_n, rfl, h_n, hb⟩
      replace R_a := Lib.hid (R_a.out.below hb)
      replace BW0 := Lib.hid (BW0.out.below hb)
      replace Z_f := Lib.hid (Z_f.out.below hb)
      replace Q_l := Lib.hid (Q_l.out.below hb)
      replace Z_r := Lib.hid (Z_r.out.below hb)
      replace B_a := Lib.hid (B_a.out.below hb)
      replace B_n := Lib.hid (B_n.out.below hb)
      replace B_l := Lib.hid (B_l.out.below hb)
      replace hB := below_next hB hb
      clear hb
      have Q_n := Lib.hid h_n
      clear h_n
      go_wp2_with fail
      refine hK.out _ _ (by exact B_a.out.c3) (fun hHeld => ?_)
      clear hK K
      try simp only [Act.put, List.setIfInBounds_toArray, List.set_cons_zero, List.set_cons_succ]
      exact wpAnyH_atQ #[true, true, true, true, true, true, true, true, false, false] (by kernel_rfl) (KEY.out _ _ _ _ _ _ _ ⟨b_l, A_l, n_l, c_l, D_l, e_l, f_l, g_l, b_n, A_n, n_n, c_n, D_n, e_n, f_n, g_n, rfl, rfl, rfl, rfl, by omega, l_l_BW0, l_n_BW0, B_l.out, B_n.out, B_a.out, Q_l.out, Q_n.out, BW0.out, hB⟩)
      exact AllReadyH.nil
      refine AllReadyH.cons (by simp only [List.getElem?_toArray, List.getElem?_cons_succ, List.getElem?_cons_zero]; rfl) (fun K hK => ?_) ?_
      go_simp
      clear hHeld
      obtain ⟨A40, g_l, hV, hg, NB, hb⟩ := newR A34 (.bool false) (.slice none 0 0) (.slice none 0 0)
      rw [hV, hg]
      clear hV
      have l_l_a : w.heap.size < g_l := hg ▸ B_a.out.lt
      have l_l_n : g_n < g_l := hg ▸ B_n.out.lt
      have l_l_BW0 := hg ▸ BW0.out.size
      replace R_a := Lib.hid (R_a.out.below hb)
      replace BW0 := Lib.hid (BW0.out.below hb)
      replace Z_f := Lib.hid (Z_f.out.below hb)
      replace Q_l := Lib.hid (Q_l.out.below hb)
      replace B_a := Lib.hid (B_a.out.below hb)
      replace B_n := Lib.hid (B_n.out.below hb)
      replace hB := below_next hB hb
      have B_l := NB
      clear NB hb hg
      refine hK.out _ _ (by exact B_a.out.c3) (fun hHeld => ?_)
      clear hK K
      try simp only [Act.put, List.setIfInBounds_toArray, List.set_cons_zero, List.set_cons_succ]
      refine wpAnyH_ready (rs := [4]) (by kernel_rfl) (by simp) ?_
      refine AllReadyH.cons (by simp only [List.getElem?_toArray, List.getElem?_cons_succ, List.getElem?_cons_zero]; rfl) (fun K hK => ?_) AllReadyH.nil
      go_simp
      clear hHeld
      refine (qround_any _ _ _ _ 8 _ (by exact R_a.out) (by omega) (by omega)).mono ?_
      rintro e w41 ⟨b_r, A_r, n_r, c_r, rfl, h_r, hb⟩
      replace R_a := Lib.hid (R_a.out.below hb)
      replace BW0 := Lib.hid (BW0.out.below hb)
      replace Z_f := Lib.hid (Z_f.out.below hb)
      replace Q_l := Lib.hid (Q_l.out.below hb)
      replace B_a := Lib.hid (B_a.out.below hb)
      replace B_n := Lib.hid (B_n.out.below hb)
      replace B_l := Lib.hid (B_l.out.below hb)
      replace hB := below_next hB hb
      clear hb
      have Z_r := Lib.hid h_r
      clear h_r
      go_wp2_with fail
      refine hK.out _ _ (by exact B_a.out.c3) (fun hHeld => ?_)
      clear hK K
      try simp only [Act.put, List.setIfInBounds_toArray, List.set_cons_zero, List.set_cons_succ]
      refine wpAnyH_ready (rs := [5]) (by kernel_rfl) (by simp) ?_
      refine AllReadyH.cons (by simp only [List.getElem?_toArray, List.getElem?_cons_succ, List.getElem?_cons_zero]; rfl) (fun K hK => ?_) AllReadyH.nil
      go_simp
      clear hHeld
      refine (lof_any _ _ _ _ _ _ (by exact Z_r.out)).mono ?_
      rintro e w42 ⟨b_n, A_n, n_n, c_n, D_n, e_n, f_n, rfl, h_n, hb⟩
      replace R_a := Lib.hid (R_a.out.below hb)
      replace BW0 := Lib.hid (BW0.out.below hb)
      replace Z_f := Lib.hid (Z_f.out.below hb)
      replace Q_l := Lib.hid (Q_l.out.below hb)
      replace Z_r := Lib.hid (Z_r.out.below hb)
      replace B_a := Lib.hid (B_a.out.below hb)
      replace B_n := Lib.hid (B_n.out.below hb)
      replace B_l := Lib.hid (B_l.out.below hb)
      replace hB := below_next hB hb
      clear hb
      have Q_n := Lib.hid h_n
      clear h_n
      go_wp2_with fail
      refine hK.out _ _ (by exact B_a.out.c3) (fun hHeld => ?_)
      clear hK K
      try simp only [Act.put, List.setIfInBounds_toArray, List.set_cons_zero, List.set_cons_succ]
      exact wpAnyH_atQ #[true, true, true, true, true, true, true, true, false, false] (by kernel_rfl) (KEY.out _ _ _ _ _ _ _ ⟨b_l, A_l, n_l, c_l, D_l, e_l, f_l, g_l, b_n, A_n, n_n, c_n, D_n, e_n, f_n, g_n, rfl, rfl, rfl, rfl, by omega, l_l_BW0, l_n_BW0, B_l.out, B_n.out, B_a.out, Q_l.out, Q_n.out, BW0.out, hB⟩)
      exact AllReadyH.nil
      exact AllReadyH.nil
      refine AllReadyH.cons (by simp only [List.getElem?_toArray, List.getElem?_cons_succ, List.getElem?_cons_zero]; rfl) (fun K hK => ?_) ?_
      go_simp
      clear hHeld
      obtain ⟨A43, g_l, hV, hg, NB, hb⟩ := newR w7 (.bool false) (.slice none 0 0) (.slice none 0 0)
      rw [hV, hg]
      clear hV
      have l_l_a : w.heap.size < g_l := hg ▸ B_a.out.lt
      have l_l_BW0 := hg ▸ BW0.out.size
      replace R_a := Lib.hid (R_a.out.below hb)
      replace BW0 := Lib.hid (BW0.out.below hb)
      replace Z_f := Lib.hid (Z_f.out.below hb)
      replace B_a := Lib.hid (B_a.out.below hb)
      replace hB := below_next hB hb
      have B_l := NB
      clear NB hb hg
      refine hK.out _ _ (by exact B_a.out.c3) (fun hHeld => ?_)
      clear hK K
      try simp only [Act.put, List.setIfInBounds_toArray, List.set_cons_zero, List.set_cons_succ]
      refine wpAnyH_ready (rs := [2, 7]) (by kernel_rfl) (by simp) ?_
      refine AllReadyH.cons (by simp only [List.getElem?_toArray, List.getElem?_cons_succ, List.getElem?_cons_zero]; rfl) (fun K hK => ?_) ?_
      go_simp
      clear hHeld
      refine (lof_any _ _ _ _ _ _ (by exact Z_f.out)).mono ?_
      rintro e w44 ⟨b_l, A_l, n_l, c_l, D_l, e_l, f_l, rfl, h_l, hb⟩
      replace R_a := Lib.hid (R_a.out.below hb)
      replace BW0 := Lib.hid (BW0.out.below hb)
      replace Z_f := Lib.hid (Z_f.out.below hb)
      replace B_a := Lib.hid (B_a.out.below hb)
      replace B_l := Lib.hid (B_l.out.below hb)
      replace hB := below_next hB hb
      clear hb
      have Q_l := Lib.hid h_l
      clear h_l
      go_wp2_with fail
      refine hK.out _ _ (by exact B_a.out.c3) (fun hHeld => ?_)
      clear hK K
      try simp only [Act.put, List.setIfInBounds_toArray, List.set_cons_zero, List.set_cons_succ]
      refine wpAnyH_ready (rs := [4, 7]) (by kernel_rfl) (by simp) ?_
      refine AllReadyH.cons (by simp only [List.getElem?_toArray, List.getElem?_cons_succ, List.getElem?_cons_zero]; rfl) (fun K hK => ?_) ?_
      go_simp
      clear hHeld
      refine (qround_any _ _ _ _ 8 _ (by exact R_a.out) (by omega) (by omega)).mono ?_
      rintro e w45 ⟨b_r, A_r, n_r, c_r, rfl, h_r, hb⟩
      replace R_a := Lib.hid (R_a.out.below hb)
      replace BW0 := Lib.hid (BW0.out.below hb)
      replace Z_f := Lib.hid (Z_f.out.below hb)
      replace Q_l := Lib.hid (Q_l.out.below hb)
      replace B_a := Lib.hid (B_a.out.below hb)
      replace B_l := Lib.hid (B_l.out.below hb)
      replace hB := below_next hB hb
      clear hb
      have Z_r := Lib.hid h_r
      clear h_r
      go_wp2_with fail
      refine hK.out _ _ (by exact B_a.out.c3) (fun hHeld => ?_)
      clear hK K
      try simp only [Act.put, List.setIfInBounds_toArray, List.set_cons_zero, List.set_cons_succ]
      refine wpAnyH_ready (rs := [5, 7]) (by kernel_rfl) (by simp) ?_
      refine AllReadyH.cons (by simp only [List.getElem?_toArray, List.getElem?_cons_succ, List.getElem?_cons_zero]; rfl) (fun K hK => ?_) ?_
      go_simp
      clear hHeld
      refine (lof_any _ _ _ _ _ _ (by exact Z_r.out)).mono ?_
      rintro e w46 ⟨b_n, A_n, n_n, c_n, D_n, e_n, f_n, rfl, h_n, hb⟩
      replace R_a := Lib.hid (R_a.out.below hb)
      replace BW0 := Lib.hid (BW0.out.below hb)
      replace Z_f := Lib.hid (Z_f.out.below hb)
      replace Q_l := Lib.hid (Q_l.out.below hb)
      replace Z_r := Lib.hid (Z_r.out.below hb)
      replace B_a := Lib.hid (B_a.out.below hb)
      replace B_l := Lib.hid (B_l.out.below hb)
      replace hB := below_next hB hb
      clear hb
      have Q_n := Lib.hid h_n
      clear h_n
      go_wp2_with fail
      refine hK.out _ _ (by exact B_a.out.c3) (fun hHeld => ?_)
      clear hK K
      try simp only [Act.put, List.setIfInBounds_toArray, List.set_cons_zero, List.set_cons_succ]
      refine wpAnyH_ready (rs := [7]) (by kernel_rfl) (by simp) ?_
      refine AllReadyH.cons (by simp only [List.getElem?_toArray, List.getElem?_cons_succ, List.getElem?_cons_zero]; rfl) (fun K hK => ?_) AllReadyH.nil
      go_simp
      clear hHeld
      obtain ⟨A47, g_n, hV, hg, NB, hb⟩ := newR w46 (.bool false) (.slice none 0 0) (.slice none 0 0)
      rw [hV, hg]
      clear hV
      have l_n_a : w.heap.size < g_n := hg ▸ B_a.out.lt
      have l_n_l : g_l < g_n := hg ▸ B_l.out.lt
      have l_n_BW0 := hg ▸ BW0.out.size
      replace R_a := Lib.hid (R_a.out.below hb)
      replace BW0 := Lib.hid (BW0.out.below hb)
      replace Z_f := Lib.hid (Z_f.out.below hb)
      replace Q_l := Lib.hid (Q_l.out.below hb)
      replace Z_r := Lib.hid (Z_r.out.below hb)
      replace Q_n := Lib.hid (Q_n.out.below hb)
      replace B_a := Lib.hid (B_a.out.below hb)
      replace B_l := Lib.hid (B_l.out.below hb)
      replace hB := below_next hB hb
      have B_n := NB
      clear NB hb hg
      refine hK.out _ _ (by exact B_a.out.c3) (fun hHeld => ?_)
      clear hK K
      try simp only [Act.put, List.setIfInBounds_toArray, List.set_cons_zero, List.set_cons_succ]
      exact wpAnyH_atQ #[true, true, true, true, true, true, true, true, false, false] (by kernel_rfl) (KEY.out _ _ _ _ _ _ _ ⟨b_l, A_l, n_l, c_l, D_l, e_l, f_l, g_l, b_n, A_n, n_n, c_n, D_n, e_n, f_n, g_n, rfl, rfl, rfl, rfl, by omega, l_l_BW0, l_n_BW0, B_l.out, B_n.out, B_a.out, Q_l.out, Q_n.out, BW0.out, hB⟩)
      refine AllReadyH.cons (by simp only [List.getElem?_toArray, List.getElem?_cons_succ, List.getElem?_cons_zero]; rfl) (fun K hK => ?_) ?_
      go_simp
      clear hHeld
      obtain ⟨A48, g_n, hV, hg, NB, hb⟩ := newR w45 (.bool false) (.slice none 0 0) (.slice none 0 0)
      rw [hV, hg]
      clear hV
      have l_n_a : w.heap.size < g_n := hg ▸ B_a.out.lt
      have l_n_l : g_l < g_n := hg ▸ B_l.out.lt
      have l_n_BW0 := hg ▸ BW0.out.size
      replace R_a := Lib.hid (R_a.out.below hb)
      replace BW0 := Lib.hid (BW0.out.below hb)
      replace Z_f := Lib.hid (Z_f.out.below hb)
      replace Q_l := Lib.hid (Q_l.out.below hb)
      replace Z_r := Lib.hid (Z_r.out.below hb)
      replace B_a := Lib.hid (B_a.out.below hb)
      replace B_l := Lib.hid (B_l.out.below hb)
      replace hB := below_next hB hb
      have B_n := NB
      clear NB hb hg
      refine hK.out _ _ (by exact B_a.out.c3) (fun hHeld => ?_)
      clear hK K
      try simp only [Act.put, List.setIfInBounds_toArray, List.set_cons_zero, List.set_cons_succ]
      refine wpAnyH_ready (rs := [5]) (by kernel_rfl) (by simp) ?_
      refine AllReadyH.cons (by simp only [List.getElem?_toArray, List.getElem?_cons_succ, List.getElem?_cons_zero]; rfl) (fun K hK => ?_) AllReadyH.nil
      go_simp
      clear hHeld
      refine (lof_any _ _ _ _ _ _ (by exact Z_r.out)).mono ?_
      rintro e w49 ⟨b_n, A_n, n_n, c_n, D_n, e_n, f_n, rfl, h_n, hb⟩
      replace R_a := Lib.hid (R_a.out.below hb)
      replace BW0 := Lib.hid (BW0.out.below hb)
      replace Z_f := Lib.hid (Z_f.out.below hb)
      replace Q_l := Lib.hid (Q_l.out.below hb)
      replace Z_r := Lib.hid (Z_r.out.below hb)
      replace B_a := Lib.hid (B_a.out.below hb)
      replace B_l := Lib.hid (B_l.out.below hb)
      replace B_n := Lib.hid (B_n.out.below hb)
      replace hB := below_next hB hb
      clear hb
      have Q_n := Lib.hid h_n
      clear h_n
      go_wp2_with fail
      refine hK.out _ _ (by exact B_a.out.c3) (fun hHeld => ?_)
      clear hK K
      try simp only [Act.put, List.setIfInBounds_toArray, List.set_cons_zero, List.set_cons_succ]
      exact wpAnyH_atQ #[true, true, true, true, true, true, true, true, false, false] (by kernel_rfl) (KEY.out _ _ _ _ _ _ _ ⟨b_l, A_l, n_l, c_l, D_l, e_l, f_l, g_l, b_n, A_n, n_n, c_n, D_n, e_n, f_n, g_n, rfl, rfl, rfl, rfl, by omega, l_l_BW0, l_n_BW0, B_l.out, B_n.out, B_a.out, Q_l.out, Q_n.out, BW0.out, hB⟩)
      exact AllReadyH.nil
      refine AllReadyH.cons (by simp only [List.getElem?_toArray, List.getElem?_cons_succ, List.getElem?_cons_zero]; rfl) (fun K hK => ?_) ?_
      go_simp
      clear hHeld
      obtain ⟨A50, g_n, hV, hg, NB, hb⟩ := newR w44 (.bool false) (.slice none 0 0) (.slice none 0 0)
      rw [hV, hg]
      clear hV
      have l_n_a : w.heap.size < g_n := hg ▸ B_a.out.lt
      have l_n_l : g_l < g_n := hg ▸ B_l.out.lt
      have l_n_BW0 := hg ▸ BW0.out.size
      replace R_a := Lib.hid (R_a.out.below hb)
      replace BW0 := Lib.hid (BW0.out.below hb)
      replace Z_f := Lib.hid (Z_f.out.below hb)
      replace Q_l := Lib.hid (Q_l.out.below hb)
      replace B_a := Lib.hid (B_a.out.below hb)
      replace B_l := Lib.hid (B_l.out.below hb)
      replace hB := below_next hB hb
      have B_n := NB
      clear NB hb hg
      refine hK.out _ _ (by exact B_a.out.c3) (fun hHeld => ?_)
      clear hK K
      try simp only [Act.put, List.setIfInBounds_toArray, List.set_cons_zero, List.set_cons_succ]
      refine wpAnyH_ready (rs := [4]) (by kernel_rfl) (by simp) ?_
      refine AllReadyH.cons (by simp only [List.getElem?_toArray, List.getElem?_cons_succ, List.getElem?_cons_zero]; rfl) (fun K hK => ?_) AllReadyH.nil
      go_simp
      clear hHeld
      refine (qround_any _ _ _ _ 8 _ (by exact R_a.out) (by omega) (by omega)).mono ?_
      rintro e w51 ⟨b_r, A_r, n_r, c_r, rfl, h_r, hb⟩
      replace R_a := Lib.hid (R_a.out.below hb)
      replace BW0 := Lib.hid (BW0.out.below hb)
      replace Z_f := Lib.hid (Z_f.out.below hb)
      replace Q_l := Lib.hid (Q_l.out.below hb)
      replace B_a := Lib.hid (B_a.out.below hb)
      replace B_l := Lib.hid (B_l.out.below hb)
      replace B_n := Lib.hid (B_n.out.below hb)
      replace hB := below_next hB hb
      clear hb
      have Z_r := Lib.hid h_r
      clear h_r
      go_wp2_with fail
      refine hK.out _ _ (by exact B_a.out.c3) (fun hHeld => ?_)
      clear hK K
      try simp only [Act.put, List.setIfInBounds_toArray, List.set_cons_zero, List.set_cons_succ]
      refine wpAnyH_ready (rs := [5]) (by kernel_rfl) (by simp) ?_
      refine AllReadyH.cons (by simp only [List.getElem?_toArray, List.getElem?_cons_succ, List.getElem?_cons_zero]; rfl) (fun K hK => ?_) AllReadyH.nil
      go_simp
      clear hHeld
      refine (lof_any _ _ _ _ _ _ (by exact Z_r.out)).mono ?_
      rintro e w52 ⟨b_n, A_n, n_n, c_n, D_n, e_n, f_n, rfl, h_n, hb⟩
      replace R_a := Lib.hid (R_a.out.below hb)
      replace BW0 := Lib.hid (BW0.out.below hb)
      replace Z_f := Lib.hid (Z_f.out.below hb)
      replace Q_l := Lib.hid (Q_l.out.below hb)
      replace Z_r := Lib.hid (Z_r.out.below hb)
      replace B_a := Lib.hid (B_a.out.below hb)
      replace B_l := Lib.hid (B_l.out.below hb)
      replace B_n := Lib.hid (B_n.out.below hb)
      replace hB := below_next hB hb
      clear hb
      have Q_n := Lib.hid h_n
      clear h_n
      go_wp2_with fail
      refine hK.out _ _ (by exact B_a.out.c3) (fun hHeld => ?_)
      clear hK K
      try simp only [Act.put, List.setIfInBounds_toArray, List.set_cons_zero, List.set_cons_succ]
      exact wpAnyH_atQ #[true, true, true, true, true, true, true, true, false, false] (by kernel_rfl) (KEY.out _ _ _ _ _ _ _ ⟨b_l, A_l, n_l, c_l, D_l, e_l, f_l, g_l, b_n, A_n, n_n, c_n, D_n, e_n, f_n, g_n, rfl, rfl, rfl, rfl, by omega, l_l_BW0, l_n_BW0, B_l.out, B_n.out, B_a.out, Q_l.out, Q_n.out, BW0.out, hB⟩)
      exact AllReadyH.nil
      refine AllReadyH.cons (by simp only [List.getElem?_toArray, List.getElem?_cons_succ, List.getElem?_cons_zero]; rfl) (fun K hK => ?_) ?_
      go_simp
      clear hHeld
      obtain ⟨A53, g_n, hV, hg, NB, hb⟩ := newR A43 (.bool false) (.slice none 0 0) (.slice none 0 0)
      rw [hV, hg]
      clear hV
      have l_n_a : w.heap.size < g_n := hg ▸ B_a.out.lt
      have l_n_l : g_l < g_n := hg ▸ B_l.out.lt
      have l_n_BW0 := hg ▸ BW0.out.size
      replace R_a := Lib.hid (R_a.out.below hb)
      replace BW0 := Lib.hid (BW0.out.below hb)
      replace Z_f := Lib.hid (Z_f.out.below hb)
      replace B_a := Lib.hid (B_a.out.below hb)
      replace B_l := Lib.hid (B_l.out.below hb)
      replace hB := below_next hB hb
      have B_n := NB
      clear NB hb hg
      refine hK.out _ _ (by exact B_a.out.c3) (fun hHeld => ?_)
      clear hK K
      try simp only [Act.put, List.setIfInBounds_toArray, List.set_cons_zero, List.set_cons_succ]
      refine wpAnyH_ready (rs := [2]) (by kernel_rfl) (by simp) ?_
      refine AllReadyH.cons (by simp only [List.getElem?_toArray, List.getElem?_cons_succ, List.getElem?_cons_zero]; rfl) (fun K hK => ?_) AllReadyH.nil
      go_simp
      clear hHeld
      refine (lof_any _ _ _ _ _ _ (by exact Z_f.out)).mono ?_
      rintro e w54 ⟨b_l, A_l, n_l, c_l, D_l, e_l, f_l, rfl, h_l, hb⟩
      replace R_a := Lib.hid (R_a.out.below hb)
      replace BW0 := Lib.hid (BW0.out.below hb)
      replace Z_f := Lib.hid (Z_f.out.below hb)
      replace B_a := Lib.hid (B_a.out.below hb)
      replace B_l := Lib.hid (B_l.out.below hb)
      replace B_n := Lib.hid (B_n.out.below hb)
      replace hB := below_next hB hb
      clear hb
      have Q_l := Lib.hid h_l
      clear h_l
      go_wp2_with fail
      refine hK.out _ _ (by exact B_a.out.c3) (fun hHeld => ?_)
      clear hK K
      try simp only [Act.put, List.setIfInBounds_toArray, List.set_cons_zero, List.set_cons_succ]
      refine wpAnyH_ready (rs := [4]) (by kernel_rfl) (by simp) ?_
      refine AllReadyH.cons (by simp only [List.getElem?_toArray, List.getElem?_cons_succ, List.getElem?_cons_zero]; rfl) (fun K hK => ?_) AllReadyH.nil
      go_simp
      clear hHeld
      refine (qround_any _ _ _ _ 8 _ (by exact R_a.out) (by omega) (by omega)).mono ?_
      rintro e w55 ⟨b_r, A_r, n_r, c_r, rfl, h_r, hb⟩
      replace R_a := Lib.hid (R_a.out.below hb)
      replace BW0 := Lib.hid (BW0.out.below hb)
      replace Z_f := Lib.hid (Z_f.out.below hb)
      replace Q_l := Lib.hid (Q_l.out.below hb)
      replace B_a := Lib.hid (B_a.out.below hb)
      replace B_l := Lib.hid (B_l.out.below hb)
      replace B_n := Lib.hid (B_n.out.below hb)
      replace hB := below_next hB hb
      clear hb
      have Z_r := Lib.hid h_r
      clear h_r
      go_wp2_with fail
      refine hK.out _ _ (by exact B_a.out.c3) (fun hHeld => ?_)
      clear hK K
      try simp only [Act.put, List.setIfInBounds_toArray, List.set_cons_zero, List.set_cons_succ]
      refine wpAnyH_ready (rs := [5]) (by kernel_rfl) (by simp) ?_
      refine AllReadyH.cons (by simp only [List.getElem?_toArray, List.getElem?_cons_succ, List.getElem?_cons_zero]; rfl) (fun K hK => ?_) AllReadyH.nil
      go_simp
      clear hHeld
      refine (lof_any _ _ _ _ _ _ (by exact Z_r.out)).mono ?_
      rintro e w56 ⟨b_n, A_n, n_n, c_n, D_n, e_n, f_n, rfl, h_n, hb⟩
      replace R_a := Lib.hid (R_a.out.below hb)
      replace BW0 := Lib.hid (BW0.out.below hb)
      replace Z_f := Lib.hid (Z_f.out.below hb)
      replace Q_l := Lib.hid (Q_l.out.below hb)
      replace Z_r := Lib.hid (Z_r.out.below hb)
      replace B_a := Lib.hid (B_a.out.below hb)
      replace B_l := Lib.hid (B_l.out.below hb)
      replace B_n := Lib.hid (B_n.out.below hb)
      replace hB := below_next hB hb
      clear hb
      have Q_n := Lib.hid h_n
      clear h_n
      go_wp2_with fail
      refine hK.out _ _ (by exact B_a.out.c3) (fun hHeld => ?_)
      clear hK K
      try simp only [Act.put, List.setIfInBounds_toArray, List.set_cons_zero, List.set_cons_succ]
      exact wpAnyH_atQ #[true, true, true, true, true, true, true, true, false, false] (by kernel_rfl) (KEY.out _ _ _ _ _ _ _ ⟨b_l, A_l, n_l, c_l, D_l, e_l, f_l, g_l, b_n, A_n, n_n, c_n, D_n, e_n, f_n, g_n, rfl, rfl, rfl, rfl, by omega, l_l_BW0, l_n_BW0, B_l.out, B_n.out, B_a.out, Q_l.out, Q_n.out, BW0.out, hB⟩)
      exact AllReadyH.nil
      refine AllReadyH.cons (by simp only [List.getElem?_toArray, List.getElem?_cons_succ, List.getElem?_cons_zero]; rfl) (fun K hK => ?_) ?_
      go_simp
      clear hHeld
      obtain ⟨A57, g_n, hV, hg, NB, hb⟩ := newR w7 (.bool false) (.slice none 0 0) (.slice none 0 0)
      rw [hV, hg]
      clear hV
      have l_n_a : w.heap.size < g_n := hg ▸ B_a.out.lt
      have l_n_BW0 := hg ▸ BW0.out.size
      replace R_a := Lib.hid (R_a.out.below hb)
      replace BW0 := Lib.hid (BW0.out.below hb)
      replace Z_f := Lib.hid (Z_f.out.below hb)
      replace B_a := Lib.hid (B_a.out.below hb)
      replace hB := below_next hB hb
      have B_n := NB
      clear NB hb hg
      refine hK.out _ _ (by exact B_a.out.c3) (fun hHeld => ?_)
      clear hK K
      try simp only [Act.put, List.setIfInBounds_toArray, List.set_cons_zero, List.set_cons_succ]
      refine wpAnyH_ready (rs := [2, 6]) (by kernel_rfl) (by simp) ?_
      refine AllReadyH.cons (by simp only [List.getElem?_toArray, List.getElem?_cons_succ, List.getElem?_cons_zero]; rfl) (fun K hK => ?_) ?_
      go_simp
      clear hHeld
      refine (lof_any _ _ _ _ _ _ (by exact Z_f.out)).mono ?_
      rintro e w58 ⟨b_l, A_l, n_l, c_l, D_l, e_l, f_l, rfl, h_l, hb⟩
      replace R_a := Lib.hid (R_a.out.below hb)
      replace BW0 := Lib.hid (BW0.out.below hb)
      replace Z_f := Lib.hid (Z_f.out.below hb)
      replace B_a := Lib.hid (B_a.out.below hb)
      replace B_n := Lib.hid (B_n.out.below hb)
      replace hB := below_next hB hb
      clear hb
      have Q_l := Lib.hid h_l
      clear h_l
      go_wp2_with fail
      refine hK.out _ _ (by exact B_a.out.c3) (fun hHeld => ?_)
      clear hK K
      try simp only [Act.put, List.setIfInBounds_toArray, List.set_cons_zero, List.set_cons_succ]
      refine wpAnyH_ready (rs := [4, 6]) (by kernel_rfl) (by simp) ?_
      refine AllReadyH.cons (by simp only [List.getElem?_toArray, List.getElem?_cons_succ, List.getElem?_cons_zero]; rfl) (fun K hK => ?_) ?_
      go_simp
      clear hHeld
      refine (qround_any _ _ _ _ 8 _ (by exact R_a.out) (by omega) (by omega)).mono ?_
      rintro e w59 ⟨b_r, A_r, n_r, c_r, rfl, h_r, hb⟩
      replace R_a := Lib.hid (R_a.out.below hb)
      replace BW0 := Lib.hid (BW0.out.below hb)
      replace Z_f := Lib.hid (Z_f.out.below hb)
      replace Q_l := Lib.hid (Q_l.out.below hb)
      replace B_a := Lib.hid (B_a.out.below hb)
      replace B_n := Lib.hid (B_n.out.below hb)
      replace hB := below_next hB hb
      clear hb
      have Z_r := Lib.hid h_r
      clear h_r
      go_wp2_with fail
      refine hK.out _ _ (by exact B_a.out.c3) (fun hHeld => ?_)
      clear hK K
      try simp only [Act.put, List.setIfInBounds_toArray, List.set_cons_zero, List.set_cons_succ]
      refine wpAnyH_ready (rs := [5, 6]) (by kernel_rfl) (by simp) ?_
      refine AllReadyH.cons (by simp only [List.getElem?_toArray, List.getElem?_cons_succ, List.getElem?_cons_zero]; rfl) (fun K hK => ?_) ?_
      go_simp
      clear hHeld
      refine (lof_any _ _ _ _ _ _ (by exact Z_r.out)).mono ?_
      rintro e w60 ⟨b_n, A_n, n_n, c_n, D_n, e_n, f_n, rfl, h_n, hb⟩
      replace R_a := Lib.hid (R_a.out.below hb)
      replace BW0 := Lib.hid (BW0.out.below hb)
      replace Z_f := Lib.hid (Z_f.out.below hb)
      replace Q_l := Lib.hid (Q_l.out.below hb)
      replace Z_r := Lib.hid (Z_r.out.below hb)
      replace B_a := Lib.hid (B_a.out.below hb)
      replace B_n := Lib.hid (B_n.out.below hb)
      replace hB := below_next hB hb
      clear hb
      have Q_n := Lib.hid h_n
      clear h_n
      go_wp2_with fail
      refine hK.out _ _ (by exact B_a.out.c3) (fun hHeld => ?_)
      clear hK K
      try simp only [Act.put, List.setIfInBounds_toArray, List.set_cons_zero, List.set_cons_succ]
      refine wpAnyH_ready (rs := [6]) (by kernel_rfl) (by simp) ?_
      refine AllReadyH.cons (by simp only [List.getElem?_toArray, List.getElem?_cons_succ, List.getElem?_cons_zero]; rfl) (fun K hK => ?_) AllReadyH.nil
      go_simp
      clear hHeld
      obtain ⟨A61, g_l, hV, hg, NB, hb⟩ := newR w60 (.bool false) (.slice none 0 0) (.slice none 0 0)
      rw [hV, hg]
      clear hV
      have l_l_a : w.heap.size < g_l := hg ▸ B_a.out.lt
      have l_l_n : g_n < g_l := hg ▸ B_n.out.lt
      have l_l_BW0 := hg ▸ BW0.out.size
      replace R_a := Lib.hid (R_a.out.below hb)
      replace BW0 := Lib.hid (BW0.out.below hb)
      replace Z_f := Lib.hid (Z_f.out.below hb)
      replace Q_l := Lib.hid (Q_l.out.below hb)
      replace Z_r := Lib.hid (Z_r.out.below hb)
      replace Q_n := Lib.hid (Q_n.out.below hb)
      replace B_a := Lib.hid (B_a.out.below hb)
      replace B_n := Lib.hid (B_n.out.below hb)
      replace hB := below_next hB hb
      have B_l := NB
      clear NB hb hg
      refine hK.out _ _ (by exact B_a.out.c3) (fun hHeld => ?_)
      clear hK K
      try simp only [Act.put, List.setIfInBounds_toArray, List.set_cons_zero, List.set_cons_succ]
      exact wpAnyH_atQ #[true, true, true, true, true, true, true, true, false, false] (by kernel_rfl) (KEY.out _ _ _ _ _ _ _ ⟨b_l, A_l, n_l, c_l, D_l, e_l, f_l, g_l, b_n, A_n, n_n, c_n, D_n, e_n, f_n, g_n, rfl, rfl, rfl, rfl, by omega, l_l_BW0, l_n_BW0, B_l.out, B_n.out, B_a.out, Q_l.out, Q_n.out, BW0.out, hB⟩)
      refine AllReadyH.cons (by simp only [List.getElem?_toArray, List.getElem?_cons_succ, List.getElem?_cons_zero]; rfl) (fun K hK => ?_) ?_
      go_simp
      clear hHeld
      obtain ⟨A62, g_l, hV, hg, NB, hb⟩ := newR w59 (.bool false) (.slice none 0 0) (.slice none 0 0)
      rw [hV, hg]
      clear hV
      have l_l_a : w.heap.size < g_l := hg ▸ B_a.out.lt
      have l_l_n : g_n < g_l := hg ▸ B_n.out.lt
      have l_l_BW0 := hg ▸ BW0.out.size
      replace R_a := Lib.hid (R_a.out.below hb)
      replace BW0 := Lib.hid (BW0.out.below hb)
      replace Z_f := Lib.hid (Z_f.out.below hb)
      replace Q_l := Lib.hid (Q_l.out.below hb)
      replace Z_r := Lib.hid (Z_r.out.below hb)
      replace B_a := Lib.hid (B_a.out.below hb)
      replace B_n := Lib.hid (B_n.out.below hb)
      replace hB := below_next hB hb
      have B_l := NB
      clear NB hb hg
      refine hK.out _ _ (by exact B_a.out.c3) (fun hHeld => ?_)
      clear hK K
      try simp only [Act.put, List.setIfInBounds_toArray, List.set_cons_zero, List.set_cons_succ]
      refine wpAnyH_ready (rs := [5]) (by kernel_rfl) (by simp) ?_
      refine AllReadyH.cons (by simp only [List.getElem?_toArray, List.getElem?_cons_succ, List.getElem?_cons_zero]; rfl) (fun K hK => ?_) AllReadyH.nil
      go_simp
      clear hHeld
      refine (lof_any _ _ _ _ _ _ (by exact Z_r.out)).mono ?_
      rintro e w63 ⟨b_n, A_n, n_n, c_n, D_n, e_n, f_n, rfl, h_n, hb⟩
      replace R_a := Lib.hid (R_a.out.below hb)
      replace BW0 := Lib.hid (BW0.out.below hb)
      replace Z_f := Lib.hid (Z_f.out.below hb)
      replace Q_l := Lib.hid (Q_l.out.below hb)
      replace Z_r := Lib.hid (Z_r.out.below hb)
      replace B_a := Lib.hid (B_a.out.below hb)
      replace B_n := Lib.hid (B_n.out.below hb)
      replace B_l := Lib.hid (B_l.out.below hb)
      replace hB := below_next hB hb
      clear hb
      have Q_n := Lib.hid h_n
      clear h_n
      go_wp2_with fail
      refine hK.out _ _ (by exact B_a.out.c3) (fun hHeld => ?_)
      clear hK K
      try simp only [Act.put, List.setIfInBounds_toArray, List.set_cons_zero, List.set_cons_succ]
      exact wpAnyH_atQ #[true, true, true, true, true, true, true, true, false, false] (by kernel_rfl) (KEY.out _ _ _ _ _ _ _ ⟨b_l, A_l, n_l, c_l, D_l, e_l, f_l, g_l, b_n, A_n, n_n, c_n, D_n, e_n, f_n, g_n, rfl, rfl, rfl, rfl, by omega, l_l_BW0, l_n_BW0, B_l.out, B_n.out, B_a.out, Q_l.out, Q_n.out, BW0.out, hB⟩)
      exact AllReadyH.nil
      refine AllReadyH.cons (by simp only [List.getElem?_toArray, List.getElem?_cons_succ, List.getElem?_cons_zero]; rfl) (fun K hK => ?_) ?_
      go_simp
      clear hHeld
      obtain ⟨A64, g_l, hV, hg, NB, hb⟩ := newR w58 (.bool false) (.slice none 0 0) (.slice none 0 0)
      rw [hV, hg]
      clear hV
      have l_l_a : w.heap.size < g_l := hg ▸ B_a.out.lt
      have l_l_n : g_n < g_l := hg ▸ B_n.out.lt
      have l_l_BW0 := hg ▸ BW0.out.size
      replace R_a := Lib.hid (R_a.out.below hb)
      replace BW0 := Lib.hid (BW0.out.below hb)
      replace Z_f := Lib.hid (Z_f.out.below hb)
      replace Q_l := Lib.hid (Q_l.out.below hb)
      replace B_a := Lib.hid (B_a.out.below hb)
      replace B_n := Lib.hid (B_n.out.below hb)
      replace hB := below_next hB hb
      have B_l := NB
      clear NB hb hg
      refine hK.out _ _ (by exact B_a.out.c3) (fun hHeld => ?_)
      clear hK K
      try simp only [Act.put, List.setIfInBounds_toArray, List.set_cons_zero, List.set_cons_succ]
      refine wpAnyH_ready (rs := [4]) (by kernel_rfl) (by simp) ?_
      refine AllReadyH.cons (by simp only [List.getElem?_toArray, List.getElem?_cons_succ, List.getElem?_cons_zero]; rfl) (fun K hK => ?_) AllReadyH.nil
      go_simp
      clear hHeld
      refine (qround_any _ _ _ _ 8 _ (by exact R_a.out) (by omega) (by omega)).mono ?_
      rintro e w65 ⟨b_r, A_r, n_r, c_r, rfl, h_r, hb⟩
      replace R_a := Lib.hid (R_a.out.below hb)
      replace BW0 := Lib.hid (BW0.out.below hb)
      replace Z_f := Lib.hid (Z_f.out.below hb)
      replace Q_l := Lib.hid (Q_l.out.below hb)
      replace B_a := Lib.hid (B_a.out.below hb)
      replace B_n := Lib.hid (B_n.out.below hb)
      replace B_l := Lib.hid (B_l.out.below hb)
      replace hB := below_next hB hb
      clear hb
      have Z_r := Lib.hid h_r
      clear h_r
      go_wp2_with fail
      refine hK.out _ _ (by exact B_a.out.c3) (fun hHeld => ?_)
      clear hK K
      try simp only [Act.put, List.setIfInBounds_toArray, List.set_cons_zero, List.set_cons_succ]
      refine wpAnyH_ready (rs := [5]) (by kernel_rfl) (by simp) ?_
      refine AllReadyH.cons (by simp only [List.getElem?_toArray, List.getElem?_cons_succ, List.getElem?_cons_zero]; rfl) (fun K hK => ?_) AllReadyH.nil
      go_simp
      clear hHeld
      refine (lof_any _ _ _ _ _ _ (by exact Z_r.out)).mono ?_
      rintro e w66 ⟨b_n, A_n, n_n, c_n, D_n, e_n, f_n, rfl, h_n, hb⟩
      replace R_a := Lib.hid (R_a.out.below hb)
      replace BW0 := Lib.hid (BW0.out.below hb)
      replace Z_f := Lib.hid (Z_f.out.below hb)
      replace Q_l := Lib.hid (Q_l.out.below hb)
      replace Z_r := Lib.hid (Z_r.out.below hb)
      replace B_a := Lib.hid (B_a.out.below hb)
      replace B_n := Lib.hid (B_n.out.below hb)
      replace B_l := Lib.hid (B_l.out.below hb)
      replace hB := below_next hB hb
      clear hb
      have Q_n := Lib.hid h_n
      clear h_n
      go_wp2_with fail
      refine hK.out _ _ (by exact B_a.out.c3) (fun hHeld => ?_)
      clear hK K
      try simp only [Act.put, List.setIfInBounds_toArray, List.set_cons_zero, List.set_cons_succ]
      exact wpAnyH_atQ #[true, true, true, true, true, true, true, true, false, false] (by kernel_rfl) (KEY.out _ _ _ _ _ _ _ ⟨b_l, A_l, n_l, c_l, D_l, e_l, f_l, g_l, b_n, A_n, n_n, c_n, D_n, e_n, f_n, g_n, rfl, rfl, rfl, rfl, by omega, l_l_BW0, l_n_BW0, B_l.out, B_n.out, B_a.out, Q_l.out, Q_n.out, BW0.out, hB⟩)
      exact AllReadyH.nil
      refine AllReadyH.cons (by simp only [List.getElem?_toArray, List.getElem?_cons_succ, List.getElem?_cons_zero]; rfl) (fun K hK => ?_) ?_
      go_simp
      clear hHeld
      obtain ⟨A67, g_l, hV, hg, NB, hb⟩ := newR A57 (.bool false) (.slice none 0 0) (.slice none 0 0)
      rw [hV, hg]
      clear hV
      have l_l_a : w.heap.size < g_l := hg ▸ B_a.out.lt
      have l_l_n : g_n < g_l := hg ▸ B_n.out.lt
      have l_l_BW0 := hg ▸ BW0.out.size
      replace R_a := Lib.hid (R_a.out.below hb)
      replace BW0 := Lib.hid (BW0.out.below hb)
      replace Z_f := Lib.hid (Z_f.out.below hb)
      replace B_a := Lib.hid (B_a.out.below hb)
      replace B_n := Lib.hid (B_n.out.below hb)
      replace hB := below_next hB hb
      have B_l := NB
      clear NB hb hg
      refine hK.out _ _ (by exact B_a.out.c3) (fun hHeld => ?_)
      clear hK K
      try simp only [Act.put, List.setIfInBounds_toArray, List.set_cons_zero, List.set_cons_succ]
      refine wpAnyH_ready (rs := [2]) (by kernel_rfl) (by simp) ?_
      refine AllReadyH.cons (by simp only [List.getElem?_toArray, List.getElem?_cons_succ, List.getElem?_cons_zero]; rfl) (fun K hK => ?_) AllReadyH.nil
      go_simp
      clear hHeld
      refine (lof_any _ _ _ _ _ _ (by exact Z_f.out)).mono ?_
      rintro e w68 ⟨b_l, A_l, n_l, c_l, D_l, e_l, f_l, rfl, h_l, hb⟩
      replace R_a := Lib.hid (R_a.out.below hb)
      replace BW0 := Lib.hid (BW0.out.below hb)
      replace Z_f := Lib.hid (Z_f.out.below hb)
      replace B_a := Lib.hid (B_a.out.below hb)
      replace B_n := Lib.hid (B_n.out.below hb)
      replace B_l := Lib.hid (B_l.out.below hb)
      replace hB := below_next hB hb
      clear hb
      have Q_l := Lib.hid h_l
      clear h_l
      go_wp2_with fail
      refine hK.out _ _ (by exact B_a.out.c3) (fun hHeld => ?_)
      clear hK K
      try simp only [Act.put, List.setIfInBounds_toArray, List.set_cons_zero, List.set_cons_succ]
      refine wpAnyH_ready (rs := [4]) (by kernel_rfl) (by simp) ?_
      refine AllReadyH.cons (by simp only [List.getElem?_toArray, List.getElem?_cons_succ, List.getElem?_cons_zero]; rfl) (fun K hK => ?_) AllReadyH.nil
      go_simp
      clear hHeld
      refine (qround_any _ _ _ _ 8 _ (by exact R_a.out) (by omega) (by omega)).mono ?_
      rintro e w69 ⟨b_r, A_r, n_r, c_r, rfl, h_r, hb⟩
      replace R_a := Lib.hid (R_a.out.below hb)
      replace BW0 := Lib.hid (BW0.out.below hb)
      replace Z_f := Lib.hid (Z_f.out.below hb)
      replace Q_l := Lib.hid (Q_l.out.below hb)
      replace B_a := Lib.hid (B_a.out.below hb)
      replace B_n := Lib.hid (B_n.out.below hb)
      replace B_l := Lib.hid (B_l.out.below hb)
      replace hB := below_next hB hb
      clear hb
      have Z_r := Lib.hid h_r
      clear h_r
      go_wp2_with fail
      refine hK.out _ _ (by exact B_a.out.c3) (fun hHeld => ?_)
      clear hK K
      try simp only [Act.put, List.setIfInBounds_toArray, List.set_cons_zero, List.set_cons_succ]
      refine wpAnyH_ready (rs := [5]) (by kernel_rfl) (by simp) ?_
      refine AllReadyH.cons (by simp only [List.getElem?_toArray, List.getElem?_cons_succ, List.getElem?_cons_zero]; rfl) (fun K hK => ?_) AllReadyH.nil
      go_simp
      clear hHeld
      refine (lof_any _ _ _ _ _ _ (by exact Z_r.out)).mono ?_
      rintro e w70 ⟨b_n, A_n, n_n, c_n, D_n, e_n, f_n, rfl, h_n, hb⟩
      replace R_a := Lib.hid (R_a.out.below hb)
      replace BW0 := Lib.hid (BW0.out.below hb)
      replace Z_f := Lib.hid (Z_f.out.below hb)
      replace Q_l := Lib.hid (Q_l.out.below hb)
      replace Z_r := Lib.hid (Z_r.out.below hb)
      replace B_a := Lib.hid (B_a.out.below hb)
      replace B_n := Lib.hid (B_n.out.below hb)
      replace B_l := Lib.hid (B_l.out.below hb)
      replace hB := below_next hB hb
      clear hb
      have Q_n := Lib.hid h_n
      clear h_n
      go_wp2_with fail
      refine hK.out _ _ (by exact B_a.out.c3) (fun hHeld => ?_)
      clear hK K
      try simp only [Act.put, List.setIfInBounds_toArray, List.set_cons_zero, List.set_cons_succ]
      exact wpAnyH_atQ #[true, true, true, true, true, true, true, true, false, false] (by kernel_rfl) (KEY.out _ _ _ _ _ _ _ ⟨b_l, A_l, n_l, c_l, D_l, e_l, f_l, g_l, b_n, A_n, n_n, c_n, D_n, e_n, f_n, g_n, rfl, rfl, rfl, rfl, by omega, l_l_BW0, l_n_BW0, B_l.out, B_n.out, B_a.out, Q_l.out, Q_n.out, BW0.out, hB⟩)
      exact AllReadyH.nil
      exact AllReadyH.nil
      refine AllReadyH.cons (by simp only [List.getElem?_toArray, List.getElem?_cons_succ, List.getElem?_cons_zero]; rfl) (fun K hK => ?_) ?_
      go_simp
      clear hHeld
      obtain ⟨A71, g_l, hV, hg, NB, hb⟩ := newR V6 (.bool false) (.slice none 0 0) (.slice none 0 0)
      rw [hV, hg]
      clear hV
      have l_l_a : w.heap.size < g_l := hg ▸ B_a.out.lt
      have l_l_BW0 := hg ▸ BW0.out.size
      replace R_a := Lib.hid (R_a.out.below hb)
      replace BW0 := Lib.hid (BW0.out.below hb)
      replace B_a := Lib.hid (B_a.out.below hb)
      replace hB := below_next hB hb
      have B_l := NB
      clear NB hb hg
      refine hK.out _ _ (by exact B_a.out.c3) (fun hHeld => ?_)
      clear hK K
      try simp only [Act.put, List.setIfInBounds_toArray, List.set_cons_zero, List.set_cons_succ]
      refine wpAnyH_ready (rs := [1, 7]) (by kernel_rfl) (by simp) ?_
      refine AllReadyH.cons (by simp only [List.getElem?_toArray, List.getElem?_cons_succ, List.getElem?_cons_zero]; rfl) (fun K hK => ?_) ?_
      go_simp
      clear hHeld
      refine (qfloor_any _ _ _ _ 8 _ (by exact R_a.out) (by omega) (by omega)).mono ?_
      rintro e w72 ⟨b_f, A_f, n_f, c_f, rfl, h_f, hb⟩
      replace R_a := Lib.hid (R_a.out.below hb)
      replace BW0 := Lib.hid (BW0.out.below hb)
      replace B_a := Lib.hid (B_a.out.below hb)
      replace B_l := Lib.hid (B_l.out.below hb)
      replace hB := below_next hB hb
      clear hb
      have Z_f := Lib.hid h_f
      clear h_f
      go_wp2_with fail
      refine hK.out _ _ (by exact B_a.out.c3) (fun hHeld => ?_)
      clear hK K
      try simp only [Act.put, List.setIfInBounds_toArray, List.set_cons_zero, List.set_cons_succ]
      refine wpAnyH_ready (rs := [2, 7]) (by kernel_rfl) (by simp) ?_
      refine AllReadyH.cons (by simp only [List.getElem?_toArray, List.getElem?_cons_succ, List.getElem?_cons_zero]; rfl) (fun K hK => ?_) ?_
      go_simp
      clear hHeld
      refine (lof_any _ _ _ _ _ _ (by exact Z_f.out)).mono ?_
      rintro e w73 ⟨b_l, A_l, n_l, c_l, D_l, e_l, f_l, rfl, h_l, hb⟩
      replace R_a := Lib.hid (R_a.out.below hb)
      replace BW0 := Lib.hid (BW0.out.below hb)
      replace Z_f := Lib.hid (Z_f.out.below hb)
      replace B_a := Lib.hid (B_a.out.below hb)
      replace B_l := Lib.hid (B_l.out.below hb)
      replace hB := below_next hB hb
      clear hb
      have Q_l := Lib.hid h_l
      clear h_l
      go_wp2_with fail
      refine hK.out _ _ (by exact B_a.out.c3) (fun hHeld => ?_)
      clear hK K
      try simp only [Act.put, List.setIfInBounds_toArray, List.set_cons_zero, List.set_cons_succ]
      refine wpAnyH_ready (rs := [4, 7]) (by kernel_rfl) (by simp) ?_
      refine AllReadyH.cons (by simp only [List.getElem?_toArray, List.getElem?_cons_succ, List.getElem?_cons_zero]; rfl) (fun K hK => ?_) ?_
      go_simp
      clear hHeld
      refine (qround_any _ _ _ _ 8 _ (by exact R_a.out) (by omega) (by omega)).mono ?_
      rintro e w74 ⟨b_r, A_r, n_r, c_r, rfl, h_r, hb⟩
      replace R_a := Lib.hid (R_a.out.below hb)
      replace BW0 := Lib.hid (BW0.out.below hb)
      replace Z_f := Lib.hid (Z_f.out.below hb)
      replace Q_l := Lib.hid (Q_l.out.below hb)
      replace B_a := Lib.hid (B_a.out.below hb)
      replace B_l := Lib.hid (B_l.out.below hb)
      replace hB := below_next hB hb
      clear hb
      have Z_r := Lib.hid h_r
      clear h_r
      go_wp2_with fail
      refine hK.out _ _ (by exact B_a.out.c3) (fun hHeld => ?_)
      clear hK K
      try simp only [Act.put, List.setIfInBounds_toArray, List.set_cons_zero, List.set_cons_succ]
      refine wpAnyH_ready (rs := [5, 7]) (by kernel_rfl) (by simp) ?_
      refine AllReadyH.cons (by simp only [List.getElem?_toArray, List.getElem?_cons_succ, List.getElem?_cons_zero]; rfl) (fun K hK => ?_) ?_
      go_simp
      clear hHeld
      refine (lof_any _ _ _ _ _ _ (by exact Z_r.out)).mono ?_
      rintro e w75 ⟨b_n, A_n, n_n, c_n, D_n, e_n, f_n, rfl, h_n, hb⟩
      replace R_a := Lib.hid (R_a.out.below hb)
      replace BW0 := Lib.hid (BW0.out.below hb)
      replace Z_f := Lib.hid (Z_f.out.below hb)
      replace Q_l := Lib.hid (Q_l.out.below hb)
      replace Z_r := Lib.hid (Z_r.out.below hb)
      replace B_a := Lib.hid (B_a.out.below hb)
      replace B_l := Lib.hid (B_l.out.below hb)
      replace hB := below_next hB hb
      clear hb
      have Q_n := Lib.hid h_n
      clear h_n
      go_wp2_with fail
      refine hK.out _ _ (by exact B_a.out.c3) (fun hHeld => ?_)
      clear hK K
      try simp only [Act.put, List.setIfInBounds_toArray, List.set_cons_zero, List.set_cons_succ]
      refine wpAnyH_ready (rs := [7]) (by kernel_rfl) (by simp) ?_
      refine AllReadyH.cons (by simp only [List.getElem?_toArray, List.getElem?_cons_succ, List.getElem?_cons_zero]; rfl) (fun K hK => ?_) AllReadyH.nil
      go_simp
      clear hHeld
      obtain ⟨A76, g_n, hV, hg, NB, hb⟩ := newR w75 (.bool false) (.slice none 0 0) (.slice none 0 0)
      rw [hV, hg]
      clear hV
      have l_n_a : w.heap.size < g_n := hg ▸ B_a.out.lt
      have l_n_l : g_l < g_n := hg ▸ B_l.out.lt
      have l_n_BW0 := hg ▸ BW0.out.size
      replace R_a := Lib.hid (R_a.out.below hb)
      replace BW0 := Lib.hid (BW0.out.below hb)
      replace Z_f := Lib.hid (Z_f.out.below hb)
      replace Q_l := Lib.hid (Q_l.out.below hb)
      replace Z_r := Lib.hid (Z_r.out.below hb)
      replace Q_n := Lib.hid (Q_n.out.below hb)
      replace B_a := Lib.hid (B_a.out.below hb)
      replace B_l := Lib.hid (B_l.out.below hb)
      replace hB := below_next hB hb
      have B_n := NB
      clear NB hb hg
      refine hK.out _ _ (by exact B_a.out.c3) (fun hHeld => ?_)
      clear hK K
      try simp only [Act.put, List.setIfInBounds_toArray, List.set_cons_zero, List.set_cons_succ]
      exact wpAnyH_atQ #[true, true, true, true, true, true, true, true, false, false] (by kernel_rfl) (KEY.out _ _ _ _ _ _ _ ⟨b_l, A_l, n_l, c_l, D_l, e_l, f_l, g_l, b_n, A_n, n_n, c_n, D_n, e_n, f_n, g_n, rfl, rfl, rfl, rfl, by omega, l_l_BW0, l_n_BW0, B_l.out, B_n.out, B_a.out, Q_l.out, Q_n.out, BW0.out, hB⟩)
      refine AllReadyH.cons (by simp only [List.getElem?_toArray, List.getElem?_cons_succ, List.getElem?_cons_zero]; rfl) (fun K hK => ?_) ?_
      go_simp
      clear hHeld
      obtain ⟨A77, g_n, hV, hg, NB, hb⟩ := newR w74 (.bool false) (.slice none 0 0) (.slice none 0 0)
      rw [hV, hg]
      clear hV
      have l_n_a : w.heap.size < g_n := hg ▸ B_a.out.lt
      have l_n_l : g_l < g_n := hg ▸ B_l.out.lt
      have l_n_BW0 := hg ▸ BW0.out.size
      replace R_a := Lib.hid (R_a.out.below hb)
      replace BW0 := Lib.hid (BW0.out.below hb)
      replace Z_f := Lib.hid (Z_f.out.below hb)
      replace Q_l := Lib.hid (Q_l.out.below hb)
      replace Z_r := Lib.hid (Z_r.out.below hb)
      replace B_a := Lib.hid (B_a.out.below hb)
      replace B_l := Lib.hid (B_l.out.below hb)
      replace hB := below_next hB hb
      have B_n := NB
      clear NB hb hg
      refine hK.out _ _ (by exact B_a.out.c3) (fun hHeld => ?_)
      clear hK K
      try simp only [Act.put, List.setIfInBounds_toArray, List.set_cons_zero, List.set_cons_succ]
      refine wpAnyH_ready (rs := [5]) (by kernel_rfl) (by simp) ?_
      refine AllReadyH.cons (by simp only [List.getElem?_toArray, List.getElem?_cons_succ, List.getElem?_cons_zero]; rfl) (fun K hK => ?_) AllReadyH.nil
      go_simp
      clear hHeld
      refine (lof_any _ _ _ _ _ _ (by exact Z_r.out)).mono ?_
      rintro e w78 ⟨b_n, A_n, n_n, c_n, D_n, e_n, f_n, rfl, h_n, hb⟩
      replace R_a := Lib.hid (R_a.out.below hb)
      replace BW0 := Lib.hid (BW0.out.below hb)
      replace Z_f := Lib.hid (Z_f.out.below hb)
      replace Q_l := Lib.hid (Q_l.out.below hb)
      replace Z_r := Lib.hid (Z_r.out.below hb)
      replace B_a := Lib.hid (B_a.out.below hb)
      replace B_l := Lib.hid (B_l.out.below hb)
      replace B_n := Lib.hid (B_n.out.below hb)
      replace hB := below_next hB hb
      clear hb
      have Q_n := Lib.hid h_n
      clear h_n
      go_wp2_with fail
      refine hK.out _ _ (by exact B_a.out.c3) (fun hHeld => ?_)
      clear hK K
      try simp only [Act.put, List.setIfInBounds_toArray, List.set_cons_zero, List.set_cons_succ]
      exact wpAnyH_atQ #[true, true, true, true, true, true, true, true, false, false] (by kernel_rfl) (KEY.out _ _ _ _ _ _ _ ⟨b_l, A_l, n_l, c_l, D_l, e_l, f_l, g_l, b_n, A_n, n_n, c_n, D_n, e_n, f_n, g_n, rfl, rfl, rfl, rfl, by omega, l_l_BW0, l_n_BW0, B_l.out, B_n.out, B_a.out, Q_l.out, Q_n.out, BW0.out, hB⟩)
      exact AllReadyH.nil
      refine AllReadyH.cons (by simp only [List.getElem?_toArray, List.getElem?_cons_succ, List.getElem?_cons_zero]; rfl) (fun K hK => ?_) ?_
      go_simp
      clear hHeld
      obtain ⟨A79, g_n, hV, hg, NB, hb⟩ := newR w73 (.bool false) (.slice none 0 0) (.slice none 0 0)
      rw [hV, hg]
      clear hV
      have l_n_a : w.heap.size < g_n := hg ▸ B_a.out.lt
      have l_n_l : g_l < g_n := hg ▸ B_l.out.lt
      have l_n_BW0 := hg ▸ BW0.out.size
      replace R_a := Lib.hid (R_a.out.below hb)
      replace BW0 := Lib.hid (BW0.out.below hb)
      replace Z_f := Lib.hid (Z_f.out.below hb)
      replace Q_l := Lib.hid (Q_l.out.below hb)
      replace B_a := Lib.hid (B_a.out.below hb)
      replace B_l := Lib.hid (B_l.out.below hb)
      replace hB := below_next hB hb
      have B_n := NB
      clear NB hb hg
      refine hK.out _ _ (by exact B_a.out.c3) (fun hHeld => ?_)
      clear hK K
      try simp only [Act.put, List.setIfInBounds_toArray, List.set_cons_zero, List.set_cons_succ]
      refine wpAnyH_ready (rs := [4]) (by kernel_rfl) (by simp) ?_
      refine AllReadyH.cons (by simp only [List.getElem?_toArray, List.getElem?_cons_succ, List.getElem?_cons_zero]; rfl) (fun K hK => ?_) AllReadyH.nil
      go_simp
      clear hHeld
      refine (qround_any _ _ _ _ 8 _ (by exact R_a.out) (by omega) (by omega)).mono ?_
      rintro e w80 ⟨b_r, A_r, n_r, c_r, rfl, h_r, hb⟩
      replace R_a := Lib.hid (R_a.out.below hb)
      replace BW0 := Lib.hid (BW0.out.below hb)
      replace Z_f := Lib.hid (Z_f.out.below hb)
      replace Q_l := Lib.hid (Q_l.out.below hb)
      replace B_a := Lib.hid (B_a.out.below hb)
      replace B_l := Lib.hid (B_l.out.below hb)
      replace B_n := Lib.hid (B_n.out.below hb)
      replace hB := below_next hB hb
      clear hb
      have Z_r := Lib.hid h_r
      clear h_r
      go_wp2_with fail
      refine hK.out _ _ (by exact B_a.out.c3) (fun hHeld => ?_)
      clear hK K
      try simp only [Act.put, List.setIfInBounds_toArray, List.set_cons_zero, List.set_cons_succ]
      refine wpAnyH_ready (rs := [5]) (by kernel_rfl) (by simp) ?_
      refine AllReadyH.cons (by simp only [List.getElem?_toArray, List.getElem?_cons_succ, List.getElem?_cons_zero]; rfl) (fun K hK => ?_) AllReadyH.nil
      go_simp
      clear hHeld
      refine (lof_any _ _ _ _ _ _ (by exact Z_r.out)).mono ?_
      rintro e w81 ⟨b_n, A_n, n_n, c_n, D_n, e_n, f_n, rfl, h_n, hb⟩
      replace R_a := Lib.hid (R_a.out.below hb)
      replace BW0 := Lib.hid (BW0.out.below hb)
      replace Z_f := Lib.hid (Z_f.out.below hb)
      replace Q_l := Lib.hid (Q_l.out.below hb)
      replace Z_r := Lib.hid (Z_r.out.below hb)
      replace B_a := Lib.hid (B_a.out.below hb)
      replace B_l := Lib.hid (B_l.out.below hb)
      replace B_n := Lib.hid (B_n.out.below hb)
      replace hB := below_next hB hb
      clear hb
      have Q_n := Lib.hid h_n
      clear h_n
      go_wp2_with fail
      refine hK.out _ _ (by exact B_a.out.c3) (fun hHeld => ?_)
      clear hK K
      try simp only [Act.put, List.setIfInBounds_toArray, List.set_cons_zero, List.set_cons_succ]
      exact wpAnyH_atQ #[true, true, true, true, true, true, true, true, false, false] (by kernel_rfl) (KEY.out _ _ _ _ _ _ _ ⟨b_l, A_l, n_l, c_l, D_l, e_l, f_l, g_l, b_n, A_n, n_n, c_n, D_n, e_n, f_n, g_n, rfl, rfl, rfl, rfl, by omega, l_l_BW0, l_n_BW0, B_l.out, B_n.out, B_a.out, Q_l.out, Q_n.out, BW0.out, hB⟩)
      exact AllReadyH.nil
      refine AllReadyH.cons (by simp only [List.getElem?_toArray, List.getElem?_cons_succ, List.getElem?_cons_zero]; rfl) (fun K hK => ?_) ?_
      go_simp
      clear hHeld
      obtain ⟨A82, g_n, hV, hg, NB, hb⟩ := newR w72 (.bool false) (.slice none 0 0) (.slice none 0 0)
      rw [hV, hg]
      clear hV
      have l_n_a : w.heap.size < g_n := hg ▸ B_a.out.lt
      have l_n_l : g_l < g_n := hg ▸ B_l.out.lt
      have l_n_BW0 := hg ▸ BW0.out.size
      replace R_a := Lib.hid (R_a.out.below hb)
      replace BW0 := Lib.hid (BW0.out.below hb)
      replace Z_f := Lib.hid (Z_f.out.below hb)
      replace B_a := Lib.hid (B_a.out.below hb)
      replace B_l := Lib.hid (B_l.out.below hb)
      replace hB := below_next hB hb
      have B_n := NB
      clear NB hb hg
      refine hK.out _ _ (by exact B_a.out.c3) (fun hHeld => ?_)
      clear hK K
      try simp only [Act.put, List.setIfInBounds_toArray, List.set_cons_zero, List.set_cons_succ]
      refine wpAnyH_ready (rs := [2]) (by kernel_rfl) (by simp) ?_
      refine AllReadyH.cons (by simp only [List.getElem?_toArray, List.getElem?_cons_succ, List.getElem?_cons_zero]; rfl) (fun K hK => ?_) AllReadyH.nil
      go_simp
      clear hHeld
      refine (lof_any _ _ _ _ _ _ (by exact Z_f.out)).mono ?_
      rintro e w83 ⟨b_l, A_l, n_l, c_l, D_l, e_l, f_l, rfl, h_l, hb⟩
      replace R_a := Lib.hid (R_a.out.below hb)
      replace BW0 := Lib.hid (BW0.out.below hb)
      replace Z_f := Lib.hid (Z_f.out.below hb)
      replace B_a := Lib.hid (B_a.out.below hb)
      replace B_l := Lib.hid (B_l.out.below hb)
      replace B_n := Lib.hid (B_n.out.below hb)
      replace hB := below_next hB hb
      clear hb
      have Q_l := Lib.hid h_l
      clear h_l
      go_wp2_with fail
      refine hK.out _ _ (by exact B_a.out.c3) (fun hHeld => ?_)
      clear hK K
      try simp only [Act.put, List.setIfInBounds_toArray, List.set_cons_zero, List.set_cons_succ]
      refine wpAnyH_ready (rs := [4]) (by kernel_rfl) (by simp) ?_
      refine AllReadyH.cons (by simp only [List.getElem?_toArray, List.getElem?_cons_succ, List.getElem?_cons_zero]; rfl) (fun K hK => ?_) AllReadyH.nil
      go_simp
      clear hHeld
      refine (qround_any _ _ _ _ 8 _ (by exact R_a.out) (by omega) (by omega)).mono ?_
      rintro e w84 ⟨b_r, A_r, n_r, c_r, rfl, h_r, hb⟩
      replace R_a := Lib.hid (R_a.out.below hb)
      replace BW0 := Lib.hid (BW0.out.below hb)
      replace Z_f := Lib.hid (Z_f.out.below hb)
      replace Q_l := Lib.hid (Q_l.out.below hb)
      replace B_a := Lib.hid (B_a.out.below hb)
      replace B_l := Lib.hid (B_l.out.below hb)
      replace B_n := Lib.hid (B_n.out.below hb)
      replace hB := below_next hB hb
      clear hb
      have Z_r := Lib.hid h_r
      clear h_r
      go_wp2_with fail
      refine hK.out _ _ (by exact B_a.out.c3) (fun hHeld => ?_)
      clear hK K
      try simp only [Act.put, List.setIfInBounds_toArray, List.set_cons_zero, List.set_cons_succ]
      refine wpAnyH_ready (rs := [5]) (by kernel_rfl) (by simp) ?_
      refine AllReadyH.cons (by simp only [List.getElem?_toArray, List.getElem?_cons_succ, List.getElem?_cons_zero]; rfl) (fun K hK => ?_) AllReadyH.nil
      go_simp
      clear hHeld
      refine (lof_any _ _ _ _ _ _ (by exact Z_r.out)).mono ?_
      rintro e w85 ⟨b_n, A_n, n_n, c_n, D_n, e_n, f_n, rfl, h_n, hb⟩
      replace R_a := Lib.hid (R_a.out.below hb)
      replace BW0 := Lib.hid (BW0.out.below hb)
      replace Z_f := Lib.hid (Z_f.out.below hb)
      replace Q_l := Lib.hid (Q_l.out.below hb)
      replace Z_r := Lib.hid (Z_r.out.below hb)
      replace B_a := Lib.hid (B_a.out.below hb)
      replace B_l := Lib.hid (B_l.out.below hb)
      replace B_n := Lib.hid (B_n.out.below hb)
      replace hB := below_next hB hb
      clear hb
      have Q_n := Lib.hid h_n
      clear h_n
      go_wp2_with fail
      refine hK.out _ _ (by exact B_a.out.c3) (fun hHeld => ?_)
      clear hK K
      try simp only [Act.put, List.setIfInBounds_toArray, List.set_cons_zero, List.set_cons_succ]
      exact wpAnyH_atQ #[true, true, true, true, true, true, true, true, false, false] (by kernel_rfl) (KEY.out _ _ _ _ _ _ _ ⟨b_l, A_l, n_l, c_l, D_l, e_l, f_l, g_l, b_n, A_n, n_n, c_n, D_n, e_n, f_n, g_n, rfl, rfl, rfl, rfl, by omega, l_l_BW0, l_n_BW0, B_l.out, B_n.out, B_a.out, Q_l.out, Q_n.out, BW0.out, hB⟩)
      exact AllReadyH.nil
      refine AllReadyH.cons (by simp only [List.getElem?_toArray, List.getElem?_cons_succ, List.getElem?_cons_zero]; rfl) (fun K hK => ?_) ?_
      go_simp
      clear hHeld
      obtain ⟨A86, g_n, hV, hg, NB, hb⟩ := newR A71 (.bool false) (.slice none 0 0) (.slice none 0 0)
      rw [hV, hg]
      clear hV
      have l_n_a : w.heap.size < g_n := hg ▸ B_a.out.lt
      have l_n_l : g_l < g_n := hg ▸ B_l.out.lt
      have l_n_BW0 := hg ▸ BW0.out.size
      replace R_a := Lib.hid (R_a.out.below hb)
      replace BW0 := Lib.hid (BW0.out.below hb)
      replace B_a := Lib.hid (B_a.out.below hb)
      replace B_l := Lib.hid (B_l.out.below hb)
      replace hB := below_next hB hb
      have B_n := NB
      clear NB hb hg
      refine hK.out _ _ (by exact B_a.out.c3) (fun hHeld => ?_)
      clear hK K
      try simp only [Act.put, List.setIfInBounds_toArray, List.set_cons_zero, List.set_cons_succ]
      refine wpAnyH_ready (rs := [1]) (by kernel_rfl) (by simp) ?_
      refine AllReadyH.cons (by simp only [List.getElem?_toArray, List.getElem?_cons_succ, List.getElem?_cons_zero]; rfl) (fun K hK => ?_) AllReadyH.nil
      go_simp
      clear hHeld
      refine (qfloor_any _ _ _ _ 8 _ (by exact R_a.out) (by omega) (by omega)).mono ?_
      rintro e w87 ⟨b_f, A_f, n_f, c_f, rfl, h_f, hb⟩
      replace R_a := Lib.hid (R_a.out.below hb)
      replace BW0 := Lib.hid (BW0.out.below hb)
      replace B_a := Lib.hid (B_a.out.below hb)
      replace B_l := Lib.hid (B_l.out.below hb)
      replace B_n := Lib.hid (B_n.out.below hb)
      replace hB := below_next hB hb
      clear hb
      have Z_f := Lib.hid h_f
      clear h_f
      go_wp2_with fail
      refine hK.out _ _ (by exact B_a.out.c3) (fun hHeld => ?_)
      clear hK K
      try simp only [Act.put, List.setIfInBounds_toArray, List.set_cons_zero, List.set_cons_succ]
      refine wpAnyH_ready (rs := [2]) (by kernel_rfl) (by simp) ?_
      refine AllReadyH.cons (by simp only [List.getElem?_toArray, List.getElem?_cons_succ, List.getElem?_cons_zero]; rfl) (fun K hK => ?_) AllReadyH.nil
      go_simp
      clear hHeld
      refine (lof_any _ _ _ _ _ _ (by exact Z_f.out)).mono ?_
      rintro e w88 ⟨b_l, A_l, n_l, c_l, D_l, e_l, f_l, rfl, h_l, hb⟩
      replace R_a := Lib.hid (R_a.out.below hb)
      replace BW0 := Lib.hid (BW0.out.below hb)
      replace Z_f := Lib.hid (Z_f.out.below hb)
      replace B_a := Lib.hid (B_a.out.below hb)
      replace B_l := Lib.hid (B_l.out.below hb)
      replace B_n := Lib.hid (B_n.out.below hb)
      replace hB := below_next hB hb
      clear hb
      have Q_l := Lib.hid h_l
      clear h_l
      go_wp2_with fail
      refine hK.out _ _ (by exact B_a.out.c3) (fun hHeld => ?_)
      clear hK K
      try simp only [Act.put, List.setIfInBounds_toArray, List.set_cons_zero, List.set_cons_succ]
      refine wpAnyH_ready (rs := [4]) (by kernel_rfl) (by simp) ?_
      refine AllReadyH.cons (by simp only [List.getElem?_toArray, List.getElem?_cons_succ, List.getElem?_cons_zero]; rfl) (fun K hK => ?_) AllReadyH.nil
      go_simp
      clear hHeld
      refine (qround_any _ _ _ _ 8 _ (by exact R_a.out) (by omega) (by omega)).mono ?_
      rintro e w89 ⟨b_r, A_r, n_r, c_r, rfl, h_r, hb⟩
      replace R_a := Lib.hid (R_a.out.below hb)
      replace BW0 := Lib.hid (BW0.out.below hb)
      replace Z_f := Lib.hid (Z_f.out.below hb)
      replace Q_l := Lib.hid (Q_l.out.below hb)
      replace B_a := Lib.hid (B_a.out.below hb)
      replace B_l := Lib.hid (B_l.out.below hb)
      replace B_n := Lib.hid (B_n.out.below hb)
      replace hB := below_next hB hb
      clear hb
      have Z_r := Lib.hid h_r
      clear h_r
      go_wp2_with fail
      refine hK.out _ _ (by exact B_a.out.c3) (fun hHeld => ?_)
      clear hK K
      try simp only [Act.put, List.setIfInBounds_toArray, List.set_cons_zero, List.set_cons_succ]
      refine wpAnyH_ready (rs := [5]) (by kernel_rfl) (by simp) ?_
      refine AllReadyH.cons (by simp only [List.getElem?_toArray, List.getElem?_cons_succ, List.getElem?_cons_zero]; rfl) (fun K hK => ?_) AllReadyH.nil
      go_simp
      clear hHeld
      refine (lof_any _ _ _ _ _ _ (by exact Z_r.out)).mono ?_
      rintro e w90 ⟨b_n, A_n, n_n, c_n, D_n, e_n, f_n, rfl, h_n, hb⟩
      replace R_a := Lib.hid (R_a.out.below hb)
      replace BW0 := Lib.hid (BW0.out.below hb)
      replace Z_f := Lib.hid (Z_f.out.below hb)
      replace Q_l := Lib.hid (Q_l.out.below hb)
      replace Z_r := Lib.hid (Z_r.out.below hb)
      replace B_a := Lib.hid (B_a.out.below hb)
      replace B_l := Lib.hid (B_l.out.below hb)
      replace B_n := Lib.hid (B_n.out.below hb)
      replace hB := below_next hB hb
      clear hb
      have Q_n := Lib.hid h_n
      clear h_n
      go_wp2_with fail
      refine hK.out _ _ (by exact B_a.out.c3) (fun hHeld => ?_)
      clear hK K
      try simp only [Act.put, List.setIfInBounds_toArray, List.set_cons_zero, List.set_cons_succ]
      exact wpAnyH_atQ #[true, true, true, true, true, true, true, true, false, false] (by kernel_rfl) (KEY.out _ _ _ _ _ _ _ ⟨b_l, A_l, n_l, c_l, D_l, e_l, f_l, g_l, b_n, A_n, n_n, c_n, D_n, e_n, f_n, g_n, rfl, rfl, rfl, rfl, by omega, l_l_BW0, l_n_BW0, B_l.out, B_n.out, B_a.out, Q_l.out, Q_n.out, BW0.out, hB⟩)
      exact AllReadyH.nil
      refine AllReadyH.cons (by simp only [List.getElem?_toArray, List.getElem?_cons_succ, List.getElem?_cons_zero]; rfl) (fun K hK => ?_) ?_
      go_simp
      clear hHeld
      obtain ⟨A91, g_n, hV, hg, NB, hb⟩ := newR V6 (.bool false) (.slice none 0 0) (.slice none 0 0)
      rw [hV, hg]
      clear hV
      have l_n_a : w.heap.size < g_n := hg ▸ B_a.out.lt
      have l_n_BW0 := hg ▸ BW0.out.size
      replace R_a := Lib.hid (R_a.out.below hb)
      replace BW0 := Lib.hid (BW0.out.below hb)
      replace B_a := Lib.hid (B_a.out.below hb)
      replace hB := below_next hB hb
      have B_n := NB
      clear NB hb hg
      refine hK.out _ _ (by exact B_a.out.c3) (fun hHeld => ?_)
      clear hK K
      try simp only [Act.put, List.setIfInBounds_toArray, List.set_cons_zero, List.set_cons_succ]
      refine wpAnyH_ready (rs := [1, 6]) (by kernel_rfl) (by simp) ?_
      refine AllReadyH.cons (by simp only [List.getElem?_toArray, List.getElem?_cons_succ, List.getElem?_cons_zero]; rfl) (fun K hK => ?_) ?_
      go_simp
      clear hHeld
      refine (qfloor_any _ _ _ _ 8 _ (by exact R_a.out) (by omega) (by omega)).mono ?_
      rintro e w92 ⟨b_f, A_f, n_f, c_f, rfl, h_f, hb⟩
      replace R_a := Lib.hid (R_a.out.below hb)
      replace BW0 := Lib.hid (BW0.out.below hb)
      replace B_a := Lib.hid (B_a.out.below hb)
      replace B_n := Lib.hid (B_n.out.below hb)
      replace hB := below_next hB hb
      clear hb
      have Z_f := Lib.hid h_f
      clear h_f
      go_wp2_with fail
      refine hK.out _ _ (by exact B_a.out.c3) (fun hHeld => ?_)
      clear hK K
      try simp only [Act.put, List.setIfInBounds_toArray, List.set_cons_zero, List.set_cons_succ]
      refine wpAnyH_ready (rs := [2, 6]) (by kernel_rfl) (by simp) ?_
      refine AllReadyH.cons (by simp only [List.getElem?_toArray, List.getElem?_cons_succ, List.getElem?_cons_zero]; rfl) (fun K hK => ?_) ?_
      go_simp
      clear hHeld
      refine (lof_any _ _ _ _ _ _ (by exact Z_f.out)).mono ?_
      rintro e w93 ⟨b_l, A_l, n_l, c_l, D_l, e_l, f_l, rfl, h_l, hb⟩
      replace R_a := Lib.hid (R_a.out.below hb)
      replace BW0 := Lib.hid (BW0.out.below hb)
      replace Z_f := Lib.hid (Z_f.out.below hb)
      replace B_a := Lib.hid (B_a.out.below hb)
      replace B_n := Lib.hid (B_n.out.below hb)
      replace hB := below_next hB hb
      clear hb
      have Q_l := Lib.hid h_l
      clear h_l
      go_wp2_with fail
      refine hK.out _ _ (by exact B_a.out.c3) (fun hHeld => ?_)
      clear hK K
      try simp only [Act.put, List.setIfInBounds_toArray, List.set_cons_zero, List.set_cons_succ]
      refine wpAnyH_ready (rs := [4, 6]) (by kernel_rfl) (by simp) ?_
      refine AllReadyH.cons (by simp only [List.getElem?_toArray, List.getElem?_cons_succ, List.getElem?_cons_zero]; rfl) (fun K hK => ?_) ?_
      go_simp
      clear hHeld
      refine (qround_any _ _ _ _ 8 _ (by exact R_a.out) (by omega) (by omega)).mono ?_
      rintro e w94 ⟨b_r, A_r, n_r, c_r, rfl, h_r, hb⟩
      replace R_a := Lib.hid (R_a.out.below hb)
      replace BW0 := Lib.hid (BW0.out.below hb)
      replace Z_f := Lib.hid (Z_f.out.below hb)
      replace Q_l := Lib.hid (Q_l.out.below hb)
      replace B_a := Lib.hid (B_a.out.below hb)
      replace B_n := Lib.hid (B_n.out.below hb)
      replace hB := below_next hB hb
      clear hb
      have Z_r := Lib.hid h_r
      clear h_r
      go_wp2_with fail
      refine hK.out _ _ (by exact B_a.out.c3) (fun hHeld => ?_)
      clear hK K
      try simp only [Act.put, List.setIfInBounds_toArray, List.set_cons_zero, List.set_cons_succ]
      refine wpAnyH_ready (rs := [5, 6]) (by kernel_rfl) (by simp) ?_
      refine AllReadyH.cons (by simp only [List.getElem?_toArray, List.getElem?_cons_succ, List.getElem?_cons_zero]; rfl) (fun K hK => ?_) ?_
      go_simp
      clear hHeld
      refine (lof_any _ _ _ _ _ _ (by exact Z_r.out)).mono ?_
      rintro e w95 ⟨b_n, A_n, n_n, c_n, D_n, e_n, f_n, rfl, h_n, hb⟩
      replace R_a := Lib.hid (R_a.out.below hb)
      replace BW0 := Lib.hid (BW0.out.below hb)
      replace Z_f := Lib.hid (Z_f.out.below hb)
      replace Q_l := Lib.hid (Q_l.out.below hb)
      replace Z_r := Lib.hid (Z_r.out.below hb)
      replace B_a := Lib.hid (B_a.out.below hb)
      replace B_n := Lib.hid (B_n.out.below hb)
      replace hB := below_next hB hb
      clear hb
      have Q_n := Lib.hid h_n
      clear h_n
      go_wp2_with fail
      refine hK.out _ _ (by exact B_a.out.c3) (fun hHeld => ?_)
      clear hK K
      try simp only [Act.put, List.setIfInBounds_toArray, List.set_cons_zero, List.set_cons_succ]
      refine wpAnyH_ready (rs := [6]) (by kernel_rfl) (by simp) ?_
      refine AllReadyH.cons (by simp only [List.getElem?_toArray, List.getElem?_cons_succ, List.getElem?_cons_zero]; rfl) (fun K hK => ?_) AllReadyH.nil
      go_simp
      clear hHeld
      obtain ⟨A96, g_l, hV, hg, NB, hb⟩ := newR w95 (.bool false) (.slice none 0 0) (.slice none 0 0)
      rw [hV, hg]
      clear hV
      have l_l_a : w.heap.size < g_l := hg ▸ B_a.out.lt
      have l_l_n : g_n < g_l := hg ▸ B_n.out.lt
      have l_l_BW0 := hg ▸ BW0.out.size
      replace R_a := Lib.hid (R_a.out.below hb)
      replace BW0 := Lib.hid (BW0.out.below hb)
      replace Z_f := Lib.hid (Z_f.out.below hb)
      replace Q_l := Lib.hid (Q_l.out.below hb)
      replace Z_r := Lib.hid (Z_r.out.below hb)
      replace Q_n := Lib.hid (Q_n.out.below hb)
      replace B_a := Lib.hid (B_a.out.below hb)
      replace B_n := Lib.hid (B_n.out.below hb)
      replace hB := below_next hB hb
      have B_l := NB
      clear NB hb hg
      refine hK.out _ _ (by exact B_a.out.c3) (fun hHeld => ?_)
      clear hK K
      try simp only [Act.put, List.setIfInBounds_toArray, List.set_cons_zero, List.set_cons_succ]
      exact wpAnyH_atQ #[true, true, true, true, true, true, true, true, false, false] (by kernel_rfl) (KEY.out _ _ _ _ _ _ _ ⟨b_l, A_l, n_l, c_l, D_l, e_l, f_l, g_l, b_n, A_n, n_n, c_n, D_n, e_n, f_n, g_n, rfl, rfl, rfl, rfl, by omega, l_l_BW0, l_n_BW0, B_l.out, B_n.out, B_a.out, Q_l.out, Q_n.out, BW0.out, hB⟩)
      refine AllReadyH.cons (by simp only [List.getElem?_toArray, List.getElem?_cons_succ, List.getElem?_cons_zero]; rfl) (fun K hK => ?_) ?_
      go_simp
      clear hHeld
      obtain ⟨A97, g_l, hV, hg, NB, hb⟩ := newR w94 (.bool false) (.slice none 0 0) (.slice none 0 0)
      rw [hV, hg]
      clear hV
      have l_l_a : w.heap.size < g_l := hg ▸ B_a.out.lt
      have l_l_n : g_n < g_l := hg ▸ B_n.out.lt
      have l_l_BW0 := hg ▸ BW0.out.size
      replace R_a := Lib.hid (R_a.out.below hb)
      replace BW0 := Lib.hid (BW0.out.below hb)
      replace Z_f := Lib.hid (Z_f.out.below hb)
      replace Q_l := Lib.hid (Q_l.out.below hb)
      replace Z_r := Lib.hid (Z_r.out.below hb)
      replace B_a := Lib.hid (B_a.out.below hb)
      replace B_n := Lib.hid (B_n.out.below hb)
      replace hB := below_next hB hb
      have B_l := NB
      clear NB hb hg
      refine hK.out _ _ (by exact B_a.out.c3) (fun hHeld => ?_)
      clear hK K
      try simp only [Act.put, List.setIfInBounds_toArray, List.set_cons_zero, List.set_cons_succ]
      refine wpAnyH_ready (rs := [5]) (by kernel_rfl) (by simp) ?_
      refine AllReadyH.cons (by simp only [List.getElem?_toArray, List.getElem?_cons_succ, List.getElem?_cons_zero]; rfl) (fun K hK => ?_) AllReadyH.nil
      go_simp
      clear hHeld
      refine (lof_any _ _ _ _ _ _ (by exact Z_r.out)).mono ?_
      rintro e w98 ⟨b_n, A_n, n_n, c_n, D_n, e_n, f_n, rfl, h_n, hb⟩
      replace R_a := Lib.hid (R_a.out.below hb)
      replace BW0 := Lib.hid (BW0.out.below hb)
      replace Z_f := Lib.hid (Z_f.out.below hb)
      replace Q_l := Lib.hid (Q_l.out.below hb)
      replace Z_r := Lib.hid (Z_r.out.below hb)
      replace B_a := Lib.hid (B_a.out.below hb)
      replace B_n := Lib.hid (B_n.out.below hb)
      replace B_l := Lib.hid (B_l.out.below hb)
      replace hB := below_next hB hb
      clear hb
      have Q_n := Lib.hid h_n
      clear h_n
      go_wp2_with fail
      refine hK.out _ _ (by exact B_a.out.c3) (fun hHeld => ?_)
      clear hK K
      try simp only [Act.put, List.setIfInBounds_toArray, List.set_cons_zero, List.set_cons_succ]
      exact wpAnyH_atQ #[true, true, true, true, true, true, true, true, false, false] (by kernel_rfl) (KEY.out _ _ _ _ _ _ _ ⟨b_l, A_l, n_l, c_l, D_l, e_l, f_l, g_l, b_n, A_n, n_n, c_n, D_n, e_n, f_n, g_n, rfl, rfl, rfl, rfl, by omega, l_l_BW0, l_n_BW0, B_l.out, B_n.out, B_a.out, Q_l.out, Q_n.out, BW0.out, hB⟩)
      exact AllReadyH.nil
      refine AllReadyH.cons (by simp only [List.getElem?_toArray, List.getElem?_cons_succ, List.getElem?_cons_zero]; rfl) (fun K hK => ?_) ?_
      go_simp
      clear hHeld
      obtain ⟨A99, g_l, hV, hg, NB, hb⟩ := newR w93 (.bool false) (.slice none 0 0) (.slice none 0 0)
      rw [hV, hg]
      clear hV
      have l_l_a : w.heap.size < g_l := hg ▸ B_a.out.lt
      have l_l_n : g_n < g_l := hg ▸ B_n.out.lt
      have l_l_BW0 := hg ▸ BW0.out.size
      replace R_a := Lib.hid (R_a.out.below hb)
      replace BW0 := Lib.hid (BW0.out.below hb)
      replace Z_f := Lib.hid (Z_f.out.below hb)
      replace Q_l := Lib.hid (Q_l.out.below hb)
      replace B_a := Lib.hid (B_a.out.below hb)
      replace B_n := Lib.hid (B_n.out.below hb)
      replace hB := below_next hB hb
      have B_l := NB
      clear NB hb hg
      refine hK.out _ _ (by exact B_a.out.c3) (fun hHeld => ?_)
      clear hK K
      try simp only [Act.put, List.setIfInBounds_toArray, List.set_cons_zero, List.set_cons_succ]
      refine wpAnyH_ready (rs := [4]) (by kernel_rfl) (by simp) ?_
      refine AllReadyH.cons (by simp only [List.getElem?_toArray, List.getElem?_cons_succ, List.getElem?_cons_zero]; rfl) (fun K hK => ?_) AllReadyH.nil
      go_simp
      clear hHeld
      refine (qround_any _ _ _ _ 8 _ (by exact R_a.out) (by omega) (by omega)).mono ?_
      rintro e w100 ⟨b_r, A_r, n_r, c_r, rfl, h_r, hb⟩
      replace R_a := Lib.hid (R_a.out.below hb)
      replace BW0 := Lib.hid (BW0.out.below hb)
      replace Z_f := Lib.hid (Z_f.out.below hb)
      replace Q_l := Lib.hid (Q_l.out.below hb)
      replace B_a := Lib.hid (B_a.out.below hb)
      replace B_n := Lib.hid (B_n.out.below hb)
      replace B_l := Lib.hid (B_l.out.below hb)
      replace hB := below_next hB hb
      clear hb
      have Z_r := Lib.hid h_r
      clear h_r
      go_wp2_with fail
      refine hK.out _ _ (by exact B_a.out.c3) (fun hHeld => ?_)
      clear hK K
      try simp only [Act.put, List.setIfInBounds_toArray, List.set_cons_zero, List.set_cons_succ]
      refine wpAnyH_ready (rs := [5]) (by kernel_rfl) (by simp) ?_
      refine AllReadyH.cons (by simp only [List.getElem?_toArray, List.getElem?_cons_succ, List.getElem?_cons_zero]; rfl) (fun K hK => ?_) AllReadyH.nil
      go_simp
      clear hHeld
      refine (lof_any _ _ _ _ _ _ (by exact Z_r.out)).mono ?_
      rintro e w101 ⟨b_n, A_n, n_n, c_n, D_n, e_n, f_n, rfl, h_n, hb⟩
      replace R_a := Lib.hid (R_a.out.below hb)
      replace BW0 := Lib.hid (BW0.out.below hb)
      replace Z_f := Lib.hid (Z_f.out.below hb)
      replace Q_l := Lib.hid (Q_l.out.below hb)
      replace Z_r := Lib.hid (Z_r.out.below hb)
      replace B_a := Lib.hid (B_a.out.below hb)
      replace B_n := Lib.hid (B_n.out.below hb)
      replace B_l := Lib.hid (B_l.out.below hb)
      replace hB := below_next hB hb
      clear hb
      have Q_n := Lib.hid h_n
      clear h_n
      go_wp2_with fail
      refine hK.out _ _ (by exact B_a.out.c3) (fun hHeld => ?_)
      clear hK K
      try simp only [Act.put, List.setIfInBounds_toArray, List.set_cons_zero, List.set_cons_succ]
      exact wpAnyH_atQ #[true, true, true, true, true, true, true, true, false, false] (by kernel_rfl) (KEY.out _ _ _ _ _ _ _ ⟨b_l, A_l, n_l, c_l, D_l, e_l, f_l, g_l, b_n, A_n, n_n, c_n, D_n, e_n, f_n, g_n, rfl, rfl, rfl, rfl, by omega, l_l_BW0, l_n_BW0, B_l.out, B_n.out, B_a.out, Q_l.out, Q_n.out, BW0.out, hB⟩)
      exact AllReadyH.nil
      refine AllReadyH.cons (by simp only [List.getElem?_toArray, List.getElem?_cons_succ, List.getElem?_cons_zero]; rfl) (fun K hK => ?_) ?_
      go_simp
      clear hHeld
      obtain ⟨A102, g_l, hV, hg, NB, hb⟩ := newR w92 (.bool false) (.slice none 0 0) (.slice none 0 0)
      rw [hV, hg]
      clear hV
      have l_l_a : w.heap.size < g_l := hg ▸ B_a.out.lt
      have l_l_n : g_n < g_l := hg ▸ B_n.out.lt
      have l_l_BW0 := hg ▸ BW0.out.size
      replace R_a := Lib.hid (R_a.out.below hb)
      replace BW0 := Lib.hid (BW0.out.below hb)
      replace Z_f := Lib.hid (Z_f.out.below hb)
      replace B_a := Lib.hid (B_a.out.below hb)
      replace B_n := Lib.hid (B_n.out.below hb)
      replace hB := below_next hB hb
      have B_l := NB
      clear NB hb hg
      refine hK.out _ _ (by exact B_a.out.c3) (fun hHeld => ?_)
      clear hK K
      try simp only [Act.put, List.setIfInBounds_toArray, List.set_cons_zero, List.set_cons_succ]
      refine wpAnyH_ready (rs := [2]) (by kernel_rfl) (by simp) ?_
      refine AllReadyH.cons (by simp only [List.getElem?_toArray, List.getElem?_cons_succ, List.getElem?_cons_zero]; rfl) (fun K hK => ?_) AllReadyH.nil
      go_simp
      clear hHeld
      refine (lof_any _ _ _ _ _ _ (by exact Z_f.out)).mono ?_
      rintro e w103 ⟨b_l, A_l, n_l, c_l, D_l, e_l, f_l, rfl, h_l, hb⟩
      replace R_a := Lib.hid (R_a.out.below hb)
      replace BW0 := Lib.hid (BW0.out.below hb)
      replace Z_f := Lib.hid (Z_f.out.below hb)
      replace B_a := Lib.hid (B_a.out.below hb)
      replace B_n := Lib.hid (B_n.out.below hb)
      replace B_l := Lib.hid (B_l.out.below hb)
      replace hB := below_next hB hb
      clear hb
      have Q_l := Lib.hid h_l
      clear h_l
      go_wp2_with fail
      refine hK.out _ _ (by exact B_a.out.c3) (fun hHeld => ?_)
      clear hK K
      try simp only [Act.put, List.setIfInBounds_toArray, List.set_cons_zero, List.set_cons_succ]
      refine wpAnyH_ready (rs := [4]) (by kernel_rfl) (by simp) ?_
      refine AllReadyH.cons (by simp only [List.getElem?_toArray, List.getElem?_cons_succ, List.getElem?_cons_zero]; rfl) (fun K hK => ?_) AllReadyH.nil
      go_simp
      clear hHeld
      refine (qround_any _ _ _ _ 8 _ (by exact R_a.out) (by omega) (by omega)).mono ?_
      rintro e w104 ⟨b_r, A_r, n_r, c_r, rfl, h_r, hb⟩
      replace R_a := Lib.hid (R_a.out.below hb)
      replace BW0 := Lib.hid (BW0.out.below hb)
      replace Z_f := Lib.hid (Z_f.out.below hb)
      replace Q_l := Lib.hid (Q_l.out.below hb)
      replace B_a := Lib.hid (B_a.out.below hb)
      replace B_n := Lib.hid (B_n.out.below hb)
      replace B_l := Lib.hid (B_l.out.below hb)
      replace hB := below_next hB hb
      clear hb
      have Z_r := Lib.hid h_r
      clear h_r
      go_wp2_with fail
      refine hK.out _ _ (by exact B_a.out.c3) (fun hHeld => ?_)
      clear hK K
      try simp only [Act.put, List.setIfInBounds_toArray, List.set_cons_zero, List.set_cons_succ]
      refine wpAnyH_ready (rs := [5]) (by kernel_rfl) (by simp) ?_
      refine AllReadyH.cons (by simp only [List.getElem?_toArray, List.getElem?_cons_succ, List.getElem?_cons_zero]; rfl) (fun K hK => ?_) AllReadyH.nil
      go_simp
      clear hHeld
      refine (lof_any _ _ _ _ _ _ (by exact Z_r.out)).mono ?_
      rintro e w105 ⟨b_n, A_n, n_n, c_n, D_n, e_n, f_n, rfl, h_n, hb⟩
      replace R_a := Lib.hid (R_a.out.below hb)
      replace BW0 := Lib.hid (BW0.out.below hb)
      replace Z_f := Lib.hid (Z_f.out.below hb)
      replace Q_l := Lib.hid (Q_l.out.below hb)
      replace Z_r := Lib.hid (Z_r.out.below hb)
      replace B_a := Lib.hid (B_a.out.below hb)
      replace B_n := Lib.hid (B_n.out.below hb)
      replace B_l := Lib.hid (B_l.out.below hb)
      replace hB := below_next hB hb
      clear hb
      have Q_n := Lib.hid h_n
      clear h_n
      go_wp2_with fail
      refine hK.out _ _ (by exact B_a.out.c3) (fun hHeld => ?_)
      clear hK K
      try simp only [Act.put, List.setIfInBounds_toArray, List.set_cons_zero, List.set_cons_succ]
      exact wpAnyH_atQ #[true, true, true, true, true, true, true, true, false, false] (by kernel_rfl) (KEY.out _ _ _ _ _ _ _ ⟨b_l, A_l, n_l, c_l, D_l, e_l, f_l, g_l, b_n, A_n, n_n, c_n, D_n, e_n, f_n, g_n, rfl, rfl, rfl, rfl, by omega, l_l_BW0, l_n_BW0, B_l.out, B_n.out, B_a.out, Q_l.out, Q_n.out, BW0.out, hB⟩)
      exact AllReadyH.nil
      refine AllReadyH.cons (by simp only [List.getElem?_toArray, List.getElem?_cons_succ, List.getElem?_cons_zero]; rfl) (fun K hK => ?_) ?_
      go_simp
      clear hHeld
      obtain ⟨A106, g_l, hV, hg, NB, hb⟩ := newR A91 (.bool false) (.slice none 0 0) (.slice none 0 0)
      rw [hV, hg]
      clear hV
      have l_l_a : w.heap.size < g_l := hg ▸ B_a.out.lt
      have l_l_n : g_n < g_l := hg ▸ B_n.out.lt
      have l_l_BW0 := hg ▸ BW0.out.size
      replace R_a := Lib.hid (R_a.out.below hb)
      replace BW0 := Lib.hid (BW0.out.below hb)
      replace B_a := Lib.hid (B_a.out.below hb)
      replace B_n := Lib.hid (B_n.out.below hb)
      replace hB := below_next hB hb
      have B_l := NB
      clear NB hb hg
      refine hK.out _ _ (by exact B_a.out.c3) (fun hHeld => ?_)
      clear hK K
      try simp only [Act.put, List.setIfInBounds_toArray, List.set_cons_zero, List.set_cons_succ]
      refine wpAnyH_ready (rs := [1]) (by kernel_rfl) (by simp) ?_
      refine AllReadyH.cons (by simp only [List.getElem?_toArray, List.getElem?_cons_succ, List.getElem?_cons_zero]; rfl) (fun K hK => ?_) AllReadyH.nil
      go_simp
      clear hHeld
      refine (qfloor_any _ _ _ _ 8 _ (by exact R_a.out) (by omega) (by omega)).mono ?_
      rintro e w107 ⟨b_f, A_f, n_f, c_f, rfl, h_f, hb⟩
      replace R_a := Lib.hid (R_a.out.below hb)
      replace BW0 := Lib.hid (BW0.out.below hb)
      replace B_a := Lib.hid (B_a.out.below hb)
      replace B_n := Lib.hid (B_n.out.below hb)
      replace B_l := Lib.hid (B_l.out.below hb)
      replace hB := below_next hB hb
      clear hb
      have Z_f := Lib.hid h_f
      clear h_f
      go_wp2_with fail
      refine hK.out _ _ (by exact B_a.out.c3) (fun hHeld => ?_)
      clear hK K
      try simp only [Act.put, List.setIfInBounds_toArray, List.set_cons_zero, List.set_cons_succ]
      refine wpAnyH_ready (rs := [2]) (by kernel_rfl) (by simp) ?_
      refine AllReadyH.cons (by simp only [List.getElem?_toArray, List.getElem?_cons_succ, List.getElem?_cons_zero]; rfl) (fun K hK => ?_) AllReadyH.nil
      go_simp
      clear hHeld
      refine (lof_any _ _ _ _ _ _ (by exact Z_f.out)).mono ?_
      rintro e w108 ⟨b_l, A_l, n_l, c_l, D_l, e_l, f_l, rfl, h_l, hb⟩
      replace R_a := Lib.hid (R_a.out.below hb)
      replace BW0 := Lib.hid (BW0.out.below hb)
      replace Z_f := Lib.hid (Z_f.out.below hb)
      replace B_a := Lib.hid (B_a.out.below hb)
      replace B_n := Lib.hid (B_n.out.below hb)
      replace B_l := Lib.hid (B_l.out.below hb)
      replace hB := below_next hB hb
      clear hb
      have Q_l := Lib.hid h_l
      clear h_l
      go_wp2_with fail
      refine hK.out _ _ (by exact B_a.out.c3) (fun hHeld => ?_)
      clear hK K
      try simp only [Act.put, List.setIfInBounds_toArray, List.set_cons_zero, List.set_cons_succ]
      refine wpAnyH_ready (rs := [4]) (by kernel_rfl) (by simp) ?_
      refine AllReadyH.cons (by simp only [List.getElem?_toArray, List.getElem?_cons_succ, List.getElem?_cons_zero]; rfl) (fun K hK => ?_) AllReadyH.nil
      go_simp
      clear hHeld
      refine (qround_any _ _ _ _ 8 _ (by exact R_a.out) (by omega) (by omega)).mono ?_
      rintro e w109 ⟨b_r, A_r, n_r, c_r, rfl, h_r, hb⟩
      replace R_a := Lib.hid (R_a.out.below hb)
      replace BW0 := Lib.hid (BW0.out.below hb)
      replace Z_f := Lib.hid (Z_f.out.below hb)
      replace Q_l := Lib.hid (Q_l.out.below hb)
      replace B_a := Lib.hid (B_a.out.below hb)
      replace B_n := Lib.hid (B_n.out.below hb)
      replace B_l := Lib.hid (B_l.out.below hb)
      replace hB := below_next hB hb
      clear hb
      have Z_r := Lib.hid h_r
      clear h_r
      go_wp2_with fail
      refine hK.out _ _ (by exact B_a.out.c3) (fun hHeld => ?_)
      clear hK K
      try simp only [Act.put, List.setIfInBounds_toArray, List.set_cons_zero, List.set_cons_succ]
      refine wpAnyH_ready (rs := [5]) (by kernel_rfl) (by simp) ?_
      refine AllReadyH.cons (by simp only [List.getElem?_toArray, List.getElem?_cons_succ, List.getElem?_cons_zero]; rfl) (fun K hK => ?_) AllReadyH.nil
      go_simp
      clear hHeld
      refine (lof_any _ _ _ _ _ _ (by exact Z_r.out)).mono ?_
      rintro e w110 ⟨b_n, A_n, n_n, c_n, D_n, e_n, f_n, rfl, h_n, hb⟩
      replace R_a := Lib.hid (R_a.out.below hb)
      replace BW0 := Lib.hid (BW0.out.below hb)
      replace Z_f := Lib.hid (Z_f.out.below hb)
      replace Q_l := Lib.hid (Q_l.out.below hb)
      replace Z_r := Lib.hid (Z_r.out.below hb)
      replace B_a := Lib.hid (B_a.out.below hb)
      replace B_n := Lib.hid (B_n.out.below hb)
      replace B_l := Lib.hid (B_l.out.below hb)
      replace hB := below_next hB hb
      clear hb
      have Q_n := Lib.hid h_n
      clear h_n
      go_wp2_with fail
      refine hK.out _ _ (by exact B_a.out.c3) (fun hHeld => ?_)
      clear hK K
      try simp only [Act.put, List.setIfInBounds_toArray, List.set_cons_zero, List.set_cons_succ]
      exact wpAnyH_atQ #[true, true, true, true, true, true, true, true, false, false] (by kernel_rfl) (KEY.out _ _ _ _ _ _ _ ⟨b_l, A_l, n_l, c_l, D_l, e_l, f_l, g_l, b_n, A_n, n_n, c_n, D_n, e_n, f_n, g_n, rfl, rfl, rfl, rfl, by omega, l_l_BW0, l_n_BW0, B_l.out, B_n.out, B_a.out, Q_l.out, Q_n.out, BW0.out, hB⟩)
      exact AllReadyH.nil
      exact AllReadyH.nil
    · rintro _ _ _ _ _ _ K9 ⟨b_l, A_l, n_l, c_l, D_l, e_l, f_l, g_l, b_n, A_n, n_n, c_n, D_n, e_n, f_n, g_n, rfl, rfl, rfl, rfl, ne, hl, hn, yl, yn, ya, xl, xn, bw, hB9⟩
      clear R_a BW0 B_a hB
      have hB := hB9
      have B_a := Lib.hid ya
      have B_l := Lib.hid yl
      have B_n := Lib.hid yn
      have Q_l := Lib.hid xl
      have Q_n := Lib.hid xn
      have BW0 := Lib.hid bw
      have hlw := Nat.le_trans BWs hl
      have hnw := Nat.le_trans BWs hn
      have hal := Nat.lt_of_lt_of_le BWa hl
      have han := Nat.lt_of_lt_of_le BWa hn
      clear yl yn ya xl xn bw hB9
      try simp only [Act.put, List.setIfInBounds_toArray, List.set_cons_zero, List.set_cons_succ]
      refine wpAnyH_ready (rs := [8]) (by kernel_rfl) (by simp) ?_
      refine AllReadyH.cons (by simp only [List.getElem?_toArray, List.getElem?_cons_succ, List.getElem?_cons_zero]; rfl) (fun K hK => ?_) AllReadyH.nil
      have c_a0 := B_a.out.cell0
      have c_a1 := B_a.out.cell1
      have c_a2 := B_a.out.cell2
      have c_l0 := B_l.out.cell0
      have c_l1 := B_l.out.cell1
      have c_l2 := B_l.out.cell2
      have f_l0 := B_l.out.fro 0
      have f_l1 := B_l.out.fro 1
      have f_l2 := B_l.out.fro 2
      have c_n0 := B_n.out.cell0
      have c_n1 := B_n.out.cell1
      have c_n2 := B_n.out.cell2
      go_simp
      clear c_a0 c_a1 c_a2 c_l0 c_l1 c_l2 f_l0 f_l1 f_l2 c_n0 c_n1 c_n2
      clear hHeld
      obtain ⟨V111, hV, NB, KP⟩ := storeR B_l.out (.bool b_l) (.slice A_l n_l c_l) (.slice D_l e_l f_l)
      rw [hV]
      clear hV
      replace BW0 := Lib.hid (BW0.out.keeps KP.out (by omega))
      replace Q_l := Lib.hid (Q_l.out.keeps KP.out)
      replace Q_n := Lib.hid (Q_n.out.keeps KP.out)
      replace B_a := Lib.hid (B_a.out.keeps KP.out (by omega))
      replace B_n := Lib.hid (B_n.out.keeps KP.out (by omega))
      replace hB := below_keeps hB KP.out (by omega)
      have B_l := NB
      clear NB KP
      refine hK.out _ _ (by exact B_a.out.c3) (fun hHeld => ?_)
      clear hK K
      try simp only [List.setIfInBounds_toArray, List.set_cons_zero, List.set_cons_succ]
      refine wpAnyH_ready (rs := [9]) (by kernel_rfl) (by simp) ?_
      refine AllReadyH.cons (by simp only [List.getElem?_toArray, List.getElem?_cons_succ, List.getElem?_cons_zero]; rfl) (fun K hK => ?_) AllReadyH.nil
      have c_a0 := B_a.out.cell0
      have c_a1 := B_a.out.cell1
      have c_a2 := B_a.out.cell2
      have c_l0 := B_l.out.cell0
      have c_l1 := B_l.out.cell1
      have c_l2 := B_l.out.cell2
      have c_n0 := B_n.out.cell0
      have c_n1 := B_n.out.cell1
      have c_n2 := B_n.out.cell2
      have f_n0 := B_n.out.fro 0
      have f_n1 := B_n.out.fro 1
      have f_n2 := B_n.out.fro 2
      go_simp
      clear c_a0 c_a1 c_a2 c_l0 c_l1 c_l2 c_n0 c_n1 c_n2 f_n0 f_n1 f_n2
      clear hHeld
      obtain ⟨V112, hV, NB, KP⟩ := storeR B_n.out (.bool b_n) (.slice A_n n_n c_n) (.slice D_n e_n f_n)
      rw [hV]
      clear hV
      replace BW0 := Lib.hid (BW0.out.keeps KP.out (by omega))
      replace Q_l := Lib.hid (Q_l.out.keeps KP.out)
      replace Q_n := Lib.hid (Q_n.out.keeps KP.out)
      replace B_a := Lib.hid (B_a.out.keeps KP.out (by omega))
      replace B_l := Lib.hid (B_l.out.keeps KP.out (by omega))
      replace hB := below_keeps hB KP.out (by omega)
      have B_n := NB
      clear NB KP
      refine hK.out _ _ (by exact B_a.out.c3) (fun hHeld => ?_)
      clear hK K
      try simp only [List.setIfInBounds_toArray, List.set_cons_zero, List.set_cons_succ]
      refine wpAnyH_done (by kernel_rfl) (NoPanic.normal ?_) _
      clear hHeld
      go_wp2_with fail
      go_meet
      exact ⟨b_l, A_l, n_l, c_l, D_l, e_l, f_l, g_l, b_n, A_n, n_n, c_n, D_n, e_n, f_n, g_n, rfl, rfl, B_l.out, B_n.out, Q_l.out, Q_n.out, BW0.out, hB⟩
  case rest =>
    obtain ⟨b_l, A_l, n_l, c_l, D_l, e_l, f_l, g_l, b_n, A_n, n_n, c_n, D_n, e_n, f_n, g_n, rfl, rfl, yl, yn, xl, xn, bw, -⟩ := hcut
    have hb : Below _ _ _ := bw
    replace HT := Lib.hid (HT.out.below hb)
    replace R_a := Lib.hid (R_a.out.below hb)
    replace Q_o := Lib.hid (Q_o.out.below hb)
    replace Q_h := Lib.hid (Q_h.out.below hb)
    replace B_a := Lib.hid (B_a.out.below hb)
    replace B_o := Lib.hid (B_o.out.below hb)
    replace B_h := Lib.hid (B_h.out.below hb)
    replace hB := below_next hB hb
    have B_l := Lib.hid yl
    have B_n := Lib.hid yn
    have Q_l := Lib.hid xl
    have Q_n := Lib.hid xn
    clear yl yn xl xn bw hb
    have S_l : QSz (q_a.floor : Rat) 9 := floor_sz S_a
    have S_n : QSz (qround q_a : Rat) 9 := round_sz S_a
    have c_a0 := B_a.out.cell0
    have c_a1 := B_a.out.cell1
    have c_a2 := B_a.out.cell2
    have c_o0 := B_o.out.cell0
    have c_o1 := B_o.out.cell1
    have c_o2 := B_o.out.cell2
    have c_h0 := B_h.out.cell0
    have c_h1 := B_h.out.cell1
    have c_h2 := B_h.out.cell2
    have c_l0 := B_l.out.cell0
    have c_l1 := B_l.out.cell1
    have c_l2 := B_l.out.cell2
    have c_n0 := B_n.out.cell0
    have c_n1 := B_n.out.cell1
    have c_n2 := B_n.out.cell2
    go_wp2_with fail
    clear c_a0 c_a1 c_a2 c_o0 c_o1 c_o2 c_h0 c_h1 c_h2 c_l0 c_l1 c_l2 c_n0 c_n1 c_n2
    refine wp_region_named (S := (fun w' => (w'.cell? ⟨g_l, 0, none⟩ = some (.bool b_l) ∧ w'.cell? ⟨g_l, 1, none⟩ = some (.slice A_l n_l c_l) ∧ w'.cell? ⟨g_l, 2, none⟩ = some (.slice D_l e_l f_l)) ∧ (w'.cell? ⟨w.heap.size, 0, none⟩ = some (.bool b_a) ∧ w'.cell? ⟨w.heap.size, 1, none⟩ = some m_a ∧ w'.cell? ⟨w.heap.size, 2, none⟩ = some d_a) ∧ (w'.cell? ⟨g_o, 0, none⟩ = some (.bool b_o) ∧ w'.cell? ⟨g_o, 1, none⟩ = some (.slice A_o n_o c_o) ∧ w'.cell? ⟨g_o, 2, none⟩ = some (.slice D_o e_o f_o)))) (by kernel_rfl) (by exact ⟨B_l.out.c3, B_a.out.c3, B_o.out.c3⟩) (fun V113 hb hHeld => ?_)
    replace HT := Lib.hid (HT.out.below hb)
    replace R_a := Lib.hid (R_a.out.below hb)
    replace Q_o := Lib.hid (Q_o.out.below hb)
    replace Q_h := Lib.hid (Q_h.out.below hb)
    replace Q_l := Lib.hid (Q_l.out.below hb)
    replace Q_n := Lib.hid (Q_n.out.below hb)
    replace B_a := Lib.hid (B_a.out.below hb)
    replace B_o := Lib.hid (B_o.out.below hb)
    replace B_h := Lib.hid (B_h.out.below hb)
    replace B_l := Lib.hid (B_l.out.below hb)
    replace B_n := Lib.hid (B_n.out.below hb)
    replace hB := below_next hB hb
    clear hb
    refine wpAnyH_takeQ 0 (v := ?_) (fun _ _ _ _ _ h => h) (by simp only [List.getElem?_toArray, List.getElem?_cons_zero]; rfl) (by kernel_rfl) (by kernel_rfl) (by kernel_rfl) (by rfl) ?_ hHeld ?_; rotate_left; · (intro w hSw; (try dsimp only at hSw); go_simp; (try with_reducible rfl))
    try simp only [Act.put, List.setIfInBounds_toArray, List.set_cons_zero, List.set_cons_succ]
    refine wpAnyH_takeQ 1 (v := ?_) (fun _ _ _ _ _ h => h) (by simp only [List.getElem?_toArray, List.getElem?_cons_succ, List.getElem?_cons_zero]; rfl) (by kernel_rfl) (by kernel_rfl) (by kernel_rfl) (by rfl) ?_ hHeld ?_; rotate_left; · (intro w hSw; (try dsimp only at hSw); go_simp; (try with_reducible rfl))
    try simp only [Act.put, List.setIfInBounds_toArray, List.set_cons_zero, List.set_cons_succ]
    refine wpAnyH_ready (rs := [2]) (by kernel_rfl) (by simp) ?_
    refine AllReadyH.cons (by simp only [List.getElem?_toArray, List.getElem?_cons_succ, List.getElem?_cons_zero]; rfl) (fun K hK => ?_) AllReadyH.nil
    go_simp
    clear hHeld
    refine (qcmp_le (k := 9) (j := 8) (by exact Q_l.out.rat S_l) (by exact R_a.out) (by omega) (by omega) (by omega) (by omega) (Rat.floor_le _)).mono ?_
    rintro e w114 ⟨oc1, rfl, hoc1, hb⟩
    replace HT := Lib.hid (HT.out.below hb)
    replace R_a := Lib.hid (R_a.out.below hb)
    replace Q_o := Lib.hid (Q_o.out.below hb)
    replace Q_h := Lib.hid (Q_h.out.below hb)
    replace Q_l := Lib.hid (Q_l.out.below hb)
    replace Q_n := Lib.hid (Q_n.out.below hb)
    replace B_a := Lib.hid (B_a.out.below hb)
    replace B_o := Lib.hid (B_o.out.below hb)
    replace B_h := Lib.hid (B_h.out.below hb)
    replace B_l := Lib.hid (B_l.out.below hb)
    replace B_n := Lib.hid (B_n.out.below hb)
    replace hB := below_next hB hb
    clear hb
    have foc1 : decide ((0 : Int) < oc1) = false := (by simp; omega)
    go_wp2_with fail
    refine hK.out _ _ (by exact ⟨B_l.out.c3, B_a.out.c3, B_o.out.c3⟩) (fun hHeld => ?_)
    clear hK K
    try simp only [Act.put, List.setIfInBounds_toArray, List.set_cons_zero, List.set_cons_succ]
    refine wpAnyH_takeQ 3 (v := ?_) (fun _ _ _ _ _ h => h) (by simp only [List.getElem?_toArray, List.getElem?_cons_succ, List.getElem?_cons_zero]; rfl) (by kernel_rfl) (by kernel_rfl) (by kernel_rfl) (by rfl) ?_ hHeld ?_; rotate_left; · (intro w hSw; (try dsimp only at hSw); go_simp; (try with_reducible rfl))
    try simp only [Act.put, List.setIfInBounds_toArray, List.set_cons_zero, List.set_cons_succ]
    refine wpAnyH_takeQ 4 (v := ?_) (fun _ _ _ _ _ h => h) (by simp only [List.getElem?_toArray, List.getElem?_cons_succ, List.getElem?_cons_zero]; rfl) (by kernel_rfl) (by kernel_rfl) (by kernel_rfl) (by rfl) ?_ hHeld ?_; rotate_left; · (intro w hSw; (try dsimp only at hSw); go_simp; (try with_reducible rfl))
    try simp only [Act.put, List.setIfInBounds_toArray, List.set_cons_zero, List.set_cons_succ]
    refine wpAnyH_takeQ 5 (v := ?_) (fun _ _ _ _ _ h => h) (by simp only [List.getElem?_toArray, List.getElem?_cons_succ, List.getElem?_cons_zero]; rfl) (by kernel_rfl) (by kernel_rfl) (by kernel_rfl) (by rfl) ?_ hHeld ?_; rotate_left; · (intro w hSw; (try dsimp only at hSw); go_simp; (try with_reducible rfl))
    try simp only [Act.put, List.setIfInBounds_toArray, List.set_cons_zero, List.set_cons_succ]
    refine wpAnyH_takeQ 6 (v := ?_) (fun _ _ _ _ _ h => h) (by simp only [List.getElem?_toArray, List.getElem?_cons_succ, List.getElem?_cons_zero]; rfl) (by kernel_rfl) (by kernel_rfl) (by kernel_rfl) (by rfl) ?_ hHeld ?_; rotate_left; · (intro w hSw; (try dsimp only at hSw); go_simp; (try with_reducible rfl))
    try simp only [Act.put, List.setIfInBounds_toArray, List.set_cons_zero, List.set_cons_succ]
    refine wpAnyH_takeQ 7 (v := ?_) (fun _ _ _ _ _ h => h) (by simp only [List.getElem?_toArray, List.getElem?_cons_succ, List.getElem?_cons_zero]; rfl) (by kernel_rfl) (by kernel_rfl) (by kernel_rfl) (by rfl) ?_ hHeld ?_; rotate_left; · (intro w hSw; (try dsimp only at hSw); go_simp; (try with_reducible rfl))
    try simp only [Act.put, List.setIfInBounds_toArray, List.set_cons_zero, List.set_cons_succ]
    refine wpAnyH_ready (rs := [8]) (by kernel_rfl) (by simp) ?_
    refine AllReadyH.cons (by simp only [List.getElem?_toArray, List.getElem?_cons_succ, List.getElem?_cons_zero]; rfl) (fun K hK => ?_) AllReadyH.nil
    go_simp
    clear hHeld
    refine (qadd_any _ _ _ _ 9 _ _ _ _ 1 _ (by exact Q_l.out.rat S_l) (by exact Q_o.out.rat qsz1) (by omega) (by omega) (by omega) (by omega)).mono ?_
    rintro e w115 ⟨b_p, A_p, n_p, c_p, D_p, e_p, f_p, rfl, h_p, hb⟩
    replace HT := Lib.hid (HT.out.below hb)
    replace R_a := Lib.hid (R_a.out.below hb)
    replace Q_o := Lib.hid (Q_o.out.below hb)
    replace Q_h := Lib.hid (Q_h.out.below hb)
    replace Q_l := Lib.hid (Q_l.out.below hb)
    replace Q_n := Lib.hid (Q_n.out.below hb)
    replace B_a := Lib.hid (B_a.out.below hb)
    replace B_o := Lib.hid (B_o.out.below hb)
    replace B_h := Lib.hid (B_h.out.below hb)
    replace B_l := Lib.hid (B_l.out.below hb)
    replace B_n := Lib.hid (B_n.out.below hb)
    replace hB := below_next hB hb
    clear hb
    have Q_p := Lib.hid h_p
    clear h_p
    go_wp2_with fail
    refine hK.out _ _ (by exact ⟨B_l.out.c3, B_a.out.c3, B_o.out.c3⟩) (fun hHeld => ?_)
    clear hK K
    try simp only [Act.put, List.setIfInBounds_toArray, List.set_cons_zero, List.set_cons_succ]
    refine wpAnyH_ready (rs := [9]) (by kernel_rfl) (by simp) ?_
    refine AllReadyH.cons (by simp only [List.getElem?_toArray, List.getElem?_cons_succ, List.getElem?_cons_zero]; rfl) (fun K hK => ?_) AllReadyH.nil
    go_simp
    clear hHeld
    refine (qcmp_is (k := 8) (j := 11) (v := (-1)) (by exact R_a.out) (by exact Q_p.out.rat ((S_l.add qsz1).more (by omega))) (by omega) (by omega) (by omega) (by omega) (by exact qord_lt (floor_hi _))).mono ?_
    rintro e w116 ⟨rfl, hb⟩
    replace HT := Lib.hid (HT.out.below hb)
    replace R_a := Lib.hid (R_a.out.below hb)
    replace Q_o := Lib.hid (Q_o.out.below hb)
    replace Q_h := Lib.hid (Q_h.out.below hb)
    replace Q_l := Lib.hid (Q_l.out.below hb)
    replace Q_n := Lib.hid (Q_n.out.below hb)
    replace Q_p := Lib.hid (Q_p.out.below hb)
    replace B_a := Lib.hid (B_a.out.below hb)
    replace B_o := Lib.hid (B_o.out.below hb)
    replace B_h := Lib.hid (B_h.out.below hb)
    replace B_l := Lib.hid (B_l.out.below hb)
    replace B_n := Lib.hid (B_n.out.below hb)
    replace hB := below_next hB hb
    clear hb
    go_wp2_with fail
    refine hK.out _ _ (by exact ⟨B_l.out.c3, B_a.out.c3, B_o.out.c3⟩) (fun hHeld => ?_)
    clear hK K
    try simp only [Act.put, List.setIfInBounds_toArray, List.set_cons_zero, List.set_cons_succ]
    refine wpAnyH_takeQ 10 (v := ?_) (fun _ _ _ _ _ h => h) (by simp only [List.getElem?_toArray, List.getElem?_cons_succ, List.getElem?_cons_zero]; rfl) (by kernel_rfl) (by kernel_rfl) (by kernel_rfl) (by rfl) ?_ hHeld ?_; rotate_left; · (intro w hSw; (try dsimp only at hSw); go_simp; (try with_reducible rfl))
    try simp only [Act.put, List.setIfInBounds_toArray, List.set_cons_zero, List.set_cons_succ]
    refine wpAnyH_takeQ 11 (v := ?_) (fun _ _ _ _ _ h => h) (by simp only [List.getElem?_toArray, List.getElem?_cons_succ, List.getElem?_cons_zero]; rfl) (by kernel_rfl) (by kernel_rfl) (by kernel_rfl) (by rfl) ?_ hHeld ?_; rotate_left; · (intro w hSw; (try dsimp only at hSw); go_simp; (try with_reducible rfl))
    try simp only [Act.put, List.setIfInBounds_toArray, List.set_cons_zero, List.set_cons_succ]
    refine wpAnyH_done (by kernel_rfl) (NoPanic.normal ?_) _
    clear hHeld
    clear Q_p
    have c_a0 := B_a.out.cell0
    have c_a1 := B_a.out.cell1
    have c_a2 := B_a.out.cell2
    have c_o0 := B_o.out.cell0
    have c_o1 := B_o.out.cell1
    have c_o2 := B_o.out.cell2
    have c_h0 := B_h.out.cell0
    have c_h1 := B_h.out.cell1
    have c_h2 := B_h.out.cell2
    have c_l0 := B_l.out.cell0
    have c_l1 := B_l.out.cell1
    have c_l2 := B_l.out.cell2
    have c_n0 := B_n.out.cell0
    have c_n1 := B_n.out.cell1
    have c_n2 := B_n.out.cell2
    go_wp2_with fail
    clear c_a0 c_a1 c_a2 c_o0 c_o1 c_o2 c_h0 c_h1 c_h2 c_l0 c_l1 c_l2 c_n0 c_n1 c_n2
    refine (qsub_any _ _ _ _ 9 _ _ _ _ 8 _ (by exact Q_n.out.rat S_n) (by exact R_a.out) (by omega) (by omega) (by omega) (by omega)).mono ?_
    rintro e w117 ⟨b_d, A_d, n_d, c_d, D_d, e_d, f_d, rfl, h_d, hb⟩
    replace HT := Lib.hid (HT.out.below hb)
    replace R_a := Lib.hid (R_a.out.below hb)
    replace Q_o := Lib.hid (Q_o.out.below hb)
    replace Q_h := Lib.hid (Q_h.out.below hb)
    replace Q_l := Lib.hid (Q_l.out.below hb)
    replace Q_n := Lib.hid (Q_n.out.below hb)
    replace B_a := Lib.hid (B_a.out.below hb)
    replace B_o := Lib.hid (B_o.out.below hb)
    replace B_h := Lib.hid (B_h.out.below hb)
    replace B_l := Lib.hid (B_l.out.below hb)
    replace B_n := Lib.hid (B_n.out.below hb)
    replace hB := below_next hB hb
    clear hb
    have Q_d := Lib.hid h_d
    clear h_d
    have c_a0 := B_a.out.cell0
    have c_a1 := B_a.out.cell1
    have c_a2 := B_a.out.cell2
    have c_o0 := B_o.out.cell0
    have c_o1 := B_o.out.cell1
    have c_o2 := B_o.out.cell2
    have c_h0 := B_h.out.cell0
    have c_h1 := B_h.out.cell1
    have c_h2 := B_h.out.cell2
    have c_l0 := B_l.out.cell0
    have c_l1 := B_l.out.cell1
    have c_l2 := B_l.out.cell2
    have c_n0 := B_n.out.cell0
    have c_n1 := B_n.out.cell1
    have c_n2 := B_n.out.cell2
    go_wp2
    clear c_a0 c_a1 c_a2 c_o0 c_o1 c_o2 c_h0 c_h1 c_h2 c_l0 c_l1 c_l2 c_n0 c_n1 c_n2
    obtain ⟨W118, g_d, hV, hg, NB, hb⟩ := newR w117 (.bool b_d) (.slice A_d n_d c_d) (.slice D_d e_d f_d)
    rw [hV, hg]
    clear hV
    have l_d_a : w.heap.size < g_d := hg ▸ B_a.out.lt
    have l_d_o : g_o < g_d := hg ▸ B_o.out.lt
    have l_d_h : g_h < g_d := hg ▸ B_h.out.lt
    have l_d_l : g_l < g_d := hg ▸ B_l.out.lt
    have l_d_n : g_n < g_d := hg ▸ B_n.out.lt
    replace HT := Lib.hid (HT.out.below hb)
    replace R_a := Lib.hid (R_a.out.below hb)
    replace Q_o := Lib.hid (Q_o.out.below hb)
    replace Q_h := Lib.hid (Q_h.out.below hb)
    replace Q_l := Lib.hid (Q_l.out.below hb)
    replace Q_n := Lib.hid (Q_n.out.below hb)
    replace Q_d := Lib.hid (Q_d.out.below hb)
    replace B_a := Lib.hid (B_a.out.below hb)
    replace B_o := Lib.hid (B_o.out.below hb)
    replace B_h := Lib.hid (B_h.out.below hb)
    replace B_l := Lib.hid (B_l.out.below hb)
    replace B_n := Lib.hid (B_n.out.below hb)
    replace hB := below_next hB hb
    have B_d := NB
    clear NB hb hg
    refine wp_region_named (S := (fun w' => (w'.cell? ⟨g_d, 0, none⟩ = some (.bool b_d) ∧ w'.cell? ⟨g_d, 1, none⟩ = some (.slice A_d n_d c_d) ∧ w'.cell? ⟨g_d, 2, none⟩ = some (.slice D_d e_d f_d)) ∧ (w'.cell? ⟨g_h, 0, none⟩ = some (.bool b_h) ∧ w'.cell? ⟨g_h, 1, none⟩ = some (.slice A_h n_h c_h) ∧ w'.cell? ⟨g_h, 2, none⟩ = some (.slice D_h e_h f_h)) ∧ (w'.cell? ⟨w.heap.size, 0, none⟩ = some (.bool b_a) ∧ w'.cell? ⟨w.heap.size, 1, none⟩ = some m_a ∧ w'.cell? ⟨w.heap.size, 2, none⟩ = some d_a) ∧ (w'.cell? ⟨g_n, 0, none⟩ = some (.bool b_n) ∧ w'.cell? ⟨g_n, 1, none⟩ = some (.slice A_n n_n c_n) ∧ w'.cell? ⟨g_n, 2, none⟩ = some (.slice D_n e_n f_n)))) (by kernel_rfl) (by exact ⟨B_d.out.c3, B_h.out.c3, B_a.out.c3, B_n.out.c3⟩) (fun V119 hb hHeld => ?_)
    replace HT := Lib.hid (HT.out.below hb)
    replace R_a := Lib.hid (R_a.out.below hb)
    replace Q_o := Lib.hid (Q_o.out.below hb)
    replace Q_h := Lib.hid (Q_h.out.below hb)
    replace Q_l := Lib.hid (Q_l.out.below hb)
    replace Q_n := Lib.hid (Q_n.out.below hb)
    replace Q_d := Lib.hid (Q_d.out.below hb)
    replace B_a := Lib.hid (B_a.out.below hb)
    replace B_o := Lib.hid (B_o.out.below hb)
    replace B_h := Lib.hid (B_h.out.below hb)
    replace B_l := Lib.hid (B_l.out.below hb)
    replace B_n := Lib.hid (B_n.out.below hb)
    replace B_d := Lib.hid (B_d.out.below hb)
    replace hB := below_next hB hb
    clear hb
    refine wpAnyH_takeQ 0 (v := ?_) (fun _ _ _ _ _ h => h) (by simp only [List.getElem?_toArray, List.getElem?_cons_zero]; rfl) (by kernel_rfl) (by kernel_rfl) (by kernel_rfl) (by rfl) ?_ hHeld ?_; rotate_left; · (intro w hSw; (try dsimp only at hSw); go_simp; (try with_reducible rfl))
    try simp only [Act.put, List.setIfInBounds_toArray, List.set_cons_zero, List.set_cons_succ]
    refine wpAnyH_takeQ 1 (v := ?_) (fun _ _ _ _ _ h => h) (by simp only [List.getElem?_toArray, List.getElem?_cons_succ, List.getElem?_cons_zero]; rfl) (by kernel_rfl) (by kernel_rfl) (by kernel_rfl) (by rfl) ?_ hHeld ?_; rotate_left; · (intro w hSw; (try dsimp only at hSw); go_simp; (try with_reducible rfl))
    try simp only [Act.put, List.setIfInBounds_toArray, List.set_cons_zero, List.set_cons_succ]
    refine wpAnyH_ready (rs := [2]) (by kernel_rfl) (by simp) ?_
    refine AllReadyH.cons (by simp only [List.getElem?_toArray, List.getElem?_cons_succ, List.getElem?_cons_zero]; rfl) (fun K hK => ?_) AllReadyH.nil
    go_simp
    clear hHeld
    refine (qcmp_le (k := 18) (j := 1) (by exact Q_d.out.rat ((S_n.sub S_a).more (by omega))) (by exact Q_h.out.rat S_h) (by omega) (by omega) (by omega) (by omega) (near_hi _)).mono ?_
    rintro e w120 ⟨oc2, rfl, hoc2, hb⟩
    replace HT := Lib.hid (HT.out.below hb)
    replace R_a := Lib.hid (R_a.out.below hb)
    replace Q_o := Lib.hid (Q_o.out.below hb)
    replace Q_h := Lib.hid (Q_h.out.below hb)
    replace Q_l := Lib.hid (Q_l.out.below hb)
    replace Q_n := Lib.hid (Q_n.out.below hb)
    replace Q_d := Lib.hid (Q_d.out.below hb)
    replace B_a := Lib.hid (B_a.out.below hb)
    replace B_o := Lib.hid (B_o.out.below hb)
    replace B_h := Lib.hid (B_h.out.below hb)
    replace B_l := Lib.hid (B_l.out.below hb)
    replace B_n := Lib.hid (B_n.out.below hb)
    replace B_d := Lib.hid (B_d.out.below hb)
    replace hB := below_next hB hb
    clear hb
    have foc2 : decide ((0 : Int) < oc2) = false := (by simp; omega)
    go_wp2_with fail
    refine hK.out _ _ (by exact ⟨B_d.out.c3, B_h.out.c3, B_a.out.c3, B_n.out.c3⟩) (fun hHeld => ?_)
    clear hK K
    try simp only [Act.put, List.setIfInBounds_toArray, List.set_cons_zero, List.set_cons_succ]
    refine wpAnyH_takeQ 3 (v := ?_) (fun _ _ _ _ _ h => h) (by simp only [List.getElem?_toArray, List.getElem?_cons_succ, List.getElem?_cons_zero]; rfl) (by kernel_rfl) (by kernel_rfl) (by kernel_rfl) (by rfl) ?_ hHeld ?_; rotate_left; · (intro w hSw; (try dsimp only at hSw); go_simp; (try with_reducible rfl))
    try simp only [Act.put, List.setIfInBounds_toArray, List.set_cons_zero, List.set_cons_succ]
    refine wpAnyH_takeQ 4 (v := ?_) (fun _ _ _ _ _ h => h) (by simp only [List.getElem?_toArray, List.getElem?_cons_succ, List.getElem?_cons_zero]; rfl) (by kernel_rfl) (by kernel_rfl) (by kernel_rfl) (by rfl) ?_ hHeld ?_; rotate_left; · (intro w hSw; (try dsimp only at hSw); go_simp; (try with_reducible rfl))
    try simp only [Act.put, List.setIfInBounds_toArray, List.set_cons_zero, List.set_cons_succ]
    refine wpAnyH_takeQ 5 (v := ?_) (fun _ _ _ _ _ h => h) (by simp only [List.getElem?_toArray, List.getElem?_cons_succ, List.getElem?_cons_zero]; rfl) (by kernel_rfl) (by kernel_rfl) (by kernel_rfl) (by rfl) ?_ hHeld ?_; rotate_left; · (intro w hSw; (try dsimp only at hSw); go_simp; (try with_reducible rfl))
    try simp only [Act.put, List.setIfInBounds_toArray, List.set_cons_zero, List.set_cons_succ]
    refine wpAnyH_takeQ 7 (v := ?_) (fun _ _ _ _ _ h => h) (by simp only [List.getElem?_toArray, List.getElem?_cons_succ, List.getElem?_cons_zero]; rfl) (by kernel_rfl) (by kernel_rfl) (by kernel_rfl) (by rfl) ?_ hHeld ?_; rotate_left; · (intro w hSw; (try dsimp only at hSw); go_simp; (try with_reducible rfl))
    try simp only [Act.put, List.setIfInBounds_toArray, List.set_cons_zero, List.set_cons_succ]
    refine wpAnyH_ready (rs := [6]) (by kernel_rfl) (by simp) ?_
    refine AllReadyH.cons (by simp only [List.getElem?_toArray, List.getElem?_cons_succ, List.getElem?_cons_zero]; rfl) (fun K hK => ?_) AllReadyH.nil
    go_simp
    clear hHeld
    refine (qneg_any _ _ _ _ 1 _ (by exact Q_h.out.rat S_h) (by omega) (by omega)).mono ?_
    rintro e w121 ⟨b_nh, A_nh, n_nh, c_nh, D_nh, e_nh, f_nh, rfl, h_nh, hb⟩
    replace HT := Lib.hid (HT.out.below hb)
    replace R_a := Lib.hid (R_a.out.below hb)
    replace Q_o := Lib.hid (Q_o.out.below hb)
    replace Q_h := Lib.hid (Q_h.out.below hb)
    replace Q_l := Lib.hid (Q_l.out.below hb)
    replace Q_n := Lib.hid (Q_n.out.below hb)
    replace Q_d := Lib.hid (Q_d.out.below hb)
    replace B_a := Lib.hid (B_a.out.below hb)
    replace B_o := Lib.hid (B_o.out.below hb)
    replace B_h := Lib.hid (B_h.out.below hb)
    replace B_l := Lib.hid (B_l.out.below hb)
    replace B_n := Lib.hid (B_n.out.below hb)
    replace B_d := Lib.hid (B_d.out.below hb)
    replace hB := below_next hB hb
    clear hb
    have Q_nh := Lib.hid h_nh
    clear h_nh
    go_wp2_with fail
    refine hK.out _ _ (by exact ⟨B_d.out.c3, B_h.out.c3, B_a.out.c3, B_n.out.c3⟩) (fun hHeld => ?_)
    clear hK K
    try simp only [Act.put, List.setIfInBounds_toArray, List.set_cons_zero, List.set_cons_succ]
    refine wpAnyH_ready (rs := [8]) (by kernel_rfl) (by simp) ?_
    refine AllReadyH.cons (by simp only [List.getElem?_toArray, List.getElem?_cons_succ, List.getElem?_cons_zero]; rfl) (fun K hK => ?_) AllReadyH.nil
    go_simp
    clear hHeld
    refine (qcmp_le (k := 1) (j := 18) (by exact Q_nh.out.rat ((S_h.neg).more (by omega))) (by exact Q_d.out.rat ((S_n.sub S_a).more (by omega))) (by omega) (by omega) (by omega) (by omega) (near_lo _)).mono ?_
    rintro e w122 ⟨oc3, rfl, hoc3, hb⟩
    replace HT := Lib.hid (HT.out.below hb)
    replace R_a := Lib.hid (R_a.out.below hb)
    replace Q_o := Lib.hid (Q_o.out.below hb)
    replace Q_h := Lib.hid (Q_h.out.below hb)
    replace Q_l := Lib.hid (Q_l.out.below hb)
    replace Q_n := Lib.hid (Q_n.out.below hb)
    replace Q_d := Lib.hid (Q_d.out.below hb)
    replace Q_nh := Lib.hid (Q_nh.out.below hb)
    replace B_a := Lib.hid (B_a.out.below hb)
    replace B_o := Lib.hid (B_o.out.below hb)
    replace B_h := Lib.hid (B_h.out.below hb)
    replace B_l := Lib.hid (B_l.out.below hb)
    replace B_n := Lib.hid (B_n.out.below hb)
    replace B_d := Lib.hid (B_d.out.below hb)
    replace hB := below_next hB hb
    clear hb
    have foc3 : decide ((0 : Int) < oc3) = false := (by simp; omega)
    go_wp2_with fail
    refine hK.out _ _ (by exact ⟨B_d.out.c3, B_h.out.c3, B_a.out.c3, B_n.out.c3⟩) (fun hHeld => ?_)
    clear hK K
    try simp only [Act.put, List.setIfInBounds_toArray, List.set_cons_zero, List.set_cons_succ]
    refine wpAnyH_takeQ 9 (v := ?_) (fun _ _ _ _ _ h => h) (by simp only [List.getElem?_toArray, List.getElem?_cons_succ, List.getElem?_cons_zero]; rfl) (by kernel_rfl) (by kernel_rfl) (by kernel_rfl) (by rfl) ?_ hHeld ?_; rotate_left; · (intro w hSw; (try dsimp only at hSw); go_simp; (try with_reducible rfl))
    try simp only [Act.put, List.setIfInBounds_toArray, List.set_cons_zero, List.set_cons_succ]
    refine wpAnyH_takeQ 10 (v := ?_) (fun _ _ _ _ _ h => h) (by simp only [List.getElem?_toArray, List.getElem?_cons_succ, List.getElem?_cons_zero]; rfl) (by kernel_rfl) (by kernel_rfl) (by kernel_rfl) (by rfl) ?_ hHeld ?_; rotate_left; · (intro w hSw; (try dsimp only at hSw); go_simp; (try with_reducible rfl))
    try simp only [Act.put, List.setIfInBounds_toArray, List.set_cons_zero, List.set_cons_succ]
    refine wpAnyH_takeQ 11 (v := ?_) (fun _ _ _ _ _ h => h) (by simp only [List.getElem?_toArray, List.getElem?_cons_succ, List.getElem?_cons_zero]; rfl) (by kernel_rfl) (by kernel_rfl) (by kernel_rfl) (by rfl) ?_ hHeld ?_; rotate_left; · (intro w hSw; (try dsimp only at hSw); go_simp; (try with_reducible rfl))
    try simp only [Act.put, List.setIfInBounds_toArray, List.set_cons_zero, List.set_cons_succ]
    refine wpAnyH_takeQ 12 (v := ?_) (fun _ _ _ _ _ h => h) (by simp only [List.getElem?_toArray, List.getElem?_cons_succ, List.getElem?_cons_zero]; rfl) (by kernel_rfl) (by kernel_rfl) (by kernel_rfl) (by rfl) ?_ hHeld ?_; rotate_left; · (intro w hSw; (try dsimp only at hSw); go_simp; (try with_reducible rfl))
    try simp only [Act.put, List.setIfInBounds_toArray, List.set_cons_zero, List.set_cons_succ]
    refine wpAnyH_takeQ 16 (v := ?_) (fun _ _ _ _ _ h => h) (by simp only [List.getElem?_toArray, List.getElem?_cons_succ, List.getElem?_cons_zero]; rfl) (by kernel_rfl) (by kernel_rfl) (by kernel_rfl) (by rfl) ?_ hHeld ?_; rotate_left; · (intro w hSw; (try dsimp only at hSw); go_simp; (try with_reducible rfl))
    try simp only [Act.put, List.setIfInBounds_toArray, List.set_cons_zero, List.set_cons_succ]
    refine wpAnyH_ready (rs := [13]) (by kernel_rfl) (by simp) ?_
    refine AllReadyH.cons (by simp only [List.getElem?_toArray, List.getElem?_cons_succ, List.getElem?_cons_zero]; rfl) (fun K hK => ?_) AllReadyH.nil
    go_simp
    clear hHeld
    refine (qneg_any _ _ _ _ 8 _ (by exact R_a.out) (by omega) (by omega)).mono ?_
    rintro e w123 ⟨b_na, A_na, n_na, c_na, D_na, e_na, f_na, rfl, h_na, hb⟩
    replace HT := Lib.hid (HT.out.below hb)
    replace R_a := Lib.hid (R_a.out.below hb)
    replace Q_o := Lib.hid (Q_o.out.below hb)
    replace Q_h := Lib.hid (Q_h.out.below hb)
    replace Q_l := Lib.hid (Q_l.out.below hb)
    replace Q_n := Lib.hid (Q_n.out.below hb)
    replace Q_d := Lib.hid (Q_d.out.below hb)
    replace Q_nh := Lib.hid (Q_nh.out.below hb)
    replace B_a := Lib.hid (B_a.out.below hb)
    replace B_o := Lib.hid (B_o.out.below hb)
    replace B_h := Lib.hid (B_h.out.below hb)
    replace B_l := Lib.hid (B_l.out.below hb)
    replace B_n := Lib.hid (B_n.out.below hb)
    replace B_d := Lib.hid (B_d.out.below hb)
    replace hB := below_next hB hb
    clear hb
    have Q_na := Lib.hid h_na
    clear h_na
    go_wp2_with fail
    refine hK.out _ _ (by exact ⟨B_d.out.c3, B_h.out.c3, B_a.out.c3, B_n.out.c3⟩) (fun hHeld => ?_)
    clear hK K
    try simp only [Act.put, List.setIfInBounds_toArray, List.set_cons_zero, List.set_cons_succ]
    refine wpAnyH_ready (rs := [14]) (by kernel_rfl) (by simp) ?_
    refine AllReadyH.cons (by simp only [List.getElem?_toArray, List.getElem?_cons_succ, List.getElem?_cons_zero]; rfl) (fun K hK => ?_) AllReadyH.nil
    go_simp
    clear hHeld
    refine (qround_any _ _ _ _ 8 _ (by exact Q_na.out.rat ((S_a.neg).more (by omega))) (by omega) (by omega)).mono ?_
    rintro e w124 ⟨b_rz, A_rz, n_rz, c_rz, rfl, h_rz, hb⟩
    replace HT := Lib.hid (HT.out.below hb)
    replace R_a := Lib.hid (R_a.out.below hb)
    replace Q_o := Lib.hid (Q_o.out.below hb)
    replace Q_h := Lib.hid (Q_h.out.below hb)
    replace Q_l := Lib.hid (Q_l.out.below hb)
    replace Q_n := Lib.hid (Q_n.out.below hb)
    replace Q_d := Lib.hid (Q_d.out.below hb)
    replace Q_nh := Lib.hid (Q_nh.out.below hb)
    replace Q_na := Lib.hid (Q_na.out.below hb)
    replace B_a := Lib.hid (B_a.out.below hb)
    replace B_o := Lib.hid (B_o.out.below hb)
    replace B_h := Lib.hid (B_h.out.below hb)
    replace B_l := Lib.hid (B_l.out.below hb)
    replace B_n := Lib.hid (B_n.out.below hb)
    replace B_d := Lib.hid (B_d.out.below hb)
    replace hB := below_next hB hb
    clear hb
    have Z_rz := Lib.hid h_rz
    clear h_rz
    go_wp2_with fail
    refine hK.out _ _ (by exact ⟨B_d.out.c3, B_h.out.c3, B_a.out.c3, B_n.out.c3⟩) (fun hHeld => ?_)
    clear hK K
    try simp only [Act.put, List.setIfInBounds_toArray, List.set_cons_zero, List.set_cons_succ]
    refine wpAnyH_ready (rs := [15]) (by kernel_rfl) (by simp) ?_
    refine AllReadyH.cons (by simp only [List.getElem?_toArray, List.getElem?_cons_succ, List.getElem?_cons_zero]; rfl) (fun K hK => ?_) AllReadyH.nil
    go_simp
    clear hHeld
    refine (lof_any _ _ _ _ _ _ (by exact Z_rz.out)).mono ?_
    rintro e w125 ⟨b_ro, A_ro, n_ro, c_ro, D_ro, e_ro, f_ro, rfl, h_ro, hb⟩
    replace HT := Lib.hid (HT.out.below hb)
    replace R_a := Lib.hid (R_a.out.below hb)
    replace Q_o := Lib.hid (Q_o.out.below hb)
    replace Q_h := Lib.hid (Q_h.out.below hb)
    replace Q_l := Lib.hid (Q_l.out.below hb)
    replace Q_n := Lib.hid (Q_n.out.below hb)
    replace Q_d := Lib.hid (Q_d.out.below hb)
    replace Q_nh := Lib.hid (Q_nh.out.below hb)
    replace Q_na := Lib.hid (Q_na.out.below hb)
    replace Z_rz := Lib.hid (Z_rz.out.below hb)
    replace B_a := Lib.hid (B_a.out.below hb)
    replace B_o := Lib.hid (B_o.out.below hb)
    replace B_h := Lib.hid (B_h.out.below hb)
    replace B_l := Lib.hid (B_l.out.below hb)
    replace B_n := Lib.hid (B_n.out.below hb)
    replace B_d := Lib.hid (B_d.out.below hb)
    replace hB := below_next hB hb
    clear hb
    have Q_ro := Lib.hid h_ro
    clear h_ro
    go_wp2_with fail
    refine hK.out _ _ (by exact ⟨B_d.out.c3, B_h.out.c3, B_a.out.c3, B_n.out.c3⟩) (fun hHeld => ?_)
    clear hK K
    try simp only [Act.put, List.setIfInBounds_toArray, List.set_cons_zero, List.set_cons_succ]
    refine wpAnyH_ready (rs := [17]) (by kernel_rfl) (by simp) ?_
    refine AllReadyH.cons (by simp only [List.getElem?_toArray, List.getElem?_cons_succ, List.getElem?_cons_zero]; rfl) (fun K hK => ?_) AllReadyH.nil
    go_simp
    clear hHeld
    refine (qneg_any _ _ _ _ 9 _ (by exact Q_n.out.rat S_n) (by omega) (by omega)).mono ?_
    rintro e w126 ⟨b_nn, A_nn, n_nn, c_nn, D_nn, e_nn, f_nn, rfl, h_nn, hb⟩
    replace HT := Lib.hid (HT.out.below hb)
    replace R_a := Lib.hid (R_a.out.below hb)
    replace Q_o := Lib.hid (Q_o.out.below hb)
    replace Q_h := Lib.hid (Q_h.out.below hb)
    replace Q_l := Lib.hid (Q_l.out.below hb)
    replace Q_n := Lib.hid (Q_n.out.below hb)
    replace Q_d := Lib.hid (Q_d.out.below hb)
    replace Q_nh := Lib.hid (Q_nh.out.below hb)
    replace Q_na := Lib.hid (Q_na.out.below hb)
    replace Z_rz := Lib.hid (Z_rz.out.below hb)
    replace Q_ro := Lib.hid (Q_ro.out.below hb)
    replace B_a := Lib.hid (B_a.out.below hb)
    replace B_o := Lib.hid (B_o.out.below hb)
    replace B_h := Lib.hid (B_h.out.below hb)
    replace B_l := Lib.hid (B_l.out.below hb)
    replace B_n := Lib.hid (B_n.out.below hb)
    replace B_d := Lib.hid (B_d.out.below hb)
    replace hB := below_next hB hb
    clear hb
    have Q_nn := Lib.hid h_nn
    clear h_nn
    go_wp2_with fail
    refine hK.out _ _ (by exact ⟨B_d.out.c3, B_h.out.c3, B_a.out.c3, B_n.out.c3⟩) (fun hHeld => ?_)
    clear hK K
    try simp only [Act.put, List.setIfInBounds_toArray, List.set_cons_zero, List.set_cons_succ]
    refine wpAnyH_ready (rs := [18]) (by kernel_rfl) (by simp) ?_
    refine AllReadyH.cons (by simp only [List.getElem?_toArray, List.getElem?_cons_succ, List.getElem?_cons_zero]; rfl) (fun K hK => ?_) AllReadyH.nil
    go_simp
    clear hHeld
    refine (rsame_q (by exact Q_ro.out) (by exact Q_nn.out) (by rw [round_neg]; exact Rat.intCast_neg _)).mono ?_
    rintro e w127 ⟨rfl, hb⟩
    replace HT := Lib.hid (HT.out.below hb)
    replace R_a := Lib.hid (R_a.out.below hb)
    replace Q_o := Lib.hid (Q_o.out.below hb)
    replace Q_h := Lib.hid (Q_h.out.below hb)
    replace Q_l := Lib.hid (Q_l.out.below hb)
    replace Q_n := Lib.hid (Q_n.out.below hb)
    replace Q_d := Lib.hid (Q_d.out.below hb)
    replace Q_nh := Lib.hid (Q_nh.out.below hb)
    replace Q_na := Lib.hid (Q_na.out.below hb)
    replace Z_rz := Lib.hid (Z_rz.out.below hb)
    replace Q_ro := Lib.hid (Q_ro.out.below hb)
    replace Q_nn := Lib.hid (Q_nn.out.below hb)
    replace B_a := Lib.hid (B_a.out.below hb)
    replace B_o := Lib.hid (B_o.out.below hb)
    replace B_h := Lib.hid (B_h.out.below hb)
    replace B_l := Lib.hid (B_l.out.below hb)
    replace B_n := Lib.hid (B_n.out.below hb)
    replace B_d := Lib.hid (B_d.out.below hb)
    replace hB := below_next hB hb
    clear hb
    go_wp2_with fail
    refine hK.out _ _ (by exact ⟨B_d.out.c3, B_h.out.c3, B_a.out.c3, B_n.out.c3⟩) (fun hHeld => ?_)
    clear hK K
    try simp only [Act.put, List.setIfInBounds_toArray, List.set_cons_zero, List.set_cons_succ]
    refine wpAnyH_takeQ 19 (v := ?_) (fun _ _ _ _ _ h => h) (by simp only [List.getElem?_toArray, List.getElem?_cons_succ, List.getElem?_cons_zero]; rfl) (by kernel_rfl) (by kernel_rfl) (by kernel_rfl) (by rfl) ?_ hHeld ?_; rotate_left; · (intro w hSw; (try dsimp only at hSw); go_simp; (try with_reducible rfl))
    try simp only [Act.put, List.setIfInBounds_toArray, List.set_cons_zero, List.set_cons_succ]
    refine wpAnyH_takeQ 20 (v := ?_) (fun _ _ _ _ _ h => h) (by simp only [List.getElem?_toArray, List.getElem?_cons_succ, List.getElem?_cons_zero]; rfl) (by kernel_rfl) (by kernel_rfl) (by kernel_rfl) (by rfl) ?_ hHeld ?_; rotate_left; · (intro w hSw; (try dsimp only at hSw); go_simp; (try with_reducible rfl))
    try simp only [Act.put, List.setIfInBounds_toArray, List.set_cons_zero, List.set_cons_succ]
    refine wpAnyH_done (by kernel_rfl) (NoPanic.normal ?_) _
    clear hHeld
    clear Q_nh Q_na Z_rz Q_ro Q_nn
    have c_a0 := B_a.out.cell0
    have c_a1 := B_a.out.cell1
    have c_a2 := B_a.out.cell2
    have c_o0 := B_o.out.cell0
    have c_o1 := B_o.out.cell1
    have c_o2 := B_o.out.cell2
    have c_h0 := B_h.out.cell0
    have c_h1 := B_h.out.cell1
    have c_h2 := B_h.out.cell2
    have c_l0 := B_l.out.cell0
    have c_l1 := B_l.out.cell1
    have c_l2 := B_l.out.cell2
    have c_n0 := B_n.out.cell0
    have c_n1 := B_n.out.cell1
    have c_n2 := B_n.out.cell2
    have c_d0 := B_d.out.cell0
    have c_d1 := B_d.out.cell1
    have c_d2 := B_d.out.cell2
    go_wp2_with fail
    clear c_a0 c_a1 c_a2 c_o0 c_o1 c_o2 c_h0 c_h1 c_h2 c_l0 c_l1 c_l2 c_n0 c_n1 c_n2 c_d0 c_d1 c_d2
    refine (qsub_any _ _ _ _ 1 _ _ _ _ 1 _ (by exact Q_o.out.rat qsz1) (by exact Q_o.out.rat qsz1) (by omega) (by omega) (by omega) (by omega)).mono ?_
    rintro e w128 ⟨b_zz, A_zz, n_zz, c_zz, D_zz, e_zz, f_zz, rfl, h_zz, hb⟩
    replace HT := Lib.hid (HT.out.below hb)
    replace R_a := Lib.hid (R_a.out.below hb)
    replace Q_o := Lib.hid (Q_o.out.below hb)
    replace Q_h := Lib.hid (Q_h.out.below hb)
    replace Q_l := Lib.hid (Q_l.out.below hb)
    replace Q_n := Lib.hid (Q_n.out.below hb)
    replace Q_d := Lib.hid (Q_d.out.below hb)
    replace B_a := Lib.hid (B_a.out.below hb)
    replace B_o := Lib.hid (B_o.out.below hb)
    replace B_h := Lib.hid (B_h.out.below hb)
    replace B_l := Lib.hid (B_l.out.below hb)
    replace B_n := Lib.hid (B_n.out.below hb)
    replace B_d := Lib.hid (B_d.out.below hb)
    replace hB := below_next hB hb
    clear hb
    rw [Rat.sub_self] at h_zz
    have Q_zz := Lib.hid h_zz
    clear h_zz
    have c_a0 := B_a.out.cell0
    have c_a1 := B_a.out.cell1
    have c_a2 := B_a.out.cell2
    have c_o0 := B_o.out.cell0
    have c_o1 := B_o.out.cell1
    have c_o2 := B_o.out.cell2
    have c_h0 := B_h.out.cell0
    have c_h1 := B_h.out.cell1
    have c_h2 := B_h.out.cell2
    have c_l0 := B_l.out.cell0
    have c_l1 := B_l.out.cell1
    have c_l2 := B_l.out.cell2
    have c_n0 := B_n.out.cell0
    have c_n1 := B_n.out.cell1
    have c_n2 := B_n.out.cell2
    have c_d0 := B_d.out.cell0
    have c_d1 := B_d.out.cell1
    have c_d2 := B_d.out.cell2
    go_wp2
    clear c_a0 c_a1 c_a2 c_o0 c_o1 c_o2 c_h0 c_h1 c_h2 c_l0 c_l1 c_l2 c_n0 c_n1 c_n2 c_d0 c_d1 c_d2
    obtain ⟨W129, g_zz, hV, hg, NB, hb⟩ := newR w128 (.bool b_zz) (.slice A_zz n_zz c_zz) (.slice D_zz e_zz f_zz)
    rw [hV, hg]
    clear hV
    have l_zz_a : w.heap.size < g_zz := hg ▸ B_a.out.lt
    have l_zz_o : g_o < g_zz := hg ▸ B_o.out.lt
    have l_zz_h : g_h < g_zz := hg ▸ B_h.out.lt
    have l_zz_l : g_l < g_zz := hg ▸ B_l.out.lt
    have l_zz_n : g_n < g_zz := hg ▸ B_n.out.lt
    have l_zz_d : g_d < g_zz := hg ▸ B_d.out.lt
    replace HT := Lib.hid (HT.out.below hb)
    replace R_a := Lib.hid (R_a.out.below hb)
    replace Q_o := Lib.hid (Q_o.out.below hb)
    replace Q_h := Lib.hid (Q_h.out.below hb)
    replace Q_l := Lib.hid (Q_l.out.below hb)
    replace Q_n := Lib.hid (Q_n.out.below hb)
    replace Q_d := Lib.hid (Q_d.out.below hb)
    replace Q_zz := Lib.hid (Q_zz.out.below hb)
    replace B_a := Lib.hid (B_a.out.below hb)
    replace B_o := Lib.hid (B_o.out.below hb)
    replace B_h := Lib.hid (B_h.out.below hb)
    replace B_l := Lib.hid (B_l.out.below hb)
    replace B_n := Lib.hid (B_n.out.below hb)
    replace B_d := Lib.hid (B_d.out.below hb)
    replace hB := below_next hB hb
    have B_zz := NB
    clear NB hb hg
    go_cut [94] (fun sv wx => sv = .bool false ∧ BW W129 wx ∧ Below w.heap.size w wx)
    case first =>
      have BW0 := Lib.hid (show BW W129 W129 from Below.refl _ _)
      by_cases hA : ((qround q_a : Int) : Rat) - q_a = qof 1 2
      · skip
        refine wp_region_named (S := (fun w' => (w'.cell? ⟨g_d, 0, none⟩ = some (.bool b_d) ∧ w'.cell? ⟨g_d, 1, none⟩ = some (.slice A_d n_d c_d) ∧ w'.cell? ⟨g_d, 2, none⟩ = some (.slice D_d e_d f_d)) ∧ (w'.cell? ⟨g_h, 0, none⟩ = some (.bool b_h) ∧ w'.cell? ⟨g_h, 1, none⟩ = some (.slice A_h n_h c_h) ∧ w'.cell? ⟨g_h, 2, none⟩ = some (.slice D_h e_h f_h)) ∧ (w'.cell? ⟨w.heap.size, 0, none⟩ = some (.bool b_a) ∧ w'.cell? ⟨w.heap.size, 1, none⟩ = some m_a ∧ w'.cell? ⟨w.heap.size, 2, none⟩ = some d_a) ∧ (w'.cell? ⟨g_zz, 0, none⟩ = some (.bool b_zz) ∧ w'.cell? ⟨g_zz, 1, none⟩ = some (.slice A_zz n_zz c_zz) ∧ w'.cell? ⟨g_zz, 2, none⟩ = some (.slice D_zz e_zz f_zz)))) (by kernel_rfl) (by exact ⟨B_d.out.c3, B_h.out.c3, B_a.out.c3, B_zz.out.c3⟩) (fun V130 hb hHeld => ?_)
        replace HT := Lib.hid (HT.out.below hb)
        replace R_a := Lib.hid (R_a.out.below hb)
        replace Q_o := Lib.hid (Q_o.out.below hb)
        replace Q_h := Lib.hid (Q_h.out.below hb)
        replace Q_l := Lib.hid (Q_l.out.below hb)
        replace Q_n := Lib.hid (Q_n.out.below hb)
        replace Q_d := Lib.hid (Q_d.out.below hb)
        replace Q_zz := Lib.hid (Q_zz.out.below hb)
        replace BW0 := Lib.hid (BW0.out.below hb)
        replace B_a := Lib.hid (B_a.out.below hb)
        replace B_o := Lib.hid (B_o.out.below hb)
        replace B_h := Lib.hid (B_h.out.below hb)
        replace B_l := Lib.hid (B_l.out.below hb)
        replace B_n := Lib.hid (B_n.out.below hb)
        replace B_d := Lib.hid (B_d.out.below hb)
        replace B_zz := Lib.hid (B_zz.out.below hb)
        replace hB := below_next hB hb
        clear hb
        refine wpAnyH_takeQ 0 (v := ?_) (fun _ _ _ _ _ h => h) (by simp only [List.getElem?_toArray, List.getElem?_cons_zero]; rfl) (by kernel_rfl) (by kernel_rfl) (by kernel_rfl) (by rfl) ?_ hHeld ?_; rotate_left; · (intro w hSw; (try dsimp only at hSw); go_simp; (try with_reducible rfl))
        try simp only [Act.put, List.setIfInBounds_toArray, List.set_cons_zero, List.set_cons_succ]
        refine wpAnyH_takeQ 1 (v := ?_) (fun _ _ _ _ _ h => h) (by simp only [List.getElem?_toArray, List.getElem?_cons_succ, List.getElem?_cons_zero]; rfl) (by kernel_rfl) (by kernel_rfl) (by kernel_rfl) (by rfl) ?_ hHeld ?_; rotate_left; · (intro w hSw; (try dsimp only at hSw); go_simp; (try with_reducible rfl))
        try simp only [Act.put, List.setIfInBounds_toArray, List.set_cons_zero, List.set_cons_succ]
        refine wpAnyH_ready (rs := [2]) (by kernel_rfl) (by simp) ?_
        refine AllReadyH.cons (by simp only [List.getElem?_toArray, List.getElem?_cons_succ, List.getElem?_cons_zero]; rfl) (fun K hK => ?_) AllReadyH.nil
        go_simp
        clear hHeld
        refine (qcmp_is (k := 18) (j := 1) (v := 0) (by exact Q_d.out.rat ((S_n.sub S_a).more (by omega))) (by exact Q_h.out.rat S_h) (by omega) (by omega) (by omega) (by omega) (by exact qord_eq hA)).mono ?_
        rintro e w131 ⟨rfl, hb⟩
        replace HT := Lib.hid (HT.out.below hb)
        replace R_a := Lib.hid (R_a.out.below hb)
        replace Q_o := Lib.hid (Q_o.out.below hb)
        replace Q_h := Lib.hid (Q_h.out.below hb)
        replace Q_l := Lib.hid (Q_l.out.below hb)
        replace Q_n := Lib.hid (Q_n.out.below hb)
        replace Q_d := Lib.hid (Q_d.out.below hb)
        replace Q_zz := Lib.hid (Q_zz.out.below hb)
        replace BW0 := Lib.hid (BW0.out.below hb)
        replace B_a := Lib.hid (B_a.out.below hb)
        replace B_o := Lib.hid (B_o.out.below hb)
        replace B_h := Lib.hid (B_h.out.below hb)
        replace B_l := Lib.hid (B_l.out.below hb)
        replace B_n := Lib.hid (B_n.out.below hb)
        replace B_d := Lib.hid (B_d.out.below hb)
        replace B_zz := Lib.hid (B_zz.out.below hb)
        replace hB := below_next hB hb
        clear hb
        go_wp2_with fail
        refine hK.out _ _ (by exact ⟨B_d.out.c3, B_h.out.c3, B_a.out.c3, B_zz.out.c3⟩) (fun hHeld => ?_)
        clear hK K
        try simp only [Act.put, List.setIfInBounds_toArray, List.set_cons_zero, List.set_cons_succ]
        refine wpAnyH_takeQ 3 (v := ?_) (fun _ _ _ _ _ h => h) (by simp only [List.getElem?_toArray, List.getElem?_cons_succ, List.getElem?_cons_zero]; rfl) (by kernel_rfl) (by kernel_rfl) (by kernel_rfl) (by rfl) ?_ hHeld ?_; rotate_left; · (intro w hSw; (try dsimp only at hSw); go_simp; (try with_reducible rfl))
        try simp only [Act.put, List.setIfInBounds_toArray, List.set_cons_zero, List.set_cons_succ]
        refine wpAnyH_takeQ 4 (v := ?_) (fun _ _ _ _ _ h => h) (by simp only [List.getElem?_toArray, List.getElem?_cons_succ, List.getElem?_cons_zero]; rfl) (by kernel_rfl) (by kernel_rfl) (by kernel_rfl) (by rfl) ?_ hHeld ?_; rotate_left; · (intro w hSw; (try dsimp only at hSw); go_simp; (try with_reducible rfl))
        try simp only [Act.put, List.setIfInBounds_toArray, List.set_cons_zero, List.set_cons_succ]
        refine wpAnyH_takeQ 5 (v := ?_) (fun _ _ _ _ _ h => h) (by simp only [List.getElem?_toArray, List.getElem?_cons_succ, List.getElem?_cons_zero]; rfl) (by kernel_rfl) (by kernel_rfl) (by kernel_rfl) (by rfl) ?_ hHeld ?_; rotate_left; · (intro w hSw; (try dsimp only at hSw); go_simp; (try with_reducible rfl))
        try simp only [Act.put, List.setIfInBounds_toArray, List.set_cons_zero, List.set_cons_succ]
        refine wpAnyH_takeQ 6 (v := ?_) (fun _ _ _ _ _ h => h) (by simp only [List.getElem?_toArray, List.getElem?_cons_succ, List.getElem?_cons_zero]; rfl) (by kernel_rfl) (by kernel_rfl) (by kernel_rfl) (by rfl) ?_ hHeld ?_; rotate_left; · (intro w hSw; (try dsimp only at hSw); go_simp; (try with_reducible rfl))
        try simp only [Act.put, List.setIfInBounds_toArray, List.set_cons_zero, List.set_cons_succ]
        refine wpAnyH_ready (rs := [7]) (by kernel_rfl) (by simp) ?_
        refine AllReadyH.cons (by simp only [List.getElem?_toArray, List.getElem?_cons_succ, List.getElem?_cons_zero]; rfl) (fun K hK => ?_) AllReadyH.nil
        go_simp
        clear hHeld
        refine (qcmp_ge (k := 8) (j := 1) (by exact R_a.out) (by exact Q_zz.out.rat qsz0) (by omega) (by omega) (by omega) (by omega) (near_up hA)).mono ?_
        rintro e w132 ⟨oc4, rfl, hoc4, hb⟩
        replace HT := Lib.hid (HT.out.below hb)
        replace R_a := Lib.hid (R_a.out.below hb)
        replace Q_o := Lib.hid (Q_o.out.below hb)
        replace Q_h := Lib.hid (Q_h.out.below hb)
        replace Q_l := Lib.hid (Q_l.out.below hb)
        replace Q_n := Lib.hid (Q_n.out.below hb)
        replace Q_d := Lib.hid (Q_d.out.below hb)
        replace Q_zz := Lib.hid (Q_zz.out.below hb)
        replace BW0 := Lib.hid (BW0.out.below hb)
        replace B_a := Lib.hid (B_a.out.below hb)
        replace B_o := Lib.hid (B_o.out.below hb)
        replace B_h := Lib.hid (B_h.out.below hb)
        replace B_l := Lib.hid (B_l.out.below hb)
        replace B_n := Lib.hid (B_n.out.below hb)
        replace B_d := Lib.hid (B_d.out.below hb)
        replace B_zz := Lib.hid (B_zz.out.below hb)
        replace hB := below_next hB hb
        clear hb
        have foc4 : decide (oc4 < 0) = false := (by simp; omega)
        go_wp2_with fail
        refine hK.out _ _ (by exact ⟨B_d.out.c3, B_h.out.c3, B_a.out.c3, B_zz.out.c3⟩) (fun hHeld => ?_)
        clear hK K
        try simp only [Act.put, List.setIfInBounds_toArray, List.set_cons_zero, List.set_cons_succ]
        refine wpAnyH_takeQ 8 (v := ?_) (fun _ _ _ _ _ h => h) (by simp only [List.getElem?_toArray, List.getElem?_cons_succ, List.getElem?_cons_zero]; rfl) (by kernel_rfl) (by kernel_rfl) (by kernel_rfl) (by rfl) ?_ hHeld ?_; rotate_left; · (intro w hSw; (try dsimp only at hSw); go_simp; (try with_reducible rfl))
        try simp only [Act.put, List.setIfInBounds_toArray, List.set_cons_zero, List.set_cons_succ]
        refine wpAnyH_takeQ 9 (v := ?_) (fun _ _ _ _ _ h => h) (by simp only [List.getElem?_toArray, List.getElem?_cons_succ, List.getElem?_cons_zero]; rfl) (by kernel_rfl) (by kernel_rfl) (by kernel_rfl) (by rfl) ?_ hHeld ?_; rotate_left; · (intro w hSw; (try dsimp only at hSw); go_simp; (try with_reducible rfl))
        try simp only [Act.put, List.setIfInBounds_toArray, List.set_cons_zero, List.set_cons_succ]
        refine wpAnyH_takeQ 10 (v := ?_) (fun _ _ _ _ _ h => h) (by simp only [List.getElem?_toArray, List.getElem?_cons_succ, List.getElem?_cons_zero]; rfl) (by kernel_rfl) (by kernel_rfl) (by kernel_rfl) (by rfl) ?_ hHeld ?_; rotate_left; · (intro w hSw; (try dsimp only at hSw); go_simp; (try with_reducible rfl))
        try simp only [Act.put, List.setIfInBounds_toArray, List.set_cons_zero, List.set_cons_succ]
        refine wpAnyH_takeQ 11 (v := ?_) (fun _ _ _ _ _ h => h) (by simp only [List.getElem?_toArray, List.getElem?_cons_succ, List.getElem?_cons_zero]; rfl) (by kernel_rfl) (by kernel_rfl) (by kernel_rfl) (by rfl) ?_ hHeld ?_; rotate_left; · (intro w hSw; (try dsimp only at hSw); go_simp; (try with_reducible rfl))
        try simp only [Act.put, List.setIfInBounds_toArray, List.set_cons_zero, List.set_cons_succ]
        refine wpAnyH_takeQ 12 (v := ?_) (fun _ _ _ _ _ h => h) (by simp only [List.getElem?_toArray, List.getElem?_cons_succ, List.getElem?_cons_zero]; rfl) (by kernel_rfl) (by kernel_rfl) (by kernel_rfl) (by rfl) ?_ hHeld ?_; rotate_left; · (intro w hSw; (try dsimp only at hSw); go_simp; (try with_reducible rfl))
        try simp only [Act.put, List.setIfInBounds_toArray, List.set_cons_zero, List.set_cons_succ]
        refine wpAnyH_ready (rs := [13]) (by kernel_rfl) (by simp) ?_
        refine AllReadyH.cons (by simp only [List.getElem?_toArray, List.getElem?_cons_succ, List.getElem?_cons_zero]; rfl) (fun K hK => ?_) AllReadyH.nil
        go_simp
        clear hHeld
        refine (qneg_any _ _ _ _ 1 _ (by exact Q_h.out.rat S_h) (by omega) (by omega)).mono ?_
        rintro e w133 ⟨b_nh, A_nh, n_nh, c_nh, D_nh, e_nh, f_nh, rfl, h_nh, hb⟩
        replace HT := Lib.hid (HT.out.below hb)
        replace R_a := Lib.hid (R_a.out.below hb)
        replace Q_o := Lib.hid (Q_o.out.below hb)
        replace Q_h := Lib.hid (Q_h.out.below hb)
        replace Q_l := Lib.hid (Q_l.out.below hb)
        replace Q_n := Lib.hid (Q_n.out.below hb)
        replace Q_d := Lib.hid (Q_d.out.below hb)
        replace Q_zz := Lib.hid (Q_zz.out.below hb)
        replace BW0 := Lib.hid (BW0.out.below hb)
        replace B_a := Lib.hid (B_a.out.below hb)
        replace B_o := Lib.hid (B_o.out.below hb)
        replace B_h := Lib.hid (B_h.out.below hb)
        replace B_l := Lib.hid (B_l.out.below hb)
        replace B_n := Lib.hid (B_n.out.below hb)
        replace B_d := Lib.hid (B_d.out.below hb)
        replace B_zz := Lib.hid (B_zz.out.below hb)
        replace hB := below_next hB hb
        clear hb
        have Q_nh := Lib.hid h_nh
        clear h_nh
        go_wp2_with fail
        refine hK.out _ _ (by exact ⟨B_d.out.c3, B_h.out.c3, B_a.out.c3, B_zz.out.c3⟩) (fun hHeld => ?_)
        clear hK K
        try simp only [Act.put, List.setIfInBounds_toArray, List.set_cons_zero, List.set_cons_succ]
        refine wpAnyH_ready (rs := [14]) (by kernel_rfl) (by simp) ?_
        refine AllReadyH.cons (by simp only [List.getElem?_toArray, List.getElem?_cons_succ, List.getElem?_cons_zero]; rfl) (fun K hK => ?_) AllReadyH.nil
        go_simp
        clear hHeld
        refine (qcmp_is (k := 18) (j := 1) (v := 1) (by exact Q_d.out.rat ((S_n.sub S_a).more (by omega))) (by exact Q_nh.out.rat ((S_h.neg).more (by omega))) (by omega) (by omega) (by omega) (by omega) (by exact qord_gt (by rw [hA]; exact nhalf_lt))).mono ?_
        rintro e w134 ⟨rfl, hb⟩
        replace HT := Lib.hid (HT.out.below hb)
        replace R_a := Lib.hid (R_a.out.below hb)
        replace Q_o := Lib.hid (Q_o.out.below hb)
        replace Q_h := Lib.hid (Q_h.out.below hb)
        replace Q_l := Lib.hid (Q_l.out.below hb)
        replace Q_n := Lib.hid (Q_n.out.below hb)
        replace Q_d := Lib.hid (Q_d.out.below hb)
        replace Q_zz := Lib.hid (Q_zz.out.below hb)
        replace BW0 := Lib.hid (BW0.out.below hb)
        replace Q_nh := Lib.hid (Q_nh.out.below hb)
        replace B_a := Lib.hid (B_a.out.below hb)
        replace B_o := Lib.hid (B_o.out.below hb)
        replace B_h := Lib.hid (B_h.out.below hb)
        replace B_l := Lib.hid (B_l.out.below hb)
        replace B_n := Lib.hid (B_n.out.below hb)
        replace B_d := Lib.hid (B_d.out.below hb)
        replace B_zz := Lib.hid (B_zz.out.below hb)
        replace hB := below_next hB hb
        clear hb
        go_wp2_with fail
        refine hK.out _ _ (by exact ⟨B_d.out.c3, B_h.out.c3, B_a.out.c3, B_zz.out.c3⟩) (fun hHeld => ?_)
        clear hK K
        try simp only [Act.put, List.setIfInBounds_toArray, List.set_cons_zero, List.set_cons_succ]
        refine wpAnyH_takeQ 15 (v := ?_) (fun _ _ _ _ _ h => h) (by simp only [List.getElem?_toArray, List.getElem?_cons_succ, List.getElem?_cons_zero]; rfl) (by kernel_rfl) (by kernel_rfl) (by kernel_rfl) (by rfl) ?_ hHeld ?_; rotate_left; · (intro w hSw; (try dsimp only at hSw); go_simp; (try with_reducible rfl))
        try simp only [Act.put, List.setIfInBounds_toArray, List.set_cons_zero, List.set_cons_succ]
        refine wpAnyH_takeQ 16 (v := ?_) (fun _ _ _ _ _ h => h) (by simp only [List.getElem?_toArray, List.getElem?_cons_succ, List.getElem?_cons_zero]; rfl) (by kernel_rfl) (by kernel_rfl) (by kernel_rfl) (by rfl) ?_ hHeld ?_; rotate_left; · (intro w hSw; (try dsimp only at hSw); go_simp; (try with_reducible rfl))
        try simp only [Act.put, List.setIfInBounds_toArray, List.set_cons_zero, List.set_cons_succ]
        refine wpAnyH_skipQ 17 (fun _ _ _ _ _ h => h) (by simp only [List.getElem?_toArray, List.getElem?_cons_succ, List.getElem?_cons_zero]; rfl) (by kernel_rfl) (by kernel_rfl) (by kernel_rfl) (by rfl) hHeld ?_
        try simp only [Act.put, List.setIfInBounds_toArray, List.set_cons_zero, List.set_cons_succ]
        refine wpAnyH_skipQ 18 (fun _ _ _ _ _ h => h) (by simp only [List.getElem?_toArray, List.getElem?_cons_succ, List.getElem?_cons_zero]; rfl) (by kernel_rfl) (by kernel_rfl) (by kernel_rfl) (by rfl) hHeld ?_
        try simp only [Act.put, List.setIfInBounds_toArray, List.set_cons_zero, List.set_cons_succ]
        refine wpAnyH_skipQ 19 (fun _ _ _ _ _ h => h) (by simp only [List.getElem?_toArray, List.getElem?_cons_succ, List.getElem?_cons_zero]; rfl) (by kernel_rfl) (by kernel_rfl) (by kernel_rfl) (by rfl) hHeld ?_
        try simp only [Act.put, List.setIfInBounds_toArray, List.set_cons_zero, List.set_cons_succ]
        refine wpAnyH_skipQ 20 (fun _ _ _ _ _ h => h) (by simp only [List.getElem?_toArray, List.getElem?_cons_succ, List.getElem?_cons_zero]; rfl) (by kernel_rfl) (by kernel_rfl) (by kernel_rfl) (by rfl) hHeld ?_
        try simp only [Act.put, List.setIfInBounds_toArray, List.set_cons_zero, List.set_cons_succ]
        refine wpAnyH_takeQ 21 (v := ?_) (fun _ _ _ _ _ h => h) (by simp only [List.getElem?_toArray, List.getElem?_cons_succ, List.getElem?_cons_zero]; rfl) (by kernel_rfl) (by kernel_rfl) (by kernel_rfl) (by rfl) ?_ hHeld ?_; rotate_left; · (intro w hSw; (try dsimp only at hSw); go_simp; (try with_reducible rfl))
        try simp only [Act.put, List.setIfInBounds_toArray, List.set_cons_zero, List.set_cons_succ]
        refine wpAnyH_takeQ 22 (v := ?_) (fun _ _ _ _ _ h => h) (by simp only [List.getElem?_toArray, List.getElem?_cons_succ, List.getElem?_cons_zero]; rfl) (by kernel_rfl) (by kernel_rfl) (by kernel_rfl) (by rfl) ?_ hHeld ?_; rotate_left; · (intro w hSw; (try dsimp only at hSw); go_simp; (try with_reducible rfl))
        try simp only [Act.put, List.setIfInBounds_toArray, List.set_cons_zero, List.set_cons_succ]
        refine wpAnyH_done (by kernel_rfl) (NoPanic.normal ?_) _
        clear hHeld
        go_wp2_with fail
        go_meet
        exact ⟨rfl, BW0.out, hB⟩
      · by_cases hC : ((qround q_a : Int) : Rat) - q_a = -qof 1 2
        · skip
          refine wp_region_named (S := (fun w' => (w'.cell? ⟨g_d, 0, none⟩ = some (.bool b_d) ∧ w'.cell? ⟨g_d, 1, none⟩ = some (.slice A_d n_d c_d) ∧ w'.cell? ⟨g_d, 2, none⟩ = some (.slice D_d e_d f_d)) ∧ (w'.cell? ⟨g_h, 0, none⟩ = some (.bool b_h) ∧ w'.cell? ⟨g_h, 1, none⟩ = some (.slice A_h n_h c_h) ∧ w'.cell? ⟨g_h, 2, none⟩ = some (.slice D_h e_h f_h)) ∧ (w'.cell? ⟨w.heap.size, 0, none⟩ = some (.bool b_a) ∧ w'.cell? ⟨w.heap.size, 1, none⟩ = some m_a ∧ w'.cell? ⟨w.heap.size, 2, none⟩ = some d_a) ∧ (w'.cell? ⟨g_zz, 0, none⟩ = some (.bool b_zz) ∧ w'.cell? ⟨g_zz, 1, none⟩ = some (.slice A_zz n_zz c_zz) ∧ w'.cell? ⟨g_zz, 2, none⟩ = some (.slice D_zz e_zz f_zz)))) (by kernel_rfl) (by exact ⟨B_d.out.c3, B_h.out.c3, B_a.out.c3, B_zz.out.c3⟩) (fun V135 hb hHeld => ?_)
          replace HT := Lib.hid (HT.out.below hb)
          replace R_a := Lib.hid (R_a.out.below hb)
          replace Q_o := Lib.hid (Q_o.out.below hb)
          replace Q_h := Lib.hid (Q_h.out.below hb)
          replace Q_l := Lib.hid (Q_l.out.below hb)
          replace Q_n := Lib.hid (Q_n.out.below hb)
          replace Q_d := Lib.hid (Q_d.out.below hb)
          replace Q_zz := Lib.hid (Q_zz.out.below hb)
          replace BW0 := Lib.hid (BW0.out.below hb)
          replace B_a := Lib.hid (B_a.out.below hb)
          replace B_o := Lib.hid (B_o.out.below hb)
          replace B_h := Lib.hid (B_h.out.below hb)
          replace B_l := Lib.hid (B_l.out.below hb)
          replace B_n := Lib.hid (B_n.out.below hb)
          replace B_d := Lib.hid (B_d.out.below hb)
          replace B_zz := Lib.hid (B_zz.out.below hb)
          replace hB := below_next hB hb
          clear hb
          refine wpAnyH_takeQ 0 (v := ?_) (fun _ _ _ _ _ h => h) (by simp only [List.getElem?_toArray, List.getElem?_cons_zero]; rfl) (by kernel_rfl) (by kernel_rfl) (by kernel_rfl) (by rfl) ?_ hHeld ?_; rotate_left; · (intro w hSw; (try dsimp only at hSw); go_simp; (try with_reducible rfl))
          try simp only [Act.put, List.setIfInBounds_toArray, List.set_cons_zero, List.set_cons_succ]
          refine wpAnyH_takeQ 1 (v := ?_) (fun _ _ _ _ _ h => h) (by simp only [List.getElem?_toArray, List.getElem?_cons_succ, List.getElem?_cons_zero]; rfl) (by kernel_rfl) (by kernel_rfl) (by kernel_rfl) (by rfl) ?_ hHeld ?_; rotate_left; · (intro w hSw; (try dsimp only at hSw); go_simp; (try with_reducible rfl))
          try simp only [Act.put, List.setIfInBounds_toArray, List.set_cons_zero, List.set_cons_succ]
          refine wpAnyH_ready (rs := [2]) (by kernel_rfl) (by simp) ?_
          refine AllReadyH.cons (by simp only [List.getElem?_toArray, List.getElem?_cons_succ, List.getElem?_cons_zero]; rfl) (fun K hK => ?_) AllReadyH.nil
          go_simp
          clear hHeld
          refine (qcmp_is (k := 18) (j := 1) (v := (-1)) (by exact Q_d.out.rat ((S_n.sub S_a).more (by omega))) (by exact Q_h.out.rat S_h) (by omega) (by omega) (by omega) (by omega) (by exact qord_lt (Rat.lt_of_le_of_ne (near_hi _) hA))).mono ?_
          rintro e w136 ⟨rfl, hb⟩
          replace HT := Lib.hid (HT.out.below hb)
          replace R_a := Lib.hid (R_a.out.below hb)
          replace Q_o := Lib.hid (Q_o.out.below hb)
          replace Q_h := Lib.hid (Q_h.out.below hb)
          replace Q_l := Lib.hid (Q_l.out.below hb)
          replace Q_n := Lib.hid (Q_n.out.below hb)
          replace Q_d := Lib.hid (Q_d.out.below hb)
          replace Q_zz := Lib.hid (Q_zz.out.below hb)
          replace BW0 := Lib.hid (BW0.out.below hb)
          replace B_a := Lib.hid (B_a.out.below hb)
          replace B_o := Lib.hid (B_o.out.below hb)
          replace B_h := Lib.hid (B_h.out.below hb)
          replace B_l := Lib.hid (B_l.out.below hb)
          replace B_n := Lib.hid (B_n.out.below hb)
          replace B_d := Lib.hid (B_d.out.below hb)
          replace B_zz := Lib.hid (B_zz.out.below hb)
          replace hB := below_next hB hb
          clear hb
          go_wp2_with fail
          refine hK.out _ _ (by exact ⟨B_d.out.c3, B_h.out.c3, B_a.out.c3, B_zz.out.c3⟩) (fun hHeld => ?_)
          clear hK K
          try simp only [Act.put, List.setIfInBounds_toArray, List.set_cons_zero, List.set_cons_succ]
          refine wpAnyH_takeQ 3 (v := ?_) (fun _ _ _ _ _ h => h) (by simp only [List.getElem?_toArray, List.getElem?_cons_succ, List.getElem?_cons_zero]; rfl) (by kernel_rfl) (by kernel_rfl) (by kernel_rfl) (by rfl) ?_ hHeld ?_; rotate_left; · (intro w hSw; (try dsimp only at hSw); go_simp; (try with_reducible rfl))
          try simp only [Act.put, List.setIfInBounds_toArray, List.set_cons_zero, List.set_cons_succ]
          refine wpAnyH_takeQ 4 (v := ?_) (fun _ _ _ _ _ h => h) (by simp only [List.getElem?_toArray, List.getElem?_cons_succ, List.getElem?_cons_zero]; rfl) (by kernel_rfl) (by kernel_rfl) (by kernel_rfl) (by rfl) ?_ hHeld ?_; rotate_left; · (intro w hSw; (try dsimp only at hSw); go_simp; (try with_reducible rfl))
          try simp only [Act.put, List.setIfInBounds_toArray, List.set_cons_zero, List.set_cons_succ]
          refine wpAnyH_skipQ 5 (fun _ _ _ _ _ h => h) (by simp only [List.getElem?_toArray, List.getElem?_cons_succ, List.getElem?_cons_zero]; rfl) (by kernel_rfl) (by kernel_rfl) (by kernel_rfl) (by rfl) hHeld ?_
          try simp only [Act.put, List.setIfInBounds_toArray, List.set_cons_zero, List.set_cons_succ]
          refine wpAnyH_skipQ 6 (fun _ _ _ _ _ h => h) (by simp only [List.getElem?_toArray, List.getElem?_cons_succ, List.getElem?_cons_zero]; rfl) (by kernel_rfl) (by kernel_rfl) (by kernel_rfl) (by rfl) hHeld ?_
          try simp only [Act.put, List.setIfInBounds_toArray, List.set_cons_zero, List.set_cons_succ]
          refine wpAnyH_skipQ 7 (fun _ _ _ _ _ h => h) (by simp only [List.getElem?_toArray, List.getElem?_cons_succ, List.getElem?_cons_zero]; rfl) (by kernel_rfl) (by kernel_rfl) (by kernel_rfl) (by rfl) hHeld ?_
          try simp only [Act.put, List.setIfInBounds_toArray, List.set_cons_zero, List.set_cons_succ]
          refine wpAnyH_skipQ 8 (fun _ _ _ _ _ h => h) (by simp only [List.getElem?_toArray, List.getElem?_cons_succ, List.getElem?_cons_zero]; rfl) (by kernel_rfl) (by kernel_rfl) (by kernel_rfl) (by rfl) hHeld ?_
          try simp only [Act.put, List.setIfInBounds_toArray, List.set_cons_zero, List.set_cons_succ]
          refine wpAnyH_takeQ 9 (v := ?_) (fun _ _ _ _ _ h => h) (by simp only [List.getElem?_toArray, List.getElem?_cons_succ, List.getElem?_cons_zero]; rfl) (by kernel_rfl) (by kernel_rfl) (by kernel_rfl) (by rfl) ?_ hHeld ?_; rotate_left; · (intro w hSw; (try dsimp only at hSw); go_simp; (try with_reducible rfl))
          try simp only [Act.put, List.setIfInBounds_toArray, List.set_cons_zero, List.set_cons_succ]
          refine wpAnyH_takeQ 10 (v := ?_) (fun _ _ _ _ _ h => h) (by simp only [List.getElem?_toArray, List.getElem?_cons_succ, List.getElem?_cons_zero]; rfl) (by kernel_rfl) (by kernel_rfl) (by kernel_rfl) (by rfl) ?_ hHeld ?_; rotate_left; · (intro w hSw; (try dsimp only at hSw); go_simp; (try with_reducible rfl))
          try simp only [Act.put, List.setIfInBounds_toArray, List.set_cons_zero, List.set_cons_succ]
          refine wpAnyH_takeQ 11 (v := ?_) (fun _ _ _ _ _ h => h) (by simp only [List.getElem?_toArray, List.getElem?_cons_succ, List.getElem?_cons_zero]; rfl) (by kernel_rfl) (by kernel_rfl) (by kernel_rfl) (by rfl) ?_ hHeld ?_; rotate_left; · (intro w hSw; (try dsimp only at hSw); go_simp; (try with_reducible rfl))
          try simp only [Act.put, List.setIfInBounds_toArray, List.set_cons_zero, List.set_cons_succ]
          refine wpAnyH_takeQ 12 (v := ?_) (fun _ _ _ _ _ h => h) (by simp only [List.getElem?_toArray, List.getElem?_cons_succ, List.getElem?_cons_zero]; rfl) (by kernel_rfl) (by kernel_rfl) (by kernel_rfl) (by rfl) ?_ hHeld ?_; rotate_left; · (intro w hSw; (try dsimp only at hSw); go_simp; (try with_reducible rfl))
          try simp only [Act.put, List.setIfInBounds_toArray, List.set_cons_zero, List.set_cons_succ]
          refine wpAnyH_ready (rs := [13]) (by kernel_rfl) (by simp) ?_
          refine AllReadyH.cons (by simp only [List.getElem?_toArray, List.getElem?_cons_succ, List.getElem?_cons_zero]; rfl) (fun K hK => ?_) AllReadyH.nil
          go_simp
          clear hHeld
          refine (qneg_any _ _ _ _ 1 _ (by exact Q_h.out.rat S_h) (by omega) (by omega)).mono ?_
          rintro e w137 ⟨b_nh, A_nh, n_nh, c_nh, D_nh, e_nh, f_nh, rfl, h_nh, hb⟩
          replace HT := Lib.hid (HT.out.below hb)
          replace R_a := Lib.hid (R_a.out.below hb)
          replace Q_o := Lib.hid (Q_o.out.below hb)
          replace Q_h := Lib.hid (Q_h.out.below hb)
          replace Q_l := Lib.hid (Q_l.out.below hb)
          replace Q_n := Lib.hid (Q_n.out.below hb)
          replace Q_d := Lib.hid (Q_d.out.below hb)
          replace Q_zz := Lib.hid (Q_zz.out.below hb)
          replace BW0 := Lib.hid (BW0.out.below hb)
          replace B_a := Lib.hid (B_a.out.below hb)
          replace B_o := Lib.hid (B_o.out.below hb)
          replace B_h := Lib.hid (B_h.out.below hb)
          replace B_l := Lib.hid (B_l.out.below hb)
          replace B_n := Lib.hid (B_n.out.below hb)
          replace B_d := Lib.hid (B_d.out.below hb)
          replace B_zz := Lib.hid (B_zz.out.below hb)
          replace hB := below_next hB hb
          clear hb
          have Q_nh := Lib.hid h_nh
          clear h_nh
          go_wp2_with fail
          refine hK.out _ _ (by exact ⟨B_d.out.c3, B_h.out.c3, B_a.out.c3, B_zz.out.c3⟩) (fun hHeld => ?_)
          clear hK K
          try simp only [Act.put, List.setIfInBounds_toArray, List.set_cons_zero, List.set_cons_succ]
          refine wpAnyH_ready (rs := [14]) (by kernel_rfl) (by simp) ?_
          refine AllReadyH.cons (by simp only [List.getElem?_toArray, List.getElem?_cons_succ, List.getElem?_cons_zero]; rfl) (fun K hK => ?_) AllReadyH.nil
          go_simp
          clear hHeld
          refine (qcmp_is (k := 18) (j := 1) (v := 0) (by exact Q_d.out.rat ((S_n.sub S_a).more (by omega))) (by exact Q_nh.out.rat ((S_h.neg).more (by omega))) (by omega) (by omega) (by omega) (by omega) (by exact qord_eq hC)).mono ?_
          rintro e w138 ⟨rfl, hb⟩
          replace HT := Lib.hid (HT.out.below hb)
          replace R_a := Lib.hid (R_a.out.below hb)
          replace Q_o := Lib.hid (Q_o.out.below hb)
          replace Q_h := Lib.hid (Q_h.out.below hb)
          replace Q_l := Lib.hid (Q_l.out.below hb)
          replace Q_n := Lib.hid (Q_n.out.below hb)
          replace Q_d := Lib.hid (Q_d.out.below hb)
          replace Q_zz := Lib.hid (Q_zz.out.below hb)
          replace BW0 := Lib.hid (BW0.out.below hb)
          replace Q_nh := Lib.hid (Q_nh.out.below hb)
          replace B_a := Lib.hid (B_a.out.below hb)
          replace B_o := Lib.hid (B_o.out.below hb)
          replace B_h := Lib.hid (B_h.out.below hb)
          replace B_l := Lib.hid (B_l.out.below hb)
          replace B_n := Lib.hid (B_n.out.below hb)
          replace B_d := Lib.hid (B_d.out.below hb)
          replace B_zz := Lib.hid (B_zz.out.below hb)
          replace hB := below_next hB hb
          clear hb
          go_wp2_with fail
          refine hK.out _ _ (by exact ⟨B_d.out.c3, B_h.out.c3, B_a.out.c3, B_zz.out.c3⟩) (fun hHeld => ?_)
          clear hK K
          try simp only [Act.put, List.setIfInBounds_toArray, List.set_cons_zero, List.set_cons_succ]
          refine wpAnyH_takeQ 15 (v := ?_) (fun _ _ _ _ _ h => h) (by simp only [List.getElem?_toArray, List.getElem?_cons_succ, List.getElem?_cons_zero]; rfl) (by kernel_rfl) (by kernel_rfl) (by kernel_rfl) (by rfl) ?_ hHeld ?_; rotate_left; · (intro w hSw; (try dsimp only at hSw); go_simp; (try with_reducible rfl))
          try simp only [Act.put, List.setIfInBounds_toArray, List.set_cons_zero, List.set_cons_succ]
          refine wpAnyH_takeQ 16 (v := ?_) (fun _ _ _ _ _ h => h) (by simp only [List.getElem?_toArray, List.getElem?_cons_succ, List.getElem?_cons_zero]; rfl) (by kernel_rfl) (by kernel_rfl) (by kernel_rfl) (by rfl) ?_ hHeld ?_; rotate_left; · (intro w hSw; (try dsimp only at hSw); go_simp; (try with_reducible rfl))
          try simp only [Act.put, List.setIfInBounds_toArray, List.set_cons_zero, List.set_cons_succ]
          refine wpAnyH_takeQ 17 (v := ?_) (fun _ _ _ _ _ h => h) (by simp only [List.getElem?_toArray, List.getElem?_cons_succ, List.getElem?_cons_zero]; rfl) (by kernel_rfl) (by kernel_rfl) (by kernel_rfl) (by rfl) ?_ hHeld ?_; rotate_left; · (intro w hSw; (try dsimp only at hSw); go_simp; (try with_reducible rfl))
          try simp only [Act.put, List.setIfInBounds_toArray, List.set_cons_zero, List.set_cons_succ]
          refine wpAnyH_takeQ 18 (v := ?_) (fun _ _ _ _ _ h => h) (by simp only [List.getElem?_toArray, List.getElem?_cons_succ, List.getElem?_cons_zero]; rfl) (by kernel_rfl) (by kernel_rfl) (by kernel_rfl) (by rfl) ?_ hHeld ?_; rotate_left; · (intro w hSw; (try dsimp only at hSw); go_simp; (try with_reducible rfl))
          try simp only [Act.put, List.setIfInBounds_toArray, List.set_cons_zero, List.set_cons_succ]
          refine wpAnyH_ready (rs := [19]) (by kernel_rfl) (by simp) ?_
          refine AllReadyH.cons (by simp only [List.getElem?_toArray, List.getElem?_cons_succ, List.getElem?_cons_zero]; rfl) (fun K hK => ?_) AllReadyH.nil
          go_simp
          clear hHeld
          refine (qcmp_le (k := 8) (j := 1) (by exact R_a.out) (by exact Q_zz.out.rat qsz0) (by omega) (by omega) (by omega) (by omega) (near_down hC)).mono ?_
          rintro e w139 ⟨oc4, rfl, hoc4, hb⟩
          replace HT := Lib.hid (HT.out.below hb)
          replace R_a := Lib.hid (R_a.out.below hb)
          replace Q_o := Lib.hid (Q_o.out.below hb)
          replace Q_h := Lib.hid (Q_h.out.below hb)
          replace Q_l := Lib.hid (Q_l.out.below hb)
          replace Q_n := Lib.hid (Q_n.out.below hb)
          replace Q_d := Lib.hid (Q_d.out.below hb)
          replace Q_zz := Lib.hid (Q_zz.out.below hb)
          replace BW0 := Lib.hid (BW0.out.below hb)
          replace Q_nh := Lib.hid (Q_nh.out.below hb)
          replace B_a := Lib.hid (B_a.out.below hb)
          replace B_o := Lib.hid (B_o.out.below hb)
          replace B_h := Lib.hid (B_h.out.below hb)
          replace B_l := Lib.hid (B_l.out.below hb)
          replace B_n := Lib.hid (B_n.out.below hb)
          replace B_d := Lib.hid (B_d.out.below hb)
          replace B_zz := Lib.hid (B_zz.out.below hb)
          replace hB := below_next hB hb
          clear hb
          have foc4 : decide ((0 : Int) < oc4) = false := (by simp; omega)
          go_wp2_with fail
          refine hK.out _ _ (by exact ⟨B_d.out.c3, B_h.out.c3, B_a.out.c3, B_zz.out.c3⟩) (fun hHeld => ?_)
          clear hK K
          try simp only [Act.put, List.setIfInBounds_toArray, List.set_cons_zero, List.set_cons_succ]
          refine wpAnyH_takeQ 20 (v := ?_) (fun _ _ _ _ _ h => h) (by simp only [List.getElem?_toArray, List.getElem?_cons_succ, List.getElem?_cons_zero]; rfl) (by kernel_rfl) (by kernel_rfl) (by kernel_rfl) (by rfl) ?_ hHeld ?_; rotate_left; · (intro w hSw; (try dsimp only at hSw); go_simp; (try with_reducible rfl))
          try simp only [Act.put, List.setIfInBounds_toArray, List.set_cons_zero, List.set_cons_succ]
          refine wpAnyH_takeQ 21 (v := ?_) (fun _ _ _ _ _ h => h) (by simp only [List.getElem?_toArray, List.getElem?_cons_succ, List.getElem?_cons_zero]; rfl) (by kernel_rfl) (by kernel_rfl) (by kernel_rfl) (by rfl) ?_ hHeld ?_; rotate_left; · (intro w hSw; (try dsimp only at hSw); go_simp; (try with_reducible rfl))
          try simp only [Act.put, List.setIfInBounds_toArray, List.set_cons_zero, List.set_cons_succ]
          refine wpAnyH_takeQ 22 (v := ?_) (fun _ _ _ _ _ h => h) (by simp only [List.getElem?_toArray, List.getElem?_cons_succ, List.getElem?_cons_zero]; rfl) (by kernel_rfl) (by kernel_rfl) (by kernel_rfl) (by rfl) ?_ hHeld ?_; rotate_left; · (intro w hSw; (try dsimp only at hSw); go_simp; (try with_reducible rfl))
          try simp only [Act.put, List.setIfInBounds_toArray, List.set_cons_zero, List.set_cons_succ]
          refine wpAnyH_done (by kernel_rfl) (NoPanic.normal ?_) _
          clear hHeld
          go_wp2_with fail
          go_meet
          exact ⟨rfl, BW0.out, hB⟩
        · skip
          refine wp_region_named (S := (fun w' => (w'.cell? ⟨g_d, 0, none⟩ = some (.bool b_d) ∧ w'.cell? ⟨g_d, 1, none⟩ = some (.slice A_d n_d c_d) ∧ w'.cell? ⟨g_d, 2, none⟩ = some (.slice D_d e_d f_d)) ∧ (w'.cell? ⟨g_h, 0, none⟩ = some (.bool b_h) ∧ w'.cell? ⟨g_h, 1, none⟩ = some (.slice A_h n_h c_h) ∧ w'.cell? ⟨g_h, 2, none⟩ = some (.slice D_h e_h f_h)) ∧ (w'.cell? ⟨w.heap.size, 0, none⟩ = some (.bool b_a) ∧ w'.cell? ⟨w.heap.size, 1, none⟩ = some m_a ∧ w'.cell? ⟨w.heap.size, 2, none⟩ = some d_a) ∧ (w'.cell? ⟨g_zz, 0, none⟩ = some (.bool b_zz) ∧ w'.cell? ⟨g_zz, 1, none⟩ = some (.slice A_zz n_zz c_zz) ∧ w'.cell? ⟨g_zz, 2, none⟩ = some (.slice D_zz e_zz f_zz)))) (by kernel_rfl) (by exact ⟨B_d.out.c3, B_h.out.c3, B_a.out.c3, B_zz.out.c3⟩) (fun V140 hb hHeld => ?_)
          replace HT := Lib.hid (HT.out.below hb)
          replace R_a := Lib.hid (R_a.out.below hb)
          replace Q_o := Lib.hid (Q_o.out.below hb)
          replace Q_h := Lib.hid (Q_h.out.below hb)
          replace Q_l := Lib.hid (Q_l.out.below hb)
          replace Q_n := Lib.hid (Q_n.out.below hb)
          replace Q_d := Lib.hid (Q_d.out.below hb)
          replace Q_zz := Lib.hid (Q_zz.out.below hb)
          replace BW0 := Lib.hid (BW0.out.below hb)
          replace B_a := Lib.hid (B_a.out.below hb)
          replace B_o := Lib.hid (B_o.out.below hb)
          replace B_h := Lib.hid (B_h.out.below hb)
          replace B_l := Lib.hid (B_l.out.below hb)
          replace B_n := Lib.hid (B_n.out.below hb)
          replace B_d := Lib.hid (B_d.out.below hb)
          replace B_zz := Lib.hid (B_zz.out.below hb)
          replace hB := below_next hB hb
          clear hb
          refine wpAnyH_takeQ 0 (v := ?_) (fun _ _ _ _ _ h => h) (by simp only [List.getElem?_toArray, List.getElem?_cons_zero]; rfl) (by kernel_rfl) (by kernel_rfl) (by kernel_rfl) (by rfl) ?_ hHeld ?_; rotate_left; · (intro w hSw; (try dsimp only at hSw); go_simp; (try with_reducible rfl))
          try simp only [Act.put, List.setIfInBounds_toArray, List.set_cons_zero, List.set_cons_succ]
          refine wpAnyH_takeQ 1 (v := ?_) (fun _ _ _ _ _ h => h) (by simp only [List.getElem?_toArray, List.getElem?_cons_succ, List.getElem?_cons_zero]; rfl) (by kernel_rfl) (by kernel_rfl) (by kernel_rfl) (by rfl) ?_ hHeld ?_; rotate_left; · (intro w hSw; (try dsimp only at hSw); go_simp; (try with_reducible rfl))
          try simp only [Act.put, List.setIfInBounds_toArray, List.set_cons_zero, List.set_cons_succ]
          refine wpAnyH_ready (rs := [2]) (by kernel_rfl) (by simp) ?_
          refine AllReadyH.cons (by simp only [List.getElem?_toArray, List.getElem?_cons_succ, List.getElem?_cons_zero]; rfl) (fun K hK => ?_) AllReadyH.nil
          go_simp
          clear hHeld
          refine (qcmp_is (k := 18) (j := 1) (v := (-1)) (by exact Q_d.out.rat ((S_n.sub S_a).more (by omega))) (by exact Q_h.out.rat S_h) (by omega) (by omega) (by omega) (by omega) (by exact qord_lt (Rat.lt_of_le_of_ne (near_hi _) hA))).mono ?_
          rintro e w141 ⟨rfl, hb⟩
          replace HT := Lib.hid (HT.out.below hb)
          replace R_a := Lib.hid (R_a.out.below hb)
          replace Q_o := Lib.hid (Q_o.out.below hb)
          replace Q_h := Lib.hid (Q_h.out.below hb)
          replace Q_l := Lib.hid (Q_l.out.below hb)
          replace Q_n := Lib.hid (Q_n.out.below hb)
          replace Q_d := Lib.hid (Q_d.out.below hb)
          replace Q_zz := Lib.hid (Q_zz.out.below hb)
          replace BW0 := Lib.hid (BW0.out.below hb)
          replace B_a := Lib.hid (B_a.out.below hb)
          replace B_o := Lib.hid (B_o.out.below hb)
          replace B_h := Lib.hid (B_h.out.below hb)
          replace B_l := Lib.hid (B_l.out.below hb)
          replace B_n := Lib.hid (B_n.out.below hb)
          replace B_d := Lib.hid (B_d.out.below hb)
          replace B_zz := Lib.hid (B_zz.out.below hb)
          replace hB := below_next hB hb
          clear hb
          go_wp2_with fail
          refine hK.out _ _ (by exact ⟨B_d.out.c3, B_h.out.c3, B_a.out.c3, B_zz.out.c3⟩) (fun hHeld => ?_)
          clear hK K
          try simp only [Act.put, List.setIfInBounds_toArray, List.set_cons_zero, List.set_cons_succ]
          refine wpAnyH_takeQ 3 (v := ?_) (fun _ _ _ _ _ h => h) (by simp only [List.getElem?_toArray, List.getElem?_cons_succ, List.getElem?_cons_zero]; rfl) (by kernel_rfl) (by kernel_rfl) (by kernel_rfl) (by rfl) ?_ hHeld ?_; rotate_left; · (intro w hSw; (try dsimp only at hSw); go_simp; (try with_reducible rfl))
          try simp only [Act.put, List.setIfInBounds_toArray, List.set_cons_zero, List.set_cons_succ]
          refine wpAnyH_takeQ 4 (v := ?_) (fun _ _ _ _ _ h => h) (by simp only [List.getElem?_toArray, List.getElem?_cons_succ, List.getElem?_cons_zero]; rfl) (by kernel_rfl) (by kernel_rfl) (by kernel_rfl) (by rfl) ?_ hHeld ?_; rotate_left; · (intro w hSw; (try dsimp only at hSw); go_simp; (try with_reducible rfl))
          try simp only [Act.put, List.setIfInBounds_toArray, List.set_cons_zero, List.set_cons_succ]
          refine wpAnyH_skipQ 5 (fun _ _ _ _ _ h => h) (by simp only [List.getElem?_toArray, List.getElem?_cons_succ, List.getElem?_cons_zero]; rfl) (by kernel_rfl) (by kernel_rfl) (by kernel_rfl) (by rfl) hHeld ?_
          try simp only [Act.put, List.setIfInBounds_toArray, List.set_cons_zero, List.set_cons_succ]
          refine wpAnyH_skipQ 6 (fun _ _ _ _ _ h => h) (by simp only [List.getElem?_toArray, List.getElem?_cons_succ, List.getElem?_cons_zero]; rfl) (by kernel_rfl) (by kernel_rfl) (by kernel_rfl) (by rfl) hHeld ?_
          try simp only [Act.put, List.setIfInBounds_toArray, List.set_cons_zero, List.set_cons_succ]
          refine wpAnyH_skipQ 7 (fun _ _ _ _ _ h => h) (by simp only [List.getElem?_toArray, List.getElem?_cons_succ, List.getElem?_cons_zero]; rfl) (by kernel_rfl) (by kernel_rfl) (by kernel_rfl) (by rfl) hHeld ?_
          try simp only [Act.put, List.setIfInBounds_toArray, List.set_cons_zero, List.set_cons_succ]
          refine wpAnyH_skipQ 8 (fun _ _ _ _ _ h => h) (by simp only [List.getElem?_toArray, List.getElem?_cons_succ, List.getElem?_cons_zero]; rfl) (by kernel_rfl) (by kernel_rfl) (by kernel_rfl) (by rfl) hHeld ?_
          try simp only [Act.put, List.setIfInBounds_toArray, List.set_cons_zero, List.set_cons_succ]
          refine wpAnyH_takeQ 9 (v := ?_) (fun _ _ _ _ _ h => h) (by simp only [List.getElem?_toArray, List.getElem?_cons_succ, List.getElem?_cons_zero]; rfl) (by kernel_rfl) (by kernel_rfl) (by kernel_rfl) (by rfl) ?_ hHeld ?_; rotate_left; · (intro w hSw; (try dsimp only at hSw); go_simp; (try with_reducible rfl))
          try simp only [Act.put, List.setIfInBounds_toArray, List.set_cons_zero, List.set_cons_succ]
          refine wpAnyH_takeQ 10 (v := ?_) (fun _ _ _ _ _ h => h) (by simp only [List.getElem?_toArray, List.getElem?_cons_succ, List.getElem?_cons_zero]; rfl) (by kernel_rfl) (by kernel_rfl) (by kernel_rfl) (by rfl) ?_ hHeld ?_; rotate_left; · (intro w hSw; (try dsimp only at hSw); go_simp; (try with_reducible rfl))
          try simp only [Act.put, List.setIfInBounds_toArray, List.set_cons_zero, List.set_cons_succ]
          refine wpAnyH_takeQ 11 (v := ?_) (fun _ _ _ _ _ h => h) (by simp only [List.getElem?_toArray, List.getElem?_cons_succ, List.getElem?_cons_zero]; rfl) (by kernel_rfl) (by kernel_rfl) (by kernel_rfl) (by rfl) ?_ hHeld ?_; rotate_left; · (intro w hSw; (try dsimp only at hSw); go_simp; (try with_reducible rfl))
          try simp only [Act.put, List.setIfInBounds_toArray, List.set_cons_zero, List.set_cons_succ]
          refine wpAnyH_takeQ 12 (v := ?_) (fun _ _ _ _ _ h => h) (by simp only [List.getElem?_toArray, List.getElem?_cons_succ, List.getElem?_cons_zero]; rfl) (by kernel_rfl) (by kernel_rfl) (by kernel_rfl) (by rfl) ?_ hHeld ?_; rotate_left; · (intro w hSw; (try dsimp only at hSw); go_simp; (try with_reducible rfl))
          try simp only [Act.put, List.setIfInBounds_toArray, List.set_cons_zero, List.set_cons_succ]
          refine wpAnyH_ready (rs := [13]) (by kernel_rfl) (by simp) ?_
          refine AllReadyH.cons (by simp only [List.getElem?_toArray, List.getElem?_cons_succ, List.getElem?_cons_zero]; rfl) (fun K hK => ?_) AllReadyH.nil
          go_simp
          clear hHeld
          refine (qneg_any _ _ _ _ 1 _ (by exact Q_h.out.rat S_h) (by omega) (by omega)).mono ?_
          rintro e w142 ⟨b_nh, A_nh, n_nh, c_nh, D_nh, e_nh, f_nh, rfl, h_nh, hb⟩
          replace HT := Lib.hid (HT.out.below hb)
          replace R_a := Lib.hid (R_a.out.below hb)
          replace Q_o := Lib.hid (Q_o.out.below hb)
          replace Q_h := Lib.hid (Q_h.out.below hb)
          replace Q_l := Lib.hid (Q_l.out.below hb)
          replace Q_n := Lib.hid (Q_n.out.below hb)
          replace Q_d := Lib.hid (Q_d.out.below hb)
          replace Q_zz := Lib.hid (Q_zz.out.below hb)
          replace BW0 := Lib.hid (BW0.out.below hb)
          replace B_a := Lib.hid (B_a.out.below hb)
          replace B_o := Lib.hid (B_o.out.below hb)
          replace B_h := Lib.hid (B_h.out.below hb)
          replace B_l := Lib.hid (B_l.out.below hb)
          replace B_n := Lib.hid (B_n.out.below hb)
          replace B_d := Lib.hid (B_d.out.below hb)
          replace B_zz := Lib.hid (B_zz.out.below hb)
          replace hB := below_next hB hb
          clear hb
          have Q_nh := Lib.hid h_nh
          clear h_nh
          go_wp2_with fail
          refine hK.out _ _ (by exact ⟨B_d.out.c3, B_h.out.c3, B_a.out.c3, B_zz.out.c3⟩) (fun hHeld => ?_)
          clear hK K
          try simp only [Act.put, List.setIfInBounds_toArray, List.set_cons_zero, List.set_cons_succ]
          refine wpAnyH_ready (rs := [14]) (by kernel_rfl) (by simp) ?_
          refine AllReadyH.cons (by simp only [List.getElem?_toArray, List.getElem?_cons_succ, List.getElem?_cons_zero]; rfl) (fun K hK => ?_) AllReadyH.nil
          go_simp
          clear hHeld
          refine (qcmp_is (k := 18) (j := 1) (v := 1) (by exact Q_d.out.rat ((S_n.sub S_a).more (by omega))) (by exact Q_nh.out.rat ((S_h.neg).more (by omega))) (by omega) (by omega) (by omega) (by omega) (by exact qord_gt (Rat.lt_of_le_of_ne (near_lo _) (fun e => hC e.symm)))).mono ?_
          rintro e w143 ⟨rfl, hb⟩
          replace HT := Lib.hid (HT.out.below hb)
          replace R_a := Lib.hid (R_a.out.below hb)
          replace Q_o := Lib.hid (Q_o.out.below hb)
          replace Q_h := Lib.hid (Q_h.out.below hb)
          replace Q_l := Lib.hid (Q_l.out.below hb)
          replace Q_n := Lib.hid (Q_n.out.below hb)
          replace Q_d := Lib.hid (Q_d.out.below hb)
          replace Q_zz := Lib.hid (Q_zz.out.below hb)
          replace BW0 := Lib.hid (BW0.out.below hb)
          replace Q_nh := Lib.hid (Q_nh.out.below hb)
          replace B_a := Lib.hid (B_a.out.below hb)
          replace B_o := Lib.hid (B_o.out.below hb)
          replace B_h := Lib.hid (B_h.out.below hb)
          replace B_l := Lib.hid (B_l.out.below hb)
          replace B_n := Lib.hid (B_n.out.below hb)
          replace B_d := Lib.hid (B_d.out.below hb)
          replace B_zz := Lib.hid (B_zz.out.below hb)
          replace hB := below_next hB hb
          clear hb
          go_wp2_with fail
          refine hK.out _ _ (by exact ⟨B_d.out.c3, B_h.out.c3, B_a.out.c3, B_zz.out.c3⟩) (fun hHeld => ?_)
          clear hK K
          try simp only [Act.put, List.setIfInBounds_toArray, List.set_cons_zero, List.set_cons_succ]
          refine wpAnyH_takeQ 15 (v := ?_) (fun _ _ _ _ _ h => h) (by simp only [List.getElem?_toArray, List.getElem?_cons_succ, List.getElem?_cons_zero]; rfl) (by kernel_rfl) (by kernel_rfl) (by kernel_rfl) (by rfl) ?_ hHeld ?_; rotate_left; · (intro w hSw; (try dsimp only at hSw); go_simp; (try with_reducible rfl))
          try simp only [Act.put, List.setIfInBounds_toArray, List.set_cons_zero, List.set_cons_succ]
          refine wpAnyH_takeQ 16 (v := ?_) (fun _ _ _ _ _ h => h) (by simp only [List.getElem?_toArray, List.getElem?_cons_succ, List.getElem?_cons_zero]; rfl) (by kernel_rfl) (by kernel_rfl) (by kernel_rfl) (by rfl) ?_ hHeld ?_; rotate_left; · (intro w hSw; (try dsimp only at hSw); go_simp; (try with_reducible rfl))
          try simp only [Act.put, List.setIfInBounds_toArray, List.set_cons_zero, List.set_cons_succ]
          refine wpAnyH_skipQ 17 (fun _ _ _ _ _ h => h) (by simp only [List.getElem?_toArray, List.getElem?_cons_succ, List.getElem?_cons_zero]; rfl) (by kernel_rfl) (by kernel_rfl) (by kernel_rfl) (by rfl) hHeld ?_
          try simp only [Act.put, List.setIfInBounds_toArray, List.set_cons_zero, List.set_cons_succ]
          refine wpAnyH_skipQ 18 (fun _ _ _ _ _ h => h) (by simp only [List.getElem?_toArray, List.getElem?_cons_succ, List.getElem?_cons_zero]; rfl) (by kernel_rfl) (by kernel_rfl) (by kernel_rfl) (by rfl) hHeld ?_
          try simp only [Act.put, List.setIfInBounds_toArray, List.set_cons_zero, List.set_cons_succ]
          refine wpAnyH_skipQ 19 (fun _ _ _ _ _ h => h) (by simp only [List.getElem?_toArray, List.getElem?_cons_succ, List.getElem?_cons_zero]; rfl) (by kernel_rfl) (by kernel_rfl) (by kernel_rfl) (by rfl) hHeld ?_
          try simp only [Act.put, List.setIfInBounds_toArray, List.set_cons_zero, List.set_cons_succ]
          refine wpAnyH_skipQ 20 (fun _ _ _ _ _ h => h) (by simp only [List.getElem?_toArray, List.getElem?_cons_succ, List.getElem?_cons_zero]; rfl) (by kernel_rfl) (by kernel_rfl) (by kernel_rfl) (by rfl) hHeld ?_
          try simp only [Act.put, List.setIfInBounds_toArray, List.set_cons_zero, List.set_cons_succ]
          refine wpAnyH_takeQ 21 (v := ?_) (fun _ _ _ _ _ h => h) (by simp only [List.getElem?_toArray, List.getElem?_cons_succ, List.getElem?_cons_zero]; rfl) (by kernel_rfl) (by kernel_rfl) (by kernel_rfl) (by rfl) ?_ hHeld ?_; rotate_left; · (intro w hSw; (try dsimp only at hSw); go_simp; (try with_reducible rfl))
          try simp only [Act.put, List.setIfInBounds_toArray, List.set_cons_zero, List.set_cons_succ]
          refine wpAnyH_takeQ 22 (v := ?_) (fun _ _ _ _ _ h => h) (by simp only [List.getElem?_toArray, List.getElem?_cons_succ, List.getElem?_cons_zero]; rfl) (by kernel_rfl) (by kernel_rfl) (by kernel_rfl) (by rfl) ?_ hHeld ?_; rotate_left; · (intro w hSw; (try dsimp only at hSw); go_simp; (try with_reducible rfl))
          try simp only [Act.put, List.setIfInBounds_toArray, List.set_cons_zero, List.set_cons_succ]
          refine wpAnyH_done (by kernel_rfl) (NoPanic.normal ?_) _
          clear hHeld
          go_wp2_with fail
          go_meet
          exact ⟨rfl, BW0.out, hB⟩
    case rest =>
      obtain ⟨rfl, bw, -⟩ := hcut
      have hb : Below _ _ _ := bw
      replace HT := Lib.hid (HT.out.below hb)
      replace R_a := Lib.hid (R_a.out.below hb)
      replace Q_o := Lib.hid (Q_o.out.below hb)
      replace Q_h := Lib.hid (Q_h.out.below hb)
      replace Q_l := Lib.hid (Q_l.out.below hb)
      replace Q_n := Lib.hid (Q_n.out.below hb)
      replace Q_d := Lib.hid (Q_d.out.below hb)
      replace Q_zz := Lib.hid (Q_zz.out.below hb)
      replace B_a := Lib.hid (B_a.out.below hb)
      replace B_o := Lib.hid (B_o.out.below hb)
      replace B_h := Lib.hid (B_h.out.below hb)
      replace B_l := Lib.hid (B_l.out.below hb)
      replace B_n := Lib.hid (B_n.out.below hb)
      replace B_d := Lib.hid (B_d.out.below hb)
      replace B_zz := Lib.hid (B_zz.out.below hb)
      replace hB := below_next hB hb
      clear bw hb
      have c_a0 := B_a.out.cell0
      have c_a1 := B_a.out.cell1
      have c_a2 := B_a.out.cell2
      have c_o0 := B_o.out.cell0
      have c_o1 := B_o.out.cell1
      have c_o2 := B_o.out.cell2
      have c_h0 := B_h.out.cell0
      have c_h1 := B_h.out.cell1
      have c_h2 := B_h.out.cell2
      have c_l0 := B_l.out.cell0
      have c_l1 := B_l.out.cell1
      have c_l2 := B_l.out.cell2
      have c_n0 := B_n.out.cell0
      have c_n1 := B_n.out.cell1
      have c_n2 := B_n.out.cell2
      have c_d0 := B_d.out.cell0
      have c_d1 := B_d.out.cell1
      have c_d2 := B_d.out.cell2
      have c_zz0 := B_zz.out.cell0
      have c_zz1 := B_zz.out.cell1
      have c_zz2 := B_zz.out.cell2
      go_wp2_with fail
      clear c_a0 c_a1 c_a2 c_o0 c_o1 c_o2 c_h0 c_h1 c_h2 c_l0 c_l1 c_l2 c_n0 c_n1 c_n2 c_d0 c_d1 c_d2 c_zz0 c_zz1 c_zz2
      refine (qof_any n 1 _ n1 n2 (by omega) (by omega) (by omega)).mono ?_
      rintro e w144 ⟨b_k, A_k, n_k, c_k, D_k, e_k, f_k, rfl, h_k, hb⟩
      replace HT := Lib.hid (HT.out.below hb)
      replace R_a := Lib.hid (R_a.out.below hb)
      replace Q_o := Lib.hid (Q_o.out.below hb)
      replace Q_h := Lib.hid (Q_h.out.below hb)
      replace Q_l := Lib.hid (Q_l.out.below hb)
      replace Q_n := Lib.hid (Q_n.out.below hb)
      replace Q_d := Lib.hid (Q_d.out.below hb)
      replace Q_zz := Lib.hid (Q_zz.out.below hb)
      replace B_a := Lib.hid (B_a.out.below hb)
      replace B_o := Lib.hid (B_o.out.below hb)
      replace B_h := Lib.hid (B_h.out.below hb)
      replace B_l := Lib.hid (B_l.out.below hb)
      replace B_n := Lib.hid (B_n.out.below hb)
      replace B_d := Lib.hid (B_d.out.below hb)
      replace B_zz := Lib.hid (B_zz.out.below hb)
      replace hB := below_next hB hb
      clear hb
      rw [qof_int] at h_k
      have Q_k := Lib.hid h_k
      clear h_k
      have c_a0 := B_a.out.cell0
      have c_a1 := B_a.out.cell1
      have c_a2 := B_a.out.cell2
      have c_o0 := B_o.out.cell0
      have c_o1 := B_o.out.cell1
      have c_o2 := B_o.out.cell2
      have c_h0 := B_h.out.cell0
      have c_h1 := B_h.out.cell1
      have c_h2 := B_h.out.cell2
      have c_l0 := B_l.out.cell0
      have c_l1 := B_l.out.cell1
      have c_l2 := B_l.out.cell2
      have c_n0 := B_n.out.cell0
      have c_n1 := B_n.out.cell1
      have c_n2 := B_n.out.cell2
      have c_d0 := B_d.out.cell0
      have c_d1 := B_d.out.cell1
      have c_d2 := B_d.out.cell2
      have c_zz0 := B_zz.out.cell0
      have c_zz1 := B_zz.out.cell1
      have c_zz2 := B_zz.out.cell2
      go_wp2
      clear c_a0 c_a1 c_a2 c_o0 c_o1 c_o2 c_h0 c_h1 c_h2 c_l0 c_l1 c_l2 c_n0 c_n1 c_n2 c_d0 c_d1 c_d2 c_zz0 c_zz1 c_zz2
      obtain ⟨W145, g_k, hV, hg, NB, hb⟩ := newR w144 (.bool b_k) (.slice A_k n_k c_k) (.slice D_k e_k f_k)
      rw [hV, hg]
      clear hV
      have l_k_a : w.heap.size < g_k := hg ▸ B_a.out.lt
      have l_k_o : g_o < g_k := hg ▸ B_o.out.lt
      have l_k_h : g_h < g_k := hg ▸ B_h.out.lt
      have l_k_l : g_l < g_k := hg ▸ B_l.out.lt
      have l_k_n : g_n < g_k := hg ▸ B_n.out.lt
      have l_k_d : g_d < g_k := hg ▸ B_d.out.lt
      have l_k_zz : g_zz < g_k := hg ▸ B_zz.out.lt
      replace HT := Lib.hid (HT.out.below hb)
      replace R_a := Lib.hid (R_a.out.below hb)
      replace Q_o := Lib.hid (Q_o.out.below hb)
      replace Q_h := Lib.hid (Q_h.out.below hb)
      replace Q_l := Lib.hid (Q_l.out.below hb)
      replace Q_n := Lib.hid (Q_n.out.below hb)
      replace Q_d := Lib.hid (Q_d.out.below hb)
      replace Q_zz := Lib.hid (Q_zz.out.below hb)
      replace Q_k := Lib.hid (Q_k.out.below hb)
      replace B_a := Lib.hid (B_a.out.below hb)
      replace B_o := Lib.hid (B_o.out.below hb)
      replace B_h := Lib.hid (B_h.out.below hb)
      replace B_l := Lib.hid (B_l.out.below hb)
      replace B_n := Lib.hid (B_n.out.below hb)
      replace B_d := Lib.hid (B_d.out.below hb)
      replace B_zz := Lib.hid (B_zz.out.below hb)
      replace hB := below_next hB hb
      have B_k := NB
      clear NB hb hg
      have S_k : QSz (n : Rat) 2 := int_sz n1 n2
      refine wp_region_named (S := (fun w' => (w'.cell? ⟨w.heap.size, 0, none⟩ = some (.bool b_a) ∧ w'.cell? ⟨w.heap.size, 1, none⟩ = some m_a ∧ w'.cell? ⟨w.heap.size, 2, none⟩ = some d_a) ∧ (w'.cell? ⟨g_k, 0, none⟩ = some (.bool b_k) ∧ w'.cell? ⟨g_k, 1, none⟩ = some (.slice A_k n_k c_k) ∧ w'.cell? ⟨g_k, 2, none⟩ = some (.slice D_k e_k f_k)) ∧ (w'.cell? ⟨g_l, 0, none⟩ = some (.bool b_l) ∧ w'.cell? ⟨g_l, 1, none⟩ = some (.slice A_l n_l c_l) ∧ w'.cell? ⟨g_l, 2, none⟩ = some (.slice D_l e_l f_l)))) (by kernel_rfl) (by exact ⟨B_a.out.c3, B_k.out.c3, B_l.out.c3⟩) (fun V146 hb hHeld => ?_)
      replace HT := Lib.hid (HT.out.below hb)
      replace R_a := Lib.hid (R_a.out.below hb)
      replace Q_o := Lib.hid (Q_o.out.below hb)
      replace Q_h := Lib.hid (Q_h.out.below hb)
      replace Q_l := Lib.hid (Q_l.out.below hb)
      replace Q_n := Lib.hid (Q_n.out.below hb)
      replace Q_d := Lib.hid (Q_d.out.below hb)
      replace Q_zz := Lib.hid (Q_zz.out.below hb)
      replace Q_k := Lib.hid (Q_k.out.below hb)
      replace B_a := Lib.hid (B_a.out.below hb)
      replace B_o := Lib.hid (B_o.out.below hb)
      replace B_h := Lib.hid (B_h.out.below hb)
      replace B_l := Lib.hid (B_l.out.below hb)
      replace B_n := Lib.hid (B_n.out.below hb)
      replace B_d := Lib.hid (B_d.out.below hb)
      replace B_zz := Lib.hid (B_zz.out.below hb)
      replace B_k := Lib.hid (B_k.out.below hb)
      replace hB := below_next hB hb
      clear hb
      refine wpAnyH_takeQ 0 (v := ?_) (fun _ _ _ _ _ h => h) (by simp only [List.getElem?_toArray, List.getElem?_cons_zero]; rfl) (by kernel_rfl) (by kernel_rfl) (by kernel_rfl) (by rfl) ?_ hHeld ?_; rotate_left; · (intro w hSw; (try dsimp only at hSw); go_simp; (try with_reducible rfl))
      try simp only [Act.put, List.setIfInBounds_toArray, List.set_cons_zero, List.set_cons_succ]
      refine wpAnyH_takeQ 1 (v := ?_) (fun _ _ _ _ _ h => h) (by simp only [List.getElem?_toArray, List.getElem?_cons_succ, List.getElem?_cons_zero]; rfl) (by kernel_rfl) (by kernel_rfl) (by kernel_rfl) (by rfl) ?_ hHeld ?_; rotate_left; · (intro w hSw; (try dsimp only at hSw); go_simp; (try with_reducible rfl))
      try simp only [Act.put, List.setIfInBounds_toArray, List.set_cons_zero, List.set_cons_succ]
      refine wpAnyH_takeQ 5 (v := ?_) (fun _ _ _ _ _ h => h) (by simp only [List.getElem?_toArray, List.getElem?_cons_succ, List.getElem?_cons_zero]; rfl) (by kernel_rfl) (by kernel_rfl) (by kernel_rfl) (by rfl) ?_ hHeld ?_; rotate_left; · (intro w hSw; (try dsimp only at hSw); go_simp; (try with_reducible rfl))
      try simp only [Act.put, List.setIfInBounds_toArray, List.set_cons_zero, List.set_cons_succ]
      refine wpAnyH_takeQ 6 (v := ?_) (fun _ _ _ _ _ h => h) (by simp only [List.getElem?_toArray, List.getElem?_cons_succ, List.getElem?_cons_zero]; rfl) (by kernel_rfl) (by kernel_rfl) (by kernel_rfl) (by rfl) ?_ hHeld ?_; rotate_left; · (intro w hSw; (try dsimp only at hSw); go_simp; (try with_reducible rfl))
      try simp only [Act.put, List.setIfInBounds_toArray, List.set_cons_zero, List.set_cons_succ]
      refine wpAnyH_ready (rs := [2]) (by kernel_rfl) (by simp) ?_
      refine AllReadyH.cons (by simp only [List.getElem?_toArray, List.getElem?_cons_succ, List.getElem?_cons_zero]; rfl) (fun K hK => ?_) AllReadyH.nil
      go_simp
      clear hHeld
      refine (qadd_any _ _ _ _ 8 _ _ _ _ 2 _ (by exact R_a.out) (by exact Q_k.out.rat S_k) (by omega) (by omega) (by omega) (by omega)).mono ?_
      rintro e w147 ⟨b_ak, A_ak, n_ak, c_ak, D_ak, e_ak, f_ak, rfl, h_ak, hb⟩
      replace HT := Lib.hid (HT.out.below hb)
      replace R_a := Lib.hid (R_a.out.below hb)
      replace Q_o := Lib.hid (Q_o.out.below hb)
      replace Q_h := Lib.hid (Q_h.out.below hb)
      replace Q_l := Lib.hid (Q_l.out.below hb)
      replace Q_n := Lib.hid (Q_n.out.below hb)
      replace Q_d := Lib.hid (Q_d.out.below hb)
      replace Q_zz := Lib.hid (Q_zz.out.below hb)
      replace Q_k := Lib.hid (Q_k.out.below hb)
      replace B_a := Lib.hid (B_a.out.below hb)
      replace B_o := Lib.hid (B_o.out.below hb)
      replace B_h := Lib.hid (B_h.out.below hb)
      replace B_l := Lib.hid (B_l.out.below hb)
      replace B_n := Lib.hid (B_n.out.below hb)
      replace B_d := Lib.hid (B_d.out.below hb)
      replace B_zz := Lib.hid (B_zz.out.below hb)
      replace B_k := Lib.hid (B_k.out.below hb)
      replace hB := below_next hB hb
      clear hb
      have Q_ak := Lib.hid h_ak
      clear h_ak
      go_wp2_with fail
      refine hK.out _ _ (by exact ⟨B_a.out.c3, B_k.out.c3, B_l.out.c3⟩) (fun hHeld => ?_)
      clear hK K
      try simp only [Act.put, List.setIfInBounds_toArray, List.set_cons_zero, List.set_cons_succ]
      refine wpAnyH_ready (rs := [3]) (by kernel_rfl) (by simp) ?_
      refine AllReadyH.cons (by simp only [List.getElem?_toArray, List.getElem?_cons_succ, List.getElem?_cons_zero]; rfl) (fun K hK => ?_) AllReadyH.nil
      go_simp
      clear hHeld
      refine (qfloor_any _ _ _ _ 11 _ (by exact Q_ak.out.rat ((S_a.add S_k).more (by omega))) (by omega) (by omega)).mono ?_
      rintro e w148 ⟨b_fz, A_fz, n_fz, c_fz, rfl, h_fz, hb⟩
      replace HT := Lib.hid (HT.out.below hb)
      replace R_a := Lib.hid (R_a.out.below hb)
      replace Q_o := Lib.hid (Q_o.out.below hb)
      replace Q_h := Lib.hid (Q_h.out.below hb)
      replace Q_l := Lib.hid (Q_l.out.below hb)
      replace Q_n := Lib.hid (Q_n.out.below hb)
      replace Q_d := Lib.hid (Q_d.out.below hb)
      replace Q_zz := Lib.hid (Q_zz.out.below hb)
      replace Q_k := Lib.hid (Q_k.out.below hb)
      replace Q_ak := Lib.hid (Q_ak.out.below hb)
      replace B_a := Lib.hid (B_a.out.below hb)
      replace B_o := Lib.hid (B_o.out.below hb)
      replace B_h := Lib.hid (B_h.out.below hb)
      replace B_l := Lib.hid (B_l.out.below hb)
      replace B_n := Lib.hid (B_n.out.below hb)
      replace B_d := Lib.hid (B_d.out.below hb)
      replace B_zz := Lib.hid (B_zz.out.below hb)
      replace B_k := Lib.hid (B_k.out.below hb)
      replace hB := below_next hB hb
      clear hb
      have Z_fz := Lib.hid h_fz
      clear h_fz
      go_wp2_with fail
      refine hK.out _ _ (by exact ⟨B_a.out.c3, B_k.out.c3, B_l.out.c3⟩) (fun hHeld => ?_)
      clear hK K
      try simp only [Act.put, List.setIfInBounds_toArray, List.set_cons_zero, List.set_cons_succ]
      refine wpAnyH_ready (rs := [4]) (by kernel_rfl) (by simp) ?_
      refine AllReadyH.cons (by simp only [List.getElem?_toArray, List.getElem?_cons_succ, List.getElem?_cons_zero]; rfl) (fun K hK => ?_) AllReadyH.nil
      go_simp
      clear hHeld
      refine (lof_any _ _ _ _ _ _ (by exact Z_fz.out)).mono ?_
      rintro e w149 ⟨b_fo, A_fo, n_fo, c_fo, D_fo, e_fo, f_fo, rfl, h_fo, hb⟩
      replace HT := Lib.hid (HT.out.below hb)
      replace R_a := Lib.hid (R_a.out.below hb)
      replace Q_o := Lib.hid (Q_o.out.below hb)
      replace Q_h := Lib.hid (Q_h.out.below hb)
      replace Q_l := Lib.hid (Q_l.out.below hb)
      replace Q_n := Lib.hid (Q_n.out.below hb)
      replace Q_d := Lib.hid (Q_d.out.below hb)
      replace Q_zz := Lib.hid (Q_zz.out.below hb)
      replace Q_k := Lib.hid (Q_k.out.below hb)
      replace Q_ak := Lib.hid (Q_ak.out.below hb)
      replace Z_fz := Lib.hid (Z_fz.out.below hb)
      replace B_a := Lib.hid (B_a.out.below hb)
      replace B_o := Lib.hid (B_o.out.below hb)
      replace B_h := Lib.hid (B_h.out.below hb)
      replace B_l := Lib.hid (B_l.out.below hb)
      replace B_n := Lib.hid (B_n.out.below hb)
      replace B_d := Lib.hid (B_d.out.below hb)
      replace B_zz := Lib.hid (B_zz.out.below hb)
      replace B_k := Lib.hid (B_k.out.below hb)
      replace hB := below_next hB hb
      clear hb
      have Q_fo := Lib.hid h_fo
      clear h_fo
      go_wp2_with fail
      refine hK.out _ _ (by exact ⟨B_a.out.c3, B_k.out.c3, B_l.out.c3⟩) (fun hHeld => ?_)
      clear hK K
      try simp only [Act.put, List.setIfInBounds_toArray, List.set_cons_zero, List.set_cons_succ]
      refine wpAnyH_ready (rs := [7]) (by kernel_rfl) (by simp) ?_
      refine AllReadyH.cons (by simp only [List.getElem?_toArray, List.getElem?_cons_succ, List.getElem?_cons_zero]; rfl) (fun K hK => ?_) AllReadyH.nil
      go_simp
      clear hHeld
      refine (qadd_any _ _ _ _ 9 _ _ _ _ 2 _ (by exact Q_l.out.rat S_l) (by exact Q_k.out.rat S_k) (by omega) (by omega) (by omega) (by omega)).mono ?_
      rintro e w150 ⟨b_lk, A_lk, n_lk, c_lk, D_lk, e_lk, f_lk, rfl, h_lk, hb⟩
      replace HT := Lib.hid (HT.out.below hb)
      replace R_a := Lib.hid (R_a.out.below hb)
      replace Q_o := Lib.hid (Q_o.out.below hb)
      replace Q_h := Lib.hid (Q_h.out.below hb)
      replace Q_l := Lib.hid (Q_l.out.below hb)
      replace Q_n := Lib.hid (Q_n.out.below hb)
      replace Q_d := Lib.hid (Q_d.out.below hb)
      replace Q_zz := Lib.hid (Q_zz.out.below hb)
      replace Q_k := Lib.hid (Q_k.out.below hb)
      replace Q_ak := Lib.hid (Q_ak.out.below hb)
      replace Z_fz := Lib.hid (Z_fz.out.below hb)
      replace Q_fo := Lib.hid (Q_fo.out.below hb)
      replace B_a := Lib.hid (B_a.out.below hb)
      replace B_o := Lib.hid (B_o.out.below hb)
      replace B_h := Lib.hid (B_h.out.below hb)
      replace B_l := Lib.hid (B_l.out.below hb)
      replace B_n := Lib.hid (B_n.out.below hb)
      replace B_d := Lib.hid (B_d.out.below hb)
      replace B_zz := Lib.hid (B_zz.out.below hb)
      replace B_k := Lib.hid (B_k.out.below hb)
      replace hB := below_next hB hb
      clear hb
      have Q_lk := Lib.hid h_lk
      clear h_lk
      go_wp2_with fail
      refine hK.out _ _ (by exact ⟨B_a.out.c3, B_k.out.c3, B_l.out.c3⟩) (fun hHeld => ?_)
      clear hK K
      try simp only [Act.put, List.setIfInBounds_toArray, List.set_cons_zero, List.set_cons_succ]
      refine wpAnyH_ready (rs := [8]) (by kernel_rfl) (by simp) ?_
      refine AllReadyH.cons (by simp only [List.getElem?_toArray, List.getElem?_cons_succ, List.getElem?_cons_zero]; rfl) (fun K hK => ?_) AllReadyH.nil
      go_simp
      clear hHeld
      refine (rsame_q (by exact Q_fo.out) (by exact Q_lk.out) (by rw [Rat.floor_add_intCast]; exact Rat.intCast_add _ _)).mono ?_
      rintro e w151 ⟨rfl, hb⟩
      replace HT := Lib.hid (HT.out.below hb)
      replace R_a := Lib.hid (R_a.out.below hb)
      replace Q_o := Lib.hid (Q_o.out.below hb)
      replace Q_h := Lib.hid (Q_h.out.below hb)
      replace Q_l := Lib.hid (Q_l.out.below hb)
      replace Q_n := Lib.hid (Q_n.out.below hb)
      replace Q_d := Lib.hid (Q_d.out.below hb)
      replace Q_zz := Lib.hid (Q_zz.out.below hb)
      replace Q_k := Lib.hid (Q_k.out.below hb)
      replace Q_ak := Lib.hid (Q_ak.out.below hb)
      replace Z_fz := Lib.hid (Z_fz.out.below hb)
      replace Q_fo := Lib.hid (Q_fo.out.below hb)
      replace Q_lk := Lib.hid (Q_lk.out.below hb)
      replace B_a := Lib.hid (B_a.out.below hb)
      replace B_o := Lib.hid (B_o.out.below hb)
      replace B_h := Lib.hid (B_h.out.below hb)
      replace B_l := Lib.hid (B_l.out.below hb)
      replace B_n := Lib.hid (B_n.out.below hb)
      replace B_d := Lib.hid (B_d.out.below hb)
      replace B_zz := Lib.hid (B_zz.out.below hb)
      replace B_k := Lib.hid (B_k.out.below hb)
      replace hB := below_next hB hb
      clear hb
      go_wp2_with fail
      refine hK.out _ _ (by exact ⟨B_a.out.c3, B_k.out.c3, B_l.out.c3⟩) (fun hHeld => ?_)
      clear hK K
      try simp only [Act.put, List.setIfInBounds_toArray, List.set_cons_zero, List.set_cons_succ]
      refine wpAnyH_takeQ 9 (v := ?_) (fun _ _ _ _ _ h => h) (by simp only [List.getElem?_toArray, List.getElem?_cons_succ, List.getElem?_cons_zero]; rfl) (by kernel_rfl) (by kernel_rfl) (by kernel_rfl) (by rfl) ?_ hHeld ?_; rotate_left; · (intro w hSw; (try dsimp only at hSw); go_simp; (try with_reducible rfl))
      try simp only [Act.put, List.setIfInBounds_toArray, List.set_cons_zero, List.set_cons_succ]
      refine wpAnyH_ready (rs := [10]) (by kernel_rfl) (by simp) ?_
      refine AllReadyH.cons (by simp only [List.getElem?_toArray, List.getElem?_cons_succ, List.getElem?_cons_zero]; rfl) (fun K hK => ?_) AllReadyH.nil
      go_simp
      clear hHeld
      refine (holds_any _ (by exact HT.out)).mono ?_
      rintro e w152 ⟨rfl, hb⟩
      replace HT := Lib.hid (HT.out.below hb)
      replace R_a := Lib.hid (R_a.out.below hb)
      replace Q_o := Lib.hid (Q_o.out.below hb)
      replace Q_h := Lib.hid (Q_h.out.below hb)
      replace Q_l := Lib.hid (Q_l.out.below hb)
      replace Q_n := Lib.hid (Q_n.out.below hb)
      replace Q_d := Lib.hid (Q_d.out.below hb)
      replace Q_zz := Lib.hid (Q_zz.out.below hb)
      replace Q_k := Lib.hid (Q_k.out.below hb)
      replace Q_ak := Lib.hid (Q_ak.out.below hb)
      replace Z_fz := Lib.hid (Z_fz.out.below hb)
      replace Q_fo := Lib.hid (Q_fo.out.below hb)
      replace Q_lk := Lib.hid (Q_lk.out.below hb)
      replace B_a := Lib.hid (B_a.out.below hb)
      replace B_o := Lib.hid (B_o.out.below hb)
      replace B_h := Lib.hid (B_h.out.below hb)
      replace B_l := Lib.hid (B_l.out.below hb)
      replace B_n := Lib.hid (B_n.out.below hb)
      replace B_d := Lib.hid (B_d.out.below hb)
      replace B_zz := Lib.hid (B_zz.out.below hb)
      replace B_k := Lib.hid (B_k.out.below hb)
      replace hB := below_next hB hb
      clear hb
      go_wp2_with fail
      refine hK.out _ _ (by exact ⟨B_a.out.c3, B_k.out.c3, B_l.out.c3⟩) (fun hHeld => ?_)
      clear hK K
      try simp only [Act.put, List.setIfInBounds_toArray, List.set_cons_zero, List.set_cons_succ]
      refine wpAnyH_takeQ 11 (v := ?_) (fun _ _ _ _ _ h => h) (by simp only [List.getElem?_toArray, List.getElem?_cons_succ, List.getElem?_cons_zero]; rfl) (by kernel_rfl) (by kernel_rfl) (by kernel_rfl) (by rfl) ?_ hHeld ?_; rotate_left; · (intro w hSw; (try dsimp only at hSw); go_simp; (try with_reducible rfl))
      try simp only [Act.put, List.setIfInBounds_toArray, List.set_cons_zero, List.set_cons_succ]
      refine wpAnyH_takeQ 12 (v := ?_) (fun _ _ _ _ _ h => h) (by simp only [List.getElem?_toArray, List.getElem?_cons_succ, List.getElem?_cons_zero]; rfl) (by kernel_rfl) (by kernel_rfl) (by kernel_rfl) (by rfl) ?_ hHeld ?_; rotate_left; · (intro w hSw; (try dsimp only at hSw); go_simp; (try with_reducible rfl))
      try simp only [Act.put, List.setIfInBounds_toArray, List.set_cons_zero, List.set_cons_succ]
      refine wpAnyH_done (by kernel_rfl) (NoPanic.normal ?_) _
      clear hHeld
      have c_a0 := B_a.out.cell0
      have c_a1 := B_a.out.cell1
      have c_a2 := B_a.out.cell2
      have c_o0 := B_o.out.cell0
      have c_o1 := B_o.out.cell1
      have c_o2 := B_o.out.cell2
      have c_h0 := B_h.out.cell0
      have c_h1 := B_h.out.cell1
      have c_h2 := B_h.out.cell2
      have c_l0 := B_l.out.cell0
      have c_l1 := B_l.out.cell1
      have c_l2 := B_l.out.cell2
      have c_n0 := B_n.out.cell0
      have c_n1 := B_n.out.cell1
      have c_n2 := B_n.out.cell2
      have c_d0 := B_d.out.cell0
      have c_d1 := B_d.out.cell1
      have c_d2 := B_d.out.cell2
      have c_zz0 := B_zz.out.cell0
      have c_zz1 := B_zz.out.cell1
      have c_zz2 := B_zz.out.cell2
      have c_k0 := B_k.out.cell0
      have c_k1 := B_k.out.cell1
      have c_k2 := B_k.out.cell2
      go_wp2
      go_ret
      exact ⟨rfl, hB⟩
end Go.Proofs.YtoflndeonegkpaaDoor
