/- RatioForms -/
import Derived.Test.YtoflndeonegkpaaDoorQWField0
import Derived.Test.YtoflndeonegkpaaDoorQOf
import Derived.Test.YtoflndeonegkpaaDoorQApp
import Derived.Test.YtoflndeonegkpaaDoorQLight
import Derived.OpenShut
namespace Go.Proofs.YtoflndeonegkpaaDoor
open Go.RowKit

set_option maxRecDepth 100000 in
set_option maxHeartbeats 8000000 in
theorem walk_RatioForms (b_a : Bool) (m_a d_a : Value) (xs_a ys_a : List Nat) (b_b : Bool) (m_b d_b : Value) (xs_b ys_b : List Nat) (k : Int) (w : World) (h_a : NatAt w m_a xs_a) (g_a : NatAt w d_a ys_a) (h_b : NatAt w m_b xs_b) (g_b : NatAt w d_b ys_b) (hz_k : (Lit.int .u32 k).wf = true) (htab : Tab w) : Calls Tryd.prog 5 #[.agg #[.bool b_a, m_a, d_a], .agg #[.bool b_b, m_b, d_b], .int .u32 k] w (GivesTrue w) := by
  by_cases s_ab : (xs_a.length ≤ 10 ∧ ys_a.length ≤ 10) ∧ (xs_b.length ≤ 10 ∧ ys_b.length ≤ 10)
  · obtain ⟨s_a, s_b⟩ := s_ab
    have HT := Lib.hid htab
    clear htab
    have H_a := Lib.hid h_a
    have K_a := Lib.hid g_a
    clear h_a g_a
    have H_b := Lib.hid h_b
    have K_b := Lib.hid g_b
    clear h_b g_b
    obtain ⟨k1, k2⟩ : 0 ≤ k ∧ k ≤ 4294967295 := by have := Go.bounds_u32 hz_k; omega
    clear hz_k
    obtain ⟨kn, rfl⟩ := Int.eq_ofNat_of_zero_le k1
    obtain ⟨kh, hkh⟩ : ∃ kh : Nat, kh = kn / 2 := ⟨_, rfl⟩
    have kq1 : Int.tdiv (kn : Int) 2 = (kh : Int) := by rw [Int.tdiv_eq_ediv_of_nonneg (by omega)]; omega
    have kq2 : (kn : Int) / 2 = (kh : Int) := by omega
    have kq3 : IntKind.u32.wrap (kh : Int) = (kh : Int) := by rw [IntKind.wrap_u32]; omega
    have kh2 : kh < 4294967296 := by omega
    clear hkh
    go_enter Tryd.func5, Tryd.ntmps5
    go_wp2_with fail
    obtain ⟨W0, hW, B_a, B_b, HW, HS⟩ := rbox2 w (.bool b_a) m_a d_a (.bool b_b) m_b d_b
    rw [hW]
    clear hW
    replace HT := Lib.hid (HT.out.below HW.out)
    replace H_a := Lib.hid (H_a.out.below HW.out)
    replace K_a := Lib.hid (K_a.out.below HW.out)
    replace H_b := Lib.hid (H_b.out.below HW.out)
    replace K_b := Lib.hid (K_b.out.below HW.out)
    have hB := HW.out
    have hsz := HS.out
    clear HW HS
    refine (rlight2_is (v := true) (by exact H_a.out) (by exact K_a.out) (by exact H_b.out) (by exact K_b.out) (decide_eq_true ⟨s_a, s_b⟩)).mono ?_
    rintro e w1 ⟨rfl, hb⟩
    replace HT := Lib.hid (HT.out.below hb)
    replace H_a := Lib.hid (H_a.out.below hb)
    replace K_a := Lib.hid (K_a.out.below hb)
    replace H_b := Lib.hid (H_b.out.below hb)
    replace K_b := Lib.hid (K_b.out.below hb)
    replace B_a := Lib.hid (B_a.out.below hb)
    replace B_b := Lib.hid (B_b.out.below hb)
    replace hB := below_next hB hb
    clear hb
    obtain ⟨q_a, e_a⟩ : ∃ q, q = mkRat (zval b_a xs_a) (val ys_a) := ⟨_, rfl⟩
    have E_a := Lib.hid e_a
    clear e_a
    have R_a : Hid (RAt w1 b_a m_a d_a q_a 10) := Lib.hid ⟨xs_a, ys_a, H_a.out, K_a.out, s_a.1, s_a.2, E_a.out⟩
    have S_a := R_a.out.sz (by omega)
    obtain ⟨q_b, e_b⟩ : ∃ q, q = mkRat (zval b_b xs_b) (val ys_b) := ⟨_, rfl⟩
    have E_b := Lib.hid e_b
    clear e_b
    have R_b : Hid (RAt w1 b_b m_b d_b q_b 10) := Lib.hid ⟨xs_b, ys_b, H_b.out, K_b.out, s_b.1, s_b.2, E_b.out⟩
    have S_b := R_b.out.sz (by omega)
    have c_a0 := B_a.out.cell0
    have c_a1 := B_a.out.cell1
    have c_a2 := B_a.out.cell2
    have c_b0 := B_b.out.cell0
    have c_b1 := B_b.out.cell1
    have c_b2 := B_b.out.cell2
    go_wp2
    clear c_a0 c_a1 c_a2 c_b0 c_b1 c_b2
    go_cut [7, 8] (fun s1 s2 wx => ∃ (A_x : Option Addr) (n_x c_x : Nat) (D_x : Option Addr) (e_x f_x g_x : Nat) (A_y : Option Addr) (n_y c_y : Nat) (D_y : Option Addr) (e_y f_y g_y : Nat), s1 = .pointer (some ⟨g_x, 0, none⟩) ∧ s2 = .pointer (some ⟨g_y, 0, none⟩) ∧ RBox wx g_x (.bool b_a) (.slice A_x n_x c_x) (.slice D_x e_x f_x) ∧ RBox wx g_y (.bool b_b) (.slice A_y n_y c_y) (.slice D_y e_y f_y) ∧ RAt wx b_a (.slice A_x n_x c_x) (.slice D_x e_x f_x) q_a 110 ∧ RAt wx b_b (.slice A_y n_y c_y) (.slice D_y e_y f_y) q_b 110 ∧ BW w1 wx)
    case first =>
      have BW0 := Lib.hid (show BW w1 w1 from Below.refl _ _)
      clear HT R_a R_b
      have BWa := B_a.out.lt
      have BWb := B_b.out.lt
      have BWs := hB.size
      refine wp_region_named (S := (fun w' => (w'.cell? ⟨w.heap.size, 0, none⟩ = some (.bool b_a) ∧ w'.cell? ⟨w.heap.size, 1, none⟩ = some m_a ∧ w'.cell? ⟨w.heap.size, 2, none⟩ = some d_a) ∧ (w'.cell? ⟨w.heap.size + 1, 0, none⟩ = some (.bool b_b) ∧ w'.cell? ⟨w.heap.size + 1, 1, none⟩ = some m_b ∧ w'.cell? ⟨w.heap.size + 1, 2, none⟩ = some d_b))) (by kernel_rfl) (by exact ⟨B_a.out.c3, B_b.out.c3⟩) (fun V2 hb hHeld => ?_)
      replace H_a := Lib.hid (H_a.out.below hb)
      replace K_a := Lib.hid (K_a.out.below hb)
      replace H_b := Lib.hid (H_b.out.below hb)
      replace K_b := Lib.hid (K_b.out.below hb)
      replace BW0 := Lib.hid (BW0.out.below hb)
      replace B_a := Lib.hid (B_a.out.below hb)
      replace B_b := Lib.hid (B_b.out.below hb)
      replace hB := below_next hB hb
      clear hb
      refine wpAnyH_takeQ 0 (v := ?_) (fun _ _ _ _ _ h => h) (by simp only [List.getElem?_toArray, List.getElem?_cons_zero]; rfl) (by kernel_rfl) (by kernel_rfl) (by kernel_rfl) (by rfl) ?_ hHeld ?_; rotate_left; · (intro w hSw; (try dsimp only at hSw); go_simp; (try with_reducible rfl))
      try simp only [Act.put, List.setIfInBounds_toArray, List.set_cons_zero, List.set_cons_succ]
      refine wpAnyH_takeQ 1 (v := ?_) (fun _ _ _ _ _ h => h) (by simp only [List.getElem?_toArray, List.getElem?_cons_succ, List.getElem?_cons_zero]; rfl) (by kernel_rfl) (by kernel_rfl) (by kernel_rfl) (by rfl) ?_ hHeld ?_; rotate_left; · (intro w hSw; (try dsimp only at hSw); go_simp; (try with_reducible rfl))
      try simp only [Act.put, List.setIfInBounds_toArray, List.set_cons_zero, List.set_cons_succ]
      refine wpAnyH_takeQ 3 (v := ?_) (fun _ _ _ _ _ h => h) (by simp only [List.getElem?_toArray, List.getElem?_cons_succ, List.getElem?_cons_zero]; rfl) (by kernel_rfl) (by kernel_rfl) (by kernel_rfl) (by rfl) ?_ hHeld ?_; rotate_left; · (intro w hSw; (try dsimp only at hSw); go_simp; (try with_reducible rfl))
      try simp only [Act.put, List.setIfInBounds_toArray, List.set_cons_zero, List.set_cons_succ]
      refine wpAnyH_takeQ 4 (v := ?_) (fun _ _ _ _ _ h => h) (by simp only [List.getElem?_toArray, List.getElem?_cons_succ, List.getElem?_cons_zero]; rfl) (by kernel_rfl) (by kernel_rfl) (by kernel_rfl) (by rfl) ?_ hHeld ?_; rotate_left; · (intro w hSw; (try dsimp only at hSw); go_simp; (try with_reducible rfl))
      try simp only [Act.put, List.setIfInBounds_toArray, List.set_cons_zero, List.set_cons_succ]
      refine wpAnyH_takeQ 5 (v := ?_) (fun _ _ _ _ _ h => h) (by simp only [List.getElem?_toArray, List.getElem?_cons_succ, List.getElem?_cons_zero]; rfl) (by kernel_rfl) (by kernel_rfl) (by kernel_rfl) (by rfl) ?_ hHeld ?_; rotate_left; · (intro w hSw; (try dsimp only at hSw); go_simp; (try with_reducible rfl))
      try simp only [Act.put, List.setIfInBounds_toArray, List.set_cons_zero, List.set_cons_succ]
      refine wpAnyH_key4R 2 #[true, true, true, true, true, true, true, true, true, false, false] 20 24 7 8 (fun v1 v2 s1 s2 wx => ∃ (A_x : Option Addr) (n_x c_x : Nat) (D_x : Option Addr) (e_x f_x g_x : Nat) (A_y : Option Addr) (n_y c_y : Nat) (D_y : Option Addr) (e_y f_y g_y : Nat), v1 = .agg #[.bool b_a, .slice A_x n_x c_x, .slice D_x e_x f_x] ∧ v2 = .agg #[.bool b_b, .slice A_y n_y c_y, .slice D_y e_y f_y] ∧ s1 = .pointer (some ⟨g_x, 0, none⟩) ∧ s2 = .pointer (some ⟨g_y, 0, none⟩) ∧ g_x ≠ g_y ∧ w1.heap.size ≤ g_x ∧ w1.heap.size ≤ g_y ∧ RBox wx g_x (.bool false) (.slice none 0 0) (.slice none 0 0) ∧ RBox wx g_y (.bool false) (.slice none 0 0) (.slice none 0 0) ∧ RBox wx w.heap.size (.bool b_a) m_a d_a ∧ RBox wx (w.heap.size + 1) (.bool b_b) m_b d_b ∧ RAt wx b_a (.slice A_x n_x c_x) (.slice D_x e_x f_x) q_a 110 ∧ RAt wx b_b (.slice A_y n_y c_y) (.slice D_y e_y f_y) q_b 110 ∧ BW w1 wx ∧ Below w.heap.size w wx) ?_ (fun key => ?_)
      rotate_left
      · simp only [Act.put, List.setIfInBounds_toArray, List.set_cons_zero, List.set_cons_succ] at key
        have KEY := Lib.hid key
        clear key
        refine wpAnyH_ready (rs := [2, 7, 8]) (by kernel_rfl) (by simp) ?_
        refine AllReadyH.cons (by simp only [List.getElem?_toArray, List.getElem?_cons_succ, List.getElem?_cons_zero]; rfl) (fun K hK => ?_) ?_
        go_simp
        clear hHeld
        refine (lscaled_any _ _ _ _ _ kn _ (by exact H_a.out) (by exact K_a.out) (by omega) (by omega) (by omega)).mono ?_
        rintro e w3 ⟨A_x, n_x, c_x, D_x, e_x, f_x, rfl, h_x, hb⟩
        replace H_a := Lib.hid (H_a.out.below hb)
        replace K_a := Lib.hid (K_a.out.below hb)
        replace H_b := Lib.hid (H_b.out.below hb)
        replace K_b := Lib.hid (K_b.out.below hb)
        replace BW0 := Lib.hid (BW0.out.below hb)
        replace B_a := Lib.hid (B_a.out.below hb)
        replace B_b := Lib.hid (B_b.out.below hb)
        replace hB := below_next hB hb
        clear hb
        rw [← E_a.out] at h_x
        have R_x := Lib.hid h_x
        clear h_x
        go_wp2_with fail
        refine hK.out _ _ (by exact ⟨B_a.out.c3, B_b.out.c3⟩) (fun hHeld => ?_)
        clear hK K
        try simp only [Act.put, List.setIfInBounds_toArray, List.set_cons_zero, List.set_cons_succ]
        refine wpAnyH_ready (rs := [6, 7, 8]) (by kernel_rfl) (by simp) ?_
        refine AllReadyH.cons (by simp only [List.getElem?_toArray, List.getElem?_cons_succ, List.getElem?_cons_zero]; rfl) (fun K hK => ?_) ?_
        go_simp
        clear hHeld
        refine (lscaled_any _ _ _ _ _ kh _ (by exact H_b.out) (by exact K_b.out) (by omega) (by omega) (by omega)).mono ?_
        rintro e w4 ⟨A_y, n_y, c_y, D_y, e_y, f_y, rfl, h_y, hb⟩
        replace H_a := Lib.hid (H_a.out.below hb)
        replace K_a := Lib.hid (K_a.out.below hb)
        replace H_b := Lib.hid (H_b.out.below hb)
        replace K_b := Lib.hid (K_b.out.below hb)
        replace BW0 := Lib.hid (BW0.out.below hb)
        replace R_x := Lib.hid (R_x.out.below hb)
        replace B_a := Lib.hid (B_a.out.below hb)
        replace B_b := Lib.hid (B_b.out.below hb)
        replace hB := below_next hB hb
        clear hb
        rw [← E_b.out] at h_y
        have R_y := Lib.hid h_y
        clear h_y
        go_wp2_with fail
        refine hK.out _ _ (by exact ⟨B_a.out.c3, B_b.out.c3⟩) (fun hHeld => ?_)
        clear hK K
        try simp only [Act.put, List.setIfInBounds_toArray, List.set_cons_zero, List.set_cons_succ]
        refine wpAnyH_ready (rs := [7, 8]) (by kernel_rfl) (by simp) ?_
        refine AllReadyH.cons (by simp only [List.getElem?_toArray, List.getElem?_cons_succ, List.getElem?_cons_zero]; rfl) (fun K hK => ?_) ?_
        go_simp
        clear hHeld
        obtain ⟨A5, g_x, hV, hg, NB, hb⟩ := newR w4 (.bool false) (.slice none 0 0) (.slice none 0 0)
        rw [hV, hg]
        clear hV
        have l_x_a : w.heap.size < g_x := hg ▸ B_a.out.lt
        have l_x_b : w.heap.size + 1 < g_x := hg ▸ B_b.out.lt
        have l_x_BW0 := hg ▸ BW0.out.size
        replace H_a := Lib.hid (H_a.out.below hb)
        replace K_a := Lib.hid (K_a.out.below hb)
        replace H_b := Lib.hid (H_b.out.below hb)
        replace K_b := Lib.hid (K_b.out.below hb)
        replace BW0 := Lib.hid (BW0.out.below hb)
        replace R_x := Lib.hid (R_x.out.below hb)
        replace R_y := Lib.hid (R_y.out.below hb)
        replace B_a := Lib.hid (B_a.out.below hb)
        replace B_b := Lib.hid (B_b.out.below hb)
        replace hB := below_next hB hb
        have B_x := NB
        clear NB hb hg
        refine hK.out _ _ (by exact ⟨B_a.out.c3, B_b.out.c3⟩) (fun hHeld => ?_)
        clear hK K
        try simp only [Act.put, List.setIfInBounds_toArray, List.set_cons_zero, List.set_cons_succ]
        refine wpAnyH_ready (rs := [8]) (by kernel_rfl) (by simp) ?_
        refine AllReadyH.cons (by simp only [List.getElem?_toArray, List.getElem?_cons_succ, List.getElem?_cons_zero]; rfl) (fun K hK => ?_) AllReadyH.nil
        go_simp
        clear hHeld
        obtain ⟨A6, g_y, hV, hg, NB, hb⟩ := newR A5 (.bool false) (.slice none 0 0) (.slice none 0 0)
        rw [hV, hg]
        clear hV
        have l_y_a : w.heap.size < g_y := hg ▸ B_a.out.lt
        have l_y_b : w.heap.size + 1 < g_y := hg ▸ B_b.out.lt
        have l_y_x : g_x < g_y := hg ▸ B_x.out.lt
        have l_y_BW0 := hg ▸ BW0.out.size
        replace H_a := Lib.hid (H_a.out.below hb)
        replace K_a := Lib.hid (K_a.out.below hb)
        replace H_b := Lib.hid (H_b.out.below hb)
        replace K_b := Lib.hid (K_b.out.below hb)
        replace BW0 := Lib.hid (BW0.out.below hb)
        replace R_x := Lib.hid (R_x.out.below hb)
        replace R_y := Lib.hid (R_y.out.below hb)
        replace B_a := Lib.hid (B_a.out.below hb)
        replace B_b := Lib.hid (B_b.out.below hb)
        replace B_x := Lib.hid (B_x.out.below hb)
        replace hB := below_next hB hb
        have B_y := NB
        clear NB hb hg
        refine hK.out _ _ (by exact ⟨B_a.out.c3, B_b.out.c3⟩) (fun hHeld => ?_)
        clear hK K
        try simp only [Act.put, List.setIfInBounds_toArray, List.set_cons_zero, List.set_cons_succ]
        exact wpAnyH_atR #[true, true, true, true, true, true, true, true, true, false, false] (by kernel_rfl) (KEY.out _ _ _ _ _ ⟨A_x, n_x, c_x, D_x, e_x, f_x, g_x, A_y, n_y, c_y, D_y, e_y, f_y, g_y, rfl, rfl, rfl, rfl, by omega, l_x_BW0, l_y_BW0, B_x.out, B_y.out, B_a.out, B_b.out, R_x.out, R_y.out, BW0.out, hB⟩)
        refine AllReadyH.cons (by simp only [List.getElem?_toArray, List.getElem?_cons_succ, List.getElem?_cons_zero]; rfl) (fun K hK => ?_) ?_
        go_simp
        clear hHeld
        obtain ⟨A7, g_y, hV, hg, NB, hb⟩ := newR w4 (.bool false) (.slice none 0 0) (.slice none 0 0)
        rw [hV, hg]
        clear hV
        have l_y_a : w.heap.size < g_y := hg ▸ B_a.out.lt
        have l_y_b : w.heap.size + 1 < g_y := hg ▸ B_b.out.lt
        have l_y_BW0 := hg ▸ BW0.out.size
        replace H_a := Lib.hid (H_a.out.below hb)
        replace K_a := Lib.hid (K_a.out.below hb)
        replace H_b := Lib.hid (H_b.out.below hb)
        replace K_b := Lib.hid (K_b.out.below hb)
        replace BW0 := Lib.hid (BW0.out.below hb)
        replace R_x := Lib.hid (R_x.out.below hb)
        replace R_y := Lib.hid (R_y.out.below hb)
        replace B_a := Lib.hid (B_a.out.below hb)
        replace B_b := Lib.hid (B_b.out.below hb)
        replace hB := below_next hB hb
        have B_y := NB
        clear NB hb hg
        refine hK.out _ _ (by exact ⟨B_a.out.c3, B_b.out.c3⟩) (fun hHeld => ?_)
        clear hK K
        try simp only [Act.put, List.setIfInBounds_toArray, List.set_cons_zero, List.set_cons_succ]
        refine wpAnyH_ready (rs := [7]) (by kernel_rfl) (by simp) ?_
        refine AllReadyH.cons (by simp only [List.getElem?_toArray, List.getElem?_cons_succ, List.getElem?_cons_zero]; rfl) (fun K hK => ?_) AllReadyH.nil
        go_simp
        clear hHeld
        obtain ⟨A8, g_x, hV, hg, NB, hb⟩ := newR A7 (.bool false) (.slice none 0 0) (.slice none 0 0)
        rw [hV, hg]
        clear hV
        have l_x_a : w.heap.size < g_x := hg ▸ B_a.out.lt
        have l_x_b : w.heap.size + 1 < g_x := hg ▸ B_b.out.lt
        have l_x_y : g_y < g_x := hg ▸ B_y.out.lt
        have l_x_BW0 := hg ▸ BW0.out.size
        replace H_a := Lib.hid (H_a.out.below hb)
        replace K_a := Lib.hid (K_a.out.below hb)
        replace H_b := Lib.hid (H_b.out.below hb)
        replace K_b := Lib.hid (K_b.out.below hb)
        replace BW0 := Lib.hid (BW0.out.below hb)
        replace R_x := Lib.hid (R_x.out.below hb)
        replace R_y := Lib.hid (R_y.out.below hb)
        replace B_a := Lib.hid (B_a.out.below hb)
        replace B_b := Lib.hid (B_b.out.below hb)
        replace B_y := Lib.hid (B_y.out.below hb)
        replace hB := below_next hB hb
        have B_x := NB
        clear NB hb hg
        refine hK.out _ _ (by exact ⟨B_a.out.c3, B_b.out.c3⟩) (fun hHeld => ?_)
        clear hK K
        try simp only [Act.put, List.setIfInBounds_toArray, List.set_cons_zero, List.set_cons_succ]
        exact wpAnyH_atR #[true, true, true, true, true, true, true, true, true, false, false] (by kernel_rfl) (KEY.out _ _ _ _ _ ⟨A_x, n_x, c_x, D_x, e_x, f_x, g_x, A_y, n_y, c_y, D_y, e_y, f_y, g_y, rfl, rfl, rfl, rfl, by omega, l_x_BW0, l_y_BW0, B_x.out, B_y.out, B_a.out, B_b.out, R_x.out, R_y.out, BW0.out, hB⟩)
        exact AllReadyH.nil
        refine AllReadyH.cons (by simp only [List.getElem?_toArray, List.getElem?_cons_succ, List.getElem?_cons_zero]; rfl) (fun K hK => ?_) ?_
        go_simp
        clear hHeld
        obtain ⟨A9, g_x, hV, hg, NB, hb⟩ := newR w3 (.bool false) (.slice none 0 0) (.slice none 0 0)
        rw [hV, hg]
        clear hV
        have l_x_a : w.heap.size < g_x := hg ▸ B_a.out.lt
        have l_x_b : w.heap.size + 1 < g_x := hg ▸ B_b.out.lt
        have l_x_BW0 := hg ▸ BW0.out.size
        replace H_a := Lib.hid (H_a.out.below hb)
        replace K_a := Lib.hid (K_a.out.below hb)
        replace H_b := Lib.hid (H_b.out.below hb)
        replace K_b := Lib.hid (K_b.out.below hb)
        replace BW0 := Lib.hid (BW0.out.below hb)
        replace R_x := Lib.hid (R_x.out.below hb)
        replace B_a := Lib.hid (B_a.out.below hb)
        replace B_b := Lib.hid (B_b.out.below hb)
        replace hB := below_next hB hb
        have B_x := NB
        clear NB hb hg
        refine hK.out _ _ (by exact ⟨B_a.out.c3, B_b.out.c3⟩) (fun hHeld => ?_)
        clear hK K
        try simp only [Act.put, List.setIfInBounds_toArray, List.set_cons_zero, List.set_cons_succ]
        refine wpAnyH_ready (rs := [6, 8]) (by kernel_rfl) (by simp) ?_
        refine AllReadyH.cons (by simp only [List.getElem?_toArray, List.getElem?_cons_succ, List.getElem?_cons_zero]; rfl) (fun K hK => ?_) ?_
        go_simp
        clear hHeld
        refine (lscaled_any _ _ _ _ _ kh _ (by exact H_b.out) (by exact K_b.out) (by omega) (by omega) (by omega)).mono ?_
        rintro e w10 ⟨A_y, n_y, c_y, D_y, e_y, f_y, rfl, h_y, hb⟩
        replace H_a := Lib.hid (H_a.out.below hb)
        replace K_a := Lib.hid (K_a.out.below hb)
        replace H_b := Lib.hid (H_b.out.below hb)
        replace K_b := Lib.hid (K_b.out.below hb)
        replace BW0 := Lib.hid (BW0.out.below hb)
        replace R_x := Lib.hid (R_x.out.below hb)
        replace B_a := Lib.hid (B_a.out.below hb)
        replace B_b := Lib.hid (B_b.out.below hb)
        replace B_x := Lib.hid (B_x.out.below hb)
        replace hB := below_next hB hb
        clear hb
        rw [← E_b.out] at h_y
        have R_y := Lib.hid h_y
        clear h_y
        go_wp2_with fail
        refine hK.out _ _ (by exact ⟨B_a.out.c3, B_b.out.c3⟩) (fun hHeld => ?_)
        clear hK K
        try simp only [Act.put, List.setIfInBounds_toArray, List.set_cons_zero, List.set_cons_succ]
        refine wpAnyH_ready (rs := [8]) (by kernel_rfl) (by simp) ?_
        refine AllReadyH.cons (by simp only [List.getElem?_toArray, List.getElem?_cons_succ, List.getElem?_cons_zero]; rfl) (fun K hK => ?_) AllReadyH.nil
        go_simp
        clear hHeld
        obtain ⟨A11, g_y, hV, hg, NB, hb⟩ := newR w10 (.bool false) (.slice none 0 0) (.slice none 0 0)
        rw [hV, hg]
        clear hV
        have l_y_a : w.heap.size < g_y := hg ▸ B_a.out.lt
        have l_y_b : w.heap.size + 1 < g_y := hg ▸ B_b.out.lt
        have l_y_x : g_x < g_y := hg ▸ B_x.out.lt
        have l_y_BW0 := hg ▸ BW0.out.size
        replace H_a := Lib.hid (H_a.out.below hb)
        replace K_a := Lib.hid (K_a.out.below hb)
        replace H_b := Lib.hid (H_b.out.below hb)
        replace K_b := Lib.hid (K_b.out.below hb)
        replace BW0 := Lib.hid (BW0.out.below hb)
        replace R_x := Lib.hid (R_x.out.below hb)
        replace R_y := Lib.hid (R_y.out.below hb)
        replace B_a := Lib.hid (B_a.out.below hb)
        replace B_b := Lib.hid (B_b.out.below hb)
        replace B_x := Lib.hid (B_x.out.below hb)
        replace hB := below_next hB hb
        have B_y := NB
        clear NB hb hg
        refine hK.out _ _ (by exact ⟨B_a.out.c3, B_b.out.c3⟩) (fun hHeld => ?_)
        clear hK K
        try simp only [Act.put, List.setIfInBounds_toArray, List.set_cons_zero, List.set_cons_succ]
        exact wpAnyH_atR #[true, true, true, true, true, true, true, true, true, false, false] (by kernel_rfl) (KEY.out _ _ _ _ _ ⟨A_x, n_x, c_x, D_x, e_x, f_x, g_x, A_y, n_y, c_y, D_y, e_y, f_y, g_y, rfl, rfl, rfl, rfl, by omega, l_x_BW0, l_y_BW0, B_x.out, B_y.out, B_a.out, B_b.out, R_x.out, R_y.out, BW0.out, hB⟩)
        refine AllReadyH.cons (by simp only [List.getElem?_toArray, List.getElem?_cons_succ, List.getElem?_cons_zero]; rfl) (fun K hK => ?_) ?_
        go_simp
        clear hHeld
        obtain ⟨A12, g_y, hV, hg, NB, hb⟩ := newR A9 (.bool false) (.slice none 0 0) (.slice none 0 0)
        rw [hV, hg]
        clear hV
        have l_y_a : w.heap.size < g_y := hg ▸ B_a.out.lt
        have l_y_b : w.heap.size + 1 < g_y := hg ▸ B_b.out.lt
        have l_y_x : g_x < g_y := hg ▸ B_x.out.lt
        have l_y_BW0 := hg ▸ BW0.out.size
        replace H_a := Lib.hid (H_a.out.below hb)
        replace K_a := Lib.hid (K_a.out.below hb)
        replace H_b := Lib.hid (H_b.out.below hb)
        replace K_b := Lib.hid (K_b.out.below hb)
        replace BW0 := Lib.hid (BW0.out.below hb)
        replace R_x := Lib.hid (R_x.out.below hb)
        replace B_a := Lib.hid (B_a.out.below hb)
        replace B_b := Lib.hid (B_b.out.below hb)
        replace B_x := Lib.hid (B_x.out.below hb)
        replace hB := below_next hB hb
        have B_y := NB
        clear NB hb hg
        refine hK.out _ _ (by exact ⟨B_a.out.c3, B_b.out.c3⟩) (fun hHeld => ?_)
        clear hK K
        try simp only [Act.put, List.setIfInBounds_toArray, List.set_cons_zero, List.set_cons_succ]
        refine wpAnyH_ready (rs := [6]) (by kernel_rfl) (by simp) ?_
        refine AllReadyH.cons (by simp only [List.getElem?_toArray, List.getElem?_cons_succ, List.getElem?_cons_zero]; rfl) (fun K hK => ?_) AllReadyH.nil
        go_simp
        clear hHeld
        refine (lscaled_any _ _ _ _ _ kh _ (by exact H_b.out) (by exact K_b.out) (by omega) (by omega) (by omega)).mono ?_
        rintro e w13 ⟨A_y, n_y, c_y, D_y, e_y, f_y, rfl, h_y, hb⟩
        replace H_a := Lib.hid (H_a.out.below hb)
        replace K_a := Lib.hid (K_a.out.below hb)
        replace H_b := Lib.hid (H_b.out.below hb)
        replace K_b := Lib.hid (K_b.out.below hb)
        replace BW0 := Lib.hid (BW0.out.below hb)
        replace R_x := Lib.hid (R_x.out.below hb)
        replace B_a := Lib.hid (B_a.out.below hb)
        replace B_b := Lib.hid (B_b.out.below hb)
        replace B_x := Lib.hid (B_x.out.below hb)
        replace B_y := Lib.hid (B_y.out.below hb)
        replace hB := below_next hB hb
        clear hb
        rw [← E_b.out] at h_y
        have R_y := Lib.hid h_y
        clear h_y
        go_wp2_with fail
        refine hK.out _ _ (by exact ⟨B_a.out.c3, B_b.out.c3⟩) (fun hHeld => ?_)
        clear hK K
        try simp only [Act.put, List.setIfInBounds_toArray, List.set_cons_zero, List.set_cons_succ]
        exact wpAnyH_atR #[true, true, true, true, true, true, true, true, true, false, false] (by kernel_rfl) (KEY.out _ _ _ _ _ ⟨A_x, n_x, c_x, D_x, e_x, f_x, g_x, A_y, n_y, c_y, D_y, e_y, f_y, g_y, rfl, rfl, rfl, rfl, by omega, l_x_BW0, l_y_BW0, B_x.out, B_y.out, B_a.out, B_b.out, R_x.out, R_y.out, BW0.out, hB⟩)
        exact AllReadyH.nil
        refine AllReadyH.cons (by simp only [List.getElem?_toArray, List.getElem?_cons_succ, List.getElem?_cons_zero]; rfl) (fun K hK => ?_) ?_
        go_simp
        clear hHeld
        obtain ⟨A14, g_y, hV, hg, NB, hb⟩ := newR w3 (.bool false) (.slice none 0 0) (.slice none 0 0)
        rw [hV, hg]
        clear hV
        have l_y_a : w.heap.size < g_y := hg ▸ B_a.out.lt
        have l_y_b : w.heap.size + 1 < g_y := hg ▸ B_b.out.lt
        have l_y_BW0 := hg ▸ BW0.out.size
        replace H_a := Lib.hid (H_a.out.below hb)
        replace K_a := Lib.hid (K_a.out.below hb)
        replace H_b := Lib.hid (H_b.out.below hb)
        replace K_b := Lib.hid (K_b.out.below hb)
        replace BW0 := Lib.hid (BW0.out.below hb)
        replace R_x := Lib.hid (R_x.out.below hb)
        replace B_a := Lib.hid (B_a.out.below hb)
        replace B_b := Lib.hid (B_b.out.below hb)
        replace hB := below_next hB hb
        have B_y := NB
        clear NB hb hg
        refine hK.out _ _ (by exact ⟨B_a.out.c3, B_b.out.c3⟩) (fun hHeld => ?_)
        clear hK K
        try simp only [Act.put, List.setIfInBounds_toArray, List.set_cons_zero, List.set_cons_succ]
        refine wpAnyH_ready (rs := [6, 7]) (by kernel_rfl) (by simp) ?_
        refine AllReadyH.cons (by simp only [List.getElem?_toArray, List.getElem?_cons_succ, List.getElem?_cons_zero]; rfl) (fun K hK => ?_) ?_
        go_simp
        clear hHeld
        refine (lscaled_any _ _ _ _ _ kh _ (by exact H_b.out) (by exact K_b.out) (by omega) (by omega) (by omega)).mono ?_
        rintro e w15 ⟨A_y, n_y, c_y, D_y, e_y, f_y, rfl, h_y, hb⟩
        replace H_a := Lib.hid (H_a.out.below hb)
        replace K_a := Lib.hid (K_a.out.below hb)
        replace H_b := Lib.hid (H_b.out.below hb)
        replace K_b := Lib.hid (K_b.out.below hb)
        replace BW0 := Lib.hid (BW0.out.below hb)
        replace R_x := Lib.hid (R_x.out.below hb)
        replace B_a := Lib.hid (B_a.out.below hb)
        replace B_b := Lib.hid (B_b.out.below hb)
        replace B_y := Lib.hid (B_y.out.below hb)
        replace hB := below_next hB hb
        clear hb
        rw [← E_b.out] at h_y
        have R_y := Lib.hid h_y
        clear h_y
        go_wp2_with fail
        refine hK.out _ _ (by exact ⟨B_a.out.c3, B_b.out.c3⟩) (fun hHeld => ?_)
        clear hK K
        try simp only [Act.put, List.setIfInBounds_toArray, List.set_cons_zero, List.set_cons_succ]
        refine wpAnyH_ready (rs := [7]) (by kernel_rfl) (by simp) ?_
        refine AllReadyH.cons (by simp only [List.getElem?_toArray, List.getElem?_cons_succ, List.getElem?_cons_zero]; rfl) (fun K hK => ?_) AllReadyH.nil
        go_simp
        clear hHeld
        obtain ⟨A16, g_x, hV, hg, NB, hb⟩ := newR w15 (.bool false) (.slice none 0 0) (.slice none 0 0)
        rw [hV, hg]
        clear hV
        have l_x_a : w.heap.size < g_x := hg ▸ B_a.out.lt
        have l_x_b : w.heap.size + 1 < g_x := hg ▸ B_b.out.lt
        have l_x_y : g_y < g_x := hg ▸ B_y.out.lt
        have l_x_BW0 := hg ▸ BW0.out.size
        replace H_a := Lib.hid (H_a.out.below hb)
        replace K_a := Lib.hid (K_a.out.below hb)
        replace H_b := Lib.hid (H_b.out.below hb)
        replace K_b := Lib.hid (K_b.out.below hb)
        replace BW0 := Lib.hid (BW0.out.below hb)
        replace R_x := Lib.hid (R_x.out.below hb)
        replace R_y := Lib.hid (R_y.out.below hb)
        replace B_a := Lib.hid (B_a.out.below hb)
        replace B_b := Lib.hid (B_b.out.below hb)
        replace B_y := Lib.hid (B_y.out.below hb)
        replace hB := below_next hB hb
        have B_x := NB
        clear NB hb hg
        refine hK.out _ _ (by exact ⟨B_a.out.c3, B_b.out.c3⟩) (fun hHeld => ?_)
        clear hK K
        try simp only [Act.put, List.setIfInBounds_toArray, List.set_cons_zero, List.set_cons_succ]
        exact wpAnyH_atR #[true, true, true, true, true, true, true, true, true, false, false] (by kernel_rfl) (KEY.out _ _ _ _ _ ⟨A_x, n_x, c_x, D_x, e_x, f_x, g_x, A_y, n_y, c_y, D_y, e_y, f_y, g_y, rfl, rfl, rfl, rfl, by omega, l_x_BW0, l_y_BW0, B_x.out, B_y.out, B_a.out, B_b.out, R_x.out, R_y.out, BW0.out, hB⟩)
        refine AllReadyH.cons (by simp only [List.getElem?_toArray, List.getElem?_cons_succ, List.getElem?_cons_zero]; rfl) (fun K hK => ?_) ?_
        go_simp
        clear hHeld
        obtain ⟨A17, g_x, hV, hg, NB, hb⟩ := newR A14 (.bool false) (.slice none 0 0) (.slice none 0 0)
        rw [hV, hg]
        clear hV
        have l_x_a : w.heap.size < g_x := hg ▸ B_a.out.lt
        have l_x_b : w.heap.size + 1 < g_x := hg ▸ B_b.out.lt
        have l_x_y : g_y < g_x := hg ▸ B_y.out.lt
        have l_x_BW0 := hg ▸ BW0.out.size
        replace H_a := Lib.hid (H_a.out.below hb)
        replace K_a := Lib.hid (K_a.out.below hb)
        replace H_b := Lib.hid (H_b.out.below hb)
        replace K_b := Lib.hid (K_b.out.below hb)
        replace BW0 := Lib.hid (BW0.out.below hb)
        replace R_x := Lib.hid (R_x.out.below hb)
        replace B_a := Lib.hid (B_a.out.below hb)
        replace B_b := Lib.hid (B_b.out.below hb)
        replace B_y := Lib.hid (B_y.out.below hb)
        replace hB := below_next hB hb
        have B_x := NB
        clear NB hb hg
        refine hK.out _ _ (by exact ⟨B_a.out.c3, B_b.out.c3⟩) (fun hHeld => ?_)
        clear hK K
        try simp only [Act.put, List.setIfInBounds_toArray, List.set_cons_zero, List.set_cons_succ]
        refine wpAnyH_ready (rs := [6]) (by kernel_rfl) (by simp) ?_
        refine AllReadyH.cons (by simp only [List.getElem?_toArray, List.getElem?_cons_succ, List.getElem?_cons_zero]; rfl) (fun K hK => ?_) AllReadyH.nil
        go_simp
        clear hHeld
        refine (lscaled_any _ _ _ _ _ kh _ (by exact H_b.out) (by exact K_b.out) (by omega) (by omega) (by omega)).mono ?_
        rintro e w18 ⟨A_y, n_y, c_y, D_y, e_y, f_y, rfl, h_y, hb⟩
        replace H_a := Lib.hid (H_a.out.below hb)
        replace K_a := Lib.hid (K_a.out.below hb)
        replace H_b := Lib.hid (H_b.out.below hb)
        replace K_b := Lib.hid (K_b.out.below hb)
        replace BW0 := Lib.hid (BW0.out.below hb)
        replace R_x := Lib.hid (R_x.out.below hb)
        replace B_a := Lib.hid (B_a.out.below hb)
        replace B_b := Lib.hid (B_b.out.below hb)
        replace B_y := Lib.hid (B_y.out.below hb)
        replace B_x := Lib.hid (B_x.out.below hb)
        replace hB := below_next hB hb
        clear hb
        rw [← E_b.out] at h_y
        have R_y := Lib.hid h_y
        clear h_y
        go_wp2_with fail
        refine hK.out _ _ (by exact ⟨B_a.out.c3, B_b.out.c3⟩) (fun hHeld => ?_)
        clear hK K
        try simp only [Act.put, List.setIfInBounds_toArray, List.set_cons_zero, List.set_cons_succ]
        exact wpAnyH_atR #[true, true, true, true, true, true, true, true, true, false, false] (by kernel_rfl) (KEY.out _ _ _ _ _ ⟨A_x, n_x, c_x, D_x, e_x, f_x, g_x, A_y, n_y, c_y, D_y, e_y, f_y, g_y, rfl, rfl, rfl, rfl, by omega, l_x_BW0, l_y_BW0, B_x.out, B_y.out, B_a.out, B_b.out, R_x.out, R_y.out, BW0.out, hB⟩)
        exact AllReadyH.nil
        exact AllReadyH.nil
        refine AllReadyH.cons (by simp only [List.getElem?_toArray, List.getElem?_cons_succ, List.getElem?_cons_zero]; rfl) (fun K hK => ?_) ?_
        go_simp
        clear hHeld
        obtain ⟨A19, g_x, hV, hg, NB, hb⟩ := newR V2 (.bool false) (.slice none 0 0) (.slice none 0 0)
        rw [hV, hg]
        clear hV
        have l_x_a : w.heap.size < g_x := hg ▸ B_a.out.lt
        have l_x_b : w.heap.size + 1 < g_x := hg ▸ B_b.out.lt
        have l_x_BW0 := hg ▸ BW0.out.size
        replace H_a := Lib.hid (H_a.out.below hb)
        replace K_a := Lib.hid (K_a.out.below hb)
        replace H_b := Lib.hid (H_b.out.below hb)
        replace K_b := Lib.hid (K_b.out.below hb)
        replace BW0 := Lib.hid (BW0.out.below hb)
        replace B_a := Lib.hid (B_a.out.below hb)
        replace B_b := Lib.hid (B_b.out.below hb)
        replace hB := below_next hB hb
        have B_x := NB
        clear NB hb hg
        refine hK.out _ _ (by exact ⟨B_a.out.c3, B_b.out.c3⟩) (fun hHeld => ?_)
        clear hK K
        try simp only [Act.put, List.setIfInBounds_toArray, List.set_cons_zero, List.set_cons_succ]
        refine wpAnyH_ready (rs := [2, 8]) (by kernel_rfl) (by simp) ?_
        refine AllReadyH.cons (by simp only [List.getElem?_toArray, List.getElem?_cons_succ, List.getElem?_cons_zero]; rfl) (fun K hK => ?_) ?_
        go_simp
        clear hHeld
        refine (lscaled_any _ _ _ _ _ kn _ (by exact H_a.out) (by exact K_a.out) (by omega) (by omega) (by omega)).mono ?_
        rintro e w20 ⟨A_x, n_x, c_x, D_x, e_x, f_x, rfl, h_x, hb⟩
        replace H_a := Lib.hid (H_a.out.below hb)
        replace K_a := Lib.hid (K_a.out.below hb)
        replace H_b := Lib.hid (H_b.out.below hb)
        replace K_b := Lib.hid (K_b.out.below hb)
        replace BW0 := Lib.hid (BW0.out.below hb)
        replace B_a := Lib.hid (B_a.out.below hb)
        replace B_b := Lib.hid (B_b.out.below hb)
        replace B_x := Lib.hid (B_x.out.below hb)
        replace hB := below_next hB hb
        clear hb
        rw [← E_a.out] at h_x
        have R_x := Lib.hid h_x
        clear h_x
        go_wp2_with fail
        refine hK.out _ _ (by exact ⟨B_a.out.c3, B_b.out.c3⟩) (fun hHeld => ?_)
        clear hK K
        try simp only [Act.put, List.setIfInBounds_toArray, List.set_cons_zero, List.set_cons_succ]
        refine wpAnyH_ready (rs := [6, 8]) (by kernel_rfl) (by simp) ?_
        refine AllReadyH.cons (by simp only [List.getElem?_toArray, List.getElem?_cons_succ, List.getElem?_cons_zero]; rfl) (fun K hK => ?_) ?_
        go_simp
        clear hHeld
        refine (lscaled_any _ _ _ _ _ kh _ (by exact H_b.out) (by exact K_b.out) (by omega) (by omega) (by omega)).mono ?_
        rintro e w21 ⟨A_y, n_y, c_y, D_y, e_y, f_y, rfl, h_y, hb⟩
        replace H_a := Lib.hid (H_a.out.below hb)
        replace K_a := Lib.hid (K_a.out.below hb)
        replace H_b := Lib.hid (H_b.out.below hb)
        replace K_b := Lib.hid (K_b.out.below hb)
        replace BW0 := Lib.hid (BW0.out.below hb)
        replace R_x := Lib.hid (R_x.out.below hb)
        replace B_a := Lib.hid (B_a.out.below hb)
        replace B_b := Lib.hid (B_b.out.below hb)
        replace B_x := Lib.hid (B_x.out.below hb)
        replace hB := below_next hB hb
        clear hb
        rw [← E_b.out] at h_y
        have R_y := Lib.hid h_y
        clear h_y
        go_wp2_with fail
        refine hK.out _ _ (by exact ⟨B_a.out.c3, B_b.out.c3⟩) (fun hHeld => ?_)
        clear hK K
        try simp only [Act.put, List.setIfInBounds_toArray, List.set_cons_zero, List.set_cons_succ]
        refine wpAnyH_ready (rs := [8]) (by kernel_rfl) (by simp) ?_
        refine AllReadyH.cons (by simp only [List.getElem?_toArray, List.getElem?_cons_succ, List.getElem?_cons_zero]; rfl) (fun K hK => ?_) AllReadyH.nil
        go_simp
        clear hHeld
        obtain ⟨A22, g_y, hV, hg, NB, hb⟩ := newR w21 (.bool false) (.slice none 0 0) (.slice none 0 0)
        rw [hV, hg]
        clear hV
        have l_y_a : w.heap.size < g_y := hg ▸ B_a.out.lt
        have l_y_b : w.heap.size + 1 < g_y := hg ▸ B_b.out.lt
        have l_y_x : g_x < g_y := hg ▸ B_x.out.lt
        have l_y_BW0 := hg ▸ BW0.out.size
        replace H_a := Lib.hid (H_a.out.below hb)
        replace K_a := Lib.hid (K_a.out.below hb)
        replace H_b := Lib.hid (H_b.out.below hb)
        replace K_b := Lib.hid (K_b.out.below hb)
        replace BW0 := Lib.hid (BW0.out.below hb)
        replace R_x := Lib.hid (R_x.out.below hb)
        replace R_y := Lib.hid (R_y.out.below hb)
        replace B_a := Lib.hid (B_a.out.below hb)
        replace B_b := Lib.hid (B_b.out.below hb)
        replace B_x := Lib.hid (B_x.out.below hb)
        replace hB := below_next hB hb
        have B_y := NB
        clear NB hb hg
        refine hK.out _ _ (by exact ⟨B_a.out.c3, B_b.out.c3⟩) (fun hHeld => ?_)
        clear hK K
        try simp only [Act.put, List.setIfInBounds_toArray, List.set_cons_zero, List.set_cons_succ]
        exact wpAnyH_atR #[true, true, true, true, true, true, true, true, true, false, false] (by kernel_rfl) (KEY.out _ _ _ _ _ ⟨A_x, n_x, c_x, D_x, e_x, f_x, g_x, A_y, n_y, c_y, D_y, e_y, f_y, g_y, rfl, rfl, rfl, rfl, by omega, l_x_BW0, l_y_BW0, B_x.out, B_y.out, B_a.out, B_b.out, R_x.out, R_y.out, BW0.out, hB⟩)
        refine AllReadyH.cons (by simp only [List.getElem?_toArray, List.getElem?_cons_succ, List.getElem?_cons_zero]; rfl) (fun K hK => ?_) ?_
        go_simp
        clear hHeld
        obtain ⟨A23, g_y, hV, hg, NB, hb⟩ := newR w20 (.bool false) (.slice none 0 0) (.slice none 0 0)
        rw [hV, hg]
        clear hV
        have l_y_a : w.heap.size < g_y := hg ▸ B_a.out.lt
        have l_y_b : w.heap.size + 1 < g_y := hg ▸ B_b.out.lt
        have l_y_x : g_x < g_y := hg ▸ B_x.out.lt
        have l_y_BW0 := hg ▸ BW0.out.size
        replace H_a := Lib.hid (H_a.out.below hb)
        replace K_a := Lib.hid (K_a.out.below hb)
        replace H_b := Lib.hid (H_b.out.below hb)
        replace K_b := Lib.hid (K_b.out.below hb)
        replace BW0 := Lib.hid (BW0.out.below hb)
        replace R_x := Lib.hid (R_x.out.below hb)
        replace B_a := Lib.hid (B_a.out.below hb)
        replace B_b := Lib.hid (B_b.out.below hb)
        replace B_x := Lib.hid (B_x.out.below hb)
        replace hB := below_next hB hb
        have B_y := NB
        clear NB hb hg
        refine hK.out _ _ (by exact ⟨B_a.out.c3, B_b.out.c3⟩) (fun hHeld => ?_)
        clear hK K
        try simp only [Act.put, List.setIfInBounds_toArray, List.set_cons_zero, List.set_cons_succ]
        refine wpAnyH_ready (rs := [6]) (by kernel_rfl) (by simp) ?_
        refine AllReadyH.cons (by simp only [List.getElem?_toArray, List.getElem?_cons_succ, List.getElem?_cons_zero]; rfl) (fun K hK => ?_) AllReadyH.nil
        go_simp
        clear hHeld
        refine (lscaled_any _ _ _ _ _ kh _ (by exact H_b.out) (by exact K_b.out) (by omega) (by omega) (by omega)).mono ?_
        rintro e w24 ⟨A_y, n_y, c_y, D_y, e_y, f_y, rfl, h_y, hb⟩
        replace H_a := Lib.hid (H_a.out.below hb)
        replace K_a := Lib.hid (K_a.out.below hb)
        replace H_b := Lib.hid (H_b.out.below hb)
        replace K_b := Lib.hid (K_b.out.below hb)
        replace BW0 := Lib.hid (BW0.out.below hb)
        replace R_x := Lib.hid (R_x.out.below hb)
        replace B_a := Lib.hid (B_a.out.below hb)
        replace B_b := Lib.hid (B_b.out.below hb)
        replace B_x := Lib.hid (B_x.out.below hb)
        replace B_y := Lib.hid (B_y.out.below hb)
        replace hB := below_next hB hb
        clear hb
        rw [← E_b.out] at h_y
        have R_y := Lib.hid h_y
        clear h_y
        go_wp2_with fail
        refine hK.out _ _ (by exact ⟨B_a.out.c3, B_b.out.c3⟩) (fun hHeld => ?_)
        clear hK K
        try simp only [Act.put, List.setIfInBounds_toArray, List.set_cons_zero, List.set_cons_succ]
        exact wpAnyH_atR #[true, true, true, true, true, true, true, true, true, false, false] (by kernel_rfl) (KEY.out _ _ _ _ _ ⟨A_x, n_x, c_x, D_x, e_x, f_x, g_x, A_y, n_y, c_y, D_y, e_y, f_y, g_y, rfl, rfl, rfl, rfl, by omega, l_x_BW0, l_y_BW0, B_x.out, B_y.out, B_a.out, B_b.out, R_x.out, R_y.out, BW0.out, hB⟩)
        exact AllReadyH.nil
        refine AllReadyH.cons (by simp only [List.getElem?_toArray, List.getElem?_cons_succ, List.getElem?_cons_zero]; rfl) (fun K hK => ?_) ?_
        go_simp
        clear hHeld
        obtain ⟨A25, g_y, hV, hg, NB, hb⟩ := newR A19 (.bool false) (.slice none 0 0) (.slice none 0 0)
        rw [hV, hg]
        clear hV
        have l_y_a : w.heap.size < g_y := hg ▸ B_a.out.lt
        have l_y_b : w.heap.size + 1 < g_y := hg ▸ B_b.out.lt
        have l_y_x : g_x < g_y := hg ▸ B_x.out.lt
        have l_y_BW0 := hg ▸ BW0.out.size
        replace H_a := Lib.hid (H_a.out.below hb)
        replace K_a := Lib.hid (K_a.out.below hb)
        replace H_b := Lib.hid (H_b.out.below hb)
        replace K_b := Lib.hid (K_b.out.below hb)
        replace BW0 := Lib.hid (BW0.out.below hb)
        replace B_a := Lib.hid (B_a.out.below hb)
        replace B_b := Lib.hid (B_b.out.below hb)
        replace B_x := Lib.hid (B_x.out.below hb)
        replace hB := below_next hB hb
        have B_y := NB
        clear NB hb hg
        refine hK.out _ _ (by exact ⟨B_a.out.c3, B_b.out.c3⟩) (fun hHeld => ?_)
        clear hK K
        try simp only [Act.put, List.setIfInBounds_toArray, List.set_cons_zero, List.set_cons_succ]
        refine wpAnyH_ready (rs := [2]) (by kernel_rfl) (by simp) ?_
        refine AllReadyH.cons (by simp only [List.getElem?_toArray, List.getElem?_cons_succ, List.getElem?_cons_zero]; rfl) (fun K hK => ?_) AllReadyH.nil
        go_simp
        clear hHeld
        refine (lscaled_any _ _ _ _ _ kn _ (by exact H_a.out) (by exact K_a.out) (by omega) (by omega) (by omega)).mono ?_
        rintro e w26 ⟨A_x, n_x, c_x, D_x, e_x, f_x, rfl, h_x, hb⟩
        replace H_a := Lib.hid (H_a.out.below hb)
        replace K_a := Lib.hid (K_a.out.below hb)
        replace H_b := Lib.hid (H_b.out.below hb)
        replace K_b := Lib.hid (K_b.out.below hb)
        replace BW0 := Lib.hid (BW0.out.below hb)
        replace B_a := Lib.hid (B_a.out.below hb)
        replace B_b := Lib.hid (B_b.out.below hb)
        replace B_x := Lib.hid (B_x.out.below hb)
        replace B_y := Lib.hid (B_y.out.below hb)
        replace hB := below_next hB hb
        clear hb
        rw [← E_a.out] at h_x
        have R_x := Lib.hid h_x
        clear h_x
        go_wp2_with fail
        refine hK.out _ _ (by exact ⟨B_a.out.c3, B_b.out.c3⟩) (fun hHeld => ?_)
        clear hK K
        try simp only [Act.put, List.setIfInBounds_toArray, List.set_cons_zero, List.set_cons_succ]
        refine wpAnyH_ready (rs := [6]) (by kernel_rfl) (by simp) ?_
        refine AllReadyH.cons (by simp only [List.getElem?_toArray, List.getElem?_cons_succ, List.getElem?_cons_zero]; rfl) (fun K hK => ?_) AllReadyH.nil
        go_simp
        clear hHeld
        refine (lscaled_any _ _ _ _ _ kh _ (by exact H_b.out) (by exact K_b.out) (by omega) (by omega) (by omega)).mono ?_
        rintro e w27 ⟨A_y, n_y, c_y, D_y, e_y, f_y, rfl, h_y, hb⟩
        replace H_a := Lib.hid (H_a.out.below hb)
        replace K_a := Lib.hid (K_a.out.below hb)
        replace H_b := Lib.hid (H_b.out.below hb)
        replace K_b := Lib.hid (K_b.out.below hb)
        replace BW0 := Lib.hid (BW0.out.below hb)
        replace R_x := Lib.hid (R_x.out.below hb)
        replace B_a := Lib.hid (B_a.out.below hb)
        replace B_b := Lib.hid (B_b.out.below hb)
        replace B_x := Lib.hid (B_x.out.below hb)
        replace B_y := Lib.hid (B_y.out.below hb)
        replace hB := below_next hB hb
        clear hb
        rw [← E_b.out] at h_y
        have R_y := Lib.hid h_y
        clear h_y
        go_wp2_with fail
        refine hK.out _ _ (by exact ⟨B_a.out.c3, B_b.out.c3⟩) (fun hHeld => ?_)
        clear hK K
        try simp only [Act.put, List.setIfInBounds_toArray, List.set_cons_zero, List.set_cons_succ]
        exact wpAnyH_atR #[true, true, true, true, true, true, true, true, true, false, false] (by kernel_rfl) (KEY.out _ _ _ _ _ ⟨A_x, n_x, c_x, D_x, e_x, f_x, g_x, A_y, n_y, c_y, D_y, e_y, f_y, g_y, rfl, rfl, rfl, rfl, by omega, l_x_BW0, l_y_BW0, B_x.out, B_y.out, B_a.out, B_b.out, R_x.out, R_y.out, BW0.out, hB⟩)
        exact AllReadyH.nil
        refine AllReadyH.cons (by simp only [List.getElem?_toArray, List.getElem?_cons_succ, List.getElem?_cons_zero]; rfl) (fun K hK => ?_) ?_
        go_simp
        clear hHeld
        obtain ⟨A28, g_y, hV, hg, NB, hb⟩ := newR V2 (.bool false) (.slice none 0 0) (.slice none 0 0)
        rw [hV, hg]
        clear hV
        have l_y_a : w.heap.size < g_y := hg ▸ B_a.out.lt
        have l_y_b : w.heap.size + 1 < g_y := hg ▸ B_b.out.lt
        have l_y_BW0 := hg ▸ BW0.out.size
        replace H_a := Lib.hid (H_a.out.below hb)
        replace K_a := Lib.hid (K_a.out.below hb)
        replace H_b := Lib.hid (H_b.out.below hb)
        replace K_b := Lib.hid (K_b.out.below hb)
        replace BW0 := Lib.hid (BW0.out.below hb)
        replace B_a := Lib.hid (B_a.out.below hb)
        replace B_b := Lib.hid (B_b.out.below hb)
        replace hB := below_next hB hb
        have B_y := NB
        clear NB hb hg
        refine hK.out _ _ (by exact ⟨B_a.out.c3, B_b.out.c3⟩) (fun hHeld => ?_)
        clear hK K
        try simp only [Act.put, List.setIfInBounds_toArray, List.set_cons_zero, List.set_cons_succ]
        refine wpAnyH_ready (rs := [2, 7]) (by kernel_rfl) (by simp) ?_
        refine AllReadyH.cons (by simp only [List.getElem?_toArray, List.getElem?_cons_succ, List.getElem?_cons_zero]; rfl) (fun K hK => ?_) ?_
        go_simp
        clear hHeld
        refine (lscaled_any _ _ _ _ _ kn _ (by exact H_a.out) (by exact K_a.out) (by omega) (by omega) (by omega)).mono ?_
        rintro e w29 ⟨A_x, n_x, c_x, D_x, e_x, f_x, rfl, h_x, hb⟩
        replace H_a := Lib.hid (H_a.out.below hb)
        replace K_a := Lib.hid (K_a.out.below hb)
        replace H_b := Lib.hid (H_b.out.below hb)
        replace K_b := Lib.hid (K_b.out.below hb)
        replace BW0 := Lib.hid (BW0.out.below hb)
        replace B_a := Lib.hid (B_a.out.below hb)
        replace B_b := Lib.hid (B_b.out.below hb)
        replace B_y := Lib.hid (B_y.out.below hb)
        replace hB := below_next hB hb
        clear hb
        rw [← E_a.out] at h_x
        have R_x := Lib.hid h_x
        clear h_x
        go_wp2_with fail
        refine hK.out _ _ (by exact ⟨B_a.out.c3, B_b.out.c3⟩) (fun hHeld => ?_)
        clear hK K
        try simp only [Act.put, List.setIfInBounds_toArray, List.set_cons_zero, List.set_cons_succ]
        refine wpAnyH_ready (rs := [6, 7]) (by kernel_rfl) (by simp) ?_
        refine AllReadyH.cons (by simp only [List.getElem?_toArray, List.getElem?_cons_succ, List.getElem?_cons_zero]; rfl) (fun K hK => ?_) ?_
        go_simp
        clear hHeld
        refine (lscaled_any _ _ _ _ _ kh _ (by exact H_b.out) (by exact K_b.out) (by omega) (by omega) (by omega)).mono ?_
        rintro e w30 ⟨A_y, n_y, c_y, D_y, e_y, f_y, rfl, h_y, hb⟩
        replace H_a := Lib.hid (H_a.out.below hb)
        replace K_a := Lib.hid (K_a.out.below hb)
        replace H_b := Lib.hid (H_b.out.below hb)
        replace K_b := Lib.hid (K_b.out.below hb)
        replace BW0 := Lib.hid (BW0.out.below hb)
        replace R_x := Lib.hid (R_x.out.below hb)
        replace B_a := Lib.hid (B_a.out.below hb)
        replace B_b := Lib.hid (B_b.out.below hb)
        replace B_y := Lib.hid (B_y.out.below hb)
        replace hB := below_next hB hb
        clear hb
        rw [← E_b.out] at h_y
        have R_y := Lib.hid h_y
        clear h_y
        go_wp2_with fail
        refine hK.out _ _ (by exact ⟨B_a.out.c3, B_b.out.c3⟩) (fun hHeld => ?_)
        clear hK K
        try simp only [Act.put, List.setIfInBounds_toArray, List.set_cons_zero, List.set_cons_succ]
        refine wpAnyH_ready (rs := [7]) (by kernel_rfl) (by simp) ?_
        refine AllReadyH.cons (by simp only [List.getElem?_toArray, List.getElem?_cons_succ, List.getElem?_cons_zero]; rfl) (fun K hK => ?_) AllReadyH.nil
        go_simp
        clear hHeld
        obtain ⟨A31, g_x, hV, hg, NB, hb⟩ := newR w30 (.bool false) (.slice none 0 0) (.slice none 0 0)
        rw [hV, hg]
        clear hV
        have l_x_a : w.heap.size < g_x := hg ▸ B_a.out.lt
        have l_x_b : w.heap.size + 1 < g_x := hg ▸ B_b.out.lt
        have l_x_y : g_y < g_x := hg ▸ B_y.out.lt
        have l_x_BW0 := hg ▸ BW0.out.size
        replace H_a := Lib.hid (H_a.out.below hb)
        replace K_a := Lib.hid (K_a.out.below hb)
        replace H_b := Lib.hid (H_b.out.below hb)
        replace K_b := Lib.hid (K_b.out.below hb)
        replace BW0 := Lib.hid (BW0.out.below hb)
        replace R_x := Lib.hid (R_x.out.below hb)
        replace R_y := Lib.hid (R_y.out.below hb)
        replace B_a := Lib.hid (B_a.out.below hb)
        replace B_b := Lib.hid (B_b.out.below hb)
        replace B_y := Lib.hid (B_y.out.below hb)
        replace hB := below_next hB hb
        have B_x := NB
        clear NB hb hg
        refine hK.out _ _ (by exact ⟨B_a.out.c3, B_b.out.c3⟩) (fun hHeld => ?_)
        clear hK K
        try simp only [Act.put, List.setIfInBounds_toArray, List.set_cons_zero, List.set_cons_succ]
        exact wpAnyH_atR #[true, true, true, true, true, true, true, true, true, false, false] (by kernel_rfl) (KEY.out _ _ _ _ _ ⟨A_x, n_x, c_x, D_x, e_x, f_x, g_x, A_y, n_y, c_y, D_y, e_y, f_y, g_y, rfl, rfl, rfl, rfl, by omega, l_x_BW0, l_y_BW0, B_x.out, B_y.out, B_a.out, B_b.out, R_x.out, R_y.out, BW0.out, hB⟩)
        refine AllReadyH.cons (by simp only [List.getElem?_toArray, List.getElem?_cons_succ, List.getElem?_cons_zero]; rfl) (fun K hK => ?_) ?_
        go_simp
        clear hHeld
        obtain ⟨A32, g_x, hV, hg, NB, hb⟩ := newR w29 (.bool false) (.slice none 0 0) (.slice none 0 0)
        rw [hV, hg]
        clear hV
        have l_x_a : w.heap.size < g_x := hg ▸ B_a.out.lt
        have l_x_b : w.heap.size + 1 < g_x := hg ▸ B_b.out.lt
        have l_x_y : g_y < g_x := hg ▸ B_y.out.lt
        have l_x_BW0 := hg ▸ BW0.out.size
        replace H_a := Lib.hid (H_a.out.below hb)
        replace K_a := Lib.hid (K_a.out.below hb)
        replace H_b := Lib.hid (H_b.out.below hb)
        replace K_b := Lib.hid (K_b.out.below hb)
        replace BW0 := Lib.hid (BW0.out.below hb)
        replace R_x := Lib.hid (R_x.out.below hb)
        replace B_a := Lib.hid (B_a.out.below hb)
        replace B_b := Lib.hid (B_b.out.below hb)
        replace B_y := Lib.hid (B_y.out.below hb)
        replace hB := below_next hB hb
        have B_x := NB
        clear NB hb hg
        refine hK.out _ _ (by exact ⟨B_a.out.c3, B_b.out.c3⟩) (fun hHeld => ?_)
        clear hK K
        try simp only [Act.put, List.setIfInBounds_toArray, List.set_cons_zero, List.set_cons_succ]
        refine wpAnyH_ready (rs := [6]) (by kernel_rfl) (by simp) ?_
        refine AllReadyH.cons (by simp only [List.getElem?_toArray, List.getElem?_cons_succ, List.getElem?_cons_zero]; rfl) (fun K hK => ?_) AllReadyH.nil
        go_simp
        clear hHeld
        refine (lscaled_any _ _ _ _ _ kh _ (by exact H_b.out) (by exact K_b.out) (by omega) (by omega) (by omega)).mono ?_
        rintro e w33 ⟨A_y, n_y, c_y, D_y, e_y, f_y, rfl, h_y, hb⟩
        replace H_a := Lib.hid (H_a.out.below hb)
        replace K_a := Lib.hid (K_a.out.below hb)
        replace H_b := Lib.hid (H_b.out.below hb)
        replace K_b := Lib.hid (K_b.out.below hb)
        replace BW0 := Lib.hid (BW0.out.below hb)
        replace R_x := Lib.hid (R_x.out.below hb)
        replace B_a := Lib.hid (B_a.out.below hb)
        replace B_b := Lib.hid (B_b.out.below hb)
        replace B_y := Lib.hid (B_y.out.below hb)
        replace B_x := Lib.hid (B_x.out.below hb)
        replace hB := below_next hB hb
        clear hb
        rw [← E_b.out] at h_y
        have R_y := Lib.hid h_y
        clear h_y
        go_wp2_with fail
        refine hK.out _ _ (by exact ⟨B_a.out.c3, B_b.out.c3⟩) (fun hHeld => ?_)
        clear hK K
        try simp only [Act.put, List.setIfInBounds_toArray, List.set_cons_zero, List.set_cons_succ]
        exact wpAnyH_atR #[true, true, true, true, true, true, true, true, true, false, false] (by kernel_rfl) (KEY.out _ _ _ _ _ ⟨A_x, n_x, c_x, D_x, e_x, f_x, g_x, A_y, n_y, c_y, D_y, e_y, f_y, g_y, rfl, rfl, rfl, rfl, by omega, l_x_BW0, l_y_BW0, B_x.out, B_y.out, B_a.out, B_b.out, R_x.out, R_y.out, BW0.out, hB⟩)
        exact AllReadyH.nil
        refine AllReadyH.cons (by simp only [List.getElem?_toArray, List.getElem?_cons_succ, List.getElem?_cons_zero]; rfl) (fun K hK => ?_) ?_
        go_simp
        clear hHeld
        obtain ⟨A34, g_x, hV, hg, NB, hb⟩ := newR A28 (.bool false) (.slice none 0 0) (.slice none 0 0)
        rw [hV, hg]
        clear hV
        have l_x_a : w.heap.size < g_x := hg ▸ B_a.out.lt
        have l_x_b : w.heap.size + 1 < g_x := hg ▸ B_b.out.lt
        have l_x_y : g_y < g_x := hg ▸ B_y.out.lt
        have l_x_BW0 := hg ▸ BW0.out.size
        replace H_a := Lib.hid (H_a.out.below hb)
        replace K_a := Lib.hid (K_a.out.below hb)
        replace H_b := Lib.hid (H_b.out.below hb)
        replace K_b := Lib.hid (K_b.out.below hb)
        replace BW0 := Lib.hid (BW0.out.below hb)
        replace B_a := Lib.hid (B_a.out.below hb)
        replace B_b := Lib.hid (B_b.out.below hb)
        replace B_y := Lib.hid (B_y.out.below hb)
        replace hB := below_next hB hb
        have B_x := NB
        clear NB hb hg
        refine hK.out _ _ (by exact ⟨B_a.out.c3, B_b.out.c3⟩) (fun hHeld => ?_)
        clear hK K
        try simp only [Act.put, List.setIfInBounds_toArray, List.set_cons_zero, List.set_cons_succ]
        refine wpAnyH_ready (rs := [2]) (by kernel_rfl) (by simp) ?_
        refine AllReadyH.cons (by simp only [List.getElem?_toArray, List.getElem?_cons_succ, List.getElem?_cons_zero]; rfl) (fun K hK => ?_) AllReadyH.nil
        go_simp
        clear hHeld
        refine (lscaled_any _ _ _ _ _ kn _ (by exact H_a.out) (by exact K_a.out) (by omega) (by omega) (by omega)).mono ?_
        rintro e w35 ⟨A_x, n_x, c_x, D_x, e_x, f_x, rfl, h_x, hb⟩
        replace H_a := Lib.hid (H_a.out.below hb)
        replace K_a := Lib.hid (K_a.out.below hb)
        replace H_b := Lib.hid (H_b.out.below hb)
        replace K_b := Lib.hid (K_b.out.below hb)
        replace BW0 := Lib.hid (BW0.out.below hb)
        replace B_a := Lib.hid (B_a.out.below hb)
        replace B_b := Lib.hid (B_b.out.below hb)
        replace B_y := Lib.hid (B_y.out.below hb)
        replace B_x := Lib.hid (B_x.out.below hb)
        replace hB := below_next hB hb
        clear hb
        rw [← E_a.out] at h_x
        have R_x := Lib.hid h_x
        clear h_x
        go_wp2_with fail
        refine hK.out _ _ (by exact ⟨B_a.out.c3, B_b.out.c3⟩) (fun hHeld => ?_)
        clear hK K
        try simp only [Act.put, List.setIfInBounds_toArray, List.set_cons_zero, List.set_cons_succ]
        refine wpAnyH_ready (rs := [6]) (by kernel_rfl) (by simp) ?_
        refine AllReadyH.cons (by simp only [List.getElem?_toArray, List.getElem?_cons_succ, List.getElem?_cons_zero]; rfl) (fun K hK => ?_) AllReadyH.nil
        go_simp
        clear hHeld
        refine (lscaled_any _ _ _ _ _ kh _ (by exact H_b.out) (by exact K_b.out) (by omega) (by omega) (by omega)).mono ?_
        rintro e w36 ⟨A_y, n_y, c_y, D_y, e_y, f_y, rfl, h_y, hb⟩
        replace H_a := Lib.hid (H_a.out.below hb)
        replace K_a := Lib.hid (K_a.out.below hb)
        replace H_b := Lib.hid (H_b.out.below hb)
        replace K_b := Lib.hid (K_b.out.below hb)
        replace BW0 := Lib.hid (BW0.out.below hb)
        replace R_x := Lib.hid (R_x.out.below hb)
        replace B_a := Lib.hid (B_a.out.below hb)
        replace B_b := Lib.hid (B_b.out.below hb)
        replace B_y := Lib.hid (B_y.out.below hb)
        replace B_x := Lib.hid (B_x.out.below hb)
        replace hB := below_next hB hb
        clear hb
        rw [← E_b.out] at h_y
        have R_y := Lib.hid h_y
        clear h_y
        go_wp2_with fail
        refine hK.out _ _ (by exact ⟨B_a.out.c3, B_b.out.c3⟩) (fun hHeld => ?_)
        clear hK K
        try simp only [Act.put, List.setIfInBounds_toArray, List.set_cons_zero, List.set_cons_succ]
        exact wpAnyH_atR #[true, true, true, true, true, true, true, true, true, false, false] (by kernel_rfl) (KEY.out _ _ _ _ _ ⟨A_x, n_x, c_x, D_x, e_x, f_x, g_x, A_y, n_y, c_y, D_y, e_y, f_y, g_y, rfl, rfl, rfl, rfl, by omega, l_x_BW0, l_y_BW0, B_x.out, B_y.out, B_a.out, B_b.out, R_x.out, R_y.out, BW0.out, hB⟩)
        exact AllReadyH.nil
        exact AllReadyH.nil
      · rintro _ _ _ _ K9 ⟨A_x, n_x, c_x, D_x, e_x, f_x, g_x, A_y, n_y, c_y, D_y, e_y, f_y, g_y, rfl, rfl, rfl, rfl, ne, hl, hn, yx, yy, ya, yb, xx, xy, bw, hB9⟩
        clear H_a K_a H_b K_b BW0 B_a B_b hB
        have hB := hB9
        have B_x := Lib.hid yx
        have B_y := Lib.hid yy
        have B_a := Lib.hid ya
        have B_b := Lib.hid yb
        have R_x := Lib.hid xx
        have R_y := Lib.hid xy
        have BW0 := Lib.hid bw
        have h1 := Nat.lt_of_lt_of_le BWa hl
        have h2 := Nat.lt_of_lt_of_le BWa hn
        have h3 := Nat.lt_of_lt_of_le BWb hl
        have h4 := Nat.lt_of_lt_of_le BWb hn
        clear yx yy ya yb xx xy bw hB9
        try simp only [Act.put, List.setIfInBounds_toArray, List.set_cons_zero, List.set_cons_succ]
        refine wpAnyH_ready (rs := [9]) (by kernel_rfl) (by simp) ?_
        refine AllReadyH.cons (by simp only [List.getElem?_toArray, List.getElem?_cons_succ, List.getElem?_cons_zero]; rfl) (fun K hK => ?_) AllReadyH.nil
        have c_a0 := B_a.out.cell0
        have c_a1 := B_a.out.cell1
        have c_a2 := B_a.out.cell2
        have c_b0 := B_b.out.cell0
        have c_b1 := B_b.out.cell1
        have c_b2 := B_b.out.cell2
        have c_x0 := B_x.out.cell0
        have c_x1 := B_x.out.cell1
        have c_x2 := B_x.out.cell2
        have f_x0 := B_x.out.fro 0
        have f_x1 := B_x.out.fro 1
        have f_x2 := B_x.out.fro 2
        have c_y0 := B_y.out.cell0
        have c_y1 := B_y.out.cell1
        have c_y2 := B_y.out.cell2
        go_simp
        clear c_a0 c_a1 c_a2 c_b0 c_b1 c_b2 c_x0 c_x1 c_x2 f_x0 f_x1 f_x2 c_y0 c_y1 c_y2
        clear hHeld
        obtain ⟨V37, hV, NB, KP⟩ := storeR B_x.out (.bool b_a) (.slice A_x n_x c_x) (.slice D_x e_x f_x)
        rw [hV]
        clear hV
        replace R_x := Lib.hid (R_x.out.keeps KP.out)
        replace R_y := Lib.hid (R_y.out.keeps KP.out)
        replace BW0 := Lib.hid (BW0.out.keeps KP.out (by omega))
        replace B_a := Lib.hid (B_a.out.keeps KP.out (by omega))
        replace B_b := Lib.hid (B_b.out.keeps KP.out (by omega))
        replace B_y := Lib.hid (B_y.out.keeps KP.out (by omega))
        replace hB := below_keeps hB KP.out (by omega)
        have B_x := NB
        clear NB KP
        refine hK.out _ _ (by exact ⟨B_a.out.c3, B_b.out.c3⟩) (fun hHeld => ?_)
        clear hK K
        try simp only [List.setIfInBounds_toArray, List.set_cons_zero, List.set_cons_succ]
        refine wpAnyH_ready (rs := [10]) (by kernel_rfl) (by simp) ?_
        refine AllReadyH.cons (by simp only [List.getElem?_toArray, List.getElem?_cons_succ, List.getElem?_cons_zero]; rfl) (fun K hK => ?_) AllReadyH.nil
        have c_a0 := B_a.out.cell0
        have c_a1 := B_a.out.cell1
        have c_a2 := B_a.out.cell2
        have c_b0 := B_b.out.cell0
        have c_b1 := B_b.out.cell1
        have c_b2 := B_b.out.cell2
        have c_x0 := B_x.out.cell0
        have c_x1 := B_x.out.cell1
        have c_x2 := B_x.out.cell2
        have c_y0 := B_y.out.cell0
        have c_y1 := B_y.out.cell1
        have c_y2 := B_y.out.cell2
        have f_y0 := B_y.out.fro 0
        have f_y1 := B_y.out.fro 1
        have f_y2 := B_y.out.fro 2
        go_simp
        clear c_a0 c_a1 c_a2 c_b0 c_b1 c_b2 c_x0 c_x1 c_x2 c_y0 c_y1 c_y2 f_y0 f_y1 f_y2
        clear hHeld
        obtain ⟨V38, hV, NB, KP⟩ := storeR B_y.out (.bool b_b) (.slice A_y n_y c_y) (.slice D_y e_y f_y)
        rw [hV]
        clear hV
        replace R_x := Lib.hid (R_x.out.keeps KP.out)
        replace R_y := Lib.hid (R_y.out.keeps KP.out)
        replace BW0 := Lib.hid (BW0.out.keeps KP.out (by omega))
        replace B_a := Lib.hid (B_a.out.keeps KP.out (by omega))
        replace B_b := Lib.hid (B_b.out.keeps KP.out (by omega))
        replace B_x := Lib.hid (B_x.out.keeps KP.out (by omega))
        replace hB := below_keeps hB KP.out (by omega)
        have B_y := NB
        clear NB KP
        refine hK.out _ _ (by exact ⟨B_a.out.c3, B_b.out.c3⟩) (fun hHeld => ?_)
        clear hK K
        try simp only [List.setIfInBounds_toArray, List.set_cons_zero, List.set_cons_succ]
        refine wpAnyH_done (by kernel_rfl) (NoPanic.normal ?_) _
        clear hHeld
        go_wp2_with fail
        go_meet
        exact ⟨A_x, n_x, c_x, D_x, e_x, f_x, g_x, A_y, n_y, c_y, D_y, e_y, f_y, g_y, rfl, rfl, B_x.out, B_y.out, R_x.out, R_y.out, BW0.out⟩
    case rest =>
      obtain ⟨A_x, n_x, c_x, D_x, e_x, f_x, g_x, A_y, n_y, c_y, D_y, e_y, f_y, g_y, rfl, rfl, yx, yy, xx, xy, bw⟩ := hcut
      have hb : Below _ _ _ := bw
      replace HT := Lib.hid (HT.out.below hb)
      replace H_a := Lib.hid (H_a.out.below hb)
      replace K_a := Lib.hid (K_a.out.below hb)
      replace H_b := Lib.hid (H_b.out.below hb)
      replace K_b := Lib.hid (K_b.out.below hb)
      replace R_a := Lib.hid (R_a.out.below hb)
      replace R_b := Lib.hid (R_b.out.below hb)
      replace B_a := Lib.hid (B_a.out.below hb)
      replace B_b := Lib.hid (B_b.out.below hb)
      replace hB := below_next hB hb
      have B_x := Lib.hid yx
      have B_y := Lib.hid yy
      have R_x := Lib.hid xx
      have R_y := Lib.hid xy
      clear yx yy xx xy bw hb H_a K_a H_b K_b
      by_cases hq : q_b = 0
      · skip
        have c_a0 := B_a.out.cell0
        have c_a1 := B_a.out.cell1
        have c_a2 := B_a.out.cell2
        have c_b0 := B_b.out.cell0
        have c_b1 := B_b.out.cell1
        have c_b2 := B_b.out.cell2
        have c_x0 := B_x.out.cell0
        have c_x1 := B_x.out.cell1
        have c_x2 := B_x.out.cell2
        have c_y0 := B_y.out.cell0
        have c_y1 := B_y.out.cell1
        have c_y2 := B_y.out.cell2
        go_wp2_with fail
        clear c_a0 c_a1 c_a2 c_b0 c_b1 c_b2 c_x0 c_x1 c_x2 c_y0 c_y1 c_y2
        refine (qdiv_zero _ _ _ _ 10 _ _ _ _ 10 _ (by exact R_a.out) (by exact R_b.out) (by omega) (by omega) hq).mono ?_
        rintro e w39 ⟨rfl, hb⟩
        replace HT := Lib.hid (HT.out.below hb)
        replace R_a := Lib.hid (R_a.out.below hb)
        replace R_b := Lib.hid (R_b.out.below hb)
        replace R_x := Lib.hid (R_x.out.below hb)
        replace R_y := Lib.hid (R_y.out.below hb)
        replace B_a := Lib.hid (B_a.out.below hb)
        replace B_b := Lib.hid (B_b.out.below hb)
        replace B_x := Lib.hid (B_x.out.below hb)
        replace B_y := Lib.hid (B_y.out.below hb)
        replace hB := below_next hB hb
        clear hb
        have c_a0 := B_a.out.cell0
        have c_a1 := B_a.out.cell1
        have c_a2 := B_a.out.cell2
        have c_b0 := B_b.out.cell0
        have c_b1 := B_b.out.cell1
        have c_b2 := B_b.out.cell2
        have c_x0 := B_x.out.cell0
        have c_x1 := B_x.out.cell1
        have c_x2 := B_x.out.cell2
        have c_y0 := B_y.out.cell0
        have c_y1 := B_y.out.cell1
        have c_y2 := B_y.out.cell2
        go_upto_region 5 with fail
        clear c_a0 c_a1 c_a2 c_b0 c_b1 c_b2 c_x0 c_x1 c_x2 c_y0 c_y1 c_y2
        obtain ⟨W40, g_p, hV, hg, NB, hb⟩ := newR w39 (.bool false) (.slice none 0 0) (.slice none 0 0)
        rw [hV, hg]
        clear hV
        have l_p_a : w.heap.size < g_p := hg ▸ B_a.out.lt
        have l_p_b : w.heap.size + 1 < g_p := hg ▸ B_b.out.lt
        have l_p_x : g_x < g_p := hg ▸ B_x.out.lt
        have l_p_y : g_y < g_p := hg ▸ B_y.out.lt
        replace HT := Lib.hid (HT.out.below hb)
        replace R_a := Lib.hid (R_a.out.below hb)
        replace R_b := Lib.hid (R_b.out.below hb)
        replace R_x := Lib.hid (R_x.out.below hb)
        replace R_y := Lib.hid (R_y.out.below hb)
        replace B_a := Lib.hid (B_a.out.below hb)
        replace B_b := Lib.hid (B_b.out.below hb)
        replace B_x := Lib.hid (B_x.out.below hb)
        replace B_y := Lib.hid (B_y.out.below hb)
        replace hB := below_next hB hb
        have B_p := NB
        clear NB hb hg
        have c_a0 := B_a.out.cell0
        have c_a1 := B_a.out.cell1
        have c_a2 := B_a.out.cell2
        have c_b0 := B_b.out.cell0
        have c_b1 := B_b.out.cell1
        have c_b2 := B_b.out.cell2
        have c_x0 := B_x.out.cell0
        have c_x1 := B_x.out.cell1
        have c_x2 := B_x.out.cell2
        have c_y0 := B_y.out.cell0
        have c_y1 := B_y.out.cell1
        have c_y2 := B_y.out.cell2
        have c_p0 := B_p.out.cell0
        have c_p1 := B_p.out.cell1
        have c_p2 := B_p.out.cell2
        go_wp2_with fail
        clear c_a0 c_a1 c_a2 c_b0 c_b1 c_b2 c_x0 c_x1 c_x2 c_y0 c_y1 c_y2 c_p0 c_p1 c_p2
        refine (qdiv_zero _ _ _ _ 110 _ _ _ _ 110 _ (by exact R_x.out) (by exact R_y.out) (by omega) (by omega) hq).mono ?_
        rintro e w41 ⟨rfl, hb⟩
        replace HT := Lib.hid (HT.out.below hb)
        replace R_a := Lib.hid (R_a.out.below hb)
        replace R_b := Lib.hid (R_b.out.below hb)
        replace R_x := Lib.hid (R_x.out.below hb)
        replace R_y := Lib.hid (R_y.out.below hb)
        replace B_a := Lib.hid (B_a.out.below hb)
        replace B_b := Lib.hid (B_b.out.below hb)
        replace B_x := Lib.hid (B_x.out.below hb)
        replace B_y := Lib.hid (B_y.out.below hb)
        replace B_p := Lib.hid (B_p.out.below hb)
        replace hB := below_next hB hb
        clear hb
        have c_a0 := B_a.out.cell0
        have c_a1 := B_a.out.cell1
        have c_a2 := B_a.out.cell2
        have c_b0 := B_b.out.cell0
        have c_b1 := B_b.out.cell1
        have c_b2 := B_b.out.cell2
        have c_x0 := B_x.out.cell0
        have c_x1 := B_x.out.cell1
        have c_x2 := B_x.out.cell2
        have c_y0 := B_y.out.cell0
        have c_y1 := B_y.out.cell1
        have c_y2 := B_y.out.cell2
        have c_p0 := B_p.out.cell0
        have c_p1 := B_p.out.cell1
        have c_p2 := B_p.out.cell2
        go_wp2
        clear c_a0 c_a1 c_a2 c_b0 c_b1 c_b2 c_x0 c_x1 c_x2 c_y0 c_y1 c_y2 c_p0 c_p1 c_p2
        obtain ⟨W42, g_q, hV, hg, NB, hb⟩ := newR w41 (.bool false) (.slice none 0 0) (.slice none 0 0)
        rw [hV, hg]
        clear hV
        have l_q_a : w.heap.size < g_q := hg ▸ B_a.out.lt
        have l_q_b : w.heap.size + 1 < g_q := hg ▸ B_b.out.lt
        have l_q_x : g_x < g_q := hg ▸ B_x.out.lt
        have l_q_y : g_y < g_q := hg ▸ B_y.out.lt
        have l_q_p : g_p < g_q := hg ▸ B_p.out.lt
        replace HT := Lib.hid (HT.out.below hb)
        replace R_a := Lib.hid (R_a.out.below hb)
        replace R_b := Lib.hid (R_b.out.below hb)
        replace R_x := Lib.hid (R_x.out.below hb)
        replace R_y := Lib.hid (R_y.out.below hb)
        replace B_a := Lib.hid (B_a.out.below hb)
        replace B_b := Lib.hid (B_b.out.below hb)
        replace B_x := Lib.hid (B_x.out.below hb)
        replace B_y := Lib.hid (B_y.out.below hb)
        replace B_p := Lib.hid (B_p.out.below hb)
        replace hB := below_next hB hb
        have B_q := NB
        clear NB hb hg
        refine wp_region_named (S := (fun w' => (w'.cell? ⟨g_p, 0, none⟩ = some (.bool false) ∧ w'.cell? ⟨g_p, 1, none⟩ = some (.slice none 0 0) ∧ w'.cell? ⟨g_p, 2, none⟩ = some (.slice none 0 0)) ∧ (w'.cell? ⟨g_q, 0, none⟩ = some (.bool false) ∧ w'.cell? ⟨g_q, 1, none⟩ = some (.slice none 0 0) ∧ w'.cell? ⟨g_q, 2, none⟩ = some (.slice none 0 0)) ∧ (w'.cell? ⟨w.heap.size, 0, none⟩ = some (.bool b_a) ∧ w'.cell? ⟨w.heap.size, 1, none⟩ = some m_a ∧ w'.cell? ⟨w.heap.size, 2, none⟩ = some d_a) ∧ (w'.cell? ⟨w.heap.size + 1, 0, none⟩ = some (.bool b_b) ∧ w'.cell? ⟨w.heap.size + 1, 1, none⟩ = some m_b ∧ w'.cell? ⟨w.heap.size + 1, 2, none⟩ = some d_b) ∧ (w'.cell? ⟨g_x, 0, none⟩ = some (.bool b_a) ∧ w'.cell? ⟨g_x, 1, none⟩ = some (.slice A_x n_x c_x) ∧ w'.cell? ⟨g_x, 2, none⟩ = some (.slice D_x e_x f_x)) ∧ (w'.cell? ⟨g_y, 0, none⟩ = some (.bool b_b) ∧ w'.cell? ⟨g_y, 1, none⟩ = some (.slice A_y n_y c_y) ∧ w'.cell? ⟨g_y, 2, none⟩ = some (.slice D_y e_y f_y)))) (by kernel_rfl) (by exact ⟨B_p.out.c3, B_q.out.c3, B_a.out.c3, B_b.out.c3, B_x.out.c3, B_y.out.c3⟩) (fun V43 hb hHeld => ?_)
        replace HT := Lib.hid (HT.out.below hb)
        replace R_a := Lib.hid (R_a.out.below hb)
        replace R_b := Lib.hid (R_b.out.below hb)
        replace R_x := Lib.hid (R_x.out.below hb)
        replace R_y := Lib.hid (R_y.out.below hb)
        replace B_a := Lib.hid (B_a.out.below hb)
        replace B_b := Lib.hid (B_b.out.below hb)
        replace B_x := Lib.hid (B_x.out.below hb)
        replace B_y := Lib.hid (B_y.out.below hb)
        replace B_p := Lib.hid (B_p.out.below hb)
        replace B_q := Lib.hid (B_q.out.below hb)
        replace hB := below_next hB hb
        clear hb
        refine wpAnyH_takeQ 0 (v := ?_) (fun _ _ _ _ _ h => h) (by simp only [List.getElem?_toArray, List.getElem?_cons_zero]; rfl) (by kernel_rfl) (by kernel_rfl) (by kernel_rfl) (by rfl) ?_ hHeld ?_; rotate_left; · (intro w hSw; (try dsimp only at hSw); go_simp; (try with_reducible rfl))
        try simp only [Act.put, List.setIfInBounds_toArray, List.set_cons_zero, List.set_cons_succ]
        refine wpAnyH_takeQ 1 (v := ?_) (fun _ _ _ _ _ h => h) (by simp only [List.getElem?_toArray, List.getElem?_cons_succ, List.getElem?_cons_zero]; rfl) (by kernel_rfl) (by kernel_rfl) (by kernel_rfl) (by rfl) ?_ hHeld ?_; rotate_left; · (intro w hSw; (try dsimp only at hSw); go_simp; (try with_reducible rfl))
        try simp only [Act.put, List.setIfInBounds_toArray, List.set_cons_zero, List.set_cons_succ]
        refine wpAnyH_takeQ 2 (v := ?_) (fun _ _ _ _ _ h => h) (by simp only [List.getElem?_toArray, List.getElem?_cons_succ, List.getElem?_cons_zero]; rfl) (by kernel_rfl) (by kernel_rfl) (by kernel_rfl) (by rfl) ?_ hHeld ?_; rotate_left; · (intro w hSw; (try dsimp only at hSw); go_simp; (try with_reducible rfl))
        try simp only [Act.put, List.setIfInBounds_toArray, List.set_cons_zero, List.set_cons_succ]
        refine wpAnyH_takeQ 3 (v := ?_) (fun _ _ _ _ _ h => h) (by simp only [List.getElem?_toArray, List.getElem?_cons_succ, List.getElem?_cons_zero]; rfl) (by kernel_rfl) (by kernel_rfl) (by kernel_rfl) (by rfl) ?_ hHeld ?_; rotate_left; · (intro w hSw; (try dsimp only at hSw); go_simp; (try with_reducible rfl))
        try simp only [Act.put, List.setIfInBounds_toArray, List.set_cons_zero, List.set_cons_succ]
        refine wpAnyH_takeQ 4 (v := ?_) (fun _ _ _ _ _ h => h) (by simp only [List.getElem?_toArray, List.getElem?_cons_succ, List.getElem?_cons_zero]; rfl) (by kernel_rfl) (by kernel_rfl) (by kernel_rfl) (by rfl) ?_ hHeld ?_; rotate_left; · (intro w hSw; (try dsimp only at hSw); go_simp; (try with_reducible rfl))
        try simp only [Act.put, List.setIfInBounds_toArray, List.set_cons_zero, List.set_cons_succ]
        refine wpAnyH_takeQ 5 (v := ?_) (fun _ _ _ _ _ h => h) (by simp only [List.getElem?_toArray, List.getElem?_cons_succ, List.getElem?_cons_zero]; rfl) (by kernel_rfl) (by kernel_rfl) (by kernel_rfl) (by rfl) ?_ hHeld ?_; rotate_left; · (intro w hSw; (try dsimp only at hSw); go_simp; (try with_reducible rfl))
        try simp only [Act.put, List.setIfInBounds_toArray, List.set_cons_zero, List.set_cons_succ]
        refine wpAnyH_ready (rs := [6]) (by kernel_rfl) (by simp) ?_
        refine AllReadyH.cons (by simp only [List.getElem?_toArray, List.getElem?_cons_succ, List.getElem?_cons_zero]; rfl) (fun K hK => ?_) AllReadyH.nil
        go_simp
        clear hHeld
        refine (rsame (zat_nil _) (zat_nil _) (NatAt.nil _) (NatAt.nil _)).mono ?_
        rintro e w44 ⟨rfl, hb⟩
        replace HT := Lib.hid (HT.out.below hb)
        replace R_a := Lib.hid (R_a.out.below hb)
        replace R_b := Lib.hid (R_b.out.below hb)
        replace R_x := Lib.hid (R_x.out.below hb)
        replace R_y := Lib.hid (R_y.out.below hb)
        replace B_a := Lib.hid (B_a.out.below hb)
        replace B_b := Lib.hid (B_b.out.below hb)
        replace B_x := Lib.hid (B_x.out.below hb)
        replace B_y := Lib.hid (B_y.out.below hb)
        replace B_p := Lib.hid (B_p.out.below hb)
        replace B_q := Lib.hid (B_q.out.below hb)
        replace hB := below_next hB hb
        clear hb
        go_wp2_with fail
        refine hK.out _ _ (by exact ⟨B_p.out.c3, B_q.out.c3, B_a.out.c3, B_b.out.c3, B_x.out.c3, B_y.out.c3⟩) (fun hHeld => ?_)
        clear hK K
        try simp only [Act.put, List.setIfInBounds_toArray, List.set_cons_zero, List.set_cons_succ]
        refine wpAnyH_takeQ 7 (v := ?_) (fun _ _ _ _ _ h => h) (by simp only [List.getElem?_toArray, List.getElem?_cons_succ, List.getElem?_cons_zero]; rfl) (by kernel_rfl) (by kernel_rfl) (by kernel_rfl) (by rfl) ?_ hHeld ?_; rotate_left; · (intro w hSw; (try dsimp only at hSw); go_simp; (try with_reducible rfl))
        try simp only [Act.put, List.setIfInBounds_toArray, List.set_cons_zero, List.set_cons_succ]
        refine wpAnyH_takeQ 8 (v := ?_) (fun _ _ _ _ _ h => h) (by simp only [List.getElem?_toArray, List.getElem?_cons_succ, List.getElem?_cons_zero]; rfl) (by kernel_rfl) (by kernel_rfl) (by kernel_rfl) (by rfl) ?_ hHeld ?_; rotate_left; · (intro w hSw; (try dsimp only at hSw); go_simp; (try with_reducible rfl))
        try simp only [Act.put, List.setIfInBounds_toArray, List.set_cons_zero, List.set_cons_succ]
        refine wpAnyH_takeQ 9 (v := ?_) (fun _ _ _ _ _ h => h) (by simp only [List.getElem?_toArray, List.getElem?_cons_succ, List.getElem?_cons_zero]; rfl) (by kernel_rfl) (by kernel_rfl) (by kernel_rfl) (by rfl) ?_ hHeld ?_; rotate_left; · (intro w hSw; (try dsimp only at hSw); go_simp; (try with_reducible rfl))
        try simp only [Act.put, List.setIfInBounds_toArray, List.set_cons_zero, List.set_cons_succ]
        refine wpAnyH_takeQ 10 (v := ?_) (fun _ _ _ _ _ h => h) (by simp only [List.getElem?_toArray, List.getElem?_cons_succ, List.getElem?_cons_zero]; rfl) (by kernel_rfl) (by kernel_rfl) (by kernel_rfl) (by rfl) ?_ hHeld ?_; rotate_left; · (intro w hSw; (try dsimp only at hSw); go_simp; (try with_reducible rfl))
        try simp only [Act.put, List.setIfInBounds_toArray, List.set_cons_zero, List.set_cons_succ]
        refine wpAnyH_takeQ 11 (v := ?_) (fun _ _ _ _ _ h => h) (by simp only [List.getElem?_toArray, List.getElem?_cons_succ, List.getElem?_cons_zero]; rfl) (by kernel_rfl) (by kernel_rfl) (by kernel_rfl) (by rfl) ?_ hHeld ?_; rotate_left; · (intro w hSw; (try dsimp only at hSw); go_simp; (try with_reducible rfl))
        try simp only [Act.put, List.setIfInBounds_toArray, List.set_cons_zero, List.set_cons_succ]
        refine wpAnyH_ready (rs := [12]) (by kernel_rfl) (by simp) ?_
        refine AllReadyH.cons (by simp only [List.getElem?_toArray, List.getElem?_cons_succ, List.getElem?_cons_zero]; rfl) (fun K hK => ?_) AllReadyH.nil
        go_simp
        clear hHeld
        refine (qcmp_is (k := 10) (j := 110) (v := 0) (by exact R_a.out) (by exact R_x.out) (by omega) (by omega) (by omega) (by omega) (by exact qord_self _)).mono ?_
        rintro e w45 ⟨rfl, hb⟩
        replace HT := Lib.hid (HT.out.below hb)
        replace R_a := Lib.hid (R_a.out.below hb)
        replace R_b := Lib.hid (R_b.out.below hb)
        replace R_x := Lib.hid (R_x.out.below hb)
        replace R_y := Lib.hid (R_y.out.below hb)
        replace B_a := Lib.hid (B_a.out.below hb)
        replace B_b := Lib.hid (B_b.out.below hb)
        replace B_x := Lib.hid (B_x.out.below hb)
        replace B_y := Lib.hid (B_y.out.below hb)
        replace B_p := Lib.hid (B_p.out.below hb)
        replace B_q := Lib.hid (B_q.out.below hb)
        replace hB := below_next hB hb
        clear hb
        go_wp2_with fail
        refine hK.out _ _ (by exact ⟨B_p.out.c3, B_q.out.c3, B_a.out.c3, B_b.out.c3, B_x.out.c3, B_y.out.c3⟩) (fun hHeld => ?_)
        clear hK K
        try simp only [Act.put, List.setIfInBounds_toArray, List.set_cons_zero, List.set_cons_succ]
        refine wpAnyH_takeQ 13 (v := ?_) (fun _ _ _ _ _ h => h) (by simp only [List.getElem?_toArray, List.getElem?_cons_succ, List.getElem?_cons_zero]; rfl) (by kernel_rfl) (by kernel_rfl) (by kernel_rfl) (by rfl) ?_ hHeld ?_; rotate_left; · (intro w hSw; (try dsimp only at hSw); go_simp; (try with_reducible rfl))
        try simp only [Act.put, List.setIfInBounds_toArray, List.set_cons_zero, List.set_cons_succ]
        refine wpAnyH_takeQ 14 (v := ?_) (fun _ _ _ _ _ h => h) (by simp only [List.getElem?_toArray, List.getElem?_cons_succ, List.getElem?_cons_zero]; rfl) (by kernel_rfl) (by kernel_rfl) (by kernel_rfl) (by rfl) ?_ hHeld ?_; rotate_left; · (intro w hSw; (try dsimp only at hSw); go_simp; (try with_reducible rfl))
        try simp only [Act.put, List.setIfInBounds_toArray, List.set_cons_zero, List.set_cons_succ]
        refine wpAnyH_takeQ 15 (v := ?_) (fun _ _ _ _ _ h => h) (by simp only [List.getElem?_toArray, List.getElem?_cons_succ, List.getElem?_cons_zero]; rfl) (by kernel_rfl) (by kernel_rfl) (by kernel_rfl) (by rfl) ?_ hHeld ?_; rotate_left; · (intro w hSw; (try dsimp only at hSw); go_simp; (try with_reducible rfl))
        try simp only [Act.put, List.setIfInBounds_toArray, List.set_cons_zero, List.set_cons_succ]
        refine wpAnyH_takeQ 16 (v := ?_) (fun _ _ _ _ _ h => h) (by simp only [List.getElem?_toArray, List.getElem?_cons_succ, List.getElem?_cons_zero]; rfl) (by kernel_rfl) (by kernel_rfl) (by kernel_rfl) (by rfl) ?_ hHeld ?_; rotate_left; · (intro w hSw; (try dsimp only at hSw); go_simp; (try with_reducible rfl))
        try simp only [Act.put, List.setIfInBounds_toArray, List.set_cons_zero, List.set_cons_succ]
        refine wpAnyH_takeQ 17 (v := ?_) (fun _ _ _ _ _ h => h) (by simp only [List.getElem?_toArray, List.getElem?_cons_succ, List.getElem?_cons_zero]; rfl) (by kernel_rfl) (by kernel_rfl) (by kernel_rfl) (by rfl) ?_ hHeld ?_; rotate_left; · (intro w hSw; (try dsimp only at hSw); go_simp; (try with_reducible rfl))
        try simp only [Act.put, List.setIfInBounds_toArray, List.set_cons_zero, List.set_cons_succ]
        refine wpAnyH_takeQ 19 (v := ?_) (fun _ _ _ _ _ h => h) (by simp only [List.getElem?_toArray, List.getElem?_cons_succ, List.getElem?_cons_zero]; rfl) (by kernel_rfl) (by kernel_rfl) (by kernel_rfl) (by rfl) ?_ hHeld ?_; rotate_left; · (intro w hSw; (try dsimp only at hSw); go_simp; (try with_reducible rfl))
        try simp only [Act.put, List.setIfInBounds_toArray, List.set_cons_zero, List.set_cons_succ]
        refine wpAnyH_takeQ 20 (v := ?_) (fun _ _ _ _ _ h => h) (by simp only [List.getElem?_toArray, List.getElem?_cons_succ, List.getElem?_cons_zero]; rfl) (by kernel_rfl) (by kernel_rfl) (by kernel_rfl) (by rfl) ?_ hHeld ?_; rotate_left; · (intro w hSw; (try dsimp only at hSw); go_simp; (try with_reducible rfl))
        try simp only [Act.put, List.setIfInBounds_toArray, List.set_cons_zero, List.set_cons_succ]
        refine wpAnyH_ready (rs := [18]) (by kernel_rfl) (by simp) ?_
        refine AllReadyH.cons (by simp only [List.getElem?_toArray, List.getElem?_cons_succ, List.getElem?_cons_zero]; rfl) (fun K hK => ?_) AllReadyH.nil
        go_simp
        clear hHeld
        refine (qcmp_any _ _ _ _ 10 _ _ _ _ 10 _ (by exact R_a.out) (by exact R_b.out) (by omega) (by omega) (by omega) (by omega)).mono ?_
        rintro e w46 ⟨rfl, hb⟩
        replace HT := Lib.hid (HT.out.below hb)
        replace R_a := Lib.hid (R_a.out.below hb)
        replace R_b := Lib.hid (R_b.out.below hb)
        replace R_x := Lib.hid (R_x.out.below hb)
        replace R_y := Lib.hid (R_y.out.below hb)
        replace B_a := Lib.hid (B_a.out.below hb)
        replace B_b := Lib.hid (B_b.out.below hb)
        replace B_x := Lib.hid (B_x.out.below hb)
        replace B_y := Lib.hid (B_y.out.below hb)
        replace B_p := Lib.hid (B_p.out.below hb)
        replace B_q := Lib.hid (B_q.out.below hb)
        replace hB := below_next hB hb
        clear hb
        go_wp2_with fail
        refine hK.out _ _ (by exact ⟨B_p.out.c3, B_q.out.c3, B_a.out.c3, B_b.out.c3, B_x.out.c3, B_y.out.c3⟩) (fun hHeld => ?_)
        clear hK K
        try simp only [Act.put, List.setIfInBounds_toArray, List.set_cons_zero, List.set_cons_succ]
        refine wpAnyH_ready (rs := [21]) (by kernel_rfl) (by simp) ?_
        refine AllReadyH.cons (by simp only [List.getElem?_toArray, List.getElem?_cons_succ, List.getElem?_cons_zero]; rfl) (fun K hK => ?_) AllReadyH.nil
        go_simp
        clear hHeld
        refine (qcmp_any _ _ _ _ 110 _ _ _ _ 110 _ (by exact R_x.out) (by exact R_y.out) (by omega) (by omega) (by omega) (by omega)).mono ?_
        rintro e w47 ⟨rfl, hb⟩
        replace HT := Lib.hid (HT.out.below hb)
        replace R_a := Lib.hid (R_a.out.below hb)
        replace R_b := Lib.hid (R_b.out.below hb)
        replace R_x := Lib.hid (R_x.out.below hb)
        replace R_y := Lib.hid (R_y.out.below hb)
        replace B_a := Lib.hid (B_a.out.below hb)
        replace B_b := Lib.hid (B_b.out.below hb)
        replace B_x := Lib.hid (B_x.out.below hb)
        replace B_y := Lib.hid (B_y.out.below hb)
        replace B_p := Lib.hid (B_p.out.below hb)
        replace B_q := Lib.hid (B_q.out.below hb)
        replace hB := below_next hB hb
        clear hb
        go_wp2_with fail
        refine hK.out _ _ (by exact ⟨B_p.out.c3, B_q.out.c3, B_a.out.c3, B_b.out.c3, B_x.out.c3, B_y.out.c3⟩) (fun hHeld => ?_)
        clear hK K
        try simp only [Act.put, List.setIfInBounds_toArray, List.set_cons_zero, List.set_cons_succ]
        refine wpAnyH_takeQ 22 (v := ?_) (fun _ _ _ _ _ h => h) (by simp only [List.getElem?_toArray, List.getElem?_cons_succ, List.getElem?_cons_zero]; rfl) (by kernel_rfl) (by kernel_rfl) (by kernel_rfl) (by rfl) ?_ hHeld ?_; rotate_left; · (intro w hSw; (try dsimp only at hSw); go_simp; (try with_reducible rfl))
        try simp only [Act.put, List.setIfInBounds_toArray, List.set_cons_zero, List.set_cons_succ]
        refine wpAnyH_takeQ 23 (v := ?_) (fun _ _ _ _ _ h => h) (by simp only [List.getElem?_toArray, List.getElem?_cons_succ, List.getElem?_cons_zero]; rfl) (by kernel_rfl) (by kernel_rfl) (by kernel_rfl) (by rfl) ?_ hHeld ?_; rotate_left; · (intro w hSw; (try dsimp only at hSw); go_simp; (try with_reducible rfl))
        try simp only [Act.put, List.setIfInBounds_toArray, List.set_cons_zero, List.set_cons_succ]
        refine wpAnyH_takeQ 24 (v := ?_) (fun _ _ _ _ _ h => h) (by simp only [List.getElem?_toArray, List.getElem?_cons_succ, List.getElem?_cons_zero]; rfl) (by kernel_rfl) (by kernel_rfl) (by kernel_rfl) (by rfl) ?_ hHeld ?_; rotate_left; · (intro w hSw; (try dsimp only at hSw); go_simp; (try with_reducible rfl))
        try simp only [Act.put, List.setIfInBounds_toArray, List.set_cons_zero, List.set_cons_succ]
        refine wpAnyH_takeQ 25 (v := ?_) (fun _ _ _ _ _ h => h) (by simp only [List.getElem?_toArray, List.getElem?_cons_succ, List.getElem?_cons_zero]; rfl) (by kernel_rfl) (by kernel_rfl) (by kernel_rfl) (by rfl) ?_ hHeld ?_; rotate_left; · (intro w hSw; (try dsimp only at hSw); go_simp; (try with_reducible rfl))
        try simp only [Act.put, List.setIfInBounds_toArray, List.set_cons_zero, List.set_cons_succ]
        refine wpAnyH_takeQ 27 (v := ?_) (fun _ _ _ _ _ h => h) (by simp only [List.getElem?_toArray, List.getElem?_cons_succ, List.getElem?_cons_zero]; rfl) (by kernel_rfl) (by kernel_rfl) (by kernel_rfl) (by rfl) ?_ hHeld ?_; rotate_left; · (intro w hSw; (try dsimp only at hSw); go_simp; (try with_reducible rfl))
        try simp only [Act.put, List.setIfInBounds_toArray, List.set_cons_zero, List.set_cons_succ]
        refine wpAnyH_ready (rs := [26]) (by kernel_rfl) (by simp) ?_
        refine AllReadyH.cons (by simp only [List.getElem?_toArray, List.getElem?_cons_succ, List.getElem?_cons_zero]; rfl) (fun K hK => ?_) AllReadyH.nil
        go_simp
        clear hHeld
        refine (qtext_any _ _ _ _ 10 _ (by exact R_a.out) (by omega) (by omega) (by exact HT.out)).mono ?_
        rintro e w48 ⟨rfl, hb⟩
        replace HT := Lib.hid (HT.out.below hb)
        replace R_a := Lib.hid (R_a.out.below hb)
        replace R_b := Lib.hid (R_b.out.below hb)
        replace R_x := Lib.hid (R_x.out.below hb)
        replace R_y := Lib.hid (R_y.out.below hb)
        replace B_a := Lib.hid (B_a.out.below hb)
        replace B_b := Lib.hid (B_b.out.below hb)
        replace B_x := Lib.hid (B_x.out.below hb)
        replace B_y := Lib.hid (B_y.out.below hb)
        replace B_p := Lib.hid (B_p.out.below hb)
        replace B_q := Lib.hid (B_q.out.below hb)
        replace hB := below_next hB hb
        clear hb
        go_wp2_with fail
        refine hK.out _ _ (by exact ⟨B_p.out.c3, B_q.out.c3, B_a.out.c3, B_b.out.c3, B_x.out.c3, B_y.out.c3⟩) (fun hHeld => ?_)
        clear hK K
        try simp only [Act.put, List.setIfInBounds_toArray, List.set_cons_zero, List.set_cons_succ]
        refine wpAnyH_ready (rs := [28]) (by kernel_rfl) (by simp) ?_
        refine AllReadyH.cons (by simp only [List.getElem?_toArray, List.getElem?_cons_succ, List.getElem?_cons_zero]; rfl) (fun K hK => ?_) AllReadyH.nil
        go_simp
        clear hHeld
        refine (qtext_any _ _ _ _ 110 _ (by exact R_x.out) (by omega) (by omega) (by exact HT.out)).mono ?_
        rintro e w49 ⟨rfl, hb⟩
        replace HT := Lib.hid (HT.out.below hb)
        replace R_a := Lib.hid (R_a.out.below hb)
        replace R_b := Lib.hid (R_b.out.below hb)
        replace R_x := Lib.hid (R_x.out.below hb)
        replace R_y := Lib.hid (R_y.out.below hb)
        replace B_a := Lib.hid (B_a.out.below hb)
        replace B_b := Lib.hid (B_b.out.below hb)
        replace B_x := Lib.hid (B_x.out.below hb)
        replace B_y := Lib.hid (B_y.out.below hb)
        replace B_p := Lib.hid (B_p.out.below hb)
        replace B_q := Lib.hid (B_q.out.below hb)
        replace hB := below_next hB hb
        clear hb
        go_wp2_with fail
        refine hK.out _ _ (by exact ⟨B_p.out.c3, B_q.out.c3, B_a.out.c3, B_b.out.c3, B_x.out.c3, B_y.out.c3⟩) (fun hHeld => ?_)
        clear hK K
        try simp only [Act.put, List.setIfInBounds_toArray, List.set_cons_zero, List.set_cons_succ]
        refine wpAnyH_takeQ 29 (v := ?_) (fun _ _ _ _ _ h => h) (by simp only [List.getElem?_toArray, List.getElem?_cons_succ, List.getElem?_cons_zero]; rfl) (by kernel_rfl) (by kernel_rfl) (by kernel_rfl) (by rfl) ?_ hHeld ?_; rotate_left; · (intro w hSw; (try dsimp only at hSw); go_simp; (try with_reducible rfl))
        try simp only [Act.put, List.setIfInBounds_toArray, List.set_cons_zero, List.set_cons_succ]
        refine wpAnyH_takeQ 30 (v := ?_) (fun _ _ _ _ _ h => h) (by simp only [List.getElem?_toArray, List.getElem?_cons_succ, List.getElem?_cons_zero]; rfl) (by kernel_rfl) (by kernel_rfl) (by kernel_rfl) (by rfl) ?_ hHeld ?_; rotate_left; · (intro w hSw; (try dsimp only at hSw); go_simp; (try with_reducible rfl))
        try simp only [Act.put, List.setIfInBounds_toArray, List.set_cons_zero, List.set_cons_succ]
        refine wpAnyH_done (by kernel_rfl) (NoPanic.normal ?_) _
        clear hHeld
        have c_a0 := B_a.out.cell0
        have c_a1 := B_a.out.cell1
        have c_a2 := B_a.out.cell2
        have c_b0 := B_b.out.cell0
        have c_b1 := B_b.out.cell1
        have c_b2 := B_b.out.cell2
        have c_x0 := B_x.out.cell0
        have c_x1 := B_x.out.cell1
        have c_x2 := B_x.out.cell2
        have c_y0 := B_y.out.cell0
        have c_y1 := B_y.out.cell1
        have c_y2 := B_y.out.cell2
        have c_p0 := B_p.out.cell0
        have c_p1 := B_p.out.cell1
        have c_p2 := B_p.out.cell2
        have c_q0 := B_q.out.cell0
        have c_q1 := B_q.out.cell1
        have c_q2 := B_q.out.cell2
        go_wp2
        clear c_a0 c_a1 c_a2 c_b0 c_b1 c_b2 c_x0 c_x1 c_x2 c_y0 c_y1 c_y2 c_p0 c_p1 c_p2 c_q0 c_q1 c_q2
        refine wp_region_named (S := (fun w' => (w'.cell? ⟨w.heap.size, 0, none⟩ = some (.bool b_a) ∧ w'.cell? ⟨w.heap.size, 1, none⟩ = some m_a ∧ w'.cell? ⟨w.heap.size, 2, none⟩ = some d_a) ∧ (w'.cell? ⟨w.heap.size + 1, 0, none⟩ = some (.bool b_b) ∧ w'.cell? ⟨w.heap.size + 1, 1, none⟩ = some m_b ∧ w'.cell? ⟨w.heap.size + 1, 2, none⟩ = some d_b) ∧ (w'.cell? ⟨g_x, 0, none⟩ = some (.bool b_a) ∧ w'.cell? ⟨g_x, 1, none⟩ = some (.slice A_x n_x c_x) ∧ w'.cell? ⟨g_x, 2, none⟩ = some (.slice D_x e_x f_x)) ∧ (w'.cell? ⟨g_y, 0, none⟩ = some (.bool b_b) ∧ w'.cell? ⟨g_y, 1, none⟩ = some (.slice A_y n_y c_y) ∧ w'.cell? ⟨g_y, 2, none⟩ = some (.slice D_y e_y f_y)))) (by kernel_rfl) (by exact ⟨B_a.out.c3, B_b.out.c3, B_x.out.c3, B_y.out.c3⟩) (fun V50 hb hHeld => ?_)
        replace HT := Lib.hid (HT.out.below hb)
        replace R_a := Lib.hid (R_a.out.below hb)
        replace R_b := Lib.hid (R_b.out.below hb)
        replace R_x := Lib.hid (R_x.out.below hb)
        replace R_y := Lib.hid (R_y.out.below hb)
        replace B_a := Lib.hid (B_a.out.below hb)
        replace B_b := Lib.hid (B_b.out.below hb)
        replace B_x := Lib.hid (B_x.out.below hb)
        replace B_y := Lib.hid (B_y.out.below hb)
        replace B_p := Lib.hid (B_p.out.below hb)
        replace B_q := Lib.hid (B_q.out.below hb)
        replace hB := below_next hB hb
        clear hb
        refine wpAnyH_takeQ 0 (v := ?_) (fun _ _ _ _ _ h => h) (by simp only [List.getElem?_toArray, List.getElem?_cons_zero]; rfl) (by kernel_rfl) (by kernel_rfl) (by kernel_rfl) (by rfl) ?_ hHeld ?_; rotate_left; · (intro w hSw; (try dsimp only at hSw); go_simp; (try with_reducible rfl))
        try simp only [Act.put, List.setIfInBounds_toArray, List.set_cons_zero, List.set_cons_succ]
        refine wpAnyH_takeQ 2 (v := ?_) (fun _ _ _ _ _ h => h) (by simp only [List.getElem?_toArray, List.getElem?_cons_succ, List.getElem?_cons_zero]; rfl) (by kernel_rfl) (by kernel_rfl) (by kernel_rfl) (by rfl) ?_ hHeld ?_; rotate_left; · (intro w hSw; (try dsimp only at hSw); go_simp; (try with_reducible rfl))
        try simp only [Act.put, List.setIfInBounds_toArray, List.set_cons_zero, List.set_cons_succ]
        refine wpAnyH_ready (rs := [1]) (by kernel_rfl) (by simp) ?_
        refine AllReadyH.cons (by simp only [List.getElem?_toArray, List.getElem?_cons_succ, List.getElem?_cons_zero]; rfl) (fun K hK => ?_) AllReadyH.nil
        go_simp
        clear hHeld
        refine (qnorm_any _ _ _ _ 10 _ (by exact R_a.out) (by omega) (by omega)).mono ?_
        rintro e w51 ⟨b_u1, A_u1, n_u1, c_u1, D_u1, e_u1, f_u1, rfl, h_u1, hb⟩
        replace HT := Lib.hid (HT.out.below hb)
        replace R_a := Lib.hid (R_a.out.below hb)
        replace R_b := Lib.hid (R_b.out.below hb)
        replace R_x := Lib.hid (R_x.out.below hb)
        replace R_y := Lib.hid (R_y.out.below hb)
        replace B_a := Lib.hid (B_a.out.below hb)
        replace B_b := Lib.hid (B_b.out.below hb)
        replace B_x := Lib.hid (B_x.out.below hb)
        replace B_y := Lib.hid (B_y.out.below hb)
        replace B_p := Lib.hid (B_p.out.below hb)
        replace B_q := Lib.hid (B_q.out.below hb)
        replace hB := below_next hB hb
        clear hb
        have Q_u1 := Lib.hid h_u1
        clear h_u1
        go_wp2_with fail
        refine hK.out _ _ (by exact ⟨B_a.out.c3, B_b.out.c3, B_x.out.c3, B_y.out.c3⟩) (fun hHeld => ?_)
        clear hK K
        try simp only [Act.put, List.setIfInBounds_toArray, List.set_cons_zero, List.set_cons_succ]
        refine wpAnyH_ready (rs := [3]) (by kernel_rfl) (by simp) ?_
        refine AllReadyH.cons (by simp only [List.getElem?_toArray, List.getElem?_cons_succ, List.getElem?_cons_zero]; rfl) (fun K hK => ?_) AllReadyH.nil
        go_simp
        clear hHeld
        refine (qnorm_any _ _ _ _ 110 _ (by exact R_x.out) (by omega) (by omega)).mono ?_
        rintro e w52 ⟨b_u2, A_u2, n_u2, c_u2, D_u2, e_u2, f_u2, rfl, h_u2, hb⟩
        replace HT := Lib.hid (HT.out.below hb)
        replace R_a := Lib.hid (R_a.out.below hb)
        replace R_b := Lib.hid (R_b.out.below hb)
        replace R_x := Lib.hid (R_x.out.below hb)
        replace R_y := Lib.hid (R_y.out.below hb)
        replace Q_u1 := Lib.hid (Q_u1.out.below hb)
        replace B_a := Lib.hid (B_a.out.below hb)
        replace B_b := Lib.hid (B_b.out.below hb)
        replace B_x := Lib.hid (B_x.out.below hb)
        replace B_y := Lib.hid (B_y.out.below hb)
        replace B_p := Lib.hid (B_p.out.below hb)
        replace B_q := Lib.hid (B_q.out.below hb)
        replace hB := below_next hB hb
        clear hb
        have Q_u2 := Lib.hid h_u2
        clear h_u2
        go_wp2_with fail
        refine hK.out _ _ (by exact ⟨B_a.out.c3, B_b.out.c3, B_x.out.c3, B_y.out.c3⟩) (fun hHeld => ?_)
        clear hK K
        try simp only [Act.put, List.setIfInBounds_toArray, List.set_cons_zero, List.set_cons_succ]
        refine wpAnyH_ready (rs := [4]) (by kernel_rfl) (by simp) ?_
        refine AllReadyH.cons (by simp only [List.getElem?_toArray, List.getElem?_cons_succ, List.getElem?_cons_zero]; rfl) (fun K hK => ?_) AllReadyH.nil
        go_simp
        clear hHeld
        refine (rsame_q (by exact Q_u1.out) (by exact Q_u2.out) rfl).mono ?_
        rintro e w53 ⟨rfl, hb⟩
        replace HT := Lib.hid (HT.out.below hb)
        replace R_a := Lib.hid (R_a.out.below hb)
        replace R_b := Lib.hid (R_b.out.below hb)
        replace R_x := Lib.hid (R_x.out.below hb)
        replace R_y := Lib.hid (R_y.out.below hb)
        replace Q_u1 := Lib.hid (Q_u1.out.below hb)
        replace Q_u2 := Lib.hid (Q_u2.out.below hb)
        replace B_a := Lib.hid (B_a.out.below hb)
        replace B_b := Lib.hid (B_b.out.below hb)
        replace B_x := Lib.hid (B_x.out.below hb)
        replace B_y := Lib.hid (B_y.out.below hb)
        replace B_p := Lib.hid (B_p.out.below hb)
        replace B_q := Lib.hid (B_q.out.below hb)
        replace hB := below_next hB hb
        clear hb
        clear Q_u1
        clear Q_u2
        go_wp2_with fail
        refine hK.out _ _ (by exact ⟨B_a.out.c3, B_b.out.c3, B_x.out.c3, B_y.out.c3⟩) (fun hHeld => ?_)
        clear hK K
        try simp only [Act.put, List.setIfInBounds_toArray, List.set_cons_zero, List.set_cons_succ]
        refine wpAnyH_takeQ 5 (v := ?_) (fun _ _ _ _ _ h => h) (by simp only [List.getElem?_toArray, List.getElem?_cons_succ, List.getElem?_cons_zero]; rfl) (by kernel_rfl) (by kernel_rfl) (by kernel_rfl) (by rfl) ?_ hHeld ?_; rotate_left; · (intro w hSw; (try dsimp only at hSw); go_simp; (try with_reducible rfl))
        try simp only [Act.put, List.setIfInBounds_toArray, List.set_cons_zero, List.set_cons_succ]
        refine wpAnyH_takeQ 6 (v := ?_) (fun _ _ _ _ _ h => h) (by simp only [List.getElem?_toArray, List.getElem?_cons_succ, List.getElem?_cons_zero]; rfl) (by kernel_rfl) (by kernel_rfl) (by kernel_rfl) (by rfl) ?_ hHeld ?_; rotate_left; · (intro w hSw; (try dsimp only at hSw); go_simp; (try with_reducible rfl))
        try simp only [Act.put, List.setIfInBounds_toArray, List.set_cons_zero, List.set_cons_succ]
        refine wpAnyH_takeQ 7 (v := ?_) (fun _ _ _ _ _ h => h) (by simp only [List.getElem?_toArray, List.getElem?_cons_succ, List.getElem?_cons_zero]; rfl) (by kernel_rfl) (by kernel_rfl) (by kernel_rfl) (by rfl) ?_ hHeld ?_; rotate_left; · (intro w hSw; (try dsimp only at hSw); go_simp; (try with_reducible rfl))
        try simp only [Act.put, List.setIfInBounds_toArray, List.set_cons_zero, List.set_cons_succ]
        refine wpAnyH_takeQ 9 (v := ?_) (fun _ _ _ _ _ h => h) (by simp only [List.getElem?_toArray, List.getElem?_cons_succ, List.getElem?_cons_zero]; rfl) (by kernel_rfl) (by kernel_rfl) (by kernel_rfl) (by rfl) ?_ hHeld ?_; rotate_left; · (intro w hSw; (try dsimp only at hSw); go_simp; (try with_reducible rfl))
        try simp only [Act.put, List.setIfInBounds_toArray, List.set_cons_zero, List.set_cons_succ]
        refine wpAnyH_takeQ 10 (v := ?_) (fun _ _ _ _ _ h => h) (by simp only [List.getElem?_toArray, List.getElem?_cons_succ, List.getElem?_cons_zero]; rfl) (by kernel_rfl) (by kernel_rfl) (by kernel_rfl) (by rfl) ?_ hHeld ?_; rotate_left; · (intro w hSw; (try dsimp only at hSw); go_simp; (try with_reducible rfl))
        try simp only [Act.put, List.setIfInBounds_toArray, List.set_cons_zero, List.set_cons_succ]
        refine wpAnyH_ready (rs := [8]) (by kernel_rfl) (by simp) ?_
        refine AllReadyH.cons (by simp only [List.getElem?_toArray, List.getElem?_cons_succ, List.getElem?_cons_zero]; rfl) (fun K hK => ?_) AllReadyH.nil
        go_simp
        clear hHeld
        refine (qadd_any _ _ _ _ 10 _ _ _ _ 10 _ (by exact R_a.out) (by exact R_b.out) (by omega) (by omega) (by omega) (by omega)).mono ?_
        rintro e w54 ⟨b_u3, A_u3, n_u3, c_u3, D_u3, e_u3, f_u3, rfl, h_u3, hb⟩
        replace HT := Lib.hid (HT.out.below hb)
        replace R_a := Lib.hid (R_a.out.below hb)
        replace R_b := Lib.hid (R_b.out.below hb)
        replace R_x := Lib.hid (R_x.out.below hb)
        replace R_y := Lib.hid (R_y.out.below hb)
        replace B_a := Lib.hid (B_a.out.below hb)
        replace B_b := Lib.hid (B_b.out.below hb)
        replace B_x := Lib.hid (B_x.out.below hb)
        replace B_y := Lib.hid (B_y.out.below hb)
        replace B_p := Lib.hid (B_p.out.below hb)
        replace B_q := Lib.hid (B_q.out.below hb)
        replace hB := below_next hB hb
        clear hb
        have Q_u3 := Lib.hid h_u3
        clear h_u3
        go_wp2_with fail
        refine hK.out _ _ (by exact ⟨B_a.out.c3, B_b.out.c3, B_x.out.c3, B_y.out.c3⟩) (fun hHeld => ?_)
        clear hK K
        try simp only [Act.put, List.setIfInBounds_toArray, List.set_cons_zero, List.set_cons_succ]
        refine wpAnyH_ready (rs := [11]) (by kernel_rfl) (by simp) ?_
        refine AllReadyH.cons (by simp only [List.getElem?_toArray, List.getElem?_cons_succ, List.getElem?_cons_zero]; rfl) (fun K hK => ?_) AllReadyH.nil
        go_simp
        clear hHeld
        refine (qadd_any _ _ _ _ 110 _ _ _ _ 110 _ (by exact R_x.out) (by exact R_y.out) (by omega) (by omega) (by omega) (by omega)).mono ?_
        rintro e w55 ⟨b_u4, A_u4, n_u4, c_u4, D_u4, e_u4, f_u4, rfl, h_u4, hb⟩
        replace HT := Lib.hid (HT.out.below hb)
        replace R_a := Lib.hid (R_a.out.below hb)
        replace R_b := Lib.hid (R_b.out.below hb)
        replace R_x := Lib.hid (R_x.out.below hb)
        replace R_y := Lib.hid (R_y.out.below hb)
        replace Q_u3 := Lib.hid (Q_u3.out.below hb)
        replace B_a := Lib.hid (B_a.out.below hb)
        replace B_b := Lib.hid (B_b.out.below hb)
        replace B_x := Lib.hid (B_x.out.below hb)
        replace B_y := Lib.hid (B_y.out.below hb)
        replace B_p := Lib.hid (B_p.out.below hb)
        replace B_q := Lib.hid (B_q.out.below hb)
        replace hB := below_next hB hb
        clear hb
        have Q_u4 := Lib.hid h_u4
        clear h_u4
        go_wp2_with fail
        refine hK.out _ _ (by exact ⟨B_a.out.c3, B_b.out.c3, B_x.out.c3, B_y.out.c3⟩) (fun hHeld => ?_)
        clear hK K
        try simp only [Act.put, List.setIfInBounds_toArray, List.set_cons_zero, List.set_cons_succ]
        refine wpAnyH_ready (rs := [12]) (by kernel_rfl) (by simp) ?_
        refine AllReadyH.cons (by simp only [List.getElem?_toArray, List.getElem?_cons_succ, List.getElem?_cons_zero]; rfl) (fun K hK => ?_) AllReadyH.nil
        go_simp
        clear hHeld
        refine (rsame_q (by exact Q_u3.out) (by exact Q_u4.out) rfl).mono ?_
        rintro e w56 ⟨rfl, hb⟩
        replace HT := Lib.hid (HT.out.below hb)
        replace R_a := Lib.hid (R_a.out.below hb)
        replace R_b := Lib.hid (R_b.out.below hb)
        replace R_x := Lib.hid (R_x.out.below hb)
        replace R_y := Lib.hid (R_y.out.below hb)
        replace Q_u3 := Lib.hid (Q_u3.out.below hb)
        replace Q_u4 := Lib.hid (Q_u4.out.below hb)
        replace B_a := Lib.hid (B_a.out.below hb)
        replace B_b := Lib.hid (B_b.out.below hb)
        replace B_x := Lib.hid (B_x.out.below hb)
        replace B_y := Lib.hid (B_y.out.below hb)
        replace B_p := Lib.hid (B_p.out.below hb)
        replace B_q := Lib.hid (B_q.out.below hb)
        replace hB := below_next hB hb
        clear hb
        clear Q_u3
        clear Q_u4
        go_wp2_with fail
        refine hK.out _ _ (by exact ⟨B_a.out.c3, B_b.out.c3, B_x.out.c3, B_y.out.c3⟩) (fun hHeld => ?_)
        clear hK K
        try simp only [Act.put, List.setIfInBounds_toArray, List.set_cons_zero, List.set_cons_succ]
        refine wpAnyH_takeQ 13 (v := ?_) (fun _ _ _ _ _ h => h) (by simp only [List.getElem?_toArray, List.getElem?_cons_succ, List.getElem?_cons_zero]; rfl) (by kernel_rfl) (by kernel_rfl) (by kernel_rfl) (by rfl) ?_ hHeld ?_; rotate_left; · (intro w hSw; (try dsimp only at hSw); go_simp; (try with_reducible rfl))
        try simp only [Act.put, List.setIfInBounds_toArray, List.set_cons_zero, List.set_cons_succ]
        refine wpAnyH_takeQ 14 (v := ?_) (fun _ _ _ _ _ h => h) (by simp only [List.getElem?_toArray, List.getElem?_cons_succ, List.getElem?_cons_zero]; rfl) (by kernel_rfl) (by kernel_rfl) (by kernel_rfl) (by rfl) ?_ hHeld ?_; rotate_left; · (intro w hSw; (try dsimp only at hSw); go_simp; (try with_reducible rfl))
        try simp only [Act.put, List.setIfInBounds_toArray, List.set_cons_zero, List.set_cons_succ]
        refine wpAnyH_takeQ 15 (v := ?_) (fun _ _ _ _ _ h => h) (by simp only [List.getElem?_toArray, List.getElem?_cons_succ, List.getElem?_cons_zero]; rfl) (by kernel_rfl) (by kernel_rfl) (by kernel_rfl) (by rfl) ?_ hHeld ?_; rotate_left; · (intro w hSw; (try dsimp only at hSw); go_simp; (try with_reducible rfl))
        try simp only [Act.put, List.setIfInBounds_toArray, List.set_cons_zero, List.set_cons_succ]
        refine wpAnyH_takeQ 16 (v := ?_) (fun _ _ _ _ _ h => h) (by simp only [List.getElem?_toArray, List.getElem?_cons_succ, List.getElem?_cons_zero]; rfl) (by kernel_rfl) (by kernel_rfl) (by kernel_rfl) (by rfl) ?_ hHeld ?_; rotate_left; · (intro w hSw; (try dsimp only at hSw); go_simp; (try with_reducible rfl))
        try simp only [Act.put, List.setIfInBounds_toArray, List.set_cons_zero, List.set_cons_succ]
        refine wpAnyH_takeQ 18 (v := ?_) (fun _ _ _ _ _ h => h) (by simp only [List.getElem?_toArray, List.getElem?_cons_succ, List.getElem?_cons_zero]; rfl) (by kernel_rfl) (by kernel_rfl) (by kernel_rfl) (by rfl) ?_ hHeld ?_; rotate_left; · (intro w hSw; (try dsimp only at hSw); go_simp; (try with_reducible rfl))
        try simp only [Act.put, List.setIfInBounds_toArray, List.set_cons_zero, List.set_cons_succ]
        refine wpAnyH_takeQ 19 (v := ?_) (fun _ _ _ _ _ h => h) (by simp only [List.getElem?_toArray, List.getElem?_cons_succ, List.getElem?_cons_zero]; rfl) (by kernel_rfl) (by kernel_rfl) (by kernel_rfl) (by rfl) ?_ hHeld ?_; rotate_left; · (intro w hSw; (try dsimp only at hSw); go_simp; (try with_reducible rfl))
        try simp only [Act.put, List.setIfInBounds_toArray, List.set_cons_zero, List.set_cons_succ]
        refine wpAnyH_ready (rs := [17]) (by kernel_rfl) (by simp) ?_
        refine AllReadyH.cons (by simp only [List.getElem?_toArray, List.getElem?_cons_succ, List.getElem?_cons_zero]; rfl) (fun K hK => ?_) AllReadyH.nil
        go_simp
        clear hHeld
        refine (qmul_any _ _ _ _ 10 _ _ _ _ 10 _ (by exact R_a.out) (by exact R_b.out) (by omega) (by omega) (by omega) (by omega)).mono ?_
        rintro e w57 ⟨b_u5, A_u5, n_u5, c_u5, D_u5, e_u5, f_u5, rfl, h_u5, hb⟩
        replace HT := Lib.hid (HT.out.below hb)
        replace R_a := Lib.hid (R_a.out.below hb)
        replace R_b := Lib.hid (R_b.out.below hb)
        replace R_x := Lib.hid (R_x.out.below hb)
        replace R_y := Lib.hid (R_y.out.below hb)
        replace B_a := Lib.hid (B_a.out.below hb)
        replace B_b := Lib.hid (B_b.out.below hb)
        replace B_x := Lib.hid (B_x.out.below hb)
        replace B_y := Lib.hid (B_y.out.below hb)
        replace B_p := Lib.hid (B_p.out.below hb)
        replace B_q := Lib.hid (B_q.out.below hb)
        replace hB := below_next hB hb
        clear hb
        have Q_u5 := Lib.hid h_u5
        clear h_u5
        go_wp2_with fail
        refine hK.out _ _ (by exact ⟨B_a.out.c3, B_b.out.c3, B_x.out.c3, B_y.out.c3⟩) (fun hHeld => ?_)
        clear hK K
        try simp only [Act.put, List.setIfInBounds_toArray, List.set_cons_zero, List.set_cons_succ]
        refine wpAnyH_ready (rs := [20]) (by kernel_rfl) (by simp) ?_
        refine AllReadyH.cons (by simp only [List.getElem?_toArray, List.getElem?_cons_succ, List.getElem?_cons_zero]; rfl) (fun K hK => ?_) AllReadyH.nil
        go_simp
        clear hHeld
        refine (qmul_any _ _ _ _ 110 _ _ _ _ 110 _ (by exact R_x.out) (by exact R_y.out) (by omega) (by omega) (by omega) (by omega)).mono ?_
        rintro e w58 ⟨b_u6, A_u6, n_u6, c_u6, D_u6, e_u6, f_u6, rfl, h_u6, hb⟩
        replace HT := Lib.hid (HT.out.below hb)
        replace R_a := Lib.hid (R_a.out.below hb)
        replace R_b := Lib.hid (R_b.out.below hb)
        replace R_x := Lib.hid (R_x.out.below hb)
        replace R_y := Lib.hid (R_y.out.below hb)
        replace Q_u5 := Lib.hid (Q_u5.out.below hb)
        replace B_a := Lib.hid (B_a.out.below hb)
        replace B_b := Lib.hid (B_b.out.below hb)
        replace B_x := Lib.hid (B_x.out.below hb)
        replace B_y := Lib.hid (B_y.out.below hb)
        replace B_p := Lib.hid (B_p.out.below hb)
        replace B_q := Lib.hid (B_q.out.below hb)
        replace hB := below_next hB hb
        clear hb
        have Q_u6 := Lib.hid h_u6
        clear h_u6
        go_wp2_with fail
        refine hK.out _ _ (by exact ⟨B_a.out.c3, B_b.out.c3, B_x.out.c3, B_y.out.c3⟩) (fun hHeld => ?_)
        clear hK K
        try simp only [Act.put, List.setIfInBounds_toArray, List.set_cons_zero, List.set_cons_succ]
        refine wpAnyH_ready (rs := [21]) (by kernel_rfl) (by simp) ?_
        refine AllReadyH.cons (by simp only [List.getElem?_toArray, List.getElem?_cons_succ, List.getElem?_cons_zero]; rfl) (fun K hK => ?_) AllReadyH.nil
        go_simp
        clear hHeld
        refine (rsame_q (by exact Q_u5.out) (by exact Q_u6.out) rfl).mono ?_
        rintro e w59 ⟨rfl, hb⟩
        replace HT := Lib.hid (HT.out.below hb)
        replace R_a := Lib.hid (R_a.out.below hb)
        replace R_b := Lib.hid (R_b.out.below hb)
        replace R_x := Lib.hid (R_x.out.below hb)
        replace R_y := Lib.hid (R_y.out.below hb)
        replace Q_u5 := Lib.hid (Q_u5.out.below hb)
        replace Q_u6 := Lib.hid (Q_u6.out.below hb)
        replace B_a := Lib.hid (B_a.out.below hb)
        replace B_b := Lib.hid (B_b.out.below hb)
        replace B_x := Lib.hid (B_x.out.below hb)
        replace B_y := Lib.hid (B_y.out.below hb)
        replace B_p := Lib.hid (B_p.out.below hb)
        replace B_q := Lib.hid (B_q.out.below hb)
        replace hB := below_next hB hb
        clear hb
        clear Q_u5
        clear Q_u6
        go_wp2_with fail
        refine hK.out _ _ (by exact ⟨B_a.out.c3, B_b.out.c3, B_x.out.c3, B_y.out.c3⟩) (fun hHeld => ?_)
        clear hK K
        try simp only [Act.put, List.setIfInBounds_toArray, List.set_cons_zero, List.set_cons_succ]
        refine wpAnyH_takeQ 22 (v := ?_) (fun _ _ _ _ _ h => h) (by simp only [List.getElem?_toArray, List.getElem?_cons_succ, List.getElem?_cons_zero]; rfl) (by kernel_rfl) (by kernel_rfl) (by kernel_rfl) (by rfl) ?_ hHeld ?_; rotate_left; · (intro w hSw; (try dsimp only at hSw); go_simp; (try with_reducible rfl))
        try simp only [Act.put, List.setIfInBounds_toArray, List.set_cons_zero, List.set_cons_succ]
        refine wpAnyH_takeQ 23 (v := ?_) (fun _ _ _ _ _ h => h) (by simp only [List.getElem?_toArray, List.getElem?_cons_succ, List.getElem?_cons_zero]; rfl) (by kernel_rfl) (by kernel_rfl) (by kernel_rfl) (by rfl) ?_ hHeld ?_; rotate_left; · (intro w hSw; (try dsimp only at hSw); go_simp; (try with_reducible rfl))
        try simp only [Act.put, List.setIfInBounds_toArray, List.set_cons_zero, List.set_cons_succ]
        refine wpAnyH_takeQ 24 (v := ?_) (fun _ _ _ _ _ h => h) (by simp only [List.getElem?_toArray, List.getElem?_cons_succ, List.getElem?_cons_zero]; rfl) (by kernel_rfl) (by kernel_rfl) (by kernel_rfl) (by rfl) ?_ hHeld ?_; rotate_left; · (intro w hSw; (try dsimp only at hSw); go_simp; (try with_reducible rfl))
        try simp only [Act.put, List.setIfInBounds_toArray, List.set_cons_zero, List.set_cons_succ]
        refine wpAnyH_takeQ 26 (v := ?_) (fun _ _ _ _ _ h => h) (by simp only [List.getElem?_toArray, List.getElem?_cons_succ, List.getElem?_cons_zero]; rfl) (by kernel_rfl) (by kernel_rfl) (by kernel_rfl) (by rfl) ?_ hHeld ?_; rotate_left; · (intro w hSw; (try dsimp only at hSw); go_simp; (try with_reducible rfl))
        try simp only [Act.put, List.setIfInBounds_toArray, List.set_cons_zero, List.set_cons_succ]
        refine wpAnyH_ready (rs := [25]) (by kernel_rfl) (by simp) ?_
        refine AllReadyH.cons (by simp only [List.getElem?_toArray, List.getElem?_cons_succ, List.getElem?_cons_zero]; rfl) (fun K hK => ?_) AllReadyH.nil
        go_simp
        clear hHeld
        refine (qround_any _ _ _ _ 10 _ (by exact R_a.out) (by omega) (by omega)).mono ?_
        rintro e w60 ⟨b_v1, A_v1, n_v1, c_v1, rfl, h_v1, hb⟩
        replace HT := Lib.hid (HT.out.below hb)
        replace R_a := Lib.hid (R_a.out.below hb)
        replace R_b := Lib.hid (R_b.out.below hb)
        replace R_x := Lib.hid (R_x.out.below hb)
        replace R_y := Lib.hid (R_y.out.below hb)
        replace B_a := Lib.hid (B_a.out.below hb)
        replace B_b := Lib.hid (B_b.out.below hb)
        replace B_x := Lib.hid (B_x.out.below hb)
        replace B_y := Lib.hid (B_y.out.below hb)
        replace B_p := Lib.hid (B_p.out.below hb)
        replace B_q := Lib.hid (B_q.out.below hb)
        replace hB := below_next hB hb
        clear hb
        have Z_v1 := Lib.hid h_v1
        clear h_v1
        go_wp2_with fail
        refine hK.out _ _ (by exact ⟨B_a.out.c3, B_b.out.c3, B_x.out.c3, B_y.out.c3⟩) (fun hHeld => ?_)
        clear hK K
        try simp only [Act.put, List.setIfInBounds_toArray, List.set_cons_zero, List.set_cons_succ]
        refine wpAnyH_ready (rs := [27]) (by kernel_rfl) (by simp) ?_
        refine AllReadyH.cons (by simp only [List.getElem?_toArray, List.getElem?_cons_succ, List.getElem?_cons_zero]; rfl) (fun K hK => ?_) AllReadyH.nil
        go_simp
        clear hHeld
        refine (qround_any _ _ _ _ 110 _ (by exact R_x.out) (by omega) (by omega)).mono ?_
        rintro e w61 ⟨b_v2, A_v2, n_v2, c_v2, rfl, h_v2, hb⟩
        replace HT := Lib.hid (HT.out.below hb)
        replace R_a := Lib.hid (R_a.out.below hb)
        replace R_b := Lib.hid (R_b.out.below hb)
        replace R_x := Lib.hid (R_x.out.below hb)
        replace R_y := Lib.hid (R_y.out.below hb)
        replace Z_v1 := Lib.hid (Z_v1.out.below hb)
        replace B_a := Lib.hid (B_a.out.below hb)
        replace B_b := Lib.hid (B_b.out.below hb)
        replace B_x := Lib.hid (B_x.out.below hb)
        replace B_y := Lib.hid (B_y.out.below hb)
        replace B_p := Lib.hid (B_p.out.below hb)
        replace B_q := Lib.hid (B_q.out.below hb)
        replace hB := below_next hB hb
        clear hb
        have Z_v2 := Lib.hid h_v2
        clear h_v2
        go_wp2_with fail
        refine hK.out _ _ (by exact ⟨B_a.out.c3, B_b.out.c3, B_x.out.c3, B_y.out.c3⟩) (fun hHeld => ?_)
        clear hK K
        try simp only [Act.put, List.setIfInBounds_toArray, List.set_cons_zero, List.set_cons_succ]
        refine wpAnyH_ready (rs := [28]) (by kernel_rfl) (by simp) ?_
        refine AllReadyH.cons (by simp only [List.getElem?_toArray, List.getElem?_cons_succ, List.getElem?_cons_zero]; rfl) (fun K hK => ?_) AllReadyH.nil
        go_simp
        clear hHeld
        refine (rsameint_z (by exact Z_v1.out) (by exact Z_v2.out) rfl).mono ?_
        rintro e w62 ⟨rfl, hb⟩
        replace HT := Lib.hid (HT.out.below hb)
        replace R_a := Lib.hid (R_a.out.below hb)
        replace R_b := Lib.hid (R_b.out.below hb)
        replace R_x := Lib.hid (R_x.out.below hb)
        replace R_y := Lib.hid (R_y.out.below hb)
        replace Z_v1 := Lib.hid (Z_v1.out.below hb)
        replace Z_v2 := Lib.hid (Z_v2.out.below hb)
        replace B_a := Lib.hid (B_a.out.below hb)
        replace B_b := Lib.hid (B_b.out.below hb)
        replace B_x := Lib.hid (B_x.out.below hb)
        replace B_y := Lib.hid (B_y.out.below hb)
        replace B_p := Lib.hid (B_p.out.below hb)
        replace B_q := Lib.hid (B_q.out.below hb)
        replace hB := below_next hB hb
        clear hb
        clear Z_v1
        clear Z_v2
        go_wp2_with fail
        refine hK.out _ _ (by exact ⟨B_a.out.c3, B_b.out.c3, B_x.out.c3, B_y.out.c3⟩) (fun hHeld => ?_)
        clear hK K
        try simp only [Act.put, List.setIfInBounds_toArray, List.set_cons_zero, List.set_cons_succ]
        refine wpAnyH_takeQ 29 (v := ?_) (fun _ _ _ _ _ h => h) (by simp only [List.getElem?_toArray, List.getElem?_cons_succ, List.getElem?_cons_zero]; rfl) (by kernel_rfl) (by kernel_rfl) (by kernel_rfl) (by rfl) ?_ hHeld ?_; rotate_left; · (intro w hSw; (try dsimp only at hSw); go_simp; (try with_reducible rfl))
        try simp only [Act.put, List.setIfInBounds_toArray, List.set_cons_zero, List.set_cons_succ]
        refine wpAnyH_takeQ 30 (v := ?_) (fun _ _ _ _ _ h => h) (by simp only [List.getElem?_toArray, List.getElem?_cons_succ, List.getElem?_cons_zero]; rfl) (by kernel_rfl) (by kernel_rfl) (by kernel_rfl) (by rfl) ?_ hHeld ?_; rotate_left; · (intro w hSw; (try dsimp only at hSw); go_simp; (try with_reducible rfl))
        try simp only [Act.put, List.setIfInBounds_toArray, List.set_cons_zero, List.set_cons_succ]
        refine wpAnyH_takeQ 31 (v := ?_) (fun _ _ _ _ _ h => h) (by simp only [List.getElem?_toArray, List.getElem?_cons_succ, List.getElem?_cons_zero]; rfl) (by kernel_rfl) (by kernel_rfl) (by kernel_rfl) (by rfl) ?_ hHeld ?_; rotate_left; · (intro w hSw; (try dsimp only at hSw); go_simp; (try with_reducible rfl))
        try simp only [Act.put, List.setIfInBounds_toArray, List.set_cons_zero, List.set_cons_succ]
        refine wpAnyH_takeQ 33 (v := ?_) (fun _ _ _ _ _ h => h) (by simp only [List.getElem?_toArray, List.getElem?_cons_succ, List.getElem?_cons_zero]; rfl) (by kernel_rfl) (by kernel_rfl) (by kernel_rfl) (by rfl) ?_ hHeld ?_; rotate_left; · (intro w hSw; (try dsimp only at hSw); go_simp; (try with_reducible rfl))
        try simp only [Act.put, List.setIfInBounds_toArray, List.set_cons_zero, List.set_cons_succ]
        refine wpAnyH_ready (rs := [32]) (by kernel_rfl) (by simp) ?_
        refine AllReadyH.cons (by simp only [List.getElem?_toArray, List.getElem?_cons_succ, List.getElem?_cons_zero]; rfl) (fun K hK => ?_) AllReadyH.nil
        go_simp
        clear hHeld
        refine (qfloor_any _ _ _ _ 10 _ (by exact R_a.out) (by omega) (by omega)).mono ?_
        rintro e w63 ⟨b_v3, A_v3, n_v3, c_v3, rfl, h_v3, hb⟩
        replace HT := Lib.hid (HT.out.below hb)
        replace R_a := Lib.hid (R_a.out.below hb)
        replace R_b := Lib.hid (R_b.out.below hb)
        replace R_x := Lib.hid (R_x.out.below hb)
        replace R_y := Lib.hid (R_y.out.below hb)
        replace B_a := Lib.hid (B_a.out.below hb)
        replace B_b := Lib.hid (B_b.out.below hb)
        replace B_x := Lib.hid (B_x.out.below hb)
        replace B_y := Lib.hid (B_y.out.below hb)
        replace B_p := Lib.hid (B_p.out.below hb)
        replace B_q := Lib.hid (B_q.out.below hb)
        replace hB := below_next hB hb
        clear hb
        have Z_v3 := Lib.hid h_v3
        clear h_v3
        go_wp2_with fail
        refine hK.out _ _ (by exact ⟨B_a.out.c3, B_b.out.c3, B_x.out.c3, B_y.out.c3⟩) (fun hHeld => ?_)
        clear hK K
        try simp only [Act.put, List.setIfInBounds_toArray, List.set_cons_zero, List.set_cons_succ]
        refine wpAnyH_ready (rs := [34]) (by kernel_rfl) (by simp) ?_
        refine AllReadyH.cons (by simp only [List.getElem?_toArray, List.getElem?_cons_succ, List.getElem?_cons_zero]; rfl) (fun K hK => ?_) AllReadyH.nil
        go_simp
        clear hHeld
        refine (qfloor_any _ _ _ _ 110 _ (by exact R_x.out) (by omega) (by omega)).mono ?_
        rintro e w64 ⟨b_v4, A_v4, n_v4, c_v4, rfl, h_v4, hb⟩
        replace HT := Lib.hid (HT.out.below hb)
        replace R_a := Lib.hid (R_a.out.below hb)
        replace R_b := Lib.hid (R_b.out.below hb)
        replace R_x := Lib.hid (R_x.out.below hb)
        replace R_y := Lib.hid (R_y.out.below hb)
        replace Z_v3 := Lib.hid (Z_v3.out.below hb)
        replace B_a := Lib.hid (B_a.out.below hb)
        replace B_b := Lib.hid (B_b.out.below hb)
        replace B_x := Lib.hid (B_x.out.below hb)
        replace B_y := Lib.hid (B_y.out.below hb)
        replace B_p := Lib.hid (B_p.out.below hb)
        replace B_q := Lib.hid (B_q.out.below hb)
        replace hB := below_next hB hb
        clear hb
        have Z_v4 := Lib.hid h_v4
        clear h_v4
        go_wp2_with fail
        refine hK.out _ _ (by exact ⟨B_a.out.c3, B_b.out.c3, B_x.out.c3, B_y.out.c3⟩) (fun hHeld => ?_)
        clear hK K
        try simp only [Act.put, List.setIfInBounds_toArray, List.set_cons_zero, List.set_cons_succ]
        refine wpAnyH_ready (rs := [35]) (by kernel_rfl) (by simp) ?_
        refine AllReadyH.cons (by simp only [List.getElem?_toArray, List.getElem?_cons_succ, List.getElem?_cons_zero]; rfl) (fun K hK => ?_) AllReadyH.nil
        go_simp
        clear hHeld
        refine (rsameint_z (by exact Z_v3.out) (by exact Z_v4.out) rfl).mono ?_
        rintro e w65 ⟨rfl, hb⟩
        replace HT := Lib.hid (HT.out.below hb)
        replace R_a := Lib.hid (R_a.out.below hb)
        replace R_b := Lib.hid (R_b.out.below hb)
        replace R_x := Lib.hid (R_x.out.below hb)
        replace R_y := Lib.hid (R_y.out.below hb)
        replace Z_v3 := Lib.hid (Z_v3.out.below hb)
        replace Z_v4 := Lib.hid (Z_v4.out.below hb)
        replace B_a := Lib.hid (B_a.out.below hb)
        replace B_b := Lib.hid (B_b.out.below hb)
        replace B_x := Lib.hid (B_x.out.below hb)
        replace B_y := Lib.hid (B_y.out.below hb)
        replace B_p := Lib.hid (B_p.out.below hb)
        replace B_q := Lib.hid (B_q.out.below hb)
        replace hB := below_next hB hb
        clear hb
        clear Z_v3
        clear Z_v4
        go_wp2_with fail
        refine hK.out _ _ (by exact ⟨B_a.out.c3, B_b.out.c3, B_x.out.c3, B_y.out.c3⟩) (fun hHeld => ?_)
        clear hK K
        try simp only [Act.put, List.setIfInBounds_toArray, List.set_cons_zero, List.set_cons_succ]
        refine wpAnyH_takeQ 36 (v := ?_) (fun _ _ _ _ _ h => h) (by simp only [List.getElem?_toArray, List.getElem?_cons_succ, List.getElem?_cons_zero]; rfl) (by kernel_rfl) (by kernel_rfl) (by kernel_rfl) (by rfl) ?_ hHeld ?_; rotate_left; · (intro w hSw; (try dsimp only at hSw); go_simp; (try with_reducible rfl))
        try simp only [Act.put, List.setIfInBounds_toArray, List.set_cons_zero, List.set_cons_succ]
        refine wpAnyH_takeQ 37 (v := ?_) (fun _ _ _ _ _ h => h) (by simp only [List.getElem?_toArray, List.getElem?_cons_succ, List.getElem?_cons_zero]; rfl) (by kernel_rfl) (by kernel_rfl) (by kernel_rfl) (by rfl) ?_ hHeld ?_; rotate_left; · (intro w hSw; (try dsimp only at hSw); go_simp; (try with_reducible rfl))
        try simp only [Act.put, List.setIfInBounds_toArray, List.set_cons_zero, List.set_cons_succ]
        refine wpAnyH_ready (rs := [38]) (by kernel_rfl) (by simp) ?_
        refine AllReadyH.cons (by simp only [List.getElem?_toArray, List.getElem?_cons_succ, List.getElem?_cons_zero]; rfl) (fun K hK => ?_) AllReadyH.nil
        go_simp
        clear hHeld
        refine (holds_any _ (by exact HT.out)).mono ?_
        rintro e w66 ⟨rfl, hb⟩
        replace HT := Lib.hid (HT.out.below hb)
        replace R_a := Lib.hid (R_a.out.below hb)
        replace R_b := Lib.hid (R_b.out.below hb)
        replace R_x := Lib.hid (R_x.out.below hb)
        replace R_y := Lib.hid (R_y.out.below hb)
        replace B_a := Lib.hid (B_a.out.below hb)
        replace B_b := Lib.hid (B_b.out.below hb)
        replace B_x := Lib.hid (B_x.out.below hb)
        replace B_y := Lib.hid (B_y.out.below hb)
        replace B_p := Lib.hid (B_p.out.below hb)
        replace B_q := Lib.hid (B_q.out.below hb)
        replace hB := below_next hB hb
        clear hb
        go_wp2_with fail
        refine hK.out _ _ (by exact ⟨B_a.out.c3, B_b.out.c3, B_x.out.c3, B_y.out.c3⟩) (fun hHeld => ?_)
        clear hK K
        try simp only [Act.put, List.setIfInBounds_toArray, List.set_cons_zero, List.set_cons_succ]
        refine wpAnyH_takeQ 39 (v := ?_) (fun _ _ _ _ _ h => h) (by simp only [List.getElem?_toArray, List.getElem?_cons_succ, List.getElem?_cons_zero]; rfl) (by kernel_rfl) (by kernel_rfl) (by kernel_rfl) (by rfl) ?_ hHeld ?_; rotate_left; · (intro w hSw; (try dsimp only at hSw); go_simp; (try with_reducible rfl))
        try simp only [Act.put, List.setIfInBounds_toArray, List.set_cons_zero, List.set_cons_succ]
        refine wpAnyH_takeQ 40 (v := ?_) (fun _ _ _ _ _ h => h) (by simp only [List.getElem?_toArray, List.getElem?_cons_succ, List.getElem?_cons_zero]; rfl) (by kernel_rfl) (by kernel_rfl) (by kernel_rfl) (by rfl) ?_ hHeld ?_; rotate_left; · (intro w hSw; (try dsimp only at hSw); go_simp; (try with_reducible rfl))
        try simp only [Act.put, List.setIfInBounds_toArray, List.set_cons_zero, List.set_cons_succ]
        refine wpAnyH_done (by kernel_rfl) (NoPanic.normal ?_) _
        clear hHeld
        have c_a0 := B_a.out.cell0
        have c_a1 := B_a.out.cell1
        have c_a2 := B_a.out.cell2
        have c_b0 := B_b.out.cell0
        have c_b1 := B_b.out.cell1
        have c_b2 := B_b.out.cell2
        have c_x0 := B_x.out.cell0
        have c_x1 := B_x.out.cell1
        have c_x2 := B_x.out.cell2
        have c_y0 := B_y.out.cell0
        have c_y1 := B_y.out.cell1
        have c_y2 := B_y.out.cell2
        have c_p0 := B_p.out.cell0
        have c_p1 := B_p.out.cell1
        have c_p2 := B_p.out.cell2
        have c_q0 := B_q.out.cell0
        have c_q1 := B_q.out.cell1
        have c_q2 := B_q.out.cell2
        go_wp2
        go_ret
        exact ⟨rfl, hB⟩
      · skip
        have c_a0 := B_a.out.cell0
        have c_a1 := B_a.out.cell1
        have c_a2 := B_a.out.cell2
        have c_b0 := B_b.out.cell0
        have c_b1 := B_b.out.cell1
        have c_b2 := B_b.out.cell2
        have c_x0 := B_x.out.cell0
        have c_x1 := B_x.out.cell1
        have c_x2 := B_x.out.cell2
        have c_y0 := B_y.out.cell0
        have c_y1 := B_y.out.cell1
        have c_y2 := B_y.out.cell2
        go_wp2_with fail
        clear c_a0 c_a1 c_a2 c_b0 c_b1 c_b2 c_x0 c_x1 c_x2 c_y0 c_y1 c_y2
        refine (qdiv_any _ _ _ _ 10 _ _ _ _ 10 _ (by exact R_a.out) (by exact R_b.out) (by omega) (by omega) (by omega) (by omega) hq).mono ?_
        rintro e w67 ⟨b_p, A_p, n_p, c_p, D_p, e_p, f_p, rfl, h_p, hb⟩
        replace HT := Lib.hid (HT.out.below hb)
        replace R_a := Lib.hid (R_a.out.below hb)
        replace R_b := Lib.hid (R_b.out.below hb)
        replace R_x := Lib.hid (R_x.out.below hb)
        replace R_y := Lib.hid (R_y.out.below hb)
        replace B_a := Lib.hid (B_a.out.below hb)
        replace B_b := Lib.hid (B_b.out.below hb)
        replace B_x := Lib.hid (B_x.out.below hb)
        replace B_y := Lib.hid (B_y.out.below hb)
        replace hB := below_next hB hb
        clear hb
        have Q_p := Lib.hid h_p
        clear h_p
        have c_a0 := B_a.out.cell0
        have c_a1 := B_a.out.cell1
        have c_a2 := B_a.out.cell2
        have c_b0 := B_b.out.cell0
        have c_b1 := B_b.out.cell1
        have c_b2 := B_b.out.cell2
        have c_x0 := B_x.out.cell0
        have c_x1 := B_x.out.cell1
        have c_x2 := B_x.out.cell2
        have c_y0 := B_y.out.cell0
        have c_y1 := B_y.out.cell1
        have c_y2 := B_y.out.cell2
        go_upto_region 5 with fail
        clear c_a0 c_a1 c_a2 c_b0 c_b1 c_b2 c_x0 c_x1 c_x2 c_y0 c_y1 c_y2
        obtain ⟨W68, g_p, hV, hg, NB, hb⟩ := newR w67 (.bool b_p) (.slice A_p n_p c_p) (.slice D_p e_p f_p)
        rw [hV, hg]
        clear hV
        have l_p_a : w.heap.size < g_p := hg ▸ B_a.out.lt
        have l_p_b : w.heap.size + 1 < g_p := hg ▸ B_b.out.lt
        have l_p_x : g_x < g_p := hg ▸ B_x.out.lt
        have l_p_y : g_y < g_p := hg ▸ B_y.out.lt
        replace HT := Lib.hid (HT.out.below hb)
        replace R_a := Lib.hid (R_a.out.below hb)
        replace R_b := Lib.hid (R_b.out.below hb)
        replace R_x := Lib.hid (R_x.out.below hb)
        replace R_y := Lib.hid (R_y.out.below hb)
        replace Q_p := Lib.hid (Q_p.out.below hb)
        replace B_a := Lib.hid (B_a.out.below hb)
        replace B_b := Lib.hid (B_b.out.below hb)
        replace B_x := Lib.hid (B_x.out.below hb)
        replace B_y := Lib.hid (B_y.out.below hb)
        replace hB := below_next hB hb
        have B_p := NB
        clear NB hb hg
        have c_a0 := B_a.out.cell0
        have c_a1 := B_a.out.cell1
        have c_a2 := B_a.out.cell2
        have c_b0 := B_b.out.cell0
        have c_b1 := B_b.out.cell1
        have c_b2 := B_b.out.cell2
        have c_x0 := B_x.out.cell0
        have c_x1 := B_x.out.cell1
        have c_x2 := B_x.out.cell2
        have c_y0 := B_y.out.cell0
        have c_y1 := B_y.out.cell1
        have c_y2 := B_y.out.cell2
        have c_p0 := B_p.out.cell0
        have c_p1 := B_p.out.cell1
        have c_p2 := B_p.out.cell2
        go_wp2_with fail
        clear c_a0 c_a1 c_a2 c_b0 c_b1 c_b2 c_x0 c_x1 c_x2 c_y0 c_y1 c_y2 c_p0 c_p1 c_p2
        refine (qdiv_any _ _ _ _ 110 _ _ _ _ 110 _ (by exact R_x.out) (by exact R_y.out) (by omega) (by omega) (by omega) (by omega) hq).mono ?_
        rintro e w69 ⟨b_q, A_q, n_q, c_q, D_q, e_q, f_q, rfl, h_q, hb⟩
        replace HT := Lib.hid (HT.out.below hb)
        replace R_a := Lib.hid (R_a.out.below hb)
        replace R_b := Lib.hid (R_b.out.below hb)
        replace R_x := Lib.hid (R_x.out.below hb)
        replace R_y := Lib.hid (R_y.out.below hb)
        replace Q_p := Lib.hid (Q_p.out.below hb)
        replace B_a := Lib.hid (B_a.out.below hb)
        replace B_b := Lib.hid (B_b.out.below hb)
        replace B_x := Lib.hid (B_x.out.below hb)
        replace B_y := Lib.hid (B_y.out.below hb)
        replace B_p := Lib.hid (B_p.out.below hb)
        replace hB := below_next hB hb
        clear hb
        have Q_q := Lib.hid h_q
        clear h_q
        have c_a0 := B_a.out.cell0
        have c_a1 := B_a.out.cell1
        have c_a2 := B_a.out.cell2
        have c_b0 := B_b.out.cell0
        have c_b1 := B_b.out.cell1
        have c_b2 := B_b.out.cell2
        have c_x0 := B_x.out.cell0
        have c_x1 := B_x.out.cell1
        have c_x2 := B_x.out.cell2
        have c_y0 := B_y.out.cell0
        have c_y1 := B_y.out.cell1
        have c_y2 := B_y.out.cell2
        have c_p0 := B_p.out.cell0
        have c_p1 := B_p.out.cell1
        have c_p2 := B_p.out.cell2
        go_wp2
        clear c_a0 c_a1 c_a2 c_b0 c_b1 c_b2 c_x0 c_x1 c_x2 c_y0 c_y1 c_y2 c_p0 c_p1 c_p2
        obtain ⟨W70, g_q, hV, hg, NB, hb⟩ := newR w69 (.bool b_q) (.slice A_q n_q c_q) (.slice D_q e_q f_q)
        rw [hV, hg]
        clear hV
        have l_q_a : w.heap.size < g_q := hg ▸ B_a.out.lt
        have l_q_b : w.heap.size + 1 < g_q := hg ▸ B_b.out.lt
        have l_q_x : g_x < g_q := hg ▸ B_x.out.lt
        have l_q_y : g_y < g_q := hg ▸ B_y.out.lt
        have l_q_p : g_p < g_q := hg ▸ B_p.out.lt
        replace HT := Lib.hid (HT.out.below hb)
        replace R_a := Lib.hid (R_a.out.below hb)
        replace R_b := Lib.hid (R_b.out.below hb)
        replace R_x := Lib.hid (R_x.out.below hb)
        replace R_y := Lib.hid (R_y.out.below hb)
        replace Q_p := Lib.hid (Q_p.out.below hb)
        replace Q_q := Lib.hid (Q_q.out.below hb)
        replace B_a := Lib.hid (B_a.out.below hb)
        replace B_b := Lib.hid (B_b.out.below hb)
        replace B_x := Lib.hid (B_x.out.below hb)
        replace B_y := Lib.hid (B_y.out.below hb)
        replace B_p := Lib.hid (B_p.out.below hb)
        replace hB := below_next hB hb
        have B_q := NB
        clear NB hb hg
        refine wp_region_named (S := (fun w' => (w'.cell? ⟨g_p, 0, none⟩ = some (.bool b_p) ∧ w'.cell? ⟨g_p, 1, none⟩ = some (.slice A_p n_p c_p) ∧ w'.cell? ⟨g_p, 2, none⟩ = some (.slice D_p e_p f_p)) ∧ (w'.cell? ⟨g_q, 0, none⟩ = some (.bool b_q) ∧ w'.cell? ⟨g_q, 1, none⟩ = some (.slice A_q n_q c_q) ∧ w'.cell? ⟨g_q, 2, none⟩ = some (.slice D_q e_q f_q)) ∧ (w'.cell? ⟨w.heap.size, 0, none⟩ = some (.bool b_a) ∧ w'.cell? ⟨w.heap.size, 1, none⟩ = some m_a ∧ w'.cell? ⟨w.heap.size, 2, none⟩ = some d_a) ∧ (w'.cell? ⟨w.heap.size + 1, 0, none⟩ = some (.bool b_b) ∧ w'.cell? ⟨w.heap.size + 1, 1, none⟩ = some m_b ∧ w'.cell? ⟨w.heap.size + 1, 2, none⟩ = some d_b) ∧ (w'.cell? ⟨g_x, 0, none⟩ = some (.bool b_a) ∧ w'.cell? ⟨g_x, 1, none⟩ = some (.slice A_x n_x c_x) ∧ w'.cell? ⟨g_x, 2, none⟩ = some (.slice D_x e_x f_x)) ∧ (w'.cell? ⟨g_y, 0, none⟩ = some (.bool b_b) ∧ w'.cell? ⟨g_y, 1, none⟩ = some (.slice A_y n_y c_y) ∧ w'.cell? ⟨g_y, 2, none⟩ = some (.slice D_y e_y f_y)))) (by kernel_rfl) (by exact ⟨B_p.out.c3, B_q.out.c3, B_a.out.c3, B_b.out.c3, B_x.out.c3, B_y.out.c3⟩) (fun V71 hb hHeld => ?_)
        replace HT := Lib.hid (HT.out.below hb)
        replace R_a := Lib.hid (R_a.out.below hb)
        replace R_b := Lib.hid (R_b.out.below hb)
        replace R_x := Lib.hid (R_x.out.below hb)
        replace R_y := Lib.hid (R_y.out.below hb)
        replace Q_p := Lib.hid (Q_p.out.below hb)
        replace Q_q := Lib.hid (Q_q.out.below hb)
        replace B_a := Lib.hid (B_a.out.below hb)
        replace B_b := Lib.hid (B_b.out.below hb)
        replace B_x := Lib.hid (B_x.out.below hb)
        replace B_y := Lib.hid (B_y.out.below hb)
        replace B_p := Lib.hid (B_p.out.below hb)
        replace B_q := Lib.hid (B_q.out.below hb)
        replace hB := below_next hB hb
        clear hb
        refine wpAnyH_takeQ 0 (v := ?_) (fun _ _ _ _ _ h => h) (by simp only [List.getElem?_toArray, List.getElem?_cons_zero]; rfl) (by kernel_rfl) (by kernel_rfl) (by kernel_rfl) (by rfl) ?_ hHeld ?_; rotate_left; · (intro w hSw; (try dsimp only at hSw); go_simp; (try with_reducible rfl))
        try simp only [Act.put, List.setIfInBounds_toArray, List.set_cons_zero, List.set_cons_succ]
        refine wpAnyH_takeQ 1 (v := ?_) (fun _ _ _ _ _ h => h) (by simp only [List.getElem?_toArray, List.getElem?_cons_succ, List.getElem?_cons_zero]; rfl) (by kernel_rfl) (by kernel_rfl) (by kernel_rfl) (by rfl) ?_ hHeld ?_; rotate_left; · (intro w hSw; (try dsimp only at hSw); go_simp; (try with_reducible rfl))
        try simp only [Act.put, List.setIfInBounds_toArray, List.set_cons_zero, List.set_cons_succ]
        refine wpAnyH_takeQ 2 (v := ?_) (fun _ _ _ _ _ h => h) (by simp only [List.getElem?_toArray, List.getElem?_cons_succ, List.getElem?_cons_zero]; rfl) (by kernel_rfl) (by kernel_rfl) (by kernel_rfl) (by rfl) ?_ hHeld ?_; rotate_left; · (intro w hSw; (try dsimp only at hSw); go_simp; (try with_reducible rfl))
        try simp only [Act.put, List.setIfInBounds_toArray, List.set_cons_zero, List.set_cons_succ]
        refine wpAnyH_takeQ 3 (v := ?_) (fun _ _ _ _ _ h => h) (by simp only [List.getElem?_toArray, List.getElem?_cons_succ, List.getElem?_cons_zero]; rfl) (by kernel_rfl) (by kernel_rfl) (by kernel_rfl) (by rfl) ?_ hHeld ?_; rotate_left; · (intro w hSw; (try dsimp only at hSw); go_simp; (try with_reducible rfl))
        try simp only [Act.put, List.setIfInBounds_toArray, List.set_cons_zero, List.set_cons_succ]
        refine wpAnyH_takeQ 4 (v := ?_) (fun _ _ _ _ _ h => h) (by simp only [List.getElem?_toArray, List.getElem?_cons_succ, List.getElem?_cons_zero]; rfl) (by kernel_rfl) (by kernel_rfl) (by kernel_rfl) (by rfl) ?_ hHeld ?_; rotate_left; · (intro w hSw; (try dsimp only at hSw); go_simp; (try with_reducible rfl))
        try simp only [Act.put, List.setIfInBounds_toArray, List.set_cons_zero, List.set_cons_succ]
        refine wpAnyH_takeQ 5 (v := ?_) (fun _ _ _ _ _ h => h) (by simp only [List.getElem?_toArray, List.getElem?_cons_succ, List.getElem?_cons_zero]; rfl) (by kernel_rfl) (by kernel_rfl) (by kernel_rfl) (by rfl) ?_ hHeld ?_; rotate_left; · (intro w hSw; (try dsimp only at hSw); go_simp; (try with_reducible rfl))
        try simp only [Act.put, List.setIfInBounds_toArray, List.set_cons_zero, List.set_cons_succ]
        refine wpAnyH_ready (rs := [6]) (by kernel_rfl) (by simp) ?_
        refine AllReadyH.cons (by simp only [List.getElem?_toArray, List.getElem?_cons_succ, List.getElem?_cons_zero]; rfl) (fun K hK => ?_) AllReadyH.nil
        go_simp
        clear hHeld
        refine (rsame_q (by exact Q_p.out) (by exact Q_q.out) rfl).mono ?_
        rintro e w72 ⟨rfl, hb⟩
        replace HT := Lib.hid (HT.out.below hb)
        replace R_a := Lib.hid (R_a.out.below hb)
        replace R_b := Lib.hid (R_b.out.below hb)
        replace R_x := Lib.hid (R_x.out.below hb)
        replace R_y := Lib.hid (R_y.out.below hb)
        replace Q_p := Lib.hid (Q_p.out.below hb)
        replace Q_q := Lib.hid (Q_q.out.below hb)
        replace B_a := Lib.hid (B_a.out.below hb)
        replace B_b := Lib.hid (B_b.out.below hb)
        replace B_x := Lib.hid (B_x.out.below hb)
        replace B_y := Lib.hid (B_y.out.below hb)
        replace B_p := Lib.hid (B_p.out.below hb)
        replace B_q := Lib.hid (B_q.out.below hb)
        replace hB := below_next hB hb
        clear hb
        go_wp2_with fail
        refine hK.out _ _ (by exact ⟨B_p.out.c3, B_q.out.c3, B_a.out.c3, B_b.out.c3, B_x.out.c3, B_y.out.c3⟩) (fun hHeld => ?_)
        clear hK K
        try simp only [Act.put, List.setIfInBounds_toArray, List.set_cons_zero, List.set_cons_succ]
        refine wpAnyH_takeQ 7 (v := ?_) (fun _ _ _ _ _ h => h) (by simp only [List.getElem?_toArray, List.getElem?_cons_succ, List.getElem?_cons_zero]; rfl) (by kernel_rfl) (by kernel_rfl) (by kernel_rfl) (by rfl) ?_ hHeld ?_; rotate_left; · (intro w hSw; (try dsimp only at hSw); go_simp; (try with_reducible rfl))
        try simp only [Act.put, List.setIfInBounds_toArray, List.set_cons_zero, List.set_cons_succ]
        refine wpAnyH_takeQ 8 (v := ?_) (fun _ _ _ _ _ h => h) (by simp only [List.getElem?_toArray, List.getElem?_cons_succ, List.getElem?_cons_zero]; rfl) (by kernel_rfl) (by kernel_rfl) (by kernel_rfl) (by rfl) ?_ hHeld ?_; rotate_left; · (intro w hSw; (try dsimp only at hSw); go_simp; (try with_reducible rfl))
        try simp only [Act.put, List.setIfInBounds_toArray, List.set_cons_zero, List.set_cons_succ]
        refine wpAnyH_takeQ 9 (v := ?_) (fun _ _ _ _ _ h => h) (by simp only [List.getElem?_toArray, List.getElem?_cons_succ, List.getElem?_cons_zero]; rfl) (by kernel_rfl) (by kernel_rfl) (by kernel_rfl) (by rfl) ?_ hHeld ?_; rotate_left; · (intro w hSw; (try dsimp only at hSw); go_simp; (try with_reducible rfl))
        try simp only [Act.put, List.setIfInBounds_toArray, List.set_cons_zero, List.set_cons_succ]
        refine wpAnyH_takeQ 10 (v := ?_) (fun _ _ _ _ _ h => h) (by simp only [List.getElem?_toArray, List.getElem?_cons_succ, List.getElem?_cons_zero]; rfl) (by kernel_rfl) (by kernel_rfl) (by kernel_rfl) (by rfl) ?_ hHeld ?_; rotate_left; · (intro w hSw; (try dsimp only at hSw); go_simp; (try with_reducible rfl))
        try simp only [Act.put, List.setIfInBounds_toArray, List.set_cons_zero, List.set_cons_succ]
        refine wpAnyH_takeQ 11 (v := ?_) (fun _ _ _ _ _ h => h) (by simp only [List.getElem?_toArray, List.getElem?_cons_succ, List.getElem?_cons_zero]; rfl) (by kernel_rfl) (by kernel_rfl) (by kernel_rfl) (by rfl) ?_ hHeld ?_; rotate_left; · (intro w hSw; (try dsimp only at hSw); go_simp; (try with_reducible rfl))
        try simp only [Act.put, List.setIfInBounds_toArray, List.set_cons_zero, List.set_cons_succ]
        refine wpAnyH_ready (rs := [12]) (by kernel_rfl) (by simp) ?_
        refine AllReadyH.cons (by simp only [List.getElem?_toArray, List.getElem?_cons_succ, List.getElem?_cons_zero]; rfl) (fun K hK => ?_) AllReadyH.nil
        go_simp
        clear hHeld
        refine (qcmp_is (k := 10) (j := 110) (v := 0) (by exact R_a.out) (by exact R_x.out) (by omega) (by omega) (by omega) (by omega) (by exact qord_self _)).mono ?_
        rintro e w73 ⟨rfl, hb⟩
        replace HT := Lib.hid (HT.out.below hb)
        replace R_a := Lib.hid (R_a.out.below hb)
        replace R_b := Lib.hid (R_b.out.below hb)
        replace R_x := Lib.hid (R_x.out.below hb)
        replace R_y := Lib.hid (R_y.out.below hb)
        replace Q_p := Lib.hid (Q_p.out.below hb)
        replace Q_q := Lib.hid (Q_q.out.below hb)
        replace B_a := Lib.hid (B_a.out.below hb)
        replace B_b := Lib.hid (B_b.out.below hb)
        replace B_x := Lib.hid (B_x.out.below hb)
        replace B_y := Lib.hid (B_y.out.below hb)
        replace B_p := Lib.hid (B_p.out.below hb)
        replace B_q := Lib.hid (B_q.out.below hb)
        replace hB := below_next hB hb
        clear hb
        go_wp2_with fail
        refine hK.out _ _ (by exact ⟨B_p.out.c3, B_q.out.c3, B_a.out.c3, B_b.out.c3, B_x.out.c3, B_y.out.c3⟩) (fun hHeld => ?_)
        clear hK K
        try simp only [Act.put, List.setIfInBounds_toArray, List.set_cons_zero, List.set_cons_succ]
        refine wpAnyH_takeQ 13 (v := ?_) (fun _ _ _ _ _ h => h) (by simp only [List.getElem?_toArray, List.getElem?_cons_succ, List.getElem?_cons_zero]; rfl) (by kernel_rfl) (by kernel_rfl) (by kernel_rfl) (by rfl) ?_ hHeld ?_; rotate_left; · (intro w hSw; (try dsimp only at hSw); go_simp; (try with_reducible rfl))
        try simp only [Act.put, List.setIfInBounds_toArray, List.set_cons_zero, List.set_cons_succ]
        refine wpAnyH_takeQ 14 (v := ?_) (fun _ _ _ _ _ h => h) (by simp only [List.getElem?_toArray, List.getElem?_cons_succ, List.getElem?_cons_zero]; rfl) (by kernel_rfl) (by kernel_rfl) (by kernel_rfl) (by rfl) ?_ hHeld ?_; rotate_left; · (intro w hSw; (try dsimp only at hSw); go_simp; (try with_reducible rfl))
        try simp only [Act.put, List.setIfInBounds_toArray, List.set_cons_zero, List.set_cons_succ]
        refine wpAnyH_takeQ 15 (v := ?_) (fun _ _ _ _ _ h => h) (by simp only [List.getElem?_toArray, List.getElem?_cons_succ, List.getElem?_cons_zero]; rfl) (by kernel_rfl) (by kernel_rfl) (by kernel_rfl) (by rfl) ?_ hHeld ?_; rotate_left; · (intro w hSw; (try dsimp only at hSw); go_simp; (try with_reducible rfl))
        try simp only [Act.put, List.setIfInBounds_toArray, List.set_cons_zero, List.set_cons_succ]
        refine wpAnyH_takeQ 16 (v := ?_) (fun _ _ _ _ _ h => h) (by simp only [List.getElem?_toArray, List.getElem?_cons_succ, List.getElem?_cons_zero]; rfl) (by kernel_rfl) (by kernel_rfl) (by kernel_rfl) (by rfl) ?_ hHeld ?_; rotate_left; · (intro w hSw; (try dsimp only at hSw); go_simp; (try with_reducible rfl))
        try simp only [Act.put, List.setIfInBounds_toArray, List.set_cons_zero, List.set_cons_succ]
        refine wpAnyH_takeQ 17 (v := ?_) (fun _ _ _ _ _ h => h) (by simp only [List.getElem?_toArray, List.getElem?_cons_succ, List.getElem?_cons_zero]; rfl) (by kernel_rfl) (by kernel_rfl) (by kernel_rfl) (by rfl) ?_ hHeld ?_; rotate_left; · (intro w hSw; (try dsimp only at hSw); go_simp; (try with_reducible rfl))
        try simp only [Act.put, List.setIfInBounds_toArray, List.set_cons_zero, List.set_cons_succ]
        refine wpAnyH_takeQ 19 (v := ?_) (fun _ _ _ _ _ h => h) (by simp only [List.getElem?_toArray, List.getElem?_cons_succ, List.getElem?_cons_zero]; rfl) (by kernel_rfl) (by kernel_rfl) (by kernel_rfl) (by rfl) ?_ hHeld ?_; rotate_left; · (intro w hSw; (try dsimp only at hSw); go_simp; (try with_reducible rfl))
        try simp only [Act.put, List.setIfInBounds_toArray, List.set_cons_zero, List.set_cons_succ]
        refine wpAnyH_takeQ 20 (v := ?_) (fun _ _ _ _ _ h => h) (by simp only [List.getElem?_toArray, List.getElem?_cons_succ, List.getElem?_cons_zero]; rfl) (by kernel_rfl) (by kernel_rfl) (by kernel_rfl) (by rfl) ?_ hHeld ?_; rotate_left; · (intro w hSw; (try dsimp only at hSw); go_simp; (try with_reducible rfl))
        try simp only [Act.put, List.setIfInBounds_toArray, List.set_cons_zero, List.set_cons_succ]
        refine wpAnyH_ready (rs := [18]) (by kernel_rfl) (by simp) ?_
        refine AllReadyH.cons (by simp only [List.getElem?_toArray, List.getElem?_cons_succ, List.getElem?_cons_zero]; rfl) (fun K hK => ?_) AllReadyH.nil
        go_simp
        clear hHeld
        refine (qcmp_any _ _ _ _ 10 _ _ _ _ 10 _ (by exact R_a.out) (by exact R_b.out) (by omega) (by omega) (by omega) (by omega)).mono ?_
        rintro e w74 ⟨rfl, hb⟩
        replace HT := Lib.hid (HT.out.below hb)
        replace R_a := Lib.hid (R_a.out.below hb)
        replace R_b := Lib.hid (R_b.out.below hb)
        replace R_x := Lib.hid (R_x.out.below hb)
        replace R_y := Lib.hid (R_y.out.below hb)
        replace Q_p := Lib.hid (Q_p.out.below hb)
        replace Q_q := Lib.hid (Q_q.out.below hb)
        replace B_a := Lib.hid (B_a.out.below hb)
        replace B_b := Lib.hid (B_b.out.below hb)
        replace B_x := Lib.hid (B_x.out.below hb)
        replace B_y := Lib.hid (B_y.out.below hb)
        replace B_p := Lib.hid (B_p.out.below hb)
        replace B_q := Lib.hid (B_q.out.below hb)
        replace hB := below_next hB hb
        clear hb
        go_wp2_with fail
        refine hK.out _ _ (by exact ⟨B_p.out.c3, B_q.out.c3, B_a.out.c3, B_b.out.c3, B_x.out.c3, B_y.out.c3⟩) (fun hHeld => ?_)
        clear hK K
        try simp only [Act.put, List.setIfInBounds_toArray, List.set_cons_zero, List.set_cons_succ]
        refine wpAnyH_ready (rs := [21]) (by kernel_rfl) (by simp) ?_
        refine AllReadyH.cons (by simp only [List.getElem?_toArray, List.getElem?_cons_succ, List.getElem?_cons_zero]; rfl) (fun K hK => ?_) AllReadyH.nil
        go_simp
        clear hHeld
        refine (qcmp_any _ _ _ _ 110 _ _ _ _ 110 _ (by exact R_x.out) (by exact R_y.out) (by omega) (by omega) (by omega) (by omega)).mono ?_
        rintro e w75 ⟨rfl, hb⟩
        replace HT := Lib.hid (HT.out.below hb)
        replace R_a := Lib.hid (R_a.out.below hb)
        replace R_b := Lib.hid (R_b.out.below hb)
        replace R_x := Lib.hid (R_x.out.below hb)
        replace R_y := Lib.hid (R_y.out.below hb)
        replace Q_p := Lib.hid (Q_p.out.below hb)
        replace Q_q := Lib.hid (Q_q.out.below hb)
        replace B_a := Lib.hid (B_a.out.below hb)
        replace B_b := Lib.hid (B_b.out.below hb)
        replace B_x := Lib.hid (B_x.out.below hb)
        replace B_y := Lib.hid (B_y.out.below hb)
        replace B_p := Lib.hid (B_p.out.below hb)
        replace B_q := Lib.hid (B_q.out.below hb)
        replace hB := below_next hB hb
        clear hb
        go_wp2_with fail
        refine hK.out _ _ (by exact ⟨B_p.out.c3, B_q.out.c3, B_a.out.c3, B_b.out.c3, B_x.out.c3, B_y.out.c3⟩) (fun hHeld => ?_)
        clear hK K
        try simp only [Act.put, List.setIfInBounds_toArray, List.set_cons_zero, List.set_cons_succ]
        refine wpAnyH_takeQ 22 (v := ?_) (fun _ _ _ _ _ h => h) (by simp only [List.getElem?_toArray, List.getElem?_cons_succ, List.getElem?_cons_zero]; rfl) (by kernel_rfl) (by kernel_rfl) (by kernel_rfl) (by rfl) ?_ hHeld ?_; rotate_left; · (intro w hSw; (try dsimp only at hSw); go_simp; (try with_reducible rfl))
        try simp only [Act.put, List.setIfInBounds_toArray, List.set_cons_zero, List.set_cons_succ]
        refine wpAnyH_takeQ 23 (v := ?_) (fun _ _ _ _ _ h => h) (by simp only [List.getElem?_toArray, List.getElem?_cons_succ, List.getElem?_cons_zero]; rfl) (by kernel_rfl) (by kernel_rfl) (by kernel_rfl) (by rfl) ?_ hHeld ?_; rotate_left; · (intro w hSw; (try dsimp only at hSw); go_simp; (try with_reducible rfl))
        try simp only [Act.put, List.setIfInBounds_toArray, List.set_cons_zero, List.set_cons_succ]
        refine wpAnyH_takeQ 24 (v := ?_) (fun _ _ _ _ _ h => h) (by simp only [List.getElem?_toArray, List.getElem?_cons_succ, List.getElem?_cons_zero]; rfl) (by kernel_rfl) (by kernel_rfl) (by kernel_rfl) (by rfl) ?_ hHeld ?_; rotate_left; · (intro w hSw; (try dsimp only at hSw); go_simp; (try with_reducible rfl))
        try simp only [Act.put, List.setIfInBounds_toArray, List.set_cons_zero, List.set_cons_succ]
        refine wpAnyH_takeQ 25 (v := ?_) (fun _ _ _ _ _ h => h) (by simp only [List.getElem?_toArray, List.getElem?_cons_succ, List.getElem?_cons_zero]; rfl) (by kernel_rfl) (by kernel_rfl) (by kernel_rfl) (by rfl) ?_ hHeld ?_; rotate_left; · (intro w hSw; (try dsimp only at hSw); go_simp; (try with_reducible rfl))
        try simp only [Act.put, List.setIfInBounds_toArray, List.set_cons_zero, List.set_cons_succ]
        refine wpAnyH_takeQ 27 (v := ?_) (fun _ _ _ _ _ h => h) (by simp only [List.getElem?_toArray, List.getElem?_cons_succ, List.getElem?_cons_zero]; rfl) (by kernel_rfl) (by kernel_rfl) (by kernel_rfl) (by rfl) ?_ hHeld ?_; rotate_left; · (intro w hSw; (try dsimp only at hSw); go_simp; (try with_reducible rfl))
        try simp only [Act.put, List.setIfInBounds_toArray, List.set_cons_zero, List.set_cons_succ]
        refine wpAnyH_ready (rs := [26]) (by kernel_rfl) (by simp) ?_
        refine AllReadyH.cons (by simp only [List.getElem?_toArray, List.getElem?_cons_succ, List.getElem?_cons_zero]; rfl) (fun K hK => ?_) AllReadyH.nil
        go_simp
        clear hHeld
        refine (qtext_any _ _ _ _ 10 _ (by exact R_a.out) (by omega) (by omega) (by exact HT.out)).mono ?_
        rintro e w76 ⟨rfl, hb⟩
        replace HT := Lib.hid (HT.out.below hb)
        replace R_a := Lib.hid (R_a.out.below hb)
        replace R_b := Lib.hid (R_b.out.below hb)
        replace R_x := Lib.hid (R_x.out.below hb)
        replace R_y := Lib.hid (R_y.out.below hb)
        replace Q_p := Lib.hid (Q_p.out.below hb)
        replace Q_q := Lib.hid (Q_q.out.below hb)
        replace B_a := Lib.hid (B_a.out.below hb)
        replace B_b := Lib.hid (B_b.out.below hb)
        replace B_x := Lib.hid (B_x.out.below hb)
        replace B_y := Lib.hid (B_y.out.below hb)
        replace B_p := Lib.hid (B_p.out.below hb)
        replace B_q := Lib.hid (B_q.out.below hb)
        replace hB := below_next hB hb
        clear hb
        go_wp2_with fail
        refine hK.out _ _ (by exact ⟨B_p.out.c3, B_q.out.c3, B_a.out.c3, B_b.out.c3, B_x.out.c3, B_y.out.c3⟩) (fun hHeld => ?_)
        clear hK K
        try simp only [Act.put, List.setIfInBounds_toArray, List.set_cons_zero, List.set_cons_succ]
        refine wpAnyH_ready (rs := [28]) (by kernel_rfl) (by simp) ?_
        refine AllReadyH.cons (by simp only [List.getElem?_toArray, List.getElem?_cons_succ, List.getElem?_cons_zero]; rfl) (fun K hK => ?_) AllReadyH.nil
        go_simp
        clear hHeld
        refine (qtext_any _ _ _ _ 110 _ (by exact R_x.out) (by omega) (by omega) (by exact HT.out)).mono ?_
        rintro e w77 ⟨rfl, hb⟩
        replace HT := Lib.hid (HT.out.below hb)
        replace R_a := Lib.hid (R_a.out.below hb)
        replace R_b := Lib.hid (R_b.out.below hb)
        replace R_x := Lib.hid (R_x.out.below hb)
        replace R_y := Lib.hid (R_y.out.below hb)
        replace Q_p := Lib.hid (Q_p.out.below hb)
        replace Q_q := Lib.hid (Q_q.out.below hb)
        replace B_a := Lib.hid (B_a.out.below hb)
        replace B_b := Lib.hid (B_b.out.below hb)
        replace B_x := Lib.hid (B_x.out.below hb)
        replace B_y := Lib.hid (B_y.out.below hb)
        replace B_p := Lib.hid (B_p.out.below hb)
        replace B_q := Lib.hid (B_q.out.below hb)
        replace hB := below_next hB hb
        clear hb
        go_wp2_with fail
        refine hK.out _ _ (by exact ⟨B_p.out.c3, B_q.out.c3, B_a.out.c3, B_b.out.c3, B_x.out.c3, B_y.out.c3⟩) (fun hHeld => ?_)
        clear hK K
        try simp only [Act.put, List.setIfInBounds_toArray, List.set_cons_zero, List.set_cons_succ]
        refine wpAnyH_takeQ 29 (v := ?_) (fun _ _ _ _ _ h => h) (by simp only [List.getElem?_toArray, List.getElem?_cons_succ, List.getElem?_cons_zero]; rfl) (by kernel_rfl) (by kernel_rfl) (by kernel_rfl) (by rfl) ?_ hHeld ?_; rotate_left; · (intro w hSw; (try dsimp only at hSw); go_simp; (try with_reducible rfl))
        try simp only [Act.put, List.setIfInBounds_toArray, List.set_cons_zero, List.set_cons_succ]
        refine wpAnyH_takeQ 30 (v := ?_) (fun _ _ _ _ _ h => h) (by simp only [List.getElem?_toArray, List.getElem?_cons_succ, List.getElem?_cons_zero]; rfl) (by kernel_rfl) (by kernel_rfl) (by kernel_rfl) (by rfl) ?_ hHeld ?_; rotate_left; · (intro w hSw; (try dsimp only at hSw); go_simp; (try with_reducible rfl))
        try simp only [Act.put, List.setIfInBounds_toArray, List.set_cons_zero, List.set_cons_succ]
        refine wpAnyH_done (by kernel_rfl) (NoPanic.normal ?_) _
        clear hHeld
        have c_a0 := B_a.out.cell0
        have c_a1 := B_a.out.cell1
        have c_a2 := B_a.out.cell2
        have c_b0 := B_b.out.cell0
        have c_b1 := B_b.out.cell1
        have c_b2 := B_b.out.cell2
        have c_x0 := B_x.out.cell0
        have c_x1 := B_x.out.cell1
        have c_x2 := B_x.out.cell2
        have c_y0 := B_y.out.cell0
        have c_y1 := B_y.out.cell1
        have c_y2 := B_y.out.cell2
        have c_p0 := B_p.out.cell0
        have c_p1 := B_p.out.cell1
        have c_p2 := B_p.out.cell2
        have c_q0 := B_q.out.cell0
        have c_q1 := B_q.out.cell1
        have c_q2 := B_q.out.cell2
        go_wp2
        clear c_a0 c_a1 c_a2 c_b0 c_b1 c_b2 c_x0 c_x1 c_x2 c_y0 c_y1 c_y2 c_p0 c_p1 c_p2 c_q0 c_q1 c_q2
        refine wp_region_named (S := (fun w' => (w'.cell? ⟨w.heap.size, 0, none⟩ = some (.bool b_a) ∧ w'.cell? ⟨w.heap.size, 1, none⟩ = some m_a ∧ w'.cell? ⟨w.heap.size, 2, none⟩ = some d_a) ∧ (w'.cell? ⟨w.heap.size + 1, 0, none⟩ = some (.bool b_b) ∧ w'.cell? ⟨w.heap.size + 1, 1, none⟩ = some m_b ∧ w'.cell? ⟨w.heap.size + 1, 2, none⟩ = some d_b) ∧ (w'.cell? ⟨g_x, 0, none⟩ = some (.bool b_a) ∧ w'.cell? ⟨g_x, 1, none⟩ = some (.slice A_x n_x c_x) ∧ w'.cell? ⟨g_x, 2, none⟩ = some (.slice D_x e_x f_x)) ∧ (w'.cell? ⟨g_y, 0, none⟩ = some (.bool b_b) ∧ w'.cell? ⟨g_y, 1, none⟩ = some (.slice A_y n_y c_y) ∧ w'.cell? ⟨g_y, 2, none⟩ = some (.slice D_y e_y f_y)))) (by kernel_rfl) (by exact ⟨B_a.out.c3, B_b.out.c3, B_x.out.c3, B_y.out.c3⟩) (fun V78 hb hHeld => ?_)
        replace HT := Lib.hid (HT.out.below hb)
        replace R_a := Lib.hid (R_a.out.below hb)
        replace R_b := Lib.hid (R_b.out.below hb)
        replace R_x := Lib.hid (R_x.out.below hb)
        replace R_y := Lib.hid (R_y.out.below hb)
        replace Q_p := Lib.hid (Q_p.out.below hb)
        replace Q_q := Lib.hid (Q_q.out.below hb)
        replace B_a := Lib.hid (B_a.out.below hb)
        replace B_b := Lib.hid (B_b.out.below hb)
        replace B_x := Lib.hid (B_x.out.below hb)
        replace B_y := Lib.hid (B_y.out.below hb)
        replace B_p := Lib.hid (B_p.out.below hb)
        replace B_q := Lib.hid (B_q.out.below hb)
        replace hB := below_next hB hb
        clear hb
        refine wpAnyH_takeQ 0 (v := ?_) (fun _ _ _ _ _ h => h) (by simp only [List.getElem?_toArray, List.getElem?_cons_zero]; rfl) (by kernel_rfl) (by kernel_rfl) (by kernel_rfl) (by rfl) ?_ hHeld ?_; rotate_left; · (intro w hSw; (try dsimp only at hSw); go_simp; (try with_reducible rfl))
        try simp only [Act.put, List.setIfInBounds_toArray, List.set_cons_zero, List.set_cons_succ]
        refine wpAnyH_takeQ 2 (v := ?_) (fun _ _ _ _ _ h => h) (by simp only [List.getElem?_toArray, List.getElem?_cons_succ, List.getElem?_cons_zero]; rfl) (by kernel_rfl) (by kernel_rfl) (by kernel_rfl) (by rfl) ?_ hHeld ?_; rotate_left; · (intro w hSw; (try dsimp only at hSw); go_simp; (try with_reducible rfl))
        try simp only [Act.put, List.setIfInBounds_toArray, List.set_cons_zero, List.set_cons_succ]
        refine wpAnyH_ready (rs := [1]) (by kernel_rfl) (by simp) ?_
        refine AllReadyH.cons (by simp only [List.getElem?_toArray, List.getElem?_cons_succ, List.getElem?_cons_zero]; rfl) (fun K hK => ?_) AllReadyH.nil
        go_simp
        clear hHeld
        refine (qnorm_any _ _ _ _ 10 _ (by exact R_a.out) (by omega) (by omega)).mono ?_
        rintro e w79 ⟨b_u1, A_u1, n_u1, c_u1, D_u1, e_u1, f_u1, rfl, h_u1, hb⟩
        replace HT := Lib.hid (HT.out.below hb)
        replace R_a := Lib.hid (R_a.out.below hb)
        replace R_b := Lib.hid (R_b.out.below hb)
        replace R_x := Lib.hid (R_x.out.below hb)
        replace R_y := Lib.hid (R_y.out.below hb)
        replace Q_p := Lib.hid (Q_p.out.below hb)
        replace Q_q := Lib.hid (Q_q.out.below hb)
        replace B_a := Lib.hid (B_a.out.below hb)
        replace B_b := Lib.hid (B_b.out.below hb)
        replace B_x := Lib.hid (B_x.out.below hb)
        replace B_y := Lib.hid (B_y.out.below hb)
        replace B_p := Lib.hid (B_p.out.below hb)
        replace B_q := Lib.hid (B_q.out.below hb)
        replace hB := below_next hB hb
        clear hb
        have Q_u1 := Lib.hid h_u1
        clear h_u1
        go_wp2_with fail
        refine hK.out _ _ (by exact ⟨B_a.out.c3, B_b.out.c3, B_x.out.c3, B_y.out.c3⟩) (fun hHeld => ?_)
        clear hK K
        try simp only [Act.put, List.setIfInBounds_toArray, List.set_cons_zero, List.set_cons_succ]
        refine wpAnyH_ready (rs := [3]) (by kernel_rfl) (by simp) ?_
        refine AllReadyH.cons (by simp only [List.getElem?_toArray, List.getElem?_cons_succ, List.getElem?_cons_zero]; rfl) (fun K hK => ?_) AllReadyH.nil
        go_simp
        clear hHeld
        refine (qnorm_any _ _ _ _ 110 _ (by exact R_x.out) (by omega) (by omega)).mono ?_
        rintro e w80 ⟨b_u2, A_u2, n_u2, c_u2, D_u2, e_u2, f_u2, rfl, h_u2, hb⟩
        replace HT := Lib.hid (HT.out.below hb)
        replace R_a := Lib.hid (R_a.out.below hb)
        replace R_b := Lib.hid (R_b.out.below hb)
        replace R_x := Lib.hid (R_x.out.below hb)
        replace R_y := Lib.hid (R_y.out.below hb)
        replace Q_p := Lib.hid (Q_p.out.below hb)
        replace Q_q := Lib.hid (Q_q.out.below hb)
        replace Q_u1 := Lib.hid (Q_u1.out.below hb)
        replace B_a := Lib.hid (B_a.out.below hb)
        replace B_b := Lib.hid (B_b.out.below hb)
        replace B_x := Lib.hid (B_x.out.below hb)
        replace B_y := Lib.hid (B_y.out.below hb)
        replace B_p := Lib.hid (B_p.out.below hb)
        replace B_q := Lib.hid (B_q.out.below hb)
        replace hB := below_next hB hb
        clear hb
        have Q_u2 := Lib.hid h_u2
        clear h_u2
        go_wp2_with fail
        refine hK.out _ _ (by exact ⟨B_a.out.c3, B_b.out.c3, B_x.out.c3, B_y.out.c3⟩) (fun hHeld => ?_)
        clear hK K
        try simp only [Act.put, List.setIfInBounds_toArray, List.set_cons_zero, List.set_cons_succ]
        refine wpAnyH_ready (rs := [4]) (by kernel_rfl) (by simp) ?_
        refine AllReadyH.cons (by simp only [List.getElem?_toArray, List.getElem?_cons_succ, List.getElem?_cons_zero]; rfl) (fun K hK => ?_) AllReadyH.nil
        go_simp
        clear hHeld
        refine (rsame_q (by exact Q_u1.out) (by exact Q_u2.out) rfl).mono ?_
        rintro e w81 ⟨rfl, hb⟩
        replace HT := Lib.hid (HT.out.below hb)
        replace R_a := Lib.hid (R_a.out.below hb)
        replace R_b := Lib.hid (R_b.out.below hb)
        replace R_x := Lib.hid (R_x.out.below hb)
        replace R_y := Lib.hid (R_y.out.below hb)
        replace Q_p := Lib.hid (Q_p.out.below hb)
        replace Q_q := Lib.hid (Q_q.out.below hb)
        replace Q_u1 := Lib.hid (Q_u1.out.below hb)
        replace Q_u2 := Lib.hid (Q_u2.out.below hb)
        replace B_a := Lib.hid (B_a.out.below hb)
        replace B_b := Lib.hid (B_b.out.below hb)
        replace B_x := Lib.hid (B_x.out.below hb)
        replace B_y := Lib.hid (B_y.out.below hb)
        replace B_p := Lib.hid (B_p.out.below hb)
        replace B_q := Lib.hid (B_q.out.below hb)
        replace hB := below_next hB hb
        clear hb
        clear Q_u1
        clear Q_u2
        go_wp2_with fail
        refine hK.out _ _ (by exact ⟨B_a.out.c3, B_b.out.c3, B_x.out.c3, B_y.out.c3⟩) (fun hHeld => ?_)
        clear hK K
        try simp only [Act.put, List.setIfInBounds_toArray, List.set_cons_zero, List.set_cons_succ]
        refine wpAnyH_takeQ 5 (v := ?_) (fun _ _ _ _ _ h => h) (by simp only [List.getElem?_toArray, List.getElem?_cons_succ, List.getElem?_cons_zero]; rfl) (by kernel_rfl) (by kernel_rfl) (by kernel_rfl) (by rfl) ?_ hHeld ?_; rotate_left; · (intro w hSw; (try dsimp only at hSw); go_simp; (try with_reducible rfl))
        try simp only [Act.put, List.setIfInBounds_toArray, List.set_cons_zero, List.set_cons_succ]
        refine wpAnyH_takeQ 6 (v := ?_) (fun _ _ _ _ _ h => h) (by simp only [List.getElem?_toArray, List.getElem?_cons_succ, List.getElem?_cons_zero]; rfl) (by kernel_rfl) (by kernel_rfl) (by kernel_rfl) (by rfl) ?_ hHeld ?_; rotate_left; · (intro w hSw; (try dsimp only at hSw); go_simp; (try with_reducible rfl))
        try simp only [Act.put, List.setIfInBounds_toArray, List.set_cons_zero, List.set_cons_succ]
        refine wpAnyH_takeQ 7 (v := ?_) (fun _ _ _ _ _ h => h) (by simp only [List.getElem?_toArray, List.getElem?_cons_succ, List.getElem?_cons_zero]; rfl) (by kernel_rfl) (by kernel_rfl) (by kernel_rfl) (by rfl) ?_ hHeld ?_; rotate_left; · (intro w hSw; (try dsimp only at hSw); go_simp; (try with_reducible rfl))
        try simp only [Act.put, List.setIfInBounds_toArray, List.set_cons_zero, List.set_cons_succ]
        refine wpAnyH_takeQ 9 (v := ?_) (fun _ _ _ _ _ h => h) (by simp only [List.getElem?_toArray, List.getElem?_cons_succ, List.getElem?_cons_zero]; rfl) (by kernel_rfl) (by kernel_rfl) (by kernel_rfl) (by rfl) ?_ hHeld ?_; rotate_left; · (intro w hSw; (try dsimp only at hSw); go_simp; (try with_reducible rfl))
        try simp only [Act.put, List.setIfInBounds_toArray, List.set_cons_zero, List.set_cons_succ]
        refine wpAnyH_takeQ 10 (v := ?_) (fun _ _ _ _ _ h => h) (by simp only [List.getElem?_toArray, List.getElem?_cons_succ, List.getElem?_cons_zero]; rfl) (by kernel_rfl) (by kernel_rfl) (by kernel_rfl) (by rfl) ?_ hHeld ?_; rotate_left; · (intro w hSw; (try dsimp only at hSw); go_simp; (try with_reducible rfl))
        try simp only [Act.put, List.setIfInBounds_toArray, List.set_cons_zero, List.set_cons_succ]
        refine wpAnyH_ready (rs := [8]) (by kernel_rfl) (by simp) ?_
        refine AllReadyH.cons (by simp only [List.getElem?_toArray, List.getElem?_cons_succ, List.getElem?_cons_zero]; rfl) (fun K hK => ?_) AllReadyH.nil
        go_simp
        clear hHeld
        refine (qadd_any _ _ _ _ 10 _ _ _ _ 10 _ (by exact R_a.out) (by exact R_b.out) (by omega) (by omega) (by omega) (by omega)).mono ?_
        rintro e w82 ⟨b_u3, A_u3, n_u3, c_u3, D_u3, e_u3, f_u3, rfl, h_u3, hb⟩
        replace HT := Lib.hid (HT.out.below hb)
        replace R_a := Lib.hid (R_a.out.below hb)
        replace R_b := Lib.hid (R_b.out.below hb)
        replace R_x := Lib.hid (R_x.out.below hb)
        replace R_y := Lib.hid (R_y.out.below hb)
        replace Q_p := Lib.hid (Q_p.out.below hb)
        replace Q_q := Lib.hid (Q_q.out.below hb)
        replace B_a := Lib.hid (B_a.out.below hb)
        replace B_b := Lib.hid (B_b.out.below hb)
        replace B_x := Lib.hid (B_x.out.below hb)
        replace B_y := Lib.hid (B_y.out.below hb)
        replace B_p := Lib.hid (B_p.out.below hb)
        replace B_q := Lib.hid (B_q.out.below hb)
        replace hB := below_next hB hb
        clear hb
        have Q_u3 := Lib.hid h_u3
        clear h_u3
        go_wp2_with fail
        refine hK.out _ _ (by exact ⟨B_a.out.c3, B_b.out.c3, B_x.out.c3, B_y.out.c3⟩) (fun hHeld => ?_)
        clear hK K
        try simp only [Act.put, List.setIfInBounds_toArray, List.set_cons_zero, List.set_cons_succ]
        refine wpAnyH_ready (rs := [11]) (by kernel_rfl) (by simp) ?_
        refine AllReadyH.cons (by simp only [List.getElem?_toArray, List.getElem?_cons_succ, List.getElem?_cons_zero]; rfl) (fun K hK => ?_) AllReadyH.nil
        go_simp
        clear hHeld
        refine (qadd_any _ _ _ _ 110 _ _ _ _ 110 _ (by exact R_x.out) (by exact R_y.out) (by omega) (by omega) (by omega) (by omega)).mono ?_
        rintro e w83 ⟨b_u4, A_u4, n_u4, c_u4, D_u4, e_u4, f_u4, rfl, h_u4, hb⟩
        replace HT := Lib.hid (HT.out.below hb)
        replace R_a := Lib.hid (R_a.out.below hb)
        replace R_b := Lib.hid (R_b.out.below hb)
        replace R_x := Lib.hid (R_x.out.below hb)
        replace R_y := Lib.hid (R_y.out.below hb)
        replace Q_p := Lib.hid (Q_p.out.below hb)
        replace Q_q := Lib.hid (Q_q.out.below hb)
        replace Q_u3 := Lib.hid (Q_u3.out.below hb)
        replace B_a := Lib.hid (B_a.out.below hb)
        replace B_b := Lib.hid (B_b.out.below hb)
        replace B_x := Lib.hid (B_x.out.below hb)
        replace B_y := Lib.hid (B_y.out.below hb)
        replace B_p := Lib.hid (B_p.out.below hb)
        replace B_q := Lib.hid (B_q.out.below hb)
        replace hB := below_next hB hb
        clear hb
        have Q_u4 := Lib.hid h_u4
        clear h_u4
        go_wp2_with fail
        refine hK.out _ _ (by exact ⟨B_a.out.c3, B_b.out.c3, B_x.out.c3, B_y.out.c3⟩) (fun hHeld => ?_)
        clear hK K
        try simp only [Act.put, List.setIfInBounds_toArray, List.set_cons_zero, List.set_cons_succ]
        refine wpAnyH_ready (rs := [12]) (by kernel_rfl) (by simp) ?_
        refine AllReadyH.cons (by simp only [List.getElem?_toArray, List.getElem?_cons_succ, List.getElem?_cons_zero]; rfl) (fun K hK => ?_) AllReadyH.nil
        go_simp
        clear hHeld
        refine (rsame_q (by exact Q_u3.out) (by exact Q_u4.out) rfl).mono ?_
        rintro e w84 ⟨rfl, hb⟩
        replace HT := Lib.hid (HT.out.below hb)
        replace R_a := Lib.hid (R_a.out.below hb)
        replace R_b := Lib.hid (R_b.out.below hb)
        replace R_x := Lib.hid (R_x.out.below hb)
        replace R_y := Lib.hid (R_y.out.below hb)
        replace Q_p := Lib.hid (Q_p.out.below hb)
        replace Q_q := Lib.hid (Q_q.out.below hb)
        replace Q_u3 := Lib.hid (Q_u3.out.below hb)
        replace Q_u4 := Lib.hid (Q_u4.out.below hb)
        replace B_a := Lib.hid (B_a.out.below hb)
        replace B_b := Lib.hid (B_b.out.below hb)
        replace B_x := Lib.hid (B_x.out.below hb)
        replace B_y := Lib.hid (B_y.out.below hb)
        replace B_p := Lib.hid (B_p.out.below hb)
        replace B_q := Lib.hid (B_q.out.below hb)
        replace hB := below_next hB hb
        clear hb
        clear Q_u3
        clear Q_u4
        go_wp2_with fail
        refine hK.out _ _ (by exact ⟨B_a.out.c3, B_b.out.c3, B_x.out.c3, B_y.out.c3⟩) (fun hHeld => ?_)
        clear hK K
        try simp only [Act.put, List.setIfInBounds_toArray, List.set_cons_zero, List.set_cons_succ]
        refine wpAnyH_takeQ 13 (v := ?_) (fun _ _ _ _ _ h => h) (by simp only [List.getElem?_toArray, List.getElem?_cons_succ, List.getElem?_cons_zero]; rfl) (by kernel_rfl) (by kernel_rfl) (by kernel_rfl) (by rfl) ?_ hHeld ?_; rotate_left; · (intro w hSw; (try dsimp only at hSw); go_simp; (try with_reducible rfl))
        try simp only [Act.put, List.setIfInBounds_toArray, List.set_cons_zero, List.set_cons_succ]
        refine wpAnyH_takeQ 14 (v := ?_) (fun _ _ _ _ _ h => h) (by simp only [List.getElem?_toArray, List.getElem?_cons_succ, List.getElem?_cons_zero]; rfl) (by kernel_rfl) (by kernel_rfl) (by kernel_rfl) (by rfl) ?_ hHeld ?_; rotate_left; · (intro w hSw; (try dsimp only at hSw); go_simp; (try with_reducible rfl))
        try simp only [Act.put, List.setIfInBounds_toArray, List.set_cons_zero, List.set_cons_succ]
        refine wpAnyH_takeQ 15 (v := ?_) (fun _ _ _ _ _ h => h) (by simp only [List.getElem?_toArray, List.getElem?_cons_succ, List.getElem?_cons_zero]; rfl) (by kernel_rfl) (by kernel_rfl) (by kernel_rfl) (by rfl) ?_ hHeld ?_; rotate_left; · (intro w hSw; (try dsimp only at hSw); go_simp; (try with_reducible rfl))
        try simp only [Act.put, List.setIfInBounds_toArray, List.set_cons_zero, List.set_cons_succ]
        refine wpAnyH_takeQ 16 (v := ?_) (fun _ _ _ _ _ h => h) (by simp only [List.getElem?_toArray, List.getElem?_cons_succ, List.getElem?_cons_zero]; rfl) (by kernel_rfl) (by kernel_rfl) (by kernel_rfl) (by rfl) ?_ hHeld ?_; rotate_left; · (intro w hSw; (try dsimp only at hSw); go_simp; (try with_reducible rfl))
        try simp only [Act.put, List.setIfInBounds_toArray, List.set_cons_zero, List.set_cons_succ]
        refine wpAnyH_takeQ 18 (v := ?_) (fun _ _ _ _ _ h => h) (by simp only [List.getElem?_toArray, List.getElem?_cons_succ, List.getElem?_cons_zero]; rfl) (by kernel_rfl) (by kernel_rfl) (by kernel_rfl) (by rfl) ?_ hHeld ?_; rotate_left; · (intro w hSw; (try dsimp only at hSw); go_simp; (try with_reducible rfl))
        try simp only [Act.put, List.setIfInBounds_toArray, List.set_cons_zero, List.set_cons_succ]
        refine wpAnyH_takeQ 19 (v := ?_) (fun _ _ _ _ _ h => h) (by simp only [List.getElem?_toArray, List.getElem?_cons_succ, List.getElem?_cons_zero]; rfl) (by kernel_rfl) (by kernel_rfl) (by kernel_rfl) (by rfl) ?_ hHeld ?_; rotate_left; · (intro w hSw; (try dsimp only at hSw); go_simp; (try with_reducible rfl))
        try simp only [Act.put, List.setIfInBounds_toArray, List.set_cons_zero, List.set_cons_succ]
        refine wpAnyH_ready (rs := [17]) (by kernel_rfl) (by simp) ?_
        refine AllReadyH.cons (by simp only [List.getElem?_toArray, List.getElem?_cons_succ, List.getElem?_cons_zero]; rfl) (fun K hK => ?_) AllReadyH.nil
        go_simp
        clear hHeld
        refine (qmul_any _ _ _ _ 10 _ _ _ _ 10 _ (by exact R_a.out) (by exact R_b.out) (by omega) (by omega) (by omega) (by omega)).mono ?_
        rintro e w85 ⟨b_u5, A_u5, n_u5, c_u5, D_u5, e_u5, f_u5, rfl, h_u5, hb⟩
        replace HT := Lib.hid (HT.out.below hb)
        replace R_a := Lib.hid (R_a.out.below hb)
        replace R_b := Lib.hid (R_b.out.below hb)
        replace R_x := Lib.hid (R_x.out.below hb)
        replace R_y := Lib.hid (R_y.out.below hb)
        replace Q_p := Lib.hid (Q_p.out.below hb)
        replace Q_q := Lib.hid (Q_q.out.below hb)
        replace B_a := Lib.hid (B_a.out.below hb)
        replace B_b := Lib.hid (B_b.out.below hb)
        replace B_x := Lib.hid (B_x.out.below hb)
        replace B_y := Lib.hid (B_y.out.below hb)
        replace B_p := Lib.hid (B_p.out.below hb)
        replace B_q := Lib.hid (B_q.out.below hb)
        replace hB := below_next hB hb
        clear hb
        have Q_u5 := Lib.hid h_u5
        clear h_u5
        go_wp2_with fail
        refine hK.out _ _ (by exact ⟨B_a.out.c3, B_b.out.c3, B_x.out.c3, B_y.out.c3⟩) (fun hHeld => ?_)
        clear hK K
        try simp only [Act.put, List.setIfInBounds_toArray, List.set_cons_zero, List.set_cons_succ]
        refine wpAnyH_ready (rs := [20]) (by kernel_rfl) (by simp) ?_
        refine AllReadyH.cons (by simp only [List.getElem?_toArray, List.getElem?_cons_succ, List.getElem?_cons_zero]; rfl) (fun K hK => ?_) AllReadyH.nil
        go_simp
        clear hHeld
        refine (qmul_any _ _ _ _ 110 _ _ _ _ 110 _ (by exact R_x.out) (by exact R_y.out) (by omega) (by omega) (by omega) (by omega)).mono ?_
        rintro e w86 ⟨b_u6, A_u6, n_u6, c_u6, D_u6, e_u6, f_u6, rfl, h_u6, hb⟩
        replace HT := Lib.hid (HT.out.below hb)
        replace R_a := Lib.hid (R_a.out.below hb)
        replace R_b := Lib.hid (R_b.out.below hb)
        replace R_x := Lib.hid (R_x.out.below hb)
        replace R_y := Lib.hid (R_y.out.below hb)
        replace Q_p := Lib.hid (Q_p.out.below hb)
        replace Q_q := Lib.hid (Q_q.out.below hb)
        replace Q_u5 := Lib.hid (Q_u5.out.below hb)
        replace B_a := Lib.hid (B_a.out.below hb)
        replace B_b := Lib.hid (B_b.out.below hb)
        replace B_x := Lib.hid (B_x.out.below hb)
        replace B_y := Lib.hid (B_y.out.below hb)
        replace B_p := Lib.hid (B_p.out.below hb)
        replace B_q := Lib.hid (B_q.out.below hb)
        replace hB := below_next hB hb
        clear hb
        have Q_u6 := Lib.hid h_u6
        clear h_u6
        go_wp2_with fail
        refine hK.out _ _ (by exact ⟨B_a.out.c3, B_b.out.c3, B_x.out.c3, B_y.out.c3⟩) (fun hHeld => ?_)
        clear hK K
        try simp only [Act.put, List.setIfInBounds_toArray, List.set_cons_zero, List.set_cons_succ]
        refine wpAnyH_ready (rs := [21]) (by kernel_rfl) (by simp) ?_
        refine AllReadyH.cons (by simp only [List.getElem?_toArray, List.getElem?_cons_succ, List.getElem?_cons_zero]; rfl) (fun K hK => ?_) AllReadyH.nil
        go_simp
        clear hHeld
        refine (rsame_q (by exact Q_u5.out) (by exact Q_u6.out) rfl).mono ?_
        rintro e w87 ⟨rfl, hb⟩
        replace HT := Lib.hid (HT.out.below hb)
        replace R_a := Lib.hid (R_a.out.below hb)
        replace R_b := Lib.hid (R_b.out.below hb)
        replace R_x := Lib.hid (R_x.out.below hb)
        replace R_y := Lib.hid (R_y.out.below hb)
        replace Q_p := Lib.hid (Q_p.out.below hb)
        replace Q_q := Lib.hid (Q_q.out.below hb)
        replace Q_u5 := Lib.hid (Q_u5.out.below hb)
        replace Q_u6 := Lib.hid (Q_u6.out.below hb)
        replace B_a := Lib.hid (B_a.out.below hb)
        replace B_b := Lib.hid (B_b.out.below hb)
        replace B_x := Lib.hid (B_x.out.below hb)
        replace B_y := Lib.hid (B_y.out.below hb)
        replace B_p := Lib.hid (B_p.out.below hb)
        replace B_q := Lib.hid (B_q.out.below hb)
        replace hB := below_next hB hb
        clear hb
        clear Q_u5
        clear Q_u6
        go_wp2_with fail
        refine hK.out _ _ (by exact ⟨B_a.out.c3, B_b.out.c3, B_x.out.c3, B_y.out.c3⟩) (fun hHeld => ?_)
        clear hK K
        try simp only [Act.put, List.setIfInBounds_toArray, List.set_cons_zero, List.set_cons_succ]
        refine wpAnyH_takeQ 22 (v := ?_) (fun _ _ _ _ _ h => h) (by simp only [List.getElem?_toArray, List.getElem?_cons_succ, List.getElem?_cons_zero]; rfl) (by kernel_rfl) (by kernel_rfl) (by kernel_rfl) (by rfl) ?_ hHeld ?_; rotate_left; · (intro w hSw; (try dsimp only at hSw); go_simp; (try with_reducible rfl))
        try simp only [Act.put, List.setIfInBounds_toArray, List.set_cons_zero, List.set_cons_succ]
        refine wpAnyH_takeQ 23 (v := ?_) (fun _ _ _ _ _ h => h) (by simp only [List.getElem?_toArray, List.getElem?_cons_succ, List.getElem?_cons_zero]; rfl) (by kernel_rfl) (by kernel_rfl) (by kernel_rfl) (by rfl) ?_ hHeld ?_; rotate_left; · (intro w hSw; (try dsimp only at hSw); go_simp; (try with_reducible rfl))
        try simp only [Act.put, List.setIfInBounds_toArray, List.set_cons_zero, List.set_cons_succ]
        refine wpAnyH_takeQ 24 (v := ?_) (fun _ _ _ _ _ h => h) (by simp only [List.getElem?_toArray, List.getElem?_cons_succ, List.getElem?_cons_zero]; rfl) (by kernel_rfl) (by kernel_rfl) (by kernel_rfl) (by rfl) ?_ hHeld ?_; rotate_left; · (intro w hSw; (try dsimp only at hSw); go_simp; (try with_reducible rfl))
        try simp only [Act.put, List.setIfInBounds_toArray, List.set_cons_zero, List.set_cons_succ]
        refine wpAnyH_takeQ 26 (v := ?_) (fun _ _ _ _ _ h => h) (by simp only [List.getElem?_toArray, List.getElem?_cons_succ, List.getElem?_cons_zero]; rfl) (by kernel_rfl) (by kernel_rfl) (by kernel_rfl) (by rfl) ?_ hHeld ?_; rotate_left; · (intro w hSw; (try dsimp only at hSw); go_simp; (try with_reducible rfl))
        try simp only [Act.put, List.setIfInBounds_toArray, List.set_cons_zero, List.set_cons_succ]
        refine wpAnyH_ready (rs := [25]) (by kernel_rfl) (by simp) ?_
        refine AllReadyH.cons (by simp only [List.getElem?_toArray, List.getElem?_cons_succ, List.getElem?_cons_zero]; rfl) (fun K hK => ?_) AllReadyH.nil
        go_simp
        clear hHeld
        refine (qround_any _ _ _ _ 10 _ (by exact R_a.out) (by omega) (by omega)).mono ?_
        rintro e w88 ⟨b_v1, A_v1, n_v1, c_v1, rfl, h_v1, hb⟩
        replace HT := Lib.hid (HT.out.below hb)
        replace R_a := Lib.hid (R_a.out.below hb)
        replace R_b := Lib.hid (R_b.out.below hb)
        replace R_x := Lib.hid (R_x.out.below hb)
        replace R_y := Lib.hid (R_y.out.below hb)
        replace Q_p := Lib.hid (Q_p.out.below hb)
        replace Q_q := Lib.hid (Q_q.out.below hb)
        replace B_a := Lib.hid (B_a.out.below hb)
        replace B_b := Lib.hid (B_b.out.below hb)
        replace B_x := Lib.hid (B_x.out.below hb)
        replace B_y := Lib.hid (B_y.out.below hb)
        replace B_p := Lib.hid (B_p.out.below hb)
        replace B_q := Lib.hid (B_q.out.below hb)
        replace hB := below_next hB hb
        clear hb
        have Z_v1 := Lib.hid h_v1
        clear h_v1
        go_wp2_with fail
        refine hK.out _ _ (by exact ⟨B_a.out.c3, B_b.out.c3, B_x.out.c3, B_y.out.c3⟩) (fun hHeld => ?_)
        clear hK K
        try simp only [Act.put, List.setIfInBounds_toArray, List.set_cons_zero, List.set_cons_succ]
        refine wpAnyH_ready (rs := [27]) (by kernel_rfl) (by simp) ?_
        refine AllReadyH.cons (by simp only [List.getElem?_toArray, List.getElem?_cons_succ, List.getElem?_cons_zero]; rfl) (fun K hK => ?_) AllReadyH.nil
        go_simp
        clear hHeld
        refine (qround_any _ _ _ _ 110 _ (by exact R_x.out) (by omega) (by omega)).mono ?_
        rintro e w89 ⟨b_v2, A_v2, n_v2, c_v2, rfl, h_v2, hb⟩
        replace HT := Lib.hid (HT.out.below hb)
        replace R_a := Lib.hid (R_a.out.below hb)
        replace R_b := Lib.hid (R_b.out.below hb)
        replace R_x := Lib.hid (R_x.out.below hb)
        replace R_y := Lib.hid (R_y.out.below hb)
        replace Q_p := Lib.hid (Q_p.out.below hb)
        replace Q_q := Lib.hid (Q_q.out.below hb)
        replace Z_v1 := Lib.hid (Z_v1.out.below hb)
        replace B_a := Lib.hid (B_a.out.below hb)
        replace B_b := Lib.hid (B_b.out.below hb)
        replace B_x := Lib.hid (B_x.out.below hb)
        replace B_y := Lib.hid (B_y.out.below hb)
        replace B_p := Lib.hid (B_p.out.below hb)
        replace B_q := Lib.hid (B_q.out.below hb)
        replace hB := below_next hB hb
        clear hb
        have Z_v2 := Lib.hid h_v2
        clear h_v2
        go_wp2_with fail
        refine hK.out _ _ (by exact ⟨B_a.out.c3, B_b.out.c3, B_x.out.c3, B_y.out.c3⟩) (fun hHeld => ?_)
        clear hK K
        try simp only [Act.put, List.setIfInBounds_toArray, List.set_cons_zero, List.set_cons_succ]
        refine wpAnyH_ready (rs := [28]) (by kernel_rfl) (by simp) ?_
        refine AllReadyH.cons (by simp only [List.getElem?_toArray, List.getElem?_cons_succ, List.getElem?_cons_zero]; rfl) (fun K hK => ?_) AllReadyH.nil
        go_simp
        clear hHeld
        refine (rsameint_z (by exact Z_v1.out) (by exact Z_v2.out) rfl).mono ?_
        rintro e w90 ⟨rfl, hb⟩
        replace HT := Lib.hid (HT.out.below hb)
        replace R_a := Lib.hid (R_a.out.below hb)
        replace R_b := Lib.hid (R_b.out.below hb)
        replace R_x := Lib.hid (R_x.out.below hb)
        replace R_y := Lib.hid (R_y.out.below hb)
        replace Q_p := Lib.hid (Q_p.out.below hb)
        replace Q_q := Lib.hid (Q_q.out.below hb)
        replace Z_v1 := Lib.hid (Z_v1.out.below hb)
        replace Z_v2 := Lib.hid (Z_v2.out.below hb)
        replace B_a := Lib.hid (B_a.out.below hb)
        replace B_b := Lib.hid (B_b.out.below hb)
        replace B_x := Lib.hid (B_x.out.below hb)
        replace B_y := Lib.hid (B_y.out.below hb)
        replace B_p := Lib.hid (B_p.out.below hb)
        replace B_q := Lib.hid (B_q.out.below hb)
        replace hB := below_next hB hb
        clear hb
        clear Z_v1
        clear Z_v2
        go_wp2_with fail
        refine hK.out _ _ (by exact ⟨B_a.out.c3, B_b.out.c3, B_x.out.c3, B_y.out.c3⟩) (fun hHeld => ?_)
        clear hK K
        try simp only [Act.put, List.setIfInBounds_toArray, List.set_cons_zero, List.set_cons_succ]
        refine wpAnyH_takeQ 29 (v := ?_) (fun _ _ _ _ _ h => h) (by simp only [List.getElem?_toArray, List.getElem?_cons_succ, List.getElem?_cons_zero]; rfl) (by kernel_rfl) (by kernel_rfl) (by kernel_rfl) (by rfl) ?_ hHeld ?_; rotate_left; · (intro w hSw; (try dsimp only at hSw); go_simp; (try with_reducible rfl))
        try simp only [Act.put, List.setIfInBounds_toArray, List.set_cons_zero, List.set_cons_succ]
        refine wpAnyH_takeQ 30 (v := ?_) (fun _ _ _ _ _ h => h) (by simp only [List.getElem?_toArray, List.getElem?_cons_succ, List.getElem?_cons_zero]; rfl) (by kernel_rfl) (by kernel_rfl) (by kernel_rfl) (by rfl) ?_ hHeld ?_; rotate_left; · (intro w hSw; (try dsimp only at hSw); go_simp; (try with_reducible rfl))
        try simp only [Act.put, List.setIfInBounds_toArray, List.set_cons_zero, List.set_cons_succ]
        refine wpAnyH_takeQ 31 (v := ?_) (fun _ _ _ _ _ h => h) (by simp only [List.getElem?_toArray, List.getElem?_cons_succ, List.getElem?_cons_zero]; rfl) (by kernel_rfl) (by kernel_rfl) (by kernel_rfl) (by rfl) ?_ hHeld ?_; rotate_left; · (intro w hSw; (try dsimp only at hSw); go_simp; (try with_reducible rfl))
        try simp only [Act.put, List.setIfInBounds_toArray, List.set_cons_zero, List.set_cons_succ]
        refine wpAnyH_takeQ 33 (v := ?_) (fun _ _ _ _ _ h => h) (by simp only [List.getElem?_toArray, List.getElem?_cons_succ, List.getElem?_cons_zero]; rfl) (by kernel_rfl) (by kernel_rfl) (by kernel_rfl) (by rfl) ?_ hHeld ?_; rotate_left; · (intro w hSw; (try dsimp only at hSw); go_simp; (try with_reducible rfl))
        try simp only [Act.put, List.setIfInBounds_toArray, List.set_cons_zero, List.set_cons_succ]
        refine wpAnyH_ready (rs := [32]) (by kernel_rfl) (by simp) ?_
        refine AllReadyH.cons (by simp only [List.getElem?_toArray, List.getElem?_cons_succ, List.getElem?_cons_zero]; rfl) (fun K hK => ?_) AllReadyH.nil
        go_simp
        clear hHeld
        refine (qfloor_any _ _ _ _ 10 _ (by exact R_a.out) (by omega) (by omega)).mono ?_
        rintro e w91 ⟨b_v3, A_v3, n_v3, c_v3, rfl, h_v3, hb⟩
        replace HT := Lib.hid (HT.out.below hb)
        replace R_a := Lib.hid (R_a.out.below hb)
        replace R_b := Lib.hid (R_b.out.below hb)
        replace R_x := Lib.hid (R_x.out.below hb)
        replace R_y := Lib.hid (R_y.out.below hb)
        replace Q_p := Lib.hid (Q_p.out.below hb)
        replace Q_q := Lib.hid (Q_q.out.below hb)
        replace B_a := Lib.hid (B_a.out.below hb)
        replace B_b := Lib.hid (B_b.out.below hb)
        replace B_x := Lib.hid (B_x.out.below hb)
        replace B_y := Lib.hid (B_y.out.below hb)
        replace B_p := Lib.hid (B_p.out.below hb)
        replace B_q := Lib.hid (B_q.out.below hb)
        replace hB := below_next hB hb
        clear hb
        have Z_v3 := Lib.hid h_v3
        clear h_v3
        go_wp2_with fail
        refine hK.out _ _ (by exact ⟨B_a.out.c3, B_b.out.c3, B_x.out.c3, B_y.out.c3⟩) (fun hHeld => ?_)
        clear hK K
        try simp only [Act.put, List.setIfInBounds_toArray, List.set_cons_zero, List.set_cons_succ]
        refine wpAnyH_ready (rs := [34]) (by kernel_rfl) (by simp) ?_
        refine AllReadyH.cons (by simp only [List.getElem?_toArray, List.getElem?_cons_succ, List.getElem?_cons_zero]; rfl) (fun K hK => ?_) AllReadyH.nil
        go_simp
        clear hHeld
        refine (qfloor_any _ _ _ _ 110 _ (by exact R_x.out) (by omega) (by omega)).mono ?_
        rintro e w92 ⟨b_v4, A_v4, n_v4, c_v4, rfl, h_v4, hb⟩
        replace HT := Lib.hid (HT.out.below hb)
        replace R_a := Lib.hid (R_a.out.below hb)
        replace R_b := Lib.hid (R_b.out.below hb)
        replace R_x := Lib.hid (R_x.out.below hb)
        replace R_y := Lib.hid (R_y.out.below hb)
        replace Q_p := Lib.hid (Q_p.out.below hb)
        replace Q_q := Lib.hid (Q_q.out.below hb)
        replace Z_v3 := Lib.hid (Z_v3.out.below hb)
        replace B_a := Lib.hid (B_a.out.below hb)
        replace B_b := Lib.hid (B_b.out.below hb)
        replace B_x := Lib.hid (B_x.out.below hb)
        replace B_y := Lib.hid (B_y.out.below hb)
        replace B_p := Lib.hid (B_p.out.below hb)
        replace B_q := Lib.hid (B_q.out.below hb)
        replace hB := below_next hB hb
        clear hb
        have Z_v4 := Lib.hid h_v4
        clear h_v4
        go_wp2_with fail
        refine hK.out _ _ (by exact ⟨B_a.out.c3, B_b.out.c3, B_x.out.c3, B_y.out.c3⟩) (fun hHeld => ?_)
        clear hK K
        try simp only [Act.put, List.setIfInBounds_toArray, List.set_cons_zero, List.set_cons_succ]
        refine wpAnyH_ready (rs := [35]) (by kernel_rfl) (by simp) ?_
        refine AllReadyH.cons (by simp only [List.getElem?_toArray, List.getElem?_cons_succ, List.getElem?_cons_zero]; rfl) (fun K hK => ?_) AllReadyH.nil
        go_simp
        clear hHeld
        refine (rsameint_z (by exact Z_v3.out) (by exact Z_v4.out) rfl).mono ?_
        rintro e w93 ⟨rfl, hb⟩
        replace HT := Lib.hid (HT.out.below hb)
        replace R_a := Lib.hid (R_a.out.below hb)
        replace R_b := Lib.hid (R_b.out.below hb)
        replace R_x := Lib.hid (R_x.out.below hb)
        replace R_y := Lib.hid (R_y.out.below hb)
        replace Q_p := Lib.hid (Q_p.out.below hb)
        replace Q_q := Lib.hid (Q_q.out.below hb)
        replace Z_v3 := Lib.hid (Z_v3.out.below hb)
        replace Z_v4 := Lib.hid (Z_v4.out.below hb)
        replace B_a := Lib.hid (B_a.out.below hb)
        replace B_b := Lib.hid (B_b.out.below hb)
        replace B_x := Lib.hid (B_x.out.below hb)
        replace B_y := Lib.hid (B_y.out.below hb)
        replace B_p := Lib.hid (B_p.out.below hb)
        replace B_q := Lib.hid (B_q.out.below hb)
        replace hB := below_next hB hb
        clear hb
        clear Z_v3
        clear Z_v4
        go_wp2_with fail
        refine hK.out _ _ (by exact ⟨B_a.out.c3, B_b.out.c3, B_x.out.c3, B_y.out.c3⟩) (fun hHeld => ?_)
        clear hK K
        try simp only [Act.put, List.setIfInBounds_toArray, List.set_cons_zero, List.set_cons_succ]
        refine wpAnyH_takeQ 36 (v := ?_) (fun _ _ _ _ _ h => h) (by simp only [List.getElem?_toArray, List.getElem?_cons_succ, List.getElem?_cons_zero]; rfl) (by kernel_rfl) (by kernel_rfl) (by kernel_rfl) (by rfl) ?_ hHeld ?_; rotate_left; · (intro w hSw; (try dsimp only at hSw); go_simp; (try with_reducible rfl))
        try simp only [Act.put, List.setIfInBounds_toArray, List.set_cons_zero, List.set_cons_succ]
        refine wpAnyH_takeQ 37 (v := ?_) (fun _ _ _ _ _ h => h) (by simp only [List.getElem?_toArray, List.getElem?_cons_succ, List.getElem?_cons_zero]; rfl) (by kernel_rfl) (by kernel_rfl) (by kernel_rfl) (by rfl) ?_ hHeld ?_; rotate_left; · (intro w hSw; (try dsimp only at hSw); go_simp; (try with_reducible rfl))
        try simp only [Act.put, List.setIfInBounds_toArray, List.set_cons_zero, List.set_cons_succ]
        refine wpAnyH_ready (rs := [38]) (by kernel_rfl) (by simp) ?_
        refine AllReadyH.cons (by simp only [List.getElem?_toArray, List.getElem?_cons_succ, List.getElem?_cons_zero]; rfl) (fun K hK => ?_) AllReadyH.nil
        go_simp
        clear hHeld
        refine (holds_any _ (by exact HT.out)).mono ?_
        rintro e w94 ⟨rfl, hb⟩
        replace HT := Lib.hid (HT.out.below hb)
        replace R_a := Lib.hid (R_a.out.below hb)
        replace R_b := Lib.hid (R_b.out.below hb)
        replace R_x := Lib.hid (R_x.out.below hb)
        replace R_y := Lib.hid (R_y.out.below hb)
        replace Q_p := Lib.hid (Q_p.out.below hb)
        replace Q_q := Lib.hid (Q_q.out.below hb)
        replace B_a := Lib.hid (B_a.out.below hb)
        replace B_b := Lib.hid (B_b.out.below hb)
        replace B_x := Lib.hid (B_x.out.below hb)
        replace B_y := Lib.hid (B_y.out.below hb)
        replace B_p := Lib.hid (B_p.out.below hb)
        replace B_q := Lib.hid (B_q.out.below hb)
        replace hB := below_next hB hb
        clear hb
        go_wp2_with fail
        refine hK.out _ _ (by exact ⟨B_a.out.c3, B_b.out.c3, B_x.out.c3, B_y.out.c3⟩) (fun hHeld => ?_)
        clear hK K
        try simp only [Act.put, List.setIfInBounds_toArray, List.set_cons_zero, List.set_cons_succ]
        refine wpAnyH_takeQ 39 (v := ?_) (fun _ _ _ _ _ h => h) (by simp only [List.getElem?_toArray, List.getElem?_cons_succ, List.getElem?_cons_zero]; rfl) (by kernel_rfl) (by kernel_rfl) (by kernel_rfl) (by rfl) ?_ hHeld ?_; rotate_left; · (intro w hSw; (try dsimp only at hSw); go_simp; (try with_reducible rfl))
        try simp only [Act.put, List.setIfInBounds_toArray, List.set_cons_zero, List.set_cons_succ]
        refine wpAnyH_takeQ 40 (v := ?_) (fun _ _ _ _ _ h => h) (by simp only [List.getElem?_toArray, List.getElem?_cons_succ, List.getElem?_cons_zero]; rfl) (by kernel_rfl) (by kernel_rfl) (by kernel_rfl) (by rfl) ?_ hHeld ?_; rotate_left; · (intro w hSw; (try dsimp only at hSw); go_simp; (try with_reducible rfl))
        try simp only [Act.put, List.setIfInBounds_toArray, List.set_cons_zero, List.set_cons_succ]
        refine wpAnyH_done (by kernel_rfl) (NoPanic.normal ?_) _
        clear hHeld
        have c_a0 := B_a.out.cell0
        have c_a1 := B_a.out.cell1
        have c_a2 := B_a.out.cell2
        have c_b0 := B_b.out.cell0
        have c_b1 := B_b.out.cell1
        have c_b2 := B_b.out.cell2
        have c_x0 := B_x.out.cell0
        have c_x1 := B_x.out.cell1
        have c_x2 := B_x.out.cell2
        have c_y0 := B_y.out.cell0
        have c_y1 := B_y.out.cell1
        have c_y2 := B_y.out.cell2
        have c_p0 := B_p.out.cell0
        have c_p1 := B_p.out.cell1
        have c_p2 := B_p.out.cell2
        have c_q0 := B_q.out.cell0
        have c_q1 := B_q.out.cell1
        have c_q2 := B_q.out.cell2
        go_wp2
        go_ret
        exact ⟨rfl, hB⟩
  · skip
    have HT := Lib.hid htab
    clear htab
    have H_a := Lib.hid h_a
    have K_a := Lib.hid g_a
    clear h_a g_a
    have H_b := Lib.hid h_b
    have K_b := Lib.hid g_b
    clear h_b g_b
    obtain ⟨k1, k2⟩ : 0 ≤ k ∧ k ≤ 4294967295 := by have := Go.bounds_u32 hz_k; omega
    clear hz_k
    go_enter Tryd.func5, Tryd.ntmps5
    go_wp2_with fail
    obtain ⟨W0, hW, B_a, B_b, HW, HS⟩ := rbox2 w (.bool b_a) m_a d_a (.bool b_b) m_b d_b
    rw [hW]
    clear hW
    replace HT := Lib.hid (HT.out.below HW.out)
    replace H_a := Lib.hid (H_a.out.below HW.out)
    replace K_a := Lib.hid (K_a.out.below HW.out)
    replace H_b := Lib.hid (H_b.out.below HW.out)
    replace K_b := Lib.hid (K_b.out.below HW.out)
    have hB := HW.out
    have hsz := HS.out
    clear HW HS
    refine (rlight2_is (v := false) (by exact H_a.out) (by exact K_a.out) (by exact H_b.out) (by exact K_b.out) (decide_eq_false s_ab)).mono ?_
    rintro e w1 ⟨rfl, hb⟩
    replace HT := Lib.hid (HT.out.below hb)
    replace H_a := Lib.hid (H_a.out.below hb)
    replace K_a := Lib.hid (K_a.out.below hb)
    replace H_b := Lib.hid (H_b.out.below hb)
    replace K_b := Lib.hid (K_b.out.below hb)
    replace B_a := Lib.hid (B_a.out.below hb)
    replace B_b := Lib.hid (B_b.out.below hb)
    replace hB := below_next hB hb
    clear hb
    have c_a0 := B_a.out.cell0
    have c_a1 := B_a.out.cell1
    have c_a2 := B_a.out.cell2
    have c_b0 := B_b.out.cell0
    have c_b1 := B_b.out.cell1
    have c_b2 := B_b.out.cell2
    go_wp2_with fail
    clear c_a0 c_a1 c_a2 c_b0 c_b1 c_b2
    refine (holds_any _ (by exact HT.out)).mono ?_
    rintro e w2 ⟨rfl, hb⟩
    replace HT := Lib.hid (HT.out.below hb)
    replace H_a := Lib.hid (H_a.out.below hb)
    replace K_a := Lib.hid (K_a.out.below hb)
    replace H_b := Lib.hid (H_b.out.below hb)
    replace K_b := Lib.hid (K_b.out.below hb)
    replace B_a := Lib.hid (B_a.out.below hb)
    replace B_b := Lib.hid (B_b.out.below hb)
    replace hB := below_next hB hb
    clear hb
    have c_a0 := B_a.out.cell0
    have c_a1 := B_a.out.cell1
    have c_a2 := B_a.out.cell2
    have c_b0 := B_b.out.cell0
    have c_b1 := B_b.out.cell1
    have c_b2 := B_b.out.cell2
    go_wp2
    go_ret
    exact ⟨rfl, hB⟩
end Go.Proofs.YtoflndeonegkpaaDoor
