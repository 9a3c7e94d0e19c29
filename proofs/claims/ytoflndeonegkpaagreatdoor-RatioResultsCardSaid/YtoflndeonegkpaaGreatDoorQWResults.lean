/- RatioResults -/
import Derived.Test.YtoflndeonegkpaaGreatDoorQ8
import Derived.Test.YtoflndeonegkpaaGreatDoorR4
import Derived.Test.YtoflndeonegkpaaGreatDoorR6
import Derived.Test.YtoflndeonegkpaaGreatDoorQLight
namespace Go.Proofs.YtoflndeonegkpaaGreatDoor
open Go.RowKit

set_option maxRecDepth 100000 in
set_option maxHeartbeats 8000000 in
theorem walk_RatioResults (b_a : Bool) (m_a d_a : Value) (xs_a ys_a : List Nat) (b_b : Bool) (m_b d_b : Value) (xs_b ys_b : List Nat) (w : World) (h_a : NatAt w m_a xs_a) (g_a : NatAt w d_a ys_a) (h_b : NatAt w m_b xs_b) (g_b : NatAt w d_b ys_b) (htab : Tab w) : Calls Tryz.prog 6 #[.agg #[.bool b_a, m_a, d_a], .agg #[.bool b_b, m_b, d_b]] w (GivesTrue w) := by
  by_cases s_ab : (xs_a.length ≤ 10 ∧ ys_a.length ≤ 10) ∧ (xs_b.length ≤ 10 ∧ ys_b.length ≤ 10)
  · obtain ⟨s_a, s_b⟩ := s_ab
    have HT := Lib.hid htab
    clear htab
    have H_a := Lib.hid h_a
    have K_a := Lib.hid g_a
    clear h_a g_a
    have H_b := Lib.hid h_b
    have K_b := Lib.hid g_b
    clear h_b g_b
    go_enter Tryz.func6, Tryz.ntmps6
    go_wp2_with fail
    obtain ⟨W0, hW, B_a, B_b, HW, HS⟩ := rbox2 w (.bool b_a) m_a d_a (.bool b_b) m_b d_b
    rw [hW]
    clear hW
    replace HT := Lib.hid (HT.out.below HW.out)
    replace H_a := Lib.hid (H_a.out.below HW.out)
    replace K_a := Lib.hid (K_a.out.below HW.out)
    replace H_b := Lib.hid (H_b.out.below HW.out)
    replace K_b := Lib.hid (K_b.out.below HW.out)
    have hB := HW.out
    have hsz := HS.out
    clear HW HS
    refine (rlight2_is (v := true) (by exact H_a.out) (by exact K_a.out) (by exact H_b.out) (by exact K_b.out) (decide_eq_true ⟨s_a, s_b⟩)).mono ?_
    rintro e w1 ⟨rfl, hb⟩
    replace HT := Lib.hid (HT.out.below hb)
    replace H_a := Lib.hid (H_a.out.below hb)
    replace K_a := Lib.hid (K_a.out.below hb)
    replace H_b := Lib.hid (H_b.out.below hb)
    replace K_b := Lib.hid (K_b.out.below hb)
    replace B_a := Lib.hid (B_a.out.below hb)
    replace B_b := Lib.hid (B_b.out.below hb)
    replace hB := below_next hB hb
    clear hb
    obtain ⟨q_a, R_a⟩ : ∃ q, Hid (RAt w1 b_a m_a d_a q 10) := ⟨_, xs_a, ys_a, H_a.out, K_a.out, s_a.1, s_a.2, rfl⟩
    have S_a := R_a.out.sz (by omega)
    clear H_a K_a
    obtain ⟨q_b, R_b⟩ : ∃ q, Hid (RAt w1 b_b m_b d_b q 10) := ⟨_, xs_b, ys_b, H_b.out, K_b.out, s_b.1, s_b.2, rfl⟩
    have S_b := R_b.out.sz (by omega)
    clear H_b K_b
    by_cases hq : q_b = 0
    · skip
      have c_a0 := B_a.out.cell0
      have c_a1 := B_a.out.cell1
      have c_a2 := B_a.out.cell2
      have c_b0 := B_b.out.cell0
      have c_b1 := B_b.out.cell1
      have c_b2 := B_b.out.cell2
      go_wp2_with fail
      clear c_a0 c_a1 c_a2 c_b0 c_b1 c_b2
      refine (qdiv_zero _ _ _ _ 10 _ _ _ _ 10 _ (by exact R_a.out) (by exact R_b.out) (by omega) (by omega) hq).mono ?_
      rintro e w2 ⟨rfl, hb⟩
      replace HT := Lib.hid (HT.out.below hb)
      replace R_a := Lib.hid (R_a.out.below hb)
      replace R_b := Lib.hid (R_b.out.below hb)
      replace B_a := Lib.hid (B_a.out.below hb)
      replace B_b := Lib.hid (B_b.out.below hb)
      replace hB := below_next hB hb
      clear hb
      have c_a0 := B_a.out.cell0
      have c_a1 := B_a.out.cell1
      have c_a2 := B_a.out.cell2
      have c_b0 := B_b.out.cell0
      have c_b1 := B_b.out.cell1
      have c_b2 := B_b.out.cell2
      go_upto_region 4 with fail
      clear c_a0 c_a1 c_a2 c_b0 c_b1 c_b2
      obtain ⟨W3, g_x, hV, hg, NB, hb⟩ := newR w2 (.bool false) (.slice none 0 0) (.slice none 0 0)
      rw [hV, hg]
      clear hV
      have l_x_a : w.heap.size < g_x := hg ▸ B_a.out.lt
      have l_x_b : w.heap.size + 1 < g_x := hg ▸ B_b.out.lt
      replace HT := Lib.hid (HT.out.below hb)
      replace R_a := Lib.hid (R_a.out.below hb)
      replace R_b := Lib.hid (R_b.out.below hb)
      replace B_a := Lib.hid (B_a.out.below hb)
      replace B_b := Lib.hid (B_b.out.below hb)
      replace hB := below_next hB hb
      have B_x := NB
      clear NB hb hg
      have c_a0 := B_a.out.cell0
      have c_a1 := B_a.out.cell1
      have c_a2 := B_a.out.cell2
      have c_b0 := B_b.out.cell0
      have c_b1 := B_b.out.cell1
      have c_b2 := B_b.out.cell2
      have c_x0 := B_x.out.cell0
      have c_x1 := B_x.out.cell1
      have c_x2 := B_x.out.cell2
      go_wp2_with fail
      clear c_a0 c_a1 c_a2 c_b0 c_b1 c_b2 c_x0 c_x1 c_x2
      refine (r3div_zero _ _ _ _ 10 _ _ _ _ 10 _ (by exact R_a.out) (by exact R_b.out) (by omega) hq).mono ?_
      rintro e w4 ⟨rfl, hb⟩
      replace HT := Lib.hid (HT.out.below hb)
      replace R_a := Lib.hid (R_a.out.below hb)
      replace R_b := Lib.hid (R_b.out.below hb)
      replace B_a := Lib.hid (B_a.out.below hb)
      replace B_b := Lib.hid (B_b.out.below hb)
      replace B_x := Lib.hid (B_x.out.below hb)
      replace hB := below_next hB hb
      clear hb
      have c_a0 := B_a.out.cell0
      have c_a1 := B_a.out.cell1
      have c_a2 := B_a.out.cell2
      have c_b0 := B_b.out.cell0
      have c_b1 := B_b.out.cell1
      have c_b2 := B_b.out.cell2
      have c_x0 := B_x.out.cell0
      have c_x1 := B_x.out.cell1
      have c_x2 := B_x.out.cell2
      go_wp2
      clear c_a0 c_a1 c_a2 c_b0 c_b1 c_b2 c_x0 c_x1 c_x2
      obtain ⟨W5, g_y, hV, hg, NB, hb⟩ := newR w4 (.bool false) (.slice none 0 0) (.slice none 0 0)
      rw [hV, hg]
      clear hV
      have l_y_a : w.heap.size < g_y := hg ▸ B_a.out.lt
      have l_y_b : w.heap.size + 1 < g_y := hg ▸ B_b.out.lt
      have l_y_x : g_x < g_y := hg ▸ B_x.out.lt
      replace HT := Lib.hid (HT.out.below hb)
      replace R_a := Lib.hid (R_a.out.below hb)
      replace R_b := Lib.hid (R_b.out.below hb)
      replace B_a := Lib.hid (B_a.out.below hb)
      replace B_b := Lib.hid (B_b.out.below hb)
      replace B_x := Lib.hid (B_x.out.below hb)
      replace hB := below_next hB hb
      have B_y := NB
      clear NB hb hg
      refine wp_region_named (S := (fun w' => (w'.cell? ⟨g_x, 0, none⟩ = some (.bool false) ∧ w'.cell? ⟨g_x, 1, none⟩ = some (.slice none 0 0) ∧ w'.cell? ⟨g_x, 2, none⟩ = some (.slice none 0 0)) ∧ (w'.cell? ⟨g_y, 0, none⟩ = some (.bool false) ∧ w'.cell? ⟨g_y, 1, none⟩ = some (.slice none 0 0) ∧ w'.cell? ⟨g_y, 2, none⟩ = some (.slice none 0 0)) ∧ (w'.cell? ⟨w.heap.size, 0, none⟩ = some (.bool b_a) ∧ w'.cell? ⟨w.heap.size, 1, none⟩ = some m_a ∧ w'.cell? ⟨w.heap.size, 2, none⟩ = some d_a) ∧ (w'.cell? ⟨w.heap.size + 1, 0, none⟩ = some (.bool b_b) ∧ w'.cell? ⟨w.heap.size + 1, 1, none⟩ = some m_b ∧ w'.cell? ⟨w.heap.size + 1, 2, none⟩ = some d_b))) (by kernel_rfl) (by exact ⟨B_x.out.c3, B_y.out.c3, B_a.out.c3, B_b.out.c3⟩) (fun V6 hb hHeld => ?_)
      replace HT := Lib.hid (HT.out.below hb)
      replace R_a := Lib.hid (R_a.out.below hb)
      replace R_b := Lib.hid (R_b.out.below hb)
      replace B_a := Lib.hid (B_a.out.below hb)
      replace B_b := Lib.hid (B_b.out.below hb)
      replace B_x := Lib.hid (B_x.out.below hb)
      replace B_y := Lib.hid (B_y.out.below hb)
      replace hB := below_next hB hb
      clear hb
      refine wpAnyH_takeQ 0 (v := ?_) (fun _ _ _ _ _ h => h) (by simp only [List.getElem?_toArray, List.getElem?_cons_zero]; rfl) (by kernel_rfl) (by kernel_rfl) (by kernel_rfl) (by rfl) ?_ hHeld ?_; rotate_left; · (intro w hSw; (try dsimp only at hSw); go_simp; (try with_reducible rfl))
      try simp only [Act.put, List.setIfInBounds_toArray, List.set_cons_zero, List.set_cons_succ]
      refine wpAnyH_takeQ 1 (v := ?_) (fun _ _ _ _ _ h => h) (by simp only [List.getElem?_toArray, List.getElem?_cons_succ, List.getElem?_cons_zero]; rfl) (by kernel_rfl) (by kernel_rfl) (by kernel_rfl) (by rfl) ?_ hHeld ?_; rotate_left; · (intro w hSw; (try dsimp only at hSw); go_simp; (try with_reducible rfl))
      try simp only [Act.put, List.setIfInBounds_toArray, List.set_cons_zero, List.set_cons_succ]
      refine wpAnyH_takeQ 2 (v := ?_) (fun _ _ _ _ _ h => h) (by simp only [List.getElem?_toArray, List.getElem?_cons_succ, List.getElem?_cons_zero]; rfl) (by kernel_rfl) (by kernel_rfl) (by kernel_rfl) (by rfl) ?_ hHeld ?_; rotate_left; · (intro w hSw; (try dsimp only at hSw); go_simp; (try with_reducible rfl))
      try simp only [Act.put, List.setIfInBounds_toArray, List.set_cons_zero, List.set_cons_succ]
      refine wpAnyH_takeQ 3 (v := ?_) (fun _ _ _ _ _ h => h) (by simp only [List.getElem?_toArray, List.getElem?_cons_succ, List.getElem?_cons_zero]; rfl) (by kernel_rfl) (by kernel_rfl) (by kernel_rfl) (by rfl) ?_ hHeld ?_; rotate_left; · (intro w hSw; (try dsimp only at hSw); go_simp; (try with_reducible rfl))
      try simp only [Act.put, List.setIfInBounds_toArray, List.set_cons_zero, List.set_cons_succ]
      refine wpAnyH_takeQ 4 (v := ?_) (fun _ _ _ _ _ h => h) (by simp only [List.getElem?_toArray, List.getElem?_cons_succ, List.getElem?_cons_zero]; rfl) (by kernel_rfl) (by kernel_rfl) (by kernel_rfl) (by rfl) ?_ hHeld ?_; rotate_left; · (intro w hSw; (try dsimp only at hSw); go_simp; (try with_reducible rfl))
      try simp only [Act.put, List.setIfInBounds_toArray, List.set_cons_zero, List.set_cons_succ]
      refine wpAnyH_takeQ 5 (v := ?_) (fun _ _ _ _ _ h => h) (by simp only [List.getElem?_toArray, List.getElem?_cons_succ, List.getElem?_cons_zero]; rfl) (by kernel_rfl) (by kernel_rfl) (by kernel_rfl) (by rfl) ?_ hHeld ?_; rotate_left; · (intro w hSw; (try dsimp only at hSw); go_simp; (try with_reducible rfl))
      try simp only [Act.put, List.setIfInBounds_toArray, List.set_cons_zero, List.set_cons_succ]
      refine wpAnyH_ready (rs := [6]) (by kernel_rfl) (by simp) ?_
      refine AllReadyH.cons (by simp only [List.getElem?_toArray, List.getElem?_cons_succ, List.getElem?_cons_zero]; rfl) (fun K hK => ?_) AllReadyH.nil
      go_simp
      clear hHeld
      refine (rsame (zat_nil _) (zat_nil _) (NatAt.nil _) (NatAt.nil _)).mono ?_
      rintro e w7 ⟨rfl, hb⟩
      replace HT := Lib.hid (HT.out.below hb)
      replace R_a := Lib.hid (R_a.out.below hb)
      replace R_b := Lib.hid (R_b.out.below hb)
      replace B_a := Lib.hid (B_a.out.below hb)
      replace B_b := Lib.hid (B_b.out.below hb)
      replace B_x := Lib.hid (B_x.out.below hb)
      replace B_y := Lib.hid (B_y.out.below hb)
      replace hB := below_next hB hb
      clear hb
      go_wp2_with fail
      refine hK.out _ _ (by exact ⟨B_x.out.c3, B_y.out.c3, B_a.out.c3, B_b.out.c3⟩) (fun hHeld => ?_)
      clear hK K
      try simp only [Act.put, List.setIfInBounds_toArray, List.set_cons_zero, List.set_cons_succ]
      refine wpAnyH_takeQ 7 (v := ?_) (fun _ _ _ _ _ h => h) (by simp only [List.getElem?_toArray, List.getElem?_cons_succ, List.getElem?_cons_zero]; rfl) (by kernel_rfl) (by kernel_rfl) (by kernel_rfl) (by rfl) ?_ hHeld ?_; rotate_left; · (intro w hSw; (try dsimp only at hSw); go_simp; (try with_reducible rfl))
      try simp only [Act.put, List.setIfInBounds_toArray, List.set_cons_zero, List.set_cons_succ]
      refine wpAnyH_takeQ 8 (v := ?_) (fun _ _ _ _ _ h => h) (by simp only [List.getElem?_toArray, List.getElem?_cons_succ, List.getElem?_cons_zero]; rfl) (by kernel_rfl) (by kernel_rfl) (by kernel_rfl) (by rfl) ?_ hHeld ?_; rotate_left; · (intro w hSw; (try dsimp only at hSw); go_simp; (try with_reducible rfl))
      try simp only [Act.put, List.setIfInBounds_toArray, List.set_cons_zero, List.set_cons_succ]
      refine wpAnyH_takeQ 9 (v := ?_) (fun _ _ _ _ _ h => h) (by simp only [List.getElem?_toArray, List.getElem?_cons_succ, List.getElem?_cons_zero]; rfl) (by kernel_rfl) (by kernel_rfl) (by kernel_rfl) (by rfl) ?_ hHeld ?_; rotate_left; · (intro w hSw; (try dsimp only at hSw); go_simp; (try with_reducible rfl))
      try simp only [Act.put, List.setIfInBounds_toArray, List.set_cons_zero, List.set_cons_succ]
      refine wpAnyH_takeQ 10 (v := ?_) (fun _ _ _ _ _ h => h) (by simp only [List.getElem?_toArray, List.getElem?_cons_succ, List.getElem?_cons_zero]; rfl) (by kernel_rfl) (by kernel_rfl) (by kernel_rfl) (by rfl) ?_ hHeld ?_; rotate_left; · (intro w hSw; (try dsimp only at hSw); go_simp; (try with_reducible rfl))
      try simp only [Act.put, List.setIfInBounds_toArray, List.set_cons_zero, List.set_cons_succ]
      refine wpAnyH_takeQ 11 (v := ?_) (fun _ _ _ _ _ h => h) (by simp only [List.getElem?_toArray, List.getElem?_cons_succ, List.getElem?_cons_zero]; rfl) (by kernel_rfl) (by kernel_rfl) (by kernel_rfl) (by rfl) ?_ hHeld ?_; rotate_left; · (intro w hSw; (try dsimp only at hSw); go_simp; (try with_reducible rfl))
      try simp only [Act.put, List.setIfInBounds_toArray, List.set_cons_zero, List.set_cons_succ]
      refine wpAnyH_takeQ 13 (v := ?_) (fun _ _ _ _ _ h => h) (by simp only [List.getElem?_toArray, List.getElem?_cons_succ, List.getElem?_cons_zero]; rfl) (by kernel_rfl) (by kernel_rfl) (by kernel_rfl) (by rfl) ?_ hHeld ?_; rotate_left; · (intro w hSw; (try dsimp only at hSw); go_simp; (try with_reducible rfl))
      try simp only [Act.put, List.setIfInBounds_toArray, List.set_cons_zero, List.set_cons_succ]
      refine wpAnyH_takeQ 14 (v := ?_) (fun _ _ _ _ _ h => h) (by simp only [List.getElem?_toArray, List.getElem?_cons_succ, List.getElem?_cons_zero]; rfl) (by kernel_rfl) (by kernel_rfl) (by kernel_rfl) (by rfl) ?_ hHeld ?_; rotate_left; · (intro w hSw; (try dsimp only at hSw); go_simp; (try with_reducible rfl))
      try simp only [Act.put, List.setIfInBounds_toArray, List.set_cons_zero, List.set_cons_succ]
      refine wpAnyH_ready (rs := [12]) (by kernel_rfl) (by simp) ?_
      refine AllReadyH.cons (by simp only [List.getElem?_toArray, List.getElem?_cons_succ, List.getElem?_cons_zero]; rfl) (fun K hK => ?_) AllReadyH.nil
      go_simp
      clear hHeld
      refine (qcmp_any _ _ _ _ 10 _ _ _ _ 10 _ (by exact R_a.out) (by exact R_b.out) (by omega) (by omega) (by omega) (by omega)).mono ?_
      rintro e w8 ⟨rfl, hb⟩
      replace HT := Lib.hid (HT.out.below hb)
      replace R_a := Lib.hid (R_a.out.below hb)
      replace R_b := Lib.hid (R_b.out.below hb)
      replace B_a := Lib.hid (B_a.out.below hb)
      replace B_b := Lib.hid (B_b.out.below hb)
      replace B_x := Lib.hid (B_x.out.below hb)
      replace B_y := Lib.hid (B_y.out.below hb)
      replace hB := below_next hB hb
      clear hb
      go_wp2_with fail
      refine hK.out _ _ (by exact ⟨B_x.out.c3, B_y.out.c3, B_a.out.c3, B_b.out.c3⟩) (fun hHeld => ?_)
      clear hK K
      try simp only [Act.put, List.setIfInBounds_toArray, List.set_cons_zero, List.set_cons_succ]
      refine wpAnyH_ready (rs := [15]) (by kernel_rfl) (by simp) ?_
      refine AllReadyH.cons (by simp only [List.getElem?_toArray, List.getElem?_cons_succ, List.getElem?_cons_zero]; rfl) (fun K hK => ?_) AllReadyH.nil
      go_simp
      clear hHeld
      refine (r3cmp_any _ _ _ _ 10 _ _ _ _ 10 _ (by exact R_a.out) (by exact R_b.out) (by omega) (by omega) (by omega) (by omega)).mono ?_
      rintro e w9 ⟨rfl, hb⟩
      replace HT := Lib.hid (HT.out.below hb)
      replace R_a := Lib.hid (R_a.out.below hb)
      replace R_b := Lib.hid (R_b.out.below hb)
      replace B_a := Lib.hid (B_a.out.below hb)
      replace B_b := Lib.hid (B_b.out.below hb)
      replace B_x := Lib.hid (B_x.out.below hb)
      replace B_y := Lib.hid (B_y.out.below hb)
      replace hB := below_next hB hb
      clear hb
      go_wp2_with fail
      refine hK.out _ _ (by exact ⟨B_x.out.c3, B_y.out.c3, B_a.out.c3, B_b.out.c3⟩) (fun hHeld => ?_)
      clear hK K
      try simp only [Act.put, List.setIfInBounds_toArray, List.set_cons_zero, List.set_cons_succ]
      refine wpAnyH_takeQ 16 (v := ?_) (fun _ _ _ _ _ h => h) (by simp only [List.getElem?_toArray, List.getElem?_cons_succ, List.getElem?_cons_zero]; rfl) (by kernel_rfl) (by kernel_rfl) (by kernel_rfl) (by rfl) ?_ hHeld ?_; rotate_left; · (intro w hSw; (try dsimp only at hSw); go_simp; (try with_reducible rfl))
      try simp only [Act.put, List.setIfInBounds_toArray, List.set_cons_zero, List.set_cons_succ]
      refine wpAnyH_takeQ 17 (v := ?_) (fun _ _ _ _ _ h => h) (by simp only [List.getElem?_toArray, List.getElem?_cons_succ, List.getElem?_cons_zero]; rfl) (by kernel_rfl) (by kernel_rfl) (by kernel_rfl) (by rfl) ?_ hHeld ?_; rotate_left; · (intro w hSw; (try dsimp only at hSw); go_simp; (try with_reducible rfl))
      try simp only [Act.put, List.setIfInBounds_toArray, List.set_cons_zero, List.set_cons_succ]
      refine wpAnyH_done (by kernel_rfl) (NoPanic.normal ?_) _
      clear hHeld
      have c_a0 := B_a.out.cell0
      have c_a1 := B_a.out.cell1
      have c_a2 := B_a.out.cell2
      have c_b0 := B_b.out.cell0
      have c_b1 := B_b.out.cell1
      have c_b2 := B_b.out.cell2
      have c_x0 := B_x.out.cell0
      have c_x1 := B_x.out.cell1
      have c_x2 := B_x.out.cell2
      have c_y0 := B_y.out.cell0
      have c_y1 := B_y.out.cell1
      have c_y2 := B_y.out.cell2
      go_wp2
      clear c_a0 c_a1 c_a2 c_b0 c_b1 c_b2 c_x0 c_x1 c_x2 c_y0 c_y1 c_y2
      refine wp_region_named (S := (fun w' => (w'.cell? ⟨w.heap.size, 0, none⟩ = some (.bool b_a) ∧ w'.cell? ⟨w.heap.size, 1, none⟩ = some m_a ∧ w'.cell? ⟨w.heap.size, 2, none⟩ = some d_a) ∧ (w'.cell? ⟨w.heap.size + 1, 0, none⟩ = some (.bool b_b) ∧ w'.cell? ⟨w.heap.size + 1, 1, none⟩ = some m_b ∧ w'.cell? ⟨w.heap.size + 1, 2, none⟩ = some d_b))) (by kernel_rfl) (by exact ⟨B_a.out.c3, B_b.out.c3⟩) (fun V10 hb hHeld => ?_)
      replace HT := Lib.hid (HT.out.below hb)
      replace R_a := Lib.hid (R_a.out.below hb)
      replace R_b := Lib.hid (R_b.out.below hb)
      replace B_a := Lib.hid (B_a.out.below hb)
      replace B_b := Lib.hid (B_b.out.below hb)
      replace B_x := Lib.hid (B_x.out.below hb)
      replace B_y := Lib.hid (B_y.out.below hb)
      replace hB := below_next hB hb
      clear hb
      refine wpAnyH_takeQ 0 (v := ?_) (fun _ _ _ _ _ h => h) (by simp only [List.getElem?_toArray, List.getElem?_cons_zero]; rfl) (by kernel_rfl) (by kernel_rfl) (by kernel_rfl) (by rfl) ?_ hHeld ?_; rotate_left; · (intro w hSw; (try dsimp only at hSw); go_simp; (try with_reducible rfl))
      try simp only [Act.put, List.setIfInBounds_toArray, List.set_cons_zero, List.set_cons_succ]
      refine wpAnyH_takeQ 2 (v := ?_) (fun _ _ _ _ _ h => h) (by simp only [List.getElem?_toArray, List.getElem?_cons_succ, List.getElem?_cons_zero]; rfl) (by kernel_rfl) (by kernel_rfl) (by kernel_rfl) (by rfl) ?_ hHeld ?_; rotate_left; · (intro w hSw; (try dsimp only at hSw); go_simp; (try with_reducible rfl))
      try simp only [Act.put, List.setIfInBounds_toArray, List.set_cons_zero, List.set_cons_succ]
      refine wpAnyH_ready (rs := [1]) (by kernel_rfl) (by simp) ?_
      refine AllReadyH.cons (by simp only [List.getElem?_toArray, List.getElem?_cons_succ, List.getElem?_cons_zero]; rfl) (fun K hK => ?_) AllReadyH.nil
      go_simp
      clear hHeld
      refine (qnorm_any _ _ _ _ 10 _ (by exact R_a.out) (by omega) (by omega)).mono ?_
      rintro e w11 ⟨b_p1, A_p1, n_p1, c_p1, D_p1, e_p1, f_p1, rfl, h_p1, hb⟩
      replace HT := Lib.hid (HT.out.below hb)
      replace R_a := Lib.hid (R_a.out.below hb)
      replace R_b := Lib.hid (R_b.out.below hb)
      replace B_a := Lib.hid (B_a.out.below hb)
      replace B_b := Lib.hid (B_b.out.below hb)
      replace B_x := Lib.hid (B_x.out.below hb)
      replace B_y := Lib.hid (B_y.out.below hb)
      replace hB := below_next hB hb
      clear hb
      have Q_p1 := Lib.hid h_p1
      clear h_p1
      go_wp2_with fail
      refine hK.out _ _ (by exact ⟨B_a.out.c3, B_b.out.c3⟩) (fun hHeld => ?_)
      clear hK K
      try simp only [Act.put, List.setIfInBounds_toArray, List.set_cons_zero, List.set_cons_succ]
      refine wpAnyH_ready (rs := [3]) (by kernel_rfl) (by simp) ?_
      refine AllReadyH.cons (by simp only [List.getElem?_toArray, List.getElem?_cons_succ, List.getElem?_cons_zero]; rfl) (fun K hK => ?_) AllReadyH.nil
      go_simp
      clear hHeld
      refine (r3norm_any _ _ _ _ 10 _ (by exact R_a.out) (by omega) (by omega)).mono ?_
      rintro e w12 ⟨b_p2, A_p2, n_p2, c_p2, D_p2, e_p2, f_p2, rfl, h_p2, hb⟩
      replace HT := Lib.hid (HT.out.below hb)
      replace R_a := Lib.hid (R_a.out.below hb)
      replace R_b := Lib.hid (R_b.out.below hb)
      replace Q_p1 := Lib.hid (Q_p1.out.below hb)
      replace B_a := Lib.hid (B_a.out.below hb)
      replace B_b := Lib.hid (B_b.out.below hb)
      replace B_x := Lib.hid (B_x.out.below hb)
      replace B_y := Lib.hid (B_y.out.below hb)
      replace hB := below_next hB hb
      clear hb
      have Q_p2 := Lib.hid h_p2
      clear h_p2
      go_wp2_with fail
      refine hK.out _ _ (by exact ⟨B_a.out.c3, B_b.out.c3⟩) (fun hHeld => ?_)
      clear hK K
      try simp only [Act.put, List.setIfInBounds_toArray, List.set_cons_zero, List.set_cons_succ]
      refine wpAnyH_ready (rs := [4]) (by kernel_rfl) (by simp) ?_
      refine AllReadyH.cons (by simp only [List.getElem?_toArray, List.getElem?_cons_succ, List.getElem?_cons_zero]; rfl) (fun K hK => ?_) AllReadyH.nil
      go_simp
      clear hHeld
      refine (rsame_q (by exact Q_p1.out) (by exact Q_p2.out) rfl).mono ?_
      rintro e w13 ⟨rfl, hb⟩
      replace HT := Lib.hid (HT.out.below hb)
      replace R_a := Lib.hid (R_a.out.below hb)
      replace R_b := Lib.hid (R_b.out.below hb)
      replace Q_p1 := Lib.hid (Q_p1.out.below hb)
      replace Q_p2 := Lib.hid (Q_p2.out.below hb)
      replace B_a := Lib.hid (B_a.out.below hb)
      replace B_b := Lib.hid (B_b.out.below hb)
      replace B_x := Lib.hid (B_x.out.below hb)
      replace B_y := Lib.hid (B_y.out.below hb)
      replace hB := below_next hB hb
      clear hb
      clear Q_p1
      clear Q_p2
      go_wp2_with fail
      refine hK.out _ _ (by exact ⟨B_a.out.c3, B_b.out.c3⟩) (fun hHeld => ?_)
      clear hK K
      try simp only [Act.put, List.setIfInBounds_toArray, List.set_cons_zero, List.set_cons_succ]
      refine wpAnyH_takeQ 5 (v := ?_) (fun _ _ _ _ _ h => h) (by simp only [List.getElem?_toArray, List.getElem?_cons_succ, List.getElem?_cons_zero]; rfl) (by kernel_rfl) (by kernel_rfl) (by kernel_rfl) (by rfl) ?_ hHeld ?_; rotate_left; · (intro w hSw; (try dsimp only at hSw); go_simp; (try with_reducible rfl))
      try simp only [Act.put, List.setIfInBounds_toArray, List.set_cons_zero, List.set_cons_succ]
      refine wpAnyH_takeQ 6 (v := ?_) (fun _ _ _ _ _ h => h) (by simp only [List.getElem?_toArray, List.getElem?_cons_succ, List.getElem?_cons_zero]; rfl) (by kernel_rfl) (by kernel_rfl) (by kernel_rfl) (by rfl) ?_ hHeld ?_; rotate_left; · (intro w hSw; (try dsimp only at hSw); go_simp; (try with_reducible rfl))
      try simp only [Act.put, List.setIfInBounds_toArray, List.set_cons_zero, List.set_cons_succ]
      refine wpAnyH_takeQ 8 (v := ?_) (fun _ _ _ _ _ h => h) (by simp only [List.getElem?_toArray, List.getElem?_cons_succ, List.getElem?_cons_zero]; rfl) (by kernel_rfl) (by kernel_rfl) (by kernel_rfl) (by rfl) ?_ hHeld ?_; rotate_left; · (intro w hSw; (try dsimp only at hSw); go_simp; (try with_reducible rfl))
      try simp only [Act.put, List.setIfInBounds_toArray, List.set_cons_zero, List.set_cons_succ]
      refine wpAnyH_ready (rs := [7]) (by kernel_rfl) (by simp) ?_
      refine AllReadyH.cons (by simp only [List.getElem?_toArray, List.getElem?_cons_succ, List.getElem?_cons_zero]; rfl) (fun K hK => ?_) AllReadyH.nil
      go_simp
      clear hHeld
      refine (qneg_any _ _ _ _ 10 _ (by exact R_a.out) (by omega) (by omega)).mono ?_
      rintro e w14 ⟨b_p3, A_p3, n_p3, c_p3, D_p3, e_p3, f_p3, rfl, h_p3, hb⟩
      replace HT := Lib.hid (HT.out.below hb)
      replace R_a := Lib.hid (R_a.out.below hb)
      replace R_b := Lib.hid (R_b.out.below hb)
      replace B_a := Lib.hid (B_a.out.below hb)
      replace B_b := Lib.hid (B_b.out.below hb)
      replace B_x := Lib.hid (B_x.out.below hb)
      replace B_y := Lib.hid (B_y.out.below hb)
      replace hB := below_next hB hb
      clear hb
      have Q_p3 := Lib.hid h_p3
      clear h_p3
      go_wp2_with fail
      refine hK.out _ _ (by exact ⟨B_a.out.c3, B_b.out.c3⟩) (fun hHeld => ?_)
      clear hK K
      try simp only [Act.put, List.setIfInBounds_toArray, List.set_cons_zero, List.set_cons_succ]
      refine wpAnyH_ready (rs := [9]) (by kernel_rfl) (by simp) ?_
      refine AllReadyH.cons (by simp only [List.getElem?_toArray, List.getElem?_cons_succ, List.getElem?_cons_zero]; rfl) (fun K hK => ?_) AllReadyH.nil
      go_simp
      clear hHeld
      refine (r3neg_any _ _ _ _ 10 _ (by exact R_a.out) (by omega) (by omega)).mono ?_
      rintro e w15 ⟨b_p4, A_p4, n_p4, c_p4, D_p4, e_p4, f_p4, rfl, h_p4, hb⟩
      replace HT := Lib.hid (HT.out.below hb)
      replace R_a := Lib.hid (R_a.out.below hb)
      replace R_b := Lib.hid (R_b.out.below hb)
      replace Q_p3 := Lib.hid (Q_p3.out.below hb)
      replace B_a := Lib.hid (B_a.out.below hb)
      replace B_b := Lib.hid (B_b.out.below hb)
      replace B_x := Lib.hid (B_x.out.below hb)
      replace B_y := Lib.hid (B_y.out.below hb)
      replace hB := below_next hB hb
      clear hb
      have Q_p4 := Lib.hid h_p4
      clear h_p4
      go_wp2_with fail
      refine hK.out _ _ (by exact ⟨B_a.out.c3, B_b.out.c3⟩) (fun hHeld => ?_)
      clear hK K
      try simp only [Act.put, List.setIfInBounds_toArray, List.set_cons_zero, List.set_cons_succ]
      refine wpAnyH_ready (rs := [10]) (by kernel_rfl) (by simp) ?_
      refine AllReadyH.cons (by simp only [List.getElem?_toArray, List.getElem?_cons_succ, List.getElem?_cons_zero]; rfl) (fun K hK => ?_) AllReadyH.nil
      go_simp
      clear hHeld
      refine (rsame_q (by exact Q_p3.out) (by exact Q_p4.out) rfl).mono ?_
      rintro e w16 ⟨rfl, hb⟩
      replace HT := Lib.hid (HT.out.below hb)
      replace R_a := Lib.hid (R_a.out.below hb)
      replace R_b := Lib.hid (R_b.out.below hb)
      replace Q_p3 := Lib.hid (Q_p3.out.below hb)
      replace Q_p4 := Lib.hid (Q_p4.out.below hb)
      replace B_a := Lib.hid (B_a.out.below hb)
      replace B_b := Lib.hid (B_b.out.below hb)
      replace B_x := Lib.hid (B_x.out.below hb)
      replace B_y := Lib.hid (B_y.out.below hb)
      replace hB := below_next hB hb
      clear hb
      clear Q_p3
      clear Q_p4
      go_wp2_with fail
      refine hK.out _ _ (by exact ⟨B_a.out.c3, B_b.out.c3⟩) (fun hHeld => ?_)
      clear hK K
      try simp only [Act.put, List.setIfInBounds_toArray, List.set_cons_zero, List.set_cons_succ]
      refine wpAnyH_takeQ 11 (v := ?_) (fun _ _ _ _ _ h => h) (by simp only [List.getElem?_toArray, List.getElem?_cons_succ, List.getElem?_cons_zero]; rfl) (by kernel_rfl) (by kernel_rfl) (by kernel_rfl) (by rfl) ?_ hHeld ?_; rotate_left; · (intro w hSw; (try dsimp only at hSw); go_simp; (try with_reducible rfl))
      try simp only [Act.put, List.setIfInBounds_toArray, List.set_cons_zero, List.set_cons_succ]
      refine wpAnyH_takeQ 12 (v := ?_) (fun _ _ _ _ _ h => h) (by simp only [List.getElem?_toArray, List.getElem?_cons_succ, List.getElem?_cons_zero]; rfl) (by kernel_rfl) (by kernel_rfl) (by kernel_rfl) (by rfl) ?_ hHeld ?_; rotate_left; · (intro w hSw; (try dsimp only at hSw); go_simp; (try with_reducible rfl))
      try simp only [Act.put, List.setIfInBounds_toArray, List.set_cons_zero, List.set_cons_succ]
      refine wpAnyH_takeQ 13 (v := ?_) (fun _ _ _ _ _ h => h) (by simp only [List.getElem?_toArray, List.getElem?_cons_succ, List.getElem?_cons_zero]; rfl) (by kernel_rfl) (by kernel_rfl) (by kernel_rfl) (by rfl) ?_ hHeld ?_; rotate_left; · (intro w hSw; (try dsimp only at hSw); go_simp; (try with_reducible rfl))
      try simp only [Act.put, List.setIfInBounds_toArray, List.set_cons_zero, List.set_cons_succ]
      refine wpAnyH_takeQ 14 (v := ?_) (fun _ _ _ _ _ h => h) (by simp only [List.getElem?_toArray, List.getElem?_cons_succ, List.getElem?_cons_zero]; rfl) (by kernel_rfl) (by kernel_rfl) (by kernel_rfl) (by rfl) ?_ hHeld ?_; rotate_left; · (intro w hSw; (try dsimp only at hSw); go_simp; (try with_reducible rfl))
      try simp only [Act.put, List.setIfInBounds_toArray, List.set_cons_zero, List.set_cons_succ]
      refine wpAnyH_takeQ 16 (v := ?_) (fun _ _ _ _ _ h => h) (by simp only [List.getElem?_toArray, List.getElem?_cons_succ, List.getElem?_cons_zero]; rfl) (by kernel_rfl) (by kernel_rfl) (by kernel_rfl) (by rfl) ?_ hHeld ?_; rotate_left; · (intro w hSw; (try dsimp only at hSw); go_simp; (try with_reducible rfl))
      try simp only [Act.put, List.setIfInBounds_toArray, List.set_cons_zero, List.set_cons_succ]
      refine wpAnyH_takeQ 17 (v := ?_) (fun _ _ _ _ _ h => h) (by simp only [List.getElem?_toArray, List.getElem?_cons_succ, List.getElem?_cons_zero]; rfl) (by kernel_rfl) (by kernel_rfl) (by kernel_rfl) (by rfl) ?_ hHeld ?_; rotate_left; · (intro w hSw; (try dsimp only at hSw); go_simp; (try with_reducible rfl))
      try simp only [Act.put, List.setIfInBounds_toArray, List.set_cons_zero, List.set_cons_succ]
      refine wpAnyH_ready (rs := [15]) (by kernel_rfl) (by simp) ?_
      refine AllReadyH.cons (by simp only [List.getElem?_toArray, List.getElem?_cons_succ, List.getElem?_cons_zero]; rfl) (fun K hK => ?_) AllReadyH.nil
      go_simp
      clear hHeld
      refine (qadd_any _ _ _ _ 10 _ _ _ _ 10 _ (by exact R_a.out) (by exact R_b.out) (by omega) (by omega) (by omega) (by omega)).mono ?_
      rintro e w17 ⟨b_p5, A_p5, n_p5, c_p5, D_p5, e_p5, f_p5, rfl, h_p5, hb⟩
      replace HT := Lib.hid (HT.out.below hb)
      replace R_a := Lib.hid (R_a.out.below hb)
      replace R_b := Lib.hid (R_b.out.below hb)
      replace B_a := Lib.hid (B_a.out.below hb)
      replace B_b := Lib.hid (B_b.out.below hb)
      replace B_x := Lib.hid (B_x.out.below hb)
      replace B_y := Lib.hid (B_y.out.below hb)
      replace hB := below_next hB hb
      clear hb
      have Q_p5 := Lib.hid h_p5
      clear h_p5
      go_wp2_with fail
      refine hK.out _ _ (by exact ⟨B_a.out.c3, B_b.out.c3⟩) (fun hHeld => ?_)
      clear hK K
      try simp only [Act.put, List.setIfInBounds_toArray, List.set_cons_zero, List.set_cons_succ]
      refine wpAnyH_ready (rs := [18]) (by kernel_rfl) (by simp) ?_
      refine AllReadyH.cons (by simp only [List.getElem?_toArray, List.getElem?_cons_succ, List.getElem?_cons_zero]; rfl) (fun K hK => ?_) AllReadyH.nil
      go_simp
      clear hHeld
      refine (r3add_any _ _ _ _ 10 _ _ _ _ 10 _ (by exact R_a.out) (by exact R_b.out) (by omega) (by omega) (by omega) (by omega)).mono ?_
      rintro e w18 ⟨b_p6, A_p6, n_p6, c_p6, D_p6, e_p6, f_p6, rfl, h_p6, hb⟩
      replace HT := Lib.hid (HT.out.below hb)
      replace R_a := Lib.hid (R_a.out.below hb)
      replace R_b := Lib.hid (R_b.out.below hb)
      replace Q_p5 := Lib.hid (Q_p5.out.below hb)
      replace B_a := Lib.hid (B_a.out.below hb)
      replace B_b := Lib.hid (B_b.out.below hb)
      replace B_x := Lib.hid (B_x.out.below hb)
      replace B_y := Lib.hid (B_y.out.below hb)
      replace hB := below_next hB hb
      clear hb
      have Q_p6 := Lib.hid h_p6
      clear h_p6
      go_wp2_with fail
      refine hK.out _ _ (by exact ⟨B_a.out.c3, B_b.out.c3⟩) (fun hHeld => ?_)
      clear hK K
      try simp only [Act.put, List.setIfInBounds_toArray, List.set_cons_zero, List.set_cons_succ]
      refine wpAnyH_ready (rs := [19]) (by kernel_rfl) (by simp) ?_
      refine AllReadyH.cons (by simp only [List.getElem?_toArray, List.getElem?_cons_succ, List.getElem?_cons_zero]; rfl) (fun K hK => ?_) AllReadyH.nil
      go_simp
      clear hHeld
      refine (rsame_q (by exact Q_p5.out) (by exact Q_p6.out) rfl).mono ?_
      rintro e w19 ⟨rfl, hb⟩
      replace HT := Lib.hid (HT.out.below hb)
      replace R_a := Lib.hid (R_a.out.below hb)
      replace R_b := Lib.hid (R_b.out.below hb)
      replace Q_p5 := Lib.hid (Q_p5.out.below hb)
      replace Q_p6 := Lib.hid (Q_p6.out.below hb)
      replace B_a := Lib.hid (B_a.out.below hb)
      replace B_b := Lib.hid (B_b.out.below hb)
      replace B_x := Lib.hid (B_x.out.below hb)
      replace B_y := Lib.hid (B_y.out.below hb)
      replace hB := below_next hB hb
      clear hb
      clear Q_p5
      clear Q_p6
      go_wp2_with fail
      refine hK.out _ _ (by exact ⟨B_a.out.c3, B_b.out.c3⟩) (fun hHeld => ?_)
      clear hK K
      try simp only [Act.put, List.setIfInBounds_toArray, List.set_cons_zero, List.set_cons_succ]
      refine wpAnyH_takeQ 20 (v := ?_) (fun _ _ _ _ _ h => h) (by simp only [List.getElem?_toArray, List.getElem?_cons_succ, List.getElem?_cons_zero]; rfl) (by kernel_rfl) (by kernel_rfl) (by kernel_rfl) (by rfl) ?_ hHeld ?_; rotate_left; · (intro w hSw; (try dsimp only at hSw); go_simp; (try with_reducible rfl))
      try simp only [Act.put, List.setIfInBounds_toArray, List.set_cons_zero, List.set_cons_succ]
      refine wpAnyH_takeQ 21 (v := ?_) (fun _ _ _ _ _ h => h) (by simp only [List.getElem?_toArray, List.getElem?_cons_succ, List.getElem?_cons_zero]; rfl) (by kernel_rfl) (by kernel_rfl) (by kernel_rfl) (by rfl) ?_ hHeld ?_; rotate_left; · (intro w hSw; (try dsimp only at hSw); go_simp; (try with_reducible rfl))
      try simp only [Act.put, List.setIfInBounds_toArray, List.set_cons_zero, List.set_cons_succ]
      refine wpAnyH_takeQ 22 (v := ?_) (fun _ _ _ _ _ h => h) (by simp only [List.getElem?_toArray, List.getElem?_cons_succ, List.getElem?_cons_zero]; rfl) (by kernel_rfl) (by kernel_rfl) (by kernel_rfl) (by rfl) ?_ hHeld ?_; rotate_left; · (intro w hSw; (try dsimp only at hSw); go_simp; (try with_reducible rfl))
      try simp only [Act.put, List.setIfInBounds_toArray, List.set_cons_zero, List.set_cons_succ]
      refine wpAnyH_takeQ 23 (v := ?_) (fun _ _ _ _ _ h => h) (by simp only [List.getElem?_toArray, List.getElem?_cons_succ, List.getElem?_cons_zero]; rfl) (by kernel_rfl) (by kernel_rfl) (by kernel_rfl) (by rfl) ?_ hHeld ?_; rotate_left; · (intro w hSw; (try dsimp only at hSw); go_simp; (try with_reducible rfl))
      try simp only [Act.put, List.setIfInBounds_toArray, List.set_cons_zero, List.set_cons_succ]
      refine wpAnyH_takeQ 25 (v := ?_) (fun _ _ _ _ _ h => h) (by simp only [List.getElem?_toArray, List.getElem?_cons_succ, List.getElem?_cons_zero]; rfl) (by kernel_rfl) (by kernel_rfl) (by kernel_rfl) (by rfl) ?_ hHeld ?_; rotate_left; · (intro w hSw; (try dsimp only at hSw); go_simp; (try with_reducible rfl))
      try simp only [Act.put, List.setIfInBounds_toArray, List.set_cons_zero, List.set_cons_succ]
      refine wpAnyH_takeQ 26 (v := ?_) (fun _ _ _ _ _ h => h) (by simp only [List.getElem?_toArray, List.getElem?_cons_succ, List.getElem?_cons_zero]; rfl) (by kernel_rfl) (by kernel_rfl) (by kernel_rfl) (by rfl) ?_ hHeld ?_; rotate_left; · (intro w hSw; (try dsimp only at hSw); go_simp; (try with_reducible rfl))
      try simp only [Act.put, List.setIfInBounds_toArray, List.set_cons_zero, List.set_cons_succ]
      refine wpAnyH_ready (rs := [24]) (by kernel_rfl) (by simp) ?_
      refine AllReadyH.cons (by simp only [List.getElem?_toArray, List.getElem?_cons_succ, List.getElem?_cons_zero]; rfl) (fun K hK => ?_) AllReadyH.nil
      go_simp
      clear hHeld
      refine (qsub_any _ _ _ _ 10 _ _ _ _ 10 _ (by exact R_a.out) (by exact R_b.out) (by omega) (by omega) (by omega) (by omega)).mono ?_
      rintro e w20 ⟨b_p7, A_p7, n_p7, c_p7, D_p7, e_p7, f_p7, rfl, h_p7, hb⟩
      replace HT := Lib.hid (HT.out.below hb)
      replace R_a := Lib.hid (R_a.out.below hb)
      replace R_b := Lib.hid (R_b.out.below hb)
      replace B_a := Lib.hid (B_a.out.below hb)
      replace B_b := Lib.hid (B_b.out.below hb)
      replace B_x := Lib.hid (B_x.out.below hb)
      replace B_y := Lib.hid (B_y.out.below hb)
      replace hB := below_next hB hb
      clear hb
      have Q_p7 := Lib.hid h_p7
      clear h_p7
      go_wp2_with fail
      refine hK.out _ _ (by exact ⟨B_a.out.c3, B_b.out.c3⟩) (fun hHeld => ?_)
      clear hK K
      try simp only [Act.put, List.setIfInBounds_toArray, List.set_cons_zero, List.set_cons_succ]
      refine wpAnyH_ready (rs := [27]) (by kernel_rfl) (by simp) ?_
      refine AllReadyH.cons (by simp only [List.getElem?_toArray, List.getElem?_cons_succ, List.getElem?_cons_zero]; rfl) (fun K hK => ?_) AllReadyH.nil
      go_simp
      clear hHeld
      refine (r3sub_any _ _ _ _ 10 _ _ _ _ 10 _ (by exact R_a.out) (by exact R_b.out) (by omega) (by omega) (by omega) (by omega)).mono ?_
      rintro e w21 ⟨b_p8, A_p8, n_p8, c_p8, D_p8, e_p8, f_p8, rfl, h_p8, hb⟩
      replace HT := Lib.hid (HT.out.below hb)
      replace R_a := Lib.hid (R_a.out.below hb)
      replace R_b := Lib.hid (R_b.out.below hb)
      replace Q_p7 := Lib.hid (Q_p7.out.below hb)
      replace B_a := Lib.hid (B_a.out.below hb)
      replace B_b := Lib.hid (B_b.out.below hb)
      replace B_x := Lib.hid (B_x.out.below hb)
      replace B_y := Lib.hid (B_y.out.below hb)
      replace hB := below_next hB hb
      clear hb
      have Q_p8 := Lib.hid h_p8
      clear h_p8
      go_wp2_with fail
      refine hK.out _ _ (by exact ⟨B_a.out.c3, B_b.out.c3⟩) (fun hHeld => ?_)
      clear hK K
      try simp only [Act.put, List.setIfInBounds_toArray, List.set_cons_zero, List.set_cons_succ]
      refine wpAnyH_ready (rs := [28]) (by kernel_rfl) (by simp) ?_
      refine AllReadyH.cons (by simp only [List.getElem?_toArray, List.getElem?_cons_succ, List.getElem?_cons_zero]; rfl) (fun K hK => ?_) AllReadyH.nil
      go_simp
      clear hHeld
      refine (rsame_q (by exact Q_p7.out) (by exact Q_p8.out) rfl).mono ?_
      rintro e w22 ⟨rfl, hb⟩
      replace HT := Lib.hid (HT.out.below hb)
      replace R_a := Lib.hid (R_a.out.below hb)
      replace R_b := Lib.hid (R_b.out.below hb)
      replace Q_p7 := Lib.hid (Q_p7.out.below hb)
      replace Q_p8 := Lib.hid (Q_p8.out.below hb)
      replace B_a := Lib.hid (B_a.out.below hb)
      replace B_b := Lib.hid (B_b.out.below hb)
      replace B_x := Lib.hid (B_x.out.below hb)
      replace B_y := Lib.hid (B_y.out.below hb)
      replace hB := below_next hB hb
      clear hb
      clear Q_p7
      clear Q_p8
      go_wp2_with fail
      refine hK.out _ _ (by exact ⟨B_a.out.c3, B_b.out.c3⟩) (fun hHeld => ?_)
      clear hK K
      try simp only [Act.put, List.setIfInBounds_toArray, List.set_cons_zero, List.set_cons_succ]
      refine wpAnyH_takeQ 29 (v := ?_) (fun _ _ _ _ _ h => h) (by simp only [List.getElem?_toArray, List.getElem?_cons_succ, List.getElem?_cons_zero]; rfl) (by kernel_rfl) (by kernel_rfl) (by kernel_rfl) (by rfl) ?_ hHeld ?_; rotate_left; · (intro w hSw; (try dsimp only at hSw); go_simp; (try with_reducible rfl))
      try simp only [Act.put, List.setIfInBounds_toArray, List.set_cons_zero, List.set_cons_succ]
      refine wpAnyH_takeQ 30 (v := ?_) (fun _ _ _ _ _ h => h) (by simp only [List.getElem?_toArray, List.getElem?_cons_succ, List.getElem?_cons_zero]; rfl) (by kernel_rfl) (by kernel_rfl) (by kernel_rfl) (by rfl) ?_ hHeld ?_; rotate_left; · (intro w hSw; (try dsimp only at hSw); go_simp; (try with_reducible rfl))
      try simp only [Act.put, List.setIfInBounds_toArray, List.set_cons_zero, List.set_cons_succ]
      refine wpAnyH_takeQ 31 (v := ?_) (fun _ _ _ _ _ h => h) (by simp only [List.getElem?_toArray, List.getElem?_cons_succ, List.getElem?_cons_zero]; rfl) (by kernel_rfl) (by kernel_rfl) (by kernel_rfl) (by rfl) ?_ hHeld ?_; rotate_left; · (intro w hSw; (try dsimp only at hSw); go_simp; (try with_reducible rfl))
      try simp only [Act.put, List.setIfInBounds_toArray, List.set_cons_zero, List.set_cons_succ]
      refine wpAnyH_takeQ 32 (v := ?_) (fun _ _ _ _ _ h => h) (by simp only [List.getElem?_toArray, List.getElem?_cons_succ, List.getElem?_cons_zero]; rfl) (by kernel_rfl) (by kernel_rfl) (by kernel_rfl) (by rfl) ?_ hHeld ?_; rotate_left; · (intro w hSw; (try dsimp only at hSw); go_simp; (try with_reducible rfl))
      try simp only [Act.put, List.setIfInBounds_toArray, List.set_cons_zero, List.set_cons_succ]
      refine wpAnyH_takeQ 34 (v := ?_) (fun _ _ _ _ _ h => h) (by simp only [List.getElem?_toArray, List.getElem?_cons_succ, List.getElem?_cons_zero]; rfl) (by kernel_rfl) (by kernel_rfl) (by kernel_rfl) (by rfl) ?_ hHeld ?_; rotate_left; · (intro w hSw; (try dsimp only at hSw); go_simp; (try with_reducible rfl))
      try simp only [Act.put, List.setIfInBounds_toArray, List.set_cons_zero, List.set_cons_succ]
      refine wpAnyH_takeQ 35 (v := ?_) (fun _ _ _ _ _ h => h) (by simp only [List.getElem?_toArray, List.getElem?_cons_succ, List.getElem?_cons_zero]; rfl) (by kernel_rfl) (by kernel_rfl) (by kernel_rfl) (by rfl) ?_ hHeld ?_; rotate_left; · (intro w hSw; (try dsimp only at hSw); go_simp; (try with_reducible rfl))
      try simp only [Act.put, List.setIfInBounds_toArray, List.set_cons_zero, List.set_cons_succ]
      refine wpAnyH_ready (rs := [33]) (by kernel_rfl) (by simp) ?_
      refine AllReadyH.cons (by simp only [List.getElem?_toArray, List.getElem?_cons_succ, List.getElem?_cons_zero]; rfl) (fun K hK => ?_) AllReadyH.nil
      go_simp
      clear hHeld
      refine (qmul_any _ _ _ _ 10 _ _ _ _ 10 _ (by exact R_a.out) (by exact R_b.out) (by omega) (by omega) (by omega) (by omega)).mono ?_
      rintro e w23 ⟨b_p9, A_p9, n_p9, c_p9, D_p9, e_p9, f_p9, rfl, h_p9, hb⟩
      replace HT := Lib.hid (HT.out.below hb)
      replace R_a := Lib.hid (R_a.out.below hb)
      replace R_b := Lib.hid (R_b.out.below hb)
      replace B_a := Lib.hid (B_a.out.below hb)
      replace B_b := Lib.hid (B_b.out.below hb)
      replace B_x := Lib.hid (B_x.out.below hb)
      replace B_y := Lib.hid (B_y.out.below hb)
      replace hB := below_next hB hb
      clear hb
      have Q_p9 := Lib.hid h_p9
      clear h_p9
      go_wp2_with fail
      refine hK.out _ _ (by exact ⟨B_a.out.c3, B_b.out.c3⟩) (fun hHeld => ?_)
      clear hK K
      try simp only [Act.put, List.setIfInBounds_toArray, List.set_cons_zero, List.set_cons_succ]
      refine wpAnyH_ready (rs := [36]) (by kernel_rfl) (by simp) ?_
      refine AllReadyH.cons (by simp only [List.getElem?_toArray, List.getElem?_cons_succ, List.getElem?_cons_zero]; rfl) (fun K hK => ?_) AllReadyH.nil
      go_simp
      clear hHeld
      refine (r3mul_any _ _ _ _ 10 _ _ _ _ 10 _ (by exact R_a.out) (by exact R_b.out) (by omega) (by omega) (by omega) (by omega)).mono ?_
      rintro e w24 ⟨b_pa, A_pa, n_pa, c_pa, D_pa, e_pa, f_pa, rfl, h_pa, hb⟩
      replace HT := Lib.hid (HT.out.below hb)
      replace R_a := Lib.hid (R_a.out.below hb)
      replace R_b := Lib.hid (R_b.out.below hb)
      replace Q_p9 := Lib.hid (Q_p9.out.below hb)
      replace B_a := Lib.hid (B_a.out.below hb)
      replace B_b := Lib.hid (B_b.out.below hb)
      replace B_x := Lib.hid (B_x.out.below hb)
      replace B_y := Lib.hid (B_y.out.below hb)
      replace hB := below_next hB hb
      clear hb
      have Q_pa := Lib.hid h_pa
      clear h_pa
      go_wp2_with fail
      refine hK.out _ _ (by exact ⟨B_a.out.c3, B_b.out.c3⟩) (fun hHeld => ?_)
      clear hK K
      try simp only [Act.put, List.setIfInBounds_toArray, List.set_cons_zero, List.set_cons_succ]
      refine wpAnyH_ready (rs := [37]) (by kernel_rfl) (by simp) ?_
      refine AllReadyH.cons (by simp only [List.getElem?_toArray, List.getElem?_cons_succ, List.getElem?_cons_zero]; rfl) (fun K hK => ?_) AllReadyH.nil
      go_simp
      clear hHeld
      refine (rsame_q (by exact Q_p9.out) (by exact Q_pa.out) rfl).mono ?_
      rintro e w25 ⟨rfl, hb⟩
      replace HT := Lib.hid (HT.out.below hb)
      replace R_a := Lib.hid (R_a.out.below hb)
      replace R_b := Lib.hid (R_b.out.below hb)
      replace Q_p9 := Lib.hid (Q_p9.out.below hb)
      replace Q_pa := Lib.hid (Q_pa.out.below hb)
      replace B_a := Lib.hid (B_a.out.below hb)
      replace B_b := Lib.hid (B_b.out.below hb)
      replace B_x := Lib.hid (B_x.out.below hb)
      replace B_y := Lib.hid (B_y.out.below hb)
      replace hB := below_next hB hb
      clear hb
      clear Q_p9
      clear Q_pa
      go_wp2_with fail
      refine hK.out _ _ (by exact ⟨B_a.out.c3, B_b.out.c3⟩) (fun hHeld => ?_)
      clear hK K
      try simp only [Act.put, List.setIfInBounds_toArray, List.set_cons_zero, List.set_cons_succ]
      refine wpAnyH_takeQ 38 (v := ?_) (fun _ _ _ _ _ h => h) (by simp only [List.getElem?_toArray, List.getElem?_cons_succ, List.getElem?_cons_zero]; rfl) (by kernel_rfl) (by kernel_rfl) (by kernel_rfl) (by rfl) ?_ hHeld ?_; rotate_left; · (intro w hSw; (try dsimp only at hSw); go_simp; (try with_reducible rfl))
      try simp only [Act.put, List.setIfInBounds_toArray, List.set_cons_zero, List.set_cons_succ]
      refine wpAnyH_takeQ 39 (v := ?_) (fun _ _ _ _ _ h => h) (by simp only [List.getElem?_toArray, List.getElem?_cons_succ, List.getElem?_cons_zero]; rfl) (by kernel_rfl) (by kernel_rfl) (by kernel_rfl) (by rfl) ?_ hHeld ?_; rotate_left; · (intro w hSw; (try dsimp only at hSw); go_simp; (try with_reducible rfl))
      try simp only [Act.put, List.setIfInBounds_toArray, List.set_cons_zero, List.set_cons_succ]
      refine wpAnyH_ready (rs := [40]) (by kernel_rfl) (by simp) ?_
      refine AllReadyH.cons (by simp only [List.getElem?_toArray, List.getElem?_cons_succ, List.getElem?_cons_zero]; rfl) (fun K hK => ?_) AllReadyH.nil
      go_simp
      clear hHeld
      refine (holds_any _ (by exact HT.out)).mono ?_
      rintro e w26 ⟨rfl, hb⟩
      replace HT := Lib.hid (HT.out.below hb)
      replace R_a := Lib.hid (R_a.out.below hb)
      replace R_b := Lib.hid (R_b.out.below hb)
      replace B_a := Lib.hid (B_a.out.below hb)
      replace B_b := Lib.hid (B_b.out.below hb)
      replace B_x := Lib.hid (B_x.out.below hb)
      replace B_y := Lib.hid (B_y.out.below hb)
      replace hB := below_next hB hb
      clear hb
      go_wp2_with fail
      refine hK.out _ _ (by exact ⟨B_a.out.c3, B_b.out.c3⟩) (fun hHeld => ?_)
      clear hK K
      try simp only [Act.put, List.setIfInBounds_toArray, List.set_cons_zero, List.set_cons_succ]
      refine wpAnyH_takeQ 41 (v := ?_) (fun _ _ _ _ _ h => h) (by simp only [List.getElem?_toArray, List.getElem?_cons_succ, List.getElem?_cons_zero]; rfl) (by kernel_rfl) (by kernel_rfl) (by kernel_rfl) (by rfl) ?_ hHeld ?_; rotate_left; · (intro w hSw; (try dsimp only at hSw); go_simp; (try with_reducible rfl))
      try simp only [Act.put, List.setIfInBounds_toArray, List.set_cons_zero, List.set_cons_succ]
      refine wpAnyH_takeQ 42 (v := ?_) (fun _ _ _ _ _ h => h) (by simp only [List.getElem?_toArray, List.getElem?_cons_succ, List.getElem?_cons_zero]; rfl) (by kernel_rfl) (by kernel_rfl) (by kernel_rfl) (by rfl) ?_ hHeld ?_; rotate_left; · (intro w hSw; (try dsimp only at hSw); go_simp; (try with_reducible rfl))
      try simp only [Act.put, List.setIfInBounds_toArray, List.set_cons_zero, List.set_cons_succ]
      refine wpAnyH_done (by kernel_rfl) (NoPanic.normal ?_) _
      clear hHeld
      have c_a0 := B_a.out.cell0
      have c_a1 := B_a.out.cell1
      have c_a2 := B_a.out.cell2
      have c_b0 := B_b.out.cell0
      have c_b1 := B_b.out.cell1
      have c_b2 := B_b.out.cell2
      have c_x0 := B_x.out.cell0
      have c_x1 := B_x.out.cell1
      have c_x2 := B_x.out.cell2
      have c_y0 := B_y.out.cell0
      have c_y1 := B_y.out.cell1
      have c_y2 := B_y.out.cell2
      go_wp2
      go_ret
      exact ⟨rfl, hB⟩
    · skip
      have c_a0 := B_a.out.cell0
      have c_a1 := B_a.out.cell1
      have c_a2 := B_a.out.cell2
      have c_b0 := B_b.out.cell0
      have c_b1 := B_b.out.cell1
      have c_b2 := B_b.out.cell2
      go_wp2_with fail
      clear c_a0 c_a1 c_a2 c_b0 c_b1 c_b2
      refine (qdiv_any _ _ _ _ 10 _ _ _ _ 10 _ (by exact R_a.out) (by exact R_b.out) (by omega) (by omega) (by omega) (by omega) hq).mono ?_
      rintro e w27 ⟨b_x, A_x, n_x, c_x, D_x, e_x, f_x, rfl, h_x, hb⟩
      replace HT := Lib.hid (HT.out.below hb)
      replace R_a := Lib.hid (R_a.out.below hb)
      replace R_b := Lib.hid (R_b.out.below hb)
      replace B_a := Lib.hid (B_a.out.below hb)
      replace B_b := Lib.hid (B_b.out.below hb)
      replace hB := below_next hB hb
      clear hb
      have Q_x := Lib.hid h_x
      clear h_x
      have c_a0 := B_a.out.cell0
      have c_a1 := B_a.out.cell1
      have c_a2 := B_a.out.cell2
      have c_b0 := B_b.out.cell0
      have c_b1 := B_b.out.cell1
      have c_b2 := B_b.out.cell2
      go_upto_region 4 with fail
      clear c_a0 c_a1 c_a2 c_b0 c_b1 c_b2
      obtain ⟨W28, g_x, hV, hg, NB, hb⟩ := newR w27 (.bool b_x) (.slice A_x n_x c_x) (.slice D_x e_x f_x)
      rw [hV, hg]
      clear hV
      have l_x_a : w.heap.size < g_x := hg ▸ B_a.out.lt
      have l_x_b : w.heap.size + 1 < g_x := hg ▸ B_b.out.lt
      replace HT := Lib.hid (HT.out.below hb)
      replace R_a := Lib.hid (R_a.out.below hb)
      replace R_b := Lib.hid (R_b.out.below hb)
      replace Q_x := Lib.hid (Q_x.out.below hb)
      replace B_a := Lib.hid (B_a.out.below hb)
      replace B_b := Lib.hid (B_b.out.below hb)
      replace hB := below_next hB hb
      have B_x := NB
      clear NB hb hg
      have c_a0 := B_a.out.cell0
      have c_a1 := B_a.out.cell1
      have c_a2 := B_a.out.cell2
      have c_b0 := B_b.out.cell0
      have c_b1 := B_b.out.cell1
      have c_b2 := B_b.out.cell2
      have c_x0 := B_x.out.cell0
      have c_x1 := B_x.out.cell1
      have c_x2 := B_x.out.cell2
      go_wp2_with fail
      clear c_a0 c_a1 c_a2 c_b0 c_b1 c_b2 c_x0 c_x1 c_x2
      refine (r3div_any _ _ _ _ 10 _ _ _ _ 10 _ (by exact R_a.out) (by exact R_b.out) (by omega) (by omega) (by omega) (by omega) hq).mono ?_
      rintro e w29 ⟨b_y, A_y, n_y, c_y, D_y, e_y, f_y, rfl, h_y, hb⟩
      replace HT := Lib.hid (HT.out.below hb)
      replace R_a := Lib.hid (R_a.out.below hb)
      replace R_b := Lib.hid (R_b.out.below hb)
      replace Q_x := Lib.hid (Q_x.out.below hb)
      replace B_a := Lib.hid (B_a.out.below hb)
      replace B_b := Lib.hid (B_b.out.below hb)
      replace B_x := Lib.hid (B_x.out.below hb)
      replace hB := below_next hB hb
      clear hb
      have Q_y := Lib.hid h_y
      clear h_y
      have c_a0 := B_a.out.cell0
      have c_a1 := B_a.out.cell1
      have c_a2 := B_a.out.cell2
      have c_b0 := B_b.out.cell0
      have c_b1 := B_b.out.cell1
      have c_b2 := B_b.out.cell2
      have c_x0 := B_x.out.cell0
      have c_x1 := B_x.out.cell1
      have c_x2 := B_x.out.cell2
      go_wp2
      clear c_a0 c_a1 c_a2 c_b0 c_b1 c_b2 c_x0 c_x1 c_x2
      obtain ⟨W30, g_y, hV, hg, NB, hb⟩ := newR w29 (.bool b_y) (.slice A_y n_y c_y) (.slice D_y e_y f_y)
      rw [hV, hg]
      clear hV
      have l_y_a : w.heap.size < g_y := hg ▸ B_a.out.lt
      have l_y_b : w.heap.size + 1 < g_y := hg ▸ B_b.out.lt
      have l_y_x : g_x < g_y := hg ▸ B_x.out.lt
      replace HT := Lib.hid (HT.out.below hb)
      replace R_a := Lib.hid (R_a.out.below hb)
      replace R_b := Lib.hid (R_b.out.below hb)
      replace Q_x := Lib.hid (Q_x.out.below hb)
      replace Q_y := Lib.hid (Q_y.out.below hb)
      replace B_a := Lib.hid (B_a.out.below hb)
      replace B_b := Lib.hid (B_b.out.below hb)
      replace B_x := Lib.hid (B_x.out.below hb)
      replace hB := below_next hB hb
      have B_y := NB
      clear NB hb hg
      refine wp_region_named (S := (fun w' => (w'.cell? ⟨g_x, 0, none⟩ = some (.bool b_x) ∧ w'.cell? ⟨g_x, 1, none⟩ = some (.slice A_x n_x c_x) ∧ w'.cell? ⟨g_x, 2, none⟩ = some (.slice D_x e_x f_x)) ∧ (w'.cell? ⟨g_y, 0, none⟩ = some (.bool b_y) ∧ w'.cell? ⟨g_y, 1, none⟩ = some (.slice A_y n_y c_y) ∧ w'.cell? ⟨g_y, 2, none⟩ = some (.slice D_y e_y f_y)) ∧ (w'.cell? ⟨w.heap.size, 0, none⟩ = some (.bool b_a) ∧ w'.cell? ⟨w.heap.size, 1, none⟩ = some m_a ∧ w'.cell? ⟨w.heap.size, 2, none⟩ = some d_a) ∧ (w'.cell? ⟨w.heap.size + 1, 0, none⟩ = some (.bool b_b) ∧ w'.cell? ⟨w.heap.size + 1, 1, none⟩ = some m_b ∧ w'.cell? ⟨w.heap.size + 1, 2, none⟩ = some d_b))) (by kernel_rfl) (by exact ⟨B_x.out.c3, B_y.out.c3, B_a.out.c3, B_b.out.c3⟩) (fun V31 hb hHeld => ?_)
      replace HT := Lib.hid (HT.out.below hb)
      replace R_a := Lib.hid (R_a.out.below hb)
      replace R_b := Lib.hid (R_b.out.below hb)
      replace Q_x := Lib.hid (Q_x.out.below hb)
      replace Q_y := Lib.hid (Q_y.out.below hb)
      replace B_a := Lib.hid (B_a.out.below hb)
      replace B_b := Lib.hid (B_b.out.below hb)
      replace B_x := Lib.hid (B_x.out.below hb)
      replace B_y := Lib.hid (B_y.out.below hb)
      replace hB := below_next hB hb
      clear hb
      refine wpAnyH_takeQ 0 (v := ?_) (fun _ _ _ _ _ h => h) (by simp only [List.getElem?_toArray, List.getElem?_cons_zero]; rfl) (by kernel_rfl) (by kernel_rfl) (by kernel_rfl) (by rfl) ?_ hHeld ?_; rotate_left; · (intro w hSw; (try dsimp only at hSw); go_simp; (try with_reducible rfl))
      try simp only [Act.put, List.setIfInBounds_toArray, List.set_cons_zero, List.set_cons_succ]
      refine wpAnyH_takeQ 1 (v := ?_) (fun _ _ _ _ _ h => h) (by simp only [List.getElem?_toArray, List.getElem?_cons_succ, List.getElem?_cons_zero]; rfl) (by kernel_rfl) (by kernel_rfl) (by kernel_rfl) (by rfl) ?_ hHeld ?_; rotate_left; · (intro w hSw; (try dsimp only at hSw); go_simp; (try with_reducible rfl))
      try simp only [Act.put, List.setIfInBounds_toArray, List.set_cons_zero, List.set_cons_succ]
      refine wpAnyH_takeQ 2 (v := ?_) (fun _ _ _ _ _ h => h) (by simp only [List.getElem?_toArray, List.getElem?_cons_succ, List.getElem?_cons_zero]; rfl) (by kernel_rfl) (by kernel_rfl) (by kernel_rfl) (by rfl) ?_ hHeld ?_; rotate_left; · (intro w hSw; (try dsimp only at hSw); go_simp; (try with_reducible rfl))
      try simp only [Act.put, List.setIfInBounds_toArray, List.set_cons_zero, List.set_cons_succ]
      refine wpAnyH_takeQ 3 (v := ?_) (fun _ _ _ _ _ h => h) (by simp only [List.getElem?_toArray, List.getElem?_cons_succ, List.getElem?_cons_zero]; rfl) (by kernel_rfl) (by kernel_rfl) (by kernel_rfl) (by rfl) ?_ hHeld ?_; rotate_left; · (intro w hSw; (try dsimp only at hSw); go_simp; (try with_reducible rfl))
      try simp only [Act.put, List.setIfInBounds_toArray, List.set_cons_zero, List.set_cons_succ]
      refine wpAnyH_takeQ 4 (v := ?_) (fun _ _ _ _ _ h => h) (by simp only [List.getElem?_toArray, List.getElem?_cons_succ, List.getElem?_cons_zero]; rfl) (by kernel_rfl) (by kernel_rfl) (by kernel_rfl) (by rfl) ?_ hHeld ?_; rotate_left; · (intro w hSw; (try dsimp only at hSw); go_simp; (try with_reducible rfl))
      try simp only [Act.put, List.setIfInBounds_toArray, List.set_cons_zero, List.set_cons_succ]
      refine wpAnyH_takeQ 5 (v := ?_) (fun _ _ _ _ _ h => h) (by simp only [List.getElem?_toArray, List.getElem?_cons_succ, List.getElem?_cons_zero]; rfl) (by kernel_rfl) (by kernel_rfl) (by kernel_rfl) (by rfl) ?_ hHeld ?_; rotate_left; · (intro w hSw; (try dsimp only at hSw); go_simp; (try with_reducible rfl))
      try simp only [Act.put, List.setIfInBounds_toArray, List.set_cons_zero, List.set_cons_succ]
      refine wpAnyH_ready (rs := [6]) (by kernel_rfl) (by simp) ?_
      refine AllReadyH.cons (by simp only [List.getElem?_toArray, List.getElem?_cons_succ, List.getElem?_cons_zero]; rfl) (fun K hK => ?_) AllReadyH.nil
      go_simp
      clear hHeld
      refine (rsame_q (by exact Q_x.out) (by exact Q_y.out) rfl).mono ?_
      rintro e w32 ⟨rfl, hb⟩
      replace HT := Lib.hid (HT.out.below hb)
      replace R_a := Lib.hid (R_a.out.below hb)
      replace R_b := Lib.hid (R_b.out.below hb)
      replace Q_x := Lib.hid (Q_x.out.below hb)
      replace Q_y := Lib.hid (Q_y.out.below hb)
      replace B_a := Lib.hid (B_a.out.below hb)
      replace B_b := Lib.hid (B_b.out.below hb)
      replace B_x := Lib.hid (B_x.out.below hb)
      replace B_y := Lib.hid (B_y.out.below hb)
      replace hB := below_next hB hb
      clear hb
      go_wp2_with fail
      refine hK.out _ _ (by exact ⟨B_x.out.c3, B_y.out.c3, B_a.out.c3, B_b.out.c3⟩) (fun hHeld => ?_)
      clear hK K
      try simp only [Act.put, List.setIfInBounds_toArray, List.set_cons_zero, List.set_cons_succ]
      refine wpAnyH_takeQ 7 (v := ?_) (fun _ _ _ _ _ h => h) (by simp only [List.getElem?_toArray, List.getElem?_cons_succ, List.getElem?_cons_zero]; rfl) (by kernel_rfl) (by kernel_rfl) (by kernel_rfl) (by rfl) ?_ hHeld ?_; rotate_left; · (intro w hSw; (try dsimp only at hSw); go_simp; (try with_reducible rfl))
      try simp only [Act.put, List.setIfInBounds_toArray, List.set_cons_zero, List.set_cons_succ]
      refine wpAnyH_takeQ 8 (v := ?_) (fun _ _ _ _ _ h => h) (by simp only [List.getElem?_toArray, List.getElem?_cons_succ, List.getElem?_cons_zero]; rfl) (by kernel_rfl) (by kernel_rfl) (by kernel_rfl) (by rfl) ?_ hHeld ?_; rotate_left; · (intro w hSw; (try dsimp only at hSw); go_simp; (try with_reducible rfl))
      try simp only [Act.put, List.setIfInBounds_toArray, List.set_cons_zero, List.set_cons_succ]
      refine wpAnyH_takeQ 9 (v := ?_) (fun _ _ _ _ _ h => h) (by simp only [List.getElem?_toArray, List.getElem?_cons_succ, List.getElem?_cons_zero]; rfl) (by kernel_rfl) (by kernel_rfl) (by kernel_rfl) (by rfl) ?_ hHeld ?_; rotate_left; · (intro w hSw; (try dsimp only at hSw); go_simp; (try with_reducible rfl))
      try simp only [Act.put, List.setIfInBounds_toArray, List.set_cons_zero, List.set_cons_succ]
      refine wpAnyH_takeQ 10 (v := ?_) (fun _ _ _ _ _ h => h) (by simp only [List.getElem?_toArray, List.getElem?_cons_succ, List.getElem?_cons_zero]; rfl) (by kernel_rfl) (by kernel_rfl) (by kernel_rfl) (by rfl) ?_ hHeld ?_; rotate_left; · (intro w hSw; (try dsimp only at hSw); go_simp; (try with_reducible rfl))
      try simp only [Act.put, List.setIfInBounds_toArray, List.set_cons_zero, List.set_cons_succ]
      refine wpAnyH_takeQ 11 (v := ?_) (fun _ _ _ _ _ h => h) (by simp only [List.getElem?_toArray, List.getElem?_cons_succ, List.getElem?_cons_zero]; rfl) (by kernel_rfl) (by kernel_rfl) (by kernel_rfl) (by rfl) ?_ hHeld ?_; rotate_left; · (intro w hSw; (try dsimp only at hSw); go_simp; (try with_reducible rfl))
      try simp only [Act.put, List.setIfInBounds_toArray, List.set_cons_zero, List.set_cons_succ]
      refine wpAnyH_takeQ 13 (v := ?_) (fun _ _ _ _ _ h => h) (by simp only [List.getElem?_toArray, List.getElem?_cons_succ, List.getElem?_cons_zero]; rfl) (by kernel_rfl) (by kernel_rfl) (by kernel_rfl) (by rfl) ?_ hHeld ?_; rotate_left; · (intro w hSw; (try dsimp only at hSw); go_simp; (try with_reducible rfl))
      try simp only [Act.put, List.setIfInBounds_toArray, List.set_cons_zero, List.set_cons_succ]
      refine wpAnyH_takeQ 14 (v := ?_) (fun _ _ _ _ _ h => h) (by simp only [List.getElem?_toArray, List.getElem?_cons_succ, List.getElem?_cons_zero]; rfl) (by kernel_rfl) (by kernel_rfl) (by kernel_rfl) (by rfl) ?_ hHeld ?_; rotate_left; · (intro w hSw; (try dsimp only at hSw); go_simp; (try with_reducible rfl))
      try simp only [Act.put, List.setIfInBounds_toArray, List.set_cons_zero, List.set_cons_succ]
      refine wpAnyH_ready (rs := [12]) (by kernel_rfl) (by simp) ?_
      refine AllReadyH.cons (by simp only [List.getElem?_toArray, List.getElem?_cons_succ, List.getElem?_cons_zero]; rfl) (fun K hK => ?_) AllReadyH.nil
      go_simp
      clear hHeld
      refine (qcmp_any _ _ _ _ 10 _ _ _ _ 10 _ (by exact R_a.out) (by exact R_b.out) (by omega) (by omega) (by omega) (by omega)).mono ?_
      rintro e w33 ⟨rfl, hb⟩
      replace HT := Lib.hid (HT.out.below hb)
      replace R_a := Lib.hid (R_a.out.below hb)
      replace R_b := Lib.hid (R_b.out.below hb)
      replace Q_x := Lib.hid (Q_x.out.below hb)
      replace Q_y := Lib.hid (Q_y.out.below hb)
      replace B_a := Lib.hid (B_a.out.below hb)
      replace B_b := Lib.hid (B_b.out.below hb)
      replace B_x := Lib.hid (B_x.out.below hb)
      replace B_y := Lib.hid (B_y.out.below hb)
      replace hB := below_next hB hb
      clear hb
      go_wp2_with fail
      refine hK.out _ _ (by exact ⟨B_x.out.c3, B_y.out.c3, B_a.out.c3, B_b.out.c3⟩) (fun hHeld => ?_)
      clear hK K
      try simp only [Act.put, List.setIfInBounds_toArray, List.set_cons_zero, List.set_cons_succ]
      refine wpAnyH_ready (rs := [15]) (by kernel_rfl) (by simp) ?_
      refine AllReadyH.cons (by simp only [List.getElem?_toArray, List.getElem?_cons_succ, List.getElem?_cons_zero]; rfl) (fun K hK => ?_) AllReadyH.nil
      go_simp
      clear hHeld
      refine (r3cmp_any _ _ _ _ 10 _ _ _ _ 10 _ (by exact R_a.out) (by exact R_b.out) (by omega) (by omega) (by omega) (by omega)).mono ?_
      rintro e w34 ⟨rfl, hb⟩
      replace HT := Lib.hid (HT.out.below hb)
      replace R_a := Lib.hid (R_a.out.below hb)
      replace R_b := Lib.hid (R_b.out.below hb)
      replace Q_x := Lib.hid (Q_x.out.below hb)
      replace Q_y := Lib.hid (Q_y.out.below hb)
      replace B_a := Lib.hid (B_a.out.below hb)
      replace B_b := Lib.hid (B_b.out.below hb)
      replace B_x := Lib.hid (B_x.out.below hb)
      replace B_y := Lib.hid (B_y.out.below hb)
      replace hB := below_next hB hb
      clear hb
      go_wp2_with fail
      refine hK.out _ _ (by exact ⟨B_x.out.c3, B_y.out.c3, B_a.out.c3, B_b.out.c3⟩) (fun hHeld => ?_)
      clear hK K
      try simp only [Act.put, List.setIfInBounds_toArray, List.set_cons_zero, List.set_cons_succ]
      refine wpAnyH_takeQ 16 (v := ?_) (fun _ _ _ _ _ h => h) (by simp only [List.getElem?_toArray, List.getElem?_cons_succ, List.getElem?_cons_zero]; rfl) (by kernel_rfl) (by kernel_rfl) (by kernel_rfl) (by rfl) ?_ hHeld ?_; rotate_left; · (intro w hSw; (try dsimp only at hSw); go_simp; (try with_reducible rfl))
      try simp only [Act.put, List.setIfInBounds_toArray, List.set_cons_zero, List.set_cons_succ]
      refine wpAnyH_takeQ 17 (v := ?_) (fun _ _ _ _ _ h => h) (by simp only [List.getElem?_toArray, List.getElem?_cons_succ, List.getElem?_cons_zero]; rfl) (by kernel_rfl) (by kernel_rfl) (by kernel_rfl) (by rfl) ?_ hHeld ?_; rotate_left; · (intro w hSw; (try dsimp only at hSw); go_simp; (try with_reducible rfl))
      try simp only [Act.put, List.setIfInBounds_toArray, List.set_cons_zero, List.set_cons_succ]
      refine wpAnyH_done (by kernel_rfl) (NoPanic.normal ?_) _
      clear hHeld
      have c_a0 := B_a.out.cell0
      have c_a1 := B_a.out.cell1
      have c_a2 := B_a.out.cell2
      have c_b0 := B_b.out.cell0
      have c_b1 := B_b.out.cell1
      have c_b2 := B_b.out.cell2
      have c_x0 := B_x.out.cell0
      have c_x1 := B_x.out.cell1
      have c_x2 := B_x.out.cell2
      have c_y0 := B_y.out.cell0
      have c_y1 := B_y.out.cell1
      have c_y2 := B_y.out.cell2
      go_wp2
      clear c_a0 c_a1 c_a2 c_b0 c_b1 c_b2 c_x0 c_x1 c_x2 c_y0 c_y1 c_y2
      refine wp_region_named (S := (fun w' => (w'.cell? ⟨w.heap.size, 0, none⟩ = some (.bool b_a) ∧ w'.cell? ⟨w.heap.size, 1, none⟩ = some m_a ∧ w'.cell? ⟨w.heap.size, 2, none⟩ = some d_a) ∧ (w'.cell? ⟨w.heap.size + 1, 0, none⟩ = some (.bool b_b) ∧ w'.cell? ⟨w.heap.size + 1, 1, none⟩ = some m_b ∧ w'.cell? ⟨w.heap.size + 1, 2, none⟩ = some d_b))) (by kernel_rfl) (by exact ⟨B_a.out.c3, B_b.out.c3⟩) (fun V35 hb hHeld => ?_)
      replace HT := Lib.hid (HT.out.below hb)
      replace R_a := Lib.hid (R_a.out.below hb)
      replace R_b := Lib.hid (R_b.out.below hb)
      replace Q_x := Lib.hid (Q_x.out.below hb)
      replace Q_y := Lib.hid (Q_y.out.below hb)
      replace B_a := Lib.hid (B_a.out.below hb)
      replace B_b := Lib.hid (B_b.out.below hb)
      replace B_x := Lib.hid (B_x.out.below hb)
      replace B_y := Lib.hid (B_y.out.below hb)
      replace hB := below_next hB hb
      clear hb
      refine wpAnyH_takeQ 0 (v := ?_) (fun _ _ _ _ _ h => h) (by simp only [List.getElem?_toArray, List.getElem?_cons_zero]; rfl) (by kernel_rfl) (by kernel_rfl) (by kernel_rfl) (by rfl) ?_ hHeld ?_; rotate_left; · (intro w hSw; (try dsimp only at hSw); go_simp; (try with_reducible rfl))
      try simp only [Act.put, List.setIfInBounds_toArray, List.set_cons_zero, List.set_cons_succ]
      refine wpAnyH_takeQ 2 (v := ?_) (fun _ _ _ _ _ h => h) (by simp only [List.getElem?_toArray, List.getElem?_cons_succ, List.getElem?_cons_zero]; rfl) (by kernel_rfl) (by kernel_rfl) (by kernel_rfl) (by rfl) ?_ hHeld ?_; rotate_left; · (intro w hSw; (try dsimp only at hSw); go_simp; (try with_reducible rfl))
      try simp only [Act.put, List.setIfInBounds_toArray, List.set_cons_zero, List.set_cons_succ]
      refine wpAnyH_ready (rs := [1]) (by kernel_rfl) (by simp) ?_
      refine AllReadyH.cons (by simp only [List.getElem?_toArray, List.getElem?_cons_succ, List.getElem?_cons_zero]; rfl) (fun K hK => ?_) AllReadyH.nil
      go_simp
      clear hHeld
      refine (qnorm_any _ _ _ _ 10 _ (by exact R_a.out) (by omega) (by omega)).mono ?_
      rintro e w36 ⟨b_p1, A_p1, n_p1, c_p1, D_p1, e_p1, f_p1, rfl, h_p1, hb⟩
      replace HT := Lib.hid (HT.out.below hb)
      replace R_a := Lib.hid (R_a.out.below hb)
      replace R_b := Lib.hid (R_b.out.below hb)
      replace Q_x := Lib.hid (Q_x.out.below hb)
      replace Q_y := Lib.hid (Q_y.out.below hb)
      replace B_a := Lib.hid (B_a.out.below hb)
      replace B_b := Lib.hid (B_b.out.below hb)
      replace B_x := Lib.hid (B_x.out.below hb)
      replace B_y := Lib.hid (B_y.out.below hb)
      replace hB := below_next hB hb
      clear hb
      have Q_p1 := Lib.hid h_p1
      clear h_p1
      go_wp2_with fail
      refine hK.out _ _ (by exact ⟨B_a.out.c3, B_b.out.c3⟩) (fun hHeld => ?_)
      clear hK K
      try simp only [Act.put, List.setIfInBounds_toArray, List.set_cons_zero, List.set_cons_succ]
      refine wpAnyH_ready (rs := [3]) (by kernel_rfl) (by simp) ?_
      refine AllReadyH.cons (by simp only [List.getElem?_toArray, List.getElem?_cons_succ, List.getElem?_cons_zero]; rfl) (fun K hK => ?_) AllReadyH.nil
      go_simp
      clear hHeld
      refine (r3norm_any _ _ _ _ 10 _ (by exact R_a.out) (by omega) (by omega)).mono ?_
      rintro e w37 ⟨b_p2, A_p2, n_p2, c_p2, D_p2, e_p2, f_p2, rfl, h_p2, hb⟩
      replace HT := Lib.hid (HT.out.below hb)
      replace R_a := Lib.hid (R_a.out.below hb)
      replace R_b := Lib.hid (R_b.out.below hb)
      replace Q_x := Lib.hid (Q_x.out.below hb)
      replace Q_y := Lib.hid (Q_y.out.below hb)
      replace Q_p1 := Lib.hid (Q_p1.out.below hb)
      replace B_a := Lib.hid (B_a.out.below hb)
      replace B_b := Lib.hid (B_b.out.below hb)
      replace B_x := Lib.hid (B_x.out.below hb)
      replace B_y := Lib.hid (B_y.out.below hb)
      replace hB := below_next hB hb
      clear hb
      have Q_p2 := Lib.hid h_p2
      clear h_p2
      go_wp2_with fail
      refine hK.out _ _ (by exact ⟨B_a.out.c3, B_b.out.c3⟩) (fun hHeld => ?_)
      clear hK K
      try simp only [Act.put, List.setIfInBounds_toArray, List.set_cons_zero, List.set_cons_succ]
      refine wpAnyH_ready (rs := [4]) (by kernel_rfl) (by simp) ?_
      refine AllReadyH.cons (by simp only [List.getElem?_toArray, List.getElem?_cons_succ, List.getElem?_cons_zero]; rfl) (fun K hK => ?_) AllReadyH.nil
      go_simp
      clear hHeld
      refine (rsame_q (by exact Q_p1.out) (by exact Q_p2.out) rfl).mono ?_
      rintro e w38 ⟨rfl, hb⟩
      replace HT := Lib.hid (HT.out.below hb)
      replace R_a := Lib.hid (R_a.out.below hb)
      replace R_b := Lib.hid (R_b.out.below hb)
      replace Q_x := Lib.hid (Q_x.out.below hb)
      replace Q_y := Lib.hid (Q_y.out.below hb)
      replace Q_p1 := Lib.hid (Q_p1.out.below hb)
      replace Q_p2 := Lib.hid (Q_p2.out.below hb)
      replace B_a := Lib.hid (B_a.out.below hb)
      replace B_b := Lib.hid (B_b.out.below hb)
      replace B_x := Lib.hid (B_x.out.below hb)
      replace B_y := Lib.hid (B_y.out.below hb)
      replace hB := below_next hB hb
      clear hb
      clear Q_p1
      clear Q_p2
      go_wp2_with fail
      refine hK.out _ _ (by exact ⟨B_a.out.c3, B_b.out.c3⟩) (fun hHeld => ?_)
      clear hK K
      try simp only [Act.put, List.setIfInBounds_toArray, List.set_cons_zero, List.set_cons_succ]
      refine wpAnyH_takeQ 5 (v := ?_) (fun _ _ _ _ _ h => h) (by simp only [List.getElem?_toArray, List.getElem?_cons_succ, List.getElem?_cons_zero]; rfl) (by kernel_rfl) (by kernel_rfl) (by kernel_rfl) (by rfl) ?_ hHeld ?_; rotate_left; · (intro w hSw; (try dsimp only at hSw); go_simp; (try with_reducible rfl))
      try simp only [Act.put, List.setIfInBounds_toArray, List.set_cons_zero, List.set_cons_succ]
      refine wpAnyH_takeQ 6 (v := ?_) (fun _ _ _ _ _ h => h) (by simp only [List.getElem?_toArray, List.getElem?_cons_succ, List.getElem?_cons_zero]; rfl) (by kernel_rfl) (by kernel_rfl) (by kernel_rfl) (by rfl) ?_ hHeld ?_; rotate_left; · (intro w hSw; (try dsimp only at hSw); go_simp; (try with_reducible rfl))
      try simp only [Act.put, List.setIfInBounds_toArray, List.set_cons_zero, List.set_cons_succ]
      refine wpAnyH_takeQ 8 (v := ?_) (fun _ _ _ _ _ h => h) (by simp only [List.getElem?_toArray, List.getElem?_cons_succ, List.getElem?_cons_zero]; rfl) (by kernel_rfl) (by kernel_rfl) (by kernel_rfl) (by rfl) ?_ hHeld ?_; rotate_left; · (intro w hSw; (try dsimp only at hSw); go_simp; (try with_reducible rfl))
      try simp only [Act.put, List.setIfInBounds_toArray, List.set_cons_zero, List.set_cons_succ]
      refine wpAnyH_ready (rs := [7]) (by kernel_rfl) (by simp) ?_
      refine AllReadyH.cons (by simp only [List.getElem?_toArray, List.getElem?_cons_succ, List.getElem?_cons_zero]; rfl) (fun K hK => ?_) AllReadyH.nil
      go_simp
      clear hHeld
      refine (qneg_any _ _ _ _ 10 _ (by exact R_a.out) (by omega) (by omega)).mono ?_
      rintro e w39 ⟨b_p3, A_p3, n_p3, c_p3, D_p3, e_p3, f_p3, rfl, h_p3, hb⟩
      replace HT := Lib.hid (HT.out.below hb)
      replace R_a := Lib.hid (R_a.out.below hb)
      replace R_b := Lib.hid (R_b.out.below hb)
      replace Q_x := Lib.hid (Q_x.out.below hb)
      replace Q_y := Lib.hid (Q_y.out.below hb)
      replace B_a := Lib.hid (B_a.out.below hb)
      replace B_b := Lib.hid (B_b.out.below hb)
      replace B_x := Lib.hid (B_x.out.below hb)
      replace B_y := Lib.hid (B_y.out.below hb)
      replace hB := below_next hB hb
      clear hb
      have Q_p3 := Lib.hid h_p3
      clear h_p3
      go_wp2_with fail
      refine hK.out _ _ (by exact ⟨B_a.out.c3, B_b.out.c3⟩) (fun hHeld => ?_)
      clear hK K
      try simp only [Act.put, List.setIfInBounds_toArray, List.set_cons_zero, List.set_cons_succ]
      refine wpAnyH_ready (rs := [9]) (by kernel_rfl) (by simp) ?_
      refine AllReadyH.cons (by simp only [List.getElem?_toArray, List.getElem?_cons_succ, List.getElem?_cons_zero]; rfl) (fun K hK => ?_) AllReadyH.nil
      go_simp
      clear hHeld
      refine (r3neg_any _ _ _ _ 10 _ (by exact R_a.out) (by omega) (by omega)).mono ?_
      rintro e w40 ⟨b_p4, A_p4, n_p4, c_p4, D_p4, e_p4, f_p4, rfl, h_p4, hb⟩
      replace HT := Lib.hid (HT.out.below hb)
      replace R_a := Lib.hid (R_a.out.below hb)
      replace R_b := Lib.hid (R_b.out.below hb)
      replace Q_x := Lib.hid (Q_x.out.below hb)
      replace Q_y := Lib.hid (Q_y.out.below hb)
      replace Q_p3 := Lib.hid (Q_p3.out.below hb)
      replace B_a := Lib.hid (B_a.out.below hb)
      replace B_b := Lib.hid (B_b.out.below hb)
      replace B_x := Lib.hid (B_x.out.below hb)
      replace B_y := Lib.hid (B_y.out.below hb)
      replace hB := below_next hB hb
      clear hb
      have Q_p4 := Lib.hid h_p4
      clear h_p4
      go_wp2_with fail
      refine hK.out _ _ (by exact ⟨B_a.out.c3, B_b.out.c3⟩) (fun hHeld => ?_)
      clear hK K
      try simp only [Act.put, List.setIfInBounds_toArray, List.set_cons_zero, List.set_cons_succ]
      refine wpAnyH_ready (rs := [10]) (by kernel_rfl) (by simp) ?_
      refine AllReadyH.cons (by simp only [List.getElem?_toArray, List.getElem?_cons_succ, List.getElem?_cons_zero]; rfl) (fun K hK => ?_) AllReadyH.nil
      go_simp
      clear hHeld
      refine (rsame_q (by exact Q_p3.out) (by exact Q_p4.out) rfl).mono ?_
      rintro e w41 ⟨rfl, hb⟩
      replace HT := Lib.hid (HT.out.below hb)
      replace R_a := Lib.hid (R_a.out.below hb)
      replace R_b := Lib.hid (R_b.out.below hb)
      replace Q_x := Lib.hid (Q_x.out.below hb)
      replace Q_y := Lib.hid (Q_y.out.below hb)
      replace Q_p3 := Lib.hid (Q_p3.out.below hb)
      replace Q_p4 := Lib.hid (Q_p4.out.below hb)
      replace B_a := Lib.hid (B_a.out.below hb)
      replace B_b := Lib.hid (B_b.out.below hb)
      replace B_x := Lib.hid (B_x.out.below hb)
      replace B_y := Lib.hid (B_y.out.below hb)
      replace hB := below_next hB hb
      clear hb
      clear Q_p3
      clear Q_p4
      go_wp2_with fail
      refine hK.out _ _ (by exact ⟨B_a.out.c3, B_b.out.c3⟩) (fun hHeld => ?_)
      clear hK K
      try simp only [Act.put, List.setIfInBounds_toArray, List.set_cons_zero, List.set_cons_succ]
      refine wpAnyH_takeQ 11 (v := ?_) (fun _ _ _ _ _ h => h) (by simp only [List.getElem?_toArray, List.getElem?_cons_succ, List.getElem?_cons_zero]; rfl) (by kernel_rfl) (by kernel_rfl) (by kernel_rfl) (by rfl) ?_ hHeld ?_; rotate_left; · (intro w hSw; (try dsimp only at hSw); go_simp; (try with_reducible rfl))
      try simp only [Act.put, List.setIfInBounds_toArray, List.set_cons_zero, List.set_cons_succ]
      refine wpAnyH_takeQ 12 (v := ?_) (fun _ _ _ _ _ h => h) (by simp only [List.getElem?_toArray, List.getElem?_cons_succ, List.getElem?_cons_zero]; rfl) (by kernel_rfl) (by kernel_rfl) (by kernel_rfl) (by rfl) ?_ hHeld ?_; rotate_left; · (intro w hSw; (try dsimp only at hSw); go_simp; (try with_reducible rfl))
      try simp only [Act.put, List.setIfInBounds_toArray, List.set_cons_zero, List.set_cons_succ]
      refine wpAnyH_takeQ 13 (v := ?_) (fun _ _ _ _ _ h => h) (by simp only [List.getElem?_toArray, List.getElem?_cons_succ, List.getElem?_cons_zero]; rfl) (by kernel_rfl) (by kernel_rfl) (by kernel_rfl) (by rfl) ?_ hHeld ?_; rotate_left; · (intro w hSw; (try dsimp only at hSw); go_simp; (try with_reducible rfl))
      try simp only [Act.put, List.setIfInBounds_toArray, List.set_cons_zero, List.set_cons_succ]
      refine wpAnyH_takeQ 14 (v := ?_) (fun _ _ _ _ _ h => h) (by simp only [List.getElem?_toArray, List.getElem?_cons_succ, List.getElem?_cons_zero]; rfl) (by kernel_rfl) (by kernel_rfl) (by kernel_rfl) (by rfl) ?_ hHeld ?_; rotate_left; · (intro w hSw; (try dsimp only at hSw); go_simp; (try with_reducible rfl))
      try simp only [Act.put, List.setIfInBounds_toArray, List.set_cons_zero, List.set_cons_succ]
      refine wpAnyH_takeQ 16 (v := ?_) (fun _ _ _ _ _ h => h) (by simp only [List.getElem?_toArray, List.getElem?_cons_succ, List.getElem?_cons_zero]; rfl) (by kernel_rfl) (by kernel_rfl) (by kernel_rfl) (by rfl) ?_ hHeld ?_; rotate_left; · (intro w hSw; (try dsimp only at hSw); go_simp; (try with_reducible rfl))
      try simp only [Act.put, List.setIfInBounds_toArray, List.set_cons_zero, List.set_cons_succ]
      refine wpAnyH_takeQ 17 (v := ?_) (fun _ _ _ _ _ h => h) (by simp only [List.getElem?_toArray, List.getElem?_cons_succ, List.getElem?_cons_zero]; rfl) (by kernel_rfl) (by kernel_rfl) (by kernel_rfl) (by rfl) ?_ hHeld ?_; rotate_left; · (intro w hSw; (try dsimp only at hSw); go_simp; (try with_reducible rfl))
      try simp only [Act.put, List.setIfInBounds_toArray, List.set_cons_zero, List.set_cons_succ]
      refine wpAnyH_ready (rs := [15]) (by kernel_rfl) (by simp) ?_
      refine AllReadyH.cons (by simp only [List.getElem?_toArray, List.getElem?_cons_succ, List.getElem?_cons_zero]; rfl) (fun K hK => ?_) AllReadyH.nil
      go_simp
      clear hHeld
      refine (qadd_any _ _ _ _ 10 _ _ _ _ 10 _ (by exact R_a.out) (by exact R_b.out) (by omega) (by omega) (by omega) (by omega)).mono ?_
      rintro e w42 ⟨b_p5, A_p5, n_p5, c_p5, D_p5, e_p5, f_p5, rfl, h_p5, hb⟩
      replace HT := Lib.hid (HT.out.below hb)
      replace R_a := Lib.hid (R_a.out.below hb)
      replace R_b := Lib.hid (R_b.out.below hb)
      replace Q_x := Lib.hid (Q_x.out.below hb)
      replace Q_y := Lib.hid (Q_y.out.below hb)
      replace B_a := Lib.hid (B_a.out.below hb)
      replace B_b := Lib.hid (B_b.out.below hb)
      replace B_x := Lib.hid (B_x.out.below hb)
      replace B_y := Lib.hid (B_y.out.below hb)
      replace hB := below_next hB hb
      clear hb
      have Q_p5 := Lib.hid h_p5
      clear h_p5
      go_wp2_with fail
      refine hK.out _ _ (by exact ⟨B_a.out.c3, B_b.out.c3⟩) (fun hHeld => ?_)
      clear hK K
      try simp only [Act.put, List.setIfInBounds_toArray, List.set_cons_zero, List.set_cons_succ]
      refine wpAnyH_ready (rs := [18]) (by kernel_rfl) (by simp) ?_
      refine AllReadyH.cons (by simp only [List.getElem?_toArray, List.getElem?_cons_succ, List.getElem?_cons_zero]; rfl) (fun K hK => ?_) AllReadyH.nil
      go_simp
      clear hHeld
      refine (r3add_any _ _ _ _ 10 _ _ _ _ 10 _ (by exact R_a.out) (by exact R_b.out) (by omega) (by omega) (by omega) (by omega)).mono ?_
      rintro e w43 ⟨b_p6, A_p6, n_p6, c_p6, D_p6, e_p6, f_p6, rfl, h_p6, hb⟩
      replace HT := Lib.hid (HT.out.below hb)
      replace R_a := Lib.hid (R_a.out.below hb)
      replace R_b := Lib.hid (R_b.out.below hb)
      replace Q_x := Lib.hid (Q_x.out.below hb)
      replace Q_y := Lib.hid (Q_y.out.below hb)
      replace Q_p5 := Lib.hid (Q_p5.out.below hb)
      replace B_a := Lib.hid (B_a.out.below hb)
      replace B_b := Lib.hid (B_b.out.below hb)
      replace B_x := Lib.hid (B_x.out.below hb)
      replace B_y := Lib.hid (B_y.out.below hb)
      replace hB := below_next hB hb
      clear hb
      have Q_p6 := Lib.hid h_p6
      clear h_p6
      go_wp2_with fail
      refine hK.out _ _ (by exact ⟨B_a.out.c3, B_b.out.c3⟩) (fun hHeld => ?_)
      clear hK K
      try simp only [Act.put, List.setIfInBounds_toArray, List.set_cons_zero, List.set_cons_succ]
      refine wpAnyH_ready (rs := [19]) (by kernel_rfl) (by simp) ?_
      refine AllReadyH.cons (by simp only [List.getElem?_toArray, List.getElem?_cons_succ, List.getElem?_cons_zero]; rfl) (fun K hK => ?_) AllReadyH.nil
      go_simp
      clear hHeld
      refine (rsame_q (by exact Q_p5.out) (by exact Q_p6.out) rfl).mono ?_
      rintro e w44 ⟨rfl, hb⟩
      replace HT := Lib.hid (HT.out.below hb)
      replace R_a := Lib.hid (R_a.out.below hb)
      replace R_b := Lib.hid (R_b.out.below hb)
      replace Q_x := Lib.hid (Q_x.out.below hb)
      replace Q_y := Lib.hid (Q_y.out.below hb)
      replace Q_p5 := Lib.hid (Q_p5.out.below hb)
      replace Q_p6 := Lib.hid (Q_p6.out.below hb)
      replace B_a := Lib.hid (B_a.out.below hb)
      replace B_b := Lib.hid (B_b.out.below hb)
      replace B_x := Lib.hid (B_x.out.below hb)
      replace B_y := Lib.hid (B_y.out.below hb)
      replace hB := below_next hB hb
      clear hb
      clear Q_p5
      clear Q_p6
      go_wp2_with fail
      refine hK.out _ _ (by exact ⟨B_a.out.c3, B_b.out.c3⟩) (fun hHeld => ?_)
      clear hK K
      try simp only [Act.put, List.setIfInBounds_toArray, List.set_cons_zero, List.set_cons_succ]
      refine wpAnyH_takeQ 20 (v := ?_) (fun _ _ _ _ _ h => h) (by simp only [List.getElem?_toArray, List.getElem?_cons_succ, List.getElem?_cons_zero]; rfl) (by kernel_rfl) (by kernel_rfl) (by kernel_rfl) (by rfl) ?_ hHeld ?_; rotate_left; · (intro w hSw; (try dsimp only at hSw); go_simp; (try with_reducible rfl))
      try simp only [Act.put, List.setIfInBounds_toArray, List.set_cons_zero, List.set_cons_succ]
      refine wpAnyH_takeQ 21 (v := ?_) (fun _ _ _ _ _ h => h) (by simp only [List.getElem?_toArray, List.getElem?_cons_succ, List.getElem?_cons_zero]; rfl) (by kernel_rfl) (by kernel_rfl) (by kernel_rfl) (by rfl) ?_ hHeld ?_; rotate_left; · (intro w hSw; (try dsimp only at hSw); go_simp; (try with_reducible rfl))
      try simp only [Act.put, List.setIfInBounds_toArray, List.set_cons_zero, List.set_cons_succ]
      refine wpAnyH_takeQ 22 (v := ?_) (fun _ _ _ _ _ h => h) (by simp only [List.getElem?_toArray, List.getElem?_cons_succ, List.getElem?_cons_zero]; rfl) (by kernel_rfl) (by kernel_rfl) (by kernel_rfl) (by rfl) ?_ hHeld ?_; rotate_left; · (intro w hSw; (try dsimp only at hSw); go_simp; (try with_reducible rfl))
      try simp only [Act.put, List.setIfInBounds_toArray, List.set_cons_zero, List.set_cons_succ]
      refine wpAnyH_takeQ 23 (v := ?_) (fun _ _ _ _ _ h => h) (by simp only [List.getElem?_toArray, List.getElem?_cons_succ, List.getElem?_cons_zero]; rfl) (by kernel_rfl) (by kernel_rfl) (by kernel_rfl) (by rfl) ?_ hHeld ?_; rotate_left; · (intro w hSw; (try dsimp only at hSw); go_simp; (try with_reducible rfl))
      try simp only [Act.put, List.setIfInBounds_toArray, List.set_cons_zero, List.set_cons_succ]
      refine wpAnyH_takeQ 25 (v := ?_) (fun _ _ _ _ _ h => h) (by simp only [List.getElem?_toArray, List.getElem?_cons_succ, List.getElem?_cons_zero]; rfl) (by kernel_rfl) (by kernel_rfl) (by kernel_rfl) (by rfl) ?_ hHeld ?_; rotate_left; · (intro w hSw; (try dsimp only at hSw); go_simp; (try with_reducible rfl))
      try simp only [Act.put, List.setIfInBounds_toArray, List.set_cons_zero, List.set_cons_succ]
      refine wpAnyH_takeQ 26 (v := ?_) (fun _ _ _ _ _ h => h) (by simp only [List.getElem?_toArray, List.getElem?_cons_succ, List.getElem?_cons_zero]; rfl) (by kernel_rfl) (by kernel_rfl) (by kernel_rfl) (by rfl) ?_ hHeld ?_; rotate_left; · (intro w hSw; (try dsimp only at hSw); go_simp; (try with_reducible rfl))
      try simp only [Act.put, List.setIfInBounds_toArray, List.set_cons_zero, List.set_cons_succ]
      refine wpAnyH_ready (rs := [24]) (by kernel_rfl) (by simp) ?_
      refine AllReadyH.cons (by simp only [List.getElem?_toArray, List.getElem?_cons_succ, List.getElem?_cons_zero]; rfl) (fun K hK => ?_) AllReadyH.nil
      go_simp
      clear hHeld
      refine (qsub_any _ _ _ _ 10 _ _ _ _ 10 _ (by exact R_a.out) (by exact R_b.out) (by omega) (by omega) (by omega) (by omega)).mono ?_
      rintro e w45 ⟨b_p7, A_p7, n_p7, c_p7, D_p7, e_p7, f_p7, rfl, h_p7, hb⟩
      replace HT := Lib.hid (HT.out.below hb)
      replace R_a := Lib.hid (R_a.out.below hb)
      replace R_b := Lib.hid (R_b.out.below hb)
      replace Q_x := Lib.hid (Q_x.out.below hb)
      replace Q_y := Lib.hid (Q_y.out.below hb)
      replace B_a := Lib.hid (B_a.out.below hb)
      replace B_b := Lib.hid (B_b.out.below hb)
      replace B_x := Lib.hid (B_x.out.below hb)
      replace B_y := Lib.hid (B_y.out.below hb)
      replace hB := below_next hB hb
      clear hb
      have Q_p7 := Lib.hid h_p7
      clear h_p7
      go_wp2_with fail
      refine hK.out _ _ (by exact ⟨B_a.out.c3, B_b.out.c3⟩) (fun hHeld => ?_)
      clear hK K
      try simp only [Act.put, List.setIfInBounds_toArray, List.set_cons_zero, List.set_cons_succ]
      refine wpAnyH_ready (rs := [27]) (by kernel_rfl) (by simp) ?_
      refine AllReadyH.cons (by simp only [List.getElem?_toArray, List.getElem?_cons_succ, List.getElem?_cons_zero]; rfl) (fun K hK => ?_) AllReadyH.nil
      go_simp
      clear hHeld
      refine (r3sub_any _ _ _ _ 10 _ _ _ _ 10 _ (by exact R_a.out) (by exact R_b.out) (by omega) (by omega) (by omega) (by omega)).mono ?_
      rintro e w46 ⟨b_p8, A_p8, n_p8, c_p8, D_p8, e_p8, f_p8, rfl, h_p8, hb⟩
      replace HT := Lib.hid (HT.out.below hb)
      replace R_a := Lib.hid (R_a.out.below hb)
      replace R_b := Lib.hid (R_b.out.below hb)
      replace Q_x := Lib.hid (Q_x.out.below hb)
      replace Q_y := Lib.hid (Q_y.out.below hb)
      replace Q_p7 := Lib.hid (Q_p7.out.below hb)
      replace B_a := Lib.hid (B_a.out.below hb)
      replace B_b := Lib.hid (B_b.out.below hb)
      replace B_x := Lib.hid (B_x.out.below hb)
      replace B_y := Lib.hid (B_y.out.below hb)
      replace hB := below_next hB hb
      clear hb
      have Q_p8 := Lib.hid h_p8
      clear h_p8
      go_wp2_with fail
      refine hK.out _ _ (by exact ⟨B_a.out.c3, B_b.out.c3⟩) (fun hHeld => ?_)
      clear hK K
      try simp only [Act.put, List.setIfInBounds_toArray, List.set_cons_zero, List.set_cons_succ]
      refine wpAnyH_ready (rs := [28]) (by kernel_rfl) (by simp) ?_
      refine AllReadyH.cons (by simp only [List.getElem?_toArray, List.getElem?_cons_succ, List.getElem?_cons_zero]; rfl) (fun K hK => ?_) AllReadyH.nil
      go_simp
      clear hHeld
      refine (rsame_q (by exact Q_p7.out) (by exact Q_p8.out) rfl).mono ?_
      rintro e w47 ⟨rfl, hb⟩
      replace HT := Lib.hid (HT.out.below hb)
      replace R_a := Lib.hid (R_a.out.below hb)
      replace R_b := Lib.hid (R_b.out.below hb)
      replace Q_x := Lib.hid (Q_x.out.below hb)
      replace Q_y := Lib.hid (Q_y.out.below hb)
      replace Q_p7 := Lib.hid (Q_p7.out.below hb)
      replace Q_p8 := Lib.hid (Q_p8.out.below hb)
      replace B_a := Lib.hid (B_a.out.below hb)
      replace B_b := Lib.hid (B_b.out.below hb)
      replace B_x := Lib.hid (B_x.out.below hb)
      replace B_y := Lib.hid (B_y.out.below hb)
      replace hB := below_next hB hb
      clear hb
      clear Q_p7
      clear Q_p8
      go_wp2_with fail
      refine hK.out _ _ (by exact ⟨B_a.out.c3, B_b.out.c3⟩) (fun hHeld => ?_)
      clear hK K
      try simp only [Act.put, List.setIfInBounds_toArray, List.set_cons_zero, List.set_cons_succ]
      refine wpAnyH_takeQ 29 (v := ?_) (fun _ _ _ _ _ h => h) (by simp only [List.getElem?_toArray, List.getElem?_cons_succ, List.getElem?_cons_zero]; rfl) (by kernel_rfl) (by kernel_rfl) (by kernel_rfl) (by rfl) ?_ hHeld ?_; rotate_left; · (intro w hSw; (try dsimp only at hSw); go_simp; (try with_reducible rfl))
      try simp only [Act.put, List.setIfInBounds_toArray, List.set_cons_zero, List.set_cons_succ]
      refine wpAnyH_takeQ 30 (v := ?_) (fun _ _ _ _ _ h => h) (by simp only [List.getElem?_toArray, List.getElem?_cons_succ, List.getElem?_cons_zero]; rfl) (by kernel_rfl) (by kernel_rfl) (by kernel_rfl) (by rfl) ?_ hHeld ?_; rotate_left; · (intro w hSw; (try dsimp only at hSw); go_simp; (try with_reducible rfl))
      try simp only [Act.put, List.setIfInBounds_toArray, List.set_cons_zero, List.set_cons_succ]
      refine wpAnyH_takeQ 31 (v := ?_) (fun _ _ _ _ _ h => h) (by simp only [List.getElem?_toArray, List.getElem?_cons_succ, List.getElem?_cons_zero]; rfl) (by kernel_rfl) (by kernel_rfl) (by kernel_rfl) (by rfl) ?_ hHeld ?_; rotate_left; · (intro w hSw; (try dsimp only at hSw); go_simp; (try with_reducible rfl))
      try simp only [Act.put, List.setIfInBounds_toArray, List.set_cons_zero, List.set_cons_succ]
      refine wpAnyH_takeQ 32 (v := ?_) (fun _ _ _ _ _ h => h) (by simp only [List.getElem?_toArray, List.getElem?_cons_succ, List.getElem?_cons_zero]; rfl) (by kernel_rfl) (by kernel_rfl) (by kernel_rfl) (by rfl) ?_ hHeld ?_; rotate_left; · (intro w hSw; (try dsimp only at hSw); go_simp; (try with_reducible rfl))
      try simp only [Act.put, List.setIfInBounds_toArray, List.set_cons_zero, List.set_cons_succ]
      refine wpAnyH_takeQ 34 (v := ?_) (fun _ _ _ _ _ h => h) (by simp only [List.getElem?_toArray, List.getElem?_cons_succ, List.getElem?_cons_zero]; rfl) (by kernel_rfl) (by kernel_rfl) (by kernel_rfl) (by rfl) ?_ hHeld ?_; rotate_left; · (intro w hSw; (try dsimp only at hSw); go_simp; (try with_reducible rfl))
      try simp only [Act.put, List.setIfInBounds_toArray, List.set_cons_zero, List.set_cons_succ]
      refine wpAnyH_takeQ 35 (v := ?_) (fun _ _ _ _ _ h => h) (by simp only [List.getElem?_toArray, List.getElem?_cons_succ, List.getElem?_cons_zero]; rfl) (by kernel_rfl) (by kernel_rfl) (by kernel_rfl) (by rfl) ?_ hHeld ?_; rotate_left; · (intro w hSw; (try dsimp only at hSw); go_simp; (try with_reducible rfl))
      try simp only [Act.put, List.setIfInBounds_toArray, List.set_cons_zero, List.set_cons_succ]
      refine wpAnyH_ready (rs := [33]) (by kernel_rfl) (by simp) ?_
      refine AllReadyH.cons (by simp only [List.getElem?_toArray, List.getElem?_cons_succ, List.getElem?_cons_zero]; rfl) (fun K hK => ?_) AllReadyH.nil
      go_simp
      clear hHeld
      refine (qmul_any _ _ _ _ 10 _ _ _ _ 10 _ (by exact R_a.out) (by exact R_b.out) (by omega) (by omega) (by omega) (by omega)).mono ?_
      rintro e w48 ⟨b_p9, A_p9, n_p9, c_p9, D_p9, e_p9, f_p9, rfl, h_p9, hb⟩
      replace HT := Lib.hid (HT.out.below hb)
      replace R_a := Lib.hid (R_a.out.below hb)
      replace R_b := Lib.hid (R_b.out.below hb)
      replace Q_x := Lib.hid (Q_x.out.below hb)
      replace Q_y := Lib.hid (Q_y.out.below hb)
      replace B_a := Lib.hid (B_a.out.below hb)
      replace B_b := Lib.hid (B_b.out.below hb)
      replace B_x := Lib.hid (B_x.out.below hb)
      replace B_y := Lib.hid (B_y.out.below hb)
      replace hB := below_next hB hb
      clear hb
      have Q_p9 := Lib.hid h_p9
      clear h_p9
      go_wp2_with fail
      refine hK.out _ _ (by exact ⟨B_a.out.c3, B_b.out.c3⟩) (fun hHeld => ?_)
      clear hK K
      try simp only [Act.put, List.setIfInBounds_toArray, List.set_cons_zero, List.set_cons_succ]
      refine wpAnyH_ready (rs := [36]) (by kernel_rfl) (by simp) ?_
      refine AllReadyH.cons (by simp only [List.getElem?_toArray, List.getElem?_cons_succ, List.getElem?_cons_zero]; rfl) (fun K hK => ?_) AllReadyH.nil
      go_simp
      clear hHeld
      refine (r3mul_any _ _ _ _ 10 _ _ _ _ 10 _ (by exact R_a.out) (by exact R_b.out) (by omega) (by omega) (by omega) (by omega)).mono ?_
      rintro e w49 ⟨b_pa, A_pa, n_pa, c_pa, D_pa, e_pa, f_pa, rfl, h_pa, hb⟩
      replace HT := Lib.hid (HT.out.below hb)
      replace R_a := Lib.hid (R_a.out.below hb)
      replace R_b := Lib.hid (R_b.out.below hb)
      replace Q_x := Lib.hid (Q_x.out.below hb)
      replace Q_y := Lib.hid (Q_y.out.below hb)
      replace Q_p9 := Lib.hid (Q_p9.out.below hb)
      replace B_a := Lib.hid (B_a.out.below hb)
      replace B_b := Lib.hid (B_b.out.below hb)
      replace B_x := Lib.hid (B_x.out.below hb)
      replace B_y := Lib.hid (B_y.out.below hb)
      replace hB := below_next hB hb
      clear hb
      have Q_pa := Lib.hid h_pa
      clear h_pa
      go_wp2_with fail
      refine hK.out _ _ (by exact ⟨B_a.out.c3, B_b.out.c3⟩) (fun hHeld => ?_)
      clear hK K
      try simp only [Act.put, List.setIfInBounds_toArray, List.set_cons_zero, List.set_cons_succ]
      refine wpAnyH_ready (rs := [37]) (by kernel_rfl) (by simp) ?_
      refine AllReadyH.cons (by simp only [List.getElem?_toArray, List.getElem?_cons_succ, List.getElem?_cons_zero]; rfl) (fun K hK => ?_) AllReadyH.nil
      go_simp
      clear hHeld
      refine (rsame_q (by exact Q_p9.out) (by exact Q_pa.out) rfl).mono ?_
      rintro e w50 ⟨rfl, hb⟩
      replace HT := Lib.hid (HT.out.below hb)
      replace R_a := Lib.hid (R_a.out.below hb)
      replace R_b := Lib.hid (R_b.out.below hb)
      replace Q_x := Lib.hid (Q_x.out.below hb)
      replace Q_y := Lib.hid (Q_y.out.below hb)
      replace Q_p9 := Lib.hid (Q_p9.out.below hb)
      replace Q_pa := Lib.hid (Q_pa.out.below hb)
      replace B_a := Lib.hid (B_a.out.below hb)
      replace B_b := Lib.hid (B_b.out.below hb)
      replace B_x := Lib.hid (B_x.out.below hb)
      replace B_y := Lib.hid (B_y.out.below hb)
      replace hB := below_next hB hb
      clear hb
      clear Q_p9
      clear Q_pa
      go_wp2_with fail
      refine hK.out _ _ (by exact ⟨B_a.out.c3, B_b.out.c3⟩) (fun hHeld => ?_)
      clear hK K
      try simp only [Act.put, List.setIfInBounds_toArray, List.set_cons_zero, List.set_cons_succ]
      refine wpAnyH_takeQ 38 (v := ?_) (fun _ _ _ _ _ h => h) (by simp only [List.getElem?_toArray, List.getElem?_cons_succ, List.getElem?_cons_zero]; rfl) (by kernel_rfl) (by kernel_rfl) (by kernel_rfl) (by rfl) ?_ hHeld ?_; rotate_left; · (intro w hSw; (try dsimp only at hSw); go_simp; (try with_reducible rfl))
      try simp only [Act.put, List.setIfInBounds_toArray, List.set_cons_zero, List.set_cons_succ]
      refine wpAnyH_takeQ 39 (v := ?_) (fun _ _ _ _ _ h => h) (by simp only [List.getElem?_toArray, List.getElem?_cons_succ, List.getElem?_cons_zero]; rfl) (by kernel_rfl) (by kernel_rfl) (by kernel_rfl) (by rfl) ?_ hHeld ?_; rotate_left; · (intro w hSw; (try dsimp only at hSw); go_simp; (try with_reducible rfl))
      try simp only [Act.put, List.setIfInBounds_toArray, List.set_cons_zero, List.set_cons_succ]
      refine wpAnyH_ready (rs := [40]) (by kernel_rfl) (by simp) ?_
      refine AllReadyH.cons (by simp only [List.getElem?_toArray, List.getElem?_cons_succ, List.getElem?_cons_zero]; rfl) (fun K hK => ?_) AllReadyH.nil
      go_simp
      clear hHeld
      refine (holds_any _ (by exact HT.out)).mono ?_
      rintro e w51 ⟨rfl, hb⟩
      replace HT := Lib.hid (HT.out.below hb)
      replace R_a := Lib.hid (R_a.out.below hb)
      replace R_b := Lib.hid (R_b.out.below hb)
      replace Q_x := Lib.hid (Q_x.out.below hb)
      replace Q_y := Lib.hid (Q_y.out.below hb)
      replace B_a := Lib.hid (B_a.out.below hb)
      replace B_b := Lib.hid (B_b.out.below hb)
      replace B_x := Lib.hid (B_x.out.below hb)
      replace B_y := Lib.hid (B_y.out.below hb)
      replace hB := below_next hB hb
      clear hb
      go_wp2_with fail
      refine hK.out _ _ (by exact ⟨B_a.out.c3, B_b.out.c3⟩) (fun hHeld => ?_)
      clear hK K
      try simp only [Act.put, List.setIfInBounds_toArray, List.set_cons_zero, List.set_cons_succ]
      refine wpAnyH_takeQ 41 (v := ?_) (fun _ _ _ _ _ h => h) (by simp only [List.getElem?_toArray, List.getElem?_cons_succ, List.getElem?_cons_zero]; rfl) (by kernel_rfl) (by kernel_rfl) (by kernel_rfl) (by rfl) ?_ hHeld ?_; rotate_left; · (intro w hSw; (try dsimp only at hSw); go_simp; (try with_reducible rfl))
      try simp only [Act.put, List.setIfInBounds_toArray, List.set_cons_zero, List.set_cons_succ]
      refine wpAnyH_takeQ 42 (v := ?_) (fun _ _ _ _ _ h => h) (by simp only [List.getElem?_toArray, List.getElem?_cons_succ, List.getElem?_cons_zero]; rfl) (by kernel_rfl) (by kernel_rfl) (by kernel_rfl) (by rfl) ?_ hHeld ?_; rotate_left; · (intro w hSw; (try dsimp only at hSw); go_simp; (try with_reducible rfl))
      try simp only [Act.put, List.setIfInBounds_toArray, List.set_cons_zero, List.set_cons_succ]
      refine wpAnyH_done (by kernel_rfl) (NoPanic.normal ?_) _
      clear hHeld
      have c_a0 := B_a.out.cell0
      have c_a1 := B_a.out.cell1
      have c_a2 := B_a.out.cell2
      have c_b0 := B_b.out.cell0
      have c_b1 := B_b.out.cell1
      have c_b2 := B_b.out.cell2
      have c_x0 := B_x.out.cell0
      have c_x1 := B_x.out.cell1
      have c_x2 := B_x.out.cell2
      have c_y0 := B_y.out.cell0
      have c_y1 := B_y.out.cell1
      have c_y2 := B_y.out.cell2
      go_wp2
      go_ret
      exact ⟨rfl, hB⟩
  · skip
    have HT := Lib.hid htab
    clear htab
    have H_a := Lib.hid h_a
    have K_a := Lib.hid g_a
    clear h_a g_a
    have H_b := Lib.hid h_b
    have K_b := Lib.hid g_b
    clear h_b g_b
    go_enter Tryz.func6, Tryz.ntmps6
    go_wp2_with fail
    obtain ⟨W0, hW, B_a, B_b, HW, HS⟩ := rbox2 w (.bool b_a) m_a d_a (.bool b_b) m_b d_b
    rw [hW]
    clear hW
    replace HT := Lib.hid (HT.out.below HW.out)
    replace H_a := Lib.hid (H_a.out.below HW.out)
    replace K_a := Lib.hid (K_a.out.below HW.out)
    replace H_b := Lib.hid (H_b.out.below HW.out)
    replace K_b := Lib.hid (K_b.out.below HW.out)
    have hB := HW.out
    have hsz := HS.out
    clear HW HS
    refine (rlight2_is (v := false) (by exact H_a.out) (by exact K_a.out) (by exact H_b.out) (by exact K_b.out) (decide_eq_false s_ab)).mono ?_
    rintro e w1 ⟨rfl, hb⟩
    replace HT := Lib.hid (HT.out.below hb)
    replace H_a := Lib.hid (H_a.out.below hb)
    replace K_a := Lib.hid (K_a.out.below hb)
    replace H_b := Lib.hid (H_b.out.below hb)
    replace K_b := Lib.hid (K_b.out.below hb)
    replace B_a := Lib.hid (B_a.out.below hb)
    replace B_b := Lib.hid (B_b.out.below hb)
    replace hB := below_next hB hb
    clear hb
    have c_a0 := B_a.out.cell0
    have c_a1 := B_a.out.cell1
    have c_a2 := B_a.out.cell2
    have c_b0 := B_b.out.cell0
    have c_b1 := B_b.out.cell1
    have c_b2 := B_b.out.cell2
    go_wp2_with fail
    clear c_a0 c_a1 c_a2 c_b0 c_b1 c_b2
    refine (holds_any _ (by exact HT.out)).mono ?_
    rintro e w2 ⟨rfl, hb⟩
    replace HT := Lib.hid (HT.out.below hb)
    replace H_a := Lib.hid (H_a.out.below hb)
    replace K_a := Lib.hid (K_a.out.below hb)
    replace H_b := Lib.hid (H_b.out.below hb)
    replace K_b := Lib.hid (K_b.out.below hb)
    replace B_a := Lib.hid (B_a.out.below hb)
    replace B_b := Lib.hid (B_b.out.below hb)
    replace hB := below_next hB hb
    clear hb
    have c_a0 := B_a.out.cell0
    have c_a1 := B_a.out.cell1
    have c_a2 := B_a.out.cell2
    have c_b0 := B_b.out.cell0
    have c_b1 := B_b.out.cell1
    have c_b2 := B_b.out.cell2
    go_wp2
    go_ret
    exact ⟨rfl, hB⟩
end Go.Proofs.YtoflndeonegkpaaGreatDoor
