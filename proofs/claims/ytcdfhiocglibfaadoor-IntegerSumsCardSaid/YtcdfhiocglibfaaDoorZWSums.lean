/- The law IntegerSums: its walk. -/
import Derived.Test.YtcdfhiocglibfaaDoorAwake
import Derived.Test.YtcdfhiocglibfaaDoorZBase
import Derived.Test.YtcdfhiocglibfaaDoorZShort
import Derived.Test.YtcdfhiocglibfaaDoorRInt5
namespace Go.Proofs.YtcdfhiocglibfaaDoor
open Go.RowKit

set_option maxRecDepth 100000 in
set_option maxHeartbeats 8000000 in
theorem walk_IntegerSums (b_a : Bool) (m_a : Value) (l_a : List Nat) (b_b : Bool) (m_b : Value) (l_b : List Nat) (w : World) (h_a : NatAt w m_a l_a) (h_b : NatAt w m_b l_b) (htab : Tab w) : Calls Tryd.prog 9 #[.agg #[.bool b_a, m_a], .agg #[.bool b_b, m_b]] w (GivesTrue w) := by
  have HT := Lib.hid htab
  clear htab
  have H_a := Lib.hid h_a
  clear h_a
  have H_b := Lib.hid h_b
  clear h_b
  by_cases s_ab : l_a.length ≤ 40 ∧ l_b.length ≤ 40
  · obtain ⟨s_a, s_b⟩ := s_ab
    go_enter Tryd.func9, Tryd.ntmps9
    go_wp2_with fail
    obtain ⟨W1, hW, NB, NC, HW, _⟩ := boxes2 w (.bool b_a) m_a (.bool b_b) m_b
    rw [hW]
    clear hW
    replace HT := Lib.hid (HT.out.below HW.out)
    replace H_a := Lib.hid (H_a.out.below HW.out)
    replace H_b := Lib.hid (H_b.out.below HW.out)
    have hB := HW.out
    have B_a := NB
    have B_b := NC
    clear NB NC HW
    refine (zshort2_is (v := true) (by exact H_a.out) (by exact H_b.out) (decide_eq_true ⟨s_a, s_b⟩)).mono ?_
    rintro e w1 ⟨rfl, hb⟩
    replace HT := Lib.hid (HT.out.below hb)
    replace H_a := Lib.hid (H_a.out.below hb)
    replace H_b := Lib.hid (H_b.out.below hb)
    replace B_a := Lib.hid (B_a.out.below hb)
    replace B_b := Lib.hid (B_b.out.below hb)
    replace hB := below_next hB hb
    clear hb
    have c_a0 := B_a.out.cell0
    have c_a1 := B_a.out.cell1
    have c_b0 := B_b.out.cell0
    have c_b1 := B_b.out.cell1
    go_wp2
    clear c_a0 c_a1 c_b0 c_b1
    refine wp_region_noPanic ?_
    refine wp_region_held_drew (S := (fun w' => w'.cell? ⟨w.heap.size, 0, none⟩ = some (.bool b_a) ∧ w'.cell? ⟨w.heap.size, 1, none⟩ = some m_a ∧ w'.cell? ⟨w.heap.size + 1, 0, none⟩ = some (.bool b_b) ∧ w'.cell? ⟨w.heap.size + 1, 1, none⟩ = some m_b)) (by kernel_rfl) (by exact ⟨B_a.out.cell0, B_a.out.cell1, B_b.out.cell0, B_b.out.cell1⟩) (fun hHeld => ?_)
    have hb := belowDrew w1
    generalize w1.drew = V_2 at hb hHeld ⊢
    replace HT := Lib.hid (HT.out.below hb)
    replace H_a := Lib.hid (H_a.out.below hb)
    replace H_b := Lib.hid (H_b.out.below hb)
    replace B_a := Lib.hid (B_a.out.below hb)
    replace B_b := Lib.hid (B_b.out.below hb)
    replace hB := below_next hB hb
    clear hb
    refine wpAnyH_take2 0 (v := ?_) (fun _ _ _ _ _ h => h) (by simp only [List.getElem?_toArray, List.getElem?_cons_zero]; rfl) (by kernel_rfl) (by kernel_rfl) (by kernel_rfl) (by rfl) ?_ hHeld ?_
    rotate_left
    · (intro w hSw; (try dsimp only at hSw); go_simp; (try with_reducible rfl))
    try simp only [Act.put, List.setIfInBounds_toArray, List.set_cons_zero, List.set_cons_succ]
    refine wpAnyH_take2 2 (v := ?_) (fun _ _ _ _ _ h => h) (by simp only [List.getElem?_toArray, List.getElem?_cons_succ, List.getElem?_cons_zero]; rfl) (by kernel_rfl) (by kernel_rfl) (by kernel_rfl) (by rfl) ?_ hHeld ?_
    rotate_left
    · (intro w hSw; (try dsimp only at hSw); go_simp; (try with_reducible rfl))
    try simp only [Act.put, List.setIfInBounds_toArray, List.set_cons_zero, List.set_cons_succ]
    refine wpAnyH_ready (rs := [1]) (by kernel_rfl) (by simp) ?_
    refine AllReadyH.cons (by simp only [List.getElem?_toArray, List.getElem?_cons_succ, List.getElem?_cons_zero]; rfl) (fun K hK => ?_) AllReadyH.nil
    go_simp
    refine (inorm_any _ _ _ 40 _ (by exact ⟨l_a, H_a.out, s_a, rfl⟩) (by omega)).mono ?_
    rintro e w2 ⟨b_x0, A_x0, n_x0, c_x0, rfl, h_x0, hb⟩
    replace HT := Lib.hid (HT.out.below hb)
    replace H_a := Lib.hid (H_a.out.below hb)
    replace H_b := Lib.hid (H_b.out.below hb)
    replace B_a := Lib.hid (B_a.out.below hb)
    replace B_b := Lib.hid (B_b.out.below hb)
    replace hB := below_next hB hb
    clear hb hHeld
    have Z_x0 := Lib.hid h_x0
    clear h_x0
    go_wp2_with fail
    refine hK.out _ _ (by exact ⟨B_a.out.cell0, B_a.out.cell1, B_b.out.cell0, B_b.out.cell1⟩) (fun hHeld => ?_)
    clear hK K
    try simp only [Act.put, List.setIfInBounds_toArray, List.set_cons_zero, List.set_cons_succ]
    refine wpAnyH_ready (rs := [3]) (by kernel_rfl) (by simp) ?_
    refine AllReadyH.cons (by simp only [List.getElem?_toArray, List.getElem?_cons_succ, List.getElem?_cons_zero]; rfl) (fun K hK => ?_) AllReadyH.nil
    go_simp
    refine (rinorm_any _ _ _ 40 _ (by exact ⟨l_a, H_a.out, s_a, rfl⟩) (by omega)).mono ?_
    rintro e w3 ⟨b_y0, A_y0, n_y0, c_y0, rfl, h_y0, hb⟩
    replace HT := Lib.hid (HT.out.below hb)
    replace H_a := Lib.hid (H_a.out.below hb)
    replace H_b := Lib.hid (H_b.out.below hb)
    replace Z_x0 := Lib.hid (Z_x0.out.below hb)
    replace B_a := Lib.hid (B_a.out.below hb)
    replace B_b := Lib.hid (B_b.out.below hb)
    replace hB := below_next hB hb
    clear hb hHeld
    have Z_y0 := Lib.hid h_y0
    clear h_y0
    go_wp2_with fail
    refine hK.out _ _ (by exact ⟨B_a.out.cell0, B_a.out.cell1, B_b.out.cell0, B_b.out.cell1⟩) (fun hHeld => ?_)
    clear hK K
    try simp only [Act.put, List.setIfInBounds_toArray, List.set_cons_zero, List.set_cons_succ]
    refine wpAnyH_ready (rs := [4]) (by kernel_rfl) (by simp) ?_
    refine AllReadyH.cons (by simp only [List.getElem?_toArray, List.getElem?_cons_succ, List.getElem?_cons_zero]; rfl) (fun K hK => ?_) AllReadyH.nil
    go_simp
    refine (zsame_eq (by exact Z_x0.out) (by exact Z_y0.out) rfl).mono ?_
    rintro e w4 ⟨rfl, hb⟩
    replace HT := Lib.hid (HT.out.below hb)
    replace H_a := Lib.hid (H_a.out.below hb)
    replace H_b := Lib.hid (H_b.out.below hb)
    replace Z_x0 := Lib.hid (Z_x0.out.below hb)
    replace Z_y0 := Lib.hid (Z_y0.out.below hb)
    replace B_a := Lib.hid (B_a.out.below hb)
    replace B_b := Lib.hid (B_b.out.below hb)
    replace hB := below_next hB hb
    clear hb hHeld
    clear Z_x0
    clear Z_y0
    go_wp2_with fail
    refine hK.out _ _ (by exact ⟨B_a.out.cell0, B_a.out.cell1, B_b.out.cell0, B_b.out.cell1⟩) (fun hHeld => ?_)
    clear hK K
    try simp only [Act.put, List.setIfInBounds_toArray, List.set_cons_zero, List.set_cons_succ]
    refine wpAnyH_take2 5 (v := ?_) (fun _ _ _ _ _ h => h) (by simp only [List.getElem?_toArray, List.getElem?_cons_succ, List.getElem?_cons_zero]; rfl) (by kernel_rfl) (by kernel_rfl) (by kernel_rfl) (by rfl) ?_ hHeld ?_
    rotate_left
    · (intro w hSw; (try dsimp only at hSw); go_simp; (try with_reducible rfl))
    try simp only [Act.put, List.setIfInBounds_toArray, List.set_cons_zero, List.set_cons_succ]
    refine wpAnyH_take2 6 (v := ?_) (fun _ _ _ _ _ h => h) (by simp only [List.getElem?_toArray, List.getElem?_cons_succ, List.getElem?_cons_zero]; rfl) (by kernel_rfl) (by kernel_rfl) (by kernel_rfl) (by rfl) ?_ hHeld ?_
    rotate_left
    · (intro w hSw; (try dsimp only at hSw); go_simp; (try with_reducible rfl))
    try simp only [Act.put, List.setIfInBounds_toArray, List.set_cons_zero, List.set_cons_succ]
    refine wpAnyH_take2 7 (v := ?_) (fun _ _ _ _ _ h => h) (by simp only [List.getElem?_toArray, List.getElem?_cons_succ, List.getElem?_cons_zero]; rfl) (by kernel_rfl) (by kernel_rfl) (by kernel_rfl) (by rfl) ?_ hHeld ?_
    rotate_left
    · (intro w hSw; (try dsimp only at hSw); go_simp; (try with_reducible rfl))
    try simp only [Act.put, List.setIfInBounds_toArray, List.set_cons_zero, List.set_cons_succ]
    refine wpAnyH_take2 9 (v := ?_) (fun _ _ _ _ _ h => h) (by simp only [List.getElem?_toArray, List.getElem?_cons_succ, List.getElem?_cons_zero]; rfl) (by kernel_rfl) (by kernel_rfl) (by kernel_rfl) (by rfl) ?_ hHeld ?_
    rotate_left
    · (intro w hSw; (try dsimp only at hSw); go_simp; (try with_reducible rfl))
    try simp only [Act.put, List.setIfInBounds_toArray, List.set_cons_zero, List.set_cons_succ]
    refine wpAnyH_take2 10 (v := ?_) (fun _ _ _ _ _ h => h) (by simp only [List.getElem?_toArray, List.getElem?_cons_succ, List.getElem?_cons_zero]; rfl) (by kernel_rfl) (by kernel_rfl) (by kernel_rfl) (by rfl) ?_ hHeld ?_
    rotate_left
    · (intro w hSw; (try dsimp only at hSw); go_simp; (try with_reducible rfl))
    try simp only [Act.put, List.setIfInBounds_toArray, List.set_cons_zero, List.set_cons_succ]
    refine wpAnyH_ready (rs := [8]) (by kernel_rfl) (by simp) ?_
    refine AllReadyH.cons (by simp only [List.getElem?_toArray, List.getElem?_cons_succ, List.getElem?_cons_zero]; rfl) (fun K hK => ?_) AllReadyH.nil
    go_simp
    refine (icmp_any _ _ _ _ _ _ 40 40 _ (by exact ⟨l_a, H_a.out, s_a, rfl⟩) (by exact ⟨l_b, H_b.out, s_b, rfl⟩) (by omega) (by omega)).mono ?_
    rintro e w5 ⟨rfl, hb⟩
    replace HT := Lib.hid (HT.out.below hb)
    replace H_a := Lib.hid (H_a.out.below hb)
    replace H_b := Lib.hid (H_b.out.below hb)
    replace B_a := Lib.hid (B_a.out.below hb)
    replace B_b := Lib.hid (B_b.out.below hb)
    replace hB := below_next hB hb
    clear hb hHeld
    go_wp2_with fail
    refine hK.out _ _ (by exact ⟨B_a.out.cell0, B_a.out.cell1, B_b.out.cell0, B_b.out.cell1⟩) (fun hHeld => ?_)
    clear hK K
    try simp only [Act.put, List.setIfInBounds_toArray, List.set_cons_zero, List.set_cons_succ]
    refine wpAnyH_ready (rs := [11]) (by kernel_rfl) (by simp) ?_
    refine AllReadyH.cons (by simp only [List.getElem?_toArray, List.getElem?_cons_succ, List.getElem?_cons_zero]; rfl) (fun K hK => ?_) AllReadyH.nil
    go_simp
    refine (ricmp_any _ _ _ _ _ _ 40 40 _ (by exact ⟨l_a, H_a.out, s_a, rfl⟩) (by exact ⟨l_b, H_b.out, s_b, rfl⟩) (by omega) (by omega)).mono ?_
    rintro e w6 ⟨rfl, hb⟩
    replace HT := Lib.hid (HT.out.below hb)
    replace H_a := Lib.hid (H_a.out.below hb)
    replace H_b := Lib.hid (H_b.out.below hb)
    replace B_a := Lib.hid (B_a.out.below hb)
    replace B_b := Lib.hid (B_b.out.below hb)
    replace hB := below_next hB hb
    clear hb hHeld
    go_wp2_with fail
    refine hK.out _ _ (by exact ⟨B_a.out.cell0, B_a.out.cell1, B_b.out.cell0, B_b.out.cell1⟩) (fun hHeld => ?_)
    clear hK K
    try simp only [Act.put, List.setIfInBounds_toArray, List.set_cons_zero, List.set_cons_succ]
    refine wpAnyH_take2 12 (v := ?_) (fun _ _ _ _ _ h => h) (by simp only [List.getElem?_toArray, List.getElem?_cons_succ, List.getElem?_cons_zero]; rfl) (by kernel_rfl) (by kernel_rfl) (by kernel_rfl) (by rfl) ?_ hHeld ?_
    rotate_left
    · (intro w hSw; (try dsimp only at hSw); go_simp; (try with_reducible rfl))
    try simp only [Act.put, List.setIfInBounds_toArray, List.set_cons_zero, List.set_cons_succ]
    refine wpAnyH_take2 13 (v := ?_) (fun _ _ _ _ _ h => h) (by simp only [List.getElem?_toArray, List.getElem?_cons_succ, List.getElem?_cons_zero]; rfl) (by kernel_rfl) (by kernel_rfl) (by kernel_rfl) (by rfl) ?_ hHeld ?_
    rotate_left
    · (intro w hSw; (try dsimp only at hSw); go_simp; (try with_reducible rfl))
    try simp only [Act.put, List.setIfInBounds_toArray, List.set_cons_zero, List.set_cons_succ]
    refine wpAnyH_take2 14 (v := ?_) (fun _ _ _ _ _ h => h) (by simp only [List.getElem?_toArray, List.getElem?_cons_succ, List.getElem?_cons_zero]; rfl) (by kernel_rfl) (by kernel_rfl) (by kernel_rfl) (by rfl) ?_ hHeld ?_
    rotate_left
    · (intro w hSw; (try dsimp only at hSw); go_simp; (try with_reducible rfl))
    try simp only [Act.put, List.setIfInBounds_toArray, List.set_cons_zero, List.set_cons_succ]
    refine wpAnyH_take2 15 (v := ?_) (fun _ _ _ _ _ h => h) (by simp only [List.getElem?_toArray, List.getElem?_cons_succ, List.getElem?_cons_zero]; rfl) (by kernel_rfl) (by kernel_rfl) (by kernel_rfl) (by rfl) ?_ hHeld ?_
    rotate_left
    · (intro w hSw; (try dsimp only at hSw); go_simp; (try with_reducible rfl))
    try simp only [Act.put, List.setIfInBounds_toArray, List.set_cons_zero, List.set_cons_succ]
    refine wpAnyH_take2 17 (v := ?_) (fun _ _ _ _ _ h => h) (by simp only [List.getElem?_toArray, List.getElem?_cons_succ, List.getElem?_cons_zero]; rfl) (by kernel_rfl) (by kernel_rfl) (by kernel_rfl) (by rfl) ?_ hHeld ?_
    rotate_left
    · (intro w hSw; (try dsimp only at hSw); go_simp; (try with_reducible rfl))
    try simp only [Act.put, List.setIfInBounds_toArray, List.set_cons_zero, List.set_cons_succ]
    refine wpAnyH_ready (rs := [16]) (by kernel_rfl) (by simp) ?_
    refine AllReadyH.cons (by simp only [List.getElem?_toArray, List.getElem?_cons_succ, List.getElem?_cons_zero]; rfl) (fun K hK => ?_) AllReadyH.nil
    go_simp
    refine (ineg_any _ _ _ 40 _ (by exact ⟨l_a, H_a.out, s_a, rfl⟩) (by omega)).mono ?_
    rintro e w7 ⟨b_x2, A_x2, n_x2, c_x2, rfl, h_x2, hb⟩
    replace HT := Lib.hid (HT.out.below hb)
    replace H_a := Lib.hid (H_a.out.below hb)
    replace H_b := Lib.hid (H_b.out.below hb)
    replace B_a := Lib.hid (B_a.out.below hb)
    replace B_b := Lib.hid (B_b.out.below hb)
    replace hB := below_next hB hb
    clear hb hHeld
    have Z_x2 := Lib.hid h_x2
    clear h_x2
    go_wp2_with fail
    refine hK.out _ _ (by exact ⟨B_a.out.cell0, B_a.out.cell1, B_b.out.cell0, B_b.out.cell1⟩) (fun hHeld => ?_)
    clear hK K
    try simp only [Act.put, List.setIfInBounds_toArray, List.set_cons_zero, List.set_cons_succ]
    refine wpAnyH_ready (rs := [18]) (by kernel_rfl) (by simp) ?_
    refine AllReadyH.cons (by simp only [List.getElem?_toArray, List.getElem?_cons_succ, List.getElem?_cons_zero]; rfl) (fun K hK => ?_) AllReadyH.nil
    go_simp
    refine (rineg_any _ _ _ 40 _ (by exact ⟨l_a, H_a.out, s_a, rfl⟩) (by omega)).mono ?_
    rintro e w8 ⟨b_y2, A_y2, n_y2, c_y2, rfl, h_y2, hb⟩
    replace HT := Lib.hid (HT.out.below hb)
    replace H_a := Lib.hid (H_a.out.below hb)
    replace H_b := Lib.hid (H_b.out.below hb)
    replace Z_x2 := Lib.hid (Z_x2.out.below hb)
    replace B_a := Lib.hid (B_a.out.below hb)
    replace B_b := Lib.hid (B_b.out.below hb)
    replace hB := below_next hB hb
    clear hb hHeld
    have Z_y2 := Lib.hid h_y2
    clear h_y2
    go_wp2_with fail
    refine hK.out _ _ (by exact ⟨B_a.out.cell0, B_a.out.cell1, B_b.out.cell0, B_b.out.cell1⟩) (fun hHeld => ?_)
    clear hK K
    try simp only [Act.put, List.setIfInBounds_toArray, List.set_cons_zero, List.set_cons_succ]
    refine wpAnyH_ready (rs := [19]) (by kernel_rfl) (by simp) ?_
    refine AllReadyH.cons (by simp only [List.getElem?_toArray, List.getElem?_cons_succ, List.getElem?_cons_zero]; rfl) (fun K hK => ?_) AllReadyH.nil
    go_simp
    refine (zsame_eq (by exact Z_x2.out) (by exact Z_y2.out) rfl).mono ?_
    rintro e w9 ⟨rfl, hb⟩
    replace HT := Lib.hid (HT.out.below hb)
    replace H_a := Lib.hid (H_a.out.below hb)
    replace H_b := Lib.hid (H_b.out.below hb)
    replace Z_x2 := Lib.hid (Z_x2.out.below hb)
    replace Z_y2 := Lib.hid (Z_y2.out.below hb)
    replace B_a := Lib.hid (B_a.out.below hb)
    replace B_b := Lib.hid (B_b.out.below hb)
    replace hB := below_next hB hb
    clear hb hHeld
    clear Z_x2
    clear Z_y2
    go_wp2_with fail
    refine hK.out _ _ (by exact ⟨B_a.out.cell0, B_a.out.cell1, B_b.out.cell0, B_b.out.cell1⟩) (fun hHeld => ?_)
    clear hK K
    try simp only [Act.put, List.setIfInBounds_toArray, List.set_cons_zero, List.set_cons_succ]
    refine wpAnyH_take2 20 (v := ?_) (fun _ _ _ _ _ h => h) (by simp only [List.getElem?_toArray, List.getElem?_cons_succ, List.getElem?_cons_zero]; rfl) (by kernel_rfl) (by kernel_rfl) (by kernel_rfl) (by rfl) ?_ hHeld ?_
    rotate_left
    · (intro w hSw; (try dsimp only at hSw); go_simp; (try with_reducible rfl))
    try simp only [Act.put, List.setIfInBounds_toArray, List.set_cons_zero, List.set_cons_succ]
    refine wpAnyH_take2 21 (v := ?_) (fun _ _ _ _ _ h => h) (by simp only [List.getElem?_toArray, List.getElem?_cons_succ, List.getElem?_cons_zero]; rfl) (by kernel_rfl) (by kernel_rfl) (by kernel_rfl) (by rfl) ?_ hHeld ?_
    rotate_left
    · (intro w hSw; (try dsimp only at hSw); go_simp; (try with_reducible rfl))
    try simp only [Act.put, List.setIfInBounds_toArray, List.set_cons_zero, List.set_cons_succ]
    refine wpAnyH_take2 22 (v := ?_) (fun _ _ _ _ _ h => h) (by simp only [List.getElem?_toArray, List.getElem?_cons_succ, List.getElem?_cons_zero]; rfl) (by kernel_rfl) (by kernel_rfl) (by kernel_rfl) (by rfl) ?_ hHeld ?_
    rotate_left
    · (intro w hSw; (try dsimp only at hSw); go_simp; (try with_reducible rfl))
    try simp only [Act.put, List.setIfInBounds_toArray, List.set_cons_zero, List.set_cons_succ]
    refine wpAnyH_take2 23 (v := ?_) (fun _ _ _ _ _ h => h) (by simp only [List.getElem?_toArray, List.getElem?_cons_succ, List.getElem?_cons_zero]; rfl) (by kernel_rfl) (by kernel_rfl) (by kernel_rfl) (by rfl) ?_ hHeld ?_
    rotate_left
    · (intro w hSw; (try dsimp only at hSw); go_simp; (try with_reducible rfl))
    try simp only [Act.put, List.setIfInBounds_toArray, List.set_cons_zero, List.set_cons_succ]
    refine wpAnyH_take2 25 (v := ?_) (fun _ _ _ _ _ h => h) (by simp only [List.getElem?_toArray, List.getElem?_cons_succ, List.getElem?_cons_zero]; rfl) (by kernel_rfl) (by kernel_rfl) (by kernel_rfl) (by rfl) ?_ hHeld ?_
    rotate_left
    · (intro w hSw; (try dsimp only at hSw); go_simp; (try with_reducible rfl))
    try simp only [Act.put, List.setIfInBounds_toArray, List.set_cons_zero, List.set_cons_succ]
    refine wpAnyH_take2 26 (v := ?_) (fun _ _ _ _ _ h => h) (by simp only [List.getElem?_toArray, List.getElem?_cons_succ, List.getElem?_cons_zero]; rfl) (by kernel_rfl) (by kernel_rfl) (by kernel_rfl) (by rfl) ?_ hHeld ?_
    rotate_left
    · (intro w hSw; (try dsimp only at hSw); go_simp; (try with_reducible rfl))
    try simp only [Act.put, List.setIfInBounds_toArray, List.set_cons_zero, List.set_cons_succ]
    refine wpAnyH_ready (rs := [24]) (by kernel_rfl) (by simp) ?_
    refine AllReadyH.cons (by simp only [List.getElem?_toArray, List.getElem?_cons_succ, List.getElem?_cons_zero]; rfl) (fun K hK => ?_) AllReadyH.nil
    go_simp
    refine (iadd_any _ _ _ _ _ _ 40 40 _ (by exact ⟨l_a, H_a.out, s_a, rfl⟩) (by exact ⟨l_b, H_b.out, s_b, rfl⟩) (by omega) (by omega)).mono ?_
    rintro e w10 ⟨b_x3, A_x3, n_x3, c_x3, rfl, h_x3, hb⟩
    replace HT := Lib.hid (HT.out.below hb)
    replace H_a := Lib.hid (H_a.out.below hb)
    replace H_b := Lib.hid (H_b.out.below hb)
    replace B_a := Lib.hid (B_a.out.below hb)
    replace B_b := Lib.hid (B_b.out.below hb)
    replace hB := below_next hB hb
    clear hb hHeld
    have Z_x3 := Lib.hid h_x3
    clear h_x3
    go_wp2_with fail
    refine hK.out _ _ (by exact ⟨B_a.out.cell0, B_a.out.cell1, B_b.out.cell0, B_b.out.cell1⟩) (fun hHeld => ?_)
    clear hK K
    try simp only [Act.put, List.setIfInBounds_toArray, List.set_cons_zero, List.set_cons_succ]
    refine wpAnyH_ready (rs := [27]) (by kernel_rfl) (by simp) ?_
    refine AllReadyH.cons (by simp only [List.getElem?_toArray, List.getElem?_cons_succ, List.getElem?_cons_zero]; rfl) (fun K hK => ?_) AllReadyH.nil
    go_simp
    refine (riadd_any _ _ _ _ _ _ 40 40 _ (by exact ⟨l_a, H_a.out, s_a, rfl⟩) (by exact ⟨l_b, H_b.out, s_b, rfl⟩) (by omega) (by omega)).mono ?_
    rintro e w11 ⟨b_y3, A_y3, n_y3, c_y3, rfl, h_y3, hb⟩
    replace HT := Lib.hid (HT.out.below hb)
    replace H_a := Lib.hid (H_a.out.below hb)
    replace H_b := Lib.hid (H_b.out.below hb)
    replace Z_x3 := Lib.hid (Z_x3.out.below hb)
    replace B_a := Lib.hid (B_a.out.below hb)
    replace B_b := Lib.hid (B_b.out.below hb)
    replace hB := below_next hB hb
    clear hb hHeld
    have Z_y3 := Lib.hid h_y3
    clear h_y3
    go_wp2_with fail
    refine hK.out _ _ (by exact ⟨B_a.out.cell0, B_a.out.cell1, B_b.out.cell0, B_b.out.cell1⟩) (fun hHeld => ?_)
    clear hK K
    try simp only [Act.put, List.setIfInBounds_toArray, List.set_cons_zero, List.set_cons_succ]
    refine wpAnyH_ready (rs := [28]) (by kernel_rfl) (by simp) ?_
    refine AllReadyH.cons (by simp only [List.getElem?_toArray, List.getElem?_cons_succ, List.getElem?_cons_zero]; rfl) (fun K hK => ?_) AllReadyH.nil
    go_simp
    refine (zsame_eq (by exact Z_x3.out) (by exact Z_y3.out) rfl).mono ?_
    rintro e w12 ⟨rfl, hb⟩
    replace HT := Lib.hid (HT.out.below hb)
    replace H_a := Lib.hid (H_a.out.below hb)
    replace H_b := Lib.hid (H_b.out.below hb)
    replace Z_x3 := Lib.hid (Z_x3.out.below hb)
    replace Z_y3 := Lib.hid (Z_y3.out.below hb)
    replace B_a := Lib.hid (B_a.out.below hb)
    replace B_b := Lib.hid (B_b.out.below hb)
    replace hB := below_next hB hb
    clear hb hHeld
    clear Z_x3
    clear Z_y3
    go_wp2_with fail
    refine hK.out _ _ (by exact ⟨B_a.out.cell0, B_a.out.cell1, B_b.out.cell0, B_b.out.cell1⟩) (fun hHeld => ?_)
    clear hK K
    try simp only [Act.put, List.setIfInBounds_toArray, List.set_cons_zero, List.set_cons_succ]
    refine wpAnyH_take2 29 (v := ?_) (fun _ _ _ _ _ h => h) (by simp only [List.getElem?_toArray, List.getElem?_cons_succ, List.getElem?_cons_zero]; rfl) (by kernel_rfl) (by kernel_rfl) (by kernel_rfl) (by rfl) ?_ hHeld ?_
    rotate_left
    · (intro w hSw; (try dsimp only at hSw); go_simp; (try with_reducible rfl))
    try simp only [Act.put, List.setIfInBounds_toArray, List.set_cons_zero, List.set_cons_succ]
    refine wpAnyH_take2 30 (v := ?_) (fun _ _ _ _ _ h => h) (by simp only [List.getElem?_toArray, List.getElem?_cons_succ, List.getElem?_cons_zero]; rfl) (by kernel_rfl) (by kernel_rfl) (by kernel_rfl) (by rfl) ?_ hHeld ?_
    rotate_left
    · (intro w hSw; (try dsimp only at hSw); go_simp; (try with_reducible rfl))
    try simp only [Act.put, List.setIfInBounds_toArray, List.set_cons_zero, List.set_cons_succ]
    refine wpAnyH_take2 31 (v := ?_) (fun _ _ _ _ _ h => h) (by simp only [List.getElem?_toArray, List.getElem?_cons_succ, List.getElem?_cons_zero]; rfl) (by kernel_rfl) (by kernel_rfl) (by kernel_rfl) (by rfl) ?_ hHeld ?_
    rotate_left
    · (intro w hSw; (try dsimp only at hSw); go_simp; (try with_reducible rfl))
    try simp only [Act.put, List.setIfInBounds_toArray, List.set_cons_zero, List.set_cons_succ]
    refine wpAnyH_take2 32 (v := ?_) (fun _ _ _ _ _ h => h) (by simp only [List.getElem?_toArray, List.getElem?_cons_succ, List.getElem?_cons_zero]; rfl) (by kernel_rfl) (by kernel_rfl) (by kernel_rfl) (by rfl) ?_ hHeld ?_
    rotate_left
    · (intro w hSw; (try dsimp only at hSw); go_simp; (try with_reducible rfl))
    try simp only [Act.put, List.setIfInBounds_toArray, List.set_cons_zero, List.set_cons_succ]
    refine wpAnyH_take2 34 (v := ?_) (fun _ _ _ _ _ h => h) (by simp only [List.getElem?_toArray, List.getElem?_cons_succ, List.getElem?_cons_zero]; rfl) (by kernel_rfl) (by kernel_rfl) (by kernel_rfl) (by rfl) ?_ hHeld ?_
    rotate_left
    · (intro w hSw; (try dsimp only at hSw); go_simp; (try with_reducible rfl))
    try simp only [Act.put, List.setIfInBounds_toArray, List.set_cons_zero, List.set_cons_succ]
    refine wpAnyH_take2 35 (v := ?_) (fun _ _ _ _ _ h => h) (by simp only [List.getElem?_toArray, List.getElem?_cons_succ, List.getElem?_cons_zero]; rfl) (by kernel_rfl) (by kernel_rfl) (by kernel_rfl) (by rfl) ?_ hHeld ?_
    rotate_left
    · (intro w hSw; (try dsimp only at hSw); go_simp; (try with_reducible rfl))
    try simp only [Act.put, List.setIfInBounds_toArray, List.set_cons_zero, List.set_cons_succ]
    refine wpAnyH_ready (rs := [33]) (by kernel_rfl) (by simp) ?_
    refine AllReadyH.cons (by simp only [List.getElem?_toArray, List.getElem?_cons_succ, List.getElem?_cons_zero]; rfl) (fun K hK => ?_) AllReadyH.nil
    go_simp
    refine (isub_any _ _ _ _ _ _ 40 40 _ (by exact ⟨l_a, H_a.out, s_a, rfl⟩) (by exact ⟨l_b, H_b.out, s_b, rfl⟩) (by omega) (by omega)).mono ?_
    rintro e w13 ⟨b_x4, A_x4, n_x4, c_x4, rfl, h_x4, hb⟩
    replace HT := Lib.hid (HT.out.below hb)
    replace H_a := Lib.hid (H_a.out.below hb)
    replace H_b := Lib.hid (H_b.out.below hb)
    replace B_a := Lib.hid (B_a.out.below hb)
    replace B_b := Lib.hid (B_b.out.below hb)
    replace hB := below_next hB hb
    clear hb hHeld
    have Z_x4 := Lib.hid h_x4
    clear h_x4
    go_wp2_with fail
    refine hK.out _ _ (by exact ⟨B_a.out.cell0, B_a.out.cell1, B_b.out.cell0, B_b.out.cell1⟩) (fun hHeld => ?_)
    clear hK K
    try simp only [Act.put, List.setIfInBounds_toArray, List.set_cons_zero, List.set_cons_succ]
    refine wpAnyH_ready (rs := [36]) (by kernel_rfl) (by simp) ?_
    refine AllReadyH.cons (by simp only [List.getElem?_toArray, List.getElem?_cons_succ, List.getElem?_cons_zero]; rfl) (fun K hK => ?_) AllReadyH.nil
    go_simp
    refine (risub_any _ _ _ _ _ _ 40 40 _ (by exact ⟨l_a, H_a.out, s_a, rfl⟩) (by exact ⟨l_b, H_b.out, s_b, rfl⟩) (by omega) (by omega)).mono ?_
    rintro e w14 ⟨b_y4, A_y4, n_y4, c_y4, rfl, h_y4, hb⟩
    replace HT := Lib.hid (HT.out.below hb)
    replace H_a := Lib.hid (H_a.out.below hb)
    replace H_b := Lib.hid (H_b.out.below hb)
    replace Z_x4 := Lib.hid (Z_x4.out.below hb)
    replace B_a := Lib.hid (B_a.out.below hb)
    replace B_b := Lib.hid (B_b.out.below hb)
    replace hB := below_next hB hb
    clear hb hHeld
    have Z_y4 := Lib.hid h_y4
    clear h_y4
    go_wp2_with fail
    refine hK.out _ _ (by exact ⟨B_a.out.cell0, B_a.out.cell1, B_b.out.cell0, B_b.out.cell1⟩) (fun hHeld => ?_)
    clear hK K
    try simp only [Act.put, List.setIfInBounds_toArray, List.set_cons_zero, List.set_cons_succ]
    refine wpAnyH_ready (rs := [37]) (by kernel_rfl) (by simp) ?_
    refine AllReadyH.cons (by simp only [List.getElem?_toArray, List.getElem?_cons_succ, List.getElem?_cons_zero]; rfl) (fun K hK => ?_) AllReadyH.nil
    go_simp
    refine (zsame_eq (by exact Z_x4.out) (by exact Z_y4.out) rfl).mono ?_
    rintro e w15 ⟨rfl, hb⟩
    replace HT := Lib.hid (HT.out.below hb)
    replace H_a := Lib.hid (H_a.out.below hb)
    replace H_b := Lib.hid (H_b.out.below hb)
    replace Z_x4 := Lib.hid (Z_x4.out.below hb)
    replace Z_y4 := Lib.hid (Z_y4.out.below hb)
    replace B_a := Lib.hid (B_a.out.below hb)
    replace B_b := Lib.hid (B_b.out.below hb)
    replace hB := below_next hB hb
    clear hb hHeld
    clear Z_x4
    clear Z_y4
    go_wp2_with fail
    refine hK.out _ _ (by exact ⟨B_a.out.cell0, B_a.out.cell1, B_b.out.cell0, B_b.out.cell1⟩) (fun hHeld => ?_)
    clear hK K
    try simp only [Act.put, List.setIfInBounds_toArray, List.set_cons_zero, List.set_cons_succ]
    refine wpAnyH_take2 38 (v := ?_) (fun _ _ _ _ _ h => h) (by simp only [List.getElem?_toArray, List.getElem?_cons_succ, List.getElem?_cons_zero]; rfl) (by kernel_rfl) (by kernel_rfl) (by kernel_rfl) (by rfl) ?_ hHeld ?_
    rotate_left
    · (intro w hSw; (try dsimp only at hSw); go_simp; (try with_reducible rfl))
    try simp only [Act.put, List.setIfInBounds_toArray, List.set_cons_zero, List.set_cons_succ]
    refine wpAnyH_take2 39 (v := ?_) (fun _ _ _ _ _ h => h) (by simp only [List.getElem?_toArray, List.getElem?_cons_succ, List.getElem?_cons_zero]; rfl) (by kernel_rfl) (by kernel_rfl) (by kernel_rfl) (by rfl) ?_ hHeld ?_
    rotate_left
    · (intro w hSw; (try dsimp only at hSw); go_simp; (try with_reducible rfl))
    try simp only [Act.put, List.setIfInBounds_toArray, List.set_cons_zero, List.set_cons_succ]
    refine wpAnyH_ready (rs := [40]) (by kernel_rfl) (by simp) ?_
    refine AllReadyH.cons (by simp only [List.getElem?_toArray, List.getElem?_cons_succ, List.getElem?_cons_zero]; rfl) (fun K hK => ?_) AllReadyH.nil
    go_simp
    refine (awake_any _ (by exact HT.out)).mono ?_
    rintro e w16 ⟨rfl, hb⟩
    replace HT := Lib.hid (HT.out.below hb)
    replace H_a := Lib.hid (H_a.out.below hb)
    replace H_b := Lib.hid (H_b.out.below hb)
    replace B_a := Lib.hid (B_a.out.below hb)
    replace B_b := Lib.hid (B_b.out.below hb)
    replace hB := below_next hB hb
    clear hb hHeld
    go_wp2_with fail
    refine hK.out _ _ (by exact ⟨B_a.out.cell0, B_a.out.cell1, B_b.out.cell0, B_b.out.cell1⟩) (fun hHeld => ?_)
    clear hK K
    try simp only [Act.put, List.setIfInBounds_toArray, List.set_cons_zero, List.set_cons_succ]
    refine wpAnyH_take2 41 (v := ?_) (fun _ _ _ _ _ h => h) (by simp only [List.getElem?_toArray, List.getElem?_cons_succ, List.getElem?_cons_zero]; rfl) (by kernel_rfl) (by kernel_rfl) (by kernel_rfl) (by rfl) ?_ hHeld ?_
    rotate_left
    · (intro w hSw; (try dsimp only at hSw); go_simp; (try with_reducible rfl))
    try simp only [Act.put, List.setIfInBounds_toArray, List.set_cons_zero, List.set_cons_succ]
    refine wpAnyH_take2 42 (v := ?_) (fun _ _ _ _ _ h => h) (by simp only [List.getElem?_toArray, List.getElem?_cons_succ, List.getElem?_cons_zero]; rfl) (by kernel_rfl) (by kernel_rfl) (by kernel_rfl) (by rfl) ?_ hHeld ?_
    rotate_left
    · (intro w hSw; (try dsimp only at hSw); go_simp; (try with_reducible rfl))
    try simp only [Act.put, List.setIfInBounds_toArray, List.set_cons_zero, List.set_cons_succ]
    refine wpAnyH_done (by kernel_rfl) (NoPanic.normal ?_) _
    clear hHeld
    have c_a0 := B_a.out.cell0
    have c_a1 := B_a.out.cell1
    have c_b0 := B_b.out.cell0
    have c_b1 := B_b.out.cell1
    go_wp2
    go_ret
    exact ⟨rfl, hB⟩
  · skip
    go_enter Tryd.func9, Tryd.ntmps9
    go_wp2_with fail
    obtain ⟨W1, hW, NB, NC, HW, _⟩ := boxes2 w (.bool b_a) m_a (.bool b_b) m_b
    rw [hW]
    clear hW
    replace HT := Lib.hid (HT.out.below HW.out)
    replace H_a := Lib.hid (H_a.out.below HW.out)
    replace H_b := Lib.hid (H_b.out.below HW.out)
    have hB := HW.out
    have B_a := NB
    have B_b := NC
    clear NB NC HW
    refine (zshort2_is (v := false) (by exact H_a.out) (by exact H_b.out) (decide_eq_false s_ab)).mono ?_
    rintro e w1 ⟨rfl, hb⟩
    replace HT := Lib.hid (HT.out.below hb)
    replace H_a := Lib.hid (H_a.out.below hb)
    replace H_b := Lib.hid (H_b.out.below hb)
    replace B_a := Lib.hid (B_a.out.below hb)
    replace B_b := Lib.hid (B_b.out.below hb)
    replace hB := below_next hB hb
    clear hb
    have c_a0 := B_a.out.cell0
    have c_a1 := B_a.out.cell1
    have c_b0 := B_b.out.cell0
    have c_b1 := B_b.out.cell1
    go_wp2_with fail
    clear c_a0 c_a1 c_b0 c_b1
    refine (awake_any _ (by exact HT.out)).mono ?_
    rintro e w2 ⟨rfl, hb⟩
    replace HT := Lib.hid (HT.out.below hb)
    replace H_a := Lib.hid (H_a.out.below hb)
    replace H_b := Lib.hid (H_b.out.below hb)
    replace B_a := Lib.hid (B_a.out.below hb)
    replace B_b := Lib.hid (B_b.out.below hb)
    replace hB := below_next hB hb
    clear hb
    have c_a0 := B_a.out.cell0
    have c_a1 := B_a.out.cell1
    have c_b0 := B_b.out.cell0
    have c_b1 := B_b.out.cell1
    go_wp2
    go_ret
    exact ⟨rfl, hB⟩
end Go.Proofs.YtcdfhiocglibfaaDoor
