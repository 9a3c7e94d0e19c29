/- RatioIntegers -/
import Derived.Test.YtoflndeonegkpaaGreatDoorQ8
import Derived.Test.YtoflndeonegkpaaGreatDoorR2
namespace Go.Proofs.YtoflndeonegkpaaGreatDoor
open Go.RowKit

set_option maxRecDepth 100000 in
set_option maxHeartbeats 8000000 in
theorem walk_RatioIntegers (b_a : Bool) (m_a d_a : Value) (xs_a ys_a : List Nat) (w : World) (h_a : NatAt w m_a xs_a) (g_a : NatAt w d_a ys_a) (htab : Tab w) : Calls Tryz.prog 4 #[.agg #[.bool b_a, m_a, d_a]] w (GivesTrue w) := by
  by_cases s_a : xs_a.length ≤ 10 ∧ ys_a.length ≤ 10
  · skip
    have HT := Lib.hid htab
    clear htab
    have H_a := Lib.hid h_a
    have K_a := Lib.hid g_a
    clear h_a g_a
    go_enter Tryz.func4, Tryz.ntmps4
    go_wp2_with fail
    obtain ⟨W0, hW, B_a, HW, HS⟩ := rbox1 w (.bool b_a) m_a d_a
    rw [hW]
    clear hW
    replace HT := Lib.hid (HT.out.below HW.out)
    replace H_a := Lib.hid (H_a.out.below HW.out)
    replace K_a := Lib.hid (K_a.out.below HW.out)
    have hB := HW.out
    have hsz := HS.out
    clear HW HS
    refine (rlight_is (k := 10) (v := true) (by exact H_a.out) (by exact K_a.out) (decide_eq_true s_a)).mono ?_
    rintro e w1 ⟨rfl, hb⟩
    replace HT := Lib.hid (HT.out.below hb)
    replace H_a := Lib.hid (H_a.out.below hb)
    replace K_a := Lib.hid (K_a.out.below hb)
    replace B_a := Lib.hid (B_a.out.below hb)
    replace hB := below_next hB hb
    clear hb
    obtain ⟨q_a, R_a⟩ : ∃ q, Hid (RAt w1 b_a m_a d_a q 10) := ⟨_, xs_a, ys_a, H_a.out, K_a.out, s_a.1, s_a.2, rfl⟩
    have S_a := R_a.out.sz (by omega)
    clear H_a K_a
    have c_a0 := B_a.out.cell0
    have c_a1 := B_a.out.cell1
    have c_a2 := B_a.out.cell2
    go_wp2
    clear c_a0 c_a1 c_a2
    refine wp_region_named (S := (fun w' => w'.cell? ⟨w.heap.size, 0, none⟩ = some (.bool b_a) ∧ w'.cell? ⟨w.heap.size, 1, none⟩ = some m_a ∧ w'.cell? ⟨w.heap.size, 2, none⟩ = some d_a)) (by kernel_rfl) (by exact ⟨B_a.out.cell0, B_a.out.cell1, B_a.out.cell2⟩) (fun V2 hb hHeld => ?_)
    replace HT := Lib.hid (HT.out.below hb)
    replace R_a := Lib.hid (R_a.out.below hb)
    replace B_a := Lib.hid (B_a.out.below hb)
    replace hB := below_next hB hb
    clear hb
    refine wpAnyH_takeQ 0 (v := ?_) (fun _ _ _ _ _ h => h) (by simp only [List.getElem?_toArray, List.getElem?_cons_zero]; rfl) (by kernel_rfl) (by kernel_rfl) (by kernel_rfl) (by rfl) ?_ hHeld ?_
    rotate_left
    · (intro w hSw; (try dsimp only at hSw); go_simp; (try with_reducible rfl))
    try simp only [Act.put, List.setIfInBounds_toArray, List.set_cons_zero, List.set_cons_succ]
    refine wpAnyH_takeQ 2 (v := ?_) (fun _ _ _ _ _ h => h) (by simp only [List.getElem?_toArray, List.getElem?_cons_succ, List.getElem?_cons_zero]; rfl) (by kernel_rfl) (by kernel_rfl) (by kernel_rfl) (by rfl) ?_ hHeld ?_
    rotate_left
    · (intro w hSw; (try dsimp only at hSw); go_simp; (try with_reducible rfl))
    try simp only [Act.put, List.setIfInBounds_toArray, List.set_cons_zero, List.set_cons_succ]
    refine wpAnyH_ready (rs := [1]) (by kernel_rfl) (by simp) ?_
    refine AllReadyH.cons (by simp only [List.getElem?_toArray, List.getElem?_cons_succ, List.getElem?_cons_zero]; rfl) (fun K hK => ?_) AllReadyH.nil
    go_simp
    clear hHeld
    refine (qfloor_any _ _ _ _ 10 _ (by exact R_a.out) (by omega) (by omega)).mono ?_
    rintro e w3 ⟨b_x, A_x, n_x, c_x, rfl, h_x, hb⟩
    replace HT := Lib.hid (HT.out.below hb)
    replace R_a := Lib.hid (R_a.out.below hb)
    replace B_a := Lib.hid (B_a.out.below hb)
    replace hB := below_next hB hb
    clear hb
    have Z_x := Lib.hid h_x
    clear h_x
    go_wp2_with fail
    refine hK.out _ _ (by exact ⟨B_a.out.cell0, B_a.out.cell1, B_a.out.cell2⟩) (fun hHeld => ?_)
    clear hK K
    try simp only [Act.put, List.setIfInBounds_toArray, List.set_cons_zero, List.set_cons_succ]
    refine wpAnyH_ready (rs := [3]) (by kernel_rfl) (by simp) ?_
    refine AllReadyH.cons (by simp only [List.getElem?_toArray, List.getElem?_cons_succ, List.getElem?_cons_zero]; rfl) (fun K hK => ?_) AllReadyH.nil
    go_simp
    clear hHeld
    refine (r3floor_any _ _ _ _ 10 _ (by exact R_a.out) (by omega) (by omega)).mono ?_
    rintro e w4 ⟨b_y, A_y, n_y, c_y, rfl, h_y, hb⟩
    replace HT := Lib.hid (HT.out.below hb)
    replace R_a := Lib.hid (R_a.out.below hb)
    replace Z_x := Lib.hid (Z_x.out.below hb)
    replace B_a := Lib.hid (B_a.out.below hb)
    replace hB := below_next hB hb
    clear hb
    have Z_y := Lib.hid h_y
    clear h_y
    go_wp2_with fail
    refine hK.out _ _ (by exact ⟨B_a.out.cell0, B_a.out.cell1, B_a.out.cell2⟩) (fun hHeld => ?_)
    clear hK K
    try simp only [Act.put, List.setIfInBounds_toArray, List.set_cons_zero, List.set_cons_succ]
    refine wpAnyH_ready (rs := [4]) (by kernel_rfl) (by simp) ?_
    refine AllReadyH.cons (by simp only [List.getElem?_toArray, List.getElem?_cons_succ, List.getElem?_cons_zero]; rfl) (fun K hK => ?_) AllReadyH.nil
    go_simp
    clear hHeld
    refine (rsameint_z (by exact Z_x.out) (by exact Z_y.out) rfl).mono ?_
    rintro e w5 ⟨rfl, hb⟩
    replace HT := Lib.hid (HT.out.below hb)
    replace R_a := Lib.hid (R_a.out.below hb)
    replace Z_x := Lib.hid (Z_x.out.below hb)
    replace Z_y := Lib.hid (Z_y.out.below hb)
    replace B_a := Lib.hid (B_a.out.below hb)
    replace hB := below_next hB hb
    clear hb
    clear Z_x
    clear Z_y
    go_wp2_with fail
    refine hK.out _ _ (by exact ⟨B_a.out.cell0, B_a.out.cell1, B_a.out.cell2⟩) (fun hHeld => ?_)
    clear hK K
    try simp only [Act.put, List.setIfInBounds_toArray, List.set_cons_zero, List.set_cons_succ]
    refine wpAnyH_takeQ 5 (v := ?_) (fun _ _ _ _ _ h => h) (by simp only [List.getElem?_toArray, List.getElem?_cons_succ, List.getElem?_cons_zero]; rfl) (by kernel_rfl) (by kernel_rfl) (by kernel_rfl) (by rfl) ?_ hHeld ?_
    rotate_left
    · (intro w hSw; (try dsimp only at hSw); go_simp; (try with_reducible rfl))
    try simp only [Act.put, List.setIfInBounds_toArray, List.set_cons_zero, List.set_cons_succ]
    refine wpAnyH_takeQ 6 (v := ?_) (fun _ _ _ _ _ h => h) (by simp only [List.getElem?_toArray, List.getElem?_cons_succ, List.getElem?_cons_zero]; rfl) (by kernel_rfl) (by kernel_rfl) (by kernel_rfl) (by rfl) ?_ hHeld ?_
    rotate_left
    · (intro w hSw; (try dsimp only at hSw); go_simp; (try with_reducible rfl))
    try simp only [Act.put, List.setIfInBounds_toArray, List.set_cons_zero, List.set_cons_succ]
    refine wpAnyH_takeQ 8 (v := ?_) (fun _ _ _ _ _ h => h) (by simp only [List.getElem?_toArray, List.getElem?_cons_succ, List.getElem?_cons_zero]; rfl) (by kernel_rfl) (by kernel_rfl) (by kernel_rfl) (by rfl) ?_ hHeld ?_
    rotate_left
    · (intro w hSw; (try dsimp only at hSw); go_simp; (try with_reducible rfl))
    try simp only [Act.put, List.setIfInBounds_toArray, List.set_cons_zero, List.set_cons_succ]
    refine wpAnyH_ready (rs := [7]) (by kernel_rfl) (by simp) ?_
    refine AllReadyH.cons (by simp only [List.getElem?_toArray, List.getElem?_cons_succ, List.getElem?_cons_zero]; rfl) (fun K hK => ?_) AllReadyH.nil
    go_simp
    clear hHeld
    refine (qround_any _ _ _ _ 10 _ (by exact R_a.out) (by omega) (by omega)).mono ?_
    rintro e w6 ⟨b_u, A_u, n_u, c_u, rfl, h_u, hb⟩
    replace HT := Lib.hid (HT.out.below hb)
    replace R_a := Lib.hid (R_a.out.below hb)
    replace B_a := Lib.hid (B_a.out.below hb)
    replace hB := below_next hB hb
    clear hb
    have Z_u := Lib.hid h_u
    clear h_u
    go_wp2_with fail
    refine hK.out _ _ (by exact ⟨B_a.out.cell0, B_a.out.cell1, B_a.out.cell2⟩) (fun hHeld => ?_)
    clear hK K
    try simp only [Act.put, List.setIfInBounds_toArray, List.set_cons_zero, List.set_cons_succ]
    refine wpAnyH_ready (rs := [9]) (by kernel_rfl) (by simp) ?_
    refine AllReadyH.cons (by simp only [List.getElem?_toArray, List.getElem?_cons_succ, List.getElem?_cons_zero]; rfl) (fun K hK => ?_) AllReadyH.nil
    go_simp
    clear hHeld
    refine (r3round_any _ _ _ _ 10 _ (by exact R_a.out) (by omega) (by omega)).mono ?_
    rintro e w7 ⟨b_v, A_v, n_v, c_v, rfl, h_v, hb⟩
    replace HT := Lib.hid (HT.out.below hb)
    replace R_a := Lib.hid (R_a.out.below hb)
    replace Z_u := Lib.hid (Z_u.out.below hb)
    replace B_a := Lib.hid (B_a.out.below hb)
    replace hB := below_next hB hb
    clear hb
    have Z_v := Lib.hid h_v
    clear h_v
    go_wp2_with fail
    refine hK.out _ _ (by exact ⟨B_a.out.cell0, B_a.out.cell1, B_a.out.cell2⟩) (fun hHeld => ?_)
    clear hK K
    try simp only [Act.put, List.setIfInBounds_toArray, List.set_cons_zero, List.set_cons_succ]
    refine wpAnyH_ready (rs := [10]) (by kernel_rfl) (by simp) ?_
    refine AllReadyH.cons (by simp only [List.getElem?_toArray, List.getElem?_cons_succ, List.getElem?_cons_zero]; rfl) (fun K hK => ?_) AllReadyH.nil
    go_simp
    clear hHeld
    refine (rsameint_z (by exact Z_u.out) (by exact Z_v.out) rfl).mono ?_
    rintro e w8 ⟨rfl, hb⟩
    replace HT := Lib.hid (HT.out.below hb)
    replace R_a := Lib.hid (R_a.out.below hb)
    replace Z_u := Lib.hid (Z_u.out.below hb)
    replace Z_v := Lib.hid (Z_v.out.below hb)
    replace B_a := Lib.hid (B_a.out.below hb)
    replace hB := below_next hB hb
    clear hb
    clear Z_u
    clear Z_v
    go_wp2_with fail
    refine hK.out _ _ (by exact ⟨B_a.out.cell0, B_a.out.cell1, B_a.out.cell2⟩) (fun hHeld => ?_)
    clear hK K
    try simp only [Act.put, List.setIfInBounds_toArray, List.set_cons_zero, List.set_cons_succ]
    refine wpAnyH_takeQ 11 (v := ?_) (fun _ _ _ _ _ h => h) (by simp only [List.getElem?_toArray, List.getElem?_cons_succ, List.getElem?_cons_zero]; rfl) (by kernel_rfl) (by kernel_rfl) (by kernel_rfl) (by rfl) ?_ hHeld ?_
    rotate_left
    · (intro w hSw; (try dsimp only at hSw); go_simp; (try with_reducible rfl))
    try simp only [Act.put, List.setIfInBounds_toArray, List.set_cons_zero, List.set_cons_succ]
    refine wpAnyH_takeQ 12 (v := ?_) (fun _ _ _ _ _ h => h) (by simp only [List.getElem?_toArray, List.getElem?_cons_succ, List.getElem?_cons_zero]; rfl) (by kernel_rfl) (by kernel_rfl) (by kernel_rfl) (by rfl) ?_ hHeld ?_
    rotate_left
    · (intro w hSw; (try dsimp only at hSw); go_simp; (try with_reducible rfl))
    try simp only [Act.put, List.setIfInBounds_toArray, List.set_cons_zero, List.set_cons_succ]
    refine wpAnyH_takeQ 13 (v := ?_) (fun _ _ _ _ _ h => h) (by simp only [List.getElem?_toArray, List.getElem?_cons_succ, List.getElem?_cons_zero]; rfl) (by kernel_rfl) (by kernel_rfl) (by kernel_rfl) (by rfl) ?_ hHeld ?_
    rotate_left
    · (intro w hSw; (try dsimp only at hSw); go_simp; (try with_reducible rfl))
    try simp only [Act.put, List.setIfInBounds_toArray, List.set_cons_zero, List.set_cons_succ]
    refine wpAnyH_takeQ 15 (v := ?_) (fun _ _ _ _ _ h => h) (by simp only [List.getElem?_toArray, List.getElem?_cons_succ, List.getElem?_cons_zero]; rfl) (by kernel_rfl) (by kernel_rfl) (by kernel_rfl) (by rfl) ?_ hHeld ?_
    rotate_left
    · (intro w hSw; (try dsimp only at hSw); go_simp; (try with_reducible rfl))
    try simp only [Act.put, List.setIfInBounds_toArray, List.set_cons_zero, List.set_cons_succ]
    refine wpAnyH_ready (rs := [14]) (by kernel_rfl) (by simp) ?_
    refine AllReadyH.cons (by simp only [List.getElem?_toArray, List.getElem?_cons_succ, List.getElem?_cons_zero]; rfl) (fun K hK => ?_) AllReadyH.nil
    go_simp
    clear hHeld
    refine (qtext_any _ _ _ _ 10 _ (by exact R_a.out) (by omega) (by omega) (by exact HT.out)).mono ?_
    rintro e w9 ⟨rfl, hb⟩
    replace HT := Lib.hid (HT.out.below hb)
    replace R_a := Lib.hid (R_a.out.below hb)
    replace B_a := Lib.hid (B_a.out.below hb)
    replace hB := below_next hB hb
    clear hb
    go_wp2_with fail
    refine hK.out _ _ (by exact ⟨B_a.out.cell0, B_a.out.cell1, B_a.out.cell2⟩) (fun hHeld => ?_)
    clear hK K
    try simp only [Act.put, List.setIfInBounds_toArray, List.set_cons_zero, List.set_cons_succ]
    refine wpAnyH_ready (rs := [16]) (by kernel_rfl) (by simp) ?_
    refine AllReadyH.cons (by simp only [List.getElem?_toArray, List.getElem?_cons_succ, List.getElem?_cons_zero]; rfl) (fun K hK => ?_) AllReadyH.nil
    go_simp
    clear hHeld
    refine (r3text_any _ _ _ _ 10 _ (by exact R_a.out) (by omega) (by omega)).mono ?_
    rintro e w10 ⟨rfl, hb⟩
    replace HT := Lib.hid (HT.out.below hb)
    replace R_a := Lib.hid (R_a.out.below hb)
    replace B_a := Lib.hid (B_a.out.below hb)
    replace hB := below_next hB hb
    clear hb
    go_wp2_with fail
    refine hK.out _ _ (by exact ⟨B_a.out.cell0, B_a.out.cell1, B_a.out.cell2⟩) (fun hHeld => ?_)
    clear hK K
    try simp only [Act.put, List.setIfInBounds_toArray, List.set_cons_zero, List.set_cons_succ]
    refine wpAnyH_takeQ 17 (v := ?_) (fun _ _ _ _ _ h => h) (by simp only [List.getElem?_toArray, List.getElem?_cons_succ, List.getElem?_cons_zero]; rfl) (by kernel_rfl) (by kernel_rfl) (by kernel_rfl) (by rfl) ?_ hHeld ?_
    rotate_left
    · (intro w hSw; (try dsimp only at hSw); go_simp; (try with_reducible rfl))
    try simp only [Act.put, List.setIfInBounds_toArray, List.set_cons_zero, List.set_cons_succ]
    refine wpAnyH_takeQ 18 (v := ?_) (fun _ _ _ _ _ h => h) (by simp only [List.getElem?_toArray, List.getElem?_cons_succ, List.getElem?_cons_zero]; rfl) (by kernel_rfl) (by kernel_rfl) (by kernel_rfl) (by rfl) ?_ hHeld ?_
    rotate_left
    · (intro w hSw; (try dsimp only at hSw); go_simp; (try with_reducible rfl))
    try simp only [Act.put, List.setIfInBounds_toArray, List.set_cons_zero, List.set_cons_succ]
    refine wpAnyH_takeQ 19 (v := ?_) (fun _ _ _ _ _ h => h) (by simp only [List.getElem?_toArray, List.getElem?_cons_succ, List.getElem?_cons_zero]; rfl) (by kernel_rfl) (by kernel_rfl) (by kernel_rfl) (by rfl) ?_ hHeld ?_
    rotate_left
    · (intro w hSw; (try dsimp only at hSw); go_simp; (try with_reducible rfl))
    try simp only [Act.put, List.setIfInBounds_toArray, List.set_cons_zero, List.set_cons_succ]
    refine wpAnyH_ready (rs := [20]) (by kernel_rfl) (by simp) ?_
    refine AllReadyH.cons (by simp only [List.getElem?_toArray, List.getElem?_cons_succ, List.getElem?_cons_zero]; rfl) (fun K hK => ?_) AllReadyH.nil
    go_simp
    clear hHeld
    refine (holds_any _ (by exact HT.out)).mono ?_
    rintro e w11 ⟨rfl, hb⟩
    replace HT := Lib.hid (HT.out.below hb)
    replace R_a := Lib.hid (R_a.out.below hb)
    replace B_a := Lib.hid (B_a.out.below hb)
    replace hB := below_next hB hb
    clear hb
    go_wp2_with fail
    refine hK.out _ _ (by exact ⟨B_a.out.cell0, B_a.out.cell1, B_a.out.cell2⟩) (fun hHeld => ?_)
    clear hK K
    try simp only [Act.put, List.setIfInBounds_toArray, List.set_cons_zero, List.set_cons_succ]
    refine wpAnyH_takeQ 21 (v := ?_) (fun _ _ _ _ _ h => h) (by simp only [List.getElem?_toArray, List.getElem?_cons_succ, List.getElem?_cons_zero]; rfl) (by kernel_rfl) (by kernel_rfl) (by kernel_rfl) (by rfl) ?_ hHeld ?_
    rotate_left
    · (intro w hSw; (try dsimp only at hSw); go_simp; (try with_reducible rfl))
    try simp only [Act.put, List.setIfInBounds_toArray, List.set_cons_zero, List.set_cons_succ]
    refine wpAnyH_takeQ 22 (v := ?_) (fun _ _ _ _ _ h => h) (by simp only [List.getElem?_toArray, List.getElem?_cons_succ, List.getElem?_cons_zero]; rfl) (by kernel_rfl) (by kernel_rfl) (by kernel_rfl) (by rfl) ?_ hHeld ?_
    rotate_left
    · (intro w hSw; (try dsimp only at hSw); go_simp; (try with_reducible rfl))
    try simp only [Act.put, List.setIfInBounds_toArray, List.set_cons_zero, List.set_cons_succ]
    refine wpAnyH_done (by kernel_rfl) (NoPanic.normal ?_) _
    clear hHeld
    have c_a0 := B_a.out.cell0
    have c_a1 := B_a.out.cell1
    have c_a2 := B_a.out.cell2
    go_wp2
    go_ret
    exact ⟨rfl, hB⟩
  · skip
    have HT := Lib.hid htab
    clear htab
    have H_a := Lib.hid h_a
    have K_a := Lib.hid g_a
    clear h_a g_a
    go_enter Tryz.func4, Tryz.ntmps4
    go_wp2_with fail
    obtain ⟨W0, hW, B_a, HW, HS⟩ := rbox1 w (.bool b_a) m_a d_a
    rw [hW]
    clear hW
    replace HT := Lib.hid (HT.out.below HW.out)
    replace H_a := Lib.hid (H_a.out.below HW.out)
    replace K_a := Lib.hid (K_a.out.below HW.out)
    have hB := HW.out
    have hsz := HS.out
    clear HW HS
    refine (rlight_is (k := 10) (v := false) (by exact H_a.out) (by exact K_a.out) (decide_eq_false s_a)).mono ?_
    rintro e w1 ⟨rfl, hb⟩
    replace HT := Lib.hid (HT.out.below hb)
    replace H_a := Lib.hid (H_a.out.below hb)
    replace K_a := Lib.hid (K_a.out.below hb)
    replace B_a := Lib.hid (B_a.out.below hb)
    replace hB := below_next hB hb
    clear hb
    have c_a0 := B_a.out.cell0
    have c_a1 := B_a.out.cell1
    have c_a2 := B_a.out.cell2
    go_wp2_with fail
    clear c_a0 c_a1 c_a2
    refine (holds_any _ (by exact HT.out)).mono ?_
    rintro e w2 ⟨rfl, hb⟩
    replace HT := Lib.hid (HT.out.below hb)
    replace H_a := Lib.hid (H_a.out.below hb)
    replace K_a := Lib.hid (K_a.out.below hb)
    replace B_a := Lib.hid (B_a.out.below hb)
    replace hB := below_next hB hb
    clear hb
    have c_a0 := B_a.out.cell0
    have c_a1 := B_a.out.cell1
    have c_a2 := B_a.out.cell2
    go_wp2
    go_ret
    exact ⟨rfl, hB⟩
end Go.Proofs.YtoflndeonegkpaaGreatDoor
