/- The law IntegerProducts: its walk. -/
import Derived.Test.YtcdfhiocglibfaaDoorAwake
import Derived.Test.YtcdfhiocglibfaaDoorZBase
import Derived.Test.YtcdfhiocglibfaaDoorZShort
import Derived.Test.YtcdfhiocglibfaaDoorRInt6
namespace Go.Proofs.YtcdfhiocglibfaaDoor
open Go.RowKit

theorem ridivmod_zero {b1 b2 : Bool} {m1 m2 : Value} {z1 z2 : Int} {k1 k2 : Nat} {w : World} (h1 : IntAt w b1 m1 z1 k1) (h2 : IntAt w b2 m2 z2 k2) (hk1 : k1 ≤ 50000) (hk2 : k2 ≤ 50000) (h0 : z2 = 0) :
    Calls Tryd.prog 15 #[.agg #[.bool b1, m1], .agg #[.bool b2, m2]] w (GivesZZ w 0 0 false) := by
  have h := ridivmod_all b1 b2 m1 m2 z1 z2 k1 k2 w h1 h2 hk1 hk2
  rw [if_pos h0, if_pos h0, decide_eq_false (fun h => h h0)] at h
  exact h
theorem ridivmod_ne {b1 b2 : Bool} {m1 m2 : Value} {z1 z2 : Int} {k1 k2 : Nat} {w : World} (h1 : IntAt w b1 m1 z1 k1) (h2 : IntAt w b2 m2 z2 k2) (hk1 : k1 ≤ 50000) (hk2 : k2 ≤ 50000) (h0 : z2 ≠ 0) :
    Calls Tryd.prog 15 #[.agg #[.bool b1, m1], .agg #[.bool b2, m2]] w (GivesZZ w (z1 / z2) (z1 % z2) true) := by
  have h := ridivmod_all b1 b2 m1 m2 z1 z2 k1 k2 w h1 h2 hk1 hk2
  rw [if_neg h0, if_neg h0, decide_eq_true h0] at h
  exact h
set_option maxRecDepth 100000 in
set_option maxHeartbeats 8000000 in
theorem walk_IntegerProducts (b_a : Bool) (m_a : Value) (l_a : List Nat) (b_b : Bool) (m_b : Value) (l_b : List Nat) (w : World) (h_a : NatAt w m_a l_a) (h_b : NatAt w m_b l_b) (htab : Tab w) : Calls Tryd.prog 3 #[.agg #[.bool b_a, m_a], .agg #[.bool b_b, m_b]] w (GivesTrue w) := by
  have HT := Lib.hid htab
  clear htab
  have H_a := Lib.hid h_a
  clear h_a
  have H_b := Lib.hid h_b
  clear h_b
  by_cases s_ab : l_a.length ≤ 40 ∧ l_b.length ≤ 40
  · obtain ⟨s_a, s_b⟩ := s_ab
    by_cases hz : zval b_b l_b = 0
    · have HZ := Lib.hid hz
      clear hz
      go_enter Tryd.func3, Tryd.ntmps3
      go_wp2_with fail
      obtain ⟨W1, hW, NB, NC, HW, _⟩ := boxes2 w (.bool b_a) m_a (.bool b_b) m_b
      rw [hW]
      clear hW
      replace HT := Lib.hid (HT.out.below HW.out)
      replace H_a := Lib.hid (H_a.out.below HW.out)
      replace H_b := Lib.hid (H_b.out.below HW.out)
      have hB := HW.out
      have B_a := NB
      have B_b := NC
      clear NB NC HW
      refine (zshort2_is (v := true) (by exact H_a.out) (by exact H_b.out) (decide_eq_true ⟨s_a, s_b⟩)).mono ?_
      rintro e w1 ⟨rfl, hb⟩
      replace HT := Lib.hid (HT.out.below hb)
      replace H_a := Lib.hid (H_a.out.below hb)
      replace H_b := Lib.hid (H_b.out.below hb)
      replace B_a := Lib.hid (B_a.out.below hb)
      replace B_b := Lib.hid (B_b.out.below hb)
      replace hB := below_next hB hb
      clear hb
      have c_a0 := B_a.out.cell0
      have c_a1 := B_a.out.cell1
      have c_b0 := B_b.out.cell0
      have c_b1 := B_b.out.cell1
      go_wp2_with fail
      clear c_a0 c_a1 c_b0 c_b1
      refine (idivmod_zero _ _ _ _ _ _ 40 40 _ (by exact ⟨l_a, H_a.out, s_a, rfl⟩) (by exact ⟨l_b, H_b.out, s_b, rfl⟩) HZ.out).mono ?_
      rintro e w2 ⟨b_q, A_q, n_q, c_q, b_r, A_r, n_r, c_r, rfl, h_q, h_r, hb⟩
      replace HT := Lib.hid (HT.out.below hb)
      replace H_a := Lib.hid (H_a.out.below hb)
      replace H_b := Lib.hid (H_b.out.below hb)
      replace B_a := Lib.hid (B_a.out.below hb)
      replace B_b := Lib.hid (B_b.out.below hb)
      replace hB := below_next hB hb
      clear hb
      have Z_q := Lib.hid h_q
      clear h_q
      have Z_r := Lib.hid h_r
      clear h_r
      have c_a0 := B_a.out.cell0
      have c_a1 := B_a.out.cell1
      have c_b0 := B_b.out.cell0
      have c_b1 := B_b.out.cell1
      go_upto_region 4 with fail
      clear c_a0 c_a1 c_b0 c_b1
      obtain ⟨W2, hW, NB, NC, HW, _⟩ := boxes2 w2 (.bool b_q) (.slice A_q n_q c_q) (.bool b_r) (.slice A_r n_r c_r)
      rw [hW]
      clear hW
      replace HT := Lib.hid (HT.out.below HW.out)
      replace H_a := Lib.hid (H_a.out.below HW.out)
      replace H_b := Lib.hid (H_b.out.below HW.out)
      replace Z_q := Lib.hid (Z_q.out.below HW.out)
      replace Z_r := Lib.hid (Z_r.out.below HW.out)
      replace B_a := Lib.hid (B_a.out.below HW.out)
      replace B_b := Lib.hid (B_b.out.below HW.out)
      replace hB := below_next hB HW.out
      have B_q := NB
      have B_r := NC
      clear NB NC HW
      have c_a0 := B_a.out.cell0
      have c_a1 := B_a.out.cell1
      have c_b0 := B_b.out.cell0
      have c_b1 := B_b.out.cell1
      have c_q0 := B_q.out.cell0
      have c_q1 := B_q.out.cell1
      have c_r0 := B_r.out.cell0
      have c_r1 := B_r.out.cell1
      go_wp2_with fail
      clear c_a0 c_a1 c_b0 c_b1 c_q0 c_q1 c_r0 c_r1
      refine (ridivmod_zero (k1 := 40) (k2 := 40) (by exact ⟨l_a, H_a.out, s_a, rfl⟩) (by exact ⟨l_b, H_b.out, s_b, rfl⟩) (by omega) (by omega) HZ.out).mono ?_
      rintro e w3 ⟨b_s, A_s, n_s, c_s, b_t, A_t, n_t, c_t, rfl, h_s, h_t, hb⟩
      replace HT := Lib.hid (HT.out.below hb)
      replace H_a := Lib.hid (H_a.out.below hb)
      replace H_b := Lib.hid (H_b.out.below hb)
      replace Z_q := Lib.hid (Z_q.out.below hb)
      replace Z_r := Lib.hid (Z_r.out.below hb)
      replace B_a := Lib.hid (B_a.out.below hb)
      replace B_b := Lib.hid (B_b.out.below hb)
      replace B_q := Lib.hid (B_q.out.below hb)
      replace B_r := Lib.hid (B_r.out.below hb)
      replace hB := below_next hB hb
      clear hb
      have Z_s := Lib.hid h_s
      clear h_s
      have Z_t := Lib.hid h_t
      clear h_t
      have c_a0 := B_a.out.cell0
      have c_a1 := B_a.out.cell1
      have c_b0 := B_b.out.cell0
      have c_b1 := B_b.out.cell1
      have c_q0 := B_q.out.cell0
      have c_q1 := B_q.out.cell1
      have c_r0 := B_r.out.cell0
      have c_r1 := B_r.out.cell1
      go_wp2
      clear c_a0 c_a1 c_b0 c_b1 c_q0 c_q1 c_r0 c_r1
      obtain ⟨W3, hW, NB, NC, HW, _⟩ := boxes2 w3 (.bool b_s) (.slice A_s n_s c_s) (.bool b_t) (.slice A_t n_t c_t)
      rw [hW]
      clear hW
      replace HT := Lib.hid (HT.out.below HW.out)
      replace H_a := Lib.hid (H_a.out.below HW.out)
      replace H_b := Lib.hid (H_b.out.below HW.out)
      replace Z_q := Lib.hid (Z_q.out.below HW.out)
      replace Z_r := Lib.hid (Z_r.out.below HW.out)
      replace Z_s := Lib.hid (Z_s.out.below HW.out)
      replace Z_t := Lib.hid (Z_t.out.below HW.out)
      replace B_a := Lib.hid (B_a.out.below HW.out)
      replace B_b := Lib.hid (B_b.out.below HW.out)
      replace B_q := Lib.hid (B_q.out.below HW.out)
      replace B_r := Lib.hid (B_r.out.below HW.out)
      replace hB := below_next hB HW.out
      have B_s := NB
      have B_t := NC
      clear NB NC HW
      refine wp_region_noPanic ?_
      refine wp_region_held_drew (S := (fun w' => w'.cell? ⟨w.heap.size, 0, none⟩ = some (.bool b_a) ∧ w'.cell? ⟨w.heap.size, 1, none⟩ = some m_a ∧ w'.cell? ⟨w.heap.size + 1, 0, none⟩ = some (.bool b_b) ∧ w'.cell? ⟨w.heap.size + 1, 1, none⟩ = some m_b ∧ w'.cell? ⟨w2.heap.size, 0, none⟩ = some (.bool b_q) ∧ w'.cell? ⟨w2.heap.size, 1, none⟩ = some (.slice A_q n_q c_q) ∧ w'.cell? ⟨w2.heap.size + 1, 0, none⟩ = some (.bool b_r) ∧ w'.cell? ⟨w2.heap.size + 1, 1, none⟩ = some (.slice A_r n_r c_r) ∧ w'.cell? ⟨w3.heap.size, 0, none⟩ = some (.bool b_s) ∧ w'.cell? ⟨w3.heap.size, 1, none⟩ = some (.slice A_s n_s c_s) ∧ w'.cell? ⟨w3.heap.size + 1, 0, none⟩ = some (.bool b_t) ∧ w'.cell? ⟨w3.heap.size + 1, 1, none⟩ = some (.slice A_t n_t c_t))) (by kernel_rfl) (by exact ⟨B_a.out.cell0, B_a.out.cell1, B_b.out.cell0, B_b.out.cell1, B_q.out.cell0, B_q.out.cell1, B_r.out.cell0, B_r.out.cell1, B_s.out.cell0, B_s.out.cell1, B_t.out.cell0, B_t.out.cell1⟩) (fun hHeld => ?_)
      have hb := belowDrew W3
      generalize W3.drew = V_4 at hb hHeld ⊢
      replace HT := Lib.hid (HT.out.below hb)
      replace H_a := Lib.hid (H_a.out.below hb)
      replace H_b := Lib.hid (H_b.out.below hb)
      replace Z_q := Lib.hid (Z_q.out.below hb)
      replace Z_r := Lib.hid (Z_r.out.below hb)
      replace Z_s := Lib.hid (Z_s.out.below hb)
      replace Z_t := Lib.hid (Z_t.out.below hb)
      replace B_a := Lib.hid (B_a.out.below hb)
      replace B_b := Lib.hid (B_b.out.below hb)
      replace B_q := Lib.hid (B_q.out.below hb)
      replace B_r := Lib.hid (B_r.out.below hb)
      replace B_s := Lib.hid (B_s.out.below hb)
      replace B_t := Lib.hid (B_t.out.below hb)
      replace hB := below_next hB hb
      clear hb
      refine wpAnyH_take2 0 (v := ?_) (fun _ _ _ _ _ h => h) (by simp only [List.getElem?_toArray, List.getElem?_cons_zero]; rfl) (by kernel_rfl) (by kernel_rfl) (by kernel_rfl) (by rfl) ?_ hHeld ?_
      rotate_left
      · (intro w hSw; (try dsimp only at hSw); go_simp; (try with_reducible rfl))
      try simp only [Act.put, List.setIfInBounds_toArray, List.set_cons_zero, List.set_cons_succ]
      refine wpAnyH_take2 1 (v := ?_) (fun _ _ _ _ _ h => h) (by simp only [List.getElem?_toArray, List.getElem?_cons_succ, List.getElem?_cons_zero]; rfl) (by kernel_rfl) (by kernel_rfl) (by kernel_rfl) (by rfl) ?_ hHeld ?_
      rotate_left
      · (intro w hSw; (try dsimp only at hSw); go_simp; (try with_reducible rfl))
      try simp only [Act.put, List.setIfInBounds_toArray, List.set_cons_zero, List.set_cons_succ]
      refine wpAnyH_take2 3 (v := ?_) (fun _ _ _ _ _ h => h) (by simp only [List.getElem?_toArray, List.getElem?_cons_succ, List.getElem?_cons_zero]; rfl) (by kernel_rfl) (by kernel_rfl) (by kernel_rfl) (by rfl) ?_ hHeld ?_
      rotate_left
      · (intro w hSw; (try dsimp only at hSw); go_simp; (try with_reducible rfl))
      try simp only [Act.put, List.setIfInBounds_toArray, List.set_cons_zero, List.set_cons_succ]
      refine wpAnyH_take2 4 (v := ?_) (fun _ _ _ _ _ h => h) (by simp only [List.getElem?_toArray, List.getElem?_cons_succ, List.getElem?_cons_zero]; rfl) (by kernel_rfl) (by kernel_rfl) (by kernel_rfl) (by rfl) ?_ hHeld ?_
      rotate_left
      · (intro w hSw; (try dsimp only at hSw); go_simp; (try with_reducible rfl))
      try simp only [Act.put, List.setIfInBounds_toArray, List.set_cons_zero, List.set_cons_succ]
      refine wpAnyH_ready (rs := [2]) (by kernel_rfl) (by simp) ?_
      refine AllReadyH.cons (by simp only [List.getElem?_toArray, List.getElem?_cons_succ, List.getElem?_cons_zero]; rfl) (fun K hK => ?_) AllReadyH.nil
      go_simp
      refine (imul_any _ _ _ _ _ _ 40 40 _ (by exact ⟨l_a, H_a.out, s_a, rfl⟩) (by exact ⟨l_b, H_b.out, s_b, rfl⟩) (by omega) (by omega)).mono ?_
      rintro e w4 ⟨b_x, A_x, n_x, c_x, rfl, h_x, hb⟩
      replace HT := Lib.hid (HT.out.below hb)
      replace H_a := Lib.hid (H_a.out.below hb)
      replace H_b := Lib.hid (H_b.out.below hb)
      replace Z_q := Lib.hid (Z_q.out.below hb)
      replace Z_r := Lib.hid (Z_r.out.below hb)
      replace Z_s := Lib.hid (Z_s.out.below hb)
      replace Z_t := Lib.hid (Z_t.out.below hb)
      replace B_a := Lib.hid (B_a.out.below hb)
      replace B_b := Lib.hid (B_b.out.below hb)
      replace B_q := Lib.hid (B_q.out.below hb)
      replace B_r := Lib.hid (B_r.out.below hb)
      replace B_s := Lib.hid (B_s.out.below hb)
      replace B_t := Lib.hid (B_t.out.below hb)
      replace hB := below_next hB hb
      clear hb hHeld
      have Z_x := Lib.hid h_x
      clear h_x
      go_wp2_with fail
      refine hK.out _ _ (by exact ⟨B_a.out.cell0, B_a.out.cell1, B_b.out.cell0, B_b.out.cell1, B_q.out.cell0, B_q.out.cell1, B_r.out.cell0, B_r.out.cell1, B_s.out.cell0, B_s.out.cell1, B_t.out.cell0, B_t.out.cell1⟩) (fun hHeld => ?_)
      clear hK K
      try simp only [Act.put, List.setIfInBounds_toArray, List.set_cons_zero, List.set_cons_succ]
      refine wpAnyH_ready (rs := [5]) (by kernel_rfl) (by simp) ?_
      refine AllReadyH.cons (by simp only [List.getElem?_toArray, List.getElem?_cons_succ, List.getElem?_cons_zero]; rfl) (fun K hK => ?_) AllReadyH.nil
      go_simp
      refine (rimul_any _ _ _ _ _ _ 40 40 _ (by exact ⟨l_a, H_a.out, s_a, rfl⟩) (by exact ⟨l_b, H_b.out, s_b, rfl⟩) (by omega) (by omega)).mono ?_
      rintro e w5 ⟨b_y, A_y, n_y, c_y, rfl, h_y, hb⟩
      replace HT := Lib.hid (HT.out.below hb)
      replace H_a := Lib.hid (H_a.out.below hb)
      replace H_b := Lib.hid (H_b.out.below hb)
      replace Z_q := Lib.hid (Z_q.out.below hb)
      replace Z_r := Lib.hid (Z_r.out.below hb)
      replace Z_s := Lib.hid (Z_s.out.below hb)
      replace Z_t := Lib.hid (Z_t.out.below hb)
      replace Z_x := Lib.hid (Z_x.out.below hb)
      replace B_a := Lib.hid (B_a.out.below hb)
      replace B_b := Lib.hid (B_b.out.below hb)
      replace B_q := Lib.hid (B_q.out.below hb)
      replace B_r := Lib.hid (B_r.out.below hb)
      replace B_s := Lib.hid (B_s.out.below hb)
      replace B_t := Lib.hid (B_t.out.below hb)
      replace hB := below_next hB hb
      clear hb hHeld
      have Z_y := Lib.hid h_y
      clear h_y
      go_wp2_with fail
      refine hK.out _ _ (by exact ⟨B_a.out.cell0, B_a.out.cell1, B_b.out.cell0, B_b.out.cell1, B_q.out.cell0, B_q.out.cell1, B_r.out.cell0, B_r.out.cell1, B_s.out.cell0, B_s.out.cell1, B_t.out.cell0, B_t.out.cell1⟩) (fun hHeld => ?_)
      clear hK K
      try simp only [Act.put, List.setIfInBounds_toArray, List.set_cons_zero, List.set_cons_succ]
      refine wpAnyH_ready (rs := [6]) (by kernel_rfl) (by simp) ?_
      refine AllReadyH.cons (by simp only [List.getElem?_toArray, List.getElem?_cons_succ, List.getElem?_cons_zero]; rfl) (fun K hK => ?_) AllReadyH.nil
      go_simp
      refine (zsame_eq (by exact Z_x.out) (by exact Z_y.out) rfl).mono ?_
      rintro e w6 ⟨rfl, hb⟩
      replace HT := Lib.hid (HT.out.below hb)
      replace H_a := Lib.hid (H_a.out.below hb)
      replace H_b := Lib.hid (H_b.out.below hb)
      replace Z_q := Lib.hid (Z_q.out.below hb)
      replace Z_r := Lib.hid (Z_r.out.below hb)
      replace Z_s := Lib.hid (Z_s.out.below hb)
      replace Z_t := Lib.hid (Z_t.out.below hb)
      replace Z_x := Lib.hid (Z_x.out.below hb)
      replace Z_y := Lib.hid (Z_y.out.below hb)
      replace B_a := Lib.hid (B_a.out.below hb)
      replace B_b := Lib.hid (B_b.out.below hb)
      replace B_q := Lib.hid (B_q.out.below hb)
      replace B_r := Lib.hid (B_r.out.below hb)
      replace B_s := Lib.hid (B_s.out.below hb)
      replace B_t := Lib.hid (B_t.out.below hb)
      replace hB := below_next hB hb
      clear hb hHeld
      clear Z_x
      clear Z_y
      go_wp2_with fail
      refine hK.out _ _ (by exact ⟨B_a.out.cell0, B_a.out.cell1, B_b.out.cell0, B_b.out.cell1, B_q.out.cell0, B_q.out.cell1, B_r.out.cell0, B_r.out.cell1, B_s.out.cell0, B_s.out.cell1, B_t.out.cell0, B_t.out.cell1⟩) (fun hHeld => ?_)
      clear hK K
      try simp only [Act.put, List.setIfInBounds_toArray, List.set_cons_zero, List.set_cons_succ]
      refine wpAnyH_take2 7 (v := ?_) (fun _ _ _ _ _ h => h) (by simp only [List.getElem?_toArray, List.getElem?_cons_succ, List.getElem?_cons_zero]; rfl) (by kernel_rfl) (by kernel_rfl) (by kernel_rfl) (by rfl) ?_ hHeld ?_
      rotate_left
      · (intro w hSw; (try dsimp only at hSw); go_simp; (try with_reducible rfl))
      try simp only [Act.put, List.setIfInBounds_toArray, List.set_cons_zero, List.set_cons_succ]
      refine wpAnyH_take2 8 (v := ?_) (fun _ _ _ _ _ h => h) (by simp only [List.getElem?_toArray, List.getElem?_cons_succ, List.getElem?_cons_zero]; rfl) (by kernel_rfl) (by kernel_rfl) (by kernel_rfl) (by rfl) ?_ hHeld ?_
      rotate_left
      · (intro w hSw; (try dsimp only at hSw); go_simp; (try with_reducible rfl))
      try simp only [Act.put, List.setIfInBounds_toArray, List.set_cons_zero, List.set_cons_succ]
      refine wpAnyH_take2 9 (v := ?_) (fun _ _ _ _ _ h => h) (by simp only [List.getElem?_toArray, List.getElem?_cons_succ, List.getElem?_cons_zero]; rfl) (by kernel_rfl) (by kernel_rfl) (by kernel_rfl) (by rfl) ?_ hHeld ?_
      rotate_left
      · (intro w hSw; (try dsimp only at hSw); go_simp; (try with_reducible rfl))
      try simp only [Act.put, List.setIfInBounds_toArray, List.set_cons_zero, List.set_cons_succ]
      refine wpAnyH_ready (rs := [10]) (by kernel_rfl) (by simp) ?_
      refine AllReadyH.cons (by simp only [List.getElem?_toArray, List.getElem?_cons_succ, List.getElem?_cons_zero]; rfl) (fun K hK => ?_) AllReadyH.nil
      go_simp
      refine (zsame_eq (by exact Z_q.out) (by exact Z_s.out) rfl).mono ?_
      rintro e w7 ⟨rfl, hb⟩
      replace HT := Lib.hid (HT.out.below hb)
      replace H_a := Lib.hid (H_a.out.below hb)
      replace H_b := Lib.hid (H_b.out.below hb)
      replace Z_q := Lib.hid (Z_q.out.below hb)
      replace Z_r := Lib.hid (Z_r.out.below hb)
      replace Z_s := Lib.hid (Z_s.out.below hb)
      replace Z_t := Lib.hid (Z_t.out.below hb)
      replace B_a := Lib.hid (B_a.out.below hb)
      replace B_b := Lib.hid (B_b.out.below hb)
      replace B_q := Lib.hid (B_q.out.below hb)
      replace B_r := Lib.hid (B_r.out.below hb)
      replace B_s := Lib.hid (B_s.out.below hb)
      replace B_t := Lib.hid (B_t.out.below hb)
      replace hB := below_next hB hb
      clear hb hHeld
      go_wp2_with fail
      refine hK.out _ _ (by exact ⟨B_a.out.cell0, B_a.out.cell1, B_b.out.cell0, B_b.out.cell1, B_q.out.cell0, B_q.out.cell1, B_r.out.cell0, B_r.out.cell1, B_s.out.cell0, B_s.out.cell1, B_t.out.cell0, B_t.out.cell1⟩) (fun hHeld => ?_)
      clear hK K
      try simp only [Act.put, List.setIfInBounds_toArray, List.set_cons_zero, List.set_cons_succ]
      refine wpAnyH_take2 11 (v := ?_) (fun _ _ _ _ _ h => h) (by simp only [List.getElem?_toArray, List.getElem?_cons_succ, List.getElem?_cons_zero]; rfl) (by kernel_rfl) (by kernel_rfl) (by kernel_rfl) (by rfl) ?_ hHeld ?_
      rotate_left
      · (intro w hSw; (try dsimp only at hSw); go_simp; (try with_reducible rfl))
      try simp only [Act.put, List.setIfInBounds_toArray, List.set_cons_zero, List.set_cons_succ]
      refine wpAnyH_take2 12 (v := ?_) (fun _ _ _ _ _ h => h) (by simp only [List.getElem?_toArray, List.getElem?_cons_succ, List.getElem?_cons_zero]; rfl) (by kernel_rfl) (by kernel_rfl) (by kernel_rfl) (by rfl) ?_ hHeld ?_
      rotate_left
      · (intro w hSw; (try dsimp only at hSw); go_simp; (try with_reducible rfl))
      try simp only [Act.put, List.setIfInBounds_toArray, List.set_cons_zero, List.set_cons_succ]
      refine wpAnyH_take2 13 (v := ?_) (fun _ _ _ _ _ h => h) (by simp only [List.getElem?_toArray, List.getElem?_cons_succ, List.getElem?_cons_zero]; rfl) (by kernel_rfl) (by kernel_rfl) (by kernel_rfl) (by rfl) ?_ hHeld ?_
      rotate_left
      · (intro w hSw; (try dsimp only at hSw); go_simp; (try with_reducible rfl))
      try simp only [Act.put, List.setIfInBounds_toArray, List.set_cons_zero, List.set_cons_succ]
      refine wpAnyH_take2 14 (v := ?_) (fun _ _ _ _ _ h => h) (by simp only [List.getElem?_toArray, List.getElem?_cons_succ, List.getElem?_cons_zero]; rfl) (by kernel_rfl) (by kernel_rfl) (by kernel_rfl) (by rfl) ?_ hHeld ?_
      rotate_left
      · (intro w hSw; (try dsimp only at hSw); go_simp; (try with_reducible rfl))
      try simp only [Act.put, List.setIfInBounds_toArray, List.set_cons_zero, List.set_cons_succ]
      refine wpAnyH_ready (rs := [15]) (by kernel_rfl) (by simp) ?_
      refine AllReadyH.cons (by simp only [List.getElem?_toArray, List.getElem?_cons_succ, List.getElem?_cons_zero]; rfl) (fun K hK => ?_) AllReadyH.nil
      go_simp
      refine (zsame_eq (by exact Z_r.out) (by exact Z_t.out) rfl).mono ?_
      rintro e w8 ⟨rfl, hb⟩
      replace HT := Lib.hid (HT.out.below hb)
      replace H_a := Lib.hid (H_a.out.below hb)
      replace H_b := Lib.hid (H_b.out.below hb)
      replace Z_q := Lib.hid (Z_q.out.below hb)
      replace Z_r := Lib.hid (Z_r.out.below hb)
      replace Z_s := Lib.hid (Z_s.out.below hb)
      replace Z_t := Lib.hid (Z_t.out.below hb)
      replace B_a := Lib.hid (B_a.out.below hb)
      replace B_b := Lib.hid (B_b.out.below hb)
      replace B_q := Lib.hid (B_q.out.below hb)
      replace B_r := Lib.hid (B_r.out.below hb)
      replace B_s := Lib.hid (B_s.out.below hb)
      replace B_t := Lib.hid (B_t.out.below hb)
      replace hB := below_next hB hb
      clear hb hHeld
      go_wp2_with fail
      refine hK.out _ _ (by exact ⟨B_a.out.cell0, B_a.out.cell1, B_b.out.cell0, B_b.out.cell1, B_q.out.cell0, B_q.out.cell1, B_r.out.cell0, B_r.out.cell1, B_s.out.cell0, B_s.out.cell1, B_t.out.cell0, B_t.out.cell1⟩) (fun hHeld => ?_)
      clear hK K
      try simp only [Act.put, List.setIfInBounds_toArray, List.set_cons_zero, List.set_cons_succ]
      refine wpAnyH_take2 16 (v := ?_) (fun _ _ _ _ _ h => h) (by simp only [List.getElem?_toArray, List.getElem?_cons_succ, List.getElem?_cons_zero]; rfl) (by kernel_rfl) (by kernel_rfl) (by kernel_rfl) (by rfl) ?_ hHeld ?_
      rotate_left
      · (intro w hSw; (try dsimp only at hSw); go_simp; (try with_reducible rfl))
      try simp only [Act.put, List.setIfInBounds_toArray, List.set_cons_zero, List.set_cons_succ]
      refine wpAnyH_take2 17 (v := ?_) (fun _ _ _ _ _ h => h) (by simp only [List.getElem?_toArray, List.getElem?_cons_succ, List.getElem?_cons_zero]; rfl) (by kernel_rfl) (by kernel_rfl) (by kernel_rfl) (by rfl) ?_ hHeld ?_
      rotate_left
      · (intro w hSw; (try dsimp only at hSw); go_simp; (try with_reducible rfl))
      try simp only [Act.put, List.setIfInBounds_toArray, List.set_cons_zero, List.set_cons_succ]
      refine wpAnyH_take2 18 (v := ?_) (fun _ _ _ _ _ h => h) (by simp only [List.getElem?_toArray, List.getElem?_cons_succ, List.getElem?_cons_zero]; rfl) (by kernel_rfl) (by kernel_rfl) (by kernel_rfl) (by rfl) ?_ hHeld ?_
      rotate_left
      · (intro w hSw; (try dsimp only at hSw); go_simp; (try with_reducible rfl))
      try simp only [Act.put, List.setIfInBounds_toArray, List.set_cons_zero, List.set_cons_succ]
      refine wpAnyH_take2 19 (v := ?_) (fun _ _ _ _ _ h => h) (by simp only [List.getElem?_toArray, List.getElem?_cons_succ, List.getElem?_cons_zero]; rfl) (by kernel_rfl) (by kernel_rfl) (by kernel_rfl) (by rfl) ?_ hHeld ?_
      rotate_left
      · (intro w hSw; (try dsimp only at hSw); go_simp; (try with_reducible rfl))
      try simp only [Act.put, List.setIfInBounds_toArray, List.set_cons_zero, List.set_cons_succ]
      refine wpAnyH_take2 20 (v := ?_) (fun _ _ _ _ _ h => h) (by simp only [List.getElem?_toArray, List.getElem?_cons_succ, List.getElem?_cons_zero]; rfl) (by kernel_rfl) (by kernel_rfl) (by kernel_rfl) (by rfl) ?_ hHeld ?_
      rotate_left
      · (intro w hSw; (try dsimp only at hSw); go_simp; (try with_reducible rfl))
      try simp only [Act.put, List.setIfInBounds_toArray, List.set_cons_zero, List.set_cons_succ]
      refine wpAnyH_take2 21 (v := ?_) (fun _ _ _ _ _ h => h) (by simp only [List.getElem?_toArray, List.getElem?_cons_succ, List.getElem?_cons_zero]; rfl) (by kernel_rfl) (by kernel_rfl) (by kernel_rfl) (by rfl) ?_ hHeld ?_
      rotate_left
      · (intro w hSw; (try dsimp only at hSw); go_simp; (try with_reducible rfl))
      try simp only [Act.put, List.setIfInBounds_toArray, List.set_cons_zero, List.set_cons_succ]
      refine wpAnyH_take2 22 (v := ?_) (fun _ _ _ _ _ h => h) (by simp only [List.getElem?_toArray, List.getElem?_cons_succ, List.getElem?_cons_zero]; rfl) (by kernel_rfl) (by kernel_rfl) (by kernel_rfl) (by rfl) ?_ hHeld ?_
      rotate_left
      · (intro w hSw; (try dsimp only at hSw); go_simp; (try with_reducible rfl))
      try simp only [Act.put, List.setIfInBounds_toArray, List.set_cons_zero, List.set_cons_succ]
      refine wpAnyH_ready (rs := [23]) (by kernel_rfl) (by simp) ?_
      refine AllReadyH.cons (by simp only [List.getElem?_toArray, List.getElem?_cons_succ, List.getElem?_cons_zero]; rfl) (fun K hK => ?_) AllReadyH.nil
      go_simp
      refine (awake_any _ (by exact HT.out)).mono ?_
      rintro e w9 ⟨rfl, hb⟩
      replace HT := Lib.hid (HT.out.below hb)
      replace H_a := Lib.hid (H_a.out.below hb)
      replace H_b := Lib.hid (H_b.out.below hb)
      replace Z_q := Lib.hid (Z_q.out.below hb)
      replace Z_r := Lib.hid (Z_r.out.below hb)
      replace Z_s := Lib.hid (Z_s.out.below hb)
      replace Z_t := Lib.hid (Z_t.out.below hb)
      replace B_a := Lib.hid (B_a.out.below hb)
      replace B_b := Lib.hid (B_b.out.below hb)
      replace B_q := Lib.hid (B_q.out.below hb)
      replace B_r := Lib.hid (B_r.out.below hb)
      replace B_s := Lib.hid (B_s.out.below hb)
      replace B_t := Lib.hid (B_t.out.below hb)
      replace hB := below_next hB hb
      clear hb hHeld
      go_wp2_with fail
      refine hK.out _ _ (by exact ⟨B_a.out.cell0, B_a.out.cell1, B_b.out.cell0, B_b.out.cell1, B_q.out.cell0, B_q.out.cell1, B_r.out.cell0, B_r.out.cell1, B_s.out.cell0, B_s.out.cell1, B_t.out.cell0, B_t.out.cell1⟩) (fun hHeld => ?_)
      clear hK K
      try simp only [Act.put, List.setIfInBounds_toArray, List.set_cons_zero, List.set_cons_succ]
      refine wpAnyH_take2 24 (v := ?_) (fun _ _ _ _ _ h => h) (by simp only [List.getElem?_toArray, List.getElem?_cons_succ, List.getElem?_cons_zero]; rfl) (by kernel_rfl) (by kernel_rfl) (by kernel_rfl) (by rfl) ?_ hHeld ?_
      rotate_left
      · (intro w hSw; (try dsimp only at hSw); go_simp; (try with_reducible rfl))
      try simp only [Act.put, List.setIfInBounds_toArray, List.set_cons_zero, List.set_cons_succ]
      refine wpAnyH_take2 25 (v := ?_) (fun _ _ _ _ _ h => h) (by simp only [List.getElem?_toArray, List.getElem?_cons_succ, List.getElem?_cons_zero]; rfl) (by kernel_rfl) (by kernel_rfl) (by kernel_rfl) (by rfl) ?_ hHeld ?_
      rotate_left
      · (intro w hSw; (try dsimp only at hSw); go_simp; (try with_reducible rfl))
      try simp only [Act.put, List.setIfInBounds_toArray, List.set_cons_zero, List.set_cons_succ]
      refine wpAnyH_done (by kernel_rfl) (NoPanic.normal ?_) _
      clear hHeld
      have c_a0 := B_a.out.cell0
      have c_a1 := B_a.out.cell1
      have c_b0 := B_b.out.cell0
      have c_b1 := B_b.out.cell1
      have c_q0 := B_q.out.cell0
      have c_q1 := B_q.out.cell1
      have c_r0 := B_r.out.cell0
      have c_r1 := B_r.out.cell1
      have c_s0 := B_s.out.cell0
      have c_s1 := B_s.out.cell1
      have c_t0 := B_t.out.cell0
      have c_t1 := B_t.out.cell1
      go_wp2
      go_ret
      exact ⟨rfl, hB⟩
    · have HZ := Lib.hid hz
      clear hz
      go_enter Tryd.func3, Tryd.ntmps3
      go_wp2_with fail
      obtain ⟨W1, hW, NB, NC, HW, _⟩ := boxes2 w (.bool b_a) m_a (.bool b_b) m_b
      rw [hW]
      clear hW
      replace HT := Lib.hid (HT.out.below HW.out)
      replace H_a := Lib.hid (H_a.out.below HW.out)
      replace H_b := Lib.hid (H_b.out.below HW.out)
      have hB := HW.out
      have B_a := NB
      have B_b := NC
      clear NB NC HW
      refine (zshort2_is (v := true) (by exact H_a.out) (by exact H_b.out) (decide_eq_true ⟨s_a, s_b⟩)).mono ?_
      rintro e w1 ⟨rfl, hb⟩
      replace HT := Lib.hid (HT.out.below hb)
      replace H_a := Lib.hid (H_a.out.below hb)
      replace H_b := Lib.hid (H_b.out.below hb)
      replace B_a := Lib.hid (B_a.out.below hb)
      replace B_b := Lib.hid (B_b.out.below hb)
      replace hB := below_next hB hb
      clear hb
      have c_a0 := B_a.out.cell0
      have c_a1 := B_a.out.cell1
      have c_b0 := B_b.out.cell0
      have c_b1 := B_b.out.cell1
      go_wp2_with fail
      clear c_a0 c_a1 c_b0 c_b1
      refine (idivmod_any _ _ _ _ _ _ 40 40 _ (by exact ⟨l_a, H_a.out, s_a, rfl⟩) (by exact ⟨l_b, H_b.out, s_b, rfl⟩) (by omega) (by omega) HZ.out).mono ?_
      rintro e w2 ⟨b_q, A_q, n_q, c_q, b_r, A_r, n_r, c_r, rfl, h_q, h_r, hb⟩
      replace HT := Lib.hid (HT.out.below hb)
      replace H_a := Lib.hid (H_a.out.below hb)
      replace H_b := Lib.hid (H_b.out.below hb)
      replace B_a := Lib.hid (B_a.out.below hb)
      replace B_b := Lib.hid (B_b.out.below hb)
      replace hB := below_next hB hb
      clear hb
      have Z_q := Lib.hid h_q
      clear h_q
      have Z_r := Lib.hid h_r
      clear h_r
      have c_a0 := B_a.out.cell0
      have c_a1 := B_a.out.cell1
      have c_b0 := B_b.out.cell0
      have c_b1 := B_b.out.cell1
      go_upto_region 4 with fail
      clear c_a0 c_a1 c_b0 c_b1
      obtain ⟨W2, hW, NB, NC, HW, _⟩ := boxes2 w2 (.bool b_q) (.slice A_q n_q c_q) (.bool b_r) (.slice A_r n_r c_r)
      rw [hW]
      clear hW
      replace HT := Lib.hid (HT.out.below HW.out)
      replace H_a := Lib.hid (H_a.out.below HW.out)
      replace H_b := Lib.hid (H_b.out.below HW.out)
      replace Z_q := Lib.hid (Z_q.out.below HW.out)
      replace Z_r := Lib.hid (Z_r.out.below HW.out)
      replace B_a := Lib.hid (B_a.out.below HW.out)
      replace B_b := Lib.hid (B_b.out.below HW.out)
      replace hB := below_next hB HW.out
      have B_q := NB
      have B_r := NC
      clear NB NC HW
      have c_a0 := B_a.out.cell0
      have c_a1 := B_a.out.cell1
      have c_b0 := B_b.out.cell0
      have c_b1 := B_b.out.cell1
      have c_q0 := B_q.out.cell0
      have c_q1 := B_q.out.cell1
      have c_r0 := B_r.out.cell0
      have c_r1 := B_r.out.cell1
      go_wp2_with fail
      clear c_a0 c_a1 c_b0 c_b1 c_q0 c_q1 c_r0 c_r1
      refine (ridivmod_ne (k1 := 40) (k2 := 40) (by exact ⟨l_a, H_a.out, s_a, rfl⟩) (by exact ⟨l_b, H_b.out, s_b, rfl⟩) (by omega) (by omega) HZ.out).mono ?_
      rintro e w3 ⟨b_s, A_s, n_s, c_s, b_t, A_t, n_t, c_t, rfl, h_s, h_t, hb⟩
      replace HT := Lib.hid (HT.out.below hb)
      replace H_a := Lib.hid (H_a.out.below hb)
      replace H_b := Lib.hid (H_b.out.below hb)
      replace Z_q := Lib.hid (Z_q.out.below hb)
      replace Z_r := Lib.hid (Z_r.out.below hb)
      replace B_a := Lib.hid (B_a.out.below hb)
      replace B_b := Lib.hid (B_b.out.below hb)
      replace B_q := Lib.hid (B_q.out.below hb)
      replace B_r := Lib.hid (B_r.out.below hb)
      replace hB := below_next hB hb
      clear hb
      have Z_s := Lib.hid h_s
      clear h_s
      have Z_t := Lib.hid h_t
      clear h_t
      have c_a0 := B_a.out.cell0
      have c_a1 := B_a.out.cell1
      have c_b0 := B_b.out.cell0
      have c_b1 := B_b.out.cell1
      have c_q0 := B_q.out.cell0
      have c_q1 := B_q.out.cell1
      have c_r0 := B_r.out.cell0
      have c_r1 := B_r.out.cell1
      go_wp2
      clear c_a0 c_a1 c_b0 c_b1 c_q0 c_q1 c_r0 c_r1
      obtain ⟨W3, hW, NB, NC, HW, _⟩ := boxes2 w3 (.bool b_s) (.slice A_s n_s c_s) (.bool b_t) (.slice A_t n_t c_t)
      rw [hW]
      clear hW
      replace HT := Lib.hid (HT.out.below HW.out)
      replace H_a := Lib.hid (H_a.out.below HW.out)
      replace H_b := Lib.hid (H_b.out.below HW.out)
      replace Z_q := Lib.hid (Z_q.out.below HW.out)
      replace Z_r := Lib.hid (Z_r.out.below HW.out)
      replace Z_s := Lib.hid (Z_s.out.below HW.out)
      replace Z_t := Lib.hid (Z_t.out.below HW.out)
      replace B_a := Lib.hid (B_a.out.below HW.out)
      replace B_b := Lib.hid (B_b.out.below HW.out)
      replace B_q := Lib.hid (B_q.out.below HW.out)
      replace B_r := Lib.hid (B_r.out.below HW.out)
      replace hB := below_next hB HW.out
      have B_s := NB
      have B_t := NC
      clear NB NC HW
      refine wp_region_noPanic ?_
      refine wp_region_held_drew (S := (fun w' => w'.cell? ⟨w.heap.size, 0, none⟩ = some (.bool b_a) ∧ w'.cell? ⟨w.heap.size, 1, none⟩ = some m_a ∧ w'.cell? ⟨w.heap.size + 1, 0, none⟩ = some (.bool b_b) ∧ w'.cell? ⟨w.heap.size + 1, 1, none⟩ = some m_b ∧ w'.cell? ⟨w2.heap.size, 0, none⟩ = some (.bool b_q) ∧ w'.cell? ⟨w2.heap.size, 1, none⟩ = some (.slice A_q n_q c_q) ∧ w'.cell? ⟨w2.heap.size + 1, 0, none⟩ = some (.bool b_r) ∧ w'.cell? ⟨w2.heap.size + 1, 1, none⟩ = some (.slice A_r n_r c_r) ∧ w'.cell? ⟨w3.heap.size, 0, none⟩ = some (.bool b_s) ∧ w'.cell? ⟨w3.heap.size, 1, none⟩ = some (.slice A_s n_s c_s) ∧ w'.cell? ⟨w3.heap.size + 1, 0, none⟩ = some (.bool b_t) ∧ w'.cell? ⟨w3.heap.size + 1, 1, none⟩ = some (.slice A_t n_t c_t))) (by kernel_rfl) (by exact ⟨B_a.out.cell0, B_a.out.cell1, B_b.out.cell0, B_b.out.cell1, B_q.out.cell0, B_q.out.cell1, B_r.out.cell0, B_r.out.cell1, B_s.out.cell0, B_s.out.cell1, B_t.out.cell0, B_t.out.cell1⟩) (fun hHeld => ?_)
      have hb := belowDrew W3
      generalize W3.drew = V_4 at hb hHeld ⊢
      replace HT := Lib.hid (HT.out.below hb)
      replace H_a := Lib.hid (H_a.out.below hb)
      replace H_b := Lib.hid (H_b.out.below hb)
      replace Z_q := Lib.hid (Z_q.out.below hb)
      replace Z_r := Lib.hid (Z_r.out.below hb)
      replace Z_s := Lib.hid (Z_s.out.below hb)
      replace Z_t := Lib.hid (Z_t.out.below hb)
      replace B_a := Lib.hid (B_a.out.below hb)
      replace B_b := Lib.hid (B_b.out.below hb)
      replace B_q := Lib.hid (B_q.out.below hb)
      replace B_r := Lib.hid (B_r.out.below hb)
      replace B_s := Lib.hid (B_s.out.below hb)
      replace B_t := Lib.hid (B_t.out.below hb)
      replace hB := below_next hB hb
      clear hb
      refine wpAnyH_take2 0 (v := ?_) (fun _ _ _ _ _ h => h) (by simp only [List.getElem?_toArray, List.getElem?_cons_zero]; rfl) (by kernel_rfl) (by kernel_rfl) (by kernel_rfl) (by rfl) ?_ hHeld ?_
      rotate_left
      · (intro w hSw; (try dsimp only at hSw); go_simp; (try with_reducible rfl))
      try simp only [Act.put, List.setIfInBounds_toArray, List.set_cons_zero, List.set_cons_succ]
      refine wpAnyH_take2 1 (v := ?_) (fun _ _ _ _ _ h => h) (by simp only [List.getElem?_toArray, List.getElem?_cons_succ, List.getElem?_cons_zero]; rfl) (by kernel_rfl) (by kernel_rfl) (by kernel_rfl) (by rfl) ?_ hHeld ?_
      rotate_left
      · (intro w hSw; (try dsimp only at hSw); go_simp; (try with_reducible rfl))
      try simp only [Act.put, List.setIfInBounds_toArray, List.set_cons_zero, List.set_cons_succ]
      refine wpAnyH_take2 3 (v := ?_) (fun _ _ _ _ _ h => h) (by simp only [List.getElem?_toArray, List.getElem?_cons_succ, List.getElem?_cons_zero]; rfl) (by kernel_rfl) (by kernel_rfl) (by kernel_rfl) (by rfl) ?_ hHeld ?_
      rotate_left
      · (intro w hSw; (try dsimp only at hSw); go_simp; (try with_reducible rfl))
      try simp only [Act.put, List.setIfInBounds_toArray, List.set_cons_zero, List.set_cons_succ]
      refine wpAnyH_take2 4 (v := ?_) (fun _ _ _ _ _ h => h) (by simp only [List.getElem?_toArray, List.getElem?_cons_succ, List.getElem?_cons_zero]; rfl) (by kernel_rfl) (by kernel_rfl) (by kernel_rfl) (by rfl) ?_ hHeld ?_
      rotate_left
      · (intro w hSw; (try dsimp only at hSw); go_simp; (try with_reducible rfl))
      try simp only [Act.put, List.setIfInBounds_toArray, List.set_cons_zero, List.set_cons_succ]
      refine wpAnyH_ready (rs := [2]) (by kernel_rfl) (by simp) ?_
      refine AllReadyH.cons (by simp only [List.getElem?_toArray, List.getElem?_cons_succ, List.getElem?_cons_zero]; rfl) (fun K hK => ?_) AllReadyH.nil
      go_simp
      refine (imul_any _ _ _ _ _ _ 40 40 _ (by exact ⟨l_a, H_a.out, s_a, rfl⟩) (by exact ⟨l_b, H_b.out, s_b, rfl⟩) (by omega) (by omega)).mono ?_
      rintro e w4 ⟨b_x, A_x, n_x, c_x, rfl, h_x, hb⟩
      replace HT := Lib.hid (HT.out.below hb)
      replace H_a := Lib.hid (H_a.out.below hb)
      replace H_b := Lib.hid (H_b.out.below hb)
      replace Z_q := Lib.hid (Z_q.out.below hb)
      replace Z_r := Lib.hid (Z_r.out.below hb)
      replace Z_s := Lib.hid (Z_s.out.below hb)
      replace Z_t := Lib.hid (Z_t.out.below hb)
      replace B_a := Lib.hid (B_a.out.below hb)
      replace B_b := Lib.hid (B_b.out.below hb)
      replace B_q := Lib.hid (B_q.out.below hb)
      replace B_r := Lib.hid (B_r.out.below hb)
      replace B_s := Lib.hid (B_s.out.below hb)
      replace B_t := Lib.hid (B_t.out.below hb)
      replace hB := below_next hB hb
      clear hb hHeld
      have Z_x := Lib.hid h_x
      clear h_x
      go_wp2_with fail
      refine hK.out _ _ (by exact ⟨B_a.out.cell0, B_a.out.cell1, B_b.out.cell0, B_b.out.cell1, B_q.out.cell0, B_q.out.cell1, B_r.out.cell0, B_r.out.cell1, B_s.out.cell0, B_s.out.cell1, B_t.out.cell0, B_t.out.cell1⟩) (fun hHeld => ?_)
      clear hK K
      try simp only [Act.put, List.setIfInBounds_toArray, List.set_cons_zero, List.set_cons_succ]
      refine wpAnyH_ready (rs := [5]) (by kernel_rfl) (by simp) ?_
      refine AllReadyH.cons (by simp only [List.getElem?_toArray, List.getElem?_cons_succ, List.getElem?_cons_zero]; rfl) (fun K hK => ?_) AllReadyH.nil
      go_simp
      refine (rimul_any _ _ _ _ _ _ 40 40 _ (by exact ⟨l_a, H_a.out, s_a, rfl⟩) (by exact ⟨l_b, H_b.out, s_b, rfl⟩) (by omega) (by omega)).mono ?_
      rintro e w5 ⟨b_y, A_y, n_y, c_y, rfl, h_y, hb⟩
      replace HT := Lib.hid (HT.out.below hb)
      replace H_a := Lib.hid (H_a.out.below hb)
      replace H_b := Lib.hid (H_b.out.below hb)
      replace Z_q := Lib.hid (Z_q.out.below hb)
      replace Z_r := Lib.hid (Z_r.out.below hb)
      replace Z_s := Lib.hid (Z_s.out.below hb)
      replace Z_t := Lib.hid (Z_t.out.below hb)
      replace Z_x := Lib.hid (Z_x.out.below hb)
      replace B_a := Lib.hid (B_a.out.below hb)
      replace B_b := Lib.hid (B_b.out.below hb)
      replace B_q := Lib.hid (B_q.out.below hb)
      replace B_r := Lib.hid (B_r.out.below hb)
      replace B_s := Lib.hid (B_s.out.below hb)
      replace B_t := Lib.hid (B_t.out.below hb)
      replace hB := below_next hB hb
      clear hb hHeld
      have Z_y := Lib.hid h_y
      clear h_y
      go_wp2_with fail
      refine hK.out _ _ (by exact ⟨B_a.out.cell0, B_a.out.cell1, B_b.out.cell0, B_b.out.cell1, B_q.out.cell0, B_q.out.cell1, B_r.out.cell0, B_r.out.cell1, B_s.out.cell0, B_s.out.cell1, B_t.out.cell0, B_t.out.cell1⟩) (fun hHeld => ?_)
      clear hK K
      try simp only [Act.put, List.setIfInBounds_toArray, List.set_cons_zero, List.set_cons_succ]
      refine wpAnyH_ready (rs := [6]) (by kernel_rfl) (by simp) ?_
      refine AllReadyH.cons (by simp only [List.getElem?_toArray, List.getElem?_cons_succ, List.getElem?_cons_zero]; rfl) (fun K hK => ?_) AllReadyH.nil
      go_simp
      refine (zsame_eq (by exact Z_x.out) (by exact Z_y.out) rfl).mono ?_
      rintro e w6 ⟨rfl, hb⟩
      replace HT := Lib.hid (HT.out.below hb)
      replace H_a := Lib.hid (H_a.out.below hb)
      replace H_b := Lib.hid (H_b.out.below hb)
      replace Z_q := Lib.hid (Z_q.out.below hb)
      replace Z_r := Lib.hid (Z_r.out.below hb)
      replace Z_s := Lib.hid (Z_s.out.below hb)
      replace Z_t := Lib.hid (Z_t.out.below hb)
      replace Z_x := Lib.hid (Z_x.out.below hb)
      replace Z_y := Lib.hid (Z_y.out.below hb)
      replace B_a := Lib.hid (B_a.out.below hb)
      replace B_b := Lib.hid (B_b.out.below hb)
      replace B_q := Lib.hid (B_q.out.below hb)
      replace B_r := Lib.hid (B_r.out.below hb)
      replace B_s := Lib.hid (B_s.out.below hb)
      replace B_t := Lib.hid (B_t.out.below hb)
      replace hB := below_next hB hb
      clear hb hHeld
      clear Z_x
      clear Z_y
      go_wp2_with fail
      refine hK.out _ _ (by exact ⟨B_a.out.cell0, B_a.out.cell1, B_b.out.cell0, B_b.out.cell1, B_q.out.cell0, B_q.out.cell1, B_r.out.cell0, B_r.out.cell1, B_s.out.cell0, B_s.out.cell1, B_t.out.cell0, B_t.out.cell1⟩) (fun hHeld => ?_)
      clear hK K
      try simp only [Act.put, List.setIfInBounds_toArray, List.set_cons_zero, List.set_cons_succ]
      refine wpAnyH_take2 7 (v := ?_) (fun _ _ _ _ _ h => h) (by simp only [List.getElem?_toArray, List.getElem?_cons_succ, List.getElem?_cons_zero]; rfl) (by kernel_rfl) (by kernel_rfl) (by kernel_rfl) (by rfl) ?_ hHeld ?_
      rotate_left
      · (intro w hSw; (try dsimp only at hSw); go_simp; (try with_reducible rfl))
      try simp only [Act.put, List.setIfInBounds_toArray, List.set_cons_zero, List.set_cons_succ]
      refine wpAnyH_take2 8 (v := ?_) (fun _ _ _ _ _ h => h) (by simp only [List.getElem?_toArray, List.getElem?_cons_succ, List.getElem?_cons_zero]; rfl) (by kernel_rfl) (by kernel_rfl) (by kernel_rfl) (by rfl) ?_ hHeld ?_
      rotate_left
      · (intro w hSw; (try dsimp only at hSw); go_simp; (try with_reducible rfl))
      try simp only [Act.put, List.setIfInBounds_toArray, List.set_cons_zero, List.set_cons_succ]
      refine wpAnyH_take2 9 (v := ?_) (fun _ _ _ _ _ h => h) (by simp only [List.getElem?_toArray, List.getElem?_cons_succ, List.getElem?_cons_zero]; rfl) (by kernel_rfl) (by kernel_rfl) (by kernel_rfl) (by rfl) ?_ hHeld ?_
      rotate_left
      · (intro w hSw; (try dsimp only at hSw); go_simp; (try with_reducible rfl))
      try simp only [Act.put, List.setIfInBounds_toArray, List.set_cons_zero, List.set_cons_succ]
      refine wpAnyH_ready (rs := [10]) (by kernel_rfl) (by simp) ?_
      refine AllReadyH.cons (by simp only [List.getElem?_toArray, List.getElem?_cons_succ, List.getElem?_cons_zero]; rfl) (fun K hK => ?_) AllReadyH.nil
      go_simp
      refine (zsame_eq (by exact Z_q.out) (by exact Z_s.out) rfl).mono ?_
      rintro e w7 ⟨rfl, hb⟩
      replace HT := Lib.hid (HT.out.below hb)
      replace H_a := Lib.hid (H_a.out.below hb)
      replace H_b := Lib.hid (H_b.out.below hb)
      replace Z_q := Lib.hid (Z_q.out.below hb)
      replace Z_r := Lib.hid (Z_r.out.below hb)
      replace Z_s := Lib.hid (Z_s.out.below hb)
      replace Z_t := Lib.hid (Z_t.out.below hb)
      replace B_a := Lib.hid (B_a.out.below hb)
      replace B_b := Lib.hid (B_b.out.below hb)
      replace B_q := Lib.hid (B_q.out.below hb)
      replace B_r := Lib.hid (B_r.out.below hb)
      replace B_s := Lib.hid (B_s.out.below hb)
      replace B_t := Lib.hid (B_t.out.below hb)
      replace hB := below_next hB hb
      clear hb hHeld
      go_wp2_with fail
      refine hK.out _ _ (by exact ⟨B_a.out.cell0, B_a.out.cell1, B_b.out.cell0, B_b.out.cell1, B_q.out.cell0, B_q.out.cell1, B_r.out.cell0, B_r.out.cell1, B_s.out.cell0, B_s.out.cell1, B_t.out.cell0, B_t.out.cell1⟩) (fun hHeld => ?_)
      clear hK K
      try simp only [Act.put, List.setIfInBounds_toArray, List.set_cons_zero, List.set_cons_succ]
      refine wpAnyH_take2 11 (v := ?_) (fun _ _ _ _ _ h => h) (by simp only [List.getElem?_toArray, List.getElem?_cons_succ, List.getElem?_cons_zero]; rfl) (by kernel_rfl) (by kernel_rfl) (by kernel_rfl) (by rfl) ?_ hHeld ?_
      rotate_left
      · (intro w hSw; (try dsimp only at hSw); go_simp; (try with_reducible rfl))
      try simp only [Act.put, List.setIfInBounds_toArray, List.set_cons_zero, List.set_cons_succ]
      refine wpAnyH_take2 12 (v := ?_) (fun _ _ _ _ _ h => h) (by simp only [List.getElem?_toArray, List.getElem?_cons_succ, List.getElem?_cons_zero]; rfl) (by kernel_rfl) (by kernel_rfl) (by kernel_rfl) (by rfl) ?_ hHeld ?_
      rotate_left
      · (intro w hSw; (try dsimp only at hSw); go_simp; (try with_reducible rfl))
      try simp only [Act.put, List.setIfInBounds_toArray, List.set_cons_zero, List.set_cons_succ]
      refine wpAnyH_take2 13 (v := ?_) (fun _ _ _ _ _ h => h) (by simp only [List.getElem?_toArray, List.getElem?_cons_succ, List.getElem?_cons_zero]; rfl) (by kernel_rfl) (by kernel_rfl) (by kernel_rfl) (by rfl) ?_ hHeld ?_
      rotate_left
      · (intro w hSw; (try dsimp only at hSw); go_simp; (try with_reducible rfl))
      try simp only [Act.put, List.setIfInBounds_toArray, List.set_cons_zero, List.set_cons_succ]
      refine wpAnyH_take2 14 (v := ?_) (fun _ _ _ _ _ h => h) (by simp only [List.getElem?_toArray, List.getElem?_cons_succ, List.getElem?_cons_zero]; rfl) (by kernel_rfl) (by kernel_rfl) (by kernel_rfl) (by rfl) ?_ hHeld ?_
      rotate_left
      · (intro w hSw; (try dsimp only at hSw); go_simp; (try with_reducible rfl))
      try simp only [Act.put, List.setIfInBounds_toArray, List.set_cons_zero, List.set_cons_succ]
      refine wpAnyH_ready (rs := [15]) (by kernel_rfl) (by simp) ?_
      refine AllReadyH.cons (by simp only [List.getElem?_toArray, List.getElem?_cons_succ, List.getElem?_cons_zero]; rfl) (fun K hK => ?_) AllReadyH.nil
      go_simp
      refine (zsame_eq (by exact Z_r.out) (by exact Z_t.out) rfl).mono ?_
      rintro e w8 ⟨rfl, hb⟩
      replace HT := Lib.hid (HT.out.below hb)
      replace H_a := Lib.hid (H_a.out.below hb)
      replace H_b := Lib.hid (H_b.out.below hb)
      replace Z_q := Lib.hid (Z_q.out.below hb)
      replace Z_r := Lib.hid (Z_r.out.below hb)
      replace Z_s := Lib.hid (Z_s.out.below hb)
      replace Z_t := Lib.hid (Z_t.out.below hb)
      replace B_a := Lib.hid (B_a.out.below hb)
      replace B_b := Lib.hid (B_b.out.below hb)
      replace B_q := Lib.hid (B_q.out.below hb)
      replace B_r := Lib.hid (B_r.out.below hb)
      replace B_s := Lib.hid (B_s.out.below hb)
      replace B_t := Lib.hid (B_t.out.below hb)
      replace hB := below_next hB hb
      clear hb hHeld
      go_wp2_with fail
      refine hK.out _ _ (by exact ⟨B_a.out.cell0, B_a.out.cell1, B_b.out.cell0, B_b.out.cell1, B_q.out.cell0, B_q.out.cell1, B_r.out.cell0, B_r.out.cell1, B_s.out.cell0, B_s.out.cell1, B_t.out.cell0, B_t.out.cell1⟩) (fun hHeld => ?_)
      clear hK K
      try simp only [Act.put, List.setIfInBounds_toArray, List.set_cons_zero, List.set_cons_succ]
      refine wpAnyH_take2 16 (v := ?_) (fun _ _ _ _ _ h => h) (by simp only [List.getElem?_toArray, List.getElem?_cons_succ, List.getElem?_cons_zero]; rfl) (by kernel_rfl) (by kernel_rfl) (by kernel_rfl) (by rfl) ?_ hHeld ?_
      rotate_left
      · (intro w hSw; (try dsimp only at hSw); go_simp; (try with_reducible rfl))
      try simp only [Act.put, List.setIfInBounds_toArray, List.set_cons_zero, List.set_cons_succ]
      refine wpAnyH_take2 17 (v := ?_) (fun _ _ _ _ _ h => h) (by simp only [List.getElem?_toArray, List.getElem?_cons_succ, List.getElem?_cons_zero]; rfl) (by kernel_rfl) (by kernel_rfl) (by kernel_rfl) (by rfl) ?_ hHeld ?_
      rotate_left
      · (intro w hSw; (try dsimp only at hSw); go_simp; (try with_reducible rfl))
      try simp only [Act.put, List.setIfInBounds_toArray, List.set_cons_zero, List.set_cons_succ]
      refine wpAnyH_take2 18 (v := ?_) (fun _ _ _ _ _ h => h) (by simp only [List.getElem?_toArray, List.getElem?_cons_succ, List.getElem?_cons_zero]; rfl) (by kernel_rfl) (by kernel_rfl) (by kernel_rfl) (by rfl) ?_ hHeld ?_
      rotate_left
      · (intro w hSw; (try dsimp only at hSw); go_simp; (try with_reducible rfl))
      try simp only [Act.put, List.setIfInBounds_toArray, List.set_cons_zero, List.set_cons_succ]
      refine wpAnyH_take2 19 (v := ?_) (fun _ _ _ _ _ h => h) (by simp only [List.getElem?_toArray, List.getElem?_cons_succ, List.getElem?_cons_zero]; rfl) (by kernel_rfl) (by kernel_rfl) (by kernel_rfl) (by rfl) ?_ hHeld ?_
      rotate_left
      · (intro w hSw; (try dsimp only at hSw); go_simp; (try with_reducible rfl))
      try simp only [Act.put, List.setIfInBounds_toArray, List.set_cons_zero, List.set_cons_succ]
      refine wpAnyH_take2 20 (v := ?_) (fun _ _ _ _ _ h => h) (by simp only [List.getElem?_toArray, List.getElem?_cons_succ, List.getElem?_cons_zero]; rfl) (by kernel_rfl) (by kernel_rfl) (by kernel_rfl) (by rfl) ?_ hHeld ?_
      rotate_left
      · (intro w hSw; (try dsimp only at hSw); go_simp; (try with_reducible rfl))
      try simp only [Act.put, List.setIfInBounds_toArray, List.set_cons_zero, List.set_cons_succ]
      refine wpAnyH_take2 21 (v := ?_) (fun _ _ _ _ _ h => h) (by simp only [List.getElem?_toArray, List.getElem?_cons_succ, List.getElem?_cons_zero]; rfl) (by kernel_rfl) (by kernel_rfl) (by kernel_rfl) (by rfl) ?_ hHeld ?_
      rotate_left
      · (intro w hSw; (try dsimp only at hSw); go_simp; (try with_reducible rfl))
      try simp only [Act.put, List.setIfInBounds_toArray, List.set_cons_zero, List.set_cons_succ]
      refine wpAnyH_take2 22 (v := ?_) (fun _ _ _ _ _ h => h) (by simp only [List.getElem?_toArray, List.getElem?_cons_succ, List.getElem?_cons_zero]; rfl) (by kernel_rfl) (by kernel_rfl) (by kernel_rfl) (by rfl) ?_ hHeld ?_
      rotate_left
      · (intro w hSw; (try dsimp only at hSw); go_simp; (try with_reducible rfl))
      try simp only [Act.put, List.setIfInBounds_toArray, List.set_cons_zero, List.set_cons_succ]
      refine wpAnyH_ready (rs := [23]) (by kernel_rfl) (by simp) ?_
      refine AllReadyH.cons (by simp only [List.getElem?_toArray, List.getElem?_cons_succ, List.getElem?_cons_zero]; rfl) (fun K hK => ?_) AllReadyH.nil
      go_simp
      refine (awake_any _ (by exact HT.out)).mono ?_
      rintro e w9 ⟨rfl, hb⟩
      replace HT := Lib.hid (HT.out.below hb)
      replace H_a := Lib.hid (H_a.out.below hb)
      replace H_b := Lib.hid (H_b.out.below hb)
      replace Z_q := Lib.hid (Z_q.out.below hb)
      replace Z_r := Lib.hid (Z_r.out.below hb)
      replace Z_s := Lib.hid (Z_s.out.below hb)
      replace Z_t := Lib.hid (Z_t.out.below hb)
      replace B_a := Lib.hid (B_a.out.below hb)
      replace B_b := Lib.hid (B_b.out.below hb)
      replace B_q := Lib.hid (B_q.out.below hb)
      replace B_r := Lib.hid (B_r.out.below hb)
      replace B_s := Lib.hid (B_s.out.below hb)
      replace B_t := Lib.hid (B_t.out.below hb)
      replace hB := below_next hB hb
      clear hb hHeld
      go_wp2_with fail
      refine hK.out _ _ (by exact ⟨B_a.out.cell0, B_a.out.cell1, B_b.out.cell0, B_b.out.cell1, B_q.out.cell0, B_q.out.cell1, B_r.out.cell0, B_r.out.cell1, B_s.out.cell0, B_s.out.cell1, B_t.out.cell0, B_t.out.cell1⟩) (fun hHeld => ?_)
      clear hK K
      try simp only [Act.put, List.setIfInBounds_toArray, List.set_cons_zero, List.set_cons_succ]
      refine wpAnyH_take2 24 (v := ?_) (fun _ _ _ _ _ h => h) (by simp only [List.getElem?_toArray, List.getElem?_cons_succ, List.getElem?_cons_zero]; rfl) (by kernel_rfl) (by kernel_rfl) (by kernel_rfl) (by rfl) ?_ hHeld ?_
      rotate_left
      · (intro w hSw; (try dsimp only at hSw); go_simp; (try with_reducible rfl))
      try simp only [Act.put, List.setIfInBounds_toArray, List.set_cons_zero, List.set_cons_succ]
      refine wpAnyH_take2 25 (v := ?_) (fun _ _ _ _ _ h => h) (by simp only [List.getElem?_toArray, List.getElem?_cons_succ, List.getElem?_cons_zero]; rfl) (by kernel_rfl) (by kernel_rfl) (by kernel_rfl) (by rfl) ?_ hHeld ?_
      rotate_left
      · (intro w hSw; (try dsimp only at hSw); go_simp; (try with_reducible rfl))
      try simp only [Act.put, List.setIfInBounds_toArray, List.set_cons_zero, List.set_cons_succ]
      refine wpAnyH_done (by kernel_rfl) (NoPanic.normal ?_) _
      clear hHeld
      have c_a0 := B_a.out.cell0
      have c_a1 := B_a.out.cell1
      have c_b0 := B_b.out.cell0
      have c_b1 := B_b.out.cell1
      have c_q0 := B_q.out.cell0
      have c_q1 := B_q.out.cell1
      have c_r0 := B_r.out.cell0
      have c_r1 := B_r.out.cell1
      have c_s0 := B_s.out.cell0
      have c_s1 := B_s.out.cell1
      have c_t0 := B_t.out.cell0
      have c_t1 := B_t.out.cell1
      go_wp2
      go_ret
      exact ⟨rfl, hB⟩
  · skip
    go_enter Tryd.func3, Tryd.ntmps3
    go_wp2_with fail
    obtain ⟨W1, hW, NB, NC, HW, _⟩ := boxes2 w (.bool b_a) m_a (.bool b_b) m_b
    rw [hW]
    clear hW
    replace HT := Lib.hid (HT.out.below HW.out)
    replace H_a := Lib.hid (H_a.out.below HW.out)
    replace H_b := Lib.hid (H_b.out.below HW.out)
    have hB := HW.out
    have B_a := NB
    have B_b := NC
    clear NB NC HW
    refine (zshort2_is (v := false) (by exact H_a.out) (by exact H_b.out) (decide_eq_false s_ab)).mono ?_
    rintro e w1 ⟨rfl, hb⟩
    replace HT := Lib.hid (HT.out.below hb)
    replace H_a := Lib.hid (H_a.out.below hb)
    replace H_b := Lib.hid (H_b.out.below hb)
    replace B_a := Lib.hid (B_a.out.below hb)
    replace B_b := Lib.hid (B_b.out.below hb)
    replace hB := below_next hB hb
    clear hb
    have c_a0 := B_a.out.cell0
    have c_a1 := B_a.out.cell1
    have c_b0 := B_b.out.cell0
    have c_b1 := B_b.out.cell1
    go_wp2_with fail
    clear c_a0 c_a1 c_b0 c_b1
    refine (awake_any _ (by exact HT.out)).mono ?_
    rintro e w2 ⟨rfl, hb⟩
    replace HT := Lib.hid (HT.out.below hb)
    replace H_a := Lib.hid (H_a.out.below hb)
    replace H_b := Lib.hid (H_b.out.below hb)
    replace B_a := Lib.hid (B_a.out.below hb)
    replace B_b := Lib.hid (B_b.out.below hb)
    replace hB := below_next hB hb
    clear hb
    have c_a0 := B_a.out.cell0
    have c_a1 := B_a.out.cell1
    have c_b0 := B_b.out.cell0
    have c_b1 := B_b.out.cell1
    go_wp2
    go_ret
    exact ⟨rfl, hB⟩
end Go.Proofs.YtcdfhiocglibfaaDoor
