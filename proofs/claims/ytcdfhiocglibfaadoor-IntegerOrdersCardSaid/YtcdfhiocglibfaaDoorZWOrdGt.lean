/- The law IntegerOrders: its walk. -/
import Derived.Test.YtcdfhiocglibfaaDoorAwake
import Derived.Test.YtcdfhiocglibfaaDoorZBase
import Derived.Test.YtcdfhiocglibfaaDoorTwo
namespace Go.Proofs.YtcdfhiocglibfaaDoor
open Go.RowKit

set_option maxRecDepth 100000 in
set_option maxHeartbeats 8000000 in
theorem orders_gt (b_a : Bool) (m_a : Value) (l_a : List Nat) (b_b : Bool) (m_b : Value) (l_b : List Nat) (b_c : Bool) (m_c : Value) (l_c : List Nat) (w : World) (h_a : NatAt w m_a l_a) (h_b : NatAt w m_b l_b) (h_c : NatAt w m_c l_c) (htab : Tab w) (s_a : l_a.length ≤ 30) (s_b : l_b.length ≤ 30) (s_c : l_c.length ≤ 30) (hc : zval b_a l_a > zval b_b l_b) : Calls Tryd.prog 11 #[.agg #[.bool b_a, m_a], .agg #[.bool b_b, m_b], .agg #[.bool b_c, m_c]] w (GivesTrue w) := by
  have HT := Lib.hid htab
  clear htab
  have H_a := Lib.hid h_a
  clear h_a
  have H_b := Lib.hid h_b
  clear h_b
  have H_c := Lib.hid h_c
  clear h_c
  have S_a := Lib.hid (H_a.out.zsz b_a s_a)
  have S_b := Lib.hid (H_b.out.zsz b_b s_b)
  have S_c := Lib.hid (H_c.out.zsz b_c s_c)
  have HC := Lib.hid hc
  clear hc
  go_enter Tryd.func11, Tryd.ntmps11
  go_wp2_with fail
  obtain ⟨W1, hW, NB, NC, ND, HW, _⟩ := boxes3 w (.bool b_a) m_a (.bool b_b) m_b (.bool b_c) m_c
  rw [hW]
  clear hW
  replace HT := Lib.hid (HT.out.below HW.out)
  replace H_a := Lib.hid (H_a.out.below HW.out)
  replace H_b := Lib.hid (H_b.out.below HW.out)
  replace H_c := Lib.hid (H_c.out.below HW.out)
  have hB := HW.out
  have B_a := NB
  have B_b := NC
  have B_c := ND
  clear NB NC ND HW
  refine (zshort_yes (k := 30) (by exact H_a.out) s_a).mono ?_
  rintro e w1 ⟨rfl, hb⟩
  replace HT := Lib.hid (HT.out.below hb)
  replace H_a := Lib.hid (H_a.out.below hb)
  replace H_b := Lib.hid (H_b.out.below hb)
  replace H_c := Lib.hid (H_c.out.below hb)
  replace B_a := Lib.hid (B_a.out.below hb)
  replace B_b := Lib.hid (B_b.out.below hb)
  replace B_c := Lib.hid (B_c.out.below hb)
  replace hB := below_next hB hb
  clear hb
  have c_a0 := B_a.out.cell0
  have c_a1 := B_a.out.cell1
  have c_b0 := B_b.out.cell0
  have c_b1 := B_b.out.cell1
  have c_c0 := B_c.out.cell0
  have c_c1 := B_c.out.cell1
  go_wp2_with fail
  clear c_a0 c_a1 c_b0 c_b1 c_c0 c_c1
  refine (zshort_yes (k := 30) (by exact H_b.out) s_b).mono ?_
  rintro e w2 ⟨rfl, hb⟩
  replace HT := Lib.hid (HT.out.below hb)
  replace H_a := Lib.hid (H_a.out.below hb)
  replace H_b := Lib.hid (H_b.out.below hb)
  replace H_c := Lib.hid (H_c.out.below hb)
  replace B_a := Lib.hid (B_a.out.below hb)
  replace B_b := Lib.hid (B_b.out.below hb)
  replace B_c := Lib.hid (B_c.out.below hb)
  replace hB := below_next hB hb
  clear hb
  have c_a0 := B_a.out.cell0
  have c_a1 := B_a.out.cell1
  have c_b0 := B_b.out.cell0
  have c_b1 := B_b.out.cell1
  have c_c0 := B_c.out.cell0
  have c_c1 := B_c.out.cell1
  go_wp2_with fail
  clear c_a0 c_a1 c_b0 c_b1 c_c0 c_c1
  refine (zshort_yes (k := 30) (by exact H_c.out) s_c).mono ?_
  rintro e w3 ⟨rfl, hb⟩
  replace HT := Lib.hid (HT.out.below hb)
  replace H_a := Lib.hid (H_a.out.below hb)
  replace H_b := Lib.hid (H_b.out.below hb)
  replace H_c := Lib.hid (H_c.out.below hb)
  replace B_a := Lib.hid (B_a.out.below hb)
  replace B_b := Lib.hid (B_b.out.below hb)
  replace B_c := Lib.hid (B_c.out.below hb)
  replace hB := below_next hB hb
  clear hb
  have c_a0 := B_a.out.cell0
  have c_a1 := B_a.out.cell1
  have c_b0 := B_b.out.cell0
  have c_b1 := B_b.out.cell1
  have c_c0 := B_c.out.cell0
  have c_c1 := B_c.out.cell1
  go_wp2_with fail
  clear c_a0 c_a1 c_b0 c_b1 c_c0 c_c1
  refine (icmp_is (k1 := 30) (k2 := 30) (v := 1) (by exact ⟨l_a, H_a.out, s_a, rfl⟩) (by exact ⟨l_b, H_b.out, s_b, rfl⟩) (by omega) (by omega) (by have := HC.out; exact zord_gt (by omega))).mono ?_
  rintro e w4 ⟨rfl, hb⟩
  replace HT := Lib.hid (HT.out.below hb)
  replace H_a := Lib.hid (H_a.out.below hb)
  replace H_b := Lib.hid (H_b.out.below hb)
  replace H_c := Lib.hid (H_c.out.below hb)
  replace B_a := Lib.hid (B_a.out.below hb)
  replace B_b := Lib.hid (B_b.out.below hb)
  replace B_c := Lib.hid (B_c.out.below hb)
  replace hB := below_next hB hb
  clear hb
  have c_a0 := B_a.out.cell0
  have c_a1 := B_a.out.cell1
  have c_b0 := B_b.out.cell0
  have c_b1 := B_b.out.cell1
  have c_c0 := B_c.out.cell0
  have c_c1 := B_c.out.cell1
  go_wp2
  clear c_a0 c_a1 c_b0 c_b1 c_c0 c_c1
  have ew1 : IntKind.i64.wrap (-1) = -1 := by rw [IntKind.wrap_i64]; rfl
  have ew2 : IntKind.i64.wrap 1 = 1 := by rw [IntKind.wrap_i64]; rfl
  have ew3 : IntKind.i64.wrap 0 = 0 := by rw [IntKind.wrap_i64]; rfl
  refine wp_region_noPanic ?_
  refine wp_region_held_drew (S := (fun w' => w'.cell? ⟨w.heap.size, 0, none⟩ = some (.bool b_a) ∧ w'.cell? ⟨w.heap.size, 1, none⟩ = some m_a ∧ w'.cell? ⟨w.heap.size + 1, 0, none⟩ = some (.bool b_b) ∧ w'.cell? ⟨w.heap.size + 1, 1, none⟩ = some m_b ∧ w'.cell? ⟨w.heap.size + 1 + 1, 0, none⟩ = some (.bool b_c) ∧ w'.cell? ⟨w.heap.size + 1 + 1, 1, none⟩ = some m_c)) (by kernel_rfl) (by exact ⟨B_a.out.cell0, B_a.out.cell1, B_b.out.cell0, B_b.out.cell1, B_c.out.cell0, B_c.out.cell1⟩) (fun hHeld => ?_)
  have hb := belowDrew w4
  generalize w4.drew = V_2 at hb hHeld ⊢
  replace HT := Lib.hid (HT.out.below hb)
  replace H_a := Lib.hid (H_a.out.below hb)
  replace H_b := Lib.hid (H_b.out.below hb)
  replace H_c := Lib.hid (H_c.out.below hb)
  replace B_a := Lib.hid (B_a.out.below hb)
  replace B_b := Lib.hid (B_b.out.below hb)
  replace B_c := Lib.hid (B_c.out.below hb)
  replace hB := below_next hB hb
  clear hb
  refine wpAnyH_take2 0 (v := ?_) (fun _ _ _ _ _ h => h) (by simp only [List.getElem?_toArray, List.getElem?_cons_zero]; rfl) (by kernel_rfl) (by kernel_rfl) (by kernel_rfl) (by rfl) ?_ hHeld ?_
  rotate_left
  · (intro w hSw; (try dsimp only at hSw); go_simp; (try with_reducible rfl))
  try simp only [Act.put, List.setIfInBounds_toArray, List.set_cons_zero, List.set_cons_succ]
  refine wpAnyH_take2 1 (v := ?_) (fun _ _ _ _ _ h => h) (by simp only [List.getElem?_toArray, List.getElem?_cons_succ, List.getElem?_cons_zero]; rfl) (by kernel_rfl) (by kernel_rfl) (by kernel_rfl) (by rfl) ?_ hHeld ?_
  rotate_left
  · (intro w hSw; (try dsimp only at hSw); go_simp; (try with_reducible rfl))
  try simp only [Act.put, List.setIfInBounds_toArray, List.set_cons_zero, List.set_cons_succ]
  refine wpAnyH_take2 2 (v := ?_) (fun _ _ _ _ _ h => h) (by simp only [List.getElem?_toArray, List.getElem?_cons_succ, List.getElem?_cons_zero]; rfl) (by kernel_rfl) (by kernel_rfl) (by kernel_rfl) (by rfl) ?_ hHeld ?_
  rotate_left
  · (intro w hSw; (try dsimp only at hSw); go_simp; (try with_reducible rfl))
  try simp only [Act.put, List.setIfInBounds_toArray, List.set_cons_zero, List.set_cons_succ]
  refine wpAnyH_take2 3 (v := ?_) (fun _ _ _ _ _ h => h) (by simp only [List.getElem?_toArray, List.getElem?_cons_succ, List.getElem?_cons_zero]; rfl) (by kernel_rfl) (by kernel_rfl) (by kernel_rfl) (by rfl) ?_ hHeld ?_
  rotate_left
  · (intro w hSw; (try dsimp only at hSw); go_simp; (try with_reducible rfl))
  try simp only [Act.put, List.setIfInBounds_toArray, List.set_cons_zero, List.set_cons_succ]
  refine wpAnyH_take2 4 (v := ?_) (fun _ _ _ _ _ h => h) (by simp only [List.getElem?_toArray, List.getElem?_cons_succ, List.getElem?_cons_zero]; rfl) (by kernel_rfl) (by kernel_rfl) (by kernel_rfl) (by rfl) ?_ hHeld ?_
  rotate_left
  · (intro w hSw; (try dsimp only at hSw); go_simp; (try with_reducible rfl))
  try simp only [Act.put, List.setIfInBounds_toArray, List.set_cons_zero, List.set_cons_succ]
  refine wpAnyH_take2 5 (v := ?_) (fun _ _ _ _ _ h => h) (by simp only [List.getElem?_toArray, List.getElem?_cons_succ, List.getElem?_cons_zero]; rfl) (by kernel_rfl) (by kernel_rfl) (by kernel_rfl) (by rfl) ?_ hHeld ?_
  rotate_left
  · (intro w hSw; (try dsimp only at hSw); go_simp; (try with_reducible rfl))
  try simp only [Act.put, List.setIfInBounds_toArray, List.set_cons_zero, List.set_cons_succ]
  refine wpAnyH_take2 6 (v := ?_) (fun _ _ _ _ _ h => h) (by simp only [List.getElem?_toArray, List.getElem?_cons_succ, List.getElem?_cons_zero]; rfl) (by kernel_rfl) (by kernel_rfl) (by kernel_rfl) (by rfl) ?_ hHeld ?_
  rotate_left
  · (intro w hSw; (try dsimp only at hSw); go_simp; (try with_reducible rfl))
  try simp only [Act.put, List.setIfInBounds_toArray, List.set_cons_zero, List.set_cons_succ]
  refine wpAnyH_take2 7 (v := ?_) (fun _ _ _ _ _ h => h) (by simp only [List.getElem?_toArray, List.getElem?_cons_succ, List.getElem?_cons_zero]; rfl) (by kernel_rfl) (by kernel_rfl) (by kernel_rfl) (by rfl) ?_ hHeld ?_
  rotate_left
  · (intro w hSw; (try dsimp only at hSw); go_simp; (try with_reducible rfl))
  try simp only [Act.put, List.setIfInBounds_toArray, List.set_cons_zero, List.set_cons_succ]
  refine wpAnyH_take2 8 (v := ?_) (fun _ _ _ _ _ h => h) (by simp only [List.getElem?_toArray, List.getElem?_cons_succ, List.getElem?_cons_zero]; rfl) (by kernel_rfl) (by kernel_rfl) (by kernel_rfl) (by rfl) ?_ hHeld ?_
  rotate_left
  · (intro w hSw; (try dsimp only at hSw); go_simp; (try with_reducible rfl))
  try simp only [Act.put, List.setIfInBounds_toArray, List.set_cons_zero, List.set_cons_succ]
  refine wpAnyH_take2 10 (v := ?_) (fun _ _ _ _ _ h => h) (by simp only [List.getElem?_toArray, List.getElem?_cons_succ, List.getElem?_cons_zero]; rfl) (by kernel_rfl) (by kernel_rfl) (by kernel_rfl) (by rfl) ?_ hHeld ?_
  rotate_left
  · (intro w hSw; (try dsimp only at hSw); go_simp; (try with_reducible rfl))
  try simp only [Act.put, List.setIfInBounds_toArray, List.set_cons_zero, List.set_cons_succ]
  refine wpAnyH_take2 11 (v := ?_) (fun _ _ _ _ _ h => h) (by simp only [List.getElem?_toArray, List.getElem?_cons_succ, List.getElem?_cons_zero]; rfl) (by kernel_rfl) (by kernel_rfl) (by kernel_rfl) (by rfl) ?_ hHeld ?_
  rotate_left
  · (intro w hSw; (try dsimp only at hSw); go_simp; (try with_reducible rfl))
  try simp only [Act.put, List.setIfInBounds_toArray, List.set_cons_zero, List.set_cons_succ]
  refine wpAnyH_ready (rs := [9]) (by kernel_rfl) (by simp) ?_
  refine AllReadyH.cons (by simp only [List.getElem?_toArray, List.getElem?_cons_succ, List.getElem?_cons_zero]; rfl) (fun K hK => ?_) AllReadyH.nil
  go_simp
  refine (icmp_is (k1 := 30) (k2 := 30) (v := -1) (by exact ⟨l_b, H_b.out, s_b, rfl⟩) (by exact ⟨l_a, H_a.out, s_a, rfl⟩) (by omega) (by omega) (by have := HC.out; exact zord_lt (by omega))).mono ?_
  rintro e w5 ⟨rfl, hb⟩
  replace HT := Lib.hid (HT.out.below hb)
  replace H_a := Lib.hid (H_a.out.below hb)
  replace H_b := Lib.hid (H_b.out.below hb)
  replace H_c := Lib.hid (H_c.out.below hb)
  replace B_a := Lib.hid (B_a.out.below hb)
  replace B_b := Lib.hid (B_b.out.below hb)
  replace B_c := Lib.hid (B_c.out.below hb)
  replace hB := below_next hB hb
  clear hb hHeld
  go_wp2_with fail
  refine hK.out _ _ (by exact ⟨B_a.out.cell0, B_a.out.cell1, B_b.out.cell0, B_b.out.cell1, B_c.out.cell0, B_c.out.cell1⟩) (fun hHeld => ?_)
  clear hK K
  try simp only [Act.put, List.setIfInBounds_toArray, List.set_cons_zero, List.set_cons_succ]
  refine wpAnyH_take2 12 (v := ?_) (fun _ _ _ _ _ h => h) (by simp only [List.getElem?_toArray, List.getElem?_cons_succ, List.getElem?_cons_zero]; rfl) (by kernel_rfl) (by kernel_rfl) (by kernel_rfl) (by rfl) ?_ hHeld ?_
  rotate_left
  · (intro w hSw; (try dsimp only at hSw); go_simp; (try with_reducible rfl))
  try simp only [Act.put, List.setIfInBounds_toArray, List.set_cons_zero, List.set_cons_succ]
  refine wpAnyH_take2 13 (v := ?_) (fun _ _ _ _ _ h => h) (by simp only [List.getElem?_toArray, List.getElem?_cons_succ, List.getElem?_cons_zero]; rfl) (by kernel_rfl) (by kernel_rfl) (by kernel_rfl) (by rfl) ?_ hHeld ?_
  rotate_left
  · (intro w hSw; (try dsimp only at hSw); go_simp; (try with_reducible rfl))
  try simp only [Act.put, List.setIfInBounds_toArray, List.set_cons_zero, List.set_cons_succ]
  refine wpAnyH_take2 14 (v := ?_) (fun _ _ _ _ _ h => h) (by simp only [List.getElem?_toArray, List.getElem?_cons_succ, List.getElem?_cons_zero]; rfl) (by kernel_rfl) (by kernel_rfl) (by kernel_rfl) (by rfl) ?_ hHeld ?_
  rotate_left
  · (intro w hSw; (try dsimp only at hSw); go_simp; (try with_reducible rfl))
  try simp only [Act.put, List.setIfInBounds_toArray, List.set_cons_zero, List.set_cons_succ]
  refine wpAnyH_take2 15 (v := ?_) (fun _ _ _ _ _ h => h) (by simp only [List.getElem?_toArray, List.getElem?_cons_succ, List.getElem?_cons_zero]; rfl) (by kernel_rfl) (by kernel_rfl) (by kernel_rfl) (by rfl) ?_ hHeld ?_
  rotate_left
  · (intro w hSw; (try dsimp only at hSw); go_simp; (try with_reducible rfl))
  try simp only [Act.put, List.setIfInBounds_toArray, List.set_cons_zero, List.set_cons_succ]
  refine wpAnyH_take2 16 (v := ?_) (fun _ _ _ _ _ h => h) (by simp only [List.getElem?_toArray, List.getElem?_cons_succ, List.getElem?_cons_zero]; rfl) (by kernel_rfl) (by kernel_rfl) (by kernel_rfl) (by rfl) ?_ hHeld ?_
  rotate_left
  · (intro w hSw; (try dsimp only at hSw); go_simp; (try with_reducible rfl))
  try simp only [Act.put, List.setIfInBounds_toArray, List.set_cons_zero, List.set_cons_succ]
  refine wpAnyH_ready (rs := [17]) (by kernel_rfl) (by simp) ?_
  refine AllReadyH.cons (by simp only [List.getElem?_toArray, List.getElem?_cons_succ, List.getElem?_cons_zero]; rfl) (fun K hK => ?_) AllReadyH.nil
  go_simp
  refine (icmp_is (k1 := 30) (k2 := 30) (v := 0) (by exact ⟨l_a, H_a.out, s_a, rfl⟩) (by exact ⟨l_a, H_a.out, s_a, rfl⟩) (by omega) (by omega) (by exact zord_eq rfl)).mono ?_
  rintro e w6 ⟨rfl, hb⟩
  replace HT := Lib.hid (HT.out.below hb)
  replace H_a := Lib.hid (H_a.out.below hb)
  replace H_b := Lib.hid (H_b.out.below hb)
  replace H_c := Lib.hid (H_c.out.below hb)
  replace B_a := Lib.hid (B_a.out.below hb)
  replace B_b := Lib.hid (B_b.out.below hb)
  replace B_c := Lib.hid (B_c.out.below hb)
  replace hB := below_next hB hb
  clear hb hHeld
  go_wp2_with fail
  refine hK.out _ _ (by exact ⟨B_a.out.cell0, B_a.out.cell1, B_b.out.cell0, B_b.out.cell1, B_c.out.cell0, B_c.out.cell1⟩) (fun hHeld => ?_)
  clear hK K
  try simp only [Act.put, List.setIfInBounds_toArray, List.set_cons_zero, List.set_cons_succ]
  refine wpAnyH_take2 18 (v := ?_) (fun _ _ _ _ _ h => h) (by simp only [List.getElem?_toArray, List.getElem?_cons_succ, List.getElem?_cons_zero]; rfl) (by kernel_rfl) (by kernel_rfl) (by kernel_rfl) (by rfl) ?_ hHeld ?_
  rotate_left
  · (intro w hSw; (try dsimp only at hSw); go_simp; (try with_reducible rfl))
  try simp only [Act.put, List.setIfInBounds_toArray, List.set_cons_zero, List.set_cons_succ]
  refine wpAnyH_take2 19 (v := ?_) (fun _ _ _ _ _ h => h) (by simp only [List.getElem?_toArray, List.getElem?_cons_succ, List.getElem?_cons_zero]; rfl) (by kernel_rfl) (by kernel_rfl) (by kernel_rfl) (by rfl) ?_ hHeld ?_
  rotate_left
  · (intro w hSw; (try dsimp only at hSw); go_simp; (try with_reducible rfl))
  try simp only [Act.put, List.setIfInBounds_toArray, List.set_cons_zero, List.set_cons_succ]
  refine wpAnyH_take2 20 (v := ?_) (fun _ _ _ _ _ h => h) (by simp only [List.getElem?_toArray, List.getElem?_cons_succ, List.getElem?_cons_zero]; rfl) (by kernel_rfl) (by kernel_rfl) (by kernel_rfl) (by rfl) ?_ hHeld ?_
  rotate_left
  · (intro w hSw; (try dsimp only at hSw); go_simp; (try with_reducible rfl))
  try simp only [Act.put, List.setIfInBounds_toArray, List.set_cons_zero, List.set_cons_succ]
  refine wpAnyH_take2 21 (v := ?_) (fun _ _ _ _ _ h => h) (by simp only [List.getElem?_toArray, List.getElem?_cons_succ, List.getElem?_cons_zero]; rfl) (by kernel_rfl) (by kernel_rfl) (by kernel_rfl) (by rfl) ?_ hHeld ?_
  rotate_left
  · (intro w hSw; (try dsimp only at hSw); go_simp; (try with_reducible rfl))
  try simp only [Act.put, List.setIfInBounds_toArray, List.set_cons_zero, List.set_cons_succ]
  refine wpAnyH_take2 22 (v := ?_) (fun _ _ _ _ _ h => h) (by simp only [List.getElem?_toArray, List.getElem?_cons_succ, List.getElem?_cons_zero]; rfl) (by kernel_rfl) (by kernel_rfl) (by kernel_rfl) (by rfl) ?_ hHeld ?_
  rotate_left
  · (intro w hSw; (try dsimp only at hSw); go_simp; (try with_reducible rfl))
  try simp only [Act.put, List.setIfInBounds_toArray, List.set_cons_zero, List.set_cons_succ]
  refine wpAnyH_take2 26 (v := ?_) (fun _ _ _ _ _ h => h) (by simp only [List.getElem?_toArray, List.getElem?_cons_succ, List.getElem?_cons_zero]; rfl) (by kernel_rfl) (by kernel_rfl) (by kernel_rfl) (by rfl) ?_ hHeld ?_
  rotate_left
  · (intro w hSw; (try dsimp only at hSw); go_simp; (try with_reducible rfl))
  try simp only [Act.put, List.setIfInBounds_toArray, List.set_cons_zero, List.set_cons_succ]
  refine wpAnyH_ready (rs := [23]) (by kernel_rfl) (by simp) ?_
  refine AllReadyH.cons (by simp only [List.getElem?_toArray, List.getElem?_cons_succ, List.getElem?_cons_zero]; rfl) (fun K hK => ?_) AllReadyH.nil
  go_simp
  refine (isub_any _ _ _ _ _ _ 30 30 _ (by exact ⟨l_a, H_a.out, s_a, rfl⟩) (by exact ⟨l_b, H_b.out, s_b, rfl⟩) (by omega) (by omega)).mono ?_
  rintro e w7 ⟨b_d, A_d, n_d, c_d, rfl, h_d, hb⟩
  replace HT := Lib.hid (HT.out.below hb)
  replace H_a := Lib.hid (H_a.out.below hb)
  replace H_b := Lib.hid (H_b.out.below hb)
  replace H_c := Lib.hid (H_c.out.below hb)
  replace B_a := Lib.hid (B_a.out.below hb)
  replace B_b := Lib.hid (B_b.out.below hb)
  replace B_c := Lib.hid (B_c.out.below hb)
  replace hB := below_next hB hb
  clear hb hHeld
  have Z_d := Lib.hid h_d
  clear h_d
  go_wp2_with fail
  refine hK.out _ _ (by exact ⟨B_a.out.cell0, B_a.out.cell1, B_b.out.cell0, B_b.out.cell1, B_c.out.cell0, B_c.out.cell1⟩) (fun hHeld => ?_)
  clear hK K
  try simp only [Act.put, List.setIfInBounds_toArray, List.set_cons_zero, List.set_cons_succ]
  refine wpAnyH_ready (rs := [24]) (by kernel_rfl) (by simp) ?_
  refine AllReadyH.cons (by simp only [List.getElem?_toArray, List.getElem?_cons_succ, List.getElem?_cons_zero]; rfl) (fun K hK => ?_) AllReadyH.nil
  go_simp
  refine (iof_any 0 _ (by omega) (by omega)).mono ?_
  rintro e w8 ⟨b_o, A_o, n_o, c_o, rfl, h_o, hb⟩
  replace HT := Lib.hid (HT.out.below hb)
  replace H_a := Lib.hid (H_a.out.below hb)
  replace H_b := Lib.hid (H_b.out.below hb)
  replace H_c := Lib.hid (H_c.out.below hb)
  replace Z_d := Lib.hid (Z_d.out.below hb)
  replace B_a := Lib.hid (B_a.out.below hb)
  replace B_b := Lib.hid (B_b.out.below hb)
  replace B_c := Lib.hid (B_c.out.below hb)
  replace hB := below_next hB hb
  clear hb hHeld
  have Z_o := Lib.hid h_o
  clear h_o
  go_wp2_with fail
  refine hK.out _ _ (by exact ⟨B_a.out.cell0, B_a.out.cell1, B_b.out.cell0, B_b.out.cell1, B_c.out.cell0, B_c.out.cell1⟩) (fun hHeld => ?_)
  clear hK K
  try simp only [Act.put, List.setIfInBounds_toArray, List.set_cons_zero, List.set_cons_succ]
  refine wpAnyH_ready (rs := [25]) (by kernel_rfl) (by simp) ?_
  refine AllReadyH.cons (by simp only [List.getElem?_toArray, List.getElem?_cons_succ, List.getElem?_cons_zero]; rfl) (fun K hK => ?_) AllReadyH.nil
  go_simp
  refine (icmp_is (k1 := 31) (k2 := 2) (v := 1) (by exact Z_d.out.of (S_a.out.zsub S_b.out)) (by exact Z_o.out.two (by omega) (by omega)) (by omega) (by omega) (by have := HC.out; exact zord_gt (by omega))).mono ?_
  rintro e w9 ⟨rfl, hb⟩
  replace HT := Lib.hid (HT.out.below hb)
  replace H_a := Lib.hid (H_a.out.below hb)
  replace H_b := Lib.hid (H_b.out.below hb)
  replace H_c := Lib.hid (H_c.out.below hb)
  replace Z_d := Lib.hid (Z_d.out.below hb)
  replace Z_o := Lib.hid (Z_o.out.below hb)
  replace B_a := Lib.hid (B_a.out.below hb)
  replace B_b := Lib.hid (B_b.out.below hb)
  replace B_c := Lib.hid (B_c.out.below hb)
  replace hB := below_next hB hb
  clear hb hHeld
  go_wp2_with fail
  refine hK.out _ _ (by exact ⟨B_a.out.cell0, B_a.out.cell1, B_b.out.cell0, B_b.out.cell1, B_c.out.cell0, B_c.out.cell1⟩) (fun hHeld => ?_)
  clear hK K
  try simp only [Act.put, List.setIfInBounds_toArray, List.set_cons_zero, List.set_cons_succ]
  refine wpAnyH_take2 27 (v := ?_) (fun _ _ _ _ _ h => h) (by simp only [List.getElem?_toArray, List.getElem?_cons_succ, List.getElem?_cons_zero]; rfl) (by kernel_rfl) (by kernel_rfl) (by kernel_rfl) (by rfl) ?_ hHeld ?_
  rotate_left
  · (intro w hSw; (try dsimp only at hSw); go_simp; (try with_reducible rfl))
  try simp only [Act.put, List.setIfInBounds_toArray, List.set_cons_zero, List.set_cons_succ]
  refine wpAnyH_take2 28 (v := ?_) (fun _ _ _ _ _ h => h) (by simp only [List.getElem?_toArray, List.getElem?_cons_succ, List.getElem?_cons_zero]; rfl) (by kernel_rfl) (by kernel_rfl) (by kernel_rfl) (by rfl) ?_ hHeld ?_
  rotate_left
  · (intro w hSw; (try dsimp only at hSw); go_simp; (try with_reducible rfl))
  try simp only [Act.put, List.setIfInBounds_toArray, List.set_cons_zero, List.set_cons_succ]
  refine wpAnyH_take2 29 (v := ?_) (fun _ _ _ _ _ h => h) (by simp only [List.getElem?_toArray, List.getElem?_cons_succ, List.getElem?_cons_zero]; rfl) (by kernel_rfl) (by kernel_rfl) (by kernel_rfl) (by rfl) ?_ hHeld ?_
  rotate_left
  · (intro w hSw; (try dsimp only at hSw); go_simp; (try with_reducible rfl))
  try simp only [Act.put, List.setIfInBounds_toArray, List.set_cons_zero, List.set_cons_succ]
  refine wpAnyH_take2 30 (v := ?_) (fun _ _ _ _ _ h => h) (by simp only [List.getElem?_toArray, List.getElem?_cons_succ, List.getElem?_cons_zero]; rfl) (by kernel_rfl) (by kernel_rfl) (by kernel_rfl) (by rfl) ?_ hHeld ?_
  rotate_left
  · (intro w hSw; (try dsimp only at hSw); go_simp; (try with_reducible rfl))
  try simp only [Act.put, List.setIfInBounds_toArray, List.set_cons_zero, List.set_cons_succ]
  refine wpAnyH_take2 31 (v := ?_) (fun _ _ _ _ _ h => h) (by simp only [List.getElem?_toArray, List.getElem?_cons_succ, List.getElem?_cons_zero]; rfl) (by kernel_rfl) (by kernel_rfl) (by kernel_rfl) (by rfl) ?_ hHeld ?_
  rotate_left
  · (intro w hSw; (try dsimp only at hSw); go_simp; (try with_reducible rfl))
  try simp only [Act.put, List.setIfInBounds_toArray, List.set_cons_zero, List.set_cons_succ]
  refine wpAnyH_take2 33 (v := ?_) (fun _ _ _ _ _ h => h) (by simp only [List.getElem?_toArray, List.getElem?_cons_succ, List.getElem?_cons_zero]; rfl) (by kernel_rfl) (by kernel_rfl) (by kernel_rfl) (by rfl) ?_ hHeld ?_
  rotate_left
  · (intro w hSw; (try dsimp only at hSw); go_simp; (try with_reducible rfl))
  try simp only [Act.put, List.setIfInBounds_toArray, List.set_cons_zero, List.set_cons_succ]
  refine wpAnyH_take2 34 (v := ?_) (fun _ _ _ _ _ h => h) (by simp only [List.getElem?_toArray, List.getElem?_cons_succ, List.getElem?_cons_zero]; rfl) (by kernel_rfl) (by kernel_rfl) (by kernel_rfl) (by rfl) ?_ hHeld ?_
  rotate_left
  · (intro w hSw; (try dsimp only at hSw); go_simp; (try with_reducible rfl))
  try simp only [Act.put, List.setIfInBounds_toArray, List.set_cons_zero, List.set_cons_succ]
  refine wpAnyH_take2 37 (v := ?_) (fun _ _ _ _ _ h => h) (by simp only [List.getElem?_toArray, List.getElem?_cons_succ, List.getElem?_cons_zero]; rfl) (by kernel_rfl) (by kernel_rfl) (by kernel_rfl) (by rfl) ?_ hHeld ?_
  rotate_left
  · (intro w hSw; (try dsimp only at hSw); go_simp; (try with_reducible rfl))
  try simp only [Act.put, List.setIfInBounds_toArray, List.set_cons_zero, List.set_cons_succ]
  refine wpAnyH_ready (rs := [32]) (by kernel_rfl) (by simp) ?_
  refine AllReadyH.cons (by simp only [List.getElem?_toArray, List.getElem?_cons_succ, List.getElem?_cons_zero]; rfl) (fun K hK => ?_) AllReadyH.nil
  go_simp
  refine (iadd_any _ _ _ _ _ _ 30 30 _ (by exact ⟨l_a, H_a.out, s_a, rfl⟩) (by exact ⟨l_c, H_c.out, s_c, rfl⟩) (by omega) (by omega)).mono ?_
  rintro e w10 ⟨b_s, A_s, n_s, c_s, rfl, h_s, hb⟩
  replace HT := Lib.hid (HT.out.below hb)
  replace H_a := Lib.hid (H_a.out.below hb)
  replace H_b := Lib.hid (H_b.out.below hb)
  replace H_c := Lib.hid (H_c.out.below hb)
  replace Z_d := Lib.hid (Z_d.out.below hb)
  replace Z_o := Lib.hid (Z_o.out.below hb)
  replace B_a := Lib.hid (B_a.out.below hb)
  replace B_b := Lib.hid (B_b.out.below hb)
  replace B_c := Lib.hid (B_c.out.below hb)
  replace hB := below_next hB hb
  clear hb hHeld
  have Z_s := Lib.hid h_s
  clear h_s
  go_wp2_with fail
  refine hK.out _ _ (by exact ⟨B_a.out.cell0, B_a.out.cell1, B_b.out.cell0, B_b.out.cell1, B_c.out.cell0, B_c.out.cell1⟩) (fun hHeld => ?_)
  clear hK K
  try simp only [Act.put, List.setIfInBounds_toArray, List.set_cons_zero, List.set_cons_succ]
  refine wpAnyH_ready (rs := [35]) (by kernel_rfl) (by simp) ?_
  refine AllReadyH.cons (by simp only [List.getElem?_toArray, List.getElem?_cons_succ, List.getElem?_cons_zero]; rfl) (fun K hK => ?_) AllReadyH.nil
  go_simp
  refine (iadd_any _ _ _ _ _ _ 30 30 _ (by exact ⟨l_b, H_b.out, s_b, rfl⟩) (by exact ⟨l_c, H_c.out, s_c, rfl⟩) (by omega) (by omega)).mono ?_
  rintro e w11 ⟨b_t, A_t, n_t, c_t, rfl, h_t, hb⟩
  replace HT := Lib.hid (HT.out.below hb)
  replace H_a := Lib.hid (H_a.out.below hb)
  replace H_b := Lib.hid (H_b.out.below hb)
  replace H_c := Lib.hid (H_c.out.below hb)
  replace Z_d := Lib.hid (Z_d.out.below hb)
  replace Z_o := Lib.hid (Z_o.out.below hb)
  replace Z_s := Lib.hid (Z_s.out.below hb)
  replace B_a := Lib.hid (B_a.out.below hb)
  replace B_b := Lib.hid (B_b.out.below hb)
  replace B_c := Lib.hid (B_c.out.below hb)
  replace hB := below_next hB hb
  clear hb hHeld
  have Z_t := Lib.hid h_t
  clear h_t
  go_wp2_with fail
  refine hK.out _ _ (by exact ⟨B_a.out.cell0, B_a.out.cell1, B_b.out.cell0, B_b.out.cell1, B_c.out.cell0, B_c.out.cell1⟩) (fun hHeld => ?_)
  clear hK K
  try simp only [Act.put, List.setIfInBounds_toArray, List.set_cons_zero, List.set_cons_succ]
  refine wpAnyH_ready (rs := [36]) (by kernel_rfl) (by simp) ?_
  refine AllReadyH.cons (by simp only [List.getElem?_toArray, List.getElem?_cons_succ, List.getElem?_cons_zero]; rfl) (fun K hK => ?_) AllReadyH.nil
  go_simp
  refine (icmp_is (k1 := 31) (k2 := 31) (v := 1) (by exact Z_s.out.of (S_a.out.zadd S_c.out)) (by exact Z_t.out.of (S_b.out.zadd S_c.out)) (by omega) (by omega) (by have := HC.out; exact zord_gt (by omega))).mono ?_
  rintro e w12 ⟨rfl, hb⟩
  replace HT := Lib.hid (HT.out.below hb)
  replace H_a := Lib.hid (H_a.out.below hb)
  replace H_b := Lib.hid (H_b.out.below hb)
  replace H_c := Lib.hid (H_c.out.below hb)
  replace Z_d := Lib.hid (Z_d.out.below hb)
  replace Z_o := Lib.hid (Z_o.out.below hb)
  replace Z_s := Lib.hid (Z_s.out.below hb)
  replace Z_t := Lib.hid (Z_t.out.below hb)
  replace B_a := Lib.hid (B_a.out.below hb)
  replace B_b := Lib.hid (B_b.out.below hb)
  replace B_c := Lib.hid (B_c.out.below hb)
  replace hB := below_next hB hb
  clear hb hHeld
  go_wp2_with fail
  refine hK.out _ _ (by exact ⟨B_a.out.cell0, B_a.out.cell1, B_b.out.cell0, B_b.out.cell1, B_c.out.cell0, B_c.out.cell1⟩) (fun hHeld => ?_)
  clear hK K
  try simp only [Act.put, List.setIfInBounds_toArray, List.set_cons_zero, List.set_cons_succ]
  refine wpAnyH_take2 38 (v := ?_) (fun _ _ _ _ _ h => h) (by simp only [List.getElem?_toArray, List.getElem?_cons_succ, List.getElem?_cons_zero]; rfl) (by kernel_rfl) (by kernel_rfl) (by kernel_rfl) (by rfl) ?_ hHeld ?_
  rotate_left
  · (intro w hSw; (try dsimp only at hSw); go_simp; (try with_reducible rfl))
  try simp only [Act.put, List.setIfInBounds_toArray, List.set_cons_zero, List.set_cons_succ]
  refine wpAnyH_take2 39 (v := ?_) (fun _ _ _ _ _ h => h) (by simp only [List.getElem?_toArray, List.getElem?_cons_succ, List.getElem?_cons_zero]; rfl) (by kernel_rfl) (by kernel_rfl) (by kernel_rfl) (by rfl) ?_ hHeld ?_
  rotate_left
  · (intro w hSw; (try dsimp only at hSw); go_simp; (try with_reducible rfl))
  try simp only [Act.put, List.setIfInBounds_toArray, List.set_cons_zero, List.set_cons_succ]
  refine wpAnyH_done (by kernel_rfl) (NoPanic.normal ?_) _
  clear hHeld
  have c_a0 := B_a.out.cell0
  have c_a1 := B_a.out.cell1
  have c_b0 := B_b.out.cell0
  have c_b1 := B_b.out.cell1
  have c_c0 := B_c.out.cell0
  have c_c1 := B_c.out.cell1
  go_wp2
  clear c_a0 c_a1 c_b0 c_b1 c_c0 c_c1
  clear Z_d Z_o Z_s Z_t ew1 ew2 ew3
  refine wp_region_noPanic ?_
  refine wp_region_held_drew (S := (fun w' => w'.cell? ⟨w.heap.size, 0, none⟩ = some (.bool b_a) ∧ w'.cell? ⟨w.heap.size, 1, none⟩ = some m_a ∧ w'.cell? ⟨w.heap.size + 1, 0, none⟩ = some (.bool b_b) ∧ w'.cell? ⟨w.heap.size + 1, 1, none⟩ = some m_b ∧ w'.cell? ⟨w.heap.size + 1 + 1, 0, none⟩ = some (.bool b_c) ∧ w'.cell? ⟨w.heap.size + 1 + 1, 1, none⟩ = some m_c)) (by kernel_rfl) (by exact ⟨B_a.out.cell0, B_a.out.cell1, B_b.out.cell0, B_b.out.cell1, B_c.out.cell0, B_c.out.cell1⟩) (fun hHeld => ?_)
  have hb := belowDrew w12
  generalize w12.drew = V_3 at hb hHeld ⊢
  replace HT := Lib.hid (HT.out.below hb)
  replace H_a := Lib.hid (H_a.out.below hb)
  replace H_b := Lib.hid (H_b.out.below hb)
  replace H_c := Lib.hid (H_c.out.below hb)
  replace B_a := Lib.hid (B_a.out.below hb)
  replace B_b := Lib.hid (B_b.out.below hb)
  replace B_c := Lib.hid (B_c.out.below hb)
  replace hB := below_next hB hb
  clear hb
  refine wpAnyH_take2 0 (v := ?_) (fun _ _ _ _ _ h => h) (by simp only [List.getElem?_toArray, List.getElem?_cons_zero]; rfl) (by kernel_rfl) (by kernel_rfl) (by kernel_rfl) (by rfl) ?_ hHeld ?_
  rotate_left
  · (intro w hSw; (try dsimp only at hSw); go_simp; (try with_reducible rfl))
  try simp only [Act.put, List.setIfInBounds_toArray, List.set_cons_zero, List.set_cons_succ]
  refine wpAnyH_take2 1 (v := ?_) (fun _ _ _ _ _ h => h) (by simp only [List.getElem?_toArray, List.getElem?_cons_succ, List.getElem?_cons_zero]; rfl) (by kernel_rfl) (by kernel_rfl) (by kernel_rfl) (by rfl) ?_ hHeld ?_
  rotate_left
  · (intro w hSw; (try dsimp only at hSw); go_simp; (try with_reducible rfl))
  try simp only [Act.put, List.setIfInBounds_toArray, List.set_cons_zero, List.set_cons_succ]
  refine wpAnyH_take2 2 (v := ?_) (fun _ _ _ _ _ h => h) (by simp only [List.getElem?_toArray, List.getElem?_cons_succ, List.getElem?_cons_zero]; rfl) (by kernel_rfl) (by kernel_rfl) (by kernel_rfl) (by rfl) ?_ hHeld ?_
  rotate_left
  · (intro w hSw; (try dsimp only at hSw); go_simp; (try with_reducible rfl))
  try simp only [Act.put, List.setIfInBounds_toArray, List.set_cons_zero, List.set_cons_succ]
  refine wpAnyH_skip 3 (fun _ _ _ _ _ h => h) (by simp only [List.getElem?_toArray, List.getElem?_cons_succ, List.getElem?_cons_zero]; rfl) (by kernel_rfl) (by kernel_rfl) (by kernel_rfl) (by rfl) hHeld ?_
  try simp only [Act.put, List.setIfInBounds_toArray, List.set_cons_zero, List.set_cons_succ]
  refine wpAnyH_skip 4 (fun _ _ _ _ _ h => h) (by simp only [List.getElem?_toArray, List.getElem?_cons_succ, List.getElem?_cons_zero]; rfl) (by kernel_rfl) (by kernel_rfl) (by kernel_rfl) (by rfl) hHeld ?_
  try simp only [Act.put, List.setIfInBounds_toArray, List.set_cons_zero, List.set_cons_succ]
  refine wpAnyH_skip 5 (fun _ _ _ _ _ h => h) (by simp only [List.getElem?_toArray, List.getElem?_cons_succ, List.getElem?_cons_zero]; rfl) (by kernel_rfl) (by kernel_rfl) (by kernel_rfl) (by rfl) hHeld ?_
  try simp only [Act.put, List.setIfInBounds_toArray, List.set_cons_zero, List.set_cons_succ]
  refine wpAnyH_skip 6 (fun _ _ _ _ _ h => h) (by simp only [List.getElem?_toArray, List.getElem?_cons_succ, List.getElem?_cons_zero]; rfl) (by kernel_rfl) (by kernel_rfl) (by kernel_rfl) (by rfl) hHeld ?_
  try simp only [Act.put, List.setIfInBounds_toArray, List.set_cons_zero, List.set_cons_succ]
  refine wpAnyH_take2 7 (v := ?_) (fun _ _ _ _ _ h => h) (by simp only [List.getElem?_toArray, List.getElem?_cons_succ, List.getElem?_cons_zero]; rfl) (by kernel_rfl) (by kernel_rfl) (by kernel_rfl) (by rfl) ?_ hHeld ?_
  rotate_left
  · (intro w hSw; (try dsimp only at hSw); go_simp; (try with_reducible rfl))
  try simp only [Act.put, List.setIfInBounds_toArray, List.set_cons_zero, List.set_cons_succ]
  refine wpAnyH_take2 8 (v := ?_) (fun _ _ _ _ _ h => h) (by simp only [List.getElem?_toArray, List.getElem?_cons_succ, List.getElem?_cons_zero]; rfl) (by kernel_rfl) (by kernel_rfl) (by kernel_rfl) (by rfl) ?_ hHeld ?_
  rotate_left
  · (intro w hSw; (try dsimp only at hSw); go_simp; (try with_reducible rfl))
  try simp only [Act.put, List.setIfInBounds_toArray, List.set_cons_zero, List.set_cons_succ]
  refine wpAnyH_skip 9 (fun _ _ _ _ _ h => h) (by simp only [List.getElem?_toArray, List.getElem?_cons_succ, List.getElem?_cons_zero]; rfl) (by kernel_rfl) (by kernel_rfl) (by kernel_rfl) (by rfl) hHeld ?_
  try simp only [Act.put, List.setIfInBounds_toArray, List.set_cons_zero, List.set_cons_succ]
  refine wpAnyH_skip 10 (fun _ _ _ _ _ h => h) (by simp only [List.getElem?_toArray, List.getElem?_cons_succ, List.getElem?_cons_zero]; rfl) (by kernel_rfl) (by kernel_rfl) (by kernel_rfl) (by rfl) hHeld ?_
  try simp only [Act.put, List.setIfInBounds_toArray, List.set_cons_zero, List.set_cons_succ]
  refine wpAnyH_skip 11 (fun _ _ _ _ _ h => h) (by simp only [List.getElem?_toArray, List.getElem?_cons_succ, List.getElem?_cons_zero]; rfl) (by kernel_rfl) (by kernel_rfl) (by kernel_rfl) (by rfl) hHeld ?_
  try simp only [Act.put, List.setIfInBounds_toArray, List.set_cons_zero, List.set_cons_succ]
  refine wpAnyH_skip 12 (fun _ _ _ _ _ h => h) (by simp only [List.getElem?_toArray, List.getElem?_cons_succ, List.getElem?_cons_zero]; rfl) (by kernel_rfl) (by kernel_rfl) (by kernel_rfl) (by rfl) hHeld ?_
  try simp only [Act.put, List.setIfInBounds_toArray, List.set_cons_zero, List.set_cons_succ]
  refine wpAnyH_take2 13 (v := ?_) (fun _ _ _ _ _ h => h) (by simp only [List.getElem?_toArray, List.getElem?_cons_succ, List.getElem?_cons_zero]; rfl) (by kernel_rfl) (by kernel_rfl) (by kernel_rfl) (by rfl) ?_ hHeld ?_
  rotate_left
  · (intro w hSw; (try dsimp only at hSw); go_simp; (try with_reducible rfl))
  try simp only [Act.put, List.setIfInBounds_toArray, List.set_cons_zero, List.set_cons_succ]
  refine wpAnyH_take2 14 (v := ?_) (fun _ _ _ _ _ h => h) (by simp only [List.getElem?_toArray, List.getElem?_cons_succ, List.getElem?_cons_zero]; rfl) (by kernel_rfl) (by kernel_rfl) (by kernel_rfl) (by rfl) ?_ hHeld ?_
  rotate_left
  · (intro w hSw; (try dsimp only at hSw); go_simp; (try with_reducible rfl))
  try simp only [Act.put, List.setIfInBounds_toArray, List.set_cons_zero, List.set_cons_succ]
  refine wpAnyH_take2 15 (v := ?_) (fun _ _ _ _ _ h => h) (by simp only [List.getElem?_toArray, List.getElem?_cons_succ, List.getElem?_cons_zero]; rfl) (by kernel_rfl) (by kernel_rfl) (by kernel_rfl) (by rfl) ?_ hHeld ?_
  rotate_left
  · (intro w hSw; (try dsimp only at hSw); go_simp; (try with_reducible rfl))
  try simp only [Act.put, List.setIfInBounds_toArray, List.set_cons_zero, List.set_cons_succ]
  refine wpAnyH_take2 16 (v := ?_) (fun _ _ _ _ _ h => h) (by simp only [List.getElem?_toArray, List.getElem?_cons_succ, List.getElem?_cons_zero]; rfl) (by kernel_rfl) (by kernel_rfl) (by kernel_rfl) (by rfl) ?_ hHeld ?_
  rotate_left
  · (intro w hSw; (try dsimp only at hSw); go_simp; (try with_reducible rfl))
  try simp only [Act.put, List.setIfInBounds_toArray, List.set_cons_zero, List.set_cons_succ]
  refine wpAnyH_take2 17 (v := ?_) (fun _ _ _ _ _ h => h) (by simp only [List.getElem?_toArray, List.getElem?_cons_succ, List.getElem?_cons_zero]; rfl) (by kernel_rfl) (by kernel_rfl) (by kernel_rfl) (by rfl) ?_ hHeld ?_
  rotate_left
  · (intro w hSw; (try dsimp only at hSw); go_simp; (try with_reducible rfl))
  try simp only [Act.put, List.setIfInBounds_toArray, List.set_cons_zero, List.set_cons_succ]
  refine wpAnyH_take2 19 (v := ?_) (fun _ _ _ _ _ h => h) (by simp only [List.getElem?_toArray, List.getElem?_cons_succ, List.getElem?_cons_zero]; rfl) (by kernel_rfl) (by kernel_rfl) (by kernel_rfl) (by rfl) ?_ hHeld ?_
  rotate_left
  · (intro w hSw; (try dsimp only at hSw); go_simp; (try with_reducible rfl))
  try simp only [Act.put, List.setIfInBounds_toArray, List.set_cons_zero, List.set_cons_succ]
  refine wpAnyH_ready (rs := [18]) (by kernel_rfl) (by simp) ?_
  refine AllReadyH.cons (by simp only [List.getElem?_toArray, List.getElem?_cons_succ, List.getElem?_cons_zero]; rfl) (fun K hK => ?_) AllReadyH.nil
  go_simp
  refine (inorm_any _ _ _ 30 _ (by exact ⟨l_a, H_a.out, s_a, rfl⟩) (by omega)).mono ?_
  rintro e w13 ⟨b_x, A_x, n_x, c_x, rfl, h_x, hb⟩
  replace HT := Lib.hid (HT.out.below hb)
  replace H_a := Lib.hid (H_a.out.below hb)
  replace H_b := Lib.hid (H_b.out.below hb)
  replace H_c := Lib.hid (H_c.out.below hb)
  replace B_a := Lib.hid (B_a.out.below hb)
  replace B_b := Lib.hid (B_b.out.below hb)
  replace B_c := Lib.hid (B_c.out.below hb)
  replace hB := below_next hB hb
  clear hb hHeld
  have Z_x := Lib.hid h_x
  clear h_x
  go_wp2_with fail
  refine hK.out _ _ (by exact ⟨B_a.out.cell0, B_a.out.cell1, B_b.out.cell0, B_b.out.cell1, B_c.out.cell0, B_c.out.cell1⟩) (fun hHeld => ?_)
  clear hK K
  try simp only [Act.put, List.setIfInBounds_toArray, List.set_cons_zero, List.set_cons_succ]
  refine wpAnyH_ready (rs := [20]) (by kernel_rfl) (by simp) ?_
  refine AllReadyH.cons (by simp only [List.getElem?_toArray, List.getElem?_cons_succ, List.getElem?_cons_zero]; rfl) (fun K hK => ?_) AllReadyH.nil
  go_simp
  refine (inorm_any _ _ _ 30 _ (by exact ⟨l_b, H_b.out, s_b, rfl⟩) (by omega)).mono ?_
  rintro e w14 ⟨b_y, A_y, n_y, c_y, rfl, h_y, hb⟩
  replace HT := Lib.hid (HT.out.below hb)
  replace H_a := Lib.hid (H_a.out.below hb)
  replace H_b := Lib.hid (H_b.out.below hb)
  replace H_c := Lib.hid (H_c.out.below hb)
  replace Z_x := Lib.hid (Z_x.out.below hb)
  replace B_a := Lib.hid (B_a.out.below hb)
  replace B_b := Lib.hid (B_b.out.below hb)
  replace B_c := Lib.hid (B_c.out.below hb)
  replace hB := below_next hB hb
  clear hb hHeld
  have Z_y := Lib.hid h_y
  clear h_y
  go_wp2_with fail
  refine hK.out _ _ (by exact ⟨B_a.out.cell0, B_a.out.cell1, B_b.out.cell0, B_b.out.cell1, B_c.out.cell0, B_c.out.cell1⟩) (fun hHeld => ?_)
  clear hK K
  try simp only [Act.put, List.setIfInBounds_toArray, List.set_cons_zero, List.set_cons_succ]
  refine wpAnyH_ready (rs := [21]) (by kernel_rfl) (by simp) ?_
  refine AllReadyH.cons (by simp only [List.getElem?_toArray, List.getElem?_cons_succ, List.getElem?_cons_zero]; rfl) (fun K hK => ?_) AllReadyH.nil
  go_simp
  refine (zsame_is (v := false) (by exact Z_x.out) (by exact Z_y.out) (by have := HC.out; exact decide_eq_false (by omega))).mono ?_
  rintro e w15 ⟨rfl, hb⟩
  replace HT := Lib.hid (HT.out.below hb)
  replace H_a := Lib.hid (H_a.out.below hb)
  replace H_b := Lib.hid (H_b.out.below hb)
  replace H_c := Lib.hid (H_c.out.below hb)
  replace Z_x := Lib.hid (Z_x.out.below hb)
  replace Z_y := Lib.hid (Z_y.out.below hb)
  replace B_a := Lib.hid (B_a.out.below hb)
  replace B_b := Lib.hid (B_b.out.below hb)
  replace B_c := Lib.hid (B_c.out.below hb)
  replace hB := below_next hB hb
  clear hb hHeld
  go_wp2_with fail
  refine hK.out _ _ (by exact ⟨B_a.out.cell0, B_a.out.cell1, B_b.out.cell0, B_b.out.cell1, B_c.out.cell0, B_c.out.cell1⟩) (fun hHeld => ?_)
  clear hK K
  try simp only [Act.put, List.setIfInBounds_toArray, List.set_cons_zero, List.set_cons_succ]
  refine wpAnyH_take2 22 (v := ?_) (fun _ _ _ _ _ h => h) (by simp only [List.getElem?_toArray, List.getElem?_cons_succ, List.getElem?_cons_zero]; rfl) (by kernel_rfl) (by kernel_rfl) (by kernel_rfl) (by rfl) ?_ hHeld ?_
  rotate_left
  · (intro w hSw; (try dsimp only at hSw); go_simp; (try with_reducible rfl))
  try simp only [Act.put, List.setIfInBounds_toArray, List.set_cons_zero, List.set_cons_succ]
  refine wpAnyH_take2 23 (v := ?_) (fun _ _ _ _ _ h => h) (by simp only [List.getElem?_toArray, List.getElem?_cons_succ, List.getElem?_cons_zero]; rfl) (by kernel_rfl) (by kernel_rfl) (by kernel_rfl) (by rfl) ?_ hHeld ?_
  rotate_left
  · (intro w hSw; (try dsimp only at hSw); go_simp; (try with_reducible rfl))
  try simp only [Act.put, List.setIfInBounds_toArray, List.set_cons_zero, List.set_cons_succ]
  refine wpAnyH_take2 24 (v := ?_) (fun _ _ _ _ _ h => h) (by simp only [List.getElem?_toArray, List.getElem?_cons_succ, List.getElem?_cons_zero]; rfl) (by kernel_rfl) (by kernel_rfl) (by kernel_rfl) (by rfl) ?_ hHeld ?_
  rotate_left
  · (intro w hSw; (try dsimp only at hSw); go_simp; (try with_reducible rfl))
  try simp only [Act.put, List.setIfInBounds_toArray, List.set_cons_zero, List.set_cons_succ]
  refine wpAnyH_ready (rs := [25]) (by kernel_rfl) (by simp) ?_
  refine AllReadyH.cons (by simp only [List.getElem?_toArray, List.getElem?_cons_succ, List.getElem?_cons_zero]; rfl) (fun K hK => ?_) AllReadyH.nil
  go_simp
  refine (awake_any _ (by exact HT.out)).mono ?_
  rintro e w16 ⟨rfl, hb⟩
  replace HT := Lib.hid (HT.out.below hb)
  replace H_a := Lib.hid (H_a.out.below hb)
  replace H_b := Lib.hid (H_b.out.below hb)
  replace H_c := Lib.hid (H_c.out.below hb)
  replace Z_x := Lib.hid (Z_x.out.below hb)
  replace Z_y := Lib.hid (Z_y.out.below hb)
  replace B_a := Lib.hid (B_a.out.below hb)
  replace B_b := Lib.hid (B_b.out.below hb)
  replace B_c := Lib.hid (B_c.out.below hb)
  replace hB := below_next hB hb
  clear hb hHeld
  go_wp2_with fail
  refine hK.out _ _ (by exact ⟨B_a.out.cell0, B_a.out.cell1, B_b.out.cell0, B_b.out.cell1, B_c.out.cell0, B_c.out.cell1⟩) (fun hHeld => ?_)
  clear hK K
  try simp only [Act.put, List.setIfInBounds_toArray, List.set_cons_zero, List.set_cons_succ]
  refine wpAnyH_take2 26 (v := ?_) (fun _ _ _ _ _ h => h) (by simp only [List.getElem?_toArray, List.getElem?_cons_succ, List.getElem?_cons_zero]; rfl) (by kernel_rfl) (by kernel_rfl) (by kernel_rfl) (by rfl) ?_ hHeld ?_
  rotate_left
  · (intro w hSw; (try dsimp only at hSw); go_simp; (try with_reducible rfl))
  try simp only [Act.put, List.setIfInBounds_toArray, List.set_cons_zero, List.set_cons_succ]
  refine wpAnyH_take2 27 (v := ?_) (fun _ _ _ _ _ h => h) (by simp only [List.getElem?_toArray, List.getElem?_cons_succ, List.getElem?_cons_zero]; rfl) (by kernel_rfl) (by kernel_rfl) (by kernel_rfl) (by rfl) ?_ hHeld ?_
  rotate_left
  · (intro w hSw; (try dsimp only at hSw); go_simp; (try with_reducible rfl))
  try simp only [Act.put, List.setIfInBounds_toArray, List.set_cons_zero, List.set_cons_succ]
  refine wpAnyH_done (by kernel_rfl) (NoPanic.normal ?_) _
  clear hHeld
  have c_a0 := B_a.out.cell0
  have c_a1 := B_a.out.cell1
  have c_b0 := B_b.out.cell0
  have c_b1 := B_b.out.cell1
  have c_c0 := B_c.out.cell0
  have c_c1 := B_c.out.cell1
  go_wp2
  go_ret
  exact ⟨rfl, hB⟩
end Go.Proofs.YtcdfhiocglibfaaDoor
