/- garmentref02: Cmp. -/
import Derived.Test.YtoflndeonegkpaaGreatDoorTwo
namespace Go.Proofs.YtoflndeonegkpaaGreatDoor
open Go.RowKit

set_option maxRecDepth 100000 in
set_option maxHeartbeats 8000000 in
theorem ricmp_any (b1 b2 : Bool) (m1 m2 : Value) (z1 z2 : Int) (k1 k2 : Nat) (w : World) (h1 : IntAt w b1 m1 z1 k1) (h2 : IntAt w b2 m2 z2 k2) (hk1 : k1 ≤ 400000) (hk2 : k2 ≤ 400000) :
    Calls Tryz.prog 73 #[.agg #[.bool b1, m1], .agg #[.bool b2, m2]] w (GivesOrd w (zord z1 z2)) := by
  have H1 := Lib.hid h1
  have H2 := Lib.hid h2
  clear h1 h2
  go_enter Tryz.func73, Tryz.ntmps73
  go_upto_region 1 with fail
  obtain ⟨W, hW, B1, B2, HW, HS⟩ := boxes2 w (.bool b1) m1 (.bool b2) m2
  rw [hW]
  clear hW HS
  replace H1 := Lib.hid (H1.out.below HW.out)
  replace H2 := Lib.hid (H2.out.below HW.out)
  have s_B10 := B1.out.cell0
  have s_B11 := B1.out.cell1
  have s_B20 := B2.out.cell0
  have s_B21 := B2.out.cell1
  refine wp_region_noPanic ?_
  refine wp_region_held_drew (S := fun w' => w'.cell? ⟨w.heap.size, 0, none⟩ = some (.bool b1) ∧ w'.cell? ⟨w.heap.size, 1, none⟩ = some m1 ∧ w'.cell? ⟨w.heap.size + 1, 0, none⟩ = some (.bool b2) ∧ w'.cell? ⟨w.heap.size + 1, 1, none⟩ = some m2) (by kernel_rfl) (by exact ⟨s_B10, s_B11, s_B20, s_B21⟩) (fun hHeld => ?_)
  clear s_B10 s_B11 s_B20 s_B21
  have HB := Lib.hid (belowDrew W)
  generalize W.drew = V0 at HB hHeld ⊢
  refine wpAnyH_take2 0 (v := ?_) (fun _ _ _ _ _ h => h) (by simp only [List.getElem?_toArray, List.getElem?_cons_zero]; rfl) (by kernel_rfl) (by kernel_rfl) (by kernel_rfl) (by rfl) ?_ hHeld ?_
  rotate_left
  · (intro w hSw; (try dsimp only at hSw); go_simp; (try with_reducible rfl))
  simp only [Act.put, List.setIfInBounds_toArray, List.set_cons_zero, List.set_cons_succ]
  refine wpAnyH_take2 2 (v := ?_) (fun _ _ _ _ _ h => h) (by simp only [List.getElem?_toArray, List.getElem?_cons_succ, List.getElem?_cons_zero]; rfl) (by kernel_rfl) (by kernel_rfl) (by kernel_rfl) (by rfl) ?_ hHeld ?_
  rotate_left
  · (intro w hSw; (try dsimp only at hSw); go_simp; (try with_reducible rfl))
  simp only [Act.put, List.setIfInBounds_toArray, List.set_cons_zero, List.set_cons_succ]
  refine wpAnyH_key4 2 #[true, true, true, true, true, true, false, false] 8 10 5 6 (TwoJ W z1 z2) ?_ (fun key => ?_)
  rotate_left
  · simp only [Act.put, List.setIfInBounds_toArray, List.set_cons_zero, List.set_cons_succ] at key
    have KEY := Lib.hid key
    clear key
    refine wpAnyH_ready (rs := [1, 4, 5]) (by kernel_rfl) (by simp) ?_
    refine AllReadyH.cons (by simp only [List.getElem?_toArray, List.getElem?_cons_succ, List.getElem?_cons_zero]; rfl) (fun K hK => ?_) ?_
    go_simp
    refine (rinorm_any _ _ z1 k1 _ (by exact H1.out.below HB.out) (by omega)).mono ?_
    rintro e V1 ⟨bq0, Aq0, nq0, kq0, rfl, h, hb⟩
    have hb0 := HB
    replace HB := Lib.hid (below_next HB.out hb)
    have Zq0 := Lib.hid h
    clear h hb hb0
    go_wp2_with fail
    refine hK.out _ _ (by exact ⟨(B1.out.below HB.out).cell0, (B1.out.below HB.out).cell1, (B2.out.below HB.out).cell0, (B2.out.below HB.out).cell1⟩) (fun hHeld => ?_)
    clear hK K hHeld
    try simp only [Act.put, List.setIfInBounds_toArray, List.set_cons_zero, List.set_cons_succ]
    refine wpAnyH_ready (rs := [3, 4, 5]) (by kernel_rfl) (by simp) ?_
    refine AllReadyH.cons (by simp only [List.getElem?_toArray, List.getElem?_cons_succ, List.getElem?_cons_zero]; rfl) (fun K hK => ?_) ?_
    go_simp
    refine (rinorm_any _ _ z2 k2 _ (by exact H2.out.below HB.out) (by omega)).mono ?_
    rintro e V2 ⟨bq1, Aq1, nq1, kq1, rfl, h, hb⟩
    have hb0 := HB
    replace HB := Lib.hid (below_next HB.out hb)
    replace Zq0 := Lib.hid (Zq0.out.below hb)
    have Zq1 := Lib.hid h
    clear h hb hb0
    go_wp2_with fail
    refine hK.out _ _ (by exact ⟨(B1.out.below HB.out).cell0, (B1.out.below HB.out).cell1, (B2.out.below HB.out).cell0, (B2.out.below HB.out).cell1⟩) (fun hHeld => ?_)
    clear hK K hHeld
    try simp only [Act.put, List.setIfInBounds_toArray, List.set_cons_zero, List.set_cons_succ]
    refine wpAnyH_ready (rs := [4, 5]) (by kernel_rfl) (by simp) ?_
    refine AllReadyH.cons (by simp only [List.getElem?_toArray, List.getElem?_cons_succ, List.getElem?_cons_zero]; rfl) (fun K hK => ?_) ?_
    go_simp
    obtain ⟨V3, gq0, hV, hg, Xq0, hb⟩ := newBox V2 (.bool false) (.slice none 0 0)
    rw [hV, hg]
    clear hV
    have qq0 : W.heap.size ≤ gq0 := hg ▸ HB.out.size
    have hb0 := HB
    replace HB := Lib.hid (below_next HB.out hb)
    replace Zq0 := Lib.hid (Zq0.out.below hb)
    replace Zq1 := Lib.hid (Zq1.out.below hb)
    clear hb hb0 hg
    refine hK.out _ _ (by exact ⟨(B1.out.below HB.out).cell0, (B1.out.below HB.out).cell1, (B2.out.below HB.out).cell0, (B2.out.below HB.out).cell1⟩) (fun hHeld => ?_)
    clear hK K hHeld
    try simp only [Act.put, List.setIfInBounds_toArray, List.set_cons_zero, List.set_cons_succ]
    refine wpAnyH_ready (rs := [5]) (by kernel_rfl) (by simp) ?_
    refine AllReadyH.cons (by simp only [List.getElem?_toArray, List.getElem?_cons_succ, List.getElem?_cons_zero]; rfl) (fun K hK => ?_) ?_
    go_simp
    obtain ⟨V4, gq1, hV, hg, Xq1, hb⟩ := newBox V3 (.bool false) (.slice none 0 0)
    rw [hV, hg]
    clear hV
    have ne : gq0 ≠ gq1 := by have := Xq0.out.lt; omega
    have qq1 : W.heap.size ≤ gq1 := hg ▸ HB.out.size
    have hb0 := HB
    replace HB := Lib.hid (below_next HB.out hb)
    replace Zq0 := Lib.hid (Zq0.out.below hb)
    replace Xq0 := Lib.hid (Xq0.out.below hb)
    replace Zq1 := Lib.hid (Zq1.out.below hb)
    clear hb hb0 hg
    refine hK.out _ _ (by exact ⟨(B1.out.below HB.out).cell0, (B1.out.below HB.out).cell1, (B2.out.below HB.out).cell0, (B2.out.below HB.out).cell1⟩) (fun hHeld => ?_)
    clear hK K hHeld
    try simp only [Act.put, List.setIfInBounds_toArray, List.set_cons_zero, List.set_cons_succ]
    exact wpAnyH_at #[true, true, true, true, true, true, false, false] (by kernel_rfl) (KEY.out _ _ _ _ _ ⟨bq0, Aq0, nq0, kq0, bq1, Aq1, nq1, kq1, gq0, gq1, rfl, rfl, rfl, rfl, Zq0.out, Zq1.out, Xq0.out, Xq1.out, ne, qq0, qq1, HB.out⟩)
    exact AllReadyH.nil
    refine AllReadyH.cons (by simp only [List.getElem?_toArray, List.getElem?_cons_succ, List.getElem?_cons_zero]; rfl) (fun K hK => ?_) ?_
    go_simp
    obtain ⟨V3, gq1, hV, hg, Xq1, hb⟩ := newBox V2 (.bool false) (.slice none 0 0)
    rw [hV, hg]
    clear hV
    have qq1 : W.heap.size ≤ gq1 := hg ▸ HB.out.size
    have hb0 := HB
    replace HB := Lib.hid (below_next HB.out hb)
    replace Zq0 := Lib.hid (Zq0.out.below hb)
    replace Zq1 := Lib.hid (Zq1.out.below hb)
    clear hb hb0 hg
    refine hK.out _ _ (by exact ⟨(B1.out.below HB.out).cell0, (B1.out.below HB.out).cell1, (B2.out.below HB.out).cell0, (B2.out.below HB.out).cell1⟩) (fun hHeld => ?_)
    clear hK K hHeld
    try simp only [Act.put, List.setIfInBounds_toArray, List.set_cons_zero, List.set_cons_succ]
    refine wpAnyH_ready (rs := [4]) (by kernel_rfl) (by simp) ?_
    refine AllReadyH.cons (by simp only [List.getElem?_toArray, List.getElem?_cons_succ, List.getElem?_cons_zero]; rfl) (fun K hK => ?_) ?_
    go_simp
    obtain ⟨V4, gq0, hV, hg, Xq0, hb⟩ := newBox V3 (.bool false) (.slice none 0 0)
    rw [hV, hg]
    clear hV
    have ne : gq0 ≠ gq1 := by have := Xq1.out.lt; omega
    have qq0 : W.heap.size ≤ gq0 := hg ▸ HB.out.size
    have hb0 := HB
    replace HB := Lib.hid (below_next HB.out hb)
    replace Zq0 := Lib.hid (Zq0.out.below hb)
    replace Zq1 := Lib.hid (Zq1.out.below hb)
    replace Xq1 := Lib.hid (Xq1.out.below hb)
    clear hb hb0 hg
    refine hK.out _ _ (by exact ⟨(B1.out.below HB.out).cell0, (B1.out.below HB.out).cell1, (B2.out.below HB.out).cell0, (B2.out.below HB.out).cell1⟩) (fun hHeld => ?_)
    clear hK K hHeld
    try simp only [Act.put, List.setIfInBounds_toArray, List.set_cons_zero, List.set_cons_succ]
    exact wpAnyH_at #[true, true, true, true, true, true, false, false] (by kernel_rfl) (KEY.out _ _ _ _ _ ⟨bq0, Aq0, nq0, kq0, bq1, Aq1, nq1, kq1, gq0, gq1, rfl, rfl, rfl, rfl, Zq0.out, Zq1.out, Xq0.out, Xq1.out, ne, qq0, qq1, HB.out⟩)
    exact AllReadyH.nil
    exact AllReadyH.nil
    refine AllReadyH.cons (by simp only [List.getElem?_toArray, List.getElem?_cons_succ, List.getElem?_cons_zero]; rfl) (fun K hK => ?_) ?_
    go_simp
    obtain ⟨V2, gq0, hV, hg, Xq0, hb⟩ := newBox V1 (.bool false) (.slice none 0 0)
    rw [hV, hg]
    clear hV
    have qq0 : W.heap.size ≤ gq0 := hg ▸ HB.out.size
    have hb0 := HB
    replace HB := Lib.hid (below_next HB.out hb)
    replace Zq0 := Lib.hid (Zq0.out.below hb)
    clear hb hb0 hg
    refine hK.out _ _ (by exact ⟨(B1.out.below HB.out).cell0, (B1.out.below HB.out).cell1, (B2.out.below HB.out).cell0, (B2.out.below HB.out).cell1⟩) (fun hHeld => ?_)
    clear hK K hHeld
    try simp only [Act.put, List.setIfInBounds_toArray, List.set_cons_zero, List.set_cons_succ]
    refine wpAnyH_ready (rs := [3, 5]) (by kernel_rfl) (by simp) ?_
    refine AllReadyH.cons (by simp only [List.getElem?_toArray, List.getElem?_cons_succ, List.getElem?_cons_zero]; rfl) (fun K hK => ?_) ?_
    go_simp
    refine (rinorm_any _ _ z2 k2 _ (by exact H2.out.below HB.out) (by omega)).mono ?_
    rintro e V3 ⟨bq1, Aq1, nq1, kq1, rfl, h, hb⟩
    have hb0 := HB
    replace HB := Lib.hid (below_next HB.out hb)
    replace Zq0 := Lib.hid (Zq0.out.below hb)
    replace Xq0 := Lib.hid (Xq0.out.below hb)
    have Zq1 := Lib.hid h
    clear h hb hb0
    go_wp2_with fail
    refine hK.out _ _ (by exact ⟨(B1.out.below HB.out).cell0, (B1.out.below HB.out).cell1, (B2.out.below HB.out).cell0, (B2.out.below HB.out).cell1⟩) (fun hHeld => ?_)
    clear hK K hHeld
    try simp only [Act.put, List.setIfInBounds_toArray, List.set_cons_zero, List.set_cons_succ]
    refine wpAnyH_ready (rs := [5]) (by kernel_rfl) (by simp) ?_
    refine AllReadyH.cons (by simp only [List.getElem?_toArray, List.getElem?_cons_succ, List.getElem?_cons_zero]; rfl) (fun K hK => ?_) ?_
    go_simp
    obtain ⟨V4, gq1, hV, hg, Xq1, hb⟩ := newBox V3 (.bool false) (.slice none 0 0)
    rw [hV, hg]
    clear hV
    have ne : gq0 ≠ gq1 := by have := Xq0.out.lt; omega
    have qq1 : W.heap.size ≤ gq1 := hg ▸ HB.out.size
    have hb0 := HB
    replace HB := Lib.hid (below_next HB.out hb)
    replace Zq0 := Lib.hid (Zq0.out.below hb)
    replace Xq0 := Lib.hid (Xq0.out.below hb)
    replace Zq1 := Lib.hid (Zq1.out.below hb)
    clear hb hb0 hg
    refine hK.out _ _ (by exact ⟨(B1.out.below HB.out).cell0, (B1.out.below HB.out).cell1, (B2.out.below HB.out).cell0, (B2.out.below HB.out).cell1⟩) (fun hHeld => ?_)
    clear hK K hHeld
    try simp only [Act.put, List.setIfInBounds_toArray, List.set_cons_zero, List.set_cons_succ]
    exact wpAnyH_at #[true, true, true, true, true, true, false, false] (by kernel_rfl) (KEY.out _ _ _ _ _ ⟨bq0, Aq0, nq0, kq0, bq1, Aq1, nq1, kq1, gq0, gq1, rfl, rfl, rfl, rfl, Zq0.out, Zq1.out, Xq0.out, Xq1.out, ne, qq0, qq1, HB.out⟩)
    exact AllReadyH.nil
    refine AllReadyH.cons (by simp only [List.getElem?_toArray, List.getElem?_cons_succ, List.getElem?_cons_zero]; rfl) (fun K hK => ?_) ?_
    go_simp
    obtain ⟨V3, gq1, hV, hg, Xq1, hb⟩ := newBox V2 (.bool false) (.slice none 0 0)
    rw [hV, hg]
    clear hV
    have ne : gq0 ≠ gq1 := by have := Xq0.out.lt; omega
    have qq1 : W.heap.size ≤ gq1 := hg ▸ HB.out.size
    have hb0 := HB
    replace HB := Lib.hid (below_next HB.out hb)
    replace Zq0 := Lib.hid (Zq0.out.below hb)
    replace Xq0 := Lib.hid (Xq0.out.below hb)
    clear hb hb0 hg
    refine hK.out _ _ (by exact ⟨(B1.out.below HB.out).cell0, (B1.out.below HB.out).cell1, (B2.out.below HB.out).cell0, (B2.out.below HB.out).cell1⟩) (fun hHeld => ?_)
    clear hK K hHeld
    try simp only [Act.put, List.setIfInBounds_toArray, List.set_cons_zero, List.set_cons_succ]
    refine wpAnyH_ready (rs := [3]) (by kernel_rfl) (by simp) ?_
    refine AllReadyH.cons (by simp only [List.getElem?_toArray, List.getElem?_cons_succ, List.getElem?_cons_zero]; rfl) (fun K hK => ?_) ?_
    go_simp
    refine (rinorm_any _ _ z2 k2 _ (by exact H2.out.below HB.out) (by omega)).mono ?_
    rintro e V4 ⟨bq1, Aq1, nq1, kq1, rfl, h, hb⟩
    have hb0 := HB
    replace HB := Lib.hid (below_next HB.out hb)
    replace Zq0 := Lib.hid (Zq0.out.below hb)
    replace Xq0 := Lib.hid (Xq0.out.below hb)
    replace Xq1 := Lib.hid (Xq1.out.below hb)
    have Zq1 := Lib.hid h
    clear h hb hb0
    go_wp2_with fail
    refine hK.out _ _ (by exact ⟨(B1.out.below HB.out).cell0, (B1.out.below HB.out).cell1, (B2.out.below HB.out).cell0, (B2.out.below HB.out).cell1⟩) (fun hHeld => ?_)
    clear hK K hHeld
    try simp only [Act.put, List.setIfInBounds_toArray, List.set_cons_zero, List.set_cons_succ]
    exact wpAnyH_at #[true, true, true, true, true, true, false, false] (by kernel_rfl) (KEY.out _ _ _ _ _ ⟨bq0, Aq0, nq0, kq0, bq1, Aq1, nq1, kq1, gq0, gq1, rfl, rfl, rfl, rfl, Zq0.out, Zq1.out, Xq0.out, Xq1.out, ne, qq0, qq1, HB.out⟩)
    exact AllReadyH.nil
    exact AllReadyH.nil
    refine AllReadyH.cons (by simp only [List.getElem?_toArray, List.getElem?_cons_succ, List.getElem?_cons_zero]; rfl) (fun K hK => ?_) ?_
    go_simp
    obtain ⟨V2, gq1, hV, hg, Xq1, hb⟩ := newBox V1 (.bool false) (.slice none 0 0)
    rw [hV, hg]
    clear hV
    have qq1 : W.heap.size ≤ gq1 := hg ▸ HB.out.size
    have hb0 := HB
    replace HB := Lib.hid (below_next HB.out hb)
    replace Zq0 := Lib.hid (Zq0.out.below hb)
    clear hb hb0 hg
    refine hK.out _ _ (by exact ⟨(B1.out.below HB.out).cell0, (B1.out.below HB.out).cell1, (B2.out.below HB.out).cell0, (B2.out.below HB.out).cell1⟩) (fun hHeld => ?_)
    clear hK K hHeld
    try simp only [Act.put, List.setIfInBounds_toArray, List.set_cons_zero, List.set_cons_succ]
    refine wpAnyH_ready (rs := [3, 4]) (by kernel_rfl) (by simp) ?_
    refine AllReadyH.cons (by simp only [List.getElem?_toArray, List.getElem?_cons_succ, List.getElem?_cons_zero]; rfl) (fun K hK => ?_) ?_
    go_simp
    refine (rinorm_any _ _ z2 k2 _ (by exact H2.out.below HB.out) (by omega)).mono ?_
    rintro e V3 ⟨bq1, Aq1, nq1, kq1, rfl, h, hb⟩
    have hb0 := HB
    replace HB := Lib.hid (below_next HB.out hb)
    replace Zq0 := Lib.hid (Zq0.out.below hb)
    replace Xq1 := Lib.hid (Xq1.out.below hb)
    have Zq1 := Lib.hid h
    clear h hb hb0
    go_wp2_with fail
    refine hK.out _ _ (by exact ⟨(B1.out.below HB.out).cell0, (B1.out.below HB.out).cell1, (B2.out.below HB.out).cell0, (B2.out.below HB.out).cell1⟩) (fun hHeld => ?_)
    clear hK K hHeld
    try simp only [Act.put, List.setIfInBounds_toArray, List.set_cons_zero, List.set_cons_succ]
    refine wpAnyH_ready (rs := [4]) (by kernel_rfl) (by simp) ?_
    refine AllReadyH.cons (by simp only [List.getElem?_toArray, List.getElem?_cons_succ, List.getElem?_cons_zero]; rfl) (fun K hK => ?_) ?_
    go_simp
    obtain ⟨V4, gq0, hV, hg, Xq0, hb⟩ := newBox V3 (.bool false) (.slice none 0 0)
    rw [hV, hg]
    clear hV
    have ne : gq0 ≠ gq1 := by have := Xq1.out.lt; omega
    have qq0 : W.heap.size ≤ gq0 := hg ▸ HB.out.size
    have hb0 := HB
    replace HB := Lib.hid (below_next HB.out hb)
    replace Zq0 := Lib.hid (Zq0.out.below hb)
    replace Zq1 := Lib.hid (Zq1.out.below hb)
    replace Xq1 := Lib.hid (Xq1.out.below hb)
    clear hb hb0 hg
    refine hK.out _ _ (by exact ⟨(B1.out.below HB.out).cell0, (B1.out.below HB.out).cell1, (B2.out.below HB.out).cell0, (B2.out.below HB.out).cell1⟩) (fun hHeld => ?_)
    clear hK K hHeld
    try simp only [Act.put, List.setIfInBounds_toArray, List.set_cons_zero, List.set_cons_succ]
    exact wpAnyH_at #[true, true, true, true, true, true, false, false] (by kernel_rfl) (KEY.out _ _ _ _ _ ⟨bq0, Aq0, nq0, kq0, bq1, Aq1, nq1, kq1, gq0, gq1, rfl, rfl, rfl, rfl, Zq0.out, Zq1.out, Xq0.out, Xq1.out, ne, qq0, qq1, HB.out⟩)
    exact AllReadyH.nil
    refine AllReadyH.cons (by simp only [List.getElem?_toArray, List.getElem?_cons_succ, List.getElem?_cons_zero]; rfl) (fun K hK => ?_) ?_
    go_simp
    obtain ⟨V3, gq0, hV, hg, Xq0, hb⟩ := newBox V2 (.bool false) (.slice none 0 0)
    rw [hV, hg]
    clear hV
    have ne : gq0 ≠ gq1 := by have := Xq1.out.lt; omega
    have qq0 : W.heap.size ≤ gq0 := hg ▸ HB.out.size
    have hb0 := HB
    replace HB := Lib.hid (below_next HB.out hb)
    replace Zq0 := Lib.hid (Zq0.out.below hb)
    replace Xq1 := Lib.hid (Xq1.out.below hb)
    clear hb hb0 hg
    refine hK.out _ _ (by exact ⟨(B1.out.below HB.out).cell0, (B1.out.below HB.out).cell1, (B2.out.below HB.out).cell0, (B2.out.below HB.out).cell1⟩) (fun hHeld => ?_)
    clear hK K hHeld
    try simp only [Act.put, List.setIfInBounds_toArray, List.set_cons_zero, List.set_cons_succ]
    refine wpAnyH_ready (rs := [3]) (by kernel_rfl) (by simp) ?_
    refine AllReadyH.cons (by simp only [List.getElem?_toArray, List.getElem?_cons_succ, List.getElem?_cons_zero]; rfl) (fun K hK => ?_) ?_
    go_simp
    refine (rinorm_any _ _ z2 k2 _ (by exact H2.out.below HB.out) (by omega)).mono ?_
    rintro e V4 ⟨bq1, Aq1, nq1, kq1, rfl, h, hb⟩
    have hb0 := HB
    replace HB := Lib.hid (below_next HB.out hb)
    replace Zq0 := Lib.hid (Zq0.out.below hb)
    replace Xq0 := Lib.hid (Xq0.out.below hb)
    replace Xq1 := Lib.hid (Xq1.out.below hb)
    have Zq1 := Lib.hid h
    clear h hb hb0
    go_wp2_with fail
    refine hK.out _ _ (by exact ⟨(B1.out.below HB.out).cell0, (B1.out.below HB.out).cell1, (B2.out.below HB.out).cell0, (B2.out.below HB.out).cell1⟩) (fun hHeld => ?_)
    clear hK K hHeld
    try simp only [Act.put, List.setIfInBounds_toArray, List.set_cons_zero, List.set_cons_succ]
    exact wpAnyH_at #[true, true, true, true, true, true, false, false] (by kernel_rfl) (KEY.out _ _ _ _ _ ⟨bq0, Aq0, nq0, kq0, bq1, Aq1, nq1, kq1, gq0, gq1, rfl, rfl, rfl, rfl, Zq0.out, Zq1.out, Xq0.out, Xq1.out, ne, qq0, qq1, HB.out⟩)
    exact AllReadyH.nil
    exact AllReadyH.nil
    exact AllReadyH.nil
    refine AllReadyH.cons (by simp only [List.getElem?_toArray, List.getElem?_cons_succ, List.getElem?_cons_zero]; rfl) (fun K hK => ?_) ?_
    go_simp
    obtain ⟨V1, gq0, hV, hg, Xq0, hb⟩ := newBox V0 (.bool false) (.slice none 0 0)
    rw [hV, hg]
    clear hV
    have qq0 : W.heap.size ≤ gq0 := hg ▸ HB.out.size
    have hb0 := HB
    replace HB := Lib.hid (below_next HB.out hb)
    clear hb hb0 hg
    refine hK.out _ _ (by exact ⟨(B1.out.below HB.out).cell0, (B1.out.below HB.out).cell1, (B2.out.below HB.out).cell0, (B2.out.below HB.out).cell1⟩) (fun hHeld => ?_)
    clear hK K hHeld
    try simp only [Act.put, List.setIfInBounds_toArray, List.set_cons_zero, List.set_cons_succ]
    refine wpAnyH_ready (rs := [1, 5]) (by kernel_rfl) (by simp) ?_
    refine AllReadyH.cons (by simp only [List.getElem?_toArray, List.getElem?_cons_succ, List.getElem?_cons_zero]; rfl) (fun K hK => ?_) ?_
    go_simp
    refine (rinorm_any _ _ z1 k1 _ (by exact H1.out.below HB.out) (by omega)).mono ?_
    rintro e V2 ⟨bq0, Aq0, nq0, kq0, rfl, h, hb⟩
    have hb0 := HB
    replace HB := Lib.hid (below_next HB.out hb)
    replace Xq0 := Lib.hid (Xq0.out.below hb)
    have Zq0 := Lib.hid h
    clear h hb hb0
    go_wp2_with fail
    refine hK.out _ _ (by exact ⟨(B1.out.below HB.out).cell0, (B1.out.below HB.out).cell1, (B2.out.below HB.out).cell0, (B2.out.below HB.out).cell1⟩) (fun hHeld => ?_)
    clear hK K hHeld
    try simp only [Act.put, List.setIfInBounds_toArray, List.set_cons_zero, List.set_cons_succ]
    refine wpAnyH_ready (rs := [3, 5]) (by kernel_rfl) (by simp) ?_
    refine AllReadyH.cons (by simp only [List.getElem?_toArray, List.getElem?_cons_succ, List.getElem?_cons_zero]; rfl) (fun K hK => ?_) ?_
    go_simp
    refine (rinorm_any _ _ z2 k2 _ (by exact H2.out.below HB.out) (by omega)).mono ?_
    rintro e V3 ⟨bq1, Aq1, nq1, kq1, rfl, h, hb⟩
    have hb0 := HB
    replace HB := Lib.hid (below_next HB.out hb)
    replace Zq0 := Lib.hid (Zq0.out.below hb)
    replace Xq0 := Lib.hid (Xq0.out.below hb)
    have Zq1 := Lib.hid h
    clear h hb hb0
    go_wp2_with fail
    refine hK.out _ _ (by exact ⟨(B1.out.below HB.out).cell0, (B1.out.below HB.out).cell1, (B2.out.below HB.out).cell0, (B2.out.below HB.out).cell1⟩) (fun hHeld => ?_)
    clear hK K hHeld
    try simp only [Act.put, List.setIfInBounds_toArray, List.set_cons_zero, List.set_cons_succ]
    refine wpAnyH_ready (rs := [5]) (by kernel_rfl) (by simp) ?_
    refine AllReadyH.cons (by simp only [List.getElem?_toArray, List.getElem?_cons_succ, List.getElem?_cons_zero]; rfl) (fun K hK => ?_) ?_
    go_simp
    obtain ⟨V4, gq1, hV, hg, Xq1, hb⟩ := newBox V3 (.bool false) (.slice none 0 0)
    rw [hV, hg]
    clear hV
    have ne : gq0 ≠ gq1 := by have := Xq0.out.lt; omega
    have qq1 : W.heap.size ≤ gq1 := hg ▸ HB.out.size
    have hb0 := HB
    replace HB := Lib.hid (below_next HB.out hb)
    replace Zq0 := Lib.hid (Zq0.out.below hb)
    replace Xq0 := Lib.hid (Xq0.out.below hb)
    replace Zq1 := Lib.hid (Zq1.out.below hb)
    clear hb hb0 hg
    refine hK.out _ _ (by exact ⟨(B1.out.below HB.out).cell0, (B1.out.below HB.out).cell1, (B2.out.below HB.out).cell0, (B2.out.below HB.out).cell1⟩) (fun hHeld => ?_)
    clear hK K hHeld
    try simp only [Act.put, List.setIfInBounds_toArray, List.set_cons_zero, List.set_cons_succ]
    exact wpAnyH_at #[true, true, true, true, true, true, false, false] (by kernel_rfl) (KEY.out _ _ _ _ _ ⟨bq0, Aq0, nq0, kq0, bq1, Aq1, nq1, kq1, gq0, gq1, rfl, rfl, rfl, rfl, Zq0.out, Zq1.out, Xq0.out, Xq1.out, ne, qq0, qq1, HB.out⟩)
    exact AllReadyH.nil
    refine AllReadyH.cons (by simp only [List.getElem?_toArray, List.getElem?_cons_succ, List.getElem?_cons_zero]; rfl) (fun K hK => ?_) ?_
    go_simp
    obtain ⟨V3, gq1, hV, hg, Xq1, hb⟩ := newBox V2 (.bool false) (.slice none 0 0)
    rw [hV, hg]
    clear hV
    have ne : gq0 ≠ gq1 := by have := Xq0.out.lt; omega
    have qq1 : W.heap.size ≤ gq1 := hg ▸ HB.out.size
    have hb0 := HB
    replace HB := Lib.hid (below_next HB.out hb)
    replace Zq0 := Lib.hid (Zq0.out.below hb)
    replace Xq0 := Lib.hid (Xq0.out.below hb)
    clear hb hb0 hg
    refine hK.out _ _ (by exact ⟨(B1.out.below HB.out).cell0, (B1.out.below HB.out).cell1, (B2.out.below HB.out).cell0, (B2.out.below HB.out).cell1⟩) (fun hHeld => ?_)
    clear hK K hHeld
    try simp only [Act.put, List.setIfInBounds_toArray, List.set_cons_zero, List.set_cons_succ]
    refine wpAnyH_ready (rs := [3]) (by kernel_rfl) (by simp) ?_
    refine AllReadyH.cons (by simp only [List.getElem?_toArray, List.getElem?_cons_succ, List.getElem?_cons_zero]; rfl) (fun K hK => ?_) ?_
    go_simp
    refine (rinorm_any _ _ z2 k2 _ (by exact H2.out.below HB.out) (by omega)).mono ?_
    rintro e V4 ⟨bq1, Aq1, nq1, kq1, rfl, h, hb⟩
    have hb0 := HB
    replace HB := Lib.hid (below_next HB.out hb)
    replace Zq0 := Lib.hid (Zq0.out.below hb)
    replace Xq0 := Lib.hid (Xq0.out.below hb)
    replace Xq1 := Lib.hid (Xq1.out.below hb)
    have Zq1 := Lib.hid h
    clear h hb hb0
    go_wp2_with fail
    refine hK.out _ _ (by exact ⟨(B1.out.below HB.out).cell0, (B1.out.below HB.out).cell1, (B2.out.below HB.out).cell0, (B2.out.below HB.out).cell1⟩) (fun hHeld => ?_)
    clear hK K hHeld
    try simp only [Act.put, List.setIfInBounds_toArray, List.set_cons_zero, List.set_cons_succ]
    exact wpAnyH_at #[true, true, true, true, true, true, false, false] (by kernel_rfl) (KEY.out _ _ _ _ _ ⟨bq0, Aq0, nq0, kq0, bq1, Aq1, nq1, kq1, gq0, gq1, rfl, rfl, rfl, rfl, Zq0.out, Zq1.out, Xq0.out, Xq1.out, ne, qq0, qq1, HB.out⟩)
    exact AllReadyH.nil
    exact AllReadyH.nil
    refine AllReadyH.cons (by simp only [List.getElem?_toArray, List.getElem?_cons_succ, List.getElem?_cons_zero]; rfl) (fun K hK => ?_) ?_
    go_simp
    obtain ⟨V2, gq1, hV, hg, Xq1, hb⟩ := newBox V1 (.bool false) (.slice none 0 0)
    rw [hV, hg]
    clear hV
    have ne : gq0 ≠ gq1 := by have := Xq0.out.lt; omega
    have qq1 : W.heap.size ≤ gq1 := hg ▸ HB.out.size
    have hb0 := HB
    replace HB := Lib.hid (below_next HB.out hb)
    replace Xq0 := Lib.hid (Xq0.out.below hb)
    clear hb hb0 hg
    refine hK.out _ _ (by exact ⟨(B1.out.below HB.out).cell0, (B1.out.below HB.out).cell1, (B2.out.below HB.out).cell0, (B2.out.below HB.out).cell1⟩) (fun hHeld => ?_)
    clear hK K hHeld
    try simp only [Act.put, List.setIfInBounds_toArray, List.set_cons_zero, List.set_cons_succ]
    refine wpAnyH_ready (rs := [1]) (by kernel_rfl) (by simp) ?_
    refine AllReadyH.cons (by simp only [List.getElem?_toArray, List.getElem?_cons_succ, List.getElem?_cons_zero]; rfl) (fun K hK => ?_) ?_
    go_simp
    refine (rinorm_any _ _ z1 k1 _ (by exact H1.out.below HB.out) (by omega)).mono ?_
    rintro e V3 ⟨bq0, Aq0, nq0, kq0, rfl, h, hb⟩
    have hb0 := HB
    replace HB := Lib.hid (below_next HB.out hb)
    replace Xq0 := Lib.hid (Xq0.out.below hb)
    replace Xq1 := Lib.hid (Xq1.out.below hb)
    have Zq0 := Lib.hid h
    clear h hb hb0
    go_wp2_with fail
    refine hK.out _ _ (by exact ⟨(B1.out.below HB.out).cell0, (B1.out.below HB.out).cell1, (B2.out.below HB.out).cell0, (B2.out.below HB.out).cell1⟩) (fun hHeld => ?_)
    clear hK K hHeld
    try simp only [Act.put, List.setIfInBounds_toArray, List.set_cons_zero, List.set_cons_succ]
    refine wpAnyH_ready (rs := [3]) (by kernel_rfl) (by simp) ?_
    refine AllReadyH.cons (by simp only [List.getElem?_toArray, List.getElem?_cons_succ, List.getElem?_cons_zero]; rfl) (fun K hK => ?_) ?_
    go_simp
    refine (rinorm_any _ _ z2 k2 _ (by exact H2.out.below HB.out) (by omega)).mono ?_
    rintro e V4 ⟨bq1, Aq1, nq1, kq1, rfl, h, hb⟩
    have hb0 := HB
    replace HB := Lib.hid (below_next HB.out hb)
    replace Zq0 := Lib.hid (Zq0.out.below hb)
    replace Xq0 := Lib.hid (Xq0.out.below hb)
    replace Xq1 := Lib.hid (Xq1.out.below hb)
    have Zq1 := Lib.hid h
    clear h hb hb0
    go_wp2_with fail
    refine hK.out _ _ (by exact ⟨(B1.out.below HB.out).cell0, (B1.out.below HB.out).cell1, (B2.out.below HB.out).cell0, (B2.out.below HB.out).cell1⟩) (fun hHeld => ?_)
    clear hK K hHeld
    try simp only [Act.put, List.setIfInBounds_toArray, List.set_cons_zero, List.set_cons_succ]
    exact wpAnyH_at #[true, true, true, true, true, true, false, false] (by kernel_rfl) (KEY.out _ _ _ _ _ ⟨bq0, Aq0, nq0, kq0, bq1, Aq1, nq1, kq1, gq0, gq1, rfl, rfl, rfl, rfl, Zq0.out, Zq1.out, Xq0.out, Xq1.out, ne, qq0, qq1, HB.out⟩)
    exact AllReadyH.nil
    exact AllReadyH.nil
    exact AllReadyH.nil
    refine AllReadyH.cons (by simp only [List.getElem?_toArray, List.getElem?_cons_succ, List.getElem?_cons_zero]; rfl) (fun K hK => ?_) ?_
    go_simp
    obtain ⟨V1, gq1, hV, hg, Xq1, hb⟩ := newBox V0 (.bool false) (.slice none 0 0)
    rw [hV, hg]
    clear hV
    have qq1 : W.heap.size ≤ gq1 := hg ▸ HB.out.size
    have hb0 := HB
    replace HB := Lib.hid (below_next HB.out hb)
    clear hb hb0 hg
    refine hK.out _ _ (by exact ⟨(B1.out.below HB.out).cell0, (B1.out.below HB.out).cell1, (B2.out.below HB.out).cell0, (B2.out.below HB.out).cell1⟩) (fun hHeld => ?_)
    clear hK K hHeld
    try simp only [Act.put, List.setIfInBounds_toArray, List.set_cons_zero, List.set_cons_succ]
    refine wpAnyH_ready (rs := [1, 4]) (by kernel_rfl) (by simp) ?_
    refine AllReadyH.cons (by simp only [List.getElem?_toArray, List.getElem?_cons_succ, List.getElem?_cons_zero]; rfl) (fun K hK => ?_) ?_
    go_simp
    refine (rinorm_any _ _ z1 k1 _ (by exact H1.out.below HB.out) (by omega)).mono ?_
    rintro e V2 ⟨bq0, Aq0, nq0, kq0, rfl, h, hb⟩
    have hb0 := HB
    replace HB := Lib.hid (below_next HB.out hb)
    replace Xq1 := Lib.hid (Xq1.out.below hb)
    have Zq0 := Lib.hid h
    clear h hb hb0
    go_wp2_with fail
    refine hK.out _ _ (by exact ⟨(B1.out.below HB.out).cell0, (B1.out.below HB.out).cell1, (B2.out.below HB.out).cell0, (B2.out.below HB.out).cell1⟩) (fun hHeld => ?_)
    clear hK K hHeld
    try simp only [Act.put, List.setIfInBounds_toArray, List.set_cons_zero, List.set_cons_succ]
    refine wpAnyH_ready (rs := [3, 4]) (by kernel_rfl) (by simp) ?_
    refine AllReadyH.cons (by simp only [List.getElem?_toArray, List.getElem?_cons_succ, List.getElem?_cons_zero]; rfl) (fun K hK => ?_) ?_
    go_simp
    refine (rinorm_any _ _ z2 k2 _ (by exact H2.out.below HB.out) (by omega)).mono ?_
    rintro e V3 ⟨bq1, Aq1, nq1, kq1, rfl, h, hb⟩
    have hb0 := HB
    replace HB := Lib.hid (below_next HB.out hb)
    replace Zq0 := Lib.hid (Zq0.out.below hb)
    replace Xq1 := Lib.hid (Xq1.out.below hb)
    have Zq1 := Lib.hid h
    clear h hb hb0
    go_wp2_with fail
    refine hK.out _ _ (by exact ⟨(B1.out.below HB.out).cell0, (B1.out.below HB.out).cell1, (B2.out.below HB.out).cell0, (B2.out.below HB.out).cell1⟩) (fun hHeld => ?_)
    clear hK K hHeld
    try simp only [Act.put, List.setIfInBounds_toArray, List.set_cons_zero, List.set_cons_succ]
    refine wpAnyH_ready (rs := [4]) (by kernel_rfl) (by simp) ?_
    refine AllReadyH.cons (by simp only [List.getElem?_toArray, List.getElem?_cons_succ, List.getElem?_cons_zero]; rfl) (fun K hK => ?_) ?_
    go_simp
    obtain ⟨V4, gq0, hV, hg, Xq0, hb⟩ := newBox V3 (.bool false) (.slice none 0 0)
    rw [hV, hg]
    clear hV
    have ne : gq0 ≠ gq1 := by have := Xq1.out.lt; omega
    have qq0 : W.heap.size ≤ gq0 := hg ▸ HB.out.size
    have hb0 := HB
    replace HB := Lib.hid (below_next HB.out hb)
    replace Zq0 := Lib.hid (Zq0.out.below hb)
    replace Zq1 := Lib.hid (Zq1.out.below hb)
    replace Xq1 := Lib.hid (Xq1.out.below hb)
    clear hb hb0 hg
    refine hK.out _ _ (by exact ⟨(B1.out.below HB.out).cell0, (B1.out.below HB.out).cell1, (B2.out.below HB.out).cell0, (B2.out.below HB.out).cell1⟩) (fun hHeld => ?_)
    clear hK K hHeld
    try simp only [Act.put, List.setIfInBounds_toArray, List.set_cons_zero, List.set_cons_succ]
    exact wpAnyH_at #[true, true, true, true, true, true, false, false] (by kernel_rfl) (KEY.out _ _ _ _ _ ⟨bq0, Aq0, nq0, kq0, bq1, Aq1, nq1, kq1, gq0, gq1, rfl, rfl, rfl, rfl, Zq0.out, Zq1.out, Xq0.out, Xq1.out, ne, qq0, qq1, HB.out⟩)
    exact AllReadyH.nil
    refine AllReadyH.cons (by simp only [List.getElem?_toArray, List.getElem?_cons_succ, List.getElem?_cons_zero]; rfl) (fun K hK => ?_) ?_
    go_simp
    obtain ⟨V3, gq0, hV, hg, Xq0, hb⟩ := newBox V2 (.bool false) (.slice none 0 0)
    rw [hV, hg]
    clear hV
    have ne : gq0 ≠ gq1 := by have := Xq1.out.lt; omega
    have qq0 : W.heap.size ≤ gq0 := hg ▸ HB.out.size
    have hb0 := HB
    replace HB := Lib.hid (below_next HB.out hb)
    replace Zq0 := Lib.hid (Zq0.out.below hb)
    replace Xq1 := Lib.hid (Xq1.out.below hb)
    clear hb hb0 hg
    refine hK.out _ _ (by exact ⟨(B1.out.below HB.out).cell0, (B1.out.below HB.out).cell1, (B2.out.below HB.out).cell0, (B2.out.below HB.out).cell1⟩) (fun hHeld => ?_)
    clear hK K hHeld
    try simp only [Act.put, List.setIfInBounds_toArray, List.set_cons_zero, List.set_cons_succ]
    refine wpAnyH_ready (rs := [3]) (by kernel_rfl) (by simp) ?_
    refine AllReadyH.cons (by simp only [List.getElem?_toArray, List.getElem?_cons_succ, List.getElem?_cons_zero]; rfl) (fun K hK => ?_) ?_
    go_simp
    refine (rinorm_any _ _ z2 k2 _ (by exact H2.out.below HB.out) (by omega)).mono ?_
    rintro e V4 ⟨bq1, Aq1, nq1, kq1, rfl, h, hb⟩
    have hb0 := HB
    replace HB := Lib.hid (below_next HB.out hb)
    replace Zq0 := Lib.hid (Zq0.out.below hb)
    replace Xq0 := Lib.hid (Xq0.out.below hb)
    replace Xq1 := Lib.hid (Xq1.out.below hb)
    have Zq1 := Lib.hid h
    clear h hb hb0
    go_wp2_with fail
    refine hK.out _ _ (by exact ⟨(B1.out.below HB.out).cell0, (B1.out.below HB.out).cell1, (B2.out.below HB.out).cell0, (B2.out.below HB.out).cell1⟩) (fun hHeld => ?_)
    clear hK K hHeld
    try simp only [Act.put, List.setIfInBounds_toArray, List.set_cons_zero, List.set_cons_succ]
    exact wpAnyH_at #[true, true, true, true, true, true, false, false] (by kernel_rfl) (KEY.out _ _ _ _ _ ⟨bq0, Aq0, nq0, kq0, bq1, Aq1, nq1, kq1, gq0, gq1, rfl, rfl, rfl, rfl, Zq0.out, Zq1.out, Xq0.out, Xq1.out, ne, qq0, qq1, HB.out⟩)
    exact AllReadyH.nil
    exact AllReadyH.nil
    refine AllReadyH.cons (by simp only [List.getElem?_toArray, List.getElem?_cons_succ, List.getElem?_cons_zero]; rfl) (fun K hK => ?_) ?_
    go_simp
    obtain ⟨V2, gq0, hV, hg, Xq0, hb⟩ := newBox V1 (.bool false) (.slice none 0 0)
    rw [hV, hg]
    clear hV
    have ne : gq0 ≠ gq1 := by have := Xq1.out.lt; omega
    have qq0 : W.heap.size ≤ gq0 := hg ▸ HB.out.size
    have hb0 := HB
    replace HB := Lib.hid (below_next HB.out hb)
    replace Xq1 := Lib.hid (Xq1.out.below hb)
    clear hb hb0 hg
    refine hK.out _ _ (by exact ⟨(B1.out.below HB.out).cell0, (B1.out.below HB.out).cell1, (B2.out.below HB.out).cell0, (B2.out.below HB.out).cell1⟩) (fun hHeld => ?_)
    clear hK K hHeld
    try simp only [Act.put, List.setIfInBounds_toArray, List.set_cons_zero, List.set_cons_succ]
    refine wpAnyH_ready (rs := [1]) (by kernel_rfl) (by simp) ?_
    refine AllReadyH.cons (by simp only [List.getElem?_toArray, List.getElem?_cons_succ, List.getElem?_cons_zero]; rfl) (fun K hK => ?_) ?_
    go_simp
    refine (rinorm_any _ _ z1 k1 _ (by exact H1.out.below HB.out) (by omega)).mono ?_
    rintro e V3 ⟨bq0, Aq0, nq0, kq0, rfl, h, hb⟩
    have hb0 := HB
    replace HB := Lib.hid (below_next HB.out hb)
    replace Xq0 := Lib.hid (Xq0.out.below hb)
    replace Xq1 := Lib.hid (Xq1.out.below hb)
    have Zq0 := Lib.hid h
    clear h hb hb0
    go_wp2_with fail
    refine hK.out _ _ (by exact ⟨(B1.out.below HB.out).cell0, (B1.out.below HB.out).cell1, (B2.out.below HB.out).cell0, (B2.out.below HB.out).cell1⟩) (fun hHeld => ?_)
    clear hK K hHeld
    try simp only [Act.put, List.setIfInBounds_toArray, List.set_cons_zero, List.set_cons_succ]
    refine wpAnyH_ready (rs := [3]) (by kernel_rfl) (by simp) ?_
    refine AllReadyH.cons (by simp only [List.getElem?_toArray, List.getElem?_cons_succ, List.getElem?_cons_zero]; rfl) (fun K hK => ?_) ?_
    go_simp
    refine (rinorm_any _ _ z2 k2 _ (by exact H2.out.below HB.out) (by omega)).mono ?_
    rintro e V4 ⟨bq1, Aq1, nq1, kq1, rfl, h, hb⟩
    have hb0 := HB
    replace HB := Lib.hid (below_next HB.out hb)
    replace Zq0 := Lib.hid (Zq0.out.below hb)
    replace Xq0 := Lib.hid (Xq0.out.below hb)
    replace Xq1 := Lib.hid (Xq1.out.below hb)
    have Zq1 := Lib.hid h
    clear h hb hb0
    go_wp2_with fail
    refine hK.out _ _ (by exact ⟨(B1.out.below HB.out).cell0, (B1.out.below HB.out).cell1, (B2.out.below HB.out).cell0, (B2.out.below HB.out).cell1⟩) (fun hHeld => ?_)
    clear hK K hHeld
    try simp only [Act.put, List.setIfInBounds_toArray, List.set_cons_zero, List.set_cons_succ]
    exact wpAnyH_at #[true, true, true, true, true, true, false, false] (by kernel_rfl) (KEY.out _ _ _ _ _ ⟨bq0, Aq0, nq0, kq0, bq1, Aq1, nq1, kq1, gq0, gq1, rfl, rfl, rfl, rfl, Zq0.out, Zq1.out, Xq0.out, Xq1.out, ne, qq0, qq1, HB.out⟩)
    exact AllReadyH.nil
    exact AllReadyH.nil
    exact AllReadyH.nil
    exact AllReadyH.nil
  · rintro _ _ _ _ V5 ⟨bq0, Aq0, nq0, kq0, bq1, Aq1, nq1, kq1, gq0, gq1, rfl, rfl, rfl, rfl, y0, y1, x0, x1, ne, qq0, qq1, hbv⟩
    have Yq0 := Lib.hid y0
    have Yq1 := Lib.hid y1
    have Xq0 := Lib.hid x0
    have Xq1 := Lib.hid x1
    have HB := Lib.hid hbv
    clear y0 y1 x0 x1 hbv
    try simp only [Act.put, List.setIfInBounds_toArray, List.set_cons_zero, List.set_cons_succ]
    have xcell0 := Xq0.out.cell0
    have xcell1 := Xq0.out.cell1
    have xfro0 := Xq0.out.fro 0
    have xfro1 := Xq0.out.fro 1
    refine wpAnyH_ready (rs := [6]) (by kernel_rfl) (by simp) ?_
    refine AllReadyH.cons (by simp only [List.getElem?_toArray, List.getElem?_cons_succ, List.getElem?_cons_zero]; rfl) (fun K hK => ?_) AllReadyH.nil
    go_simp
    clear xcell0 xcell1 xfro0 xfro1
    obtain ⟨U1, hU, Dq0, sz, sb, sw⟩ := storeBox Xq0.out (.bool bq0) (.slice Aq0 nq0 kq0)
    rw [hU]
    clear hU
    replace Yq0 := Lib.hid (sz.out _ _ _ Yq0.out)
    replace Yq1 := Lib.hid (sz.out _ _ _ Yq1.out)
    replace HB := Lib.hid (sw.out _ HB.out qq0)
    replace Xq1 := Lib.hid (sb.out _ _ _ Xq1.out (fun e => ne e.symm))
    clear sz sb sw Xq0
    refine hK.out _ _ (by exact ⟨(B1.out.below HB.out).cell0, (B1.out.below HB.out).cell1, (B2.out.below HB.out).cell0, (B2.out.below HB.out).cell1⟩) (fun hHeld => ?_)
    clear hK K hHeld
    have xcell0 := Xq1.out.cell0
    have xcell1 := Xq1.out.cell1
    have xfro0 := Xq1.out.fro 0
    have xfro1 := Xq1.out.fro 1
    refine wpAnyH_ready (rs := [7]) (by kernel_rfl) (by simp) ?_
    refine AllReadyH.cons (by simp only [List.getElem?_toArray, List.getElem?_cons_succ, List.getElem?_cons_zero]; rfl) (fun K hK => ?_) AllReadyH.nil
    go_simp
    clear xcell0 xcell1 xfro0 xfro1
    obtain ⟨U2, hU, Dq1, sz, sb, sw⟩ := storeBox Xq1.out (.bool bq1) (.slice Aq1 nq1 kq1)
    rw [hU]
    clear hU
    replace Yq0 := Lib.hid (sz.out _ _ _ Yq0.out)
    replace Yq1 := Lib.hid (sz.out _ _ _ Yq1.out)
    replace HB := Lib.hid (sw.out _ HB.out qq1)
    replace Dq0 := Lib.hid (sb.out _ _ _ Dq0.out ne)
    clear sz sb sw Xq1
    refine hK.out _ _ (by exact ⟨(B1.out.below HB.out).cell0, (B1.out.below HB.out).cell1, (B2.out.below HB.out).cell0, (B2.out.below HB.out).cell1⟩) (fun hHeld => ?_)
    clear hK K hHeld
    refine wpAnyH_done (by kernel_rfl) (NoPanic.normal ?_) _
    have DWH := Lib.hid (below_next HW.out HB.out)
    clear HB
    have c00 := Dq0.out.cell0
    have c01 := Dq0.out.cell1
    have c10 := Dq1.out.cell0
    have c11 := Dq1.out.cell1
    have e1 := Yq0.out.1
    have e2 := Yq1.out.1
    have ZH1 := Yq0
    have ZH2 := Yq1
    clear Yq0 Yq1
    by_cases s1 : z1 < 0
    · by_cases s2 : z2 < 0
      · obtain rfl : bq0 = true := by rw [e1]; exact decide_eq_true s1
        obtain rfl : bq1 = true := by rw [e2]; exact decide_eq_true s2
        clear e1 e2
        go_wp2_with fail
        refine (rcmp_below _ _ _ _ _ (by exact ZH2.out.2) (by exact ZH1.out.2)).mono ?_
        rintro e w3 ⟨rfl, hbq0, _⟩
        rw [val_limbs, val_limbs, zord_neg s1 s2]
        go_wp2
        go_ret
        exact ⟨rfl, below_next DWH.out hbq0⟩
      · obtain rfl : bq0 = true := by rw [e1]; exact decide_eq_true s1
        obtain rfl : bq1 = false := by rw [e2]; exact decide_eq_false s2
        clear e1 e2
        go_wp2
        go_ret
        rw [zord_lt (by omega)]
        exact ⟨rfl, DWH.out⟩
    · by_cases s2 : z2 < 0
      · obtain rfl : bq0 = false := by rw [e1]; exact decide_eq_false s1
        obtain rfl : bq1 = true := by rw [e2]; exact decide_eq_true s2
        clear e1 e2
        go_wp2
        go_ret
        rw [zord_gt (by omega)]
        exact ⟨rfl, DWH.out⟩
      · obtain rfl : bq0 = false := by rw [e1]; exact decide_eq_false s1
        obtain rfl : bq1 = false := by rw [e2]; exact decide_eq_false s2
        clear e1 e2
        go_wp2_with fail
        refine (rcmp_below _ _ _ _ _ (by exact ZH1.out.2) (by exact ZH2.out.2)).mono ?_
        rintro e w3 ⟨rfl, hbq0, _⟩
        rw [val_limbs, val_limbs, zord_pos (by omega) (by omega)]
        go_wp2
        go_ret
        exact ⟨rfl, below_next DWH.out hbq0⟩
end Go.Proofs.YtoflndeonegkpaaGreatDoor
