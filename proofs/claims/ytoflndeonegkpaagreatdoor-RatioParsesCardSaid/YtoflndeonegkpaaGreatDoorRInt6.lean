/- garmentref02: DivMod. -/
import Derived.Test.YtoflndeonegkpaaGreatDoorTwo
namespace Go.Proofs.YtoflndeonegkpaaGreatDoor
open Go.RowKit

theorem IntAt.limbs_len {w : World} {b : Bool} {m : Value} {z : Int} {k : Nat} (h : IntAt w b m z k) : (limbs z.natAbs).length ≤ k := by
  obtain ⟨xs, h1, hl, rfl⟩ := h
  rw [zval_abs]
  exact Nat.le_trans (limbs_val_length h1.lim) hl
section
variable {z1 z2 : Int}
theorem rdm_pp (h1 : ¬ z1 < 0) (h2 : ¬ z2 < 0) : z1 / z2 = zval false (limbs (z1.natAbs / z2.natAbs)) ∧ z1 % z2 = zval false (limbs (z1.natAbs % z2.natAbs)) := by
  have h := idiv_pp z1.natAbs z2.natAbs
  rw [show ((z1.natAbs : Nat) : Int) = z1 by omega, show ((z2.natAbs : Nat) : Int) = z2 by omega] at h
  rw [zval_false, val_limbs, zval_false, val_limbs]
  exact h
theorem rdm_pn (h1 : ¬ z1 < 0) (h2 : z2 < 0) : z1 / z2 = zval true (limbs (z1.natAbs / z2.natAbs)) ∧ z1 % z2 = zval false (limbs (z1.natAbs % z2.natAbs)) := by
  have h := idiv_pn z1.natAbs z2.natAbs
  rw [show ((z1.natAbs : Nat) : Int) = z1 by omega, show -((z2.natAbs : Nat) : Int) = z2 by omega] at h
  rw [zval_true, val_limbs, zval_false, val_limbs]
  exact h
theorem rdm_np (h1 : z1 < 0) (h2 : ¬ z2 < 0) (hz : z2.natAbs ≠ 0) (hr : z1.natAbs % z2.natAbs ≠ 0) : z1 / z2 = zval true (limbs (z1.natAbs / z2.natAbs + 1)) ∧ z1 % z2 = zval false (limbs (z2.natAbs - z1.natAbs % z2.natAbs)) := by
  have h := idiv_np hz hr
  rw [show -((z1.natAbs : Nat) : Int) = z1 by omega, show ((z2.natAbs : Nat) : Int) = z2 by omega] at h
  rw [zval_true, val_limbs, zval_false, val_limbs]
  exact h
theorem rdm_nn (h1 : z1 < 0) (h2 : z2 < 0) (hz : z2.natAbs ≠ 0) (hr : z1.natAbs % z2.natAbs ≠ 0) : z1 / z2 = zval false (limbs (z1.natAbs / z2.natAbs + 1)) ∧ z1 % z2 = zval false (limbs (z2.natAbs - z1.natAbs % z2.natAbs)) := by
  have h := idiv_nn hz hr
  rw [show -((z1.natAbs : Nat) : Int) = z1 by omega, show -((z2.natAbs : Nat) : Int) = z2 by omega] at h
  rw [zval_false, val_limbs, zval_false, val_limbs]
  exact h
theorem rdm_np0 (h1 : z1 < 0) (h2 : ¬ z2 < 0) (hz : z2.natAbs ≠ 0) (hr : z1.natAbs % z2.natAbs = 0) : z1 / z2 = zval true (limbs (z1.natAbs / z2.natAbs)) ∧ z1 % z2 = zval false (limbs (z1.natAbs % z2.natAbs)) := by
  have h := idiv_np0 hz hr
  rw [show -((z1.natAbs : Nat) : Int) = z1 by omega, show ((z2.natAbs : Nat) : Int) = z2 by omega] at h
  rw [zval_true, val_limbs, zval_false, val_limbs, hr]
  exact h
theorem rdm_nn0 (h1 : z1 < 0) (h2 : z2 < 0) (hz : z2.natAbs ≠ 0) (hr : z1.natAbs % z2.natAbs = 0) : z1 / z2 = zval false (limbs (z1.natAbs / z2.natAbs)) ∧ z1 % z2 = zval false (limbs (z1.natAbs % z2.natAbs)) := by
  have h := idiv_nn0 hz hr
  rw [show -((z1.natAbs : Nat) : Int) = z1 by omega, show -((z2.natAbs : Nat) : Int) = z2 by omega] at h
  rw [zval_false, val_limbs, zval_false, val_limbs, hr]
  exact h
end

set_option maxRecDepth 100000 in
set_option maxHeartbeats 16000000 in
theorem ridivmod_all (b1 b2 : Bool) (m1 m2 : Value) (z1 z2 : Int) (k1 k2 : Nat) (w : World) (h1 : IntAt w b1 m1 z1 k1) (h2 : IntAt w b2 m2 z2 k2) (hk1 : k1 ≤ 50000) (hk2 : k2 ≤ 50000) :
    Calls Tryz.prog 44 #[.agg #[.bool b1, m1], .agg #[.bool b2, m2]] w (GivesZZ w (if z2 = 0 then 0 else z1 / z2) (if z2 = 0 then 0 else z1 % z2) (decide (z2 ≠ 0))) := by
  have H1 := Lib.hid h1
  have H2 := Lib.hid h2
  have HX1 := Lib.hid h1.limbs_len
  have HX2 := Lib.hid h2.limbs_len
  clear h1 h2
  obtain ⟨W, hW, B1, B2, B3, B4, HW, HS⟩ := boxes4 w (.bool b1) m1 (.bool b2) m2 (.bool false) (.slice none 0 0) (.bool false) (.slice none 0 0)
  replace H1 := Lib.hid (H1.out.below HW.out)
  replace H2 := Lib.hid (H2.out.below HW.out)
  have HWE := Lib.hid hW
  clear hW
  go_enter Tryz.func44, Tryz.ntmps44
  go_upto_region 1 with fail
  rw [HWE.out]
  clear HWE
  have s_B10 := B1.out.cell0
  have s_B11 := B1.out.cell1
  have s_B20 := B2.out.cell0
  have s_B21 := B2.out.cell1
  refine wp_region_noPanic ?_
  refine wp_region_held_drew (S := fun w' => w'.cell? ⟨w.heap.size, 0, none⟩ = some (.bool b1) ∧ w'.cell? ⟨w.heap.size, 1, none⟩ = some m1 ∧ w'.cell? ⟨w.heap.size + 1, 0, none⟩ = some (.bool b2) ∧ w'.cell? ⟨w.heap.size + 1, 1, none⟩ = some m2) (by kernel_rfl) (by exact ⟨s_B10, s_B11, s_B20, s_B21⟩) (fun hHeld => ?_)
  clear s_B10 s_B11 s_B20 s_B21
  have HB := Lib.hid (belowDrew W)
  generalize W.drew = V0 at HB hHeld ⊢
  refine wpAnyH_take2 0 (v := ?_) (fun _ _ _ _ _ h => h) (by simp only [List.getElem?_toArray, List.getElem?_cons_zero]; rfl) (by kernel_rfl) (by kernel_rfl) (by kernel_rfl) (by rfl) ?_ hHeld ?_
  rotate_left
  · (intro w hSw; (try dsimp only at hSw); go_simp; (try with_reducible rfl))
  simp only [Act.put, List.setIfInBounds_toArray, List.set_cons_zero, List.set_cons_succ]
  refine wpAnyH_take2 2 (v := ?_) (fun _ _ _ _ _ h => h) (by simp only [List.getElem?_toArray, List.getElem?_cons_succ, List.getElem?_cons_zero]; rfl) (by kernel_rfl) (by kernel_rfl) (by kernel_rfl) (by rfl) ?_ hHeld ?_
  rotate_left
  · (intro w hSw; (try dsimp only at hSw); go_simp; (try with_reducible rfl))
  simp only [Act.put, List.setIfInBounds_toArray, List.set_cons_zero, List.set_cons_succ]
  refine wpAnyH_key4 2 #[true, true, true, true, true, true, false, false] 13 15 7 8 (TwoJ W z1 z2) ?_ (fun key => ?_)
  rotate_left
  · simp only [Act.put, List.setIfInBounds_toArray, List.set_cons_zero, List.set_cons_succ] at key
    have KEY := Lib.hid key
    clear key
    refine wpAnyH_ready (rs := [1, 4, 5]) (by kernel_rfl) (by simp) ?_
    refine AllReadyH.cons (by simp only [List.getElem?_toArray, List.getElem?_cons_succ, List.getElem?_cons_zero]; rfl) (fun K hK => ?_) ?_
    · go_simp
      refine (rinorm_any _ _ z1 k1 _ (by exact H1.out.below HB.out) (by omega)).mono ?_
      rintro e V1 ⟨bq0, Aq0, nq0, kq0, rfl, h, hb⟩
      have hb0 := HB
      replace HB := Lib.hid (below_next HB.out hb)
      have Zq0 := Lib.hid h
      clear h hb hb0
      go_wp2_with fail
      refine hK.out _ _ (by exact ⟨(B1.out.below HB.out).cell0, (B1.out.below HB.out).cell1, (B2.out.below HB.out).cell0, (B2.out.below HB.out).cell1⟩) (fun hHeld => ?_)
      clear hK K hHeld
      try simp only [Act.put, List.setIfInBounds_toArray, List.set_cons_zero, List.set_cons_succ]
      refine wpAnyH_ready (rs := [3, 4, 5]) (by kernel_rfl) (by simp) ?_
      refine AllReadyH.cons (by simp only [List.getElem?_toArray, List.getElem?_cons_succ, List.getElem?_cons_zero]; rfl) (fun K hK => ?_) ?_
      · go_simp
        refine (rinorm_any _ _ z2 k2 _ (by exact H2.out.below HB.out) (by omega)).mono ?_
        rintro e V2 ⟨bq1, Aq1, nq1, kq1, rfl, h, hb⟩
        have hb0 := HB
        replace HB := Lib.hid (below_next HB.out hb)
        replace Zq0 := Lib.hid (Zq0.out.below hb)
        have Zq1 := Lib.hid h
        clear h hb hb0
        go_wp2_with fail
        refine hK.out _ _ (by exact ⟨(B1.out.below HB.out).cell0, (B1.out.below HB.out).cell1, (B2.out.below HB.out).cell0, (B2.out.below HB.out).cell1⟩) (fun hHeld => ?_)
        clear hK K hHeld
        try simp only [Act.put, List.setIfInBounds_toArray, List.set_cons_zero, List.set_cons_succ]
        refine wpAnyH_ready (rs := [4, 5]) (by kernel_rfl) (by simp) ?_
        refine AllReadyH.cons (by simp only [List.getElem?_toArray, List.getElem?_cons_succ, List.getElem?_cons_zero]; rfl) (fun K hK => ?_) ?_
        · go_simp
          obtain ⟨V3, gq0, hV, hg, Xq0, hb⟩ := newBox V2 (.bool false) (.slice none 0 0)
          rw [hV, hg]
          clear hV
          have qq0 : W.heap.size ≤ gq0 := hg ▸ HB.out.size
          have hb0 := HB
          replace HB := Lib.hid (below_next HB.out hb)
          replace Zq0 := Lib.hid (Zq0.out.below hb)
          replace Zq1 := Lib.hid (Zq1.out.below hb)
          clear hb hb0 hg
          refine hK.out _ _ (by exact ⟨(B1.out.below HB.out).cell0, (B1.out.below HB.out).cell1, (B2.out.below HB.out).cell0, (B2.out.below HB.out).cell1⟩) (fun hHeld => ?_)
          clear hK K hHeld
          try simp only [Act.put, List.setIfInBounds_toArray, List.set_cons_zero, List.set_cons_succ]
          refine wpAnyH_ready (rs := [5]) (by kernel_rfl) (by simp) ?_
          refine AllReadyH.cons (by simp only [List.getElem?_toArray, List.getElem?_cons_succ, List.getElem?_cons_zero]; rfl) (fun K hK => ?_) ?_
          · go_simp
            obtain ⟨V4, gq1, hV, hg, Xq1, hb⟩ := newBox V3 (.bool false) (.slice none 0 0)
            rw [hV, hg]
            clear hV
            have ne : gq0 ≠ gq1 := by have := Xq0.out.lt; omega
            have qq1 : W.heap.size ≤ gq1 := hg ▸ HB.out.size
            have hb0 := HB
            replace HB := Lib.hid (below_next HB.out hb)
            replace Zq0 := Lib.hid (Zq0.out.below hb)
            replace Xq0 := Lib.hid (Xq0.out.below hb)
            replace Zq1 := Lib.hid (Zq1.out.below hb)
            clear hb hb0 hg
            refine hK.out _ _ (by exact ⟨(B1.out.below HB.out).cell0, (B1.out.below HB.out).cell1, (B2.out.below HB.out).cell0, (B2.out.below HB.out).cell1⟩) (fun hHeld => ?_)
            clear hK K hHeld
            try simp only [Act.put, List.setIfInBounds_toArray, List.set_cons_zero, List.set_cons_succ]
            exact wpAnyH_at #[true, true, true, true, true, true, false, false] (by kernel_rfl) (KEY.out _ _ _ _ _ ⟨bq0, Aq0, nq0, kq0, bq1, Aq1, nq1, kq1, gq0, gq1, rfl, rfl, rfl, rfl, Zq0.out, Zq1.out, Xq0.out, Xq1.out, ne, qq0, qq1, HB.out⟩)
          exact AllReadyH.nil
        refine AllReadyH.cons (by simp only [List.getElem?_toArray, List.getElem?_cons_succ, List.getElem?_cons_zero]; rfl) (fun K hK => ?_) ?_
        · go_simp
          obtain ⟨V3, gq1, hV, hg, Xq1, hb⟩ := newBox V2 (.bool false) (.slice none 0 0)
          rw [hV, hg]
          clear hV
          have qq1 : W.heap.size ≤ gq1 := hg ▸ HB.out.size
          have hb0 := HB
          replace HB := Lib.hid (below_next HB.out hb)
          replace Zq0 := Lib.hid (Zq0.out.below hb)
          replace Zq1 := Lib.hid (Zq1.out.below hb)
          clear hb hb0 hg
          refine hK.out _ _ (by exact ⟨(B1.out.below HB.out).cell0, (B1.out.below HB.out).cell1, (B2.out.below HB.out).cell0, (B2.out.below HB.out).cell1⟩) (fun hHeld => ?_)
          clear hK K hHeld
          try simp only [Act.put, List.setIfInBounds_toArray, List.set_cons_zero, List.set_cons_succ]
          refine wpAnyH_ready (rs := [4]) (by kernel_rfl) (by simp) ?_
          refine AllReadyH.cons (by simp only [List.getElem?_toArray, List.getElem?_cons_succ, List.getElem?_cons_zero]; rfl) (fun K hK => ?_) ?_
          · go_simp
            obtain ⟨V4, gq0, hV, hg, Xq0, hb⟩ := newBox V3 (.bool false) (.slice none 0 0)
            rw [hV, hg]
            clear hV
            have ne : gq0 ≠ gq1 := by have := Xq1.out.lt; omega
            have qq0 : W.heap.size ≤ gq0 := hg ▸ HB.out.size
            have hb0 := HB
            replace HB := Lib.hid (below_next HB.out hb)
            replace Zq0 := Lib.hid (Zq0.out.below hb)
            replace Zq1 := Lib.hid (Zq1.out.below hb)
            replace Xq1 := Lib.hid (Xq1.out.below hb)
            clear hb hb0 hg
            refine hK.out _ _ (by exact ⟨(B1.out.below HB.out).cell0, (B1.out.below HB.out).cell1, (B2.out.below HB.out).cell0, (B2.out.below HB.out).cell1⟩) (fun hHeld => ?_)
            clear hK K hHeld
            try simp only [Act.put, List.setIfInBounds_toArray, List.set_cons_zero, List.set_cons_succ]
            exact wpAnyH_at #[true, true, true, true, true, true, false, false] (by kernel_rfl) (KEY.out _ _ _ _ _ ⟨bq0, Aq0, nq0, kq0, bq1, Aq1, nq1, kq1, gq0, gq1, rfl, rfl, rfl, rfl, Zq0.out, Zq1.out, Xq0.out, Xq1.out, ne, qq0, qq1, HB.out⟩)
          exact AllReadyH.nil
        exact AllReadyH.nil
      refine AllReadyH.cons (by simp only [List.getElem?_toArray, List.getElem?_cons_succ, List.getElem?_cons_zero]; rfl) (fun K hK => ?_) ?_
      · go_simp
        obtain ⟨V2, gq0, hV, hg, Xq0, hb⟩ := newBox V1 (.bool false) (.slice none 0 0)
        rw [hV, hg]
        clear hV
        have qq0 : W.heap.size ≤ gq0 := hg ▸ HB.out.size
        have hb0 := HB
        replace HB := Lib.hid (below_next HB.out hb)
        replace Zq0 := Lib.hid (Zq0.out.below hb)
        clear hb hb0 hg
        refine hK.out _ _ (by exact ⟨(B1.out.below HB.out).cell0, (B1.out.below HB.out).cell1, (B2.out.below HB.out).cell0, (B2.out.below HB.out).cell1⟩) (fun hHeld => ?_)
        clear hK K hHeld
        try simp only [Act.put, List.setIfInBounds_toArray, List.set_cons_zero, List.set_cons_succ]
        refine wpAnyH_ready (rs := [3, 5]) (by kernel_rfl) (by simp) ?_
        refine AllReadyH.cons (by simp only [List.getElem?_toArray, List.getElem?_cons_succ, List.getElem?_cons_zero]; rfl) (fun K hK => ?_) ?_
        · go_simp
          refine (rinorm_any _ _ z2 k2 _ (by exact H2.out.below HB.out) (by omega)).mono ?_
          rintro e V3 ⟨bq1, Aq1, nq1, kq1, rfl, h, hb⟩
          have hb0 := HB
          replace HB := Lib.hid (below_next HB.out hb)
          replace Zq0 := Lib.hid (Zq0.out.below hb)
          replace Xq0 := Lib.hid (Xq0.out.below hb)
          have Zq1 := Lib.hid h
          clear h hb hb0
          go_wp2_with fail
          refine hK.out _ _ (by exact ⟨(B1.out.below HB.out).cell0, (B1.out.below HB.out).cell1, (B2.out.below HB.out).cell0, (B2.out.below HB.out).cell1⟩) (fun hHeld => ?_)
          clear hK K hHeld
          try simp only [Act.put, List.setIfInBounds_toArray, List.set_cons_zero, List.set_cons_succ]
          refine wpAnyH_ready (rs := [5]) (by kernel_rfl) (by simp) ?_
          refine AllReadyH.cons (by simp only [List.getElem?_toArray, List.getElem?_cons_succ, List.getElem?_cons_zero]; rfl) (fun K hK => ?_) ?_
          · go_simp
            obtain ⟨V4, gq1, hV, hg, Xq1, hb⟩ := newBox V3 (.bool false) (.slice none 0 0)
            rw [hV, hg]
            clear hV
            have ne : gq0 ≠ gq1 := by have := Xq0.out.lt; omega
            have qq1 : W.heap.size ≤ gq1 := hg ▸ HB.out.size
            have hb0 := HB
            replace HB := Lib.hid (below_next HB.out hb)
            replace Zq0 := Lib.hid (Zq0.out.below hb)
            replace Xq0 := Lib.hid (Xq0.out.below hb)
            replace Zq1 := Lib.hid (Zq1.out.below hb)
            clear hb hb0 hg
            refine hK.out _ _ (by exact ⟨(B1.out.below HB.out).cell0, (B1.out.below HB.out).cell1, (B2.out.below HB.out).cell0, (B2.out.below HB.out).cell1⟩) (fun hHeld => ?_)
            clear hK K hHeld
            try simp only [Act.put, List.setIfInBounds_toArray, List.set_cons_zero, List.set_cons_succ]
            exact wpAnyH_at #[true, true, true, true, true, true, false, false] (by kernel_rfl) (KEY.out _ _ _ _ _ ⟨bq0, Aq0, nq0, kq0, bq1, Aq1, nq1, kq1, gq0, gq1, rfl, rfl, rfl, rfl, Zq0.out, Zq1.out, Xq0.out, Xq1.out, ne, qq0, qq1, HB.out⟩)
          exact AllReadyH.nil
        refine AllReadyH.cons (by simp only [List.getElem?_toArray, List.getElem?_cons_succ, List.getElem?_cons_zero]; rfl) (fun K hK => ?_) ?_
        · go_simp
          obtain ⟨V3, gq1, hV, hg, Xq1, hb⟩ := newBox V2 (.bool false) (.slice none 0 0)
          rw [hV, hg]
          clear hV
          have ne : gq0 ≠ gq1 := by have := Xq0.out.lt; omega
          have qq1 : W.heap.size ≤ gq1 := hg ▸ HB.out.size
          have hb0 := HB
          replace HB := Lib.hid (below_next HB.out hb)
          replace Zq0 := Lib.hid (Zq0.out.below hb)
          replace Xq0 := Lib.hid (Xq0.out.below hb)
          clear hb hb0 hg
          refine hK.out _ _ (by exact ⟨(B1.out.below HB.out).cell0, (B1.out.below HB.out).cell1, (B2.out.below HB.out).cell0, (B2.out.below HB.out).cell1⟩) (fun hHeld => ?_)
          clear hK K hHeld
          try simp only [Act.put, List.setIfInBounds_toArray, List.set_cons_zero, List.set_cons_succ]
          refine wpAnyH_ready (rs := [3]) (by kernel_rfl) (by simp) ?_
          refine AllReadyH.cons (by simp only [List.getElem?_toArray, List.getElem?_cons_succ, List.getElem?_cons_zero]; rfl) (fun K hK => ?_) ?_
          · go_simp
            refine (rinorm_any _ _ z2 k2 _ (by exact H2.out.below HB.out) (by omega)).mono ?_
            rintro e V4 ⟨bq1, Aq1, nq1, kq1, rfl, h, hb⟩
            have hb0 := HB
            replace HB := Lib.hid (below_next HB.out hb)
            replace Zq0 := Lib.hid (Zq0.out.below hb)
            replace Xq0 := Lib.hid (Xq0.out.below hb)
            replace Xq1 := Lib.hid (Xq1.out.below hb)
            have Zq1 := Lib.hid h
            clear h hb hb0
            go_wp2_with fail
            refine hK.out _ _ (by exact ⟨(B1.out.below HB.out).cell0, (B1.out.below HB.out).cell1, (B2.out.below HB.out).cell0, (B2.out.below HB.out).cell1⟩) (fun hHeld => ?_)
            clear hK K hHeld
            try simp only [Act.put, List.setIfInBounds_toArray, List.set_cons_zero, List.set_cons_succ]
            exact wpAnyH_at #[true, true, true, true, true, true, false, false] (by kernel_rfl) (KEY.out _ _ _ _ _ ⟨bq0, Aq0, nq0, kq0, bq1, Aq1, nq1, kq1, gq0, gq1, rfl, rfl, rfl, rfl, Zq0.out, Zq1.out, Xq0.out, Xq1.out, ne, qq0, qq1, HB.out⟩)
          exact AllReadyH.nil
        exact AllReadyH.nil
      refine AllReadyH.cons (by simp only [List.getElem?_toArray, List.getElem?_cons_succ, List.getElem?_cons_zero]; rfl) (fun K hK => ?_) ?_
      · go_simp
        obtain ⟨V2, gq1, hV, hg, Xq1, hb⟩ := newBox V1 (.bool false) (.slice none 0 0)
        rw [hV, hg]
        clear hV
        have qq1 : W.heap.size ≤ gq1 := hg ▸ HB.out.size
        have hb0 := HB
        replace HB := Lib.hid (below_next HB.out hb)
        replace Zq0 := Lib.hid (Zq0.out.below hb)
        clear hb hb0 hg
        refine hK.out _ _ (by exact ⟨(B1.out.below HB.out).cell0, (B1.out.below HB.out).cell1, (B2.out.below HB.out).cell0, (B2.out.below HB.out).cell1⟩) (fun hHeld => ?_)
        clear hK K hHeld
        try simp only [Act.put, List.setIfInBounds_toArray, List.set_cons_zero, List.set_cons_succ]
        refine wpAnyH_ready (rs := [3, 4]) (by kernel_rfl) (by simp) ?_
        refine AllReadyH.cons (by simp only [List.getElem?_toArray, List.getElem?_cons_succ, List.getElem?_cons_zero]; rfl) (fun K hK => ?_) ?_
        · go_simp
          refine (rinorm_any _ _ z2 k2 _ (by exact H2.out.below HB.out) (by omega)).mono ?_
          rintro e V3 ⟨bq1, Aq1, nq1, kq1, rfl, h, hb⟩
          have hb0 := HB
          replace HB := Lib.hid (below_next HB.out hb)
          replace Zq0 := Lib.hid (Zq0.out.below hb)
          replace Xq1 := Lib.hid (Xq1.out.below hb)
          have Zq1 := Lib.hid h
          clear h hb hb0
          go_wp2_with fail
          refine hK.out _ _ (by exact ⟨(B1.out.below HB.out).cell0, (B1.out.below HB.out).cell1, (B2.out.below HB.out).cell0, (B2.out.below HB.out).cell1⟩) (fun hHeld => ?_)
          clear hK K hHeld
          try simp only [Act.put, List.setIfInBounds_toArray, List.set_cons_zero, List.set_cons_succ]
          refine wpAnyH_ready (rs := [4]) (by kernel_rfl) (by simp) ?_
          refine AllReadyH.cons (by simp only [List.getElem?_toArray, List.getElem?_cons_succ, List.getElem?_cons_zero]; rfl) (fun K hK => ?_) ?_
          · go_simp
            obtain ⟨V4, gq0, hV, hg, Xq0, hb⟩ := newBox V3 (.bool false) (.slice none 0 0)
            rw [hV, hg]
            clear hV
            have ne : gq0 ≠ gq1 := by have := Xq1.out.lt; omega
            have qq0 : W.heap.size ≤ gq0 := hg ▸ HB.out.size
            have hb0 := HB
            replace HB := Lib.hid (below_next HB.out hb)
            replace Zq0 := Lib.hid (Zq0.out.below hb)
            replace Zq1 := Lib.hid (Zq1.out.below hb)
            replace Xq1 := Lib.hid (Xq1.out.below hb)
            clear hb hb0 hg
            refine hK.out _ _ (by exact ⟨(B1.out.below HB.out).cell0, (B1.out.below HB.out).cell1, (B2.out.below HB.out).cell0, (B2.out.below HB.out).cell1⟩) (fun hHeld => ?_)
            clear hK K hHeld
            try simp only [Act.put, List.setIfInBounds_toArray, List.set_cons_zero, List.set_cons_succ]
            exact wpAnyH_at #[true, true, true, true, true, true, false, false] (by kernel_rfl) (KEY.out _ _ _ _ _ ⟨bq0, Aq0, nq0, kq0, bq1, Aq1, nq1, kq1, gq0, gq1, rfl, rfl, rfl, rfl, Zq0.out, Zq1.out, Xq0.out, Xq1.out, ne, qq0, qq1, HB.out⟩)
          exact AllReadyH.nil
        refine AllReadyH.cons (by simp only [List.getElem?_toArray, List.getElem?_cons_succ, List.getElem?_cons_zero]; rfl) (fun K hK => ?_) ?_
        · go_simp
          obtain ⟨V3, gq0, hV, hg, Xq0, hb⟩ := newBox V2 (.bool false) (.slice none 0 0)
          rw [hV, hg]
          clear hV
          have ne : gq0 ≠ gq1 := by have := Xq1.out.lt; omega
          have qq0 : W.heap.size ≤ gq0 := hg ▸ HB.out.size
          have hb0 := HB
          replace HB := Lib.hid (below_next HB.out hb)
          replace Zq0 := Lib.hid (Zq0.out.below hb)
          replace Xq1 := Lib.hid (Xq1.out.below hb)
          clear hb hb0 hg
          refine hK.out _ _ (by exact ⟨(B1.out.below HB.out).cell0, (B1.out.below HB.out).cell1, (B2.out.below HB.out).cell0, (B2.out.below HB.out).cell1⟩) (fun hHeld => ?_)
          clear hK K hHeld
          try simp only [Act.put, List.setIfInBounds_toArray, List.set_cons_zero, List.set_cons_succ]
          refine wpAnyH_ready (rs := [3]) (by kernel_rfl) (by simp) ?_
          refine AllReadyH.cons (by simp only [List.getElem?_toArray, List.getElem?_cons_succ, List.getElem?_cons_zero]; rfl) (fun K hK => ?_) ?_
          · go_simp
            refine (rinorm_any _ _ z2 k2 _ (by exact H2.out.below HB.out) (by omega)).mono ?_
            rintro e V4 ⟨bq1, Aq1, nq1, kq1, rfl, h, hb⟩
            have hb0 := HB
            replace HB := Lib.hid (below_next HB.out hb)
            replace Zq0 := Lib.hid (Zq0.out.below hb)
            replace Xq0 := Lib.hid (Xq0.out.below hb)
            replace Xq1 := Lib.hid (Xq1.out.below hb)
            have Zq1 := Lib.hid h
            clear h hb hb0
            go_wp2_with fail
            refine hK.out _ _ (by exact ⟨(B1.out.below HB.out).cell0, (B1.out.below HB.out).cell1, (B2.out.below HB.out).cell0, (B2.out.below HB.out).cell1⟩) (fun hHeld => ?_)
            clear hK K hHeld
            try simp only [Act.put, List.setIfInBounds_toArray, List.set_cons_zero, List.set_cons_succ]
            exact wpAnyH_at #[true, true, true, true, true, true, false, false] (by kernel_rfl) (KEY.out _ _ _ _ _ ⟨bq0, Aq0, nq0, kq0, bq1, Aq1, nq1, kq1, gq0, gq1, rfl, rfl, rfl, rfl, Zq0.out, Zq1.out, Xq0.out, Xq1.out, ne, qq0, qq1, HB.out⟩)
          exact AllReadyH.nil
        exact AllReadyH.nil
      exact AllReadyH.nil
    refine AllReadyH.cons (by simp only [List.getElem?_toArray, List.getElem?_cons_succ, List.getElem?_cons_zero]; rfl) (fun K hK => ?_) ?_
    · go_simp
      obtain ⟨V1, gq0, hV, hg, Xq0, hb⟩ := newBox V0 (.bool false) (.slice none 0 0)
      rw [hV, hg]
      clear hV
      have qq0 : W.heap.size ≤ gq0 := hg ▸ HB.out.size
      have hb0 := HB
      replace HB := Lib.hid (below_next HB.out hb)
      clear hb hb0 hg
      refine hK.out _ _ (by exact ⟨(B1.out.below HB.out).cell0, (B1.out.below HB.out).cell1, (B2.out.below HB.out).cell0, (B2.out.below HB.out).cell1⟩) (fun hHeld => ?_)
      clear hK K hHeld
      try simp only [Act.put, List.setIfInBounds_toArray, List.set_cons_zero, List.set_cons_succ]
      refine wpAnyH_ready (rs := [1, 5]) (by kernel_rfl) (by simp) ?_
      refine AllReadyH.cons (by simp only [List.getElem?_toArray, List.getElem?_cons_succ, List.getElem?_cons_zero]; rfl) (fun K hK => ?_) ?_
      · go_simp
        refine (rinorm_any _ _ z1 k1 _ (by exact H1.out.below HB.out) (by omega)).mono ?_
        rintro e V2 ⟨bq0, Aq0, nq0, kq0, rfl, h, hb⟩
        have hb0 := HB
        replace HB := Lib.hid (below_next HB.out hb)
        replace Xq0 := Lib.hid (Xq0.out.below hb)
        have Zq0 := Lib.hid h
        clear h hb hb0
        go_wp2_with fail
        refine hK.out _ _ (by exact ⟨(B1.out.below HB.out).cell0, (B1.out.below HB.out).cell1, (B2.out.below HB.out).cell0, (B2.out.below HB.out).cell1⟩) (fun hHeld => ?_)
        clear hK K hHeld
        try simp only [Act.put, List.setIfInBounds_toArray, List.set_cons_zero, List.set_cons_succ]
        refine wpAnyH_ready (rs := [3, 5]) (by kernel_rfl) (by simp) ?_
        refine AllReadyH.cons (by simp only [List.getElem?_toArray, List.getElem?_cons_succ, List.getElem?_cons_zero]; rfl) (fun K hK => ?_) ?_
        · go_simp
          refine (rinorm_any _ _ z2 k2 _ (by exact H2.out.below HB.out) (by omega)).mono ?_
          rintro e V3 ⟨bq1, Aq1, nq1, kq1, rfl, h, hb⟩
          have hb0 := HB
          replace HB := Lib.hid (below_next HB.out hb)
          replace Zq0 := Lib.hid (Zq0.out.below hb)
          replace Xq0 := Lib.hid (Xq0.out.below hb)
          have Zq1 := Lib.hid h
          clear h hb hb0
          go_wp2_with fail
          refine hK.out _ _ (by exact ⟨(B1.out.below HB.out).cell0, (B1.out.below HB.out).cell1, (B2.out.below HB.out).cell0, (B2.out.below HB.out).cell1⟩) (fun hHeld => ?_)
          clear hK K hHeld
          try simp only [Act.put, List.setIfInBounds_toArray, List.set_cons_zero, List.set_cons_succ]
          refine wpAnyH_ready (rs := [5]) (by kernel_rfl) (by simp) ?_
          refine AllReadyH.cons (by simp only [List.getElem?_toArray, List.getElem?_cons_succ, List.getElem?_cons_zero]; rfl) (fun K hK => ?_) ?_
          · go_simp
            obtain ⟨V4, gq1, hV, hg, Xq1, hb⟩ := newBox V3 (.bool false) (.slice none 0 0)
            rw [hV, hg]
            clear hV
            have ne : gq0 ≠ gq1 := by have := Xq0.out.lt; omega
            have qq1 : W.heap.size ≤ gq1 := hg ▸ HB.out.size
            have hb0 := HB
            replace HB := Lib.hid (below_next HB.out hb)
            replace Zq0 := Lib.hid (Zq0.out.below hb)
            replace Xq0 := Lib.hid (Xq0.out.below hb)
            replace Zq1 := Lib.hid (Zq1.out.below hb)
            clear hb hb0 hg
            refine hK.out _ _ (by exact ⟨(B1.out.below HB.out).cell0, (B1.out.below HB.out).cell1, (B2.out.below HB.out).cell0, (B2.out.below HB.out).cell1⟩) (fun hHeld => ?_)
            clear hK K hHeld
            try simp only [Act.put, List.setIfInBounds_toArray, List.set_cons_zero, List.set_cons_succ]
            exact wpAnyH_at #[true, true, true, true, true, true, false, false] (by kernel_rfl) (KEY.out _ _ _ _ _ ⟨bq0, Aq0, nq0, kq0, bq1, Aq1, nq1, kq1, gq0, gq1, rfl, rfl, rfl, rfl, Zq0.out, Zq1.out, Xq0.out, Xq1.out, ne, qq0, qq1, HB.out⟩)
          exact AllReadyH.nil
        refine AllReadyH.cons (by simp only [List.getElem?_toArray, List.getElem?_cons_succ, List.getElem?_cons_zero]; rfl) (fun K hK => ?_) ?_
        · go_simp
          obtain ⟨V3, gq1, hV, hg, Xq1, hb⟩ := newBox V2 (.bool false) (.slice none 0 0)
          rw [hV, hg]
          clear hV
          have ne : gq0 ≠ gq1 := by have := Xq0.out.lt; omega
          have qq1 : W.heap.size ≤ gq1 := hg ▸ HB.out.size
          have hb0 := HB
          replace HB := Lib.hid (below_next HB.out hb)
          replace Zq0 := Lib.hid (Zq0.out.below hb)
          replace Xq0 := Lib.hid (Xq0.out.below hb)
          clear hb hb0 hg
          refine hK.out _ _ (by exact ⟨(B1.out.below HB.out).cell0, (B1.out.below HB.out).cell1, (B2.out.below HB.out).cell0, (B2.out.below HB.out).cell1⟩) (fun hHeld => ?_)
          clear hK K hHeld
          try simp only [Act.put, List.setIfInBounds_toArray, List.set_cons_zero, List.set_cons_succ]
          refine wpAnyH_ready (rs := [3]) (by kernel_rfl) (by simp) ?_
          refine AllReadyH.cons (by simp only [List.getElem?_toArray, List.getElem?_cons_succ, List.getElem?_cons_zero]; rfl) (fun K hK => ?_) ?_
          · go_simp
            refine (rinorm_any _ _ z2 k2 _ (by exact H2.out.below HB.out) (by omega)).mono ?_
            rintro e V4 ⟨bq1, Aq1, nq1, kq1, rfl, h, hb⟩
            have hb0 := HB
            replace HB := Lib.hid (below_next HB.out hb)
            replace Zq0 := Lib.hid (Zq0.out.below hb)
            replace Xq0 := Lib.hid (Xq0.out.below hb)
            replace Xq1 := Lib.hid (Xq1.out.below hb)
            have Zq1 := Lib.hid h
            clear h hb hb0
            go_wp2_with fail
            refine hK.out _ _ (by exact ⟨(B1.out.below HB.out).cell0, (B1.out.below HB.out).cell1, (B2.out.below HB.out).cell0, (B2.out.below HB.out).cell1⟩) (fun hHeld => ?_)
            clear hK K hHeld
            try simp only [Act.put, List.setIfInBounds_toArray, List.set_cons_zero, List.set_cons_succ]
            exact wpAnyH_at #[true, true, true, true, true, true, false, false] (by kernel_rfl) (KEY.out _ _ _ _ _ ⟨bq0, Aq0, nq0, kq0, bq1, Aq1, nq1, kq1, gq0, gq1, rfl, rfl, rfl, rfl, Zq0.out, Zq1.out, Xq0.out, Xq1.out, ne, qq0, qq1, HB.out⟩)
          exact AllReadyH.nil
        exact AllReadyH.nil
      refine AllReadyH.cons (by simp only [List.getElem?_toArray, List.getElem?_cons_succ, List.getElem?_cons_zero]; rfl) (fun K hK => ?_) ?_
      · go_simp
        obtain ⟨V2, gq1, hV, hg, Xq1, hb⟩ := newBox V1 (.bool false) (.slice none 0 0)
        rw [hV, hg]
        clear hV
        have ne : gq0 ≠ gq1 := by have := Xq0.out.lt; omega
        have qq1 : W.heap.size ≤ gq1 := hg ▸ HB.out.size
        have hb0 := HB
        replace HB := Lib.hid (below_next HB.out hb)
        replace Xq0 := Lib.hid (Xq0.out.below hb)
        clear hb hb0 hg
        refine hK.out _ _ (by exact ⟨(B1.out.below HB.out).cell0, (B1.out.below HB.out).cell1, (B2.out.below HB.out).cell0, (B2.out.below HB.out).cell1⟩) (fun hHeld => ?_)
        clear hK K hHeld
        try simp only [Act.put, List.setIfInBounds_toArray, List.set_cons_zero, List.set_cons_succ]
        refine wpAnyH_ready (rs := [1]) (by kernel_rfl) (by simp) ?_
        refine AllReadyH.cons (by simp only [List.getElem?_toArray, List.getElem?_cons_succ, List.getElem?_cons_zero]; rfl) (fun K hK => ?_) ?_
        · go_simp
          refine (rinorm_any _ _ z1 k1 _ (by exact H1.out.below HB.out) (by omega)).mono ?_
          rintro e V3 ⟨bq0, Aq0, nq0, kq0, rfl, h, hb⟩
          have hb0 := HB
          replace HB := Lib.hid (below_next HB.out hb)
          replace Xq0 := Lib.hid (Xq0.out.below hb)
          replace Xq1 := Lib.hid (Xq1.out.below hb)
          have Zq0 := Lib.hid h
          clear h hb hb0
          go_wp2_with fail
          refine hK.out _ _ (by exact ⟨(B1.out.below HB.out).cell0, (B1.out.below HB.out).cell1, (B2.out.below HB.out).cell0, (B2.out.below HB.out).cell1⟩) (fun hHeld => ?_)
          clear hK K hHeld
          try simp only [Act.put, List.setIfInBounds_toArray, List.set_cons_zero, List.set_cons_succ]
          refine wpAnyH_ready (rs := [3]) (by kernel_rfl) (by simp) ?_
          refine AllReadyH.cons (by simp only [List.getElem?_toArray, List.getElem?_cons_succ, List.getElem?_cons_zero]; rfl) (fun K hK => ?_) ?_
          · go_simp
            refine (rinorm_any _ _ z2 k2 _ (by exact H2.out.below HB.out) (by omega)).mono ?_
            rintro e V4 ⟨bq1, Aq1, nq1, kq1, rfl, h, hb⟩
            have hb0 := HB
            replace HB := Lib.hid (below_next HB.out hb)
            replace Zq0 := Lib.hid (Zq0.out.below hb)
            replace Xq0 := Lib.hid (Xq0.out.below hb)
            replace Xq1 := Lib.hid (Xq1.out.below hb)
            have Zq1 := Lib.hid h
            clear h hb hb0
            go_wp2_with fail
            refine hK.out _ _ (by exact ⟨(B1.out.below HB.out).cell0, (B1.out.below HB.out).cell1, (B2.out.below HB.out).cell0, (B2.out.below HB.out).cell1⟩) (fun hHeld => ?_)
            clear hK K hHeld
            try simp only [Act.put, List.setIfInBounds_toArray, List.set_cons_zero, List.set_cons_succ]
            exact wpAnyH_at #[true, true, true, true, true, true, false, false] (by kernel_rfl) (KEY.out _ _ _ _ _ ⟨bq0, Aq0, nq0, kq0, bq1, Aq1, nq1, kq1, gq0, gq1, rfl, rfl, rfl, rfl, Zq0.out, Zq1.out, Xq0.out, Xq1.out, ne, qq0, qq1, HB.out⟩)
          exact AllReadyH.nil
        exact AllReadyH.nil
      exact AllReadyH.nil
    refine AllReadyH.cons (by simp only [List.getElem?_toArray, List.getElem?_cons_succ, List.getElem?_cons_zero]; rfl) (fun K hK => ?_) ?_
    · go_simp
      obtain ⟨V1, gq1, hV, hg, Xq1, hb⟩ := newBox V0 (.bool false) (.slice none 0 0)
      rw [hV, hg]
      clear hV
      have qq1 : W.heap.size ≤ gq1 := hg ▸ HB.out.size
      have hb0 := HB
      replace HB := Lib.hid (below_next HB.out hb)
      clear hb hb0 hg
      refine hK.out _ _ (by exact ⟨(B1.out.below HB.out).cell0, (B1.out.below HB.out).cell1, (B2.out.below HB.out).cell0, (B2.out.below HB.out).cell1⟩) (fun hHeld => ?_)
      clear hK K hHeld
      try simp only [Act.put, List.setIfInBounds_toArray, List.set_cons_zero, List.set_cons_succ]
      refine wpAnyH_ready (rs := [1, 4]) (by kernel_rfl) (by simp) ?_
      refine AllReadyH.cons (by simp only [List.getElem?_toArray, List.getElem?_cons_succ, List.getElem?_cons_zero]; rfl) (fun K hK => ?_) ?_
      · go_simp
        refine (rinorm_any _ _ z1 k1 _ (by exact H1.out.below HB.out) (by omega)).mono ?_
        rintro e V2 ⟨bq0, Aq0, nq0, kq0, rfl, h, hb⟩
        have hb0 := HB
        replace HB := Lib.hid (below_next HB.out hb)
        replace Xq1 := Lib.hid (Xq1.out.below hb)
        have Zq0 := Lib.hid h
        clear h hb hb0
        go_wp2_with fail
        refine hK.out _ _ (by exact ⟨(B1.out.below HB.out).cell0, (B1.out.below HB.out).cell1, (B2.out.below HB.out).cell0, (B2.out.below HB.out).cell1⟩) (fun hHeld => ?_)
        clear hK K hHeld
        try simp only [Act.put, List.setIfInBounds_toArray, List.set_cons_zero, List.set_cons_succ]
        refine wpAnyH_ready (rs := [3, 4]) (by kernel_rfl) (by simp) ?_
        refine AllReadyH.cons (by simp only [List.getElem?_toArray, List.getElem?_cons_succ, List.getElem?_cons_zero]; rfl) (fun K hK => ?_) ?_
        · go_simp
          refine (rinorm_any _ _ z2 k2 _ (by exact H2.out.below HB.out) (by omega)).mono ?_
          rintro e V3 ⟨bq1, Aq1, nq1, kq1, rfl, h, hb⟩
          have hb0 := HB
          replace HB := Lib.hid (below_next HB.out hb)
          replace Zq0 := Lib.hid (Zq0.out.below hb)
          replace Xq1 := Lib.hid (Xq1.out.below hb)
          have Zq1 := Lib.hid h
          clear h hb hb0
          go_wp2_with fail
          refine hK.out _ _ (by exact ⟨(B1.out.below HB.out).cell0, (B1.out.below HB.out).cell1, (B2.out.below HB.out).cell0, (B2.out.below HB.out).cell1⟩) (fun hHeld => ?_)
          clear hK K hHeld
          try simp only [Act.put, List.setIfInBounds_toArray, List.set_cons_zero, List.set_cons_succ]
          refine wpAnyH_ready (rs := [4]) (by kernel_rfl) (by simp) ?_
          refine AllReadyH.cons (by simp only [List.getElem?_toArray, List.getElem?_cons_succ, List.getElem?_cons_zero]; rfl) (fun K hK => ?_) ?_
          · go_simp
            obtain ⟨V4, gq0, hV, hg, Xq0, hb⟩ := newBox V3 (.bool false) (.slice none 0 0)
            rw [hV, hg]
            clear hV
            have ne : gq0 ≠ gq1 := by have := Xq1.out.lt; omega
            have qq0 : W.heap.size ≤ gq0 := hg ▸ HB.out.size
            have hb0 := HB
            replace HB := Lib.hid (below_next HB.out hb)
            replace Zq0 := Lib.hid (Zq0.out.below hb)
            replace Zq1 := Lib.hid (Zq1.out.below hb)
            replace Xq1 := Lib.hid (Xq1.out.below hb)
            clear hb hb0 hg
            refine hK.out _ _ (by exact ⟨(B1.out.below HB.out).cell0, (B1.out.below HB.out).cell1, (B2.out.below HB.out).cell0, (B2.out.below HB.out).cell1⟩) (fun hHeld => ?_)
            clear hK K hHeld
            try simp only [Act.put, List.setIfInBounds_toArray, List.set_cons_zero, List.set_cons_succ]
            exact wpAnyH_at #[true, true, true, true, true, true, false, false] (by kernel_rfl) (KEY.out _ _ _ _ _ ⟨bq0, Aq0, nq0, kq0, bq1, Aq1, nq1, kq1, gq0, gq1, rfl, rfl, rfl, rfl, Zq0.out, Zq1.out, Xq0.out, Xq1.out, ne, qq0, qq1, HB.out⟩)
          exact AllReadyH.nil
        refine AllReadyH.cons (by simp only [List.getElem?_toArray, List.getElem?_cons_succ, List.getElem?_cons_zero]; rfl) (fun K hK => ?_) ?_
        · go_simp
          obtain ⟨V3, gq0, hV, hg, Xq0, hb⟩ := newBox V2 (.bool false) (.slice none 0 0)
          rw [hV, hg]
          clear hV
          have ne : gq0 ≠ gq1 := by have := Xq1.out.lt; omega
          have qq0 : W.heap.size ≤ gq0 := hg ▸ HB.out.size
          have hb0 := HB
          replace HB := Lib.hid (below_next HB.out hb)
          replace Zq0 := Lib.hid (Zq0.out.below hb)
          replace Xq1 := Lib.hid (Xq1.out.below hb)
          clear hb hb0 hg
          refine hK.out _ _ (by exact ⟨(B1.out.below HB.out).cell0, (B1.out.below HB.out).cell1, (B2.out.below HB.out).cell0, (B2.out.below HB.out).cell1⟩) (fun hHeld => ?_)
          clear hK K hHeld
          try simp only [Act.put, List.setIfInBounds_toArray, List.set_cons_zero, List.set_cons_succ]
          refine wpAnyH_ready (rs := [3]) (by kernel_rfl) (by simp) ?_
          refine AllReadyH.cons (by simp only [List.getElem?_toArray, List.getElem?_cons_succ, List.getElem?_cons_zero]; rfl) (fun K hK => ?_) ?_
          · go_simp
            refine (rinorm_any _ _ z2 k2 _ (by exact H2.out.below HB.out) (by omega)).mono ?_
            rintro e V4 ⟨bq1, Aq1, nq1, kq1, rfl, h, hb⟩
            have hb0 := HB
            replace HB := Lib.hid (below_next HB.out hb)
            replace Zq0 := Lib.hid (Zq0.out.below hb)
            replace Xq0 := Lib.hid (Xq0.out.below hb)
            replace Xq1 := Lib.hid (Xq1.out.below hb)
            have Zq1 := Lib.hid h
            clear h hb hb0
            go_wp2_with fail
            refine hK.out _ _ (by exact ⟨(B1.out.below HB.out).cell0, (B1.out.below HB.out).cell1, (B2.out.below HB.out).cell0, (B2.out.below HB.out).cell1⟩) (fun hHeld => ?_)
            clear hK K hHeld
            try simp only [Act.put, List.setIfInBounds_toArray, List.set_cons_zero, List.set_cons_succ]
            exact wpAnyH_at #[true, true, true, true, true, true, false, false] (by kernel_rfl) (KEY.out _ _ _ _ _ ⟨bq0, Aq0, nq0, kq0, bq1, Aq1, nq1, kq1, gq0, gq1, rfl, rfl, rfl, rfl, Zq0.out, Zq1.out, Xq0.out, Xq1.out, ne, qq0, qq1, HB.out⟩)
          exact AllReadyH.nil
        exact AllReadyH.nil
      refine AllReadyH.cons (by simp only [List.getElem?_toArray, List.getElem?_cons_succ, List.getElem?_cons_zero]; rfl) (fun K hK => ?_) ?_
      · go_simp
        obtain ⟨V2, gq0, hV, hg, Xq0, hb⟩ := newBox V1 (.bool false) (.slice none 0 0)
        rw [hV, hg]
        clear hV
        have ne : gq0 ≠ gq1 := by have := Xq1.out.lt; omega
        have qq0 : W.heap.size ≤ gq0 := hg ▸ HB.out.size
        have hb0 := HB
        replace HB := Lib.hid (below_next HB.out hb)
        replace Xq1 := Lib.hid (Xq1.out.below hb)
        clear hb hb0 hg
        refine hK.out _ _ (by exact ⟨(B1.out.below HB.out).cell0, (B1.out.below HB.out).cell1, (B2.out.below HB.out).cell0, (B2.out.below HB.out).cell1⟩) (fun hHeld => ?_)
        clear hK K hHeld
        try simp only [Act.put, List.setIfInBounds_toArray, List.set_cons_zero, List.set_cons_succ]
        refine wpAnyH_ready (rs := [1]) (by kernel_rfl) (by simp) ?_
        refine AllReadyH.cons (by simp only [List.getElem?_toArray, List.getElem?_cons_succ, List.getElem?_cons_zero]; rfl) (fun K hK => ?_) ?_
        · go_simp
          refine (rinorm_any _ _ z1 k1 _ (by exact H1.out.below HB.out) (by omega)).mono ?_
          rintro e V3 ⟨bq0, Aq0, nq0, kq0, rfl, h, hb⟩
          have hb0 := HB
          replace HB := Lib.hid (below_next HB.out hb)
          replace Xq0 := Lib.hid (Xq0.out.below hb)
          replace Xq1 := Lib.hid (Xq1.out.below hb)
          have Zq0 := Lib.hid h
          clear h hb hb0
          go_wp2_with fail
          refine hK.out _ _ (by exact ⟨(B1.out.below HB.out).cell0, (B1.out.below HB.out).cell1, (B2.out.below HB.out).cell0, (B2.out.below HB.out).cell1⟩) (fun hHeld => ?_)
          clear hK K hHeld
          try simp only [Act.put, List.setIfInBounds_toArray, List.set_cons_zero, List.set_cons_succ]
          refine wpAnyH_ready (rs := [3]) (by kernel_rfl) (by simp) ?_
          refine AllReadyH.cons (by simp only [List.getElem?_toArray, List.getElem?_cons_succ, List.getElem?_cons_zero]; rfl) (fun K hK => ?_) ?_
          · go_simp
            refine (rinorm_any _ _ z2 k2 _ (by exact H2.out.below HB.out) (by omega)).mono ?_
            rintro e V4 ⟨bq1, Aq1, nq1, kq1, rfl, h, hb⟩
            have hb0 := HB
            replace HB := Lib.hid (below_next HB.out hb)
            replace Zq0 := Lib.hid (Zq0.out.below hb)
            replace Xq0 := Lib.hid (Xq0.out.below hb)
            replace Xq1 := Lib.hid (Xq1.out.below hb)
            have Zq1 := Lib.hid h
            clear h hb hb0
            go_wp2_with fail
            refine hK.out _ _ (by exact ⟨(B1.out.below HB.out).cell0, (B1.out.below HB.out).cell1, (B2.out.below HB.out).cell0, (B2.out.below HB.out).cell1⟩) (fun hHeld => ?_)
            clear hK K hHeld
            try simp only [Act.put, List.setIfInBounds_toArray, List.set_cons_zero, List.set_cons_succ]
            exact wpAnyH_at #[true, true, true, true, true, true, false, false] (by kernel_rfl) (KEY.out _ _ _ _ _ ⟨bq0, Aq0, nq0, kq0, bq1, Aq1, nq1, kq1, gq0, gq1, rfl, rfl, rfl, rfl, Zq0.out, Zq1.out, Xq0.out, Xq1.out, ne, qq0, qq1, HB.out⟩)
          exact AllReadyH.nil
        exact AllReadyH.nil
      exact AllReadyH.nil
    exact AllReadyH.nil
  · rintro _ _ _ _ V5 ⟨bq0, Aq0, nq0, kq0, bq1, Aq1, nq1, kq1, gq0, gq1, rfl, rfl, rfl, rfl, y0, y1, x0, x1, ne, qq0, qq1, hbv⟩
    have Yq0 := Lib.hid y0
    have Yq1 := Lib.hid y1
    have Xq0 := Lib.hid x0
    have Xq1 := Lib.hid x1
    have HB := Lib.hid hbv
    clear y0 y1 x0 x1 hbv
    try simp only [Act.put, List.setIfInBounds_toArray, List.set_cons_zero, List.set_cons_succ]
    have xcell0 := Xq0.out.cell0
    have xcell1 := Xq0.out.cell1
    have xfro0 := Xq0.out.fro 0
    have xfro1 := Xq0.out.fro 1
    refine wpAnyH_ready (rs := [6]) (by kernel_rfl) (by simp) ?_
    refine AllReadyH.cons (by simp only [List.getElem?_toArray, List.getElem?_cons_succ, List.getElem?_cons_zero]; rfl) (fun K hK => ?_) AllReadyH.nil
    go_simp
    clear xcell0 xcell1 xfro0 xfro1
    obtain ⟨U1, hU, Dq0, sz, sb, sw⟩ := storeBox Xq0.out (.bool bq0) (.slice Aq0 nq0 kq0)
    rw [hU]
    clear hU
    replace Yq0 := Lib.hid (sz.out _ _ _ Yq0.out)
    replace Yq1 := Lib.hid (sz.out _ _ _ Yq1.out)
    replace HB := Lib.hid (sw.out _ HB.out qq0)
    replace Xq1 := Lib.hid (sb.out _ _ _ Xq1.out (fun e => ne e.symm))
    clear sz sb sw Xq0
    refine hK.out _ _ (by exact ⟨(B1.out.below HB.out).cell0, (B1.out.below HB.out).cell1, (B2.out.below HB.out).cell0, (B2.out.below HB.out).cell1⟩) (fun hHeld => ?_)
    clear hK K hHeld
    have xcell0 := Xq1.out.cell0
    have xcell1 := Xq1.out.cell1
    have xfro0 := Xq1.out.fro 0
    have xfro1 := Xq1.out.fro 1
    refine wpAnyH_ready (rs := [7]) (by kernel_rfl) (by simp) ?_
    refine AllReadyH.cons (by simp only [List.getElem?_toArray, List.getElem?_cons_succ, List.getElem?_cons_zero]; rfl) (fun K hK => ?_) AllReadyH.nil
    go_simp
    clear xcell0 xcell1 xfro0 xfro1
    obtain ⟨U2, hU, Dq1, sz, sb, sw⟩ := storeBox Xq1.out (.bool bq1) (.slice Aq1 nq1 kq1)
    rw [hU]
    clear hU
    replace Yq0 := Lib.hid (sz.out _ _ _ Yq0.out)
    replace Yq1 := Lib.hid (sz.out _ _ _ Yq1.out)
    replace HB := Lib.hid (sw.out _ HB.out qq1)
    replace Dq0 := Lib.hid (sb.out _ _ _ Dq0.out ne)
    clear sz sb sw Xq1
    refine hK.out _ _ (by exact ⟨(B1.out.below HB.out).cell0, (B1.out.below HB.out).cell1, (B2.out.below HB.out).cell0, (B2.out.below HB.out).cell1⟩) (fun hHeld => ?_)
    clear hK K hHeld
    refine wpAnyH_done (by kernel_rfl) (NoPanic.normal ?_) _
    have hWs := HS.out
    have e1 := Yq0.out.1
    have e2 := Yq1.out.1
    replace B3 := Lib.hid (B3.out.below HB.out)
    replace B4 := Lib.hid (B4.out.below HB.out)
    replace HW := Lib.hid (below_next HW.out HB.out)
    clear B1 B2 H1 H2 HB
    by_cases hz : z2 = 0
    · rw [if_pos hz, if_pos hz, decide_eq_false (fun h => h hz)]
      have cDq00 := Dq0.out.cell0
      have cDq01 := Dq0.out.cell1
      have cDq10 := Dq1.out.cell0
      have cDq11 := Dq1.out.cell1
      go_wp2_with fail
      clear cDq00 cDq01 cDq10 cDq11
      refine (rdivmod_zero _ _ _ _ (by exact Yq1.out.2) (Nat.le_trans HX2.out (by omega)) (by rw [val_limbs, hz]; rfl)).mono ?_
      rintro e w1 ⟨vq, vr, rfl, hq, hr, hb⟩
      replace Dq0 := Lib.hid (Dq0.out.below hb)
      replace Dq1 := Lib.hid (Dq1.out.below hb)
      replace Yq1 := Lib.hid (Yq1.out.below hb)
      replace B3 := Lib.hid (B3.out.below hb)
      replace B4 := Lib.hid (B4.out.below hb)
      replace HW := Lib.hid (below_next HW.out hb)
      clear hq hr hb
      have cB30 := B3.out.cell0
      have cB31 := B3.out.cell1
      have cB40 := B4.out.cell0
      have cB41 := B4.out.cell1
      have fB30 := B3.out.fro 0
      have fB31 := B3.out.fro 1
      have fB40 := B4.out.fro 0
      have fB41 := B4.out.fro 1
      go_wp2
      exact bodyPost_ret (v := .tuple #[.agg #[.bool false, .slice none 0 0], .agg #[.bool false, .slice none 0 0], .bool false]) (by simp [results, Tryz.results44, go_sem, cB30, cB31, cB40, cB41]) rfl ⟨_, _, _, _, _, _, _, _, rfl, zat_nil _, zat_nil _, below_stored (below_stored HW.out (by omega) _ _) (by omega) _ _⟩
    · rw [if_neg hz, if_neg hz, decide_eq_true hz]
      have HY : Hid (z2.natAbs ≠ 0) := Lib.hid (by omega)
      have hlr : (limbs (z1.natAbs % z2.natAbs)).length ≤ 50000 := limbs_len_of_lt (Nat.mod_le _ _) (Nat.le_trans HX1.out (by omega))
      have hlq : (limbs (z1.natAbs / z2.natAbs)).length ≤ 50000 := limbs_len_of_lt (Nat.div_le_self _ _) (Nat.le_trans HX1.out (by omega))
      by_cases s1 : z1 < 0
      · skip
        obtain rfl : bq0 = true := by rw [e1]; exact decide_eq_true s1
        by_cases s2 : z2 < 0
        · obtain rfl : bq1 = true := by rw [e2]; exact decide_eq_true s2
          clear e1 e2
          have cDq00 := Dq0.out.cell0
          have cDq01 := Dq0.out.cell1
          have cDq10 := Dq1.out.cell0
          have cDq11 := Dq1.out.cell1
          go_wp2_with fail
          clear cDq00 cDq01 cDq10 cDq11
          refine (rdivmod_any _ _ _ _ _ (by exact Yq0.out.2) (by exact Yq1.out.2) (Nat.le_trans HX1.out (by omega)) (Nat.le_trans HX2.out (by omega)) (by rw [val_limbs]; exact HY.out)).mono ?_
          rintro e w1 ⟨vq, vr, rfl, hq, hr, hb⟩
          rw [val_limbs, val_limbs] at hq hr
          have HQ := Lib.hid hq
          have HRR := Lib.hid hr
          replace Dq0 := Lib.hid (Dq0.out.below hb)
          replace Dq1 := Lib.hid (Dq1.out.below hb)
          replace Yq1 := Lib.hid (Yq1.out.below hb)
          replace B3 := Lib.hid (B3.out.below hb)
          replace B4 := Lib.hid (B4.out.below hb)
          replace HW := Lib.hid (below_next HW.out hb)
          clear hq hr hb
          have cDq00 := Dq0.out.cell0
          have cDq01 := Dq0.out.cell1
          have cDq10 := Dq1.out.cell0
          have cDq11 := Dq1.out.cell1
          go_wp2_with fail
          clear cDq00 cDq01 cDq10 cDq11
          refine (rnorm_any _ _ _ (by exact HRR.out) (by omega)).mono ?_
          rintro e w2 ⟨vn, rfl, hn, hb⟩
          rw [val_limbs] at hn
          replace HQ := Lib.hid (HQ.out.below hb)
          replace HRR := Lib.hid (HRR.out.below hb)
          replace Dq0 := Lib.hid (Dq0.out.below hb)
          replace Dq1 := Lib.hid (Dq1.out.below hb)
          replace Yq1 := Lib.hid (Yq1.out.below hb)
          replace B3 := Lib.hid (B3.out.below hb)
          replace B4 := Lib.hid (B4.out.below hb)
          replace HW := Lib.hid (below_next HW.out hb)
          obtain ⟨An, cn, rfl, _, _⟩ := hn.form
          clear hn hb
          by_cases hr0 : z1.natAbs % z2.natAbs = 0
          · have hl0 : (limbs (z1.natAbs % z2.natAbs)).length = 0 := by rw [hr0]; rfl
            rw [hl0]
            have cDq00 := Dq0.out.cell0
            have cDq01 := Dq0.out.cell1
            have cDq10 := Dq1.out.cell0
            have cDq11 := Dq1.out.cell1
            go_wp2_with fail
            clear cDq00 cDq01 cDq10 cDq11
            refine (make1_any _ _ _ _ (by exact HQ.out) (by omega)).mono ?_
            rintro e w4 ⟨b3, A3, n3, k3, rfl, h3, hb⟩
            have HR3 := Lib.hid h3
            replace HRR := Lib.hid (HRR.out.below hb)
            replace Dq0 := Lib.hid (Dq0.out.below hb)
            replace Dq1 := Lib.hid (Dq1.out.below hb)
            replace B3 := Lib.hid (B3.out.below hb)
            replace B4 := Lib.hid (B4.out.below hb)
            replace HW := Lib.hid (below_next HW.out hb)
            clear h3 hb
            have cDq00 := Dq0.out.cell0
            have cDq01 := Dq0.out.cell1
            have cDq10 := Dq1.out.cell0
            have cDq11 := Dq1.out.cell1
            go_wp2_with fail
            clear cDq00 cDq01 cDq10 cDq11
            refine (make1_any _ _ _ _ (by exact HRR.out) (by omega)).mono ?_
            rintro e w5 ⟨b4, A4, n4, k4, rfl, h4, hb⟩
            have HR4 := Lib.hid h4
            replace HR3 := Lib.hid (HR3.out.below hb)
            replace Dq0 := Lib.hid (Dq0.out.below hb)
            replace Dq1 := Lib.hid (Dq1.out.below hb)
            replace B3 := Lib.hid (B3.out.below hb)
            replace B4 := Lib.hid (B4.out.below hb)
            replace HW := Lib.hid (below_next HW.out hb)
            clear h4 hb
            have cB30 := B3.out.cell0
            have cB31 := B3.out.cell1
            have cB40 := B4.out.cell0
            have cB41 := B4.out.cell1
            have fB30 := B3.out.fro 0
            have fB31 := B3.out.fro 1
            have fB40 := B4.out.fro 0
            have fB41 := B4.out.fro 1
            go_wp2
            refine bodyPost_ret (v := .tuple #[.agg #[.bool b3, .slice A3 n3 k3], .agg #[.bool b4, .slice A4 n4 k4], .bool true]) (by simp [results, Tryz.results44, go_sem, cB30, cB31, cB40, cB41]) rfl ⟨_, _, _, _, _, _, _, _, rfl, ?_, ?_, below_stored (below_stored HW.out (by omega) _ _) (by omega) _ _⟩
            · rw [(rdm_nn0 (z1 := z1) (z2 := z2) (by omega) (by omega) HY.out hr0).1]
              exact (HR3.out.store B3.out nil_noInt (.bool b3) (.slice A3 n3 k3)).store (B4.out.far (by omega) _ _) nil_noInt (.bool b4) (.slice A4 n4 k4)
            · rw [(rdm_nn0 (z1 := z1) (z2 := z2) (by omega) (by omega) HY.out hr0).2]
              exact (HR4.out.store B3.out nil_noInt (.bool b3) (.slice A3 n3 k3)).store (B4.out.far (by omega) _ _) nil_noInt (.bool b4) (.slice A4 n4 k4)
          · have hlp : 0 < (limbs (z1.natAbs % z2.natAbs)).length := List.length_pos_iff.2 (limbs_ne_nil hr0)
            have cDq00 := Dq0.out.cell0
            have cDq01 := Dq0.out.cell1
            have cDq10 := Dq1.out.cell0
            have cDq11 := Dq1.out.cell1
            go_wp2_with fail
            clear cDq00 cDq01 cDq10 cDq11
            refine (rof_any 1 _ (by omega)).mono ?_
            rintro e w3 ⟨v1, rfl, ho, hb⟩
            have HO := Lib.hid ho
            replace HQ := Lib.hid (HQ.out.below hb)
            replace HRR := Lib.hid (HRR.out.below hb)
            replace Dq0 := Lib.hid (Dq0.out.below hb)
            replace Dq1 := Lib.hid (Dq1.out.below hb)
            replace Yq1 := Lib.hid (Yq1.out.below hb)
            replace B3 := Lib.hid (B3.out.below hb)
            replace B4 := Lib.hid (B4.out.below hb)
            replace HW := Lib.hid (below_next HW.out hb)
            clear ho hb
            have cDq00 := Dq0.out.cell0
            have cDq01 := Dq0.out.cell1
            have cDq10 := Dq1.out.cell0
            have cDq11 := Dq1.out.cell1
            go_wp2_with fail
            clear cDq00 cDq01 cDq10 cDq11
            refine (radd_any _ _ _ _ _ (by exact HQ.out) (by exact HO.out) (by omega) (Nat.le_trans (parse_one (by omega)) (by omega))).mono ?_
            rintro e w3 ⟨v2, rfl, hq, hb⟩
            rw [val_limbs, val_limbs] at hq
            replace HQ := Lib.hid hq
            replace HRR := Lib.hid (HRR.out.below hb)
            replace Dq0 := Lib.hid (Dq0.out.below hb)
            replace Dq1 := Lib.hid (Dq1.out.below hb)
            replace Yq1 := Lib.hid (Yq1.out.below hb)
            replace B3 := Lib.hid (B3.out.below hb)
            replace B4 := Lib.hid (B4.out.below hb)
            replace HW := Lib.hid (below_next HW.out hb)
            clear hq hb
            have cDq00 := Dq0.out.cell0
            have cDq01 := Dq0.out.cell1
            have cDq10 := Dq1.out.cell0
            have cDq11 := Dq1.out.cell1
            go_wp2_with fail
            clear cDq00 cDq01 cDq10 cDq11
            refine (rsub_any _ _ _ _ _ (by exact Yq1.out.2) (by exact HRR.out) (Nat.le_trans HX2.out (by omega)) (by omega)).mono ?_
            rintro e w3b ⟨v3, rfl, hr, hb⟩
            rw [val_limbs, val_limbs] at hr
            replace HRR := Lib.hid hr
            replace HQ := Lib.hid (HQ.out.below hb)
            replace Dq0 := Lib.hid (Dq0.out.below hb)
            replace Dq1 := Lib.hid (Dq1.out.below hb)
            replace Yq1 := Lib.hid (Yq1.out.below hb)
            replace B3 := Lib.hid (B3.out.below hb)
            replace B4 := Lib.hid (B4.out.below hb)
            replace HW := Lib.hid (below_next HW.out hb)
            clear hr hb
            have cDq00 := Dq0.out.cell0
            have cDq01 := Dq0.out.cell1
            have cDq10 := Dq1.out.cell0
            have cDq11 := Dq1.out.cell1
            go_wp2_with fail
            clear cDq00 cDq01 cDq10 cDq11
            refine (make1_any _ _ _ _ (by exact HQ.out) (Nat.le_trans (limbs_add_len hlq (Nat.le_trans (parse_one (by omega : 1 < 4294967296)) (by omega))) (by omega))).mono ?_
            rintro e w4 ⟨b3, A3, n3, k3, rfl, h3, hb⟩
            have HR3 := Lib.hid h3
            replace HRR := Lib.hid (HRR.out.below hb)
            replace Dq0 := Lib.hid (Dq0.out.below hb)
            replace Dq1 := Lib.hid (Dq1.out.below hb)
            replace B3 := Lib.hid (B3.out.below hb)
            replace B4 := Lib.hid (B4.out.below hb)
            replace HW := Lib.hid (below_next HW.out hb)
            clear h3 hb
            have cDq00 := Dq0.out.cell0
            have cDq01 := Dq0.out.cell1
            have cDq10 := Dq1.out.cell0
            have cDq11 := Dq1.out.cell1
            go_wp2_with fail
            clear cDq00 cDq01 cDq10 cDq11
            refine (make1_any _ _ _ _ (by exact HRR.out) (Nat.le_trans (limbs_len_of_lt (Nat.sub_le _ _) HX2.out) (by omega))).mono ?_
            rintro e w5 ⟨b4, A4, n4, k4, rfl, h4, hb⟩
            have HR4 := Lib.hid h4
            replace HR3 := Lib.hid (HR3.out.below hb)
            replace Dq0 := Lib.hid (Dq0.out.below hb)
            replace Dq1 := Lib.hid (Dq1.out.below hb)
            replace B3 := Lib.hid (B3.out.below hb)
            replace B4 := Lib.hid (B4.out.below hb)
            replace HW := Lib.hid (below_next HW.out hb)
            clear h4 hb
            have cB30 := B3.out.cell0
            have cB31 := B3.out.cell1
            have cB40 := B4.out.cell0
            have cB41 := B4.out.cell1
            have fB30 := B3.out.fro 0
            have fB31 := B3.out.fro 1
            have fB40 := B4.out.fro 0
            have fB41 := B4.out.fro 1
            go_wp2
            refine bodyPost_ret (v := .tuple #[.agg #[.bool b3, .slice A3 n3 k3], .agg #[.bool b4, .slice A4 n4 k4], .bool true]) (by simp [results, Tryz.results44, go_sem, cB30, cB31, cB40, cB41]) rfl ⟨_, _, _, _, _, _, _, _, rfl, ?_, ?_, below_stored (below_stored HW.out (by omega) _ _) (by omega) _ _⟩
            · rw [(rdm_nn (z1 := z1) (z2 := z2) (by omega) (by omega) HY.out hr0).1]
              exact (HR3.out.store B3.out nil_noInt (.bool b3) (.slice A3 n3 k3)).store (B4.out.far (by omega) _ _) nil_noInt (.bool b4) (.slice A4 n4 k4)
            · rw [(rdm_nn (z1 := z1) (z2 := z2) (by omega) (by omega) HY.out hr0).2]
              exact (HR4.out.store B3.out nil_noInt (.bool b3) (.slice A3 n3 k3)).store (B4.out.far (by omega) _ _) nil_noInt (.bool b4) (.slice A4 n4 k4)
        · obtain rfl : bq1 = false := by rw [e2]; exact decide_eq_false s2
          clear e1 e2
          have cDq00 := Dq0.out.cell0
          have cDq01 := Dq0.out.cell1
          have cDq10 := Dq1.out.cell0
          have cDq11 := Dq1.out.cell1
          go_wp2_with fail
          clear cDq00 cDq01 cDq10 cDq11
          refine (rdivmod_any _ _ _ _ _ (by exact Yq0.out.2) (by exact Yq1.out.2) (Nat.le_trans HX1.out (by omega)) (Nat.le_trans HX2.out (by omega)) (by rw [val_limbs]; exact HY.out)).mono ?_
          rintro e w1 ⟨vq, vr, rfl, hq, hr, hb⟩
          rw [val_limbs, val_limbs] at hq hr
          have HQ := Lib.hid hq
          have HRR := Lib.hid hr
          replace Dq0 := Lib.hid (Dq0.out.below hb)
          replace Dq1 := Lib.hid (Dq1.out.below hb)
          replace Yq1 := Lib.hid (Yq1.out.below hb)
          replace B3 := Lib.hid (B3.out.below hb)
          replace B4 := Lib.hid (B4.out.below hb)
          replace HW := Lib.hid (below_next HW.out hb)
          clear hq hr hb
          have cDq00 := Dq0.out.cell0
          have cDq01 := Dq0.out.cell1
          have cDq10 := Dq1.out.cell0
          have cDq11 := Dq1.out.cell1
          go_wp2_with fail
          clear cDq00 cDq01 cDq10 cDq11
          refine (rnorm_any _ _ _ (by exact HRR.out) (by omega)).mono ?_
          rintro e w2 ⟨vn, rfl, hn, hb⟩
          rw [val_limbs] at hn
          replace HQ := Lib.hid (HQ.out.below hb)
          replace HRR := Lib.hid (HRR.out.below hb)
          replace Dq0 := Lib.hid (Dq0.out.below hb)
          replace Dq1 := Lib.hid (Dq1.out.below hb)
          replace Yq1 := Lib.hid (Yq1.out.below hb)
          replace B3 := Lib.hid (B3.out.below hb)
          replace B4 := Lib.hid (B4.out.below hb)
          replace HW := Lib.hid (below_next HW.out hb)
          obtain ⟨An, cn, rfl, _, _⟩ := hn.form
          clear hn hb
          by_cases hr0 : z1.natAbs % z2.natAbs = 0
          · have hl0 : (limbs (z1.natAbs % z2.natAbs)).length = 0 := by rw [hr0]; rfl
            rw [hl0]
            have cDq00 := Dq0.out.cell0
            have cDq01 := Dq0.out.cell1
            have cDq10 := Dq1.out.cell0
            have cDq11 := Dq1.out.cell1
            go_wp2_with fail
            clear cDq00 cDq01 cDq10 cDq11
            refine (make1_any _ _ _ _ (by exact HQ.out) (by omega)).mono ?_
            rintro e w4 ⟨b3, A3, n3, k3, rfl, h3, hb⟩
            have HR3 := Lib.hid h3
            replace HRR := Lib.hid (HRR.out.below hb)
            replace Dq0 := Lib.hid (Dq0.out.below hb)
            replace Dq1 := Lib.hid (Dq1.out.below hb)
            replace B3 := Lib.hid (B3.out.below hb)
            replace B4 := Lib.hid (B4.out.below hb)
            replace HW := Lib.hid (below_next HW.out hb)
            clear h3 hb
            have cDq00 := Dq0.out.cell0
            have cDq01 := Dq0.out.cell1
            have cDq10 := Dq1.out.cell0
            have cDq11 := Dq1.out.cell1
            go_wp2_with fail
            clear cDq00 cDq01 cDq10 cDq11
            refine (make1_any _ _ _ _ (by exact HRR.out) (by omega)).mono ?_
            rintro e w5 ⟨b4, A4, n4, k4, rfl, h4, hb⟩
            have HR4 := Lib.hid h4
            replace HR3 := Lib.hid (HR3.out.below hb)
            replace Dq0 := Lib.hid (Dq0.out.below hb)
            replace Dq1 := Lib.hid (Dq1.out.below hb)
            replace B3 := Lib.hid (B3.out.below hb)
            replace B4 := Lib.hid (B4.out.below hb)
            replace HW := Lib.hid (below_next HW.out hb)
            clear h4 hb
            have cB30 := B3.out.cell0
            have cB31 := B3.out.cell1
            have cB40 := B4.out.cell0
            have cB41 := B4.out.cell1
            have fB30 := B3.out.fro 0
            have fB31 := B3.out.fro 1
            have fB40 := B4.out.fro 0
            have fB41 := B4.out.fro 1
            go_wp2
            refine bodyPost_ret (v := .tuple #[.agg #[.bool b3, .slice A3 n3 k3], .agg #[.bool b4, .slice A4 n4 k4], .bool true]) (by simp [results, Tryz.results44, go_sem, cB30, cB31, cB40, cB41]) rfl ⟨_, _, _, _, _, _, _, _, rfl, ?_, ?_, below_stored (below_stored HW.out (by omega) _ _) (by omega) _ _⟩
            · rw [(rdm_np0 (z1 := z1) (z2 := z2) (by omega) (by omega) HY.out hr0).1]
              exact (HR3.out.store B3.out nil_noInt (.bool b3) (.slice A3 n3 k3)).store (B4.out.far (by omega) _ _) nil_noInt (.bool b4) (.slice A4 n4 k4)
            · rw [(rdm_np0 (z1 := z1) (z2 := z2) (by omega) (by omega) HY.out hr0).2]
              exact (HR4.out.store B3.out nil_noInt (.bool b3) (.slice A3 n3 k3)).store (B4.out.far (by omega) _ _) nil_noInt (.bool b4) (.slice A4 n4 k4)
          · have hlp : 0 < (limbs (z1.natAbs % z2.natAbs)).length := List.length_pos_iff.2 (limbs_ne_nil hr0)
            have cDq00 := Dq0.out.cell0
            have cDq01 := Dq0.out.cell1
            have cDq10 := Dq1.out.cell0
            have cDq11 := Dq1.out.cell1
            go_wp2_with fail
            clear cDq00 cDq01 cDq10 cDq11
            refine (rof_any 1 _ (by omega)).mono ?_
            rintro e w3 ⟨v1, rfl, ho, hb⟩
            have HO := Lib.hid ho
            replace HQ := Lib.hid (HQ.out.below hb)
            replace HRR := Lib.hid (HRR.out.below hb)
            replace Dq0 := Lib.hid (Dq0.out.below hb)
            replace Dq1 := Lib.hid (Dq1.out.below hb)
            replace Yq1 := Lib.hid (Yq1.out.below hb)
            replace B3 := Lib.hid (B3.out.below hb)
            replace B4 := Lib.hid (B4.out.below hb)
            replace HW := Lib.hid (below_next HW.out hb)
            clear ho hb
            have cDq00 := Dq0.out.cell0
            have cDq01 := Dq0.out.cell1
            have cDq10 := Dq1.out.cell0
            have cDq11 := Dq1.out.cell1
            go_wp2_with fail
            clear cDq00 cDq01 cDq10 cDq11
            refine (radd_any _ _ _ _ _ (by exact HQ.out) (by exact HO.out) (by omega) (Nat.le_trans (parse_one (by omega)) (by omega))).mono ?_
            rintro e w3 ⟨v2, rfl, hq, hb⟩
            rw [val_limbs, val_limbs] at hq
            replace HQ := Lib.hid hq
            replace HRR := Lib.hid (HRR.out.below hb)
            replace Dq0 := Lib.hid (Dq0.out.below hb)
            replace Dq1 := Lib.hid (Dq1.out.below hb)
            replace Yq1 := Lib.hid (Yq1.out.below hb)
            replace B3 := Lib.hid (B3.out.below hb)
            replace B4 := Lib.hid (B4.out.below hb)
            replace HW := Lib.hid (below_next HW.out hb)
            clear hq hb
            have cDq00 := Dq0.out.cell0
            have cDq01 := Dq0.out.cell1
            have cDq10 := Dq1.out.cell0
            have cDq11 := Dq1.out.cell1
            go_wp2_with fail
            clear cDq00 cDq01 cDq10 cDq11
            refine (rsub_any _ _ _ _ _ (by exact Yq1.out.2) (by exact HRR.out) (Nat.le_trans HX2.out (by omega)) (by omega)).mono ?_
            rintro e w3b ⟨v3, rfl, hr, hb⟩
            rw [val_limbs, val_limbs] at hr
            replace HRR := Lib.hid hr
            replace HQ := Lib.hid (HQ.out.below hb)
            replace Dq0 := Lib.hid (Dq0.out.below hb)
            replace Dq1 := Lib.hid (Dq1.out.below hb)
            replace Yq1 := Lib.hid (Yq1.out.below hb)
            replace B3 := Lib.hid (B3.out.below hb)
            replace B4 := Lib.hid (B4.out.below hb)
            replace HW := Lib.hid (below_next HW.out hb)
            clear hr hb
            have cDq00 := Dq0.out.cell0
            have cDq01 := Dq0.out.cell1
            have cDq10 := Dq1.out.cell0
            have cDq11 := Dq1.out.cell1
            go_wp2_with fail
            clear cDq00 cDq01 cDq10 cDq11
            refine (make1_any _ _ _ _ (by exact HQ.out) (Nat.le_trans (limbs_add_len hlq (Nat.le_trans (parse_one (by omega : 1 < 4294967296)) (by omega))) (by omega))).mono ?_
            rintro e w4 ⟨b3, A3, n3, k3, rfl, h3, hb⟩
            have HR3 := Lib.hid h3
            replace HRR := Lib.hid (HRR.out.below hb)
            replace Dq0 := Lib.hid (Dq0.out.below hb)
            replace Dq1 := Lib.hid (Dq1.out.below hb)
            replace B3 := Lib.hid (B3.out.below hb)
            replace B4 := Lib.hid (B4.out.below hb)
            replace HW := Lib.hid (below_next HW.out hb)
            clear h3 hb
            have cDq00 := Dq0.out.cell0
            have cDq01 := Dq0.out.cell1
            have cDq10 := Dq1.out.cell0
            have cDq11 := Dq1.out.cell1
            go_wp2_with fail
            clear cDq00 cDq01 cDq10 cDq11
            refine (make1_any _ _ _ _ (by exact HRR.out) (Nat.le_trans (limbs_len_of_lt (Nat.sub_le _ _) HX2.out) (by omega))).mono ?_
            rintro e w5 ⟨b4, A4, n4, k4, rfl, h4, hb⟩
            have HR4 := Lib.hid h4
            replace HR3 := Lib.hid (HR3.out.below hb)
            replace Dq0 := Lib.hid (Dq0.out.below hb)
            replace Dq1 := Lib.hid (Dq1.out.below hb)
            replace B3 := Lib.hid (B3.out.below hb)
            replace B4 := Lib.hid (B4.out.below hb)
            replace HW := Lib.hid (below_next HW.out hb)
            clear h4 hb
            have cB30 := B3.out.cell0
            have cB31 := B3.out.cell1
            have cB40 := B4.out.cell0
            have cB41 := B4.out.cell1
            have fB30 := B3.out.fro 0
            have fB31 := B3.out.fro 1
            have fB40 := B4.out.fro 0
            have fB41 := B4.out.fro 1
            go_wp2
            refine bodyPost_ret (v := .tuple #[.agg #[.bool b3, .slice A3 n3 k3], .agg #[.bool b4, .slice A4 n4 k4], .bool true]) (by simp [results, Tryz.results44, go_sem, cB30, cB31, cB40, cB41]) rfl ⟨_, _, _, _, _, _, _, _, rfl, ?_, ?_, below_stored (below_stored HW.out (by omega) _ _) (by omega) _ _⟩
            · rw [(rdm_np (z1 := z1) (z2 := z2) (by omega) (by omega) HY.out hr0).1]
              exact (HR3.out.store B3.out nil_noInt (.bool b3) (.slice A3 n3 k3)).store (B4.out.far (by omega) _ _) nil_noInt (.bool b4) (.slice A4 n4 k4)
            · rw [(rdm_np (z1 := z1) (z2 := z2) (by omega) (by omega) HY.out hr0).2]
              exact (HR4.out.store B3.out nil_noInt (.bool b3) (.slice A3 n3 k3)).store (B4.out.far (by omega) _ _) nil_noInt (.bool b4) (.slice A4 n4 k4)
      · skip
        obtain rfl : bq0 = false := by rw [e1]; exact decide_eq_false s1
        by_cases s2 : z2 < 0
        · obtain rfl : bq1 = true := by rw [e2]; exact decide_eq_true s2
          clear e1 e2
          have cDq00 := Dq0.out.cell0
          have cDq01 := Dq0.out.cell1
          have cDq10 := Dq1.out.cell0
          have cDq11 := Dq1.out.cell1
          go_wp2_with fail
          clear cDq00 cDq01 cDq10 cDq11
          refine (rdivmod_any _ _ _ _ _ (by exact Yq0.out.2) (by exact Yq1.out.2) (Nat.le_trans HX1.out (by omega)) (Nat.le_trans HX2.out (by omega)) (by rw [val_limbs]; exact HY.out)).mono ?_
          rintro e w1 ⟨vq, vr, rfl, hq, hr, hb⟩
          rw [val_limbs, val_limbs] at hq hr
          have HQ := Lib.hid hq
          have HRR := Lib.hid hr
          replace Dq0 := Lib.hid (Dq0.out.below hb)
          replace Dq1 := Lib.hid (Dq1.out.below hb)
          replace Yq1 := Lib.hid (Yq1.out.below hb)
          replace B3 := Lib.hid (B3.out.below hb)
          replace B4 := Lib.hid (B4.out.below hb)
          replace HW := Lib.hid (below_next HW.out hb)
          clear hq hr hb
          have cDq00 := Dq0.out.cell0
          have cDq01 := Dq0.out.cell1
          have cDq10 := Dq1.out.cell0
          have cDq11 := Dq1.out.cell1
          go_wp2_with fail
          clear cDq00 cDq01 cDq10 cDq11
          refine (make1_any _ _ _ _ (by exact HQ.out) (by omega)).mono ?_
          rintro e w4 ⟨b3, A3, n3, k3, rfl, h3, hb⟩
          have HR3 := Lib.hid h3
          replace HRR := Lib.hid (HRR.out.below hb)
          replace Dq0 := Lib.hid (Dq0.out.below hb)
          replace Dq1 := Lib.hid (Dq1.out.below hb)
          replace B3 := Lib.hid (B3.out.below hb)
          replace B4 := Lib.hid (B4.out.below hb)
          replace HW := Lib.hid (below_next HW.out hb)
          clear h3 hb
          have cDq00 := Dq0.out.cell0
          have cDq01 := Dq0.out.cell1
          have cDq10 := Dq1.out.cell0
          have cDq11 := Dq1.out.cell1
          go_wp2_with fail
          clear cDq00 cDq01 cDq10 cDq11
          refine (make1_any _ _ _ _ (by exact HRR.out) (by omega)).mono ?_
          rintro e w5 ⟨b4, A4, n4, k4, rfl, h4, hb⟩
          have HR4 := Lib.hid h4
          replace HR3 := Lib.hid (HR3.out.below hb)
          replace Dq0 := Lib.hid (Dq0.out.below hb)
          replace Dq1 := Lib.hid (Dq1.out.below hb)
          replace B3 := Lib.hid (B3.out.below hb)
          replace B4 := Lib.hid (B4.out.below hb)
          replace HW := Lib.hid (below_next HW.out hb)
          clear h4 hb
          have cB30 := B3.out.cell0
          have cB31 := B3.out.cell1
          have cB40 := B4.out.cell0
          have cB41 := B4.out.cell1
          have fB30 := B3.out.fro 0
          have fB31 := B3.out.fro 1
          have fB40 := B4.out.fro 0
          have fB41 := B4.out.fro 1
          go_wp2
          refine bodyPost_ret (v := .tuple #[.agg #[.bool b3, .slice A3 n3 k3], .agg #[.bool b4, .slice A4 n4 k4], .bool true]) (by simp [results, Tryz.results44, go_sem, cB30, cB31, cB40, cB41]) rfl ⟨_, _, _, _, _, _, _, _, rfl, ?_, ?_, below_stored (below_stored HW.out (by omega) _ _) (by omega) _ _⟩
          · rw [(rdm_pn (z1 := z1) (z2 := z2) (by omega) (by omega)).1]
            exact (HR3.out.store B3.out nil_noInt (.bool b3) (.slice A3 n3 k3)).store (B4.out.far (by omega) _ _) nil_noInt (.bool b4) (.slice A4 n4 k4)
          · rw [(rdm_pn (z1 := z1) (z2 := z2) (by omega) (by omega)).2]
            exact (HR4.out.store B3.out nil_noInt (.bool b3) (.slice A3 n3 k3)).store (B4.out.far (by omega) _ _) nil_noInt (.bool b4) (.slice A4 n4 k4)
        · obtain rfl : bq1 = false := by rw [e2]; exact decide_eq_false s2
          clear e1 e2
          have cDq00 := Dq0.out.cell0
          have cDq01 := Dq0.out.cell1
          have cDq10 := Dq1.out.cell0
          have cDq11 := Dq1.out.cell1
          go_wp2_with fail
          clear cDq00 cDq01 cDq10 cDq11
          refine (rdivmod_any _ _ _ _ _ (by exact Yq0.out.2) (by exact Yq1.out.2) (Nat.le_trans HX1.out (by omega)) (Nat.le_trans HX2.out (by omega)) (by rw [val_limbs]; exact HY.out)).mono ?_
          rintro e w1 ⟨vq, vr, rfl, hq, hr, hb⟩
          rw [val_limbs, val_limbs] at hq hr
          have HQ := Lib.hid hq
          have HRR := Lib.hid hr
          replace Dq0 := Lib.hid (Dq0.out.below hb)
          replace Dq1 := Lib.hid (Dq1.out.below hb)
          replace Yq1 := Lib.hid (Yq1.out.below hb)
          replace B3 := Lib.hid (B3.out.below hb)
          replace B4 := Lib.hid (B4.out.below hb)
          replace HW := Lib.hid (below_next HW.out hb)
          clear hq hr hb
          have cDq00 := Dq0.out.cell0
          have cDq01 := Dq0.out.cell1
          have cDq10 := Dq1.out.cell0
          have cDq11 := Dq1.out.cell1
          go_wp2_with fail
          clear cDq00 cDq01 cDq10 cDq11
          refine (make1_any _ _ _ _ (by exact HQ.out) (by omega)).mono ?_
          rintro e w4 ⟨b3, A3, n3, k3, rfl, h3, hb⟩
          have HR3 := Lib.hid h3
          replace HRR := Lib.hid (HRR.out.below hb)
          replace Dq0 := Lib.hid (Dq0.out.below hb)
          replace Dq1 := Lib.hid (Dq1.out.below hb)
          replace B3 := Lib.hid (B3.out.below hb)
          replace B4 := Lib.hid (B4.out.below hb)
          replace HW := Lib.hid (below_next HW.out hb)
          clear h3 hb
          have cDq00 := Dq0.out.cell0
          have cDq01 := Dq0.out.cell1
          have cDq10 := Dq1.out.cell0
          have cDq11 := Dq1.out.cell1
          go_wp2_with fail
          clear cDq00 cDq01 cDq10 cDq11
          refine (make1_any _ _ _ _ (by exact HRR.out) (by omega)).mono ?_
          rintro e w5 ⟨b4, A4, n4, k4, rfl, h4, hb⟩
          have HR4 := Lib.hid h4
          replace HR3 := Lib.hid (HR3.out.below hb)
          replace Dq0 := Lib.hid (Dq0.out.below hb)
          replace Dq1 := Lib.hid (Dq1.out.below hb)
          replace B3 := Lib.hid (B3.out.below hb)
          replace B4 := Lib.hid (B4.out.below hb)
          replace HW := Lib.hid (below_next HW.out hb)
          clear h4 hb
          have cB30 := B3.out.cell0
          have cB31 := B3.out.cell1
          have cB40 := B4.out.cell0
          have cB41 := B4.out.cell1
          have fB30 := B3.out.fro 0
          have fB31 := B3.out.fro 1
          have fB40 := B4.out.fro 0
          have fB41 := B4.out.fro 1
          go_wp2
          refine bodyPost_ret (v := .tuple #[.agg #[.bool b3, .slice A3 n3 k3], .agg #[.bool b4, .slice A4 n4 k4], .bool true]) (by simp [results, Tryz.results44, go_sem, cB30, cB31, cB40, cB41]) rfl ⟨_, _, _, _, _, _, _, _, rfl, ?_, ?_, below_stored (below_stored HW.out (by omega) _ _) (by omega) _ _⟩
          · rw [(rdm_pp (z1 := z1) (z2 := z2) (by omega) (by omega)).1]
            exact (HR3.out.store B3.out nil_noInt (.bool b3) (.slice A3 n3 k3)).store (B4.out.far (by omega) _ _) nil_noInt (.bool b4) (.slice A4 n4 k4)
          · rw [(rdm_pp (z1 := z1) (z2 := z2) (by omega) (by omega)).2]
            exact (HR4.out.store B3.out nil_noInt (.bool b3) (.slice A3 n3 k3)).store (B4.out.far (by omega) _ _) nil_noInt (.bool b4) (.slice A4 n4 k4)
end Go.Proofs.YtoflndeonegkpaaGreatDoor
