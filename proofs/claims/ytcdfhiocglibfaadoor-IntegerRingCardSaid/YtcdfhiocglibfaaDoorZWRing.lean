/- The law IntegerRing: its walk. -/
import Derived.Test.YtcdfhiocglibfaaDoorAwake
import Derived.Test.YtcdfhiocglibfaaDoorZBase
import Derived.Test.YtcdfhiocglibfaaDoorTwo
namespace Go.Proofs.YtcdfhiocglibfaaDoor
open Go.RowKit

set_option maxRecDepth 100000 in
set_option maxHeartbeats 8000000 in
theorem walk_IntegerRing (b_a : Bool) (m_a : Value) (l_a : List Nat) (b_b : Bool) (m_b : Value) (l_b : List Nat) (b_c : Bool) (m_c : Value) (l_c : List Nat) (w : World) (h_a : NatAt w m_a l_a) (h_b : NatAt w m_b l_b) (h_c : NatAt w m_c l_c) (htab : Tab w) : Calls Tryd.prog 10 #[.agg #[.bool b_a, m_a], .agg #[.bool b_b, m_b], .agg #[.bool b_c, m_c]] w (GivesTrue w) := by
  have HT := Lib.hid htab
  clear htab
  have H_a := Lib.hid h_a
  clear h_a
  have H_b := Lib.hid h_b
  clear h_b
  have H_c := Lib.hid h_c
  clear h_c
  by_cases s_a : l_a.length ≤ 20
  · by_cases s_b : l_b.length ≤ 20
    · by_cases s_c : l_c.length ≤ 20
      · have S_a := Lib.hid (H_a.out.zsz b_a s_a)
        have S_b := Lib.hid (H_b.out.zsz b_b s_b)
        have S_c := Lib.hid (H_c.out.zsz b_c s_c)
        go_enter Tryd.func10, Tryd.ntmps10
        go_wp2_with fail
        obtain ⟨W1, hW, NB, NC, ND, HW, _⟩ := boxes3 w (.bool b_a) m_a (.bool b_b) m_b (.bool b_c) m_c
        rw [hW]
        clear hW
        replace HT := Lib.hid (HT.out.below HW.out)
        replace H_a := Lib.hid (H_a.out.below HW.out)
        replace H_b := Lib.hid (H_b.out.below HW.out)
        replace H_c := Lib.hid (H_c.out.below HW.out)
        have hB := HW.out
        have B_a := NB
        have B_b := NC
        have B_c := ND
        clear NB NC ND HW
        refine (zshort_yes (k := 20) (by exact H_a.out) s_a).mono ?_
        rintro e w1 ⟨rfl, hb⟩
        replace HT := Lib.hid (HT.out.below hb)
        replace H_a := Lib.hid (H_a.out.below hb)
        replace H_b := Lib.hid (H_b.out.below hb)
        replace H_c := Lib.hid (H_c.out.below hb)
        replace B_a := Lib.hid (B_a.out.below hb)
        replace B_b := Lib.hid (B_b.out.below hb)
        replace B_c := Lib.hid (B_c.out.below hb)
        replace hB := below_next hB hb
        clear hb
        have c_a0 := B_a.out.cell0
        have c_a1 := B_a.out.cell1
        have c_b0 := B_b.out.cell0
        have c_b1 := B_b.out.cell1
        have c_c0 := B_c.out.cell0
        have c_c1 := B_c.out.cell1
        go_wp2_with fail
        clear c_a0 c_a1 c_b0 c_b1 c_c0 c_c1
        refine (zshort_yes (k := 20) (by exact H_b.out) s_b).mono ?_
        rintro e w2 ⟨rfl, hb⟩
        replace HT := Lib.hid (HT.out.below hb)
        replace H_a := Lib.hid (H_a.out.below hb)
        replace H_b := Lib.hid (H_b.out.below hb)
        replace H_c := Lib.hid (H_c.out.below hb)
        replace B_a := Lib.hid (B_a.out.below hb)
        replace B_b := Lib.hid (B_b.out.below hb)
        replace B_c := Lib.hid (B_c.out.below hb)
        replace hB := below_next hB hb
        clear hb
        have c_a0 := B_a.out.cell0
        have c_a1 := B_a.out.cell1
        have c_b0 := B_b.out.cell0
        have c_b1 := B_b.out.cell1
        have c_c0 := B_c.out.cell0
        have c_c1 := B_c.out.cell1
        go_wp2_with fail
        clear c_a0 c_a1 c_b0 c_b1 c_c0 c_c1
        refine (zshort_yes (k := 20) (by exact H_c.out) s_c).mono ?_
        rintro e w3 ⟨rfl, hb⟩
        replace HT := Lib.hid (HT.out.below hb)
        replace H_a := Lib.hid (H_a.out.below hb)
        replace H_b := Lib.hid (H_b.out.below hb)
        replace H_c := Lib.hid (H_c.out.below hb)
        replace B_a := Lib.hid (B_a.out.below hb)
        replace B_b := Lib.hid (B_b.out.below hb)
        replace B_c := Lib.hid (B_c.out.below hb)
        replace hB := below_next hB hb
        clear hb
        have c_a0 := B_a.out.cell0
        have c_a1 := B_a.out.cell1
        have c_b0 := B_b.out.cell0
        have c_b1 := B_b.out.cell1
        have c_c0 := B_c.out.cell0
        have c_c1 := B_c.out.cell1
        go_wp2
        clear c_a0 c_a1 c_b0 c_b1 c_c0 c_c1
        have s_B_a0 := B_a.out.cell0
        have s_B_a1 := B_a.out.cell1
        have s_B_b0 := B_b.out.cell0
        have s_B_b1 := B_b.out.cell1
        refine wp_region_noPanic ?_
        refine wp_region_held_drew (S := fun w' => w'.cell? ⟨w.heap.size, 0, none⟩ = some (.bool b_a) ∧ w'.cell? ⟨w.heap.size, 1, none⟩ = some m_a ∧ w'.cell? ⟨w.heap.size + 1, 0, none⟩ = some (.bool b_b) ∧ w'.cell? ⟨w.heap.size + 1, 1, none⟩ = some m_b) (by kernel_rfl) (by exact ⟨s_B_a0, s_B_a1, s_B_b0, s_B_b1⟩) (fun hHeld => ?_)
        clear s_B_a0 s_B_a1 s_B_b0 s_B_b1
        have HB := Lib.hid (belowDrew w3)
        generalize w3.drew = V0 at HB hHeld ⊢
        refine wpAnyH_take2 0 (v := ?_) (fun _ _ _ _ _ h => h) (by simp only [List.getElem?_toArray, List.getElem?_cons_zero]; rfl) (by kernel_rfl) (by kernel_rfl) (by kernel_rfl) (by rfl) ?_ hHeld ?_
        rotate_left
        · (intro w hSw; (try dsimp only at hSw); go_simp; (try with_reducible rfl))
        simp only [Act.put, List.setIfInBounds_toArray, List.set_cons_zero, List.set_cons_succ]
        refine wpAnyH_take2 1 (v := ?_) (fun _ _ _ _ _ h => h) (by simp only [List.getElem?_toArray, List.getElem?_cons_succ, List.getElem?_cons_zero]; rfl) (by kernel_rfl) (by kernel_rfl) (by kernel_rfl) (by rfl) ?_ hHeld ?_
        rotate_left
        · (intro w hSw; (try dsimp only at hSw); go_simp; (try with_reducible rfl))
        simp only [Act.put, List.setIfInBounds_toArray, List.set_cons_zero, List.set_cons_succ]
        refine wpAnyH_take2 3 (v := ?_) (fun _ _ _ _ _ h => h) (by simp only [List.getElem?_toArray, List.getElem?_cons_succ, List.getElem?_cons_zero]; rfl) (by kernel_rfl) (by kernel_rfl) (by kernel_rfl) (by rfl) ?_ hHeld ?_
        rotate_left
        · (intro w hSw; (try dsimp only at hSw); go_simp; (try with_reducible rfl))
        simp only [Act.put, List.setIfInBounds_toArray, List.set_cons_zero, List.set_cons_succ]
        refine wpAnyH_take2 4 (v := ?_) (fun _ _ _ _ _ h => h) (by simp only [List.getElem?_toArray, List.getElem?_cons_succ, List.getElem?_cons_zero]; rfl) (by kernel_rfl) (by kernel_rfl) (by kernel_rfl) (by rfl) ?_ hHeld ?_
        rotate_left
        · (intro w hSw; (try dsimp only at hSw); go_simp; (try with_reducible rfl))
        simp only [Act.put, List.setIfInBounds_toArray, List.set_cons_zero, List.set_cons_succ]
        refine wpAnyH_key4 2 #[true, true, true, true, true, true, true, true, false, false] 25 28 7 8 (TwoJ w3 (zval b_a l_a + zval b_b l_b) (zval b_a l_a * zval b_b l_b)) ?_ (fun key => ?_)
        rotate_left
        · simp only [Act.put, List.setIfInBounds_toArray, List.set_cons_zero, List.set_cons_succ] at key
          have KEY := Lib.hid key
          clear key
          refine wpAnyH_ready (rs := [2, 6, 7]) (by kernel_rfl) (by simp) ?_
          refine AllReadyH.cons (by simp only [List.getElem?_toArray, List.getElem?_cons_succ, List.getElem?_cons_zero]; rfl) (fun K hK => ?_) ?_
          · go_simp
            refine (iadd_any _ _ _ _ _ _ 20 20 _ (by exact ⟨l_a, H_a.out.below HB.out, s_a, rfl⟩) (by exact ⟨l_b, H_b.out.below HB.out, s_b, rfl⟩) (by omega) (by omega)).mono ?_
            rintro e V1 ⟨bq0, Aq0, nq0, kq0, rfl, h, hb⟩
            have hb0 := HB
            replace HB := Lib.hid (below_next HB.out hb)
            have Zq0 := Lib.hid h
            clear h hb hb0
            go_wp2_with fail
            refine hK.out _ _ (by exact ⟨(B_a.out.below HB.out).cell0, (B_a.out.below HB.out).cell1, (B_b.out.below HB.out).cell0, (B_b.out.below HB.out).cell1⟩) (fun hHeld => ?_)
            clear hK K hHeld
            try simp only [Act.put, List.setIfInBounds_toArray, List.set_cons_zero, List.set_cons_succ]
            refine wpAnyH_ready (rs := [5, 6, 7]) (by kernel_rfl) (by simp) ?_
            refine AllReadyH.cons (by simp only [List.getElem?_toArray, List.getElem?_cons_succ, List.getElem?_cons_zero]; rfl) (fun K hK => ?_) ?_
            · go_simp
              refine (imul_any _ _ _ _ _ _ 20 20 _ (by exact ⟨l_a, H_a.out.below HB.out, s_a, rfl⟩) (by exact ⟨l_b, H_b.out.below HB.out, s_b, rfl⟩) (by omega) (by omega)).mono ?_
              rintro e V2 ⟨bq1, Aq1, nq1, kq1, rfl, h, hb⟩
              have hb0 := HB
              replace HB := Lib.hid (below_next HB.out hb)
              replace Zq0 := Lib.hid (Zq0.out.below hb)
              have Zq1 := Lib.hid h
              clear h hb hb0
              go_wp2_with fail
              refine hK.out _ _ (by exact ⟨(B_a.out.below HB.out).cell0, (B_a.out.below HB.out).cell1, (B_b.out.below HB.out).cell0, (B_b.out.below HB.out).cell1⟩) (fun hHeld => ?_)
              clear hK K hHeld
              try simp only [Act.put, List.setIfInBounds_toArray, List.set_cons_zero, List.set_cons_succ]
              refine wpAnyH_ready (rs := [6, 7]) (by kernel_rfl) (by simp) ?_
              refine AllReadyH.cons (by simp only [List.getElem?_toArray, List.getElem?_cons_succ, List.getElem?_cons_zero]; rfl) (fun K hK => ?_) ?_
              · go_simp
                obtain ⟨V3, gq0, hV, hg, Xq0, hb⟩ := newBox V2 (.bool false) (.slice none 0 0)
                rw [hV, hg]
                clear hV
                have qq0 : w3.heap.size ≤ gq0 := hg ▸ HB.out.size
                have hb0 := HB
                replace HB := Lib.hid (below_next HB.out hb)
                replace Zq0 := Lib.hid (Zq0.out.below hb)
                replace Zq1 := Lib.hid (Zq1.out.below hb)
                clear hb hb0 hg
                refine hK.out _ _ (by exact ⟨(B_a.out.below HB.out).cell0, (B_a.out.below HB.out).cell1, (B_b.out.below HB.out).cell0, (B_b.out.below HB.out).cell1⟩) (fun hHeld => ?_)
                clear hK K hHeld
                try simp only [Act.put, List.setIfInBounds_toArray, List.set_cons_zero, List.set_cons_succ]
                refine wpAnyH_ready (rs := [7]) (by kernel_rfl) (by simp) ?_
                refine AllReadyH.cons (by simp only [List.getElem?_toArray, List.getElem?_cons_succ, List.getElem?_cons_zero]; rfl) (fun K hK => ?_) ?_
                · go_simp
                  obtain ⟨V4, gq1, hV, hg, Xq1, hb⟩ := newBox V3 (.bool false) (.slice none 0 0)
                  rw [hV, hg]
                  clear hV
                  have ne : gq0 ≠ gq1 := by have := Xq0.out.lt; omega
                  have qq1 : w3.heap.size ≤ gq1 := hg ▸ HB.out.size
                  have hb0 := HB
                  replace HB := Lib.hid (below_next HB.out hb)
                  replace Zq0 := Lib.hid (Zq0.out.below hb)
                  replace Xq0 := Lib.hid (Xq0.out.below hb)
                  replace Zq1 := Lib.hid (Zq1.out.below hb)
                  clear hb hb0 hg
                  refine hK.out _ _ (by exact ⟨(B_a.out.below HB.out).cell0, (B_a.out.below HB.out).cell1, (B_b.out.below HB.out).cell0, (B_b.out.below HB.out).cell1⟩) (fun hHeld => ?_)
                  clear hK K hHeld
                  try simp only [Act.put, List.setIfInBounds_toArray, List.set_cons_zero, List.set_cons_succ]
                  exact wpAnyH_at #[true, true, true, true, true, true, true, true, false, false] (by kernel_rfl) (KEY.out _ _ _ _ _ ⟨bq0, Aq0, nq0, kq0, bq1, Aq1, nq1, kq1, gq0, gq1, rfl, rfl, rfl, rfl, Zq0.out, Zq1.out, Xq0.out, Xq1.out, ne, qq0, qq1, HB.out⟩)
                exact AllReadyH.nil
              refine AllReadyH.cons (by simp only [List.getElem?_toArray, List.getElem?_cons_succ, List.getElem?_cons_zero]; rfl) (fun K hK => ?_) ?_
              · go_simp
                obtain ⟨V3, gq1, hV, hg, Xq1, hb⟩ := newBox V2 (.bool false) (.slice none 0 0)
                rw [hV, hg]
                clear hV
                have qq1 : w3.heap.size ≤ gq1 := hg ▸ HB.out.size
                have hb0 := HB
                replace HB := Lib.hid (below_next HB.out hb)
                replace Zq0 := Lib.hid (Zq0.out.below hb)
                replace Zq1 := Lib.hid (Zq1.out.below hb)
                clear hb hb0 hg
                refine hK.out _ _ (by exact ⟨(B_a.out.below HB.out).cell0, (B_a.out.below HB.out).cell1, (B_b.out.below HB.out).cell0, (B_b.out.below HB.out).cell1⟩) (fun hHeld => ?_)
                clear hK K hHeld
                try simp only [Act.put, List.setIfInBounds_toArray, List.set_cons_zero, List.set_cons_succ]
                refine wpAnyH_ready (rs := [6]) (by kernel_rfl) (by simp) ?_
                refine AllReadyH.cons (by simp only [List.getElem?_toArray, List.getElem?_cons_succ, List.getElem?_cons_zero]; rfl) (fun K hK => ?_) ?_
                · go_simp
                  obtain ⟨V4, gq0, hV, hg, Xq0, hb⟩ := newBox V3 (.bool false) (.slice none 0 0)
                  rw [hV, hg]
                  clear hV
                  have ne : gq0 ≠ gq1 := by have := Xq1.out.lt; omega
                  have qq0 : w3.heap.size ≤ gq0 := hg ▸ HB.out.size
                  have hb0 := HB
                  replace HB := Lib.hid (below_next HB.out hb)
                  replace Zq0 := Lib.hid (Zq0.out.below hb)
                  replace Zq1 := Lib.hid (Zq1.out.below hb)
                  replace Xq1 := Lib.hid (Xq1.out.below hb)
                  clear hb hb0 hg
                  refine hK.out _ _ (by exact ⟨(B_a.out.below HB.out).cell0, (B_a.out.below HB.out).cell1, (B_b.out.below HB.out).cell0, (B_b.out.below HB.out).cell1⟩) (fun hHeld => ?_)
                  clear hK K hHeld
                  try simp only [Act.put, List.setIfInBounds_toArray, List.set_cons_zero, List.set_cons_succ]
                  exact wpAnyH_at #[true, true, true, true, true, true, true, true, false, false] (by kernel_rfl) (KEY.out _ _ _ _ _ ⟨bq0, Aq0, nq0, kq0, bq1, Aq1, nq1, kq1, gq0, gq1, rfl, rfl, rfl, rfl, Zq0.out, Zq1.out, Xq0.out, Xq1.out, ne, qq0, qq1, HB.out⟩)
                exact AllReadyH.nil
              exact AllReadyH.nil
            refine AllReadyH.cons (by simp only [List.getElem?_toArray, List.getElem?_cons_succ, List.getElem?_cons_zero]; rfl) (fun K hK => ?_) ?_
            · go_simp
              obtain ⟨V2, gq0, hV, hg, Xq0, hb⟩ := newBox V1 (.bool false) (.slice none 0 0)
              rw [hV, hg]
              clear hV
              have qq0 : w3.heap.size ≤ gq0 := hg ▸ HB.out.size
              have hb0 := HB
              replace HB := Lib.hid (below_next HB.out hb)
              replace Zq0 := Lib.hid (Zq0.out.below hb)
              clear hb hb0 hg
              refine hK.out _ _ (by exact ⟨(B_a.out.below HB.out).cell0, (B_a.out.below HB.out).cell1, (B_b.out.below HB.out).cell0, (B_b.out.below HB.out).cell1⟩) (fun hHeld => ?_)
              clear hK K hHeld
              try simp only [Act.put, List.setIfInBounds_toArray, List.set_cons_zero, List.set_cons_succ]
              refine wpAnyH_ready (rs := [5, 7]) (by kernel_rfl) (by simp) ?_
              refine AllReadyH.cons (by simp only [List.getElem?_toArray, List.getElem?_cons_succ, List.getElem?_cons_zero]; rfl) (fun K hK => ?_) ?_
              · go_simp
                refine (imul_any _ _ _ _ _ _ 20 20 _ (by exact ⟨l_a, H_a.out.below HB.out, s_a, rfl⟩) (by exact ⟨l_b, H_b.out.below HB.out, s_b, rfl⟩) (by omega) (by omega)).mono ?_
                rintro e V3 ⟨bq1, Aq1, nq1, kq1, rfl, h, hb⟩
                have hb0 := HB
                replace HB := Lib.hid (below_next HB.out hb)
                replace Zq0 := Lib.hid (Zq0.out.below hb)
                replace Xq0 := Lib.hid (Xq0.out.below hb)
                have Zq1 := Lib.hid h
                clear h hb hb0
                go_wp2_with fail
                refine hK.out _ _ (by exact ⟨(B_a.out.below HB.out).cell0, (B_a.out.below HB.out).cell1, (B_b.out.below HB.out).cell0, (B_b.out.below HB.out).cell1⟩) (fun hHeld => ?_)
                clear hK K hHeld
                try simp only [Act.put, List.setIfInBounds_toArray, List.set_cons_zero, List.set_cons_succ]
                refine wpAnyH_ready (rs := [7]) (by kernel_rfl) (by simp) ?_
                refine AllReadyH.cons (by simp only [List.getElem?_toArray, List.getElem?_cons_succ, List.getElem?_cons_zero]; rfl) (fun K hK => ?_) ?_
                · go_simp
                  obtain ⟨V4, gq1, hV, hg, Xq1, hb⟩ := newBox V3 (.bool false) (.slice none 0 0)
                  rw [hV, hg]
                  clear hV
                  have ne : gq0 ≠ gq1 := by have := Xq0.out.lt; omega
                  have qq1 : w3.heap.size ≤ gq1 := hg ▸ HB.out.size
                  have hb0 := HB
                  replace HB := Lib.hid (below_next HB.out hb)
                  replace Zq0 := Lib.hid (Zq0.out.below hb)
                  replace Xq0 := Lib.hid (Xq0.out.below hb)
                  replace Zq1 := Lib.hid (Zq1.out.below hb)
                  clear hb hb0 hg
                  refine hK.out _ _ (by exact ⟨(B_a.out.below HB.out).cell0, (B_a.out.below HB.out).cell1, (B_b.out.below HB.out).cell0, (B_b.out.below HB.out).cell1⟩) (fun hHeld => ?_)
                  clear hK K hHeld
                  try simp only [Act.put, List.setIfInBounds_toArray, List.set_cons_zero, List.set_cons_succ]
                  exact wpAnyH_at #[true, true, true, true, true, true, true, true, false, false] (by kernel_rfl) (KEY.out _ _ _ _ _ ⟨bq0, Aq0, nq0, kq0, bq1, Aq1, nq1, kq1, gq0, gq1, rfl, rfl, rfl, rfl, Zq0.out, Zq1.out, Xq0.out, Xq1.out, ne, qq0, qq1, HB.out⟩)
                exact AllReadyH.nil
              refine AllReadyH.cons (by simp only [List.getElem?_toArray, List.getElem?_cons_succ, List.getElem?_cons_zero]; rfl) (fun K hK => ?_) ?_
              · go_simp
                obtain ⟨V3, gq1, hV, hg, Xq1, hb⟩ := newBox V2 (.bool false) (.slice none 0 0)
                rw [hV, hg]
                clear hV
                have ne : gq0 ≠ gq1 := by have := Xq0.out.lt; omega
                have qq1 : w3.heap.size ≤ gq1 := hg ▸ HB.out.size
                have hb0 := HB
                replace HB := Lib.hid (below_next HB.out hb)
                replace Zq0 := Lib.hid (Zq0.out.below hb)
                replace Xq0 := Lib.hid (Xq0.out.below hb)
                clear hb hb0 hg
                refine hK.out _ _ (by exact ⟨(B_a.out.below HB.out).cell0, (B_a.out.below HB.out).cell1, (B_b.out.below HB.out).cell0, (B_b.out.below HB.out).cell1⟩) (fun hHeld => ?_)
                clear hK K hHeld
                try simp only [Act.put, List.setIfInBounds_toArray, List.set_cons_zero, List.set_cons_succ]
                refine wpAnyH_ready (rs := [5]) (by kernel_rfl) (by simp) ?_
                refine AllReadyH.cons (by simp only [List.getElem?_toArray, List.getElem?_cons_succ, List.getElem?_cons_zero]; rfl) (fun K hK => ?_) ?_
                · go_simp
                  refine (imul_any _ _ _ _ _ _ 20 20 _ (by exact ⟨l_a, H_a.out.below HB.out, s_a, rfl⟩) (by exact ⟨l_b, H_b.out.below HB.out, s_b, rfl⟩) (by omega) (by omega)).mono ?_
                  rintro e V4 ⟨bq1, Aq1, nq1, kq1, rfl, h, hb⟩
                  have hb0 := HB
                  replace HB := Lib.hid (below_next HB.out hb)
                  replace Zq0 := Lib.hid (Zq0.out.below hb)
                  replace Xq0 := Lib.hid (Xq0.out.below hb)
                  replace Xq1 := Lib.hid (Xq1.out.below hb)
                  have Zq1 := Lib.hid h
                  clear h hb hb0
                  go_wp2_with fail
                  refine hK.out _ _ (by exact ⟨(B_a.out.below HB.out).cell0, (B_a.out.below HB.out).cell1, (B_b.out.below HB.out).cell0, (B_b.out.below HB.out).cell1⟩) (fun hHeld => ?_)
                  clear hK K hHeld
                  try simp only [Act.put, List.setIfInBounds_toArray, List.set_cons_zero, List.set_cons_succ]
                  exact wpAnyH_at #[true, true, true, true, true, true, true, true, false, false] (by kernel_rfl) (KEY.out _ _ _ _ _ ⟨bq0, Aq0, nq0, kq0, bq1, Aq1, nq1, kq1, gq0, gq1, rfl, rfl, rfl, rfl, Zq0.out, Zq1.out, Xq0.out, Xq1.out, ne, qq0, qq1, HB.out⟩)
                exact AllReadyH.nil
              exact AllReadyH.nil
            refine AllReadyH.cons (by simp only [List.getElem?_toArray, List.getElem?_cons_succ, List.getElem?_cons_zero]; rfl) (fun K hK => ?_) ?_
            · go_simp
              obtain ⟨V2, gq1, hV, hg, Xq1, hb⟩ := newBox V1 (.bool false) (.slice none 0 0)
              rw [hV, hg]
              clear hV
              have qq1 : w3.heap.size ≤ gq1 := hg ▸ HB.out.size
              have hb0 := HB
              replace HB := Lib.hid (below_next HB.out hb)
              replace Zq0 := Lib.hid (Zq0.out.below hb)
              clear hb hb0 hg
              refine hK.out _ _ (by exact ⟨(B_a.out.below HB.out).cell0, (B_a.out.below HB.out).cell1, (B_b.out.below HB.out).cell0, (B_b.out.below HB.out).cell1⟩) (fun hHeld => ?_)
              clear hK K hHeld
              try simp only [Act.put, List.setIfInBounds_toArray, List.set_cons_zero, List.set_cons_succ]
              refine wpAnyH_ready (rs := [5, 6]) (by kernel_rfl) (by simp) ?_
              refine AllReadyH.cons (by simp only [List.getElem?_toArray, List.getElem?_cons_succ, List.getElem?_cons_zero]; rfl) (fun K hK => ?_) ?_
              · go_simp
                refine (imul_any _ _ _ _ _ _ 20 20 _ (by exact ⟨l_a, H_a.out.below HB.out, s_a, rfl⟩) (by exact ⟨l_b, H_b.out.below HB.out, s_b, rfl⟩) (by omega) (by omega)).mono ?_
                rintro e V3 ⟨bq1, Aq1, nq1, kq1, rfl, h, hb⟩
                have hb0 := HB
                replace HB := Lib.hid (below_next HB.out hb)
                replace Zq0 := Lib.hid (Zq0.out.below hb)
                replace Xq1 := Lib.hid (Xq1.out.below hb)
                have Zq1 := Lib.hid h
                clear h hb hb0
                go_wp2_with fail
                refine hK.out _ _ (by exact ⟨(B_a.out.below HB.out).cell0, (B_a.out.below HB.out).cell1, (B_b.out.below HB.out).cell0, (B_b.out.below HB.out).cell1⟩) (fun hHeld => ?_)
                clear hK K hHeld
                try simp only [Act.put, List.setIfInBounds_toArray, List.set_cons_zero, List.set_cons_succ]
                refine wpAnyH_ready (rs := [6]) (by kernel_rfl) (by simp) ?_
                refine AllReadyH.cons (by simp only [List.getElem?_toArray, List.getElem?_cons_succ, List.getElem?_cons_zero]; rfl) (fun K hK => ?_) ?_
                · go_simp
                  obtain ⟨V4, gq0, hV, hg, Xq0, hb⟩ := newBox V3 (.bool false) (.slice none 0 0)
                  rw [hV, hg]
                  clear hV
                  have ne : gq0 ≠ gq1 := by have := Xq1.out.lt; omega
                  have qq0 : w3.heap.size ≤ gq0 := hg ▸ HB.out.size
                  have hb0 := HB
                  replace HB := Lib.hid (below_next HB.out hb)
                  replace Zq0 := Lib.hid (Zq0.out.below hb)
                  replace Zq1 := Lib.hid (Zq1.out.below hb)
                  replace Xq1 := Lib.hid (Xq1.out.below hb)
                  clear hb hb0 hg
                  refine hK.out _ _ (by exact ⟨(B_a.out.below HB.out).cell0, (B_a.out.below HB.out).cell1, (B_b.out.below HB.out).cell0, (B_b.out.below HB.out).cell1⟩) (fun hHeld => ?_)
                  clear hK K hHeld
                  try simp only [Act.put, List.setIfInBounds_toArray, List.set_cons_zero, List.set_cons_succ]
                  exact wpAnyH_at #[true, true, true, true, true, true, true, true, false, false] (by kernel_rfl) (KEY.out _ _ _ _ _ ⟨bq0, Aq0, nq0, kq0, bq1, Aq1, nq1, kq1, gq0, gq1, rfl, rfl, rfl, rfl, Zq0.out, Zq1.out, Xq0.out, Xq1.out, ne, qq0, qq1, HB.out⟩)
                exact AllReadyH.nil
              refine AllReadyH.cons (by simp only [List.getElem?_toArray, List.getElem?_cons_succ, List.getElem?_cons_zero]; rfl) (fun K hK => ?_) ?_
              · go_simp
                obtain ⟨V3, gq0, hV, hg, Xq0, hb⟩ := newBox V2 (.bool false) (.slice none 0 0)
                rw [hV, hg]
                clear hV
                have ne : gq0 ≠ gq1 := by have := Xq1.out.lt; omega
                have qq0 : w3.heap.size ≤ gq0 := hg ▸ HB.out.size
                have hb0 := HB
                replace HB := Lib.hid (below_next HB.out hb)
                replace Zq0 := Lib.hid (Zq0.out.below hb)
                replace Xq1 := Lib.hid (Xq1.out.below hb)
                clear hb hb0 hg
                refine hK.out _ _ (by exact ⟨(B_a.out.below HB.out).cell0, (B_a.out.below HB.out).cell1, (B_b.out.below HB.out).cell0, (B_b.out.below HB.out).cell1⟩) (fun hHeld => ?_)
                clear hK K hHeld
                try simp only [Act.put, List.setIfInBounds_toArray, List.set_cons_zero, List.set_cons_succ]
                refine wpAnyH_ready (rs := [5]) (by kernel_rfl) (by simp) ?_
                refine AllReadyH.cons (by simp only [List.getElem?_toArray, List.getElem?_cons_succ, List.getElem?_cons_zero]; rfl) (fun K hK => ?_) ?_
                · go_simp
                  refine (imul_any _ _ _ _ _ _ 20 20 _ (by exact ⟨l_a, H_a.out.below HB.out, s_a, rfl⟩) (by exact ⟨l_b, H_b.out.below HB.out, s_b, rfl⟩) (by omega) (by omega)).mono ?_
                  rintro e V4 ⟨bq1, Aq1, nq1, kq1, rfl, h, hb⟩
                  have hb0 := HB
                  replace HB := Lib.hid (below_next HB.out hb)
                  replace Zq0 := Lib.hid (Zq0.out.below hb)
                  replace Xq0 := Lib.hid (Xq0.out.below hb)
                  replace Xq1 := Lib.hid (Xq1.out.below hb)
                  have Zq1 := Lib.hid h
                  clear h hb hb0
                  go_wp2_with fail
                  refine hK.out _ _ (by exact ⟨(B_a.out.below HB.out).cell0, (B_a.out.below HB.out).cell1, (B_b.out.below HB.out).cell0, (B_b.out.below HB.out).cell1⟩) (fun hHeld => ?_)
                  clear hK K hHeld
                  try simp only [Act.put, List.setIfInBounds_toArray, List.set_cons_zero, List.set_cons_succ]
                  exact wpAnyH_at #[true, true, true, true, true, true, true, true, false, false] (by kernel_rfl) (KEY.out _ _ _ _ _ ⟨bq0, Aq0, nq0, kq0, bq1, Aq1, nq1, kq1, gq0, gq1, rfl, rfl, rfl, rfl, Zq0.out, Zq1.out, Xq0.out, Xq1.out, ne, qq0, qq1, HB.out⟩)
                exact AllReadyH.nil
              exact AllReadyH.nil
            exact AllReadyH.nil
          refine AllReadyH.cons (by simp only [List.getElem?_toArray, List.getElem?_cons_succ, List.getElem?_cons_zero]; rfl) (fun K hK => ?_) ?_
          · go_simp
            obtain ⟨V1, gq0, hV, hg, Xq0, hb⟩ := newBox V0 (.bool false) (.slice none 0 0)
            rw [hV, hg]
            clear hV
            have qq0 : w3.heap.size ≤ gq0 := hg ▸ HB.out.size
            have hb0 := HB
            replace HB := Lib.hid (below_next HB.out hb)
            clear hb hb0 hg
            refine hK.out _ _ (by exact ⟨(B_a.out.below HB.out).cell0, (B_a.out.below HB.out).cell1, (B_b.out.below HB.out).cell0, (B_b.out.below HB.out).cell1⟩) (fun hHeld => ?_)
            clear hK K hHeld
            try simp only [Act.put, List.setIfInBounds_toArray, List.set_cons_zero, List.set_cons_succ]
            refine wpAnyH_ready (rs := [2, 7]) (by kernel_rfl) (by simp) ?_
            refine AllReadyH.cons (by simp only [List.getElem?_toArray, List.getElem?_cons_succ, List.getElem?_cons_zero]; rfl) (fun K hK => ?_) ?_
            · go_simp
              refine (iadd_any _ _ _ _ _ _ 20 20 _ (by exact ⟨l_a, H_a.out.below HB.out, s_a, rfl⟩) (by exact ⟨l_b, H_b.out.below HB.out, s_b, rfl⟩) (by omega) (by omega)).mono ?_
              rintro e V2 ⟨bq0, Aq0, nq0, kq0, rfl, h, hb⟩
              have hb0 := HB
              replace HB := Lib.hid (below_next HB.out hb)
              replace Xq0 := Lib.hid (Xq0.out.below hb)
              have Zq0 := Lib.hid h
              clear h hb hb0
              go_wp2_with fail
              refine hK.out _ _ (by exact ⟨(B_a.out.below HB.out).cell0, (B_a.out.below HB.out).cell1, (B_b.out.below HB.out).cell0, (B_b.out.below HB.out).cell1⟩) (fun hHeld => ?_)
              clear hK K hHeld
              try simp only [Act.put, List.setIfInBounds_toArray, List.set_cons_zero, List.set_cons_succ]
              refine wpAnyH_ready (rs := [5, 7]) (by kernel_rfl) (by simp) ?_
              refine AllReadyH.cons (by simp only [List.getElem?_toArray, List.getElem?_cons_succ, List.getElem?_cons_zero]; rfl) (fun K hK => ?_) ?_
              · go_simp
                refine (imul_any _ _ _ _ _ _ 20 20 _ (by exact ⟨l_a, H_a.out.below HB.out, s_a, rfl⟩) (by exact ⟨l_b, H_b.out.below HB.out, s_b, rfl⟩) (by omega) (by omega)).mono ?_
                rintro e V3 ⟨bq1, Aq1, nq1, kq1, rfl, h, hb⟩
                have hb0 := HB
                replace HB := Lib.hid (below_next HB.out hb)
                replace Zq0 := Lib.hid (Zq0.out.below hb)
                replace Xq0 := Lib.hid (Xq0.out.below hb)
                have Zq1 := Lib.hid h
                clear h hb hb0
                go_wp2_with fail
                refine hK.out _ _ (by exact ⟨(B_a.out.below HB.out).cell0, (B_a.out.below HB.out).cell1, (B_b.out.below HB.out).cell0, (B_b.out.below HB.out).cell1⟩) (fun hHeld => ?_)
                clear hK K hHeld
                try simp only [Act.put, List.setIfInBounds_toArray, List.set_cons_zero, List.set_cons_succ]
                refine wpAnyH_ready (rs := [7]) (by kernel_rfl) (by simp) ?_
                refine AllReadyH.cons (by simp only [List.getElem?_toArray, List.getElem?_cons_succ, List.getElem?_cons_zero]; rfl) (fun K hK => ?_) ?_
                · go_simp
                  obtain ⟨V4, gq1, hV, hg, Xq1, hb⟩ := newBox V3 (.bool false) (.slice none 0 0)
                  rw [hV, hg]
                  clear hV
                  have ne : gq0 ≠ gq1 := by have := Xq0.out.lt; omega
                  have qq1 : w3.heap.size ≤ gq1 := hg ▸ HB.out.size
                  have hb0 := HB
                  replace HB := Lib.hid (below_next HB.out hb)
                  replace Zq0 := Lib.hid (Zq0.out.below hb)
                  replace Xq0 := Lib.hid (Xq0.out.below hb)
                  replace Zq1 := Lib.hid (Zq1.out.below hb)
                  clear hb hb0 hg
                  refine hK.out _ _ (by exact ⟨(B_a.out.below HB.out).cell0, (B_a.out.below HB.out).cell1, (B_b.out.below HB.out).cell0, (B_b.out.below HB.out).cell1⟩) (fun hHeld => ?_)
                  clear hK K hHeld
                  try simp only [Act.put, List.setIfInBounds_toArray, List.set_cons_zero, List.set_cons_succ]
                  exact wpAnyH_at #[true, true, true, true, true, true, true, true, false, false] (by kernel_rfl) (KEY.out _ _ _ _ _ ⟨bq0, Aq0, nq0, kq0, bq1, Aq1, nq1, kq1, gq0, gq1, rfl, rfl, rfl, rfl, Zq0.out, Zq1.out, Xq0.out, Xq1.out, ne, qq0, qq1, HB.out⟩)
                exact AllReadyH.nil
              refine AllReadyH.cons (by simp only [List.getElem?_toArray, List.getElem?_cons_succ, List.getElem?_cons_zero]; rfl) (fun K hK => ?_) ?_
              · go_simp
                obtain ⟨V3, gq1, hV, hg, Xq1, hb⟩ := newBox V2 (.bool false) (.slice none 0 0)
                rw [hV, hg]
                clear hV
                have ne : gq0 ≠ gq1 := by have := Xq0.out.lt; omega
                have qq1 : w3.heap.size ≤ gq1 := hg ▸ HB.out.size
                have hb0 := HB
                replace HB := Lib.hid (below_next HB.out hb)
                replace Zq0 := Lib.hid (Zq0.out.below hb)
                replace Xq0 := Lib.hid (Xq0.out.below hb)
                clear hb hb0 hg
                refine hK.out _ _ (by exact ⟨(B_a.out.below HB.out).cell0, (B_a.out.below HB.out).cell1, (B_b.out.below HB.out).cell0, (B_b.out.below HB.out).cell1⟩) (fun hHeld => ?_)
                clear hK K hHeld
                try simp only [Act.put, List.setIfInBounds_toArray, List.set_cons_zero, List.set_cons_succ]
                refine wpAnyH_ready (rs := [5]) (by kernel_rfl) (by simp) ?_
                refine AllReadyH.cons (by simp only [List.getElem?_toArray, List.getElem?_cons_succ, List.getElem?_cons_zero]; rfl) (fun K hK => ?_) ?_
                · go_simp
                  refine (imul_any _ _ _ _ _ _ 20 20 _ (by exact ⟨l_a, H_a.out.below HB.out, s_a, rfl⟩) (by exact ⟨l_b, H_b.out.below HB.out, s_b, rfl⟩) (by omega) (by omega)).mono ?_
                  rintro e V4 ⟨bq1, Aq1, nq1, kq1, rfl, h, hb⟩
                  have hb0 := HB
                  replace HB := Lib.hid (below_next HB.out hb)
                  replace Zq0 := Lib.hid (Zq0.out.below hb)
                  replace Xq0 := Lib.hid (Xq0.out.below hb)
                  replace Xq1 := Lib.hid (Xq1.out.below hb)
                  have Zq1 := Lib.hid h
                  clear h hb hb0
                  go_wp2_with fail
                  refine hK.out _ _ (by exact ⟨(B_a.out.below HB.out).cell0, (B_a.out.below HB.out).cell1, (B_b.out.below HB.out).cell0, (B_b.out.below HB.out).cell1⟩) (fun hHeld => ?_)
                  clear hK K hHeld
                  try simp only [Act.put, List.setIfInBounds_toArray, List.set_cons_zero, List.set_cons_succ]
                  exact wpAnyH_at #[true, true, true, true, true, true, true, true, false, false] (by kernel_rfl) (KEY.out _ _ _ _ _ ⟨bq0, Aq0, nq0, kq0, bq1, Aq1, nq1, kq1, gq0, gq1, rfl, rfl, rfl, rfl, Zq0.out, Zq1.out, Xq0.out, Xq1.out, ne, qq0, qq1, HB.out⟩)
                exact AllReadyH.nil
              exact AllReadyH.nil
            refine AllReadyH.cons (by simp only [List.getElem?_toArray, List.getElem?_cons_succ, List.getElem?_cons_zero]; rfl) (fun K hK => ?_) ?_
            · go_simp
              obtain ⟨V2, gq1, hV, hg, Xq1, hb⟩ := newBox V1 (.bool false) (.slice none 0 0)
              rw [hV, hg]
              clear hV
              have ne : gq0 ≠ gq1 := by have := Xq0.out.lt; omega
              have qq1 : w3.heap.size ≤ gq1 := hg ▸ HB.out.size
              have hb0 := HB
              replace HB := Lib.hid (below_next HB.out hb)
              replace Xq0 := Lib.hid (Xq0.out.below hb)
              clear hb hb0 hg
              refine hK.out _ _ (by exact ⟨(B_a.out.below HB.out).cell0, (B_a.out.below HB.out).cell1, (B_b.out.below HB.out).cell0, (B_b.out.below HB.out).cell1⟩) (fun hHeld => ?_)
              clear hK K hHeld
              try simp only [Act.put, List.setIfInBounds_toArray, List.set_cons_zero, List.set_cons_succ]
              refine wpAnyH_ready (rs := [2]) (by kernel_rfl) (by simp) ?_
              refine AllReadyH.cons (by simp only [List.getElem?_toArray, List.getElem?_cons_succ, List.getElem?_cons_zero]; rfl) (fun K hK => ?_) ?_
              · go_simp
                refine (iadd_any _ _ _ _ _ _ 20 20 _ (by exact ⟨l_a, H_a.out.below HB.out, s_a, rfl⟩) (by exact ⟨l_b, H_b.out.below HB.out, s_b, rfl⟩) (by omega) (by omega)).mono ?_
                rintro e V3 ⟨bq0, Aq0, nq0, kq0, rfl, h, hb⟩
                have hb0 := HB
                replace HB := Lib.hid (below_next HB.out hb)
                replace Xq0 := Lib.hid (Xq0.out.below hb)
                replace Xq1 := Lib.hid (Xq1.out.below hb)
                have Zq0 := Lib.hid h
                clear h hb hb0
                go_wp2_with fail
                refine hK.out _ _ (by exact ⟨(B_a.out.below HB.out).cell0, (B_a.out.below HB.out).cell1, (B_b.out.below HB.out).cell0, (B_b.out.below HB.out).cell1⟩) (fun hHeld => ?_)
                clear hK K hHeld
                try simp only [Act.put, List.setIfInBounds_toArray, List.set_cons_zero, List.set_cons_succ]
                refine wpAnyH_ready (rs := [5]) (by kernel_rfl) (by simp) ?_
                refine AllReadyH.cons (by simp only [List.getElem?_toArray, List.getElem?_cons_succ, List.getElem?_cons_zero]; rfl) (fun K hK => ?_) ?_
                · go_simp
                  refine (imul_any _ _ _ _ _ _ 20 20 _ (by exact ⟨l_a, H_a.out.below HB.out, s_a, rfl⟩) (by exact ⟨l_b, H_b.out.below HB.out, s_b, rfl⟩) (by omega) (by omega)).mono ?_
                  rintro e V4 ⟨bq1, Aq1, nq1, kq1, rfl, h, hb⟩
                  have hb0 := HB
                  replace HB := Lib.hid (below_next HB.out hb)
                  replace Zq0 := Lib.hid (Zq0.out.below hb)
                  replace Xq0 := Lib.hid (Xq0.out.below hb)
                  replace Xq1 := Lib.hid (Xq1.out.below hb)
                  have Zq1 := Lib.hid h
                  clear h hb hb0
                  go_wp2_with fail
                  refine hK.out _ _ (by exact ⟨(B_a.out.below HB.out).cell0, (B_a.out.below HB.out).cell1, (B_b.out.below HB.out).cell0, (B_b.out.below HB.out).cell1⟩) (fun hHeld => ?_)
                  clear hK K hHeld
                  try simp only [Act.put, List.setIfInBounds_toArray, List.set_cons_zero, List.set_cons_succ]
                  exact wpAnyH_at #[true, true, true, true, true, true, true, true, false, false] (by kernel_rfl) (KEY.out _ _ _ _ _ ⟨bq0, Aq0, nq0, kq0, bq1, Aq1, nq1, kq1, gq0, gq1, rfl, rfl, rfl, rfl, Zq0.out, Zq1.out, Xq0.out, Xq1.out, ne, qq0, qq1, HB.out⟩)
                exact AllReadyH.nil
              exact AllReadyH.nil
            exact AllReadyH.nil
          refine AllReadyH.cons (by simp only [List.getElem?_toArray, List.getElem?_cons_succ, List.getElem?_cons_zero]; rfl) (fun K hK => ?_) ?_
          · go_simp
            obtain ⟨V1, gq1, hV, hg, Xq1, hb⟩ := newBox V0 (.bool false) (.slice none 0 0)
            rw [hV, hg]
            clear hV
            have qq1 : w3.heap.size ≤ gq1 := hg ▸ HB.out.size
            have hb0 := HB
            replace HB := Lib.hid (below_next HB.out hb)
            clear hb hb0 hg
            refine hK.out _ _ (by exact ⟨(B_a.out.below HB.out).cell0, (B_a.out.below HB.out).cell1, (B_b.out.below HB.out).cell0, (B_b.out.below HB.out).cell1⟩) (fun hHeld => ?_)
            clear hK K hHeld
            try simp only [Act.put, List.setIfInBounds_toArray, List.set_cons_zero, List.set_cons_succ]
            refine wpAnyH_ready (rs := [2, 6]) (by kernel_rfl) (by simp) ?_
            refine AllReadyH.cons (by simp only [List.getElem?_toArray, List.getElem?_cons_succ, List.getElem?_cons_zero]; rfl) (fun K hK => ?_) ?_
            · go_simp
              refine (iadd_any _ _ _ _ _ _ 20 20 _ (by exact ⟨l_a, H_a.out.below HB.out, s_a, rfl⟩) (by exact ⟨l_b, H_b.out.below HB.out, s_b, rfl⟩) (by omega) (by omega)).mono ?_
              rintro e V2 ⟨bq0, Aq0, nq0, kq0, rfl, h, hb⟩
              have hb0 := HB
              replace HB := Lib.hid (below_next HB.out hb)
              replace Xq1 := Lib.hid (Xq1.out.below hb)
              have Zq0 := Lib.hid h
              clear h hb hb0
              go_wp2_with fail
              refine hK.out _ _ (by exact ⟨(B_a.out.below HB.out).cell0, (B_a.out.below HB.out).cell1, (B_b.out.below HB.out).cell0, (B_b.out.below HB.out).cell1⟩) (fun hHeld => ?_)
              clear hK K hHeld
              try simp only [Act.put, List.setIfInBounds_toArray, List.set_cons_zero, List.set_cons_succ]
              refine wpAnyH_ready (rs := [5, 6]) (by kernel_rfl) (by simp) ?_
              refine AllReadyH.cons (by simp only [List.getElem?_toArray, List.getElem?_cons_succ, List.getElem?_cons_zero]; rfl) (fun K hK => ?_) ?_
              · go_simp
                refine (imul_any _ _ _ _ _ _ 20 20 _ (by exact ⟨l_a, H_a.out.below HB.out, s_a, rfl⟩) (by exact ⟨l_b, H_b.out.below HB.out, s_b, rfl⟩) (by omega) (by omega)).mono ?_
                rintro e V3 ⟨bq1, Aq1, nq1, kq1, rfl, h, hb⟩
                have hb0 := HB
                replace HB := Lib.hid (below_next HB.out hb)
                replace Zq0 := Lib.hid (Zq0.out.below hb)
                replace Xq1 := Lib.hid (Xq1.out.below hb)
                have Zq1 := Lib.hid h
                clear h hb hb0
                go_wp2_with fail
                refine hK.out _ _ (by exact ⟨(B_a.out.below HB.out).cell0, (B_a.out.below HB.out).cell1, (B_b.out.below HB.out).cell0, (B_b.out.below HB.out).cell1⟩) (fun hHeld => ?_)
                clear hK K hHeld
                try simp only [Act.put, List.setIfInBounds_toArray, List.set_cons_zero, List.set_cons_succ]
                refine wpAnyH_ready (rs := [6]) (by kernel_rfl) (by simp) ?_
                refine AllReadyH.cons (by simp only [List.getElem?_toArray, List.getElem?_cons_succ, List.getElem?_cons_zero]; rfl) (fun K hK => ?_) ?_
                · go_simp
                  obtain ⟨V4, gq0, hV, hg, Xq0, hb⟩ := newBox V3 (.bool false) (.slice none 0 0)
                  rw [hV, hg]
                  clear hV
                  have ne : gq0 ≠ gq1 := by have := Xq1.out.lt; omega
                  have qq0 : w3.heap.size ≤ gq0 := hg ▸ HB.out.size
                  have hb0 := HB
                  replace HB := Lib.hid (below_next HB.out hb)
                  replace Zq0 := Lib.hid (Zq0.out.below hb)
                  replace Zq1 := Lib.hid (Zq1.out.below hb)
                  replace Xq1 := Lib.hid (Xq1.out.below hb)
                  clear hb hb0 hg
                  refine hK.out _ _ (by exact ⟨(B_a.out.below HB.out).cell0, (B_a.out.below HB.out).cell1, (B_b.out.below HB.out).cell0, (B_b.out.below HB.out).cell1⟩) (fun hHeld => ?_)
                  clear hK K hHeld
                  try simp only [Act.put, List.setIfInBounds_toArray, List.set_cons_zero, List.set_cons_succ]
                  exact wpAnyH_at #[true, true, true, true, true, true, true, true, false, false] (by kernel_rfl) (KEY.out _ _ _ _ _ ⟨bq0, Aq0, nq0, kq0, bq1, Aq1, nq1, kq1, gq0, gq1, rfl, rfl, rfl, rfl, Zq0.out, Zq1.out, Xq0.out, Xq1.out, ne, qq0, qq1, HB.out⟩)
                exact AllReadyH.nil
              refine AllReadyH.cons (by simp only [List.getElem?_toArray, List.getElem?_cons_succ, List.getElem?_cons_zero]; rfl) (fun K hK => ?_) ?_
              · go_simp
                obtain ⟨V3, gq0, hV, hg, Xq0, hb⟩ := newBox V2 (.bool false) (.slice none 0 0)
                rw [hV, hg]
                clear hV
                have ne : gq0 ≠ gq1 := by have := Xq1.out.lt; omega
                have qq0 : w3.heap.size ≤ gq0 := hg ▸ HB.out.size
                have hb0 := HB
                replace HB := Lib.hid (below_next HB.out hb)
                replace Zq0 := Lib.hid (Zq0.out.below hb)
                replace Xq1 := Lib.hid (Xq1.out.below hb)
                clear hb hb0 hg
                refine hK.out _ _ (by exact ⟨(B_a.out.below HB.out).cell0, (B_a.out.below HB.out).cell1, (B_b.out.below HB.out).cell0, (B_b.out.below HB.out).cell1⟩) (fun hHeld => ?_)
                clear hK K hHeld
                try simp only [Act.put, List.setIfInBounds_toArray, List.set_cons_zero, List.set_cons_succ]
                refine wpAnyH_ready (rs := [5]) (by kernel_rfl) (by simp) ?_
                refine AllReadyH.cons (by simp only [List.getElem?_toArray, List.getElem?_cons_succ, List.getElem?_cons_zero]; rfl) (fun K hK => ?_) ?_
                · go_simp
                  refine (imul_any _ _ _ _ _ _ 20 20 _ (by exact ⟨l_a, H_a.out.below HB.out, s_a, rfl⟩) (by exact ⟨l_b, H_b.out.below HB.out, s_b, rfl⟩) (by omega) (by omega)).mono ?_
                  rintro e V4 ⟨bq1, Aq1, nq1, kq1, rfl, h, hb⟩
                  have hb0 := HB
                  replace HB := Lib.hid (below_next HB.out hb)
                  replace Zq0 := Lib.hid (Zq0.out.below hb)
                  replace Xq0 := Lib.hid (Xq0.out.below hb)
                  replace Xq1 := Lib.hid (Xq1.out.below hb)
                  have Zq1 := Lib.hid h
                  clear h hb hb0
                  go_wp2_with fail
                  refine hK.out _ _ (by exact ⟨(B_a.out.below HB.out).cell0, (B_a.out.below HB.out).cell1, (B_b.out.below HB.out).cell0, (B_b.out.below HB.out).cell1⟩) (fun hHeld => ?_)
                  clear hK K hHeld
                  try simp only [Act.put, List.setIfInBounds_toArray, List.set_cons_zero, List.set_cons_succ]
                  exact wpAnyH_at #[true, true, true, true, true, true, true, true, false, false] (by kernel_rfl) (KEY.out _ _ _ _ _ ⟨bq0, Aq0, nq0, kq0, bq1, Aq1, nq1, kq1, gq0, gq1, rfl, rfl, rfl, rfl, Zq0.out, Zq1.out, Xq0.out, Xq1.out, ne, qq0, qq1, HB.out⟩)
                exact AllReadyH.nil
              exact AllReadyH.nil
            refine AllReadyH.cons (by simp only [List.getElem?_toArray, List.getElem?_cons_succ, List.getElem?_cons_zero]; rfl) (fun K hK => ?_) ?_
            · go_simp
              obtain ⟨V2, gq0, hV, hg, Xq0, hb⟩ := newBox V1 (.bool false) (.slice none 0 0)
              rw [hV, hg]
              clear hV
              have ne : gq0 ≠ gq1 := by have := Xq1.out.lt; omega
              have qq0 : w3.heap.size ≤ gq0 := hg ▸ HB.out.size
              have hb0 := HB
              replace HB := Lib.hid (below_next HB.out hb)
              replace Xq1 := Lib.hid (Xq1.out.below hb)
              clear hb hb0 hg
              refine hK.out _ _ (by exact ⟨(B_a.out.below HB.out).cell0, (B_a.out.below HB.out).cell1, (B_b.out.below HB.out).cell0, (B_b.out.below HB.out).cell1⟩) (fun hHeld => ?_)
              clear hK K hHeld
              try simp only [Act.put, List.setIfInBounds_toArray, List.set_cons_zero, List.set_cons_succ]
              refine wpAnyH_ready (rs := [2]) (by kernel_rfl) (by simp) ?_
              refine AllReadyH.cons (by simp only [List.getElem?_toArray, List.getElem?_cons_succ, List.getElem?_cons_zero]; rfl) (fun K hK => ?_) ?_
              · go_simp
                refine (iadd_any _ _ _ _ _ _ 20 20 _ (by exact ⟨l_a, H_a.out.below HB.out, s_a, rfl⟩) (by exact ⟨l_b, H_b.out.below HB.out, s_b, rfl⟩) (by omega) (by omega)).mono ?_
                rintro e V3 ⟨bq0, Aq0, nq0, kq0, rfl, h, hb⟩
                have hb0 := HB
                replace HB := Lib.hid (below_next HB.out hb)
                replace Xq0 := Lib.hid (Xq0.out.below hb)
                replace Xq1 := Lib.hid (Xq1.out.below hb)
                have Zq0 := Lib.hid h
                clear h hb hb0
                go_wp2_with fail
                refine hK.out _ _ (by exact ⟨(B_a.out.below HB.out).cell0, (B_a.out.below HB.out).cell1, (B_b.out.below HB.out).cell0, (B_b.out.below HB.out).cell1⟩) (fun hHeld => ?_)
                clear hK K hHeld
                try simp only [Act.put, List.setIfInBounds_toArray, List.set_cons_zero, List.set_cons_succ]
                refine wpAnyH_ready (rs := [5]) (by kernel_rfl) (by simp) ?_
                refine AllReadyH.cons (by simp only [List.getElem?_toArray, List.getElem?_cons_succ, List.getElem?_cons_zero]; rfl) (fun K hK => ?_) ?_
                · go_simp
                  refine (imul_any _ _ _ _ _ _ 20 20 _ (by exact ⟨l_a, H_a.out.below HB.out, s_a, rfl⟩) (by exact ⟨l_b, H_b.out.below HB.out, s_b, rfl⟩) (by omega) (by omega)).mono ?_
                  rintro e V4 ⟨bq1, Aq1, nq1, kq1, rfl, h, hb⟩
                  have hb0 := HB
                  replace HB := Lib.hid (below_next HB.out hb)
                  replace Zq0 := Lib.hid (Zq0.out.below hb)
                  replace Xq0 := Lib.hid (Xq0.out.below hb)
                  replace Xq1 := Lib.hid (Xq1.out.below hb)
                  have Zq1 := Lib.hid h
                  clear h hb hb0
                  go_wp2_with fail
                  refine hK.out _ _ (by exact ⟨(B_a.out.below HB.out).cell0, (B_a.out.below HB.out).cell1, (B_b.out.below HB.out).cell0, (B_b.out.below HB.out).cell1⟩) (fun hHeld => ?_)
                  clear hK K hHeld
                  try simp only [Act.put, List.setIfInBounds_toArray, List.set_cons_zero, List.set_cons_succ]
                  exact wpAnyH_at #[true, true, true, true, true, true, true, true, false, false] (by kernel_rfl) (KEY.out _ _ _ _ _ ⟨bq0, Aq0, nq0, kq0, bq1, Aq1, nq1, kq1, gq0, gq1, rfl, rfl, rfl, rfl, Zq0.out, Zq1.out, Xq0.out, Xq1.out, ne, qq0, qq1, HB.out⟩)
                exact AllReadyH.nil
              exact AllReadyH.nil
            exact AllReadyH.nil
          exact AllReadyH.nil
        · rintro _ _ _ _ V5 ⟨bq0, Aq0, nq0, kq0, bq1, Aq1, nq1, kq1, gq0, gq1, rfl, rfl, rfl, rfl, y0, y1, x0, x1, ne, qq0, qq1, hbv⟩
          have Yq0 := Lib.hid y0
          have Yq1 := Lib.hid y1
          have Xq0 := Lib.hid x0
          have Xq1 := Lib.hid x1
          have HB := Lib.hid hbv
          clear y0 y1 x0 x1 hbv
          try simp only [Act.put, List.setIfInBounds_toArray, List.set_cons_zero, List.set_cons_succ]
          have xcell0 := Xq0.out.cell0
          have xcell1 := Xq0.out.cell1
          have xfro0 := Xq0.out.fro 0
          have xfro1 := Xq0.out.fro 1
          refine wpAnyH_ready (rs := [8]) (by kernel_rfl) (by simp) ?_
          refine AllReadyH.cons (by simp only [List.getElem?_toArray, List.getElem?_cons_succ, List.getElem?_cons_zero]; rfl) (fun K hK => ?_) AllReadyH.nil
          go_simp
          clear xcell0 xcell1 xfro0 xfro1
          obtain ⟨U1, hU, Dq0, sz, sb, sw⟩ := storeBox Xq0.out (.bool bq0) (.slice Aq0 nq0 kq0)
          rw [hU]
          clear hU
          replace Yq0 := Lib.hid (sz.out _ _ _ Yq0.out)
          replace Yq1 := Lib.hid (sz.out _ _ _ Yq1.out)
          replace HB := Lib.hid (sw.out _ HB.out qq0)
          replace Xq1 := Lib.hid (sb.out _ _ _ Xq1.out (fun e => ne e.symm))
          clear sz sb sw Xq0
          refine hK.out _ _ (by exact ⟨(B_a.out.below HB.out).cell0, (B_a.out.below HB.out).cell1, (B_b.out.below HB.out).cell0, (B_b.out.below HB.out).cell1⟩) (fun hHeld => ?_)
          clear hK K hHeld
          have xcell0 := Xq1.out.cell0
          have xcell1 := Xq1.out.cell1
          have xfro0 := Xq1.out.fro 0
          have xfro1 := Xq1.out.fro 1
          refine wpAnyH_ready (rs := [9]) (by kernel_rfl) (by simp) ?_
          refine AllReadyH.cons (by simp only [List.getElem?_toArray, List.getElem?_cons_succ, List.getElem?_cons_zero]; rfl) (fun K hK => ?_) AllReadyH.nil
          go_simp
          clear xcell0 xcell1 xfro0 xfro1
          obtain ⟨U2, hU, Dq1, sz, sb, sw⟩ := storeBox Xq1.out (.bool bq1) (.slice Aq1 nq1 kq1)
          rw [hU]
          clear hU
          replace Yq0 := Lib.hid (sz.out _ _ _ Yq0.out)
          replace Yq1 := Lib.hid (sz.out _ _ _ Yq1.out)
          replace HB := Lib.hid (sw.out _ HB.out qq1)
          replace Dq0 := Lib.hid (sb.out _ _ _ Dq0.out ne)
          clear sz sb sw Xq1
          refine hK.out _ _ (by exact ⟨(B_a.out.below HB.out).cell0, (B_a.out.below HB.out).cell1, (B_b.out.below HB.out).cell0, (B_b.out.below HB.out).cell1⟩) (fun hHeld => ?_)
          clear hK K hHeld
          refine wpAnyH_done (by kernel_rfl) (NoPanic.normal ?_) _
          replace HT := Lib.hid (HT.out.below HB.out)
          replace H_a := Lib.hid (H_a.out.below HB.out)
          replace H_b := Lib.hid (H_b.out.below HB.out)
          replace H_c := Lib.hid (H_c.out.below HB.out)
          replace B_a := Lib.hid (B_a.out.below HB.out)
          replace B_b := Lib.hid (B_b.out.below HB.out)
          replace B_c := Lib.hid (B_c.out.below HB.out)
          replace hB := below_next hB HB.out
          clear HB
          have B_s := Dq0
          have Z_s := Yq0
          clear Dq0 Yq0
          have B_p := Dq1
          have Z_p := Yq1
          clear Dq1 Yq1
          have c_a0 := B_a.out.cell0
          have c_a1 := B_a.out.cell1
          have c_b0 := B_b.out.cell0
          have c_b1 := B_b.out.cell1
          have c_c0 := B_c.out.cell0
          have c_c1 := B_c.out.cell1
          have c_s0 := B_s.out.cell0
          have c_s1 := B_s.out.cell1
          have c_p0 := B_p.out.cell0
          have c_p1 := B_p.out.cell1
          go_wp2
          clear c_a0 c_a1 c_b0 c_b1 c_c0 c_c1 c_s0 c_s1 c_p0 c_p1
          refine wp_region_noPanic ?_
          refine wp_region_held_drew (S := (fun w' => w'.cell? ⟨w.heap.size, 0, none⟩ = some (.bool b_a) ∧ w'.cell? ⟨w.heap.size, 1, none⟩ = some m_a ∧ w'.cell? ⟨w.heap.size + 1, 0, none⟩ = some (.bool b_b) ∧ w'.cell? ⟨w.heap.size + 1, 1, none⟩ = some m_b ∧ w'.cell? ⟨w.heap.size + 1 + 1, 0, none⟩ = some (.bool b_c) ∧ w'.cell? ⟨w.heap.size + 1 + 1, 1, none⟩ = some m_c ∧ w'.cell? ⟨gq0, 0, none⟩ = some (.bool bq0) ∧ w'.cell? ⟨gq0, 1, none⟩ = some (.slice Aq0 nq0 kq0) ∧ w'.cell? ⟨gq1, 0, none⟩ = some (.bool bq1) ∧ w'.cell? ⟨gq1, 1, none⟩ = some (.slice Aq1 nq1 kq1))) (by kernel_rfl) (by exact ⟨B_a.out.cell0, B_a.out.cell1, B_b.out.cell0, B_b.out.cell1, B_c.out.cell0, B_c.out.cell1, B_s.out.cell0, B_s.out.cell1, B_p.out.cell0, B_p.out.cell1⟩) (fun hHeld => ?_)
          have hb := belowDrew U2
          generalize U2.drew = V_2 at hb hHeld ⊢
          replace HT := Lib.hid (HT.out.below hb)
          replace H_a := Lib.hid (H_a.out.below hb)
          replace H_b := Lib.hid (H_b.out.below hb)
          replace H_c := Lib.hid (H_c.out.below hb)
          replace Z_s := Lib.hid (Z_s.out.below hb)
          replace Z_p := Lib.hid (Z_p.out.below hb)
          replace B_a := Lib.hid (B_a.out.below hb)
          replace B_b := Lib.hid (B_b.out.below hb)
          replace B_c := Lib.hid (B_c.out.below hb)
          replace B_s := Lib.hid (B_s.out.below hb)
          replace B_p := Lib.hid (B_p.out.below hb)
          replace hB := below_next hB hb
          clear hb
          refine wpAnyH_take2 0 (v := ?_) (fun _ _ _ _ _ h => h) (by simp only [List.getElem?_toArray, List.getElem?_cons_zero]; rfl) (by kernel_rfl) (by kernel_rfl) (by kernel_rfl) (by rfl) ?_ hHeld ?_
          rotate_left
          · (intro w hSw; (try dsimp only at hSw); go_simp; (try with_reducible rfl))
          try simp only [Act.put, List.setIfInBounds_toArray, List.set_cons_zero, List.set_cons_succ]
          refine wpAnyH_take2 1 (v := ?_) (fun _ _ _ _ _ h => h) (by simp only [List.getElem?_toArray, List.getElem?_cons_succ, List.getElem?_cons_zero]; rfl) (by kernel_rfl) (by kernel_rfl) (by kernel_rfl) (by rfl) ?_ hHeld ?_
          rotate_left
          · (intro w hSw; (try dsimp only at hSw); go_simp; (try with_reducible rfl))
          try simp only [Act.put, List.setIfInBounds_toArray, List.set_cons_zero, List.set_cons_succ]
          refine wpAnyH_take2 2 (v := ?_) (fun _ _ _ _ _ h => h) (by simp only [List.getElem?_toArray, List.getElem?_cons_succ, List.getElem?_cons_zero]; rfl) (by kernel_rfl) (by kernel_rfl) (by kernel_rfl) (by rfl) ?_ hHeld ?_
          rotate_left
          · (intro w hSw; (try dsimp only at hSw); go_simp; (try with_reducible rfl))
          try simp only [Act.put, List.setIfInBounds_toArray, List.set_cons_zero, List.set_cons_succ]
          refine wpAnyH_ready (rs := [3]) (by kernel_rfl) (by simp) ?_
          refine AllReadyH.cons (by simp only [List.getElem?_toArray, List.getElem?_cons_succ, List.getElem?_cons_zero]; rfl) (fun K hK => ?_) AllReadyH.nil
          go_simp
          refine (iadd_any _ _ _ _ _ _ 20 20 _ (by exact ⟨l_b, H_b.out, s_b, rfl⟩) (by exact ⟨l_a, H_a.out, s_a, rfl⟩) (by omega) (by omega)).mono ?_
          rintro e w4 ⟨b_p1, A_p1, n_p1, c_p1, rfl, h_p1, hb⟩
          replace HT := Lib.hid (HT.out.below hb)
          replace H_a := Lib.hid (H_a.out.below hb)
          replace H_b := Lib.hid (H_b.out.below hb)
          replace H_c := Lib.hid (H_c.out.below hb)
          replace Z_s := Lib.hid (Z_s.out.below hb)
          replace Z_p := Lib.hid (Z_p.out.below hb)
          replace B_a := Lib.hid (B_a.out.below hb)
          replace B_b := Lib.hid (B_b.out.below hb)
          replace B_c := Lib.hid (B_c.out.below hb)
          replace B_s := Lib.hid (B_s.out.below hb)
          replace B_p := Lib.hid (B_p.out.below hb)
          replace hB := below_next hB hb
          clear hb hHeld
          have Z_p1 := Lib.hid h_p1
          clear h_p1
          go_wp2_with fail
          refine hK.out _ _ (by exact ⟨B_a.out.cell0, B_a.out.cell1, B_b.out.cell0, B_b.out.cell1, B_c.out.cell0, B_c.out.cell1, B_s.out.cell0, B_s.out.cell1, B_p.out.cell0, B_p.out.cell1⟩) (fun hHeld => ?_)
          clear hK K
          try simp only [Act.put, List.setIfInBounds_toArray, List.set_cons_zero, List.set_cons_succ]
          refine wpAnyH_ready (rs := [4]) (by kernel_rfl) (by simp) ?_
          refine AllReadyH.cons (by simp only [List.getElem?_toArray, List.getElem?_cons_succ, List.getElem?_cons_zero]; rfl) (fun K hK => ?_) AllReadyH.nil
          go_simp
          refine (zsame_eq (by exact Z_s.out) (by exact Z_p1.out) (Int.add_comm _ _)).mono ?_
          rintro e w5 ⟨rfl, hb⟩
          replace HT := Lib.hid (HT.out.below hb)
          replace H_a := Lib.hid (H_a.out.below hb)
          replace H_b := Lib.hid (H_b.out.below hb)
          replace H_c := Lib.hid (H_c.out.below hb)
          replace Z_s := Lib.hid (Z_s.out.below hb)
          replace Z_p := Lib.hid (Z_p.out.below hb)
          replace Z_p1 := Lib.hid (Z_p1.out.below hb)
          replace B_a := Lib.hid (B_a.out.below hb)
          replace B_b := Lib.hid (B_b.out.below hb)
          replace B_c := Lib.hid (B_c.out.below hb)
          replace B_s := Lib.hid (B_s.out.below hb)
          replace B_p := Lib.hid (B_p.out.below hb)
          replace hB := below_next hB hb
          clear hb hHeld
          clear Z_p1
          go_wp2_with fail
          refine hK.out _ _ (by exact ⟨B_a.out.cell0, B_a.out.cell1, B_b.out.cell0, B_b.out.cell1, B_c.out.cell0, B_c.out.cell1, B_s.out.cell0, B_s.out.cell1, B_p.out.cell0, B_p.out.cell1⟩) (fun hHeld => ?_)
          clear hK K
          try simp only [Act.put, List.setIfInBounds_toArray, List.set_cons_zero, List.set_cons_succ]
          refine wpAnyH_take2 5 (v := ?_) (fun _ _ _ _ _ h => h) (by simp only [List.getElem?_toArray, List.getElem?_cons_succ, List.getElem?_cons_zero]; rfl) (by kernel_rfl) (by kernel_rfl) (by kernel_rfl) (by rfl) ?_ hHeld ?_
          rotate_left
          · (intro w hSw; (try dsimp only at hSw); go_simp; (try with_reducible rfl))
          try simp only [Act.put, List.setIfInBounds_toArray, List.set_cons_zero, List.set_cons_succ]
          refine wpAnyH_take2 6 (v := ?_) (fun _ _ _ _ _ h => h) (by simp only [List.getElem?_toArray, List.getElem?_cons_succ, List.getElem?_cons_zero]; rfl) (by kernel_rfl) (by kernel_rfl) (by kernel_rfl) (by rfl) ?_ hHeld ?_
          rotate_left
          · (intro w hSw; (try dsimp only at hSw); go_simp; (try with_reducible rfl))
          try simp only [Act.put, List.setIfInBounds_toArray, List.set_cons_zero, List.set_cons_succ]
          refine wpAnyH_take2 7 (v := ?_) (fun _ _ _ _ _ h => h) (by simp only [List.getElem?_toArray, List.getElem?_cons_succ, List.getElem?_cons_zero]; rfl) (by kernel_rfl) (by kernel_rfl) (by kernel_rfl) (by rfl) ?_ hHeld ?_
          rotate_left
          · (intro w hSw; (try dsimp only at hSw); go_simp; (try with_reducible rfl))
          try simp only [Act.put, List.setIfInBounds_toArray, List.set_cons_zero, List.set_cons_succ]
          refine wpAnyH_take2 8 (v := ?_) (fun _ _ _ _ _ h => h) (by simp only [List.getElem?_toArray, List.getElem?_cons_succ, List.getElem?_cons_zero]; rfl) (by kernel_rfl) (by kernel_rfl) (by kernel_rfl) (by rfl) ?_ hHeld ?_
          rotate_left
          · (intro w hSw; (try dsimp only at hSw); go_simp; (try with_reducible rfl))
          try simp only [Act.put, List.setIfInBounds_toArray, List.set_cons_zero, List.set_cons_succ]
          refine wpAnyH_take2 9 (v := ?_) (fun _ _ _ _ _ h => h) (by simp only [List.getElem?_toArray, List.getElem?_cons_succ, List.getElem?_cons_zero]; rfl) (by kernel_rfl) (by kernel_rfl) (by kernel_rfl) (by rfl) ?_ hHeld ?_
          rotate_left
          · (intro w hSw; (try dsimp only at hSw); go_simp; (try with_reducible rfl))
          try simp only [Act.put, List.setIfInBounds_toArray, List.set_cons_zero, List.set_cons_succ]
          refine wpAnyH_ready (rs := [10]) (by kernel_rfl) (by simp) ?_
          refine AllReadyH.cons (by simp only [List.getElem?_toArray, List.getElem?_cons_succ, List.getElem?_cons_zero]; rfl) (fun K hK => ?_) AllReadyH.nil
          go_simp
          refine (imul_any _ _ _ _ _ _ 20 20 _ (by exact ⟨l_b, H_b.out, s_b, rfl⟩) (by exact ⟨l_a, H_a.out, s_a, rfl⟩) (by omega) (by omega)).mono ?_
          rintro e w6 ⟨b_p2, A_p2, n_p2, c_p2, rfl, h_p2, hb⟩
          replace HT := Lib.hid (HT.out.below hb)
          replace H_a := Lib.hid (H_a.out.below hb)
          replace H_b := Lib.hid (H_b.out.below hb)
          replace H_c := Lib.hid (H_c.out.below hb)
          replace Z_s := Lib.hid (Z_s.out.below hb)
          replace Z_p := Lib.hid (Z_p.out.below hb)
          replace B_a := Lib.hid (B_a.out.below hb)
          replace B_b := Lib.hid (B_b.out.below hb)
          replace B_c := Lib.hid (B_c.out.below hb)
          replace B_s := Lib.hid (B_s.out.below hb)
          replace B_p := Lib.hid (B_p.out.below hb)
          replace hB := below_next hB hb
          clear hb hHeld
          have Z_p2 := Lib.hid h_p2
          clear h_p2
          go_wp2_with fail
          refine hK.out _ _ (by exact ⟨B_a.out.cell0, B_a.out.cell1, B_b.out.cell0, B_b.out.cell1, B_c.out.cell0, B_c.out.cell1, B_s.out.cell0, B_s.out.cell1, B_p.out.cell0, B_p.out.cell1⟩) (fun hHeld => ?_)
          clear hK K
          try simp only [Act.put, List.setIfInBounds_toArray, List.set_cons_zero, List.set_cons_succ]
          refine wpAnyH_ready (rs := [11]) (by kernel_rfl) (by simp) ?_
          refine AllReadyH.cons (by simp only [List.getElem?_toArray, List.getElem?_cons_succ, List.getElem?_cons_zero]; rfl) (fun K hK => ?_) AllReadyH.nil
          go_simp
          refine (zsame_eq (by exact Z_p.out) (by exact Z_p2.out) (Int.mul_comm _ _)).mono ?_
          rintro e w7 ⟨rfl, hb⟩
          replace HT := Lib.hid (HT.out.below hb)
          replace H_a := Lib.hid (H_a.out.below hb)
          replace H_b := Lib.hid (H_b.out.below hb)
          replace H_c := Lib.hid (H_c.out.below hb)
          replace Z_s := Lib.hid (Z_s.out.below hb)
          replace Z_p := Lib.hid (Z_p.out.below hb)
          replace Z_p2 := Lib.hid (Z_p2.out.below hb)
          replace B_a := Lib.hid (B_a.out.below hb)
          replace B_b := Lib.hid (B_b.out.below hb)
          replace B_c := Lib.hid (B_c.out.below hb)
          replace B_s := Lib.hid (B_s.out.below hb)
          replace B_p := Lib.hid (B_p.out.below hb)
          replace hB := below_next hB hb
          clear hb hHeld
          clear Z_p2
          go_wp2_with fail
          refine hK.out _ _ (by exact ⟨B_a.out.cell0, B_a.out.cell1, B_b.out.cell0, B_b.out.cell1, B_c.out.cell0, B_c.out.cell1, B_s.out.cell0, B_s.out.cell1, B_p.out.cell0, B_p.out.cell1⟩) (fun hHeld => ?_)
          clear hK K
          try simp only [Act.put, List.setIfInBounds_toArray, List.set_cons_zero, List.set_cons_succ]
          refine wpAnyH_take2 12 (v := ?_) (fun _ _ _ _ _ h => h) (by simp only [List.getElem?_toArray, List.getElem?_cons_succ, List.getElem?_cons_zero]; rfl) (by kernel_rfl) (by kernel_rfl) (by kernel_rfl) (by rfl) ?_ hHeld ?_
          rotate_left
          · (intro w hSw; (try dsimp only at hSw); go_simp; (try with_reducible rfl))
          try simp only [Act.put, List.setIfInBounds_toArray, List.set_cons_zero, List.set_cons_succ]
          refine wpAnyH_take2 13 (v := ?_) (fun _ _ _ _ _ h => h) (by simp only [List.getElem?_toArray, List.getElem?_cons_succ, List.getElem?_cons_zero]; rfl) (by kernel_rfl) (by kernel_rfl) (by kernel_rfl) (by rfl) ?_ hHeld ?_
          rotate_left
          · (intro w hSw; (try dsimp only at hSw); go_simp; (try with_reducible rfl))
          try simp only [Act.put, List.setIfInBounds_toArray, List.set_cons_zero, List.set_cons_succ]
          refine wpAnyH_take2 14 (v := ?_) (fun _ _ _ _ _ h => h) (by simp only [List.getElem?_toArray, List.getElem?_cons_succ, List.getElem?_cons_zero]; rfl) (by kernel_rfl) (by kernel_rfl) (by kernel_rfl) (by rfl) ?_ hHeld ?_
          rotate_left
          · (intro w hSw; (try dsimp only at hSw); go_simp; (try with_reducible rfl))
          try simp only [Act.put, List.setIfInBounds_toArray, List.set_cons_zero, List.set_cons_succ]
          refine wpAnyH_take2 15 (v := ?_) (fun _ _ _ _ _ h => h) (by simp only [List.getElem?_toArray, List.getElem?_cons_succ, List.getElem?_cons_zero]; rfl) (by kernel_rfl) (by kernel_rfl) (by kernel_rfl) (by rfl) ?_ hHeld ?_
          rotate_left
          · (intro w hSw; (try dsimp only at hSw); go_simp; (try with_reducible rfl))
          try simp only [Act.put, List.setIfInBounds_toArray, List.set_cons_zero, List.set_cons_succ]
          refine wpAnyH_take2 16 (v := ?_) (fun _ _ _ _ _ h => h) (by simp only [List.getElem?_toArray, List.getElem?_cons_succ, List.getElem?_cons_zero]; rfl) (by kernel_rfl) (by kernel_rfl) (by kernel_rfl) (by rfl) ?_ hHeld ?_
          rotate_left
          · (intro w hSw; (try dsimp only at hSw); go_simp; (try with_reducible rfl))
          try simp only [Act.put, List.setIfInBounds_toArray, List.set_cons_zero, List.set_cons_succ]
          refine wpAnyH_take2 18 (v := ?_) (fun _ _ _ _ _ h => h) (by simp only [List.getElem?_toArray, List.getElem?_cons_succ, List.getElem?_cons_zero]; rfl) (by kernel_rfl) (by kernel_rfl) (by kernel_rfl) (by rfl) ?_ hHeld ?_
          rotate_left
          · (intro w hSw; (try dsimp only at hSw); go_simp; (try with_reducible rfl))
          try simp only [Act.put, List.setIfInBounds_toArray, List.set_cons_zero, List.set_cons_succ]
          refine wpAnyH_take2 19 (v := ?_) (fun _ _ _ _ _ h => h) (by simp only [List.getElem?_toArray, List.getElem?_cons_succ, List.getElem?_cons_zero]; rfl) (by kernel_rfl) (by kernel_rfl) (by kernel_rfl) (by rfl) ?_ hHeld ?_
          rotate_left
          · (intro w hSw; (try dsimp only at hSw); go_simp; (try with_reducible rfl))
          try simp only [Act.put, List.setIfInBounds_toArray, List.set_cons_zero, List.set_cons_succ]
          refine wpAnyH_take2 20 (v := ?_) (fun _ _ _ _ _ h => h) (by simp only [List.getElem?_toArray, List.getElem?_cons_succ, List.getElem?_cons_zero]; rfl) (by kernel_rfl) (by kernel_rfl) (by kernel_rfl) (by rfl) ?_ hHeld ?_
          rotate_left
          · (intro w hSw; (try dsimp only at hSw); go_simp; (try with_reducible rfl))
          try simp only [Act.put, List.setIfInBounds_toArray, List.set_cons_zero, List.set_cons_succ]
          refine wpAnyH_ready (rs := [17]) (by kernel_rfl) (by simp) ?_
          refine AllReadyH.cons (by simp only [List.getElem?_toArray, List.getElem?_cons_succ, List.getElem?_cons_zero]; rfl) (fun K hK => ?_) AllReadyH.nil
          go_simp
          refine (iadd_any _ _ _ _ _ _ 21 20 _ (by exact Z_s.out.of (S_a.out.zadd S_b.out)) (by exact ⟨l_c, H_c.out, s_c, rfl⟩) (by omega) (by omega)).mono ?_
          rintro e w8 ⟨b_p3, A_p3, n_p3, c_p3, rfl, h_p3, hb⟩
          replace HT := Lib.hid (HT.out.below hb)
          replace H_a := Lib.hid (H_a.out.below hb)
          replace H_b := Lib.hid (H_b.out.below hb)
          replace H_c := Lib.hid (H_c.out.below hb)
          replace Z_s := Lib.hid (Z_s.out.below hb)
          replace Z_p := Lib.hid (Z_p.out.below hb)
          replace B_a := Lib.hid (B_a.out.below hb)
          replace B_b := Lib.hid (B_b.out.below hb)
          replace B_c := Lib.hid (B_c.out.below hb)
          replace B_s := Lib.hid (B_s.out.below hb)
          replace B_p := Lib.hid (B_p.out.below hb)
          replace hB := below_next hB hb
          clear hb hHeld
          have Z_p3 := Lib.hid h_p3
          clear h_p3
          go_wp2_with fail
          refine hK.out _ _ (by exact ⟨B_a.out.cell0, B_a.out.cell1, B_b.out.cell0, B_b.out.cell1, B_c.out.cell0, B_c.out.cell1, B_s.out.cell0, B_s.out.cell1, B_p.out.cell0, B_p.out.cell1⟩) (fun hHeld => ?_)
          clear hK K
          try simp only [Act.put, List.setIfInBounds_toArray, List.set_cons_zero, List.set_cons_succ]
          refine wpAnyH_ready (rs := [21]) (by kernel_rfl) (by simp) ?_
          refine AllReadyH.cons (by simp only [List.getElem?_toArray, List.getElem?_cons_succ, List.getElem?_cons_zero]; rfl) (fun K hK => ?_) AllReadyH.nil
          go_simp
          refine (iadd_any _ _ _ _ _ _ 20 20 _ (by exact ⟨l_b, H_b.out, s_b, rfl⟩) (by exact ⟨l_c, H_c.out, s_c, rfl⟩) (by omega) (by omega)).mono ?_
          rintro e w9 ⟨b_p4, A_p4, n_p4, c_p4, rfl, h_p4, hb⟩
          replace HT := Lib.hid (HT.out.below hb)
          replace H_a := Lib.hid (H_a.out.below hb)
          replace H_b := Lib.hid (H_b.out.below hb)
          replace H_c := Lib.hid (H_c.out.below hb)
          replace Z_s := Lib.hid (Z_s.out.below hb)
          replace Z_p := Lib.hid (Z_p.out.below hb)
          replace Z_p3 := Lib.hid (Z_p3.out.below hb)
          replace B_a := Lib.hid (B_a.out.below hb)
          replace B_b := Lib.hid (B_b.out.below hb)
          replace B_c := Lib.hid (B_c.out.below hb)
          replace B_s := Lib.hid (B_s.out.below hb)
          replace B_p := Lib.hid (B_p.out.below hb)
          replace hB := below_next hB hb
          clear hb hHeld
          have Z_p4 := Lib.hid h_p4
          clear h_p4
          go_wp2_with fail
          refine hK.out _ _ (by exact ⟨B_a.out.cell0, B_a.out.cell1, B_b.out.cell0, B_b.out.cell1, B_c.out.cell0, B_c.out.cell1, B_s.out.cell0, B_s.out.cell1, B_p.out.cell0, B_p.out.cell1⟩) (fun hHeld => ?_)
          clear hK K
          try simp only [Act.put, List.setIfInBounds_toArray, List.set_cons_zero, List.set_cons_succ]
          refine wpAnyH_ready (rs := [22]) (by kernel_rfl) (by simp) ?_
          refine AllReadyH.cons (by simp only [List.getElem?_toArray, List.getElem?_cons_succ, List.getElem?_cons_zero]; rfl) (fun K hK => ?_) AllReadyH.nil
          go_simp
          refine (iadd_any _ _ _ _ _ _ 20 21 _ (by exact ⟨l_a, H_a.out, s_a, rfl⟩) (by exact Z_p4.out.of (S_b.out.zadd S_c.out)) (by omega) (by omega)).mono ?_
          rintro e w10 ⟨b_p5, A_p5, n_p5, c_p5, rfl, h_p5, hb⟩
          replace HT := Lib.hid (HT.out.below hb)
          replace H_a := Lib.hid (H_a.out.below hb)
          replace H_b := Lib.hid (H_b.out.below hb)
          replace H_c := Lib.hid (H_c.out.below hb)
          replace Z_s := Lib.hid (Z_s.out.below hb)
          replace Z_p := Lib.hid (Z_p.out.below hb)
          replace Z_p3 := Lib.hid (Z_p3.out.below hb)
          replace Z_p4 := Lib.hid (Z_p4.out.below hb)
          replace B_a := Lib.hid (B_a.out.below hb)
          replace B_b := Lib.hid (B_b.out.below hb)
          replace B_c := Lib.hid (B_c.out.below hb)
          replace B_s := Lib.hid (B_s.out.below hb)
          replace B_p := Lib.hid (B_p.out.below hb)
          replace hB := below_next hB hb
          clear hb hHeld
          have Z_p5 := Lib.hid h_p5
          clear h_p5
          go_wp2_with fail
          refine hK.out _ _ (by exact ⟨B_a.out.cell0, B_a.out.cell1, B_b.out.cell0, B_b.out.cell1, B_c.out.cell0, B_c.out.cell1, B_s.out.cell0, B_s.out.cell1, B_p.out.cell0, B_p.out.cell1⟩) (fun hHeld => ?_)
          clear hK K
          try simp only [Act.put, List.setIfInBounds_toArray, List.set_cons_zero, List.set_cons_succ]
          refine wpAnyH_ready (rs := [23]) (by kernel_rfl) (by simp) ?_
          refine AllReadyH.cons (by simp only [List.getElem?_toArray, List.getElem?_cons_succ, List.getElem?_cons_zero]; rfl) (fun K hK => ?_) AllReadyH.nil
          go_simp
          refine (zsame_eq (by exact Z_p3.out) (by exact Z_p5.out) (Int.add_assoc _ _ _)).mono ?_
          rintro e w11 ⟨rfl, hb⟩
          replace HT := Lib.hid (HT.out.below hb)
          replace H_a := Lib.hid (H_a.out.below hb)
          replace H_b := Lib.hid (H_b.out.below hb)
          replace H_c := Lib.hid (H_c.out.below hb)
          replace Z_s := Lib.hid (Z_s.out.below hb)
          replace Z_p := Lib.hid (Z_p.out.below hb)
          replace Z_p3 := Lib.hid (Z_p3.out.below hb)
          replace Z_p4 := Lib.hid (Z_p4.out.below hb)
          replace Z_p5 := Lib.hid (Z_p5.out.below hb)
          replace B_a := Lib.hid (B_a.out.below hb)
          replace B_b := Lib.hid (B_b.out.below hb)
          replace B_c := Lib.hid (B_c.out.below hb)
          replace B_s := Lib.hid (B_s.out.below hb)
          replace B_p := Lib.hid (B_p.out.below hb)
          replace hB := below_next hB hb
          clear hb hHeld
          clear Z_p3
          clear Z_p4
          clear Z_p5
          go_wp2_with fail
          refine hK.out _ _ (by exact ⟨B_a.out.cell0, B_a.out.cell1, B_b.out.cell0, B_b.out.cell1, B_c.out.cell0, B_c.out.cell1, B_s.out.cell0, B_s.out.cell1, B_p.out.cell0, B_p.out.cell1⟩) (fun hHeld => ?_)
          clear hK K
          try simp only [Act.put, List.setIfInBounds_toArray, List.set_cons_zero, List.set_cons_succ]
          refine wpAnyH_take2 24 (v := ?_) (fun _ _ _ _ _ h => h) (by simp only [List.getElem?_toArray, List.getElem?_cons_succ, List.getElem?_cons_zero]; rfl) (by kernel_rfl) (by kernel_rfl) (by kernel_rfl) (by rfl) ?_ hHeld ?_
          rotate_left
          · (intro w hSw; (try dsimp only at hSw); go_simp; (try with_reducible rfl))
          try simp only [Act.put, List.setIfInBounds_toArray, List.set_cons_zero, List.set_cons_succ]
          refine wpAnyH_take2 25 (v := ?_) (fun _ _ _ _ _ h => h) (by simp only [List.getElem?_toArray, List.getElem?_cons_succ, List.getElem?_cons_zero]; rfl) (by kernel_rfl) (by kernel_rfl) (by kernel_rfl) (by rfl) ?_ hHeld ?_
          rotate_left
          · (intro w hSw; (try dsimp only at hSw); go_simp; (try with_reducible rfl))
          try simp only [Act.put, List.setIfInBounds_toArray, List.set_cons_zero, List.set_cons_succ]
          refine wpAnyH_take2 26 (v := ?_) (fun _ _ _ _ _ h => h) (by simp only [List.getElem?_toArray, List.getElem?_cons_succ, List.getElem?_cons_zero]; rfl) (by kernel_rfl) (by kernel_rfl) (by kernel_rfl) (by rfl) ?_ hHeld ?_
          rotate_left
          · (intro w hSw; (try dsimp only at hSw); go_simp; (try with_reducible rfl))
          try simp only [Act.put, List.setIfInBounds_toArray, List.set_cons_zero, List.set_cons_succ]
          refine wpAnyH_take2 27 (v := ?_) (fun _ _ _ _ _ h => h) (by simp only [List.getElem?_toArray, List.getElem?_cons_succ, List.getElem?_cons_zero]; rfl) (by kernel_rfl) (by kernel_rfl) (by kernel_rfl) (by rfl) ?_ hHeld ?_
          rotate_left
          · (intro w hSw; (try dsimp only at hSw); go_simp; (try with_reducible rfl))
          try simp only [Act.put, List.setIfInBounds_toArray, List.set_cons_zero, List.set_cons_succ]
          refine wpAnyH_take2 28 (v := ?_) (fun _ _ _ _ _ h => h) (by simp only [List.getElem?_toArray, List.getElem?_cons_succ, List.getElem?_cons_zero]; rfl) (by kernel_rfl) (by kernel_rfl) (by kernel_rfl) (by rfl) ?_ hHeld ?_
          rotate_left
          · (intro w hSw; (try dsimp only at hSw); go_simp; (try with_reducible rfl))
          try simp only [Act.put, List.setIfInBounds_toArray, List.set_cons_zero, List.set_cons_succ]
          refine wpAnyH_take2 30 (v := ?_) (fun _ _ _ _ _ h => h) (by simp only [List.getElem?_toArray, List.getElem?_cons_succ, List.getElem?_cons_zero]; rfl) (by kernel_rfl) (by kernel_rfl) (by kernel_rfl) (by rfl) ?_ hHeld ?_
          rotate_left
          · (intro w hSw; (try dsimp only at hSw); go_simp; (try with_reducible rfl))
          try simp only [Act.put, List.setIfInBounds_toArray, List.set_cons_zero, List.set_cons_succ]
          refine wpAnyH_take2 31 (v := ?_) (fun _ _ _ _ _ h => h) (by simp only [List.getElem?_toArray, List.getElem?_cons_succ, List.getElem?_cons_zero]; rfl) (by kernel_rfl) (by kernel_rfl) (by kernel_rfl) (by rfl) ?_ hHeld ?_
          rotate_left
          · (intro w hSw; (try dsimp only at hSw); go_simp; (try with_reducible rfl))
          try simp only [Act.put, List.setIfInBounds_toArray, List.set_cons_zero, List.set_cons_succ]
          refine wpAnyH_take2 32 (v := ?_) (fun _ _ _ _ _ h => h) (by simp only [List.getElem?_toArray, List.getElem?_cons_succ, List.getElem?_cons_zero]; rfl) (by kernel_rfl) (by kernel_rfl) (by kernel_rfl) (by rfl) ?_ hHeld ?_
          rotate_left
          · (intro w hSw; (try dsimp only at hSw); go_simp; (try with_reducible rfl))
          try simp only [Act.put, List.setIfInBounds_toArray, List.set_cons_zero, List.set_cons_succ]
          refine wpAnyH_ready (rs := [29]) (by kernel_rfl) (by simp) ?_
          refine AllReadyH.cons (by simp only [List.getElem?_toArray, List.getElem?_cons_succ, List.getElem?_cons_zero]; rfl) (fun K hK => ?_) AllReadyH.nil
          go_simp
          refine (imul_any _ _ _ _ _ _ 40 20 _ (by exact Z_p.out.of (S_a.out.zmul S_b.out)) (by exact ⟨l_c, H_c.out, s_c, rfl⟩) (by omega) (by omega)).mono ?_
          rintro e w12 ⟨b_p6, A_p6, n_p6, c_p6, rfl, h_p6, hb⟩
          replace HT := Lib.hid (HT.out.below hb)
          replace H_a := Lib.hid (H_a.out.below hb)
          replace H_b := Lib.hid (H_b.out.below hb)
          replace H_c := Lib.hid (H_c.out.below hb)
          replace Z_s := Lib.hid (Z_s.out.below hb)
          replace Z_p := Lib.hid (Z_p.out.below hb)
          replace B_a := Lib.hid (B_a.out.below hb)
          replace B_b := Lib.hid (B_b.out.below hb)
          replace B_c := Lib.hid (B_c.out.below hb)
          replace B_s := Lib.hid (B_s.out.below hb)
          replace B_p := Lib.hid (B_p.out.below hb)
          replace hB := below_next hB hb
          clear hb hHeld
          have Z_p6 := Lib.hid h_p6
          clear h_p6
          go_wp2_with fail
          refine hK.out _ _ (by exact ⟨B_a.out.cell0, B_a.out.cell1, B_b.out.cell0, B_b.out.cell1, B_c.out.cell0, B_c.out.cell1, B_s.out.cell0, B_s.out.cell1, B_p.out.cell0, B_p.out.cell1⟩) (fun hHeld => ?_)
          clear hK K
          try simp only [Act.put, List.setIfInBounds_toArray, List.set_cons_zero, List.set_cons_succ]
          refine wpAnyH_ready (rs := [33]) (by kernel_rfl) (by simp) ?_
          refine AllReadyH.cons (by simp only [List.getElem?_toArray, List.getElem?_cons_succ, List.getElem?_cons_zero]; rfl) (fun K hK => ?_) AllReadyH.nil
          go_simp
          refine (imul_any _ _ _ _ _ _ 20 20 _ (by exact ⟨l_b, H_b.out, s_b, rfl⟩) (by exact ⟨l_c, H_c.out, s_c, rfl⟩) (by omega) (by omega)).mono ?_
          rintro e w13 ⟨b_p7, A_p7, n_p7, c_p7, rfl, h_p7, hb⟩
          replace HT := Lib.hid (HT.out.below hb)
          replace H_a := Lib.hid (H_a.out.below hb)
          replace H_b := Lib.hid (H_b.out.below hb)
          replace H_c := Lib.hid (H_c.out.below hb)
          replace Z_s := Lib.hid (Z_s.out.below hb)
          replace Z_p := Lib.hid (Z_p.out.below hb)
          replace Z_p6 := Lib.hid (Z_p6.out.below hb)
          replace B_a := Lib.hid (B_a.out.below hb)
          replace B_b := Lib.hid (B_b.out.below hb)
          replace B_c := Lib.hid (B_c.out.below hb)
          replace B_s := Lib.hid (B_s.out.below hb)
          replace B_p := Lib.hid (B_p.out.below hb)
          replace hB := below_next hB hb
          clear hb hHeld
          have Z_p7 := Lib.hid h_p7
          clear h_p7
          go_wp2_with fail
          refine hK.out _ _ (by exact ⟨B_a.out.cell0, B_a.out.cell1, B_b.out.cell0, B_b.out.cell1, B_c.out.cell0, B_c.out.cell1, B_s.out.cell0, B_s.out.cell1, B_p.out.cell0, B_p.out.cell1⟩) (fun hHeld => ?_)
          clear hK K
          try simp only [Act.put, List.setIfInBounds_toArray, List.set_cons_zero, List.set_cons_succ]
          refine wpAnyH_ready (rs := [34]) (by kernel_rfl) (by simp) ?_
          refine AllReadyH.cons (by simp only [List.getElem?_toArray, List.getElem?_cons_succ, List.getElem?_cons_zero]; rfl) (fun K hK => ?_) AllReadyH.nil
          go_simp
          refine (imul_any _ _ _ _ _ _ 20 40 _ (by exact ⟨l_a, H_a.out, s_a, rfl⟩) (by exact Z_p7.out.of (S_b.out.zmul S_c.out)) (by omega) (by omega)).mono ?_
          rintro e w14 ⟨b_p8, A_p8, n_p8, c_p8, rfl, h_p8, hb⟩
          replace HT := Lib.hid (HT.out.below hb)
          replace H_a := Lib.hid (H_a.out.below hb)
          replace H_b := Lib.hid (H_b.out.below hb)
          replace H_c := Lib.hid (H_c.out.below hb)
          replace Z_s := Lib.hid (Z_s.out.below hb)
          replace Z_p := Lib.hid (Z_p.out.below hb)
          replace Z_p6 := Lib.hid (Z_p6.out.below hb)
          replace Z_p7 := Lib.hid (Z_p7.out.below hb)
          replace B_a := Lib.hid (B_a.out.below hb)
          replace B_b := Lib.hid (B_b.out.below hb)
          replace B_c := Lib.hid (B_c.out.below hb)
          replace B_s := Lib.hid (B_s.out.below hb)
          replace B_p := Lib.hid (B_p.out.below hb)
          replace hB := below_next hB hb
          clear hb hHeld
          have Z_p8 := Lib.hid h_p8
          clear h_p8
          go_wp2_with fail
          refine hK.out _ _ (by exact ⟨B_a.out.cell0, B_a.out.cell1, B_b.out.cell0, B_b.out.cell1, B_c.out.cell0, B_c.out.cell1, B_s.out.cell0, B_s.out.cell1, B_p.out.cell0, B_p.out.cell1⟩) (fun hHeld => ?_)
          clear hK K
          try simp only [Act.put, List.setIfInBounds_toArray, List.set_cons_zero, List.set_cons_succ]
          refine wpAnyH_ready (rs := [35]) (by kernel_rfl) (by simp) ?_
          refine AllReadyH.cons (by simp only [List.getElem?_toArray, List.getElem?_cons_succ, List.getElem?_cons_zero]; rfl) (fun K hK => ?_) AllReadyH.nil
          go_simp
          refine (zsame_eq (by exact Z_p6.out) (by exact Z_p8.out) (Int.mul_assoc _ _ _)).mono ?_
          rintro e w15 ⟨rfl, hb⟩
          replace HT := Lib.hid (HT.out.below hb)
          replace H_a := Lib.hid (H_a.out.below hb)
          replace H_b := Lib.hid (H_b.out.below hb)
          replace H_c := Lib.hid (H_c.out.below hb)
          replace Z_s := Lib.hid (Z_s.out.below hb)
          replace Z_p := Lib.hid (Z_p.out.below hb)
          replace Z_p6 := Lib.hid (Z_p6.out.below hb)
          replace Z_p7 := Lib.hid (Z_p7.out.below hb)
          replace Z_p8 := Lib.hid (Z_p8.out.below hb)
          replace B_a := Lib.hid (B_a.out.below hb)
          replace B_b := Lib.hid (B_b.out.below hb)
          replace B_c := Lib.hid (B_c.out.below hb)
          replace B_s := Lib.hid (B_s.out.below hb)
          replace B_p := Lib.hid (B_p.out.below hb)
          replace hB := below_next hB hb
          clear hb hHeld
          clear Z_p6
          clear Z_p7
          clear Z_p8
          go_wp2_with fail
          refine hK.out _ _ (by exact ⟨B_a.out.cell0, B_a.out.cell1, B_b.out.cell0, B_b.out.cell1, B_c.out.cell0, B_c.out.cell1, B_s.out.cell0, B_s.out.cell1, B_p.out.cell0, B_p.out.cell1⟩) (fun hHeld => ?_)
          clear hK K
          try simp only [Act.put, List.setIfInBounds_toArray, List.set_cons_zero, List.set_cons_succ]
          refine wpAnyH_take2 36 (v := ?_) (fun _ _ _ _ _ h => h) (by simp only [List.getElem?_toArray, List.getElem?_cons_succ, List.getElem?_cons_zero]; rfl) (by kernel_rfl) (by kernel_rfl) (by kernel_rfl) (by rfl) ?_ hHeld ?_
          rotate_left
          · (intro w hSw; (try dsimp only at hSw); go_simp; (try with_reducible rfl))
          try simp only [Act.put, List.setIfInBounds_toArray, List.set_cons_zero, List.set_cons_succ]
          refine wpAnyH_take2 37 (v := ?_) (fun _ _ _ _ _ h => h) (by simp only [List.getElem?_toArray, List.getElem?_cons_succ, List.getElem?_cons_zero]; rfl) (by kernel_rfl) (by kernel_rfl) (by kernel_rfl) (by rfl) ?_ hHeld ?_
          rotate_left
          · (intro w hSw; (try dsimp only at hSw); go_simp; (try with_reducible rfl))
          try simp only [Act.put, List.setIfInBounds_toArray, List.set_cons_zero, List.set_cons_succ]
          refine wpAnyH_done (by kernel_rfl) (NoPanic.normal ?_) _
          clear hHeld
          have c_a0 := B_a.out.cell0
          have c_a1 := B_a.out.cell1
          have c_b0 := B_b.out.cell0
          have c_b1 := B_b.out.cell1
          have c_c0 := B_c.out.cell0
          have c_c1 := B_c.out.cell1
          have c_s0 := B_s.out.cell0
          have c_s1 := B_s.out.cell1
          have c_p0 := B_p.out.cell0
          have c_p1 := B_p.out.cell1
          go_wp2
          clear c_a0 c_a1 c_b0 c_b1 c_c0 c_c1 c_s0 c_s1 c_p0 c_p1
          refine wp_region_noPanic ?_
          refine wp_region_held_drew (S := (fun w' => w'.cell? ⟨w.heap.size, 0, none⟩ = some (.bool b_a) ∧ w'.cell? ⟨w.heap.size, 1, none⟩ = some m_a ∧ w'.cell? ⟨w.heap.size + 1, 0, none⟩ = some (.bool b_b) ∧ w'.cell? ⟨w.heap.size + 1, 1, none⟩ = some m_b ∧ w'.cell? ⟨w.heap.size + 1 + 1, 0, none⟩ = some (.bool b_c) ∧ w'.cell? ⟨w.heap.size + 1 + 1, 1, none⟩ = some m_c ∧ w'.cell? ⟨gq0, 0, none⟩ = some (.bool bq0) ∧ w'.cell? ⟨gq0, 1, none⟩ = some (.slice Aq0 nq0 kq0) ∧ w'.cell? ⟨gq1, 0, none⟩ = some (.bool bq1) ∧ w'.cell? ⟨gq1, 1, none⟩ = some (.slice Aq1 nq1 kq1))) (by kernel_rfl) (by exact ⟨B_a.out.cell0, B_a.out.cell1, B_b.out.cell0, B_b.out.cell1, B_c.out.cell0, B_c.out.cell1, B_s.out.cell0, B_s.out.cell1, B_p.out.cell0, B_p.out.cell1⟩) (fun hHeld => ?_)
          have hb := belowDrew w15
          generalize w15.drew = V_3 at hb hHeld ⊢
          replace HT := Lib.hid (HT.out.below hb)
          replace H_a := Lib.hid (H_a.out.below hb)
          replace H_b := Lib.hid (H_b.out.below hb)
          replace H_c := Lib.hid (H_c.out.below hb)
          replace Z_s := Lib.hid (Z_s.out.below hb)
          replace Z_p := Lib.hid (Z_p.out.below hb)
          replace B_a := Lib.hid (B_a.out.below hb)
          replace B_b := Lib.hid (B_b.out.below hb)
          replace B_c := Lib.hid (B_c.out.below hb)
          replace B_s := Lib.hid (B_s.out.below hb)
          replace B_p := Lib.hid (B_p.out.below hb)
          replace hB := below_next hB hb
          clear hb
          refine wpAnyH_take2 0 (v := ?_) (fun _ _ _ _ _ h => h) (by simp only [List.getElem?_toArray, List.getElem?_cons_zero]; rfl) (by kernel_rfl) (by kernel_rfl) (by kernel_rfl) (by rfl) ?_ hHeld ?_
          rotate_left
          · (intro w hSw; (try dsimp only at hSw); go_simp; (try with_reducible rfl))
          try simp only [Act.put, List.setIfInBounds_toArray, List.set_cons_zero, List.set_cons_succ]
          refine wpAnyH_take2 1 (v := ?_) (fun _ _ _ _ _ h => h) (by simp only [List.getElem?_toArray, List.getElem?_cons_succ, List.getElem?_cons_zero]; rfl) (by kernel_rfl) (by kernel_rfl) (by kernel_rfl) (by rfl) ?_ hHeld ?_
          rotate_left
          · (intro w hSw; (try dsimp only at hSw); go_simp; (try with_reducible rfl))
          try simp only [Act.put, List.setIfInBounds_toArray, List.set_cons_zero, List.set_cons_succ]
          refine wpAnyH_take2 3 (v := ?_) (fun _ _ _ _ _ h => h) (by simp only [List.getElem?_toArray, List.getElem?_cons_succ, List.getElem?_cons_zero]; rfl) (by kernel_rfl) (by kernel_rfl) (by kernel_rfl) (by rfl) ?_ hHeld ?_
          rotate_left
          · (intro w hSw; (try dsimp only at hSw); go_simp; (try with_reducible rfl))
          try simp only [Act.put, List.setIfInBounds_toArray, List.set_cons_zero, List.set_cons_succ]
          refine wpAnyH_take2 4 (v := ?_) (fun _ _ _ _ _ h => h) (by simp only [List.getElem?_toArray, List.getElem?_cons_succ, List.getElem?_cons_zero]; rfl) (by kernel_rfl) (by kernel_rfl) (by kernel_rfl) (by rfl) ?_ hHeld ?_
          rotate_left
          · (intro w hSw; (try dsimp only at hSw); go_simp; (try with_reducible rfl))
          try simp only [Act.put, List.setIfInBounds_toArray, List.set_cons_zero, List.set_cons_succ]
          refine wpAnyH_take2 6 (v := ?_) (fun _ _ _ _ _ h => h) (by simp only [List.getElem?_toArray, List.getElem?_cons_succ, List.getElem?_cons_zero]; rfl) (by kernel_rfl) (by kernel_rfl) (by kernel_rfl) (by rfl) ?_ hHeld ?_
          rotate_left
          · (intro w hSw; (try dsimp only at hSw); go_simp; (try with_reducible rfl))
          try simp only [Act.put, List.setIfInBounds_toArray, List.set_cons_zero, List.set_cons_succ]
          refine wpAnyH_take2 7 (v := ?_) (fun _ _ _ _ _ h => h) (by simp only [List.getElem?_toArray, List.getElem?_cons_succ, List.getElem?_cons_zero]; rfl) (by kernel_rfl) (by kernel_rfl) (by kernel_rfl) (by rfl) ?_ hHeld ?_
          rotate_left
          · (intro w hSw; (try dsimp only at hSw); go_simp; (try with_reducible rfl))
          try simp only [Act.put, List.setIfInBounds_toArray, List.set_cons_zero, List.set_cons_succ]
          refine wpAnyH_ready (rs := [2]) (by kernel_rfl) (by simp) ?_
          refine AllReadyH.cons (by simp only [List.getElem?_toArray, List.getElem?_cons_succ, List.getElem?_cons_zero]; rfl) (fun K hK => ?_) AllReadyH.nil
          go_simp
          refine (imul_any _ _ _ _ _ _ 21 20 _ (by exact Z_s.out.of (S_a.out.zadd S_b.out)) (by exact ⟨l_c, H_c.out, s_c, rfl⟩) (by omega) (by omega)).mono ?_
          rintro e w16 ⟨b_q1, A_q1, n_q1, c_q1, rfl, h_q1, hb⟩
          replace HT := Lib.hid (HT.out.below hb)
          replace H_a := Lib.hid (H_a.out.below hb)
          replace H_b := Lib.hid (H_b.out.below hb)
          replace H_c := Lib.hid (H_c.out.below hb)
          replace Z_s := Lib.hid (Z_s.out.below hb)
          replace Z_p := Lib.hid (Z_p.out.below hb)
          replace B_a := Lib.hid (B_a.out.below hb)
          replace B_b := Lib.hid (B_b.out.below hb)
          replace B_c := Lib.hid (B_c.out.below hb)
          replace B_s := Lib.hid (B_s.out.below hb)
          replace B_p := Lib.hid (B_p.out.below hb)
          replace hB := below_next hB hb
          clear hb hHeld
          have Z_q1 := Lib.hid h_q1
          clear h_q1
          go_wp2_with fail
          refine hK.out _ _ (by exact ⟨B_a.out.cell0, B_a.out.cell1, B_b.out.cell0, B_b.out.cell1, B_c.out.cell0, B_c.out.cell1, B_s.out.cell0, B_s.out.cell1, B_p.out.cell0, B_p.out.cell1⟩) (fun hHeld => ?_)
          clear hK K
          try simp only [Act.put, List.setIfInBounds_toArray, List.set_cons_zero, List.set_cons_succ]
          refine wpAnyH_ready (rs := [5]) (by kernel_rfl) (by simp) ?_
          refine AllReadyH.cons (by simp only [List.getElem?_toArray, List.getElem?_cons_succ, List.getElem?_cons_zero]; rfl) (fun K hK => ?_) AllReadyH.nil
          go_simp
          refine (imul_any _ _ _ _ _ _ 20 20 _ (by exact ⟨l_a, H_a.out, s_a, rfl⟩) (by exact ⟨l_c, H_c.out, s_c, rfl⟩) (by omega) (by omega)).mono ?_
          rintro e w17 ⟨b_q2, A_q2, n_q2, c_q2, rfl, h_q2, hb⟩
          replace HT := Lib.hid (HT.out.below hb)
          replace H_a := Lib.hid (H_a.out.below hb)
          replace H_b := Lib.hid (H_b.out.below hb)
          replace H_c := Lib.hid (H_c.out.below hb)
          replace Z_s := Lib.hid (Z_s.out.below hb)
          replace Z_p := Lib.hid (Z_p.out.below hb)
          replace Z_q1 := Lib.hid (Z_q1.out.below hb)
          replace B_a := Lib.hid (B_a.out.below hb)
          replace B_b := Lib.hid (B_b.out.below hb)
          replace B_c := Lib.hid (B_c.out.below hb)
          replace B_s := Lib.hid (B_s.out.below hb)
          replace B_p := Lib.hid (B_p.out.below hb)
          replace hB := below_next hB hb
          clear hb hHeld
          have Z_q2 := Lib.hid h_q2
          clear h_q2
          go_wp2_with fail
          refine hK.out _ _ (by exact ⟨B_a.out.cell0, B_a.out.cell1, B_b.out.cell0, B_b.out.cell1, B_c.out.cell0, B_c.out.cell1, B_s.out.cell0, B_s.out.cell1, B_p.out.cell0, B_p.out.cell1⟩) (fun hHeld => ?_)
          clear hK K
          try simp only [Act.put, List.setIfInBounds_toArray, List.set_cons_zero, List.set_cons_succ]
          refine wpAnyH_ready (rs := [8]) (by kernel_rfl) (by simp) ?_
          refine AllReadyH.cons (by simp only [List.getElem?_toArray, List.getElem?_cons_succ, List.getElem?_cons_zero]; rfl) (fun K hK => ?_) AllReadyH.nil
          go_simp
          refine (imul_any _ _ _ _ _ _ 20 20 _ (by exact ⟨l_b, H_b.out, s_b, rfl⟩) (by exact ⟨l_c, H_c.out, s_c, rfl⟩) (by omega) (by omega)).mono ?_
          rintro e w18 ⟨b_q3, A_q3, n_q3, c_q3, rfl, h_q3, hb⟩
          replace HT := Lib.hid (HT.out.below hb)
          replace H_a := Lib.hid (H_a.out.below hb)
          replace H_b := Lib.hid (H_b.out.below hb)
          replace H_c := Lib.hid (H_c.out.below hb)
          replace Z_s := Lib.hid (Z_s.out.below hb)
          replace Z_p := Lib.hid (Z_p.out.below hb)
          replace Z_q1 := Lib.hid (Z_q1.out.below hb)
          replace Z_q2 := Lib.hid (Z_q2.out.below hb)
          replace B_a := Lib.hid (B_a.out.below hb)
          replace B_b := Lib.hid (B_b.out.below hb)
          replace B_c := Lib.hid (B_c.out.below hb)
          replace B_s := Lib.hid (B_s.out.below hb)
          replace B_p := Lib.hid (B_p.out.below hb)
          replace hB := below_next hB hb
          clear hb hHeld
          have Z_q3 := Lib.hid h_q3
          clear h_q3
          go_wp2_with fail
          refine hK.out _ _ (by exact ⟨B_a.out.cell0, B_a.out.cell1, B_b.out.cell0, B_b.out.cell1, B_c.out.cell0, B_c.out.cell1, B_s.out.cell0, B_s.out.cell1, B_p.out.cell0, B_p.out.cell1⟩) (fun hHeld => ?_)
          clear hK K
          try simp only [Act.put, List.setIfInBounds_toArray, List.set_cons_zero, List.set_cons_succ]
          refine wpAnyH_ready (rs := [9]) (by kernel_rfl) (by simp) ?_
          refine AllReadyH.cons (by simp only [List.getElem?_toArray, List.getElem?_cons_succ, List.getElem?_cons_zero]; rfl) (fun K hK => ?_) AllReadyH.nil
          go_simp
          refine (iadd_any _ _ _ _ _ _ 40 40 _ (by exact Z_q2.out.of (S_a.out.zmul S_c.out)) (by exact Z_q3.out.of (S_b.out.zmul S_c.out)) (by omega) (by omega)).mono ?_
          rintro e w19 ⟨b_q4, A_q4, n_q4, c_q4, rfl, h_q4, hb⟩
          replace HT := Lib.hid (HT.out.below hb)
          replace H_a := Lib.hid (H_a.out.below hb)
          replace H_b := Lib.hid (H_b.out.below hb)
          replace H_c := Lib.hid (H_c.out.below hb)
          replace Z_s := Lib.hid (Z_s.out.below hb)
          replace Z_p := Lib.hid (Z_p.out.below hb)
          replace Z_q1 := Lib.hid (Z_q1.out.below hb)
          replace Z_q2 := Lib.hid (Z_q2.out.below hb)
          replace Z_q3 := Lib.hid (Z_q3.out.below hb)
          replace B_a := Lib.hid (B_a.out.below hb)
          replace B_b := Lib.hid (B_b.out.below hb)
          replace B_c := Lib.hid (B_c.out.below hb)
          replace B_s := Lib.hid (B_s.out.below hb)
          replace B_p := Lib.hid (B_p.out.below hb)
          replace hB := below_next hB hb
          clear hb hHeld
          have Z_q4 := Lib.hid h_q4
          clear h_q4
          go_wp2_with fail
          refine hK.out _ _ (by exact ⟨B_a.out.cell0, B_a.out.cell1, B_b.out.cell0, B_b.out.cell1, B_c.out.cell0, B_c.out.cell1, B_s.out.cell0, B_s.out.cell1, B_p.out.cell0, B_p.out.cell1⟩) (fun hHeld => ?_)
          clear hK K
          try simp only [Act.put, List.setIfInBounds_toArray, List.set_cons_zero, List.set_cons_succ]
          refine wpAnyH_ready (rs := [10]) (by kernel_rfl) (by simp) ?_
          refine AllReadyH.cons (by simp only [List.getElem?_toArray, List.getElem?_cons_succ, List.getElem?_cons_zero]; rfl) (fun K hK => ?_) AllReadyH.nil
          go_simp
          refine (zsame_eq (by exact Z_q1.out) (by exact Z_q4.out) (Int.add_mul _ _ _)).mono ?_
          rintro e w20 ⟨rfl, hb⟩
          replace HT := Lib.hid (HT.out.below hb)
          replace H_a := Lib.hid (H_a.out.below hb)
          replace H_b := Lib.hid (H_b.out.below hb)
          replace H_c := Lib.hid (H_c.out.below hb)
          replace Z_s := Lib.hid (Z_s.out.below hb)
          replace Z_p := Lib.hid (Z_p.out.below hb)
          replace Z_q1 := Lib.hid (Z_q1.out.below hb)
          replace Z_q2 := Lib.hid (Z_q2.out.below hb)
          replace Z_q3 := Lib.hid (Z_q3.out.below hb)
          replace Z_q4 := Lib.hid (Z_q4.out.below hb)
          replace B_a := Lib.hid (B_a.out.below hb)
          replace B_b := Lib.hid (B_b.out.below hb)
          replace B_c := Lib.hid (B_c.out.below hb)
          replace B_s := Lib.hid (B_s.out.below hb)
          replace B_p := Lib.hid (B_p.out.below hb)
          replace hB := below_next hB hb
          clear hb hHeld
          clear Z_q1
          clear Z_q2
          clear Z_q3
          clear Z_q4
          go_wp2_with fail
          refine hK.out _ _ (by exact ⟨B_a.out.cell0, B_a.out.cell1, B_b.out.cell0, B_b.out.cell1, B_c.out.cell0, B_c.out.cell1, B_s.out.cell0, B_s.out.cell1, B_p.out.cell0, B_p.out.cell1⟩) (fun hHeld => ?_)
          clear hK K
          try simp only [Act.put, List.setIfInBounds_toArray, List.set_cons_zero, List.set_cons_succ]
          refine wpAnyH_take2 11 (v := ?_) (fun _ _ _ _ _ h => h) (by simp only [List.getElem?_toArray, List.getElem?_cons_succ, List.getElem?_cons_zero]; rfl) (by kernel_rfl) (by kernel_rfl) (by kernel_rfl) (by rfl) ?_ hHeld ?_
          rotate_left
          · (intro w hSw; (try dsimp only at hSw); go_simp; (try with_reducible rfl))
          try simp only [Act.put, List.setIfInBounds_toArray, List.set_cons_zero, List.set_cons_succ]
          refine wpAnyH_take2 12 (v := ?_) (fun _ _ _ _ _ h => h) (by simp only [List.getElem?_toArray, List.getElem?_cons_succ, List.getElem?_cons_zero]; rfl) (by kernel_rfl) (by kernel_rfl) (by kernel_rfl) (by rfl) ?_ hHeld ?_
          rotate_left
          · (intro w hSw; (try dsimp only at hSw); go_simp; (try with_reducible rfl))
          try simp only [Act.put, List.setIfInBounds_toArray, List.set_cons_zero, List.set_cons_succ]
          refine wpAnyH_take2 13 (v := ?_) (fun _ _ _ _ _ h => h) (by simp only [List.getElem?_toArray, List.getElem?_cons_succ, List.getElem?_cons_zero]; rfl) (by kernel_rfl) (by kernel_rfl) (by kernel_rfl) (by rfl) ?_ hHeld ?_
          rotate_left
          · (intro w hSw; (try dsimp only at hSw); go_simp; (try with_reducible rfl))
          try simp only [Act.put, List.setIfInBounds_toArray, List.set_cons_zero, List.set_cons_succ]
          refine wpAnyH_take2 14 (v := ?_) (fun _ _ _ _ _ h => h) (by simp only [List.getElem?_toArray, List.getElem?_cons_succ, List.getElem?_cons_zero]; rfl) (by kernel_rfl) (by kernel_rfl) (by kernel_rfl) (by rfl) ?_ hHeld ?_
          rotate_left
          · (intro w hSw; (try dsimp only at hSw); go_simp; (try with_reducible rfl))
          try simp only [Act.put, List.setIfInBounds_toArray, List.set_cons_zero, List.set_cons_succ]
          refine wpAnyH_take2 16 (v := ?_) (fun _ _ _ _ _ h => h) (by simp only [List.getElem?_toArray, List.getElem?_cons_succ, List.getElem?_cons_zero]; rfl) (by kernel_rfl) (by kernel_rfl) (by kernel_rfl) (by rfl) ?_ hHeld ?_
          rotate_left
          · (intro w hSw; (try dsimp only at hSw); go_simp; (try with_reducible rfl))
          try simp only [Act.put, List.setIfInBounds_toArray, List.set_cons_zero, List.set_cons_succ]
          refine wpAnyH_ready (rs := [15]) (by kernel_rfl) (by simp) ?_
          refine AllReadyH.cons (by simp only [List.getElem?_toArray, List.getElem?_cons_succ, List.getElem?_cons_zero]; rfl) (fun K hK => ?_) AllReadyH.nil
          go_simp
          refine (isub_any _ _ _ _ _ _ 21 20 _ (by exact Z_s.out.of (S_a.out.zadd S_b.out)) (by exact ⟨l_b, H_b.out, s_b, rfl⟩) (by omega) (by omega)).mono ?_
          rintro e w21 ⟨b_q5, A_q5, n_q5, c_q5, rfl, h_q5, hb⟩
          replace HT := Lib.hid (HT.out.below hb)
          replace H_a := Lib.hid (H_a.out.below hb)
          replace H_b := Lib.hid (H_b.out.below hb)
          replace H_c := Lib.hid (H_c.out.below hb)
          replace Z_s := Lib.hid (Z_s.out.below hb)
          replace Z_p := Lib.hid (Z_p.out.below hb)
          replace B_a := Lib.hid (B_a.out.below hb)
          replace B_b := Lib.hid (B_b.out.below hb)
          replace B_c := Lib.hid (B_c.out.below hb)
          replace B_s := Lib.hid (B_s.out.below hb)
          replace B_p := Lib.hid (B_p.out.below hb)
          replace hB := below_next hB hb
          clear hb hHeld
          have Z_q5 := Lib.hid h_q5
          clear h_q5
          go_wp2_with fail
          refine hK.out _ _ (by exact ⟨B_a.out.cell0, B_a.out.cell1, B_b.out.cell0, B_b.out.cell1, B_c.out.cell0, B_c.out.cell1, B_s.out.cell0, B_s.out.cell1, B_p.out.cell0, B_p.out.cell1⟩) (fun hHeld => ?_)
          clear hK K
          try simp only [Act.put, List.setIfInBounds_toArray, List.set_cons_zero, List.set_cons_succ]
          refine wpAnyH_ready (rs := [17]) (by kernel_rfl) (by simp) ?_
          refine AllReadyH.cons (by simp only [List.getElem?_toArray, List.getElem?_cons_succ, List.getElem?_cons_zero]; rfl) (fun K hK => ?_) AllReadyH.nil
          go_simp
          refine (inorm_any _ _ _ 20 _ (by exact ⟨l_a, H_a.out, s_a, rfl⟩) (by omega)).mono ?_
          rintro e w22 ⟨b_q6, A_q6, n_q6, c_q6, rfl, h_q6, hb⟩
          replace HT := Lib.hid (HT.out.below hb)
          replace H_a := Lib.hid (H_a.out.below hb)
          replace H_b := Lib.hid (H_b.out.below hb)
          replace H_c := Lib.hid (H_c.out.below hb)
          replace Z_s := Lib.hid (Z_s.out.below hb)
          replace Z_p := Lib.hid (Z_p.out.below hb)
          replace Z_q5 := Lib.hid (Z_q5.out.below hb)
          replace B_a := Lib.hid (B_a.out.below hb)
          replace B_b := Lib.hid (B_b.out.below hb)
          replace B_c := Lib.hid (B_c.out.below hb)
          replace B_s := Lib.hid (B_s.out.below hb)
          replace B_p := Lib.hid (B_p.out.below hb)
          replace hB := below_next hB hb
          clear hb hHeld
          have Z_q6 := Lib.hid h_q6
          clear h_q6
          go_wp2_with fail
          refine hK.out _ _ (by exact ⟨B_a.out.cell0, B_a.out.cell1, B_b.out.cell0, B_b.out.cell1, B_c.out.cell0, B_c.out.cell1, B_s.out.cell0, B_s.out.cell1, B_p.out.cell0, B_p.out.cell1⟩) (fun hHeld => ?_)
          clear hK K
          try simp only [Act.put, List.setIfInBounds_toArray, List.set_cons_zero, List.set_cons_succ]
          refine wpAnyH_ready (rs := [18]) (by kernel_rfl) (by simp) ?_
          refine AllReadyH.cons (by simp only [List.getElem?_toArray, List.getElem?_cons_succ, List.getElem?_cons_zero]; rfl) (fun K hK => ?_) AllReadyH.nil
          go_simp
          refine (zsame_eq (by exact Z_q5.out) (by exact Z_q6.out) (Int.add_sub_cancel _ _)).mono ?_
          rintro e w23 ⟨rfl, hb⟩
          replace HT := Lib.hid (HT.out.below hb)
          replace H_a := Lib.hid (H_a.out.below hb)
          replace H_b := Lib.hid (H_b.out.below hb)
          replace H_c := Lib.hid (H_c.out.below hb)
          replace Z_s := Lib.hid (Z_s.out.below hb)
          replace Z_p := Lib.hid (Z_p.out.below hb)
          replace Z_q5 := Lib.hid (Z_q5.out.below hb)
          replace Z_q6 := Lib.hid (Z_q6.out.below hb)
          replace B_a := Lib.hid (B_a.out.below hb)
          replace B_b := Lib.hid (B_b.out.below hb)
          replace B_c := Lib.hid (B_c.out.below hb)
          replace B_s := Lib.hid (B_s.out.below hb)
          replace B_p := Lib.hid (B_p.out.below hb)
          replace hB := below_next hB hb
          clear hb hHeld
          clear Z_q5
          clear Z_q6
          go_wp2_with fail
          refine hK.out _ _ (by exact ⟨B_a.out.cell0, B_a.out.cell1, B_b.out.cell0, B_b.out.cell1, B_c.out.cell0, B_c.out.cell1, B_s.out.cell0, B_s.out.cell1, B_p.out.cell0, B_p.out.cell1⟩) (fun hHeld => ?_)
          clear hK K
          try simp only [Act.put, List.setIfInBounds_toArray, List.set_cons_zero, List.set_cons_succ]
          refine wpAnyH_take2 19 (v := ?_) (fun _ _ _ _ _ h => h) (by simp only [List.getElem?_toArray, List.getElem?_cons_succ, List.getElem?_cons_zero]; rfl) (by kernel_rfl) (by kernel_rfl) (by kernel_rfl) (by rfl) ?_ hHeld ?_
          rotate_left
          · (intro w hSw; (try dsimp only at hSw); go_simp; (try with_reducible rfl))
          try simp only [Act.put, List.setIfInBounds_toArray, List.set_cons_zero, List.set_cons_succ]
          refine wpAnyH_take2 20 (v := ?_) (fun _ _ _ _ _ h => h) (by simp only [List.getElem?_toArray, List.getElem?_cons_succ, List.getElem?_cons_zero]; rfl) (by kernel_rfl) (by kernel_rfl) (by kernel_rfl) (by rfl) ?_ hHeld ?_
          rotate_left
          · (intro w hSw; (try dsimp only at hSw); go_simp; (try with_reducible rfl))
          try simp only [Act.put, List.setIfInBounds_toArray, List.set_cons_zero, List.set_cons_succ]
          refine wpAnyH_done (by kernel_rfl) (NoPanic.normal ?_) _
          clear hHeld
          have c_a0 := B_a.out.cell0
          have c_a1 := B_a.out.cell1
          have c_b0 := B_b.out.cell0
          have c_b1 := B_b.out.cell1
          have c_c0 := B_c.out.cell0
          have c_c1 := B_c.out.cell1
          have c_s0 := B_s.out.cell0
          have c_s1 := B_s.out.cell1
          have c_p0 := B_p.out.cell0
          have c_p1 := B_p.out.cell1
          go_wp2
          clear c_a0 c_a1 c_b0 c_b1 c_c0 c_c1 c_s0 c_s1 c_p0 c_p1
          refine wp_region_noPanic ?_
          refine wp_region_held_drew (S := (fun w' => w'.cell? ⟨w.heap.size, 0, none⟩ = some (.bool b_a) ∧ w'.cell? ⟨w.heap.size, 1, none⟩ = some m_a ∧ w'.cell? ⟨w.heap.size + 1, 0, none⟩ = some (.bool b_b) ∧ w'.cell? ⟨w.heap.size + 1, 1, none⟩ = some m_b ∧ w'.cell? ⟨w.heap.size + 1 + 1, 0, none⟩ = some (.bool b_c) ∧ w'.cell? ⟨w.heap.size + 1 + 1, 1, none⟩ = some m_c ∧ w'.cell? ⟨gq0, 0, none⟩ = some (.bool bq0) ∧ w'.cell? ⟨gq0, 1, none⟩ = some (.slice Aq0 nq0 kq0) ∧ w'.cell? ⟨gq1, 0, none⟩ = some (.bool bq1) ∧ w'.cell? ⟨gq1, 1, none⟩ = some (.slice Aq1 nq1 kq1))) (by kernel_rfl) (by exact ⟨B_a.out.cell0, B_a.out.cell1, B_b.out.cell0, B_b.out.cell1, B_c.out.cell0, B_c.out.cell1, B_s.out.cell0, B_s.out.cell1, B_p.out.cell0, B_p.out.cell1⟩) (fun hHeld => ?_)
          have hb := belowDrew w23
          generalize w23.drew = V_4 at hb hHeld ⊢
          replace HT := Lib.hid (HT.out.below hb)
          replace H_a := Lib.hid (H_a.out.below hb)
          replace H_b := Lib.hid (H_b.out.below hb)
          replace H_c := Lib.hid (H_c.out.below hb)
          replace Z_s := Lib.hid (Z_s.out.below hb)
          replace Z_p := Lib.hid (Z_p.out.below hb)
          replace B_a := Lib.hid (B_a.out.below hb)
          replace B_b := Lib.hid (B_b.out.below hb)
          replace B_c := Lib.hid (B_c.out.below hb)
          replace B_s := Lib.hid (B_s.out.below hb)
          replace B_p := Lib.hid (B_p.out.below hb)
          replace hB := below_next hB hb
          clear hb
          refine wpAnyH_take2 0 (v := ?_) (fun _ _ _ _ _ h => h) (by simp only [List.getElem?_toArray, List.getElem?_cons_zero]; rfl) (by kernel_rfl) (by kernel_rfl) (by kernel_rfl) (by rfl) ?_ hHeld ?_
          rotate_left
          · (intro w hSw; (try dsimp only at hSw); go_simp; (try with_reducible rfl))
          try simp only [Act.put, List.setIfInBounds_toArray, List.set_cons_zero, List.set_cons_succ]
          refine wpAnyH_take2 3 (v := ?_) (fun _ _ _ _ _ h => h) (by simp only [List.getElem?_toArray, List.getElem?_cons_succ, List.getElem?_cons_zero]; rfl) (by kernel_rfl) (by kernel_rfl) (by kernel_rfl) (by rfl) ?_ hHeld ?_
          rotate_left
          · (intro w hSw; (try dsimp only at hSw); go_simp; (try with_reducible rfl))
          try simp only [Act.put, List.setIfInBounds_toArray, List.set_cons_zero, List.set_cons_succ]
          refine wpAnyH_ready (rs := [1]) (by kernel_rfl) (by simp) ?_
          refine AllReadyH.cons (by simp only [List.getElem?_toArray, List.getElem?_cons_succ, List.getElem?_cons_zero]; rfl) (fun K hK => ?_) AllReadyH.nil
          go_simp
          refine (iof_any 1 _ (by omega) (by omega)).mono ?_
          rintro e w24 ⟨b_r1, A_r1, n_r1, c_r1, rfl, h_r1, hb⟩
          replace HT := Lib.hid (HT.out.below hb)
          replace H_a := Lib.hid (H_a.out.below hb)
          replace H_b := Lib.hid (H_b.out.below hb)
          replace H_c := Lib.hid (H_c.out.below hb)
          replace Z_s := Lib.hid (Z_s.out.below hb)
          replace Z_p := Lib.hid (Z_p.out.below hb)
          replace B_a := Lib.hid (B_a.out.below hb)
          replace B_b := Lib.hid (B_b.out.below hb)
          replace B_c := Lib.hid (B_c.out.below hb)
          replace B_s := Lib.hid (B_s.out.below hb)
          replace B_p := Lib.hid (B_p.out.below hb)
          replace hB := below_next hB hb
          clear hb hHeld
          have Z_r1 := Lib.hid h_r1
          clear h_r1
          go_wp2_with fail
          refine hK.out _ _ (by exact ⟨B_a.out.cell0, B_a.out.cell1, B_b.out.cell0, B_b.out.cell1, B_c.out.cell0, B_c.out.cell1, B_s.out.cell0, B_s.out.cell1, B_p.out.cell0, B_p.out.cell1⟩) (fun hHeld => ?_)
          clear hK K
          try simp only [Act.put, List.setIfInBounds_toArray, List.set_cons_zero, List.set_cons_succ]
          refine wpAnyH_ready (rs := [2]) (by kernel_rfl) (by simp) ?_
          refine AllReadyH.cons (by simp only [List.getElem?_toArray, List.getElem?_cons_succ, List.getElem?_cons_zero]; rfl) (fun K hK => ?_) AllReadyH.nil
          go_simp
          refine (imul_any _ _ _ _ _ _ 20 2 _ (by exact ⟨l_a, H_a.out, s_a, rfl⟩) (by exact Z_r1.out.two (by omega) (by omega)) (by omega) (by omega)).mono ?_
          rintro e w25 ⟨b_r2, A_r2, n_r2, c_r2, rfl, h_r2, hb⟩
          replace HT := Lib.hid (HT.out.below hb)
          replace H_a := Lib.hid (H_a.out.below hb)
          replace H_b := Lib.hid (H_b.out.below hb)
          replace H_c := Lib.hid (H_c.out.below hb)
          replace Z_s := Lib.hid (Z_s.out.below hb)
          replace Z_p := Lib.hid (Z_p.out.below hb)
          replace Z_r1 := Lib.hid (Z_r1.out.below hb)
          replace B_a := Lib.hid (B_a.out.below hb)
          replace B_b := Lib.hid (B_b.out.below hb)
          replace B_c := Lib.hid (B_c.out.below hb)
          replace B_s := Lib.hid (B_s.out.below hb)
          replace B_p := Lib.hid (B_p.out.below hb)
          replace hB := below_next hB hb
          clear hb hHeld
          have Z_r2 := Lib.hid h_r2
          clear h_r2
          go_wp2_with fail
          refine hK.out _ _ (by exact ⟨B_a.out.cell0, B_a.out.cell1, B_b.out.cell0, B_b.out.cell1, B_c.out.cell0, B_c.out.cell1, B_s.out.cell0, B_s.out.cell1, B_p.out.cell0, B_p.out.cell1⟩) (fun hHeld => ?_)
          clear hK K
          try simp only [Act.put, List.setIfInBounds_toArray, List.set_cons_zero, List.set_cons_succ]
          refine wpAnyH_ready (rs := [4]) (by kernel_rfl) (by simp) ?_
          refine AllReadyH.cons (by simp only [List.getElem?_toArray, List.getElem?_cons_succ, List.getElem?_cons_zero]; rfl) (fun K hK => ?_) AllReadyH.nil
          go_simp
          refine (inorm_any _ _ _ 20 _ (by exact ⟨l_a, H_a.out, s_a, rfl⟩) (by omega)).mono ?_
          rintro e w26 ⟨b_r3, A_r3, n_r3, c_r3, rfl, h_r3, hb⟩
          replace HT := Lib.hid (HT.out.below hb)
          replace H_a := Lib.hid (H_a.out.below hb)
          replace H_b := Lib.hid (H_b.out.below hb)
          replace H_c := Lib.hid (H_c.out.below hb)
          replace Z_s := Lib.hid (Z_s.out.below hb)
          replace Z_p := Lib.hid (Z_p.out.below hb)
          replace Z_r1 := Lib.hid (Z_r1.out.below hb)
          replace Z_r2 := Lib.hid (Z_r2.out.below hb)
          replace B_a := Lib.hid (B_a.out.below hb)
          replace B_b := Lib.hid (B_b.out.below hb)
          replace B_c := Lib.hid (B_c.out.below hb)
          replace B_s := Lib.hid (B_s.out.below hb)
          replace B_p := Lib.hid (B_p.out.below hb)
          replace hB := below_next hB hb
          clear hb hHeld
          have Z_r3 := Lib.hid h_r3
          clear h_r3
          go_wp2_with fail
          refine hK.out _ _ (by exact ⟨B_a.out.cell0, B_a.out.cell1, B_b.out.cell0, B_b.out.cell1, B_c.out.cell0, B_c.out.cell1, B_s.out.cell0, B_s.out.cell1, B_p.out.cell0, B_p.out.cell1⟩) (fun hHeld => ?_)
          clear hK K
          try simp only [Act.put, List.setIfInBounds_toArray, List.set_cons_zero, List.set_cons_succ]
          refine wpAnyH_ready (rs := [5]) (by kernel_rfl) (by simp) ?_
          refine AllReadyH.cons (by simp only [List.getElem?_toArray, List.getElem?_cons_succ, List.getElem?_cons_zero]; rfl) (fun K hK => ?_) AllReadyH.nil
          go_simp
          refine (zsame_eq (by exact Z_r2.out) (by exact Z_r3.out) (Int.mul_one _)).mono ?_
          rintro e w27 ⟨rfl, hb⟩
          replace HT := Lib.hid (HT.out.below hb)
          replace H_a := Lib.hid (H_a.out.below hb)
          replace H_b := Lib.hid (H_b.out.below hb)
          replace H_c := Lib.hid (H_c.out.below hb)
          replace Z_s := Lib.hid (Z_s.out.below hb)
          replace Z_p := Lib.hid (Z_p.out.below hb)
          replace Z_r1 := Lib.hid (Z_r1.out.below hb)
          replace Z_r2 := Lib.hid (Z_r2.out.below hb)
          replace Z_r3 := Lib.hid (Z_r3.out.below hb)
          replace B_a := Lib.hid (B_a.out.below hb)
          replace B_b := Lib.hid (B_b.out.below hb)
          replace B_c := Lib.hid (B_c.out.below hb)
          replace B_s := Lib.hid (B_s.out.below hb)
          replace B_p := Lib.hid (B_p.out.below hb)
          replace hB := below_next hB hb
          clear hb hHeld
          clear Z_r1
          clear Z_r2
          clear Z_r3
          go_wp2_with fail
          refine hK.out _ _ (by exact ⟨B_a.out.cell0, B_a.out.cell1, B_b.out.cell0, B_b.out.cell1, B_c.out.cell0, B_c.out.cell1, B_s.out.cell0, B_s.out.cell1, B_p.out.cell0, B_p.out.cell1⟩) (fun hHeld => ?_)
          clear hK K
          try simp only [Act.put, List.setIfInBounds_toArray, List.set_cons_zero, List.set_cons_succ]
          refine wpAnyH_take2 6 (v := ?_) (fun _ _ _ _ _ h => h) (by simp only [List.getElem?_toArray, List.getElem?_cons_succ, List.getElem?_cons_zero]; rfl) (by kernel_rfl) (by kernel_rfl) (by kernel_rfl) (by rfl) ?_ hHeld ?_
          rotate_left
          · (intro w hSw; (try dsimp only at hSw); go_simp; (try with_reducible rfl))
          try simp only [Act.put, List.setIfInBounds_toArray, List.set_cons_zero, List.set_cons_succ]
          refine wpAnyH_take2 7 (v := ?_) (fun _ _ _ _ _ h => h) (by simp only [List.getElem?_toArray, List.getElem?_cons_succ, List.getElem?_cons_zero]; rfl) (by kernel_rfl) (by kernel_rfl) (by kernel_rfl) (by rfl) ?_ hHeld ?_
          rotate_left
          · (intro w hSw; (try dsimp only at hSw); go_simp; (try with_reducible rfl))
          try simp only [Act.put, List.setIfInBounds_toArray, List.set_cons_zero, List.set_cons_succ]
          refine wpAnyH_take2 8 (v := ?_) (fun _ _ _ _ _ h => h) (by simp only [List.getElem?_toArray, List.getElem?_cons_succ, List.getElem?_cons_zero]; rfl) (by kernel_rfl) (by kernel_rfl) (by kernel_rfl) (by rfl) ?_ hHeld ?_
          rotate_left
          · (intro w hSw; (try dsimp only at hSw); go_simp; (try with_reducible rfl))
          try simp only [Act.put, List.setIfInBounds_toArray, List.set_cons_zero, List.set_cons_succ]
          refine wpAnyH_ready (rs := [9]) (by kernel_rfl) (by simp) ?_
          refine AllReadyH.cons (by simp only [List.getElem?_toArray, List.getElem?_cons_succ, List.getElem?_cons_zero]; rfl) (fun K hK => ?_) AllReadyH.nil
          go_simp
          refine (ineg_any _ _ _ 20 _ (by exact ⟨l_a, H_a.out, s_a, rfl⟩) (by omega)).mono ?_
          rintro e w28 ⟨b_r4, A_r4, n_r4, c_r4, rfl, h_r4, hb⟩
          replace HT := Lib.hid (HT.out.below hb)
          replace H_a := Lib.hid (H_a.out.below hb)
          replace H_b := Lib.hid (H_b.out.below hb)
          replace H_c := Lib.hid (H_c.out.below hb)
          replace Z_s := Lib.hid (Z_s.out.below hb)
          replace Z_p := Lib.hid (Z_p.out.below hb)
          replace B_a := Lib.hid (B_a.out.below hb)
          replace B_b := Lib.hid (B_b.out.below hb)
          replace B_c := Lib.hid (B_c.out.below hb)
          replace B_s := Lib.hid (B_s.out.below hb)
          replace B_p := Lib.hid (B_p.out.below hb)
          replace hB := below_next hB hb
          clear hb hHeld
          have Z_r4 := Lib.hid h_r4
          clear h_r4
          go_wp2_with fail
          refine hK.out _ _ (by exact ⟨B_a.out.cell0, B_a.out.cell1, B_b.out.cell0, B_b.out.cell1, B_c.out.cell0, B_c.out.cell1, B_s.out.cell0, B_s.out.cell1, B_p.out.cell0, B_p.out.cell1⟩) (fun hHeld => ?_)
          clear hK K
          try simp only [Act.put, List.setIfInBounds_toArray, List.set_cons_zero, List.set_cons_succ]
          refine wpAnyH_ready (rs := [10]) (by kernel_rfl) (by simp) ?_
          refine AllReadyH.cons (by simp only [List.getElem?_toArray, List.getElem?_cons_succ, List.getElem?_cons_zero]; rfl) (fun K hK => ?_) AllReadyH.nil
          go_simp
          refine (iadd_any _ _ _ _ _ _ 20 20 _ (by exact ⟨l_a, H_a.out, s_a, rfl⟩) (by exact Z_r4.out.of S_a.out.zneg) (by omega) (by omega)).mono ?_
          rintro e w29 ⟨b_r5, A_r5, n_r5, c_r5, rfl, h_r5, hb⟩
          replace HT := Lib.hid (HT.out.below hb)
          replace H_a := Lib.hid (H_a.out.below hb)
          replace H_b := Lib.hid (H_b.out.below hb)
          replace H_c := Lib.hid (H_c.out.below hb)
          replace Z_s := Lib.hid (Z_s.out.below hb)
          replace Z_p := Lib.hid (Z_p.out.below hb)
          replace Z_r4 := Lib.hid (Z_r4.out.below hb)
          replace B_a := Lib.hid (B_a.out.below hb)
          replace B_b := Lib.hid (B_b.out.below hb)
          replace B_c := Lib.hid (B_c.out.below hb)
          replace B_s := Lib.hid (B_s.out.below hb)
          replace B_p := Lib.hid (B_p.out.below hb)
          replace hB := below_next hB hb
          clear hb hHeld
          have Z_r5 := Lib.hid h_r5
          clear h_r5
          go_wp2_with fail
          refine hK.out _ _ (by exact ⟨B_a.out.cell0, B_a.out.cell1, B_b.out.cell0, B_b.out.cell1, B_c.out.cell0, B_c.out.cell1, B_s.out.cell0, B_s.out.cell1, B_p.out.cell0, B_p.out.cell1⟩) (fun hHeld => ?_)
          clear hK K
          try simp only [Act.put, List.setIfInBounds_toArray, List.set_cons_zero, List.set_cons_succ]
          refine wpAnyH_ready (rs := [11]) (by kernel_rfl) (by simp) ?_
          refine AllReadyH.cons (by simp only [List.getElem?_toArray, List.getElem?_cons_succ, List.getElem?_cons_zero]; rfl) (fun K hK => ?_) AllReadyH.nil
          go_simp
          refine (iof_any 0 _ (by omega) (by omega)).mono ?_
          rintro e w30 ⟨b_r6, A_r6, n_r6, c_r6, rfl, h_r6, hb⟩
          replace HT := Lib.hid (HT.out.below hb)
          replace H_a := Lib.hid (H_a.out.below hb)
          replace H_b := Lib.hid (H_b.out.below hb)
          replace H_c := Lib.hid (H_c.out.below hb)
          replace Z_s := Lib.hid (Z_s.out.below hb)
          replace Z_p := Lib.hid (Z_p.out.below hb)
          replace Z_r4 := Lib.hid (Z_r4.out.below hb)
          replace Z_r5 := Lib.hid (Z_r5.out.below hb)
          replace B_a := Lib.hid (B_a.out.below hb)
          replace B_b := Lib.hid (B_b.out.below hb)
          replace B_c := Lib.hid (B_c.out.below hb)
          replace B_s := Lib.hid (B_s.out.below hb)
          replace B_p := Lib.hid (B_p.out.below hb)
          replace hB := below_next hB hb
          clear hb hHeld
          have Z_r6 := Lib.hid h_r6
          clear h_r6
          go_wp2_with fail
          refine hK.out _ _ (by exact ⟨B_a.out.cell0, B_a.out.cell1, B_b.out.cell0, B_b.out.cell1, B_c.out.cell0, B_c.out.cell1, B_s.out.cell0, B_s.out.cell1, B_p.out.cell0, B_p.out.cell1⟩) (fun hHeld => ?_)
          clear hK K
          try simp only [Act.put, List.setIfInBounds_toArray, List.set_cons_zero, List.set_cons_succ]
          refine wpAnyH_ready (rs := [12]) (by kernel_rfl) (by simp) ?_
          refine AllReadyH.cons (by simp only [List.getElem?_toArray, List.getElem?_cons_succ, List.getElem?_cons_zero]; rfl) (fun K hK => ?_) AllReadyH.nil
          go_simp
          refine (zsame_eq (by exact Z_r5.out) (by exact Z_r6.out) (Int.add_right_neg _)).mono ?_
          rintro e w31 ⟨rfl, hb⟩
          replace HT := Lib.hid (HT.out.below hb)
          replace H_a := Lib.hid (H_a.out.below hb)
          replace H_b := Lib.hid (H_b.out.below hb)
          replace H_c := Lib.hid (H_c.out.below hb)
          replace Z_s := Lib.hid (Z_s.out.below hb)
          replace Z_p := Lib.hid (Z_p.out.below hb)
          replace Z_r4 := Lib.hid (Z_r4.out.below hb)
          replace Z_r5 := Lib.hid (Z_r5.out.below hb)
          replace Z_r6 := Lib.hid (Z_r6.out.below hb)
          replace B_a := Lib.hid (B_a.out.below hb)
          replace B_b := Lib.hid (B_b.out.below hb)
          replace B_c := Lib.hid (B_c.out.below hb)
          replace B_s := Lib.hid (B_s.out.below hb)
          replace B_p := Lib.hid (B_p.out.below hb)
          replace hB := below_next hB hb
          clear hb hHeld
          clear Z_r4
          clear Z_r5
          clear Z_r6
          go_wp2_with fail
          refine hK.out _ _ (by exact ⟨B_a.out.cell0, B_a.out.cell1, B_b.out.cell0, B_b.out.cell1, B_c.out.cell0, B_c.out.cell1, B_s.out.cell0, B_s.out.cell1, B_p.out.cell0, B_p.out.cell1⟩) (fun hHeld => ?_)
          clear hK K
          try simp only [Act.put, List.setIfInBounds_toArray, List.set_cons_zero, List.set_cons_succ]
          refine wpAnyH_take2 13 (v := ?_) (fun _ _ _ _ _ h => h) (by simp only [List.getElem?_toArray, List.getElem?_cons_succ, List.getElem?_cons_zero]; rfl) (by kernel_rfl) (by kernel_rfl) (by kernel_rfl) (by rfl) ?_ hHeld ?_
          rotate_left
          · (intro w hSw; (try dsimp only at hSw); go_simp; (try with_reducible rfl))
          try simp only [Act.put, List.setIfInBounds_toArray, List.set_cons_zero, List.set_cons_succ]
          refine wpAnyH_take2 14 (v := ?_) (fun _ _ _ _ _ h => h) (by simp only [List.getElem?_toArray, List.getElem?_cons_succ, List.getElem?_cons_zero]; rfl) (by kernel_rfl) (by kernel_rfl) (by kernel_rfl) (by rfl) ?_ hHeld ?_
          rotate_left
          · (intro w hSw; (try dsimp only at hSw); go_simp; (try with_reducible rfl))
          try simp only [Act.put, List.setIfInBounds_toArray, List.set_cons_zero, List.set_cons_succ]
          refine wpAnyH_ready (rs := [15]) (by kernel_rfl) (by simp) ?_
          refine AllReadyH.cons (by simp only [List.getElem?_toArray, List.getElem?_cons_succ, List.getElem?_cons_zero]; rfl) (fun K hK => ?_) AllReadyH.nil
          go_simp
          refine (awake_any _ (by exact HT.out)).mono ?_
          rintro e w32 ⟨rfl, hb⟩
          replace HT := Lib.hid (HT.out.below hb)
          replace H_a := Lib.hid (H_a.out.below hb)
          replace H_b := Lib.hid (H_b.out.below hb)
          replace H_c := Lib.hid (H_c.out.below hb)
          replace Z_s := Lib.hid (Z_s.out.below hb)
          replace Z_p := Lib.hid (Z_p.out.below hb)
          replace B_a := Lib.hid (B_a.out.below hb)
          replace B_b := Lib.hid (B_b.out.below hb)
          replace B_c := Lib.hid (B_c.out.below hb)
          replace B_s := Lib.hid (B_s.out.below hb)
          replace B_p := Lib.hid (B_p.out.below hb)
          replace hB := below_next hB hb
          clear hb hHeld
          go_wp2_with fail
          refine hK.out _ _ (by exact ⟨B_a.out.cell0, B_a.out.cell1, B_b.out.cell0, B_b.out.cell1, B_c.out.cell0, B_c.out.cell1, B_s.out.cell0, B_s.out.cell1, B_p.out.cell0, B_p.out.cell1⟩) (fun hHeld => ?_)
          clear hK K
          try simp only [Act.put, List.setIfInBounds_toArray, List.set_cons_zero, List.set_cons_succ]
          refine wpAnyH_take2 16 (v := ?_) (fun _ _ _ _ _ h => h) (by simp only [List.getElem?_toArray, List.getElem?_cons_succ, List.getElem?_cons_zero]; rfl) (by kernel_rfl) (by kernel_rfl) (by kernel_rfl) (by rfl) ?_ hHeld ?_
          rotate_left
          · (intro w hSw; (try dsimp only at hSw); go_simp; (try with_reducible rfl))
          try simp only [Act.put, List.setIfInBounds_toArray, List.set_cons_zero, List.set_cons_succ]
          refine wpAnyH_take2 17 (v := ?_) (fun _ _ _ _ _ h => h) (by simp only [List.getElem?_toArray, List.getElem?_cons_succ, List.getElem?_cons_zero]; rfl) (by kernel_rfl) (by kernel_rfl) (by kernel_rfl) (by rfl) ?_ hHeld ?_
          rotate_left
          · (intro w hSw; (try dsimp only at hSw); go_simp; (try with_reducible rfl))
          try simp only [Act.put, List.setIfInBounds_toArray, List.set_cons_zero, List.set_cons_succ]
          refine wpAnyH_done (by kernel_rfl) (NoPanic.normal ?_) _
          clear hHeld
          have c_a0 := B_a.out.cell0
          have c_a1 := B_a.out.cell1
          have c_b0 := B_b.out.cell0
          have c_b1 := B_b.out.cell1
          have c_c0 := B_c.out.cell0
          have c_c1 := B_c.out.cell1
          have c_s0 := B_s.out.cell0
          have c_s1 := B_s.out.cell1
          have c_p0 := B_p.out.cell0
          have c_p1 := B_p.out.cell1
          go_wp2
          go_ret
          exact ⟨rfl, hB⟩
      · skip
        go_enter Tryd.func10, Tryd.ntmps10
        go_wp2_with fail
        obtain ⟨W1, hW, NB, NC, ND, HW, _⟩ := boxes3 w (.bool b_a) m_a (.bool b_b) m_b (.bool b_c) m_c
        rw [hW]
        clear hW
        replace HT := Lib.hid (HT.out.below HW.out)
        replace H_a := Lib.hid (H_a.out.below HW.out)
        replace H_b := Lib.hid (H_b.out.below HW.out)
        replace H_c := Lib.hid (H_c.out.below HW.out)
        have hB := HW.out
        have B_a := NB
        have B_b := NC
        have B_c := ND
        clear NB NC ND HW
        refine (zshort_yes (k := 20) (by exact H_a.out) s_a).mono ?_
        rintro e w1 ⟨rfl, hb⟩
        replace HT := Lib.hid (HT.out.below hb)
        replace H_a := Lib.hid (H_a.out.below hb)
        replace H_b := Lib.hid (H_b.out.below hb)
        replace H_c := Lib.hid (H_c.out.below hb)
        replace B_a := Lib.hid (B_a.out.below hb)
        replace B_b := Lib.hid (B_b.out.below hb)
        replace B_c := Lib.hid (B_c.out.below hb)
        replace hB := below_next hB hb
        clear hb
        have c_a0 := B_a.out.cell0
        have c_a1 := B_a.out.cell1
        have c_b0 := B_b.out.cell0
        have c_b1 := B_b.out.cell1
        have c_c0 := B_c.out.cell0
        have c_c1 := B_c.out.cell1
        go_wp2_with fail
        clear c_a0 c_a1 c_b0 c_b1 c_c0 c_c1
        refine (zshort_yes (k := 20) (by exact H_b.out) s_b).mono ?_
        rintro e w2 ⟨rfl, hb⟩
        replace HT := Lib.hid (HT.out.below hb)
        replace H_a := Lib.hid (H_a.out.below hb)
        replace H_b := Lib.hid (H_b.out.below hb)
        replace H_c := Lib.hid (H_c.out.below hb)
        replace B_a := Lib.hid (B_a.out.below hb)
        replace B_b := Lib.hid (B_b.out.below hb)
        replace B_c := Lib.hid (B_c.out.below hb)
        replace hB := below_next hB hb
        clear hb
        have c_a0 := B_a.out.cell0
        have c_a1 := B_a.out.cell1
        have c_b0 := B_b.out.cell0
        have c_b1 := B_b.out.cell1
        have c_c0 := B_c.out.cell0
        have c_c1 := B_c.out.cell1
        go_wp2_with fail
        clear c_a0 c_a1 c_b0 c_b1 c_c0 c_c1
        refine (zshort_no (k := 20) (by exact H_c.out) s_c).mono ?_
        rintro e w3 ⟨rfl, hb⟩
        replace HT := Lib.hid (HT.out.below hb)
        replace H_a := Lib.hid (H_a.out.below hb)
        replace H_b := Lib.hid (H_b.out.below hb)
        replace H_c := Lib.hid (H_c.out.below hb)
        replace B_a := Lib.hid (B_a.out.below hb)
        replace B_b := Lib.hid (B_b.out.below hb)
        replace B_c := Lib.hid (B_c.out.below hb)
        replace hB := below_next hB hb
        clear hb
        have c_a0 := B_a.out.cell0
        have c_a1 := B_a.out.cell1
        have c_b0 := B_b.out.cell0
        have c_b1 := B_b.out.cell1
        have c_c0 := B_c.out.cell0
        have c_c1 := B_c.out.cell1
        go_wp2_with fail
        clear c_a0 c_a1 c_b0 c_b1 c_c0 c_c1
        refine (awake_any _ (by exact HT.out)).mono ?_
        rintro e w4 ⟨rfl, hb⟩
        replace HT := Lib.hid (HT.out.below hb)
        replace H_a := Lib.hid (H_a.out.below hb)
        replace H_b := Lib.hid (H_b.out.below hb)
        replace H_c := Lib.hid (H_c.out.below hb)
        replace B_a := Lib.hid (B_a.out.below hb)
        replace B_b := Lib.hid (B_b.out.below hb)
        replace B_c := Lib.hid (B_c.out.below hb)
        replace hB := below_next hB hb
        clear hb
        have c_a0 := B_a.out.cell0
        have c_a1 := B_a.out.cell1
        have c_b0 := B_b.out.cell0
        have c_b1 := B_b.out.cell1
        have c_c0 := B_c.out.cell0
        have c_c1 := B_c.out.cell1
        go_wp2
        go_ret
        exact ⟨rfl, hB⟩
    · skip
      go_enter Tryd.func10, Tryd.ntmps10
      go_wp2_with fail
      obtain ⟨W1, hW, NB, NC, ND, HW, _⟩ := boxes3 w (.bool b_a) m_a (.bool b_b) m_b (.bool b_c) m_c
      rw [hW]
      clear hW
      replace HT := Lib.hid (HT.out.below HW.out)
      replace H_a := Lib.hid (H_a.out.below HW.out)
      replace H_b := Lib.hid (H_b.out.below HW.out)
      replace H_c := Lib.hid (H_c.out.below HW.out)
      have hB := HW.out
      have B_a := NB
      have B_b := NC
      have B_c := ND
      clear NB NC ND HW
      refine (zshort_yes (k := 20) (by exact H_a.out) s_a).mono ?_
      rintro e w1 ⟨rfl, hb⟩
      replace HT := Lib.hid (HT.out.below hb)
      replace H_a := Lib.hid (H_a.out.below hb)
      replace H_b := Lib.hid (H_b.out.below hb)
      replace H_c := Lib.hid (H_c.out.below hb)
      replace B_a := Lib.hid (B_a.out.below hb)
      replace B_b := Lib.hid (B_b.out.below hb)
      replace B_c := Lib.hid (B_c.out.below hb)
      replace hB := below_next hB hb
      clear hb
      have c_a0 := B_a.out.cell0
      have c_a1 := B_a.out.cell1
      have c_b0 := B_b.out.cell0
      have c_b1 := B_b.out.cell1
      have c_c0 := B_c.out.cell0
      have c_c1 := B_c.out.cell1
      go_wp2_with fail
      clear c_a0 c_a1 c_b0 c_b1 c_c0 c_c1
      refine (zshort_no (k := 20) (by exact H_b.out) s_b).mono ?_
      rintro e w2 ⟨rfl, hb⟩
      replace HT := Lib.hid (HT.out.below hb)
      replace H_a := Lib.hid (H_a.out.below hb)
      replace H_b := Lib.hid (H_b.out.below hb)
      replace H_c := Lib.hid (H_c.out.below hb)
      replace B_a := Lib.hid (B_a.out.below hb)
      replace B_b := Lib.hid (B_b.out.below hb)
      replace B_c := Lib.hid (B_c.out.below hb)
      replace hB := below_next hB hb
      clear hb
      have c_a0 := B_a.out.cell0
      have c_a1 := B_a.out.cell1
      have c_b0 := B_b.out.cell0
      have c_b1 := B_b.out.cell1
      have c_c0 := B_c.out.cell0
      have c_c1 := B_c.out.cell1
      go_wp2_with fail
      clear c_a0 c_a1 c_b0 c_b1 c_c0 c_c1
      refine (awake_any _ (by exact HT.out)).mono ?_
      rintro e w3 ⟨rfl, hb⟩
      replace HT := Lib.hid (HT.out.below hb)
      replace H_a := Lib.hid (H_a.out.below hb)
      replace H_b := Lib.hid (H_b.out.below hb)
      replace H_c := Lib.hid (H_c.out.below hb)
      replace B_a := Lib.hid (B_a.out.below hb)
      replace B_b := Lib.hid (B_b.out.below hb)
      replace B_c := Lib.hid (B_c.out.below hb)
      replace hB := below_next hB hb
      clear hb
      have c_a0 := B_a.out.cell0
      have c_a1 := B_a.out.cell1
      have c_b0 := B_b.out.cell0
      have c_b1 := B_b.out.cell1
      have c_c0 := B_c.out.cell0
      have c_c1 := B_c.out.cell1
      go_wp2
      go_ret
      exact ⟨rfl, hB⟩
  · skip
    go_enter Tryd.func10, Tryd.ntmps10
    go_wp2_with fail
    obtain ⟨W1, hW, NB, NC, ND, HW, _⟩ := boxes3 w (.bool b_a) m_a (.bool b_b) m_b (.bool b_c) m_c
    rw [hW]
    clear hW
    replace HT := Lib.hid (HT.out.below HW.out)
    replace H_a := Lib.hid (H_a.out.below HW.out)
    replace H_b := Lib.hid (H_b.out.below HW.out)
    replace H_c := Lib.hid (H_c.out.below HW.out)
    have hB := HW.out
    have B_a := NB
    have B_b := NC
    have B_c := ND
    clear NB NC ND HW
    refine (zshort_no (k := 20) (by exact H_a.out) s_a).mono ?_
    rintro e w1 ⟨rfl, hb⟩
    replace HT := Lib.hid (HT.out.below hb)
    replace H_a := Lib.hid (H_a.out.below hb)
    replace H_b := Lib.hid (H_b.out.below hb)
    replace H_c := Lib.hid (H_c.out.below hb)
    replace B_a := Lib.hid (B_a.out.below hb)
    replace B_b := Lib.hid (B_b.out.below hb)
    replace B_c := Lib.hid (B_c.out.below hb)
    replace hB := below_next hB hb
    clear hb
    have c_a0 := B_a.out.cell0
    have c_a1 := B_a.out.cell1
    have c_b0 := B_b.out.cell0
    have c_b1 := B_b.out.cell1
    have c_c0 := B_c.out.cell0
    have c_c1 := B_c.out.cell1
    go_wp2_with fail
    clear c_a0 c_a1 c_b0 c_b1 c_c0 c_c1
    refine (awake_any _ (by exact HT.out)).mono ?_
    rintro e w2 ⟨rfl, hb⟩
    replace HT := Lib.hid (HT.out.below hb)
    replace H_a := Lib.hid (H_a.out.below hb)
    replace H_b := Lib.hid (H_b.out.below hb)
    replace H_c := Lib.hid (H_c.out.below hb)
    replace B_a := Lib.hid (B_a.out.below hb)
    replace B_b := Lib.hid (B_b.out.below hb)
    replace B_c := Lib.hid (B_c.out.below hb)
    replace hB := below_next hB hb
    clear hb
    have c_a0 := B_a.out.cell0
    have c_a1 := B_a.out.cell1
    have c_b0 := B_b.out.cell0
    have c_b1 := B_b.out.cell1
    have c_c0 := B_c.out.cell0
    have c_c1 := B_c.out.cell1
    go_wp2
    go_ret
    exact ⟨rfl, hB⟩
end Go.Proofs.YtcdfhiocglibfaaDoor
