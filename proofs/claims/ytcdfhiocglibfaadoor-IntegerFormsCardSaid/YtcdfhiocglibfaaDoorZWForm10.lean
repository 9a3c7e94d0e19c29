/- The law IntegerForms: its walk. -/
import Derived.Test.YtcdfhiocglibfaaDoorAwake
import Derived.Test.YtcdfhiocglibfaaDoorZBase
import Derived.Test.YtcdfhiocglibfaaDoorApp
import Derived.Test.YtcdfhiocglibfaaDoorZNormal
namespace Go.Proofs.YtcdfhiocglibfaaDoor
open Go.RowKit

set_option maxRecDepth 100000 in
set_option maxHeartbeats 8000000 in
theorem forms_10 (b_a : Bool) (m_a : Value) (l_a : List Nat) (b_b : Bool) (m_b : Value) (l_b : List Nat) (zeros : Int) (w : World) (h_a : NatAt w m_a l_a) (h_b : NatAt w m_b l_b) (hz_zeros : (Lit.int .u8 zeros).wf = true) (htab : Tab w) (s_a : l_a.length ≤ 30) (s_b : l_b.length ≤ 30) (s_z : zeros ≤ 5) (ha : zval b_a l_a = 0) (hz : zval b_b l_b ≠ 0) : Calls Tryd.prog 8 #[.agg #[.bool b_a, m_a], .agg #[.bool b_b, m_b], .int .u8 zeros] w (GivesTrue w) := by
  have HT := Lib.hid htab
  clear htab
  have H_a := Lib.hid h_a
  clear h_a
  have H_b := Lib.hid h_b
  clear h_b
  obtain ⟨zeros1, zeros2⟩ : 0 ≤ zeros ∧ zeros ≤ 255 := by have := Go.bounds_u8 hz_zeros; omega
  clear hz_zeros
  have HT0 := HT
  have HA := Lib.hid ha
  clear ha
  have HZ := Lib.hid hz
  clear hz
  obtain ⟨zn, rfl⟩ := Int.eq_ofNat_of_zero_le zeros1
  have ez : decide ((5 : Int) < (zn : Int)) = false := by simp; omega
  have ewz : IntKind.i64.wrap (zn : Int) = zn := by rw [IntKind.wrap_i64]; omega
  go_enter Tryd.func8, Tryd.ntmps8
  go_wp2_with fail
  obtain ⟨W1, hW, NB, NC, HW, _⟩ := boxes2 w (.bool b_a) m_a (.bool b_b) m_b
  rw [hW]
  clear hW
  replace HT := Lib.hid (HT.out.below HW.out)
  replace H_a := Lib.hid (H_a.out.below HW.out)
  replace H_b := Lib.hid (H_b.out.below HW.out)
  have hB := HW.out
  have B_a := NB
  have B_b := NC
  clear NB NC HW
  refine (zshort_yes (k := 30) (by exact H_a.out) s_a).mono ?_
  rintro e w1 ⟨rfl, hb⟩
  replace HT := Lib.hid (HT.out.below hb)
  replace H_a := Lib.hid (H_a.out.below hb)
  replace H_b := Lib.hid (H_b.out.below hb)
  replace B_a := Lib.hid (B_a.out.below hb)
  replace B_b := Lib.hid (B_b.out.below hb)
  replace hB := below_next hB hb
  clear hb
  have c_a0 := B_a.out.cell0
  have c_a1 := B_a.out.cell1
  have c_b0 := B_b.out.cell0
  have c_b1 := B_b.out.cell1
  go_wp2_with fail
  clear c_a0 c_a1 c_b0 c_b1
  refine (zshort_yes (k := 30) (by exact H_b.out) s_b).mono ?_
  rintro e w2 ⟨rfl, hb⟩
  replace HT := Lib.hid (HT.out.below hb)
  replace H_a := Lib.hid (H_a.out.below hb)
  replace H_b := Lib.hid (H_b.out.below hb)
  replace B_a := Lib.hid (B_a.out.below hb)
  replace B_b := Lib.hid (B_b.out.below hb)
  replace hB := below_next hB hb
  clear hb
  have hB0 := hB
  have B0_a := B_a
  have B0_b := B_b
  have c_a0 := B_a.out.cell0
  have c_a1 := B_a.out.cell1
  have c_b0 := B_b.out.cell0
  have c_b1 := B_b.out.cell1
  go_wp2
  clear c_a0 c_a1 c_b0 c_b1
  refine wp_region_noPanic ?_
  refine wp_region_held_drew (S := (fun w' => w'.cell? ⟨w.heap.size, 0, none⟩ = some (.bool b_a) ∧ w'.cell? ⟨w.heap.size, 1, none⟩ = some m_a)) (by kernel_rfl) (by exact ⟨B_a.out.cell0, B_a.out.cell1⟩) (fun hHeld => ?_)
  have HB := Lib.hid (belowDrew w2)
  generalize w2.drew = F0 at HB hHeld ⊢
  refine wpAnyH_take2 0 (v := ?_) (fun _ _ _ _ _ h => h) (by simp only [List.getElem?_toArray, List.getElem?_cons_zero]; rfl) (by kernel_rfl) (by kernel_rfl) (by kernel_rfl) (by rfl) ?_ hHeld ?_
  rotate_left
  · (intro w hSw; (try dsimp only at hSw); go_simp; (try with_reducible rfl))
  try simp only [Act.put, List.setIfInBounds_toArray, List.set_cons_zero, List.set_cons_succ]
  refine wpAnyH_take2 1 (v := ?_) (fun _ _ _ _ _ h => h) (by simp only [List.getElem?_toArray, List.getElem?_cons_succ, List.getElem?_cons_zero]; rfl) (by kernel_rfl) (by kernel_rfl) (by kernel_rfl) (by rfl) ?_ hHeld ?_
  rotate_left
  · (intro w hSw; (try dsimp only at hSw); go_simp; (try with_reducible rfl))
  try simp only [Act.put, List.setIfInBounds_toArray, List.set_cons_zero, List.set_cons_succ]
  refine wpAnyH_take2 3 (v := ?_) (fun _ _ _ _ _ h => h) (by simp only [List.getElem?_toArray, List.getElem?_cons_succ, List.getElem?_cons_zero]; rfl) (by kernel_rfl) (by kernel_rfl) (by kernel_rfl) (by rfl) ?_ hHeld ?_
  rotate_left
  · (intro w hSw; (try dsimp only at hSw); go_simp; (try with_reducible rfl))
  try simp only [Act.put, List.setIfInBounds_toArray, List.set_cons_zero, List.set_cons_succ]
  refine wpAnyH_take2 4 (v := ?_) (fun _ _ _ _ _ h => h) (by simp only [List.getElem?_toArray, List.getElem?_cons_succ, List.getElem?_cons_zero]; rfl) (by kernel_rfl) (by kernel_rfl) (by kernel_rfl) (by rfl) ?_ hHeld ?_
  rotate_left
  · (intro w hSw; (try dsimp only at hSw); go_simp; (try with_reducible rfl))
  try simp only [Act.put, List.setIfInBounds_toArray, List.set_cons_zero, List.set_cons_succ]
  refine wpAnyH_take2 6 (v := ?_) (fun _ _ _ _ _ h => h) (by simp only [List.getElem?_toArray, List.getElem?_cons_succ, List.getElem?_cons_zero]; rfl) (by kernel_rfl) (by kernel_rfl) (by kernel_rfl) (by rfl) ?_ hHeld ?_
  rotate_left
  · (intro w hSw; (try dsimp only at hSw); go_simp; (try with_reducible rfl))
  try simp only [Act.put, List.setIfInBounds_toArray, List.set_cons_zero, List.set_cons_succ]
  refine wpAnyH_take2 7 (v := ?_) (fun _ _ _ _ _ h => h) (by simp only [List.getElem?_toArray, List.getElem?_cons_succ, List.getElem?_cons_zero]; rfl) (by kernel_rfl) (by kernel_rfl) (by kernel_rfl) (by rfl) ?_ hHeld ?_
  rotate_left
  · (intro w hSw; (try dsimp only at hSw); go_simp; (try with_reducible rfl))
  try simp only [Act.put, List.setIfInBounds_toArray, List.set_cons_zero, List.set_cons_succ]
  refine wpAnyH_key5 1 #[true, true, true, true, true, true, true, true, true, true, true, false] 31 34 37 38 7 (FormJ w2 (l_a ++ List.replicate zn 0) b_a) ?_ (fun key => ?_)
  rotate_left
  · simp only [Act.put, List.setIfInBounds_toArray, List.set_cons_zero, List.set_cons_succ] at key
    have KEY := Lib.hid key
    clear key
    refine wpAnyH_ready (rs := [2, 10]) (by kernel_rfl) (by simp) ?_
    refine AllReadyH.cons (by simp only [List.getElem?_toArray, List.getElem?_cons_succ, List.getElem?_cons_zero]; rfl) (fun K hK => ?_) ?_
    · go_simp
      obtain ⟨F1, v31, hV, hv, R, hb⟩ := newRow0 F0 HB.out.size
      rw [hV, hv]
      clear hV hv
      replace HB := Lib.hid (below_next HB.out hb)
      clear hb
      refine hK.out _ _ (by exact ⟨(B_a.out.below HB.out).cell0, (B_a.out.below HB.out).cell1⟩) (fun hHeld => ?_)
      clear hK K
      try simp only [Act.put, List.setIfInBounds_toArray, List.set_cons_zero, List.set_cons_succ]
      refine wpAnyH_ready (rs := [5, 10]) (by kernel_rfl) (by simp) ?_
      refine AllReadyH.cons (by simp only [List.getElem?_toArray, List.getElem?_cons_succ, List.getElem?_cons_zero]; rfl) (fun K hK => ?_) ?_
      · rw [if_pos (by rfl)]
        refine wp_appendN (.tmp 31) (.tmp 33) _ Tryd.undN rfl w2.heap.size _ [] rfl R.out _ l_a rfl (H_a.out.below HB.out) (by simp; omega) HB.out.size ?_
        intro v34 F2 R2 hg hb
        rw [List.nil_append] at R2
        replace HB := Lib.hid (below_base HB.out hb)
        replace R := R2
        clear hg hb
        refine hK.out _ _ (by exact ⟨(B_a.out.below HB.out).cell0, (B_a.out.below HB.out).cell1⟩) (fun hHeld => ?_)
        clear hK K
        try simp only [Act.put, List.setIfInBounds_toArray, List.set_cons_zero, List.set_cons_succ]
        refine wpAnyH_ready (rs := [8, 10]) (by kernel_rfl) (by simp) ?_
        refine AllReadyH.cons (by simp only [List.getElem?_toArray, List.getElem?_cons_succ, List.getElem?_cons_zero]; rfl) (fun K hK => ?_) ?_
        · rw [if_pos (by rfl)]
          refine wp_append0 (.tmp 34) (.tmp 36) _ _ Tryd.undN (by kernel_rfl) rfl w2.heap.size _ l_a rfl R.out zn rfl (by omega) (by omega) HB.out.size ?_
          intro v37 F3 R2 hg hb
          replace HB := Lib.hid (below_base HB.out hb)
          replace R := R2
          clear hg hb
          refine hK.out _ _ (by exact ⟨(B_a.out.below HB.out).cell0, (B_a.out.below HB.out).cell1⟩) (fun hHeld => ?_)
          clear hK K
          try simp only [Act.put, List.setIfInBounds_toArray, List.set_cons_zero, List.set_cons_succ]
          obtain ⟨A9, n9, c9, rfl⟩ := R.out.natAt_form
          refine wpAnyH_take2 9 (v := ?_) (fun _ _ _ _ _ h => h) (by simp only [List.getElem?_toArray, List.getElem?_cons_succ, List.getElem?_cons_zero]; rfl) (by kernel_rfl) (by kernel_rfl) (by kernel_rfl) (by rfl) ?_ hHeld ?_
          rotate_left
          · (intro w hSw; (try dsimp only at hSw); go_simp; (try with_reducible rfl))
          try simp only [Act.put, List.setIfInBounds_toArray, List.set_cons_zero, List.set_cons_succ]
          refine wpAnyH_ready (rs := [10]) (by kernel_rfl) (by simp) ?_
          refine AllReadyH.cons (by simp only [List.getElem?_toArray, List.getElem?_cons_succ, List.getElem?_cons_zero]; rfl) (fun K hK => ?_) ?_
          · go_simp
            obtain ⟨F4, gq, hV, hg, X, hb⟩ := newBox F3 (.bool false) (.slice none 0 0)
            rw [hV, hg]
            clear hV
            have qq : w2.heap.size ≤ gq := hg ▸ HB.out.size
            replace HB := Lib.hid (below_next HB.out hb)
            replace R := Lib.hid (R.out.below hb)
            clear hb hg
            refine hK.out _ _ (by exact ⟨(B_a.out.below HB.out).cell0, (B_a.out.below HB.out).cell1⟩) (fun hHeld => ?_)
            clear hK K
            try simp only [Act.put, List.setIfInBounds_toArray, List.set_cons_zero, List.set_cons_succ]
            exact wpAnyH_at #[true, true, true, true, true, true, true, true, true, true, true, false] (by kernel_rfl) (KEY.out _ _ _ _ _ _ ⟨_, _, _, gq, rfl, rfl, rfl, R.out.natAt (lim_zeros H_a.out.lim zn), X.out, qq, HB.out⟩)
          exact AllReadyH.nil
        refine AllReadyH.cons (by simp only [List.getElem?_toArray, List.getElem?_cons_succ, List.getElem?_cons_zero]; rfl) (fun K hK => ?_) ?_
        · go_simp
          obtain ⟨F3, gq, hV, hg, X, hb⟩ := newBox F2 (.bool false) (.slice none 0 0)
          rw [hV, hg]
          clear hV
          have qq : w2.heap.size ≤ gq := hg ▸ HB.out.size
          replace HB := Lib.hid (below_next HB.out hb)
          replace R := Lib.hid (R.out.below hb)
          clear hb hg
          refine hK.out _ _ (by exact ⟨(B_a.out.below HB.out).cell0, (B_a.out.below HB.out).cell1⟩) (fun hHeld => ?_)
          clear hK K
          try simp only [Act.put, List.setIfInBounds_toArray, List.set_cons_zero, List.set_cons_succ]
          refine wpAnyH_ready (rs := [8]) (by kernel_rfl) (by simp) ?_
          refine AllReadyH.cons (by simp only [List.getElem?_toArray, List.getElem?_cons_succ, List.getElem?_cons_zero]; rfl) (fun K hK => ?_) ?_
          · rw [if_pos (by rfl)]
            refine wp_append0 (.tmp 34) (.tmp 36) _ _ Tryd.undN (by kernel_rfl) rfl w2.heap.size _ l_a rfl R.out zn rfl (by omega) (by omega) HB.out.size ?_
            intro v37 F4 R2 hg hb
            replace HB := Lib.hid (below_base HB.out hb)
            replace X := Lib.hid (X.out.grown R.out hg.out)
            replace R := R2
            clear hg hb
            refine hK.out _ _ (by exact ⟨(B_a.out.below HB.out).cell0, (B_a.out.below HB.out).cell1⟩) (fun hHeld => ?_)
            clear hK K
            try simp only [Act.put, List.setIfInBounds_toArray, List.set_cons_zero, List.set_cons_succ]
            obtain ⟨A9, n9, c9, rfl⟩ := R.out.natAt_form
            refine wpAnyH_take2 9 (v := ?_) (fun _ _ _ _ _ h => h) (by simp only [List.getElem?_toArray, List.getElem?_cons_succ, List.getElem?_cons_zero]; rfl) (by kernel_rfl) (by kernel_rfl) (by kernel_rfl) (by rfl) ?_ hHeld ?_
            rotate_left
            · (intro w hSw; (try dsimp only at hSw); go_simp; (try with_reducible rfl))
            try simp only [Act.put, List.setIfInBounds_toArray, List.set_cons_zero, List.set_cons_succ]
            exact wpAnyH_at #[true, true, true, true, true, true, true, true, true, true, true, false] (by kernel_rfl) (KEY.out _ _ _ _ _ _ ⟨_, _, _, gq, rfl, rfl, rfl, R.out.natAt (lim_zeros H_a.out.lim zn), X.out, qq, HB.out⟩)
          exact AllReadyH.nil
        exact AllReadyH.nil
      refine AllReadyH.cons (by simp only [List.getElem?_toArray, List.getElem?_cons_succ, List.getElem?_cons_zero]; rfl) (fun K hK => ?_) ?_
      · go_simp
        obtain ⟨F2, gq, hV, hg, X, hb⟩ := newBox F1 (.bool false) (.slice none 0 0)
        rw [hV, hg]
        clear hV
        have qq : w2.heap.size ≤ gq := hg ▸ HB.out.size
        replace HB := Lib.hid (below_next HB.out hb)
        replace R := Lib.hid (R.out.below hb)
        clear hb hg
        refine hK.out _ _ (by exact ⟨(B_a.out.below HB.out).cell0, (B_a.out.below HB.out).cell1⟩) (fun hHeld => ?_)
        clear hK K
        try simp only [Act.put, List.setIfInBounds_toArray, List.set_cons_zero, List.set_cons_succ]
        refine wpAnyH_ready (rs := [5]) (by kernel_rfl) (by simp) ?_
        refine AllReadyH.cons (by simp only [List.getElem?_toArray, List.getElem?_cons_succ, List.getElem?_cons_zero]; rfl) (fun K hK => ?_) ?_
        · rw [if_pos (by rfl)]
          refine wp_appendN (.tmp 31) (.tmp 33) _ Tryd.undN rfl w2.heap.size _ [] rfl R.out _ l_a rfl (H_a.out.below HB.out) (by simp; omega) HB.out.size ?_
          intro v34 F3 R2 hg hb
          rw [List.nil_append] at R2
          replace HB := Lib.hid (below_base HB.out hb)
          replace X := Lib.hid (X.out.grown R.out hg.out)
          replace R := R2
          clear hg hb
          refine hK.out _ _ (by exact ⟨(B_a.out.below HB.out).cell0, (B_a.out.below HB.out).cell1⟩) (fun hHeld => ?_)
          clear hK K
          try simp only [Act.put, List.setIfInBounds_toArray, List.set_cons_zero, List.set_cons_succ]
          refine wpAnyH_ready (rs := [8]) (by kernel_rfl) (by simp) ?_
          refine AllReadyH.cons (by simp only [List.getElem?_toArray, List.getElem?_cons_succ, List.getElem?_cons_zero]; rfl) (fun K hK => ?_) ?_
          · rw [if_pos (by rfl)]
            refine wp_append0 (.tmp 34) (.tmp 36) _ _ Tryd.undN (by kernel_rfl) rfl w2.heap.size _ l_a rfl R.out zn rfl (by omega) (by omega) HB.out.size ?_
            intro v37 F4 R2 hg hb
            replace HB := Lib.hid (below_base HB.out hb)
            replace X := Lib.hid (X.out.grown R.out hg.out)
            replace R := R2
            clear hg hb
            refine hK.out _ _ (by exact ⟨(B_a.out.below HB.out).cell0, (B_a.out.below HB.out).cell1⟩) (fun hHeld => ?_)
            clear hK K
            try simp only [Act.put, List.setIfInBounds_toArray, List.set_cons_zero, List.set_cons_succ]
            obtain ⟨A9, n9, c9, rfl⟩ := R.out.natAt_form
            refine wpAnyH_take2 9 (v := ?_) (fun _ _ _ _ _ h => h) (by simp only [List.getElem?_toArray, List.getElem?_cons_succ, List.getElem?_cons_zero]; rfl) (by kernel_rfl) (by kernel_rfl) (by kernel_rfl) (by rfl) ?_ hHeld ?_
            rotate_left
            · (intro w hSw; (try dsimp only at hSw); go_simp; (try with_reducible rfl))
            try simp only [Act.put, List.setIfInBounds_toArray, List.set_cons_zero, List.set_cons_succ]
            exact wpAnyH_at #[true, true, true, true, true, true, true, true, true, true, true, false] (by kernel_rfl) (KEY.out _ _ _ _ _ _ ⟨_, _, _, gq, rfl, rfl, rfl, R.out.natAt (lim_zeros H_a.out.lim zn), X.out, qq, HB.out⟩)
          exact AllReadyH.nil
        exact AllReadyH.nil
      exact AllReadyH.nil
    refine AllReadyH.cons (by simp only [List.getElem?_toArray, List.getElem?_cons_succ, List.getElem?_cons_zero]; rfl) (fun K hK => ?_) ?_
    · go_simp
      obtain ⟨F1, gq, hV, hg, X, hb⟩ := newBox F0 (.bool false) (.slice none 0 0)
      rw [hV, hg]
      clear hV
      have qq : w2.heap.size ≤ gq := hg ▸ HB.out.size
      replace HB := Lib.hid (below_next HB.out hb)
      clear hb hg
      refine hK.out _ _ (by exact ⟨(B_a.out.below HB.out).cell0, (B_a.out.below HB.out).cell1⟩) (fun hHeld => ?_)
      clear hK K
      try simp only [Act.put, List.setIfInBounds_toArray, List.set_cons_zero, List.set_cons_succ]
      refine wpAnyH_ready (rs := [2]) (by kernel_rfl) (by simp) ?_
      refine AllReadyH.cons (by simp only [List.getElem?_toArray, List.getElem?_cons_succ, List.getElem?_cons_zero]; rfl) (fun K hK => ?_) ?_
      · go_simp
        obtain ⟨F2, v31, hV, hv, R, hb⟩ := newRow0 F1 HB.out.size
        rw [hV, hv]
        clear hV hv
        replace HB := Lib.hid (below_next HB.out hb)
        replace X := Lib.hid (X.out.below hb)
        clear hb
        refine hK.out _ _ (by exact ⟨(B_a.out.below HB.out).cell0, (B_a.out.below HB.out).cell1⟩) (fun hHeld => ?_)
        clear hK K
        try simp only [Act.put, List.setIfInBounds_toArray, List.set_cons_zero, List.set_cons_succ]
        refine wpAnyH_ready (rs := [5]) (by kernel_rfl) (by simp) ?_
        refine AllReadyH.cons (by simp only [List.getElem?_toArray, List.getElem?_cons_succ, List.getElem?_cons_zero]; rfl) (fun K hK => ?_) ?_
        · rw [if_pos (by rfl)]
          refine wp_appendN (.tmp 31) (.tmp 33) _ Tryd.undN rfl w2.heap.size _ [] rfl R.out _ l_a rfl (H_a.out.below HB.out) (by simp; omega) HB.out.size ?_
          intro v34 F3 R2 hg hb
          rw [List.nil_append] at R2
          replace HB := Lib.hid (below_base HB.out hb)
          replace X := Lib.hid (X.out.grown R.out hg.out)
          replace R := R2
          clear hg hb
          refine hK.out _ _ (by exact ⟨(B_a.out.below HB.out).cell0, (B_a.out.below HB.out).cell1⟩) (fun hHeld => ?_)
          clear hK K
          try simp only [Act.put, List.setIfInBounds_toArray, List.set_cons_zero, List.set_cons_succ]
          refine wpAnyH_ready (rs := [8]) (by kernel_rfl) (by simp) ?_
          refine AllReadyH.cons (by simp only [List.getElem?_toArray, List.getElem?_cons_succ, List.getElem?_cons_zero]; rfl) (fun K hK => ?_) ?_
          · rw [if_pos (by rfl)]
            refine wp_append0 (.tmp 34) (.tmp 36) _ _ Tryd.undN (by kernel_rfl) rfl w2.heap.size _ l_a rfl R.out zn rfl (by omega) (by omega) HB.out.size ?_
            intro v37 F4 R2 hg hb
            replace HB := Lib.hid (below_base HB.out hb)
            replace X := Lib.hid (X.out.grown R.out hg.out)
            replace R := R2
            clear hg hb
            refine hK.out _ _ (by exact ⟨(B_a.out.below HB.out).cell0, (B_a.out.below HB.out).cell1⟩) (fun hHeld => ?_)
            clear hK K
            try simp only [Act.put, List.setIfInBounds_toArray, List.set_cons_zero, List.set_cons_succ]
            obtain ⟨A9, n9, c9, rfl⟩ := R.out.natAt_form
            refine wpAnyH_take2 9 (v := ?_) (fun _ _ _ _ _ h => h) (by simp only [List.getElem?_toArray, List.getElem?_cons_succ, List.getElem?_cons_zero]; rfl) (by kernel_rfl) (by kernel_rfl) (by kernel_rfl) (by rfl) ?_ hHeld ?_
            rotate_left
            · (intro w hSw; (try dsimp only at hSw); go_simp; (try with_reducible rfl))
            try simp only [Act.put, List.setIfInBounds_toArray, List.set_cons_zero, List.set_cons_succ]
            exact wpAnyH_at #[true, true, true, true, true, true, true, true, true, true, true, false] (by kernel_rfl) (KEY.out _ _ _ _ _ _ ⟨_, _, _, gq, rfl, rfl, rfl, R.out.natAt (lim_zeros H_a.out.lim zn), X.out, qq, HB.out⟩)
          exact AllReadyH.nil
        exact AllReadyH.nil
      exact AllReadyH.nil
    exact AllReadyH.nil
  · rintro _ _ _ _ _ F9 ⟨A_x, n_x, c_x, gq, rfl, rfl, rfl, hn, hx, qq, hbv⟩
    have H_x := Lib.hid hn
    have X := Lib.hid hx
    have HB := Lib.hid hbv
    clear hn hx hbv hHeld
    try simp only [Act.put, List.setIfInBounds_toArray, List.set_cons_zero, List.set_cons_succ]
    have xcell0 := X.out.cell0
    have xcell1 := X.out.cell1
    have xfro0 := X.out.fro 0
    have xfro1 := X.out.fro 1
    refine wpAnyH_ready (rs := [11]) (by kernel_rfl) (by simp) ?_
    refine AllReadyH.cons (by simp only [List.getElem?_toArray, List.getElem?_cons_succ, List.getElem?_cons_zero]; rfl) (fun K hK => ?_) AllReadyH.nil
    go_simp
    clear xcell0 xcell1 xfro0 xfro1
    obtain ⟨U9, hU, D9, sn, sw⟩ := storeBoxN X.out (.bool b_a) (.slice A_x n_x c_x)
    rw [hU]
    clear hU X
    replace HB := Lib.hid (sw.out _ HB.out qq)
    replace H_x := Lib.hid (sn.out _ _ H_x.out)
    clear sn sw
    refine hK.out _ _ (by exact ⟨(B_a.out.below HB.out).cell0, (B_a.out.below HB.out).cell1⟩) (fun hHeld => ?_)
    clear hK K hHeld
    refine wpAnyH_done (by kernel_rfl) (NoPanic.normal ?_) _
    replace HT := Lib.hid (HT.out.below HB.out)
    replace H_a := Lib.hid (H_a.out.below HB.out)
    replace H_b := Lib.hid (H_b.out.below HB.out)
    replace B_a := Lib.hid (B_a.out.below HB.out)
    replace B_b := Lib.hid (B_b.out.below HB.out)
    replace hB := below_next hB HB.out
    have qw : w.heap.size ≤ gq := Nat.le_trans hB0.size qq
    have nea : gq ≠ w.heap.size := by have := B0_a.out.lt; omega
    have neb : gq ≠ w.heap.size + 1 := by have := B0_b.out.lt; omega
    clear HB
    have B_x := D9
    clear D9
    clear B0_a B0_b hB0
    have c_a0 := B_a.out.cell0
    have c_a1 := B_a.out.cell1
    have c_b0 := B_b.out.cell0
    have c_b1 := B_b.out.cell1
    have c_x0 := B_x.out.cell0
    have c_x1 := B_x.out.cell1
    go_wp2
    clear c_a0 c_a1 c_b0 c_b1 c_x0 c_x1
    refine wp_region_noPanic ?_
    refine wp_region_held_drew (S := (fun w' => w'.cell? ⟨w.heap.size, 0, none⟩ = some (.bool b_a) ∧ w'.cell? ⟨w.heap.size, 1, none⟩ = some m_a ∧ w'.cell? ⟨w.heap.size + 1, 0, none⟩ = some (.bool b_b) ∧ w'.cell? ⟨w.heap.size + 1, 1, none⟩ = some m_b ∧ w'.cell? ⟨gq, 0, none⟩ = some (.bool b_a) ∧ w'.cell? ⟨gq, 1, none⟩ = some (.slice A_x n_x c_x))) (by kernel_rfl) (by exact ⟨B_a.out.cell0, B_a.out.cell1, B_b.out.cell0, B_b.out.cell1, B_x.out.cell0, B_x.out.cell1⟩) (fun hHeld => ?_)
    have hb := belowDrew U9
    generalize U9.drew = V_2 at hb hHeld ⊢
    replace HT := Lib.hid (HT.out.below hb)
    replace H_a := Lib.hid (H_a.out.below hb)
    replace H_b := Lib.hid (H_b.out.below hb)
    replace H_x := Lib.hid (H_x.out.below hb)
    replace B_a := Lib.hid (B_a.out.below hb)
    replace B_b := Lib.hid (B_b.out.below hb)
    replace B_x := Lib.hid (B_x.out.below hb)
    replace hB := below_next hB hb
    clear hb
    refine wpAnyH_take2 0 (v := ?_) (fun _ _ _ _ _ h => h) (by simp only [List.getElem?_toArray, List.getElem?_cons_zero]; rfl) (by kernel_rfl) (by kernel_rfl) (by kernel_rfl) (by rfl) ?_ hHeld ?_
    rotate_left
    · (intro w hSw; (try dsimp only at hSw); go_simp; (try with_reducible rfl))
    try simp only [Act.put, List.setIfInBounds_toArray, List.set_cons_zero, List.set_cons_succ]
    refine wpAnyH_ready (rs := [1]) (by kernel_rfl) (by simp) ?_
    refine AllReadyH.cons (by simp only [List.getElem?_toArray, List.getElem?_cons_succ, List.getElem?_cons_zero]; rfl) (fun K hK => ?_) AllReadyH.nil
    go_simp
    refine (iof_any 0 _ (by omega) (by omega)).mono ?_
    rintro e w3 ⟨b_o, A_o, n_o, c_o, rfl, h_o, hb⟩
    replace HT := Lib.hid (HT.out.below hb)
    replace H_a := Lib.hid (H_a.out.below hb)
    replace H_b := Lib.hid (H_b.out.below hb)
    replace H_x := Lib.hid (H_x.out.below hb)
    replace B_a := Lib.hid (B_a.out.below hb)
    replace B_b := Lib.hid (B_b.out.below hb)
    replace B_x := Lib.hid (B_x.out.below hb)
    replace hB := below_next hB hb
    clear hb hHeld
    have Z_o := Lib.hid h_o
    clear h_o
    go_wp2_with fail
    refine hK.out _ _ (by exact ⟨B_a.out.cell0, B_a.out.cell1, B_b.out.cell0, B_b.out.cell1, B_x.out.cell0, B_x.out.cell1⟩) (fun hHeld => ?_)
    clear hK K
    try simp only [Act.put, List.setIfInBounds_toArray, List.set_cons_zero, List.set_cons_succ]
    refine wpAnyH_ready (rs := [2]) (by kernel_rfl) (by simp) ?_
    refine AllReadyH.cons (by simp only [List.getElem?_toArray, List.getElem?_cons_succ, List.getElem?_cons_zero]; rfl) (fun K hK => ?_) AllReadyH.nil
    go_simp
    refine (icmp_is (k1 := 30) (k2 := 2) (v := 0) (by exact ⟨l_a, H_a.out, s_a, rfl⟩) (by exact Z_o.out.two (by omega) (by omega)) (by omega) (by omega) (by have := HA.out; exact zord_eq (by omega))).mono ?_
    rintro e w4 ⟨rfl, hb⟩
    replace HT := Lib.hid (HT.out.below hb)
    replace H_a := Lib.hid (H_a.out.below hb)
    replace H_b := Lib.hid (H_b.out.below hb)
    replace H_x := Lib.hid (H_x.out.below hb)
    replace Z_o := Lib.hid (Z_o.out.below hb)
    replace B_a := Lib.hid (B_a.out.below hb)
    replace B_b := Lib.hid (B_b.out.below hb)
    replace B_x := Lib.hid (B_x.out.below hb)
    replace hB := below_next hB hb
    clear hb hHeld
    clear Z_o
    go_wp2_with fail
    refine hK.out _ _ (by exact ⟨B_a.out.cell0, B_a.out.cell1, B_b.out.cell0, B_b.out.cell1, B_x.out.cell0, B_x.out.cell1⟩) (fun hHeld => ?_)
    clear hK K
    try simp only [Act.put, List.setIfInBounds_toArray, List.set_cons_zero, List.set_cons_succ]
    refine wpAnyH_take2 3 (v := ?_) (fun _ _ _ _ _ h => h) (by simp only [List.getElem?_toArray, List.getElem?_cons_succ, List.getElem?_cons_zero]; rfl) (by kernel_rfl) (by kernel_rfl) (by kernel_rfl) (by rfl) ?_ hHeld ?_
    rotate_left
    · (intro w hSw; (try dsimp only at hSw); go_simp; (try with_reducible rfl))
    try simp only [Act.put, List.setIfInBounds_toArray, List.set_cons_zero, List.set_cons_succ]
    refine wpAnyH_done (by kernel_rfl) (NoPanic.normal ?_) _
    clear hHeld
    have c_a0 := B_a.out.cell0
    have c_a1 := B_a.out.cell1
    have c_b0 := B_b.out.cell0
    have c_b1 := B_b.out.cell1
    have c_x0 := B_x.out.cell0
    have c_x1 := B_x.out.cell1
    have fx0 := B_x.out.fro 0
    go_upto_region 6 with fail
    clear fx0
    clear c_a0 c_a1 c_b0 c_b1 c_x0 c_x1
    obtain ⟨V8, hV, NX, sn, sb, sw⟩ := setNeg B_x.out (.bool !b_a)
    rw [hV]
    clear hV
    replace hB := sw.out _ hB qw
    replace HT := Lib.hid (HT0.out.below hB)
    replace H_a := Lib.hid (sn.out _ _ H_a.out)
    replace H_b := Lib.hid (sn.out _ _ H_b.out)
    replace H_x := Lib.hid (sn.out _ _ H_x.out)
    replace B_a := Lib.hid (sb.out _ _ _ B_a.out nea.symm)
    replace B_b := Lib.hid (sb.out _ _ _ B_b.out neb.symm)
    have B_x := NX
    clear sn sb sw NX
    have ex : zval b_a l_a = zval (!b_a) (l_a ++ List.replicate zn 0) := zval_flip HA.out zn
    have EX := Lib.hid ex
    clear ex
    have sx : (l_a ++ List.replicate zn 0).length ≤ 35 := by simp; omega
    have c_a0 := B_a.out.cell0
    have c_a1 := B_a.out.cell1
    have c_b0 := B_b.out.cell0
    have c_b1 := B_b.out.cell1
    have c_x0 := B_x.out.cell0
    have c_x1 := B_x.out.cell1
    go_wp2_with fail
    clear c_a0 c_a1 c_b0 c_b1 c_x0 c_x1
    refine (idivmod_any _ _ _ _ _ _ 30 30 _ (by exact ⟨l_a, H_a.out, s_a, rfl⟩) (by exact ⟨l_b, H_b.out, s_b, rfl⟩) (by omega) (by omega) HZ.out).mono ?_
    rintro e w5 ⟨b_q, A_q, n_q, c_q, b_r, A_r, n_r, c_r, rfl, h_q, h_r, hb⟩
    replace HT := Lib.hid (HT.out.below hb)
    replace H_a := Lib.hid (H_a.out.below hb)
    replace H_b := Lib.hid (H_b.out.below hb)
    replace H_x := Lib.hid (H_x.out.below hb)
    replace B_a := Lib.hid (B_a.out.below hb)
    replace B_b := Lib.hid (B_b.out.below hb)
    replace B_x := Lib.hid (B_x.out.below hb)
    replace hB := below_next hB hb
    clear hb
    have Z_q := Lib.hid h_q
    clear h_q
    have Z_r := Lib.hid h_r
    clear h_r
    have c_a0 := B_a.out.cell0
    have c_a1 := B_a.out.cell1
    have c_b0 := B_b.out.cell0
    have c_b1 := B_b.out.cell1
    have c_x0 := B_x.out.cell0
    have c_x1 := B_x.out.cell1
    go_upto_region 7 with fail
    clear c_a0 c_a1 c_b0 c_b1 c_x0 c_x1
    obtain ⟨W3, hW, NB, NC, HW, _⟩ := boxes2 w5 (.bool b_q) (.slice A_q n_q c_q) (.bool b_r) (.slice A_r n_r c_r)
    rw [hW]
    clear hW
    replace HT := Lib.hid (HT.out.below HW.out)
    replace H_a := Lib.hid (H_a.out.below HW.out)
    replace H_b := Lib.hid (H_b.out.below HW.out)
    replace H_x := Lib.hid (H_x.out.below HW.out)
    replace Z_q := Lib.hid (Z_q.out.below HW.out)
    replace Z_r := Lib.hid (Z_r.out.below HW.out)
    replace B_a := Lib.hid (B_a.out.below HW.out)
    replace B_b := Lib.hid (B_b.out.below HW.out)
    replace B_x := Lib.hid (B_x.out.below HW.out)
    replace hB := below_next hB HW.out
    have B_q := NB
    have B_r := NC
    clear NB NC HW
    have c_a0 := B_a.out.cell0
    have c_a1 := B_a.out.cell1
    have c_b0 := B_b.out.cell0
    have c_b1 := B_b.out.cell1
    have c_x0 := B_x.out.cell0
    have c_x1 := B_x.out.cell1
    have c_q0 := B_q.out.cell0
    have c_q1 := B_q.out.cell1
    have c_r0 := B_r.out.cell0
    have c_r1 := B_r.out.cell1
    go_wp2_with fail
    clear c_a0 c_a1 c_b0 c_b1 c_x0 c_x1 c_q0 c_q1 c_r0 c_r1
    refine (idivmod_any _ _ _ _ _ _ 35 30 _ (by exact ⟨_, H_x.out, sx, EX.out⟩) (by exact ⟨l_b, H_b.out, s_b, rfl⟩) (by omega) (by omega) HZ.out).mono ?_
    rintro e w6 ⟨b_s, A_s, n_s, c_s, b_t, A_t, n_t, c_t, rfl, h_s, h_t, hb⟩
    replace HT := Lib.hid (HT.out.below hb)
    replace H_a := Lib.hid (H_a.out.below hb)
    replace H_b := Lib.hid (H_b.out.below hb)
    replace H_x := Lib.hid (H_x.out.below hb)
    replace Z_q := Lib.hid (Z_q.out.below hb)
    replace Z_r := Lib.hid (Z_r.out.below hb)
    replace B_a := Lib.hid (B_a.out.below hb)
    replace B_b := Lib.hid (B_b.out.below hb)
    replace B_x := Lib.hid (B_x.out.below hb)
    replace B_q := Lib.hid (B_q.out.below hb)
    replace B_r := Lib.hid (B_r.out.below hb)
    replace hB := below_next hB hb
    clear hb
    have Z_s := Lib.hid h_s
    clear h_s
    have Z_t := Lib.hid h_t
    clear h_t
    have c_a0 := B_a.out.cell0
    have c_a1 := B_a.out.cell1
    have c_b0 := B_b.out.cell0
    have c_b1 := B_b.out.cell1
    have c_x0 := B_x.out.cell0
    have c_x1 := B_x.out.cell1
    have c_q0 := B_q.out.cell0
    have c_q1 := B_q.out.cell1
    have c_r0 := B_r.out.cell0
    have c_r1 := B_r.out.cell1
    go_upto_region 8 with fail
    clear c_a0 c_a1 c_b0 c_b1 c_x0 c_x1 c_q0 c_q1 c_r0 c_r1
    obtain ⟨W4, hW, NB, NC, HW, _⟩ := boxes2 w6 (.bool b_s) (.slice A_s n_s c_s) (.bool b_t) (.slice A_t n_t c_t)
    rw [hW]
    clear hW
    replace HT := Lib.hid (HT.out.below HW.out)
    replace H_a := Lib.hid (H_a.out.below HW.out)
    replace H_b := Lib.hid (H_b.out.below HW.out)
    replace H_x := Lib.hid (H_x.out.below HW.out)
    replace Z_q := Lib.hid (Z_q.out.below HW.out)
    replace Z_r := Lib.hid (Z_r.out.below HW.out)
    replace Z_s := Lib.hid (Z_s.out.below HW.out)
    replace Z_t := Lib.hid (Z_t.out.below HW.out)
    replace B_a := Lib.hid (B_a.out.below HW.out)
    replace B_b := Lib.hid (B_b.out.below HW.out)
    replace B_x := Lib.hid (B_x.out.below HW.out)
    replace B_q := Lib.hid (B_q.out.below HW.out)
    replace B_r := Lib.hid (B_r.out.below HW.out)
    replace hB := below_next hB HW.out
    have B_s := NB
    have B_t := NC
    clear NB NC HW
    have s_B_a0 := B_a.out.cell0
    have s_B_a1 := B_a.out.cell1
    have s_B_b0 := B_b.out.cell0
    have s_B_b1 := B_b.out.cell1
    refine wp_region_noPanic ?_
    refine wp_region_held_drew (S := fun w' => w'.cell? ⟨w.heap.size, 0, none⟩ = some (.bool b_a) ∧ w'.cell? ⟨w.heap.size, 1, none⟩ = some m_a ∧ w'.cell? ⟨w.heap.size + 1, 0, none⟩ = some (.bool b_b) ∧ w'.cell? ⟨w.heap.size + 1, 1, none⟩ = some m_b) (by kernel_rfl) (by exact ⟨s_B_a0, s_B_a1, s_B_b0, s_B_b1⟩) (fun hHeld => ?_)
    clear s_B_a0 s_B_a1 s_B_b0 s_B_b1
    have HB := Lib.hid (belowDrew W4)
    generalize W4.drew = V0 at HB hHeld ⊢
    refine wpAnyH_take2 0 (v := ?_) (fun _ _ _ _ _ h => h) (by simp only [List.getElem?_toArray, List.getElem?_cons_zero]; rfl) (by kernel_rfl) (by kernel_rfl) (by kernel_rfl) (by rfl) ?_ hHeld ?_
    rotate_left
    · (intro w hSw; (try dsimp only at hSw); go_simp; (try with_reducible rfl))
    simp only [Act.put, List.setIfInBounds_toArray, List.set_cons_zero, List.set_cons_succ]
    refine wpAnyH_take2 1 (v := ?_) (fun _ _ _ _ _ h => h) (by simp only [List.getElem?_toArray, List.getElem?_cons_succ, List.getElem?_cons_zero]; rfl) (by kernel_rfl) (by kernel_rfl) (by kernel_rfl) (by rfl) ?_ hHeld ?_
    rotate_left
    · (intro w hSw; (try dsimp only at hSw); go_simp; (try with_reducible rfl))
    simp only [Act.put, List.setIfInBounds_toArray, List.set_cons_zero, List.set_cons_succ]
    refine wpAnyH_take2 3 (v := ?_) (fun _ _ _ _ _ h => h) (by simp only [List.getElem?_toArray, List.getElem?_cons_succ, List.getElem?_cons_zero]; rfl) (by kernel_rfl) (by kernel_rfl) (by kernel_rfl) (by rfl) ?_ hHeld ?_
    rotate_left
    · (intro w hSw; (try dsimp only at hSw); go_simp; (try with_reducible rfl))
    simp only [Act.put, List.setIfInBounds_toArray, List.set_cons_zero, List.set_cons_succ]
    refine wpAnyH_take2 4 (v := ?_) (fun _ _ _ _ _ h => h) (by simp only [List.getElem?_toArray, List.getElem?_cons_succ, List.getElem?_cons_zero]; rfl) (by kernel_rfl) (by kernel_rfl) (by kernel_rfl) (by rfl) ?_ hHeld ?_
    rotate_left
    · (intro w hSw; (try dsimp only at hSw); go_simp; (try with_reducible rfl))
    simp only [Act.put, List.setIfInBounds_toArray, List.set_cons_zero, List.set_cons_succ]
    refine wpAnyH_key4 2 #[true, true, true, true, true, true, true, true, false, false] 63 66 14 15 (TwoJ W4 (zval b_a l_a + zval b_b l_b) (zval b_a l_a * zval b_b l_b)) ?_ (fun key => ?_)
    rotate_left
    · simp only [Act.put, List.setIfInBounds_toArray, List.set_cons_zero, List.set_cons_succ] at key
      have KEY := Lib.hid key
      clear key
      refine wpAnyH_ready (rs := [2, 6, 7]) (by kernel_rfl) (by simp) ?_
      refine AllReadyH.cons (by simp only [List.getElem?_toArray, List.getElem?_cons_succ, List.getElem?_cons_zero]; rfl) (fun K hK => ?_) ?_
      · go_simp
        refine (iadd_any _ _ _ _ _ _ 30 30 _ (by exact ⟨l_a, H_a.out.below HB.out, s_a, rfl⟩) (by exact ⟨l_b, H_b.out.below HB.out, s_b, rfl⟩) (by omega) (by omega)).mono ?_
        rintro e V1 ⟨bq0, Aq0, nq0, kq0, rfl, h, hb⟩
        have hb0 := HB
        replace HB := Lib.hid (below_next HB.out hb)
        have Zq0 := Lib.hid h
        clear h hb hb0
        go_wp2_with fail
        refine hK.out _ _ (by exact ⟨(B_a.out.below HB.out).cell0, (B_a.out.below HB.out).cell1, (B_b.out.below HB.out).cell0, (B_b.out.below HB.out).cell1⟩) (fun hHeld => ?_)
        clear hK K hHeld
        try simp only [Act.put, List.setIfInBounds_toArray, List.set_cons_zero, List.set_cons_succ]
        refine wpAnyH_ready (rs := [5, 6, 7]) (by kernel_rfl) (by simp) ?_
        refine AllReadyH.cons (by simp only [List.getElem?_toArray, List.getElem?_cons_succ, List.getElem?_cons_zero]; rfl) (fun K hK => ?_) ?_
        · go_simp
          refine (imul_any _ _ _ _ _ _ 30 30 _ (by exact ⟨l_a, H_a.out.below HB.out, s_a, rfl⟩) (by exact ⟨l_b, H_b.out.below HB.out, s_b, rfl⟩) (by omega) (by omega)).mono ?_
          rintro e V2 ⟨bq1, Aq1, nq1, kq1, rfl, h, hb⟩
          have hb0 := HB
          replace HB := Lib.hid (below_next HB.out hb)
          replace Zq0 := Lib.hid (Zq0.out.below hb)
          have Zq1 := Lib.hid h
          clear h hb hb0
          go_wp2_with fail
          refine hK.out _ _ (by exact ⟨(B_a.out.below HB.out).cell0, (B_a.out.below HB.out).cell1, (B_b.out.below HB.out).cell0, (B_b.out.below HB.out).cell1⟩) (fun hHeld => ?_)
          clear hK K hHeld
          try simp only [Act.put, List.setIfInBounds_toArray, List.set_cons_zero, List.set_cons_succ]
          refine wpAnyH_ready (rs := [6, 7]) (by kernel_rfl) (by simp) ?_
          refine AllReadyH.cons (by simp only [List.getElem?_toArray, List.getElem?_cons_succ, List.getElem?_cons_zero]; rfl) (fun K hK => ?_) ?_
          · go_simp
            obtain ⟨V3, gq0, hV, hg, Xq0, hb⟩ := newBox V2 (.bool false) (.slice none 0 0)
            rw [hV, hg]
            clear hV
            have qq0 : W4.heap.size ≤ gq0 := hg ▸ HB.out.size
            have hb0 := HB
            replace HB := Lib.hid (below_next HB.out hb)
            replace Zq0 := Lib.hid (Zq0.out.below hb)
            replace Zq1 := Lib.hid (Zq1.out.below hb)
            clear hb hb0 hg
            refine hK.out _ _ (by exact ⟨(B_a.out.below HB.out).cell0, (B_a.out.below HB.out).cell1, (B_b.out.below HB.out).cell0, (B_b.out.below HB.out).cell1⟩) (fun hHeld => ?_)
            clear hK K hHeld
            try simp only [Act.put, List.setIfInBounds_toArray, List.set_cons_zero, List.set_cons_succ]
            refine wpAnyH_ready (rs := [7]) (by kernel_rfl) (by simp) ?_
            refine AllReadyH.cons (by simp only [List.getElem?_toArray, List.getElem?_cons_succ, List.getElem?_cons_zero]; rfl) (fun K hK => ?_) ?_
            · go_simp
              obtain ⟨V4, gq1, hV, hg, Xq1, hb⟩ := newBox V3 (.bool false) (.slice none 0 0)
              rw [hV, hg]
              clear hV
              have ne : gq0 ≠ gq1 := by have := Xq0.out.lt; omega
              have qq1 : W4.heap.size ≤ gq1 := hg ▸ HB.out.size
              have hb0 := HB
              replace HB := Lib.hid (below_next HB.out hb)
              replace Zq0 := Lib.hid (Zq0.out.below hb)
              replace Xq0 := Lib.hid (Xq0.out.below hb)
              replace Zq1 := Lib.hid (Zq1.out.below hb)
              clear hb hb0 hg
              refine hK.out _ _ (by exact ⟨(B_a.out.below HB.out).cell0, (B_a.out.below HB.out).cell1, (B_b.out.below HB.out).cell0, (B_b.out.below HB.out).cell1⟩) (fun hHeld => ?_)
              clear hK K hHeld
              try simp only [Act.put, List.setIfInBounds_toArray, List.set_cons_zero, List.set_cons_succ]
              exact wpAnyH_at #[true, true, true, true, true, true, true, true, false, false] (by kernel_rfl) (KEY.out _ _ _ _ _ ⟨bq0, Aq0, nq0, kq0, bq1, Aq1, nq1, kq1, gq0, gq1, rfl, rfl, rfl, rfl, Zq0.out, Zq1.out, Xq0.out, Xq1.out, ne, qq0, qq1, HB.out⟩)
            exact AllReadyH.nil
          refine AllReadyH.cons (by simp only [List.getElem?_toArray, List.getElem?_cons_succ, List.getElem?_cons_zero]; rfl) (fun K hK => ?_) ?_
          · go_simp
            obtain ⟨V3, gq1, hV, hg, Xq1, hb⟩ := newBox V2 (.bool false) (.slice none 0 0)
            rw [hV, hg]
            clear hV
            have qq1 : W4.heap.size ≤ gq1 := hg ▸ HB.out.size
            have hb0 := HB
            replace HB := Lib.hid (below_next HB.out hb)
            replace Zq0 := Lib.hid (Zq0.out.below hb)
            replace Zq1 := Lib.hid (Zq1.out.below hb)
            clear hb hb0 hg
            refine hK.out _ _ (by exact ⟨(B_a.out.below HB.out).cell0, (B_a.out.below HB.out).cell1, (B_b.out.below HB.out).cell0, (B_b.out.below HB.out).cell1⟩) (fun hHeld => ?_)
            clear hK K hHeld
            try simp only [Act.put, List.setIfInBounds_toArray, List.set_cons_zero, List.set_cons_succ]
            refine wpAnyH_ready (rs := [6]) (by kernel_rfl) (by simp) ?_
            refine AllReadyH.cons (by simp only [List.getElem?_toArray, List.getElem?_cons_succ, List.getElem?_cons_zero]; rfl) (fun K hK => ?_) ?_
            · go_simp
              obtain ⟨V4, gq0, hV, hg, Xq0, hb⟩ := newBox V3 (.bool false) (.slice none 0 0)
              rw [hV, hg]
              clear hV
              have ne : gq0 ≠ gq1 := by have := Xq1.out.lt; omega
              have qq0 : W4.heap.size ≤ gq0 := hg ▸ HB.out.size
              have hb0 := HB
              replace HB := Lib.hid (below_next HB.out hb)
              replace Zq0 := Lib.hid (Zq0.out.below hb)
              replace Zq1 := Lib.hid (Zq1.out.below hb)
              replace Xq1 := Lib.hid (Xq1.out.below hb)
              clear hb hb0 hg
              refine hK.out _ _ (by exact ⟨(B_a.out.below HB.out).cell0, (B_a.out.below HB.out).cell1, (B_b.out.below HB.out).cell0, (B_b.out.below HB.out).cell1⟩) (fun hHeld => ?_)
              clear hK K hHeld
              try simp only [Act.put, List.setIfInBounds_toArray, List.set_cons_zero, List.set_cons_succ]
              exact wpAnyH_at #[true, true, true, true, true, true, true, true, false, false] (by kernel_rfl) (KEY.out _ _ _ _ _ ⟨bq0, Aq0, nq0, kq0, bq1, Aq1, nq1, kq1, gq0, gq1, rfl, rfl, rfl, rfl, Zq0.out, Zq1.out, Xq0.out, Xq1.out, ne, qq0, qq1, HB.out⟩)
            exact AllReadyH.nil
          exact AllReadyH.nil
        refine AllReadyH.cons (by simp only [List.getElem?_toArray, List.getElem?_cons_succ, List.getElem?_cons_zero]; rfl) (fun K hK => ?_) ?_
        · go_simp
          obtain ⟨V2, gq0, hV, hg, Xq0, hb⟩ := newBox V1 (.bool false) (.slice none 0 0)
          rw [hV, hg]
          clear hV
          have qq0 : W4.heap.size ≤ gq0 := hg ▸ HB.out.size
          have hb0 := HB
          replace HB := Lib.hid (below_next HB.out hb)
          replace Zq0 := Lib.hid (Zq0.out.below hb)
          clear hb hb0 hg
          refine hK.out _ _ (by exact ⟨(B_a.out.below HB.out).cell0, (B_a.out.below HB.out).cell1, (B_b.out.below HB.out).cell0, (B_b.out.below HB.out).cell1⟩) (fun hHeld => ?_)
          clear hK K hHeld
          try simp only [Act.put, List.setIfInBounds_toArray, List.set_cons_zero, List.set_cons_succ]
          refine wpAnyH_ready (rs := [5, 7]) (by kernel_rfl) (by simp) ?_
          refine AllReadyH.cons (by simp only [List.getElem?_toArray, List.getElem?_cons_succ, List.getElem?_cons_zero]; rfl) (fun K hK => ?_) ?_
          · go_simp
            refine (imul_any _ _ _ _ _ _ 30 30 _ (by exact ⟨l_a, H_a.out.below HB.out, s_a, rfl⟩) (by exact ⟨l_b, H_b.out.below HB.out, s_b, rfl⟩) (by omega) (by omega)).mono ?_
            rintro e V3 ⟨bq1, Aq1, nq1, kq1, rfl, h, hb⟩
            have hb0 := HB
            replace HB := Lib.hid (below_next HB.out hb)
            replace Zq0 := Lib.hid (Zq0.out.below hb)
            replace Xq0 := Lib.hid (Xq0.out.below hb)
            have Zq1 := Lib.hid h
            clear h hb hb0
            go_wp2_with fail
            refine hK.out _ _ (by exact ⟨(B_a.out.below HB.out).cell0, (B_a.out.below HB.out).cell1, (B_b.out.below HB.out).cell0, (B_b.out.below HB.out).cell1⟩) (fun hHeld => ?_)
            clear hK K hHeld
            try simp only [Act.put, List.setIfInBounds_toArray, List.set_cons_zero, List.set_cons_succ]
            refine wpAnyH_ready (rs := [7]) (by kernel_rfl) (by simp) ?_
            refine AllReadyH.cons (by simp only [List.getElem?_toArray, List.getElem?_cons_succ, List.getElem?_cons_zero]; rfl) (fun K hK => ?_) ?_
            · go_simp
              obtain ⟨V4, gq1, hV, hg, Xq1, hb⟩ := newBox V3 (.bool false) (.slice none 0 0)
              rw [hV, hg]
              clear hV
              have ne : gq0 ≠ gq1 := by have := Xq0.out.lt; omega
              have qq1 : W4.heap.size ≤ gq1 := hg ▸ HB.out.size
              have hb0 := HB
              replace HB := Lib.hid (below_next HB.out hb)
              replace Zq0 := Lib.hid (Zq0.out.below hb)
              replace Xq0 := Lib.hid (Xq0.out.below hb)
              replace Zq1 := Lib.hid (Zq1.out.below hb)
              clear hb hb0 hg
              refine hK.out _ _ (by exact ⟨(B_a.out.below HB.out).cell0, (B_a.out.below HB.out).cell1, (B_b.out.below HB.out).cell0, (B_b.out.below HB.out).cell1⟩) (fun hHeld => ?_)
              clear hK K hHeld
              try simp only [Act.put, List.setIfInBounds_toArray, List.set_cons_zero, List.set_cons_succ]
              exact wpAnyH_at #[true, true, true, true, true, true, true, true, false, false] (by kernel_rfl) (KEY.out _ _ _ _ _ ⟨bq0, Aq0, nq0, kq0, bq1, Aq1, nq1, kq1, gq0, gq1, rfl, rfl, rfl, rfl, Zq0.out, Zq1.out, Xq0.out, Xq1.out, ne, qq0, qq1, HB.out⟩)
            exact AllReadyH.nil
          refine AllReadyH.cons (by simp only [List.getElem?_toArray, List.getElem?_cons_succ, List.getElem?_cons_zero]; rfl) (fun K hK => ?_) ?_
          · go_simp
            obtain ⟨V3, gq1, hV, hg, Xq1, hb⟩ := newBox V2 (.bool false) (.slice none 0 0)
            rw [hV, hg]
            clear hV
            have ne : gq0 ≠ gq1 := by have := Xq0.out.lt; omega
            have qq1 : W4.heap.size ≤ gq1 := hg ▸ HB.out.size
            have hb0 := HB
            replace HB := Lib.hid (below_next HB.out hb)
            replace Zq0 := Lib.hid (Zq0.out.below hb)
            replace Xq0 := Lib.hid (Xq0.out.below hb)
            clear hb hb0 hg
            refine hK.out _ _ (by exact ⟨(B_a.out.below HB.out).cell0, (B_a.out.below HB.out).cell1, (B_b.out.below HB.out).cell0, (B_b.out.below HB.out).cell1⟩) (fun hHeld => ?_)
            clear hK K hHeld
            try simp only [Act.put, List.setIfInBounds_toArray, List.set_cons_zero, List.set_cons_succ]
            refine wpAnyH_ready (rs := [5]) (by kernel_rfl) (by simp) ?_
            refine AllReadyH.cons (by simp only [List.getElem?_toArray, List.getElem?_cons_succ, List.getElem?_cons_zero]; rfl) (fun K hK => ?_) ?_
            · go_simp
              refine (imul_any _ _ _ _ _ _ 30 30 _ (by exact ⟨l_a, H_a.out.below HB.out, s_a, rfl⟩) (by exact ⟨l_b, H_b.out.below HB.out, s_b, rfl⟩) (by omega) (by omega)).mono ?_
              rintro e V4 ⟨bq1, Aq1, nq1, kq1, rfl, h, hb⟩
              have hb0 := HB
              replace HB := Lib.hid (below_next HB.out hb)
              replace Zq0 := Lib.hid (Zq0.out.below hb)
              replace Xq0 := Lib.hid (Xq0.out.below hb)
              replace Xq1 := Lib.hid (Xq1.out.below hb)
              have Zq1 := Lib.hid h
              clear h hb hb0
              go_wp2_with fail
              refine hK.out _ _ (by exact ⟨(B_a.out.below HB.out).cell0, (B_a.out.below HB.out).cell1, (B_b.out.below HB.out).cell0, (B_b.out.below HB.out).cell1⟩) (fun hHeld => ?_)
              clear hK K hHeld
              try simp only [Act.put, List.setIfInBounds_toArray, List.set_cons_zero, List.set_cons_succ]
              exact wpAnyH_at #[true, true, true, true, true, true, true, true, false, false] (by kernel_rfl) (KEY.out _ _ _ _ _ ⟨bq0, Aq0, nq0, kq0, bq1, Aq1, nq1, kq1, gq0, gq1, rfl, rfl, rfl, rfl, Zq0.out, Zq1.out, Xq0.out, Xq1.out, ne, qq0, qq1, HB.out⟩)
            exact AllReadyH.nil
          exact AllReadyH.nil
        refine AllReadyH.cons (by simp only [List.getElem?_toArray, List.getElem?_cons_succ, List.getElem?_cons_zero]; rfl) (fun K hK => ?_) ?_
        · go_simp
          obtain ⟨V2, gq1, hV, hg, Xq1, hb⟩ := newBox V1 (.bool false) (.slice none 0 0)
          rw [hV, hg]
          clear hV
          have qq1 : W4.heap.size ≤ gq1 := hg ▸ HB.out.size
          have hb0 := HB
          replace HB := Lib.hid (below_next HB.out hb)
          replace Zq0 := Lib.hid (Zq0.out.below hb)
          clear hb hb0 hg
          refine hK.out _ _ (by exact ⟨(B_a.out.below HB.out).cell0, (B_a.out.below HB.out).cell1, (B_b.out.below HB.out).cell0, (B_b.out.below HB.out).cell1⟩) (fun hHeld => ?_)
          clear hK K hHeld
          try simp only [Act.put, List.setIfInBounds_toArray, List.set_cons_zero, List.set_cons_succ]
          refine wpAnyH_ready (rs := [5, 6]) (by kernel_rfl) (by simp) ?_
          refine AllReadyH.cons (by simp only [List.getElem?_toArray, List.getElem?_cons_succ, List.getElem?_cons_zero]; rfl) (fun K hK => ?_) ?_
          · go_simp
            refine (imul_any _ _ _ _ _ _ 30 30 _ (by exact ⟨l_a, H_a.out.below HB.out, s_a, rfl⟩) (by exact ⟨l_b, H_b.out.below HB.out, s_b, rfl⟩) (by omega) (by omega)).mono ?_
            rintro e V3 ⟨bq1, Aq1, nq1, kq1, rfl, h, hb⟩
            have hb0 := HB
            replace HB := Lib.hid (below_next HB.out hb)
            replace Zq0 := Lib.hid (Zq0.out.below hb)
            replace Xq1 := Lib.hid (Xq1.out.below hb)
            have Zq1 := Lib.hid h
            clear h hb hb0
            go_wp2_with fail
            refine hK.out _ _ (by exact ⟨(B_a.out.below HB.out).cell0, (B_a.out.below HB.out).cell1, (B_b.out.below HB.out).cell0, (B_b.out.below HB.out).cell1⟩) (fun hHeld => ?_)
            clear hK K hHeld
            try simp only [Act.put, List.setIfInBounds_toArray, List.set_cons_zero, List.set_cons_succ]
            refine wpAnyH_ready (rs := [6]) (by kernel_rfl) (by simp) ?_
            refine AllReadyH.cons (by simp only [List.getElem?_toArray, List.getElem?_cons_succ, List.getElem?_cons_zero]; rfl) (fun K hK => ?_) ?_
            · go_simp
              obtain ⟨V4, gq0, hV, hg, Xq0, hb⟩ := newBox V3 (.bool false) (.slice none 0 0)
              rw [hV, hg]
              clear hV
              have ne : gq0 ≠ gq1 := by have := Xq1.out.lt; omega
              have qq0 : W4.heap.size ≤ gq0 := hg ▸ HB.out.size
              have hb0 := HB
              replace HB := Lib.hid (below_next HB.out hb)
              replace Zq0 := Lib.hid (Zq0.out.below hb)
              replace Zq1 := Lib.hid (Zq1.out.below hb)
              replace Xq1 := Lib.hid (Xq1.out.below hb)
              clear hb hb0 hg
              refine hK.out _ _ (by exact ⟨(B_a.out.below HB.out).cell0, (B_a.out.below HB.out).cell1, (B_b.out.below HB.out).cell0, (B_b.out.below HB.out).cell1⟩) (fun hHeld => ?_)
              clear hK K hHeld
              try simp only [Act.put, List.setIfInBounds_toArray, List.set_cons_zero, List.set_cons_succ]
              exact wpAnyH_at #[true, true, true, true, true, true, true, true, false, false] (by kernel_rfl) (KEY.out _ _ _ _ _ ⟨bq0, Aq0, nq0, kq0, bq1, Aq1, nq1, kq1, gq0, gq1, rfl, rfl, rfl, rfl, Zq0.out, Zq1.out, Xq0.out, Xq1.out, ne, qq0, qq1, HB.out⟩)
            exact AllReadyH.nil
          refine AllReadyH.cons (by simp only [List.getElem?_toArray, List.getElem?_cons_succ, List.getElem?_cons_zero]; rfl) (fun K hK => ?_) ?_
          · go_simp
            obtain ⟨V3, gq0, hV, hg, Xq0, hb⟩ := newBox V2 (.bool false) (.slice none 0 0)
            rw [hV, hg]
            clear hV
            have ne : gq0 ≠ gq1 := by have := Xq1.out.lt; omega
            have qq0 : W4.heap.size ≤ gq0 := hg ▸ HB.out.size
            have hb0 := HB
            replace HB := Lib.hid (below_next HB.out hb)
            replace Zq0 := Lib.hid (Zq0.out.below hb)
            replace Xq1 := Lib.hid (Xq1.out.below hb)
            clear hb hb0 hg
            refine hK.out _ _ (by exact ⟨(B_a.out.below HB.out).cell0, (B_a.out.below HB.out).cell1, (B_b.out.below HB.out).cell0, (B_b.out.below HB.out).cell1⟩) (fun hHeld => ?_)
            clear hK K hHeld
            try simp only [Act.put, List.setIfInBounds_toArray, List.set_cons_zero, List.set_cons_succ]
            refine wpAnyH_ready (rs := [5]) (by kernel_rfl) (by simp) ?_
            refine AllReadyH.cons (by simp only [List.getElem?_toArray, List.getElem?_cons_succ, List.getElem?_cons_zero]; rfl) (fun K hK => ?_) ?_
            · go_simp
              refine (imul_any _ _ _ _ _ _ 30 30 _ (by exact ⟨l_a, H_a.out.below HB.out, s_a, rfl⟩) (by exact ⟨l_b, H_b.out.below HB.out, s_b, rfl⟩) (by omega) (by omega)).mono ?_
              rintro e V4 ⟨bq1, Aq1, nq1, kq1, rfl, h, hb⟩
              have hb0 := HB
              replace HB := Lib.hid (below_next HB.out hb)
              replace Zq0 := Lib.hid (Zq0.out.below hb)
              replace Xq0 := Lib.hid (Xq0.out.below hb)
              replace Xq1 := Lib.hid (Xq1.out.below hb)
              have Zq1 := Lib.hid h
              clear h hb hb0
              go_wp2_with fail
              refine hK.out _ _ (by exact ⟨(B_a.out.below HB.out).cell0, (B_a.out.below HB.out).cell1, (B_b.out.below HB.out).cell0, (B_b.out.below HB.out).cell1⟩) (fun hHeld => ?_)
              clear hK K hHeld
              try simp only [Act.put, List.setIfInBounds_toArray, List.set_cons_zero, List.set_cons_succ]
              exact wpAnyH_at #[true, true, true, true, true, true, true, true, false, false] (by kernel_rfl) (KEY.out _ _ _ _ _ ⟨bq0, Aq0, nq0, kq0, bq1, Aq1, nq1, kq1, gq0, gq1, rfl, rfl, rfl, rfl, Zq0.out, Zq1.out, Xq0.out, Xq1.out, ne, qq0, qq1, HB.out⟩)
            exact AllReadyH.nil
          exact AllReadyH.nil
        exact AllReadyH.nil
      refine AllReadyH.cons (by simp only [List.getElem?_toArray, List.getElem?_cons_succ, List.getElem?_cons_zero]; rfl) (fun K hK => ?_) ?_
      · go_simp
        obtain ⟨V1, gq0, hV, hg, Xq0, hb⟩ := newBox V0 (.bool false) (.slice none 0 0)
        rw [hV, hg]
        clear hV
        have qq0 : W4.heap.size ≤ gq0 := hg ▸ HB.out.size
        have hb0 := HB
        replace HB := Lib.hid (below_next HB.out hb)
        clear hb hb0 hg
        refine hK.out _ _ (by exact ⟨(B_a.out.below HB.out).cell0, (B_a.out.below HB.out).cell1, (B_b.out.below HB.out).cell0, (B_b.out.below HB.out).cell1⟩) (fun hHeld => ?_)
        clear hK K hHeld
        try simp only [Act.put, List.setIfInBounds_toArray, List.set_cons_zero, List.set_cons_succ]
        refine wpAnyH_ready (rs := [2, 7]) (by kernel_rfl) (by simp) ?_
        refine AllReadyH.cons (by simp only [List.getElem?_toArray, List.getElem?_cons_succ, List.getElem?_cons_zero]; rfl) (fun K hK => ?_) ?_
        · go_simp
          refine (iadd_any _ _ _ _ _ _ 30 30 _ (by exact ⟨l_a, H_a.out.below HB.out, s_a, rfl⟩) (by exact ⟨l_b, H_b.out.below HB.out, s_b, rfl⟩) (by omega) (by omega)).mono ?_
          rintro e V2 ⟨bq0, Aq0, nq0, kq0, rfl, h, hb⟩
          have hb0 := HB
          replace HB := Lib.hid (below_next HB.out hb)
          replace Xq0 := Lib.hid (Xq0.out.below hb)
          have Zq0 := Lib.hid h
          clear h hb hb0
          go_wp2_with fail
          refine hK.out _ _ (by exact ⟨(B_a.out.below HB.out).cell0, (B_a.out.below HB.out).cell1, (B_b.out.below HB.out).cell0, (B_b.out.below HB.out).cell1⟩) (fun hHeld => ?_)
          clear hK K hHeld
          try simp only [Act.put, List.setIfInBounds_toArray, List.set_cons_zero, List.set_cons_succ]
          refine wpAnyH_ready (rs := [5, 7]) (by kernel_rfl) (by simp) ?_
          refine AllReadyH.cons (by simp only [List.getElem?_toArray, List.getElem?_cons_succ, List.getElem?_cons_zero]; rfl) (fun K hK => ?_) ?_
          · go_simp
            refine (imul_any _ _ _ _ _ _ 30 30 _ (by exact ⟨l_a, H_a.out.below HB.out, s_a, rfl⟩) (by exact ⟨l_b, H_b.out.below HB.out, s_b, rfl⟩) (by omega) (by omega)).mono ?_
            rintro e V3 ⟨bq1, Aq1, nq1, kq1, rfl, h, hb⟩
            have hb0 := HB
            replace HB := Lib.hid (below_next HB.out hb)
            replace Zq0 := Lib.hid (Zq0.out.below hb)
            replace Xq0 := Lib.hid (Xq0.out.below hb)
            have Zq1 := Lib.hid h
            clear h hb hb0
            go_wp2_with fail
            refine hK.out _ _ (by exact ⟨(B_a.out.below HB.out).cell0, (B_a.out.below HB.out).cell1, (B_b.out.below HB.out).cell0, (B_b.out.below HB.out).cell1⟩) (fun hHeld => ?_)
            clear hK K hHeld
            try simp only [Act.put, List.setIfInBounds_toArray, List.set_cons_zero, List.set_cons_succ]
            refine wpAnyH_ready (rs := [7]) (by kernel_rfl) (by simp) ?_
            refine AllReadyH.cons (by simp only [List.getElem?_toArray, List.getElem?_cons_succ, List.getElem?_cons_zero]; rfl) (fun K hK => ?_) ?_
            · go_simp
              obtain ⟨V4, gq1, hV, hg, Xq1, hb⟩ := newBox V3 (.bool false) (.slice none 0 0)
              rw [hV, hg]
              clear hV
              have ne : gq0 ≠ gq1 := by have := Xq0.out.lt; omega
              have qq1 : W4.heap.size ≤ gq1 := hg ▸ HB.out.size
              have hb0 := HB
              replace HB := Lib.hid (below_next HB.out hb)
              replace Zq0 := Lib.hid (Zq0.out.below hb)
              replace Xq0 := Lib.hid (Xq0.out.below hb)
              replace Zq1 := Lib.hid (Zq1.out.below hb)
              clear hb hb0 hg
              refine hK.out _ _ (by exact ⟨(B_a.out.below HB.out).cell0, (B_a.out.below HB.out).cell1, (B_b.out.below HB.out).cell0, (B_b.out.below HB.out).cell1⟩) (fun hHeld => ?_)
              clear hK K hHeld
              try simp only [Act.put, List.setIfInBounds_toArray, List.set_cons_zero, List.set_cons_succ]
              exact wpAnyH_at #[true, true, true, true, true, true, true, true, false, false] (by kernel_rfl) (KEY.out _ _ _ _ _ ⟨bq0, Aq0, nq0, kq0, bq1, Aq1, nq1, kq1, gq0, gq1, rfl, rfl, rfl, rfl, Zq0.out, Zq1.out, Xq0.out, Xq1.out, ne, qq0, qq1, HB.out⟩)
            exact AllReadyH.nil
          refine AllReadyH.cons (by simp only [List.getElem?_toArray, List.getElem?_cons_succ, List.getElem?_cons_zero]; rfl) (fun K hK => ?_) ?_
          · go_simp
            obtain ⟨V3, gq1, hV, hg, Xq1, hb⟩ := newBox V2 (.bool false) (.slice none 0 0)
            rw [hV, hg]
            clear hV
            have ne : gq0 ≠ gq1 := by have := Xq0.out.lt; omega
            have qq1 : W4.heap.size ≤ gq1 := hg ▸ HB.out.size
            have hb0 := HB
            replace HB := Lib.hid (below_next HB.out hb)
            replace Zq0 := Lib.hid (Zq0.out.below hb)
            replace Xq0 := Lib.hid (Xq0.out.below hb)
            clear hb hb0 hg
            refine hK.out _ _ (by exact ⟨(B_a.out.below HB.out).cell0, (B_a.out.below HB.out).cell1, (B_b.out.below HB.out).cell0, (B_b.out.below HB.out).cell1⟩) (fun hHeld => ?_)
            clear hK K hHeld
            try simp only [Act.put, List.setIfInBounds_toArray, List.set_cons_zero, List.set_cons_succ]
            refine wpAnyH_ready (rs := [5]) (by kernel_rfl) (by simp) ?_
            refine AllReadyH.cons (by simp only [List.getElem?_toArray, List.getElem?_cons_succ, List.getElem?_cons_zero]; rfl) (fun K hK => ?_) ?_
            · go_simp
              refine (imul_any _ _ _ _ _ _ 30 30 _ (by exact ⟨l_a, H_a.out.below HB.out, s_a, rfl⟩) (by exact ⟨l_b, H_b.out.below HB.out, s_b, rfl⟩) (by omega) (by omega)).mono ?_
              rintro e V4 ⟨bq1, Aq1, nq1, kq1, rfl, h, hb⟩
              have hb0 := HB
              replace HB := Lib.hid (below_next HB.out hb)
              replace Zq0 := Lib.hid (Zq0.out.below hb)
              replace Xq0 := Lib.hid (Xq0.out.below hb)
              replace Xq1 := Lib.hid (Xq1.out.below hb)
              have Zq1 := Lib.hid h
              clear h hb hb0
              go_wp2_with fail
              refine hK.out _ _ (by exact ⟨(B_a.out.below HB.out).cell0, (B_a.out.below HB.out).cell1, (B_b.out.below HB.out).cell0, (B_b.out.below HB.out).cell1⟩) (fun hHeld => ?_)
              clear hK K hHeld
              try simp only [Act.put, List.setIfInBounds_toArray, List.set_cons_zero, List.set_cons_succ]
              exact wpAnyH_at #[true, true, true, true, true, true, true, true, false, false] (by kernel_rfl) (KEY.out _ _ _ _ _ ⟨bq0, Aq0, nq0, kq0, bq1, Aq1, nq1, kq1, gq0, gq1, rfl, rfl, rfl, rfl, Zq0.out, Zq1.out, Xq0.out, Xq1.out, ne, qq0, qq1, HB.out⟩)
            exact AllReadyH.nil
          exact AllReadyH.nil
        refine AllReadyH.cons (by simp only [List.getElem?_toArray, List.getElem?_cons_succ, List.getElem?_cons_zero]; rfl) (fun K hK => ?_) ?_
        · go_simp
          obtain ⟨V2, gq1, hV, hg, Xq1, hb⟩ := newBox V1 (.bool false) (.slice none 0 0)
          rw [hV, hg]
          clear hV
          have ne : gq0 ≠ gq1 := by have := Xq0.out.lt; omega
          have qq1 : W4.heap.size ≤ gq1 := hg ▸ HB.out.size
          have hb0 := HB
          replace HB := Lib.hid (below_next HB.out hb)
          replace Xq0 := Lib.hid (Xq0.out.below hb)
          clear hb hb0 hg
          refine hK.out _ _ (by exact ⟨(B_a.out.below HB.out).cell0, (B_a.out.below HB.out).cell1, (B_b.out.below HB.out).cell0, (B_b.out.below HB.out).cell1⟩) (fun hHeld => ?_)
          clear hK K hHeld
          try simp only [Act.put, List.setIfInBounds_toArray, List.set_cons_zero, List.set_cons_succ]
          refine wpAnyH_ready (rs := [2]) (by kernel_rfl) (by simp) ?_
          refine AllReadyH.cons (by simp only [List.getElem?_toArray, List.getElem?_cons_succ, List.getElem?_cons_zero]; rfl) (fun K hK => ?_) ?_
          · go_simp
            refine (iadd_any _ _ _ _ _ _ 30 30 _ (by exact ⟨l_a, H_a.out.below HB.out, s_a, rfl⟩) (by exact ⟨l_b, H_b.out.below HB.out, s_b, rfl⟩) (by omega) (by omega)).mono ?_
            rintro e V3 ⟨bq0, Aq0, nq0, kq0, rfl, h, hb⟩
            have hb0 := HB
            replace HB := Lib.hid (below_next HB.out hb)
            replace Xq0 := Lib.hid (Xq0.out.below hb)
            replace Xq1 := Lib.hid (Xq1.out.below hb)
            have Zq0 := Lib.hid h
            clear h hb hb0
            go_wp2_with fail
            refine hK.out _ _ (by exact ⟨(B_a.out.below HB.out).cell0, (B_a.out.below HB.out).cell1, (B_b.out.below HB.out).cell0, (B_b.out.below HB.out).cell1⟩) (fun hHeld => ?_)
            clear hK K hHeld
            try simp only [Act.put, List.setIfInBounds_toArray, List.set_cons_zero, List.set_cons_succ]
            refine wpAnyH_ready (rs := [5]) (by kernel_rfl) (by simp) ?_
            refine AllReadyH.cons (by simp only [List.getElem?_toArray, List.getElem?_cons_succ, List.getElem?_cons_zero]; rfl) (fun K hK => ?_) ?_
            · go_simp
              refine (imul_any _ _ _ _ _ _ 30 30 _ (by exact ⟨l_a, H_a.out.below HB.out, s_a, rfl⟩) (by exact ⟨l_b, H_b.out.below HB.out, s_b, rfl⟩) (by omega) (by omega)).mono ?_
              rintro e V4 ⟨bq1, Aq1, nq1, kq1, rfl, h, hb⟩
              have hb0 := HB
              replace HB := Lib.hid (below_next HB.out hb)
              replace Zq0 := Lib.hid (Zq0.out.below hb)
              replace Xq0 := Lib.hid (Xq0.out.below hb)
              replace Xq1 := Lib.hid (Xq1.out.below hb)
              have Zq1 := Lib.hid h
              clear h hb hb0
              go_wp2_with fail
              refine hK.out _ _ (by exact ⟨(B_a.out.below HB.out).cell0, (B_a.out.below HB.out).cell1, (B_b.out.below HB.out).cell0, (B_b.out.below HB.out).cell1⟩) (fun hHeld => ?_)
              clear hK K hHeld
              try simp only [Act.put, List.setIfInBounds_toArray, List.set_cons_zero, List.set_cons_succ]
              exact wpAnyH_at #[true, true, true, true, true, true, true, true, false, false] (by kernel_rfl) (KEY.out _ _ _ _ _ ⟨bq0, Aq0, nq0, kq0, bq1, Aq1, nq1, kq1, gq0, gq1, rfl, rfl, rfl, rfl, Zq0.out, Zq1.out, Xq0.out, Xq1.out, ne, qq0, qq1, HB.out⟩)
            exact AllReadyH.nil
          exact AllReadyH.nil
        exact AllReadyH.nil
      refine AllReadyH.cons (by simp only [List.getElem?_toArray, List.getElem?_cons_succ, List.getElem?_cons_zero]; rfl) (fun K hK => ?_) ?_
      · go_simp
        obtain ⟨V1, gq1, hV, hg, Xq1, hb⟩ := newBox V0 (.bool false) (.slice none 0 0)
        rw [hV, hg]
        clear hV
        have qq1 : W4.heap.size ≤ gq1 := hg ▸ HB.out.size
        have hb0 := HB
        replace HB := Lib.hid (below_next HB.out hb)
        clear hb hb0 hg
        refine hK.out _ _ (by exact ⟨(B_a.out.below HB.out).cell0, (B_a.out.below HB.out).cell1, (B_b.out.below HB.out).cell0, (B_b.out.below HB.out).cell1⟩) (fun hHeld => ?_)
        clear hK K hHeld
        try simp only [Act.put, List.setIfInBounds_toArray, List.set_cons_zero, List.set_cons_succ]
        refine wpAnyH_ready (rs := [2, 6]) (by kernel_rfl) (by simp) ?_
        refine AllReadyH.cons (by simp only [List.getElem?_toArray, List.getElem?_cons_succ, List.getElem?_cons_zero]; rfl) (fun K hK => ?_) ?_
        · go_simp
          refine (iadd_any _ _ _ _ _ _ 30 30 _ (by exact ⟨l_a, H_a.out.below HB.out, s_a, rfl⟩) (by exact ⟨l_b, H_b.out.below HB.out, s_b, rfl⟩) (by omega) (by omega)).mono ?_
          rintro e V2 ⟨bq0, Aq0, nq0, kq0, rfl, h, hb⟩
          have hb0 := HB
          replace HB := Lib.hid (below_next HB.out hb)
          replace Xq1 := Lib.hid (Xq1.out.below hb)
          have Zq0 := Lib.hid h
          clear h hb hb0
          go_wp2_with fail
          refine hK.out _ _ (by exact ⟨(B_a.out.below HB.out).cell0, (B_a.out.below HB.out).cell1, (B_b.out.below HB.out).cell0, (B_b.out.below HB.out).cell1⟩) (fun hHeld => ?_)
          clear hK K hHeld
          try simp only [Act.put, List.setIfInBounds_toArray, List.set_cons_zero, List.set_cons_succ]
          refine wpAnyH_ready (rs := [5, 6]) (by kernel_rfl) (by simp) ?_
          refine AllReadyH.cons (by simp only [List.getElem?_toArray, List.getElem?_cons_succ, List.getElem?_cons_zero]; rfl) (fun K hK => ?_) ?_
          · go_simp
            refine (imul_any _ _ _ _ _ _ 30 30 _ (by exact ⟨l_a, H_a.out.below HB.out, s_a, rfl⟩) (by exact ⟨l_b, H_b.out.below HB.out, s_b, rfl⟩) (by omega) (by omega)).mono ?_
            rintro e V3 ⟨bq1, Aq1, nq1, kq1, rfl, h, hb⟩
            have hb0 := HB
            replace HB := Lib.hid (below_next HB.out hb)
            replace Zq0 := Lib.hid (Zq0.out.below hb)
            replace Xq1 := Lib.hid (Xq1.out.below hb)
            have Zq1 := Lib.hid h
            clear h hb hb0
            go_wp2_with fail
            refine hK.out _ _ (by exact ⟨(B_a.out.below HB.out).cell0, (B_a.out.below HB.out).cell1, (B_b.out.below HB.out).cell0, (B_b.out.below HB.out).cell1⟩) (fun hHeld => ?_)
            clear hK K hHeld
            try simp only [Act.put, List.setIfInBounds_toArray, List.set_cons_zero, List.set_cons_succ]
            refine wpAnyH_ready (rs := [6]) (by kernel_rfl) (by simp) ?_
            refine AllReadyH.cons (by simp only [List.getElem?_toArray, List.getElem?_cons_succ, List.getElem?_cons_zero]; rfl) (fun K hK => ?_) ?_
            · go_simp
              obtain ⟨V4, gq0, hV, hg, Xq0, hb⟩ := newBox V3 (.bool false) (.slice none 0 0)
              rw [hV, hg]
              clear hV
              have ne : gq0 ≠ gq1 := by have := Xq1.out.lt; omega
              have qq0 : W4.heap.size ≤ gq0 := hg ▸ HB.out.size
              have hb0 := HB
              replace HB := Lib.hid (below_next HB.out hb)
              replace Zq0 := Lib.hid (Zq0.out.below hb)
              replace Zq1 := Lib.hid (Zq1.out.below hb)
              replace Xq1 := Lib.hid (Xq1.out.below hb)
              clear hb hb0 hg
              refine hK.out _ _ (by exact ⟨(B_a.out.below HB.out).cell0, (B_a.out.below HB.out).cell1, (B_b.out.below HB.out).cell0, (B_b.out.below HB.out).cell1⟩) (fun hHeld => ?_)
              clear hK K hHeld
              try simp only [Act.put, List.setIfInBounds_toArray, List.set_cons_zero, List.set_cons_succ]
              exact wpAnyH_at #[true, true, true, true, true, true, true, true, false, false] (by kernel_rfl) (KEY.out _ _ _ _ _ ⟨bq0, Aq0, nq0, kq0, bq1, Aq1, nq1, kq1, gq0, gq1, rfl, rfl, rfl, rfl, Zq0.out, Zq1.out, Xq0.out, Xq1.out, ne, qq0, qq1, HB.out⟩)
            exact AllReadyH.nil
          refine AllReadyH.cons (by simp only [List.getElem?_toArray, List.getElem?_cons_succ, List.getElem?_cons_zero]; rfl) (fun K hK => ?_) ?_
          · go_simp
            obtain ⟨V3, gq0, hV, hg, Xq0, hb⟩ := newBox V2 (.bool false) (.slice none 0 0)
            rw [hV, hg]
            clear hV
            have ne : gq0 ≠ gq1 := by have := Xq1.out.lt; omega
            have qq0 : W4.heap.size ≤ gq0 := hg ▸ HB.out.size
            have hb0 := HB
            replace HB := Lib.hid (below_next HB.out hb)
            replace Zq0 := Lib.hid (Zq0.out.below hb)
            replace Xq1 := Lib.hid (Xq1.out.below hb)
            clear hb hb0 hg
            refine hK.out _ _ (by exact ⟨(B_a.out.below HB.out).cell0, (B_a.out.below HB.out).cell1, (B_b.out.below HB.out).cell0, (B_b.out.below HB.out).cell1⟩) (fun hHeld => ?_)
            clear hK K hHeld
            try simp only [Act.put, List.setIfInBounds_toArray, List.set_cons_zero, List.set_cons_succ]
            refine wpAnyH_ready (rs := [5]) (by kernel_rfl) (by simp) ?_
            refine AllReadyH.cons (by simp only [List.getElem?_toArray, List.getElem?_cons_succ, List.getElem?_cons_zero]; rfl) (fun K hK => ?_) ?_
            · go_simp
              refine (imul_any _ _ _ _ _ _ 30 30 _ (by exact ⟨l_a, H_a.out.below HB.out, s_a, rfl⟩) (by exact ⟨l_b, H_b.out.below HB.out, s_b, rfl⟩) (by omega) (by omega)).mono ?_
              rintro e V4 ⟨bq1, Aq1, nq1, kq1, rfl, h, hb⟩
              have hb0 := HB
              replace HB := Lib.hid (below_next HB.out hb)
              replace Zq0 := Lib.hid (Zq0.out.below hb)
              replace Xq0 := Lib.hid (Xq0.out.below hb)
              replace Xq1 := Lib.hid (Xq1.out.below hb)
              have Zq1 := Lib.hid h
              clear h hb hb0
              go_wp2_with fail
              refine hK.out _ _ (by exact ⟨(B_a.out.below HB.out).cell0, (B_a.out.below HB.out).cell1, (B_b.out.below HB.out).cell0, (B_b.out.below HB.out).cell1⟩) (fun hHeld => ?_)
              clear hK K hHeld
              try simp only [Act.put, List.setIfInBounds_toArray, List.set_cons_zero, List.set_cons_succ]
              exact wpAnyH_at #[true, true, true, true, true, true, true, true, false, false] (by kernel_rfl) (KEY.out _ _ _ _ _ ⟨bq0, Aq0, nq0, kq0, bq1, Aq1, nq1, kq1, gq0, gq1, rfl, rfl, rfl, rfl, Zq0.out, Zq1.out, Xq0.out, Xq1.out, ne, qq0, qq1, HB.out⟩)
            exact AllReadyH.nil
          exact AllReadyH.nil
        refine AllReadyH.cons (by simp only [List.getElem?_toArray, List.getElem?_cons_succ, List.getElem?_cons_zero]; rfl) (fun K hK => ?_) ?_
        · go_simp
          obtain ⟨V2, gq0, hV, hg, Xq0, hb⟩ := newBox V1 (.bool false) (.slice none 0 0)
          rw [hV, hg]
          clear hV
          have ne : gq0 ≠ gq1 := by have := Xq1.out.lt; omega
          have qq0 : W4.heap.size ≤ gq0 := hg ▸ HB.out.size
          have hb0 := HB
          replace HB := Lib.hid (below_next HB.out hb)
          replace Xq1 := Lib.hid (Xq1.out.below hb)
          clear hb hb0 hg
          refine hK.out _ _ (by exact ⟨(B_a.out.below HB.out).cell0, (B_a.out.below HB.out).cell1, (B_b.out.below HB.out).cell0, (B_b.out.below HB.out).cell1⟩) (fun hHeld => ?_)
          clear hK K hHeld
          try simp only [Act.put, List.setIfInBounds_toArray, List.set_cons_zero, List.set_cons_succ]
          refine wpAnyH_ready (rs := [2]) (by kernel_rfl) (by simp) ?_
          refine AllReadyH.cons (by simp only [List.getElem?_toArray, List.getElem?_cons_succ, List.getElem?_cons_zero]; rfl) (fun K hK => ?_) ?_
          · go_simp
            refine (iadd_any _ _ _ _ _ _ 30 30 _ (by exact ⟨l_a, H_a.out.below HB.out, s_a, rfl⟩) (by exact ⟨l_b, H_b.out.below HB.out, s_b, rfl⟩) (by omega) (by omega)).mono ?_
            rintro e V3 ⟨bq0, Aq0, nq0, kq0, rfl, h, hb⟩
            have hb0 := HB
            replace HB := Lib.hid (below_next HB.out hb)
            replace Xq0 := Lib.hid (Xq0.out.below hb)
            replace Xq1 := Lib.hid (Xq1.out.below hb)
            have Zq0 := Lib.hid h
            clear h hb hb0
            go_wp2_with fail
            refine hK.out _ _ (by exact ⟨(B_a.out.below HB.out).cell0, (B_a.out.below HB.out).cell1, (B_b.out.below HB.out).cell0, (B_b.out.below HB.out).cell1⟩) (fun hHeld => ?_)
            clear hK K hHeld
            try simp only [Act.put, List.setIfInBounds_toArray, List.set_cons_zero, List.set_cons_succ]
            refine wpAnyH_ready (rs := [5]) (by kernel_rfl) (by simp) ?_
            refine AllReadyH.cons (by simp only [List.getElem?_toArray, List.getElem?_cons_succ, List.getElem?_cons_zero]; rfl) (fun K hK => ?_) ?_
            · go_simp
              refine (imul_any _ _ _ _ _ _ 30 30 _ (by exact ⟨l_a, H_a.out.below HB.out, s_a, rfl⟩) (by exact ⟨l_b, H_b.out.below HB.out, s_b, rfl⟩) (by omega) (by omega)).mono ?_
              rintro e V4 ⟨bq1, Aq1, nq1, kq1, rfl, h, hb⟩
              have hb0 := HB
              replace HB := Lib.hid (below_next HB.out hb)
              replace Zq0 := Lib.hid (Zq0.out.below hb)
              replace Xq0 := Lib.hid (Xq0.out.below hb)
              replace Xq1 := Lib.hid (Xq1.out.below hb)
              have Zq1 := Lib.hid h
              clear h hb hb0
              go_wp2_with fail
              refine hK.out _ _ (by exact ⟨(B_a.out.below HB.out).cell0, (B_a.out.below HB.out).cell1, (B_b.out.below HB.out).cell0, (B_b.out.below HB.out).cell1⟩) (fun hHeld => ?_)
              clear hK K hHeld
              try simp only [Act.put, List.setIfInBounds_toArray, List.set_cons_zero, List.set_cons_succ]
              exact wpAnyH_at #[true, true, true, true, true, true, true, true, false, false] (by kernel_rfl) (KEY.out _ _ _ _ _ ⟨bq0, Aq0, nq0, kq0, bq1, Aq1, nq1, kq1, gq0, gq1, rfl, rfl, rfl, rfl, Zq0.out, Zq1.out, Xq0.out, Xq1.out, ne, qq0, qq1, HB.out⟩)
            exact AllReadyH.nil
          exact AllReadyH.nil
        exact AllReadyH.nil
      exact AllReadyH.nil
    · rintro _ _ _ _ V5 ⟨bq0, Aq0, nq0, kq0, bq1, Aq1, nq1, kq1, gq0, gq1, rfl, rfl, rfl, rfl, y0, y1, x0, x1, ne, qq0, qq1, hbv⟩
      have Yq0 := Lib.hid y0
      have Yq1 := Lib.hid y1
      have Xq0 := Lib.hid x0
      have Xq1 := Lib.hid x1
      have HB := Lib.hid hbv
      clear y0 y1 x0 x1 hbv
      try simp only [Act.put, List.setIfInBounds_toArray, List.set_cons_zero, List.set_cons_succ]
      have xcell0 := Xq0.out.cell0
      have xcell1 := Xq0.out.cell1
      have xfro0 := Xq0.out.fro 0
      have xfro1 := Xq0.out.fro 1
      refine wpAnyH_ready (rs := [8]) (by kernel_rfl) (by simp) ?_
      refine AllReadyH.cons (by simp only [List.getElem?_toArray, List.getElem?_cons_succ, List.getElem?_cons_zero]; rfl) (fun K hK => ?_) AllReadyH.nil
      go_simp
      clear xcell0 xcell1 xfro0 xfro1
      obtain ⟨U1, hU, Dq0, sz, sb, sw⟩ := storeBox Xq0.out (.bool bq0) (.slice Aq0 nq0 kq0)
      rw [hU]
      clear hU
      replace Yq0 := Lib.hid (sz.out _ _ _ Yq0.out)
      replace Yq1 := Lib.hid (sz.out _ _ _ Yq1.out)
      replace HB := Lib.hid (sw.out _ HB.out qq0)
      replace Xq1 := Lib.hid (sb.out _ _ _ Xq1.out (fun e => ne e.symm))
      clear sz sb sw Xq0
      refine hK.out _ _ (by exact ⟨(B_a.out.below HB.out).cell0, (B_a.out.below HB.out).cell1, (B_b.out.below HB.out).cell0, (B_b.out.below HB.out).cell1⟩) (fun hHeld => ?_)
      clear hK K hHeld
      have xcell0 := Xq1.out.cell0
      have xcell1 := Xq1.out.cell1
      have xfro0 := Xq1.out.fro 0
      have xfro1 := Xq1.out.fro 1
      refine wpAnyH_ready (rs := [9]) (by kernel_rfl) (by simp) ?_
      refine AllReadyH.cons (by simp only [List.getElem?_toArray, List.getElem?_cons_succ, List.getElem?_cons_zero]; rfl) (fun K hK => ?_) AllReadyH.nil
      go_simp
      clear xcell0 xcell1 xfro0 xfro1
      obtain ⟨U2, hU, Dq1, sz, sb, sw⟩ := storeBox Xq1.out (.bool bq1) (.slice Aq1 nq1 kq1)
      rw [hU]
      clear hU
      replace Yq0 := Lib.hid (sz.out _ _ _ Yq0.out)
      replace Yq1 := Lib.hid (sz.out _ _ _ Yq1.out)
      replace HB := Lib.hid (sw.out _ HB.out qq1)
      replace Dq0 := Lib.hid (sb.out _ _ _ Dq0.out ne)
      clear sz sb sw Xq1
      refine hK.out _ _ (by exact ⟨(B_a.out.below HB.out).cell0, (B_a.out.below HB.out).cell1, (B_b.out.below HB.out).cell0, (B_b.out.below HB.out).cell1⟩) (fun hHeld => ?_)
      clear hK K hHeld
      refine wpAnyH_done (by kernel_rfl) (NoPanic.normal ?_) _
      replace HT := Lib.hid (HT.out.below HB.out)
      replace H_a := Lib.hid (H_a.out.below HB.out)
      replace H_b := Lib.hid (H_b.out.below HB.out)
      replace H_x := Lib.hid (H_x.out.below HB.out)
      replace Z_q := Lib.hid (Z_q.out.below HB.out)
      replace Z_r := Lib.hid (Z_r.out.below HB.out)
      replace Z_s := Lib.hid (Z_s.out.below HB.out)
      replace Z_t := Lib.hid (Z_t.out.below HB.out)
      replace B_a := Lib.hid (B_a.out.below HB.out)
      replace B_b := Lib.hid (B_b.out.below HB.out)
      replace B_x := Lib.hid (B_x.out.below HB.out)
      replace B_q := Lib.hid (B_q.out.below HB.out)
      replace B_r := Lib.hid (B_r.out.below HB.out)
      replace B_s := Lib.hid (B_s.out.below HB.out)
      replace B_t := Lib.hid (B_t.out.below HB.out)
      replace hB := below_next hB HB.out
      clear HB
      have B_u := Dq0
      have Z_u := Yq0
      clear Dq0 Yq0
      have B_p := Dq1
      have Z_p := Yq1
      clear Dq1 Yq1
      have c_a0 := B_a.out.cell0
      have c_a1 := B_a.out.cell1
      have c_b0 := B_b.out.cell0
      have c_b1 := B_b.out.cell1
      have c_x0 := B_x.out.cell0
      have c_x1 := B_x.out.cell1
      have c_q0 := B_q.out.cell0
      have c_q1 := B_q.out.cell1
      have c_r0 := B_r.out.cell0
      have c_r1 := B_r.out.cell1
      have c_s0 := B_s.out.cell0
      have c_s1 := B_s.out.cell1
      have c_t0 := B_t.out.cell0
      have c_t1 := B_t.out.cell1
      have c_u0 := B_u.out.cell0
      have c_u1 := B_u.out.cell1
      have c_p0 := B_p.out.cell0
      have c_p1 := B_p.out.cell1
      go_wp2_with fail
      clear c_a0 c_a1 c_b0 c_b1 c_x0 c_x1 c_q0 c_q1 c_r0 c_r1 c_s0 c_s1 c_t0 c_t1 c_u0 c_u1 c_p0 c_p1
      refine (inormal_any (by exact Z_u.out)).mono ?_
      rintro e w7 ⟨rfl, hb⟩
      replace HT := Lib.hid (HT.out.below hb)
      replace H_a := Lib.hid (H_a.out.below hb)
      replace H_b := Lib.hid (H_b.out.below hb)
      replace H_x := Lib.hid (H_x.out.below hb)
      replace Z_q := Lib.hid (Z_q.out.below hb)
      replace Z_r := Lib.hid (Z_r.out.below hb)
      replace Z_s := Lib.hid (Z_s.out.below hb)
      replace Z_t := Lib.hid (Z_t.out.below hb)
      replace Z_u := Lib.hid (Z_u.out.below hb)
      replace Z_p := Lib.hid (Z_p.out.below hb)
      replace B_a := Lib.hid (B_a.out.below hb)
      replace B_b := Lib.hid (B_b.out.below hb)
      replace B_x := Lib.hid (B_x.out.below hb)
      replace B_q := Lib.hid (B_q.out.below hb)
      replace B_r := Lib.hid (B_r.out.below hb)
      replace B_s := Lib.hid (B_s.out.below hb)
      replace B_t := Lib.hid (B_t.out.below hb)
      replace B_u := Lib.hid (B_u.out.below hb)
      replace B_p := Lib.hid (B_p.out.below hb)
      replace hB := below_next hB hb
      clear hb
      have c_a0 := B_a.out.cell0
      have c_a1 := B_a.out.cell1
      have c_b0 := B_b.out.cell0
      have c_b1 := B_b.out.cell1
      have c_x0 := B_x.out.cell0
      have c_x1 := B_x.out.cell1
      have c_q0 := B_q.out.cell0
      have c_q1 := B_q.out.cell1
      have c_r0 := B_r.out.cell0
      have c_r1 := B_r.out.cell1
      have c_s0 := B_s.out.cell0
      have c_s1 := B_s.out.cell1
      have c_t0 := B_t.out.cell0
      have c_t1 := B_t.out.cell1
      have c_u0 := B_u.out.cell0
      have c_u1 := B_u.out.cell1
      have c_p0 := B_p.out.cell0
      have c_p1 := B_p.out.cell1
      go_wp2_with fail
      clear c_a0 c_a1 c_b0 c_b1 c_x0 c_x1 c_q0 c_q1 c_r0 c_r1 c_s0 c_s1 c_t0 c_t1 c_u0 c_u1 c_p0 c_p1
      refine (inormal_any (by exact Z_p.out)).mono ?_
      rintro e w8 ⟨rfl, hb⟩
      replace HT := Lib.hid (HT.out.below hb)
      replace H_a := Lib.hid (H_a.out.below hb)
      replace H_b := Lib.hid (H_b.out.below hb)
      replace H_x := Lib.hid (H_x.out.below hb)
      replace Z_q := Lib.hid (Z_q.out.below hb)
      replace Z_r := Lib.hid (Z_r.out.below hb)
      replace Z_s := Lib.hid (Z_s.out.below hb)
      replace Z_t := Lib.hid (Z_t.out.below hb)
      replace Z_u := Lib.hid (Z_u.out.below hb)
      replace Z_p := Lib.hid (Z_p.out.below hb)
      replace B_a := Lib.hid (B_a.out.below hb)
      replace B_b := Lib.hid (B_b.out.below hb)
      replace B_x := Lib.hid (B_x.out.below hb)
      replace B_q := Lib.hid (B_q.out.below hb)
      replace B_r := Lib.hid (B_r.out.below hb)
      replace B_s := Lib.hid (B_s.out.below hb)
      replace B_t := Lib.hid (B_t.out.below hb)
      replace B_u := Lib.hid (B_u.out.below hb)
      replace B_p := Lib.hid (B_p.out.below hb)
      replace hB := below_next hB hb
      clear hb
      have c_a0 := B_a.out.cell0
      have c_a1 := B_a.out.cell1
      have c_b0 := B_b.out.cell0
      have c_b1 := B_b.out.cell1
      have c_x0 := B_x.out.cell0
      have c_x1 := B_x.out.cell1
      have c_q0 := B_q.out.cell0
      have c_q1 := B_q.out.cell1
      have c_r0 := B_r.out.cell0
      have c_r1 := B_r.out.cell1
      have c_s0 := B_s.out.cell0
      have c_s1 := B_s.out.cell1
      have c_t0 := B_t.out.cell0
      have c_t1 := B_t.out.cell1
      have c_u0 := B_u.out.cell0
      have c_u1 := B_u.out.cell1
      have c_p0 := B_p.out.cell0
      have c_p1 := B_p.out.cell1
      go_wp2_with fail
      clear c_a0 c_a1 c_b0 c_b1 c_x0 c_x1 c_q0 c_q1 c_r0 c_r1 c_s0 c_s1 c_t0 c_t1 c_u0 c_u1 c_p0 c_p1
      refine (inormal_any (by exact Z_q.out)).mono ?_
      rintro e w9 ⟨rfl, hb⟩
      replace HT := Lib.hid (HT.out.below hb)
      replace H_a := Lib.hid (H_a.out.below hb)
      replace H_b := Lib.hid (H_b.out.below hb)
      replace H_x := Lib.hid (H_x.out.below hb)
      replace Z_q := Lib.hid (Z_q.out.below hb)
      replace Z_r := Lib.hid (Z_r.out.below hb)
      replace Z_s := Lib.hid (Z_s.out.below hb)
      replace Z_t := Lib.hid (Z_t.out.below hb)
      replace Z_u := Lib.hid (Z_u.out.below hb)
      replace Z_p := Lib.hid (Z_p.out.below hb)
      replace B_a := Lib.hid (B_a.out.below hb)
      replace B_b := Lib.hid (B_b.out.below hb)
      replace B_x := Lib.hid (B_x.out.below hb)
      replace B_q := Lib.hid (B_q.out.below hb)
      replace B_r := Lib.hid (B_r.out.below hb)
      replace B_s := Lib.hid (B_s.out.below hb)
      replace B_t := Lib.hid (B_t.out.below hb)
      replace B_u := Lib.hid (B_u.out.below hb)
      replace B_p := Lib.hid (B_p.out.below hb)
      replace hB := below_next hB hb
      clear hb
      have c_a0 := B_a.out.cell0
      have c_a1 := B_a.out.cell1
      have c_b0 := B_b.out.cell0
      have c_b1 := B_b.out.cell1
      have c_x0 := B_x.out.cell0
      have c_x1 := B_x.out.cell1
      have c_q0 := B_q.out.cell0
      have c_q1 := B_q.out.cell1
      have c_r0 := B_r.out.cell0
      have c_r1 := B_r.out.cell1
      have c_s0 := B_s.out.cell0
      have c_s1 := B_s.out.cell1
      have c_t0 := B_t.out.cell0
      have c_t1 := B_t.out.cell1
      have c_u0 := B_u.out.cell0
      have c_u1 := B_u.out.cell1
      have c_p0 := B_p.out.cell0
      have c_p1 := B_p.out.cell1
      go_wp2_with fail
      clear c_a0 c_a1 c_b0 c_b1 c_x0 c_x1 c_q0 c_q1 c_r0 c_r1 c_s0 c_s1 c_t0 c_t1 c_u0 c_u1 c_p0 c_p1
      refine (inormal_any (by exact Z_r.out)).mono ?_
      rintro e w10 ⟨rfl, hb⟩
      replace HT := Lib.hid (HT.out.below hb)
      replace H_a := Lib.hid (H_a.out.below hb)
      replace H_b := Lib.hid (H_b.out.below hb)
      replace H_x := Lib.hid (H_x.out.below hb)
      replace Z_q := Lib.hid (Z_q.out.below hb)
      replace Z_r := Lib.hid (Z_r.out.below hb)
      replace Z_s := Lib.hid (Z_s.out.below hb)
      replace Z_t := Lib.hid (Z_t.out.below hb)
      replace Z_u := Lib.hid (Z_u.out.below hb)
      replace Z_p := Lib.hid (Z_p.out.below hb)
      replace B_a := Lib.hid (B_a.out.below hb)
      replace B_b := Lib.hid (B_b.out.below hb)
      replace B_x := Lib.hid (B_x.out.below hb)
      replace B_q := Lib.hid (B_q.out.below hb)
      replace B_r := Lib.hid (B_r.out.below hb)
      replace B_s := Lib.hid (B_s.out.below hb)
      replace B_t := Lib.hid (B_t.out.below hb)
      replace B_u := Lib.hid (B_u.out.below hb)
      replace B_p := Lib.hid (B_p.out.below hb)
      replace hB := below_next hB hb
      clear hb
      have c_a0 := B_a.out.cell0
      have c_a1 := B_a.out.cell1
      have c_b0 := B_b.out.cell0
      have c_b1 := B_b.out.cell1
      have c_x0 := B_x.out.cell0
      have c_x1 := B_x.out.cell1
      have c_q0 := B_q.out.cell0
      have c_q1 := B_q.out.cell1
      have c_r0 := B_r.out.cell0
      have c_r1 := B_r.out.cell1
      have c_s0 := B_s.out.cell0
      have c_s1 := B_s.out.cell1
      have c_t0 := B_t.out.cell0
      have c_t1 := B_t.out.cell1
      have c_u0 := B_u.out.cell0
      have c_u1 := B_u.out.cell1
      have c_p0 := B_p.out.cell0
      have c_p1 := B_p.out.cell1
      go_wp2_with fail
      clear c_a0 c_a1 c_b0 c_b1 c_x0 c_x1 c_q0 c_q1 c_r0 c_r1 c_s0 c_s1 c_t0 c_t1 c_u0 c_u1 c_p0 c_p1
      refine (ineg_any _ _ _ 30 _ (by exact ⟨l_a, H_a.out, s_a, rfl⟩) (by omega)).mono ?_
      rintro e w11 ⟨b_g, A_g, n_g, c_g, rfl, h_g, hb⟩
      replace HT := Lib.hid (HT.out.below hb)
      replace H_a := Lib.hid (H_a.out.below hb)
      replace H_b := Lib.hid (H_b.out.below hb)
      replace H_x := Lib.hid (H_x.out.below hb)
      replace Z_q := Lib.hid (Z_q.out.below hb)
      replace Z_r := Lib.hid (Z_r.out.below hb)
      replace Z_s := Lib.hid (Z_s.out.below hb)
      replace Z_t := Lib.hid (Z_t.out.below hb)
      replace Z_u := Lib.hid (Z_u.out.below hb)
      replace Z_p := Lib.hid (Z_p.out.below hb)
      replace B_a := Lib.hid (B_a.out.below hb)
      replace B_b := Lib.hid (B_b.out.below hb)
      replace B_x := Lib.hid (B_x.out.below hb)
      replace B_q := Lib.hid (B_q.out.below hb)
      replace B_r := Lib.hid (B_r.out.below hb)
      replace B_s := Lib.hid (B_s.out.below hb)
      replace B_t := Lib.hid (B_t.out.below hb)
      replace B_u := Lib.hid (B_u.out.below hb)
      replace B_p := Lib.hid (B_p.out.below hb)
      replace hB := below_next hB hb
      clear hb
      have Z_g := Lib.hid h_g
      clear h_g
      have c_a0 := B_a.out.cell0
      have c_a1 := B_a.out.cell1
      have c_b0 := B_b.out.cell0
      have c_b1 := B_b.out.cell1
      have c_x0 := B_x.out.cell0
      have c_x1 := B_x.out.cell1
      have c_q0 := B_q.out.cell0
      have c_q1 := B_q.out.cell1
      have c_r0 := B_r.out.cell0
      have c_r1 := B_r.out.cell1
      have c_s0 := B_s.out.cell0
      have c_s1 := B_s.out.cell1
      have c_t0 := B_t.out.cell0
      have c_t1 := B_t.out.cell1
      have c_u0 := B_u.out.cell0
      have c_u1 := B_u.out.cell1
      have c_p0 := B_p.out.cell0
      have c_p1 := B_p.out.cell1
      go_wp2_with fail
      clear c_a0 c_a1 c_b0 c_b1 c_x0 c_x1 c_q0 c_q1 c_r0 c_r1 c_s0 c_s1 c_t0 c_t1 c_u0 c_u1 c_p0 c_p1
      refine (inormal_any (by exact Z_g.out)).mono ?_
      rintro e w12 ⟨rfl, hb⟩
      replace HT := Lib.hid (HT.out.below hb)
      replace H_a := Lib.hid (H_a.out.below hb)
      replace H_b := Lib.hid (H_b.out.below hb)
      replace H_x := Lib.hid (H_x.out.below hb)
      replace Z_q := Lib.hid (Z_q.out.below hb)
      replace Z_r := Lib.hid (Z_r.out.below hb)
      replace Z_s := Lib.hid (Z_s.out.below hb)
      replace Z_t := Lib.hid (Z_t.out.below hb)
      replace Z_u := Lib.hid (Z_u.out.below hb)
      replace Z_p := Lib.hid (Z_p.out.below hb)
      replace Z_g := Lib.hid (Z_g.out.below hb)
      replace B_a := Lib.hid (B_a.out.below hb)
      replace B_b := Lib.hid (B_b.out.below hb)
      replace B_x := Lib.hid (B_x.out.below hb)
      replace B_q := Lib.hid (B_q.out.below hb)
      replace B_r := Lib.hid (B_r.out.below hb)
      replace B_s := Lib.hid (B_s.out.below hb)
      replace B_t := Lib.hid (B_t.out.below hb)
      replace B_u := Lib.hid (B_u.out.below hb)
      replace B_p := Lib.hid (B_p.out.below hb)
      replace hB := below_next hB hb
      clear hb
      have c_a0 := B_a.out.cell0
      have c_a1 := B_a.out.cell1
      have c_b0 := B_b.out.cell0
      have c_b1 := B_b.out.cell1
      have c_x0 := B_x.out.cell0
      have c_x1 := B_x.out.cell1
      have c_q0 := B_q.out.cell0
      have c_q1 := B_q.out.cell1
      have c_r0 := B_r.out.cell0
      have c_r1 := B_r.out.cell1
      have c_s0 := B_s.out.cell0
      have c_s1 := B_s.out.cell1
      have c_t0 := B_t.out.cell0
      have c_t1 := B_t.out.cell1
      have c_u0 := B_u.out.cell0
      have c_u1 := B_u.out.cell1
      have c_p0 := B_p.out.cell0
      have c_p1 := B_p.out.cell1
      go_wp2_with fail
      clear c_a0 c_a1 c_b0 c_b1 c_x0 c_x1 c_q0 c_q1 c_r0 c_r1 c_s0 c_s1 c_t0 c_t1 c_u0 c_u1 c_p0 c_p1
      refine (inorm_any _ _ _ 30 _ (by exact ⟨l_a, H_a.out, s_a, rfl⟩) (by omega)).mono ?_
      rintro e w13 ⟨b_h, A_h, n_h, c_h, rfl, h_h, hb⟩
      replace HT := Lib.hid (HT.out.below hb)
      replace H_a := Lib.hid (H_a.out.below hb)
      replace H_b := Lib.hid (H_b.out.below hb)
      replace H_x := Lib.hid (H_x.out.below hb)
      replace Z_q := Lib.hid (Z_q.out.below hb)
      replace Z_r := Lib.hid (Z_r.out.below hb)
      replace Z_s := Lib.hid (Z_s.out.below hb)
      replace Z_t := Lib.hid (Z_t.out.below hb)
      replace Z_u := Lib.hid (Z_u.out.below hb)
      replace Z_p := Lib.hid (Z_p.out.below hb)
      replace Z_g := Lib.hid (Z_g.out.below hb)
      replace B_a := Lib.hid (B_a.out.below hb)
      replace B_b := Lib.hid (B_b.out.below hb)
      replace B_x := Lib.hid (B_x.out.below hb)
      replace B_q := Lib.hid (B_q.out.below hb)
      replace B_r := Lib.hid (B_r.out.below hb)
      replace B_s := Lib.hid (B_s.out.below hb)
      replace B_t := Lib.hid (B_t.out.below hb)
      replace B_u := Lib.hid (B_u.out.below hb)
      replace B_p := Lib.hid (B_p.out.below hb)
      replace hB := below_next hB hb
      clear hb
      have Z_h := Lib.hid h_h
      clear h_h
      have c_a0 := B_a.out.cell0
      have c_a1 := B_a.out.cell1
      have c_b0 := B_b.out.cell0
      have c_b1 := B_b.out.cell1
      have c_x0 := B_x.out.cell0
      have c_x1 := B_x.out.cell1
      have c_q0 := B_q.out.cell0
      have c_q1 := B_q.out.cell1
      have c_r0 := B_r.out.cell0
      have c_r1 := B_r.out.cell1
      have c_s0 := B_s.out.cell0
      have c_s1 := B_s.out.cell1
      have c_t0 := B_t.out.cell0
      have c_t1 := B_t.out.cell1
      have c_u0 := B_u.out.cell0
      have c_u1 := B_u.out.cell1
      have c_p0 := B_p.out.cell0
      have c_p1 := B_p.out.cell1
      go_wp2_with fail
      clear c_a0 c_a1 c_b0 c_b1 c_x0 c_x1 c_q0 c_q1 c_r0 c_r1 c_s0 c_s1 c_t0 c_t1 c_u0 c_u1 c_p0 c_p1
      refine (inormal_any (by exact Z_h.out)).mono ?_
      rintro e w14 ⟨rfl, hb⟩
      replace HT := Lib.hid (HT.out.below hb)
      replace H_a := Lib.hid (H_a.out.below hb)
      replace H_b := Lib.hid (H_b.out.below hb)
      replace H_x := Lib.hid (H_x.out.below hb)
      replace Z_q := Lib.hid (Z_q.out.below hb)
      replace Z_r := Lib.hid (Z_r.out.below hb)
      replace Z_s := Lib.hid (Z_s.out.below hb)
      replace Z_t := Lib.hid (Z_t.out.below hb)
      replace Z_u := Lib.hid (Z_u.out.below hb)
      replace Z_p := Lib.hid (Z_p.out.below hb)
      replace Z_g := Lib.hid (Z_g.out.below hb)
      replace Z_h := Lib.hid (Z_h.out.below hb)
      replace B_a := Lib.hid (B_a.out.below hb)
      replace B_b := Lib.hid (B_b.out.below hb)
      replace B_x := Lib.hid (B_x.out.below hb)
      replace B_q := Lib.hid (B_q.out.below hb)
      replace B_r := Lib.hid (B_r.out.below hb)
      replace B_s := Lib.hid (B_s.out.below hb)
      replace B_t := Lib.hid (B_t.out.below hb)
      replace B_u := Lib.hid (B_u.out.below hb)
      replace B_p := Lib.hid (B_p.out.below hb)
      replace hB := below_next hB hb
      clear hb
      clear Z_g Z_h
      have c_a0 := B_a.out.cell0
      have c_a1 := B_a.out.cell1
      have c_b0 := B_b.out.cell0
      have c_b1 := B_b.out.cell1
      have c_x0 := B_x.out.cell0
      have c_x1 := B_x.out.cell1
      have c_q0 := B_q.out.cell0
      have c_q1 := B_q.out.cell1
      have c_r0 := B_r.out.cell0
      have c_r1 := B_r.out.cell1
      have c_s0 := B_s.out.cell0
      have c_s1 := B_s.out.cell1
      have c_t0 := B_t.out.cell0
      have c_t1 := B_t.out.cell1
      have c_u0 := B_u.out.cell0
      have c_u1 := B_u.out.cell1
      have c_p0 := B_p.out.cell0
      have c_p1 := B_p.out.cell1
      go_wp2
      clear c_a0 c_a1 c_b0 c_b1 c_x0 c_x1 c_q0 c_q1 c_r0 c_r1 c_s0 c_s1 c_t0 c_t1 c_u0 c_u1 c_p0 c_p1
      refine wp_region_noPanic ?_
      refine wp_region_held_drew (S := (fun w' => w'.cell? ⟨w.heap.size, 0, none⟩ = some (.bool b_a) ∧ w'.cell? ⟨w.heap.size, 1, none⟩ = some m_a ∧ w'.cell? ⟨w.heap.size + 1, 0, none⟩ = some (.bool b_b) ∧ w'.cell? ⟨w.heap.size + 1, 1, none⟩ = some m_b ∧ w'.cell? ⟨gq, 0, none⟩ = some (.bool !b_a) ∧ w'.cell? ⟨gq, 1, none⟩ = some (.slice A_x n_x c_x) ∧ w'.cell? ⟨w5.heap.size, 0, none⟩ = some (.bool b_q) ∧ w'.cell? ⟨w5.heap.size, 1, none⟩ = some (.slice A_q n_q c_q) ∧ w'.cell? ⟨w5.heap.size + 1, 0, none⟩ = some (.bool b_r) ∧ w'.cell? ⟨w5.heap.size + 1, 1, none⟩ = some (.slice A_r n_r c_r) ∧ w'.cell? ⟨w6.heap.size, 0, none⟩ = some (.bool b_s) ∧ w'.cell? ⟨w6.heap.size, 1, none⟩ = some (.slice A_s n_s c_s) ∧ w'.cell? ⟨w6.heap.size + 1, 0, none⟩ = some (.bool b_t) ∧ w'.cell? ⟨w6.heap.size + 1, 1, none⟩ = some (.slice A_t n_t c_t) ∧ w'.cell? ⟨gq0, 0, none⟩ = some (.bool bq0) ∧ w'.cell? ⟨gq0, 1, none⟩ = some (.slice Aq0 nq0 kq0) ∧ w'.cell? ⟨gq1, 0, none⟩ = some (.bool bq1) ∧ w'.cell? ⟨gq1, 1, none⟩ = some (.slice Aq1 nq1 kq1))) (by kernel_rfl) (by exact ⟨B_a.out.cell0, B_a.out.cell1, B_b.out.cell0, B_b.out.cell1, B_x.out.cell0, B_x.out.cell1, B_q.out.cell0, B_q.out.cell1, B_r.out.cell0, B_r.out.cell1, B_s.out.cell0, B_s.out.cell1, B_t.out.cell0, B_t.out.cell1, B_u.out.cell0, B_u.out.cell1, B_p.out.cell0, B_p.out.cell1⟩) (fun hHeld => ?_)
      have hb := belowDrew w14
      generalize w14.drew = V_5 at hb hHeld ⊢
      replace HT := Lib.hid (HT.out.below hb)
      replace H_a := Lib.hid (H_a.out.below hb)
      replace H_b := Lib.hid (H_b.out.below hb)
      replace H_x := Lib.hid (H_x.out.below hb)
      replace Z_q := Lib.hid (Z_q.out.below hb)
      replace Z_r := Lib.hid (Z_r.out.below hb)
      replace Z_s := Lib.hid (Z_s.out.below hb)
      replace Z_t := Lib.hid (Z_t.out.below hb)
      replace Z_u := Lib.hid (Z_u.out.below hb)
      replace Z_p := Lib.hid (Z_p.out.below hb)
      replace B_a := Lib.hid (B_a.out.below hb)
      replace B_b := Lib.hid (B_b.out.below hb)
      replace B_x := Lib.hid (B_x.out.below hb)
      replace B_q := Lib.hid (B_q.out.below hb)
      replace B_r := Lib.hid (B_r.out.below hb)
      replace B_s := Lib.hid (B_s.out.below hb)
      replace B_t := Lib.hid (B_t.out.below hb)
      replace B_u := Lib.hid (B_u.out.below hb)
      replace B_p := Lib.hid (B_p.out.below hb)
      replace hB := below_next hB hb
      clear hb
      refine wpAnyH_take2 0 (v := ?_) (fun _ _ _ _ _ h => h) (by simp only [List.getElem?_toArray, List.getElem?_cons_zero]; rfl) (by kernel_rfl) (by kernel_rfl) (by kernel_rfl) (by rfl) ?_ hHeld ?_
      rotate_left
      · (intro w hSw; (try dsimp only at hSw); go_simp; (try with_reducible rfl))
      try simp only [Act.put, List.setIfInBounds_toArray, List.set_cons_zero, List.set_cons_succ]
      refine wpAnyH_take2 1 (v := ?_) (fun _ _ _ _ _ h => h) (by simp only [List.getElem?_toArray, List.getElem?_cons_succ, List.getElem?_cons_zero]; rfl) (by kernel_rfl) (by kernel_rfl) (by kernel_rfl) (by rfl) ?_ hHeld ?_
      rotate_left
      · (intro w hSw; (try dsimp only at hSw); go_simp; (try with_reducible rfl))
      try simp only [Act.put, List.setIfInBounds_toArray, List.set_cons_zero, List.set_cons_succ]
      refine wpAnyH_take2 2 (v := ?_) (fun _ _ _ _ _ h => h) (by simp only [List.getElem?_toArray, List.getElem?_cons_succ, List.getElem?_cons_zero]; rfl) (by kernel_rfl) (by kernel_rfl) (by kernel_rfl) (by rfl) ?_ hHeld ?_
      rotate_left
      · (intro w hSw; (try dsimp only at hSw); go_simp; (try with_reducible rfl))
      try simp only [Act.put, List.setIfInBounds_toArray, List.set_cons_zero, List.set_cons_succ]
      refine wpAnyH_ready (rs := [3]) (by kernel_rfl) (by simp) ?_
      refine AllReadyH.cons (by simp only [List.getElem?_toArray, List.getElem?_cons_succ, List.getElem?_cons_zero]; rfl) (fun K hK => ?_) AllReadyH.nil
      go_simp
      refine (iadd_any _ _ _ _ _ _ 35 30 _ (by exact ⟨_, H_x.out, sx, EX.out⟩) (by exact ⟨l_b, H_b.out, s_b, rfl⟩) (by omega) (by omega)).mono ?_
      rintro e w15 ⟨b_x1, A_x1, n_x1, c_x1, rfl, h_x1, hb⟩
      replace HT := Lib.hid (HT.out.below hb)
      replace H_a := Lib.hid (H_a.out.below hb)
      replace H_b := Lib.hid (H_b.out.below hb)
      replace H_x := Lib.hid (H_x.out.below hb)
      replace Z_q := Lib.hid (Z_q.out.below hb)
      replace Z_r := Lib.hid (Z_r.out.below hb)
      replace Z_s := Lib.hid (Z_s.out.below hb)
      replace Z_t := Lib.hid (Z_t.out.below hb)
      replace Z_u := Lib.hid (Z_u.out.below hb)
      replace Z_p := Lib.hid (Z_p.out.below hb)
      replace B_a := Lib.hid (B_a.out.below hb)
      replace B_b := Lib.hid (B_b.out.below hb)
      replace B_x := Lib.hid (B_x.out.below hb)
      replace B_q := Lib.hid (B_q.out.below hb)
      replace B_r := Lib.hid (B_r.out.below hb)
      replace B_s := Lib.hid (B_s.out.below hb)
      replace B_t := Lib.hid (B_t.out.below hb)
      replace B_u := Lib.hid (B_u.out.below hb)
      replace B_p := Lib.hid (B_p.out.below hb)
      replace hB := below_next hB hb
      clear hb hHeld
      have Z_x1 := Lib.hid h_x1
      clear h_x1
      go_wp2_with fail
      refine hK.out _ _ (by exact ⟨B_a.out.cell0, B_a.out.cell1, B_b.out.cell0, B_b.out.cell1, B_x.out.cell0, B_x.out.cell1, B_q.out.cell0, B_q.out.cell1, B_r.out.cell0, B_r.out.cell1, B_s.out.cell0, B_s.out.cell1, B_t.out.cell0, B_t.out.cell1, B_u.out.cell0, B_u.out.cell1, B_p.out.cell0, B_p.out.cell1⟩) (fun hHeld => ?_)
      clear hK K
      try simp only [Act.put, List.setIfInBounds_toArray, List.set_cons_zero, List.set_cons_succ]
      refine wpAnyH_ready (rs := [4]) (by kernel_rfl) (by simp) ?_
      refine AllReadyH.cons (by simp only [List.getElem?_toArray, List.getElem?_cons_succ, List.getElem?_cons_zero]; rfl) (fun K hK => ?_) AllReadyH.nil
      go_simp
      refine (zsame_eq (by exact Z_u.out) (by exact Z_x1.out) rfl).mono ?_
      rintro e w16 ⟨rfl, hb⟩
      replace HT := Lib.hid (HT.out.below hb)
      replace H_a := Lib.hid (H_a.out.below hb)
      replace H_b := Lib.hid (H_b.out.below hb)
      replace H_x := Lib.hid (H_x.out.below hb)
      replace Z_q := Lib.hid (Z_q.out.below hb)
      replace Z_r := Lib.hid (Z_r.out.below hb)
      replace Z_s := Lib.hid (Z_s.out.below hb)
      replace Z_t := Lib.hid (Z_t.out.below hb)
      replace Z_u := Lib.hid (Z_u.out.below hb)
      replace Z_p := Lib.hid (Z_p.out.below hb)
      replace Z_x1 := Lib.hid (Z_x1.out.below hb)
      replace B_a := Lib.hid (B_a.out.below hb)
      replace B_b := Lib.hid (B_b.out.below hb)
      replace B_x := Lib.hid (B_x.out.below hb)
      replace B_q := Lib.hid (B_q.out.below hb)
      replace B_r := Lib.hid (B_r.out.below hb)
      replace B_s := Lib.hid (B_s.out.below hb)
      replace B_t := Lib.hid (B_t.out.below hb)
      replace B_u := Lib.hid (B_u.out.below hb)
      replace B_p := Lib.hid (B_p.out.below hb)
      replace hB := below_next hB hb
      clear hb hHeld
      clear Z_x1
      go_wp2_with fail
      refine hK.out _ _ (by exact ⟨B_a.out.cell0, B_a.out.cell1, B_b.out.cell0, B_b.out.cell1, B_x.out.cell0, B_x.out.cell1, B_q.out.cell0, B_q.out.cell1, B_r.out.cell0, B_r.out.cell1, B_s.out.cell0, B_s.out.cell1, B_t.out.cell0, B_t.out.cell1, B_u.out.cell0, B_u.out.cell1, B_p.out.cell0, B_p.out.cell1⟩) (fun hHeld => ?_)
      clear hK K
      try simp only [Act.put, List.setIfInBounds_toArray, List.set_cons_zero, List.set_cons_succ]
      refine wpAnyH_take2 5 (v := ?_) (fun _ _ _ _ _ h => h) (by simp only [List.getElem?_toArray, List.getElem?_cons_succ, List.getElem?_cons_zero]; rfl) (by kernel_rfl) (by kernel_rfl) (by kernel_rfl) (by rfl) ?_ hHeld ?_
      rotate_left
      · (intro w hSw; (try dsimp only at hSw); go_simp; (try with_reducible rfl))
      try simp only [Act.put, List.setIfInBounds_toArray, List.set_cons_zero, List.set_cons_succ]
      refine wpAnyH_take2 6 (v := ?_) (fun _ _ _ _ _ h => h) (by simp only [List.getElem?_toArray, List.getElem?_cons_succ, List.getElem?_cons_zero]; rfl) (by kernel_rfl) (by kernel_rfl) (by kernel_rfl) (by rfl) ?_ hHeld ?_
      rotate_left
      · (intro w hSw; (try dsimp only at hSw); go_simp; (try with_reducible rfl))
      try simp only [Act.put, List.setIfInBounds_toArray, List.set_cons_zero, List.set_cons_succ]
      refine wpAnyH_take2 7 (v := ?_) (fun _ _ _ _ _ h => h) (by simp only [List.getElem?_toArray, List.getElem?_cons_succ, List.getElem?_cons_zero]; rfl) (by kernel_rfl) (by kernel_rfl) (by kernel_rfl) (by rfl) ?_ hHeld ?_
      rotate_left
      · (intro w hSw; (try dsimp only at hSw); go_simp; (try with_reducible rfl))
      try simp only [Act.put, List.setIfInBounds_toArray, List.set_cons_zero, List.set_cons_succ]
      refine wpAnyH_take2 8 (v := ?_) (fun _ _ _ _ _ h => h) (by simp only [List.getElem?_toArray, List.getElem?_cons_succ, List.getElem?_cons_zero]; rfl) (by kernel_rfl) (by kernel_rfl) (by kernel_rfl) (by rfl) ?_ hHeld ?_
      rotate_left
      · (intro w hSw; (try dsimp only at hSw); go_simp; (try with_reducible rfl))
      try simp only [Act.put, List.setIfInBounds_toArray, List.set_cons_zero, List.set_cons_succ]
      refine wpAnyH_ready (rs := [9]) (by kernel_rfl) (by simp) ?_
      refine AllReadyH.cons (by simp only [List.getElem?_toArray, List.getElem?_cons_succ, List.getElem?_cons_zero]; rfl) (fun K hK => ?_) AllReadyH.nil
      go_simp
      refine (imul_any _ _ _ _ _ _ 35 30 _ (by exact ⟨_, H_x.out, sx, EX.out⟩) (by exact ⟨l_b, H_b.out, s_b, rfl⟩) (by omega) (by omega)).mono ?_
      rintro e w17 ⟨b_x2, A_x2, n_x2, c_x2, rfl, h_x2, hb⟩
      replace HT := Lib.hid (HT.out.below hb)
      replace H_a := Lib.hid (H_a.out.below hb)
      replace H_b := Lib.hid (H_b.out.below hb)
      replace H_x := Lib.hid (H_x.out.below hb)
      replace Z_q := Lib.hid (Z_q.out.below hb)
      replace Z_r := Lib.hid (Z_r.out.below hb)
      replace Z_s := Lib.hid (Z_s.out.below hb)
      replace Z_t := Lib.hid (Z_t.out.below hb)
      replace Z_u := Lib.hid (Z_u.out.below hb)
      replace Z_p := Lib.hid (Z_p.out.below hb)
      replace B_a := Lib.hid (B_a.out.below hb)
      replace B_b := Lib.hid (B_b.out.below hb)
      replace B_x := Lib.hid (B_x.out.below hb)
      replace B_q := Lib.hid (B_q.out.below hb)
      replace B_r := Lib.hid (B_r.out.below hb)
      replace B_s := Lib.hid (B_s.out.below hb)
      replace B_t := Lib.hid (B_t.out.below hb)
      replace B_u := Lib.hid (B_u.out.below hb)
      replace B_p := Lib.hid (B_p.out.below hb)
      replace hB := below_next hB hb
      clear hb hHeld
      have Z_x2 := Lib.hid h_x2
      clear h_x2
      go_wp2_with fail
      refine hK.out _ _ (by exact ⟨B_a.out.cell0, B_a.out.cell1, B_b.out.cell0, B_b.out.cell1, B_x.out.cell0, B_x.out.cell1, B_q.out.cell0, B_q.out.cell1, B_r.out.cell0, B_r.out.cell1, B_s.out.cell0, B_s.out.cell1, B_t.out.cell0, B_t.out.cell1, B_u.out.cell0, B_u.out.cell1, B_p.out.cell0, B_p.out.cell1⟩) (fun hHeld => ?_)
      clear hK K
      try simp only [Act.put, List.setIfInBounds_toArray, List.set_cons_zero, List.set_cons_succ]
      refine wpAnyH_ready (rs := [10]) (by kernel_rfl) (by simp) ?_
      refine AllReadyH.cons (by simp only [List.getElem?_toArray, List.getElem?_cons_succ, List.getElem?_cons_zero]; rfl) (fun K hK => ?_) AllReadyH.nil
      go_simp
      refine (zsame_eq (by exact Z_p.out) (by exact Z_x2.out) rfl).mono ?_
      rintro e w18 ⟨rfl, hb⟩
      replace HT := Lib.hid (HT.out.below hb)
      replace H_a := Lib.hid (H_a.out.below hb)
      replace H_b := Lib.hid (H_b.out.below hb)
      replace H_x := Lib.hid (H_x.out.below hb)
      replace Z_q := Lib.hid (Z_q.out.below hb)
      replace Z_r := Lib.hid (Z_r.out.below hb)
      replace Z_s := Lib.hid (Z_s.out.below hb)
      replace Z_t := Lib.hid (Z_t.out.below hb)
      replace Z_u := Lib.hid (Z_u.out.below hb)
      replace Z_p := Lib.hid (Z_p.out.below hb)
      replace Z_x2 := Lib.hid (Z_x2.out.below hb)
      replace B_a := Lib.hid (B_a.out.below hb)
      replace B_b := Lib.hid (B_b.out.below hb)
      replace B_x := Lib.hid (B_x.out.below hb)
      replace B_q := Lib.hid (B_q.out.below hb)
      replace B_r := Lib.hid (B_r.out.below hb)
      replace B_s := Lib.hid (B_s.out.below hb)
      replace B_t := Lib.hid (B_t.out.below hb)
      replace B_u := Lib.hid (B_u.out.below hb)
      replace B_p := Lib.hid (B_p.out.below hb)
      replace hB := below_next hB hb
      clear hb hHeld
      clear Z_x2
      go_wp2_with fail
      refine hK.out _ _ (by exact ⟨B_a.out.cell0, B_a.out.cell1, B_b.out.cell0, B_b.out.cell1, B_x.out.cell0, B_x.out.cell1, B_q.out.cell0, B_q.out.cell1, B_r.out.cell0, B_r.out.cell1, B_s.out.cell0, B_s.out.cell1, B_t.out.cell0, B_t.out.cell1, B_u.out.cell0, B_u.out.cell1, B_p.out.cell0, B_p.out.cell1⟩) (fun hHeld => ?_)
      clear hK K
      try simp only [Act.put, List.setIfInBounds_toArray, List.set_cons_zero, List.set_cons_succ]
      refine wpAnyH_take2 11 (v := ?_) (fun _ _ _ _ _ h => h) (by simp only [List.getElem?_toArray, List.getElem?_cons_succ, List.getElem?_cons_zero]; rfl) (by kernel_rfl) (by kernel_rfl) (by kernel_rfl) (by rfl) ?_ hHeld ?_
      rotate_left
      · (intro w hSw; (try dsimp only at hSw); go_simp; (try with_reducible rfl))
      try simp only [Act.put, List.setIfInBounds_toArray, List.set_cons_zero, List.set_cons_succ]
      refine wpAnyH_take2 12 (v := ?_) (fun _ _ _ _ _ h => h) (by simp only [List.getElem?_toArray, List.getElem?_cons_succ, List.getElem?_cons_zero]; rfl) (by kernel_rfl) (by kernel_rfl) (by kernel_rfl) (by rfl) ?_ hHeld ?_
      rotate_left
      · (intro w hSw; (try dsimp only at hSw); go_simp; (try with_reducible rfl))
      try simp only [Act.put, List.setIfInBounds_toArray, List.set_cons_zero, List.set_cons_succ]
      refine wpAnyH_take2 13 (v := ?_) (fun _ _ _ _ _ h => h) (by simp only [List.getElem?_toArray, List.getElem?_cons_succ, List.getElem?_cons_zero]; rfl) (by kernel_rfl) (by kernel_rfl) (by kernel_rfl) (by rfl) ?_ hHeld ?_
      rotate_left
      · (intro w hSw; (try dsimp only at hSw); go_simp; (try with_reducible rfl))
      try simp only [Act.put, List.setIfInBounds_toArray, List.set_cons_zero, List.set_cons_succ]
      refine wpAnyH_take2 14 (v := ?_) (fun _ _ _ _ _ h => h) (by simp only [List.getElem?_toArray, List.getElem?_cons_succ, List.getElem?_cons_zero]; rfl) (by kernel_rfl) (by kernel_rfl) (by kernel_rfl) (by rfl) ?_ hHeld ?_
      rotate_left
      · (intro w hSw; (try dsimp only at hSw); go_simp; (try with_reducible rfl))
      try simp only [Act.put, List.setIfInBounds_toArray, List.set_cons_zero, List.set_cons_succ]
      refine wpAnyH_ready (rs := [15]) (by kernel_rfl) (by simp) ?_
      refine AllReadyH.cons (by simp only [List.getElem?_toArray, List.getElem?_cons_succ, List.getElem?_cons_zero]; rfl) (fun K hK => ?_) AllReadyH.nil
      go_simp
      refine (zsame_eq (by exact Z_q.out) (by exact Z_s.out) rfl).mono ?_
      rintro e w19 ⟨rfl, hb⟩
      replace HT := Lib.hid (HT.out.below hb)
      replace H_a := Lib.hid (H_a.out.below hb)
      replace H_b := Lib.hid (H_b.out.below hb)
      replace H_x := Lib.hid (H_x.out.below hb)
      replace Z_q := Lib.hid (Z_q.out.below hb)
      replace Z_r := Lib.hid (Z_r.out.below hb)
      replace Z_s := Lib.hid (Z_s.out.below hb)
      replace Z_t := Lib.hid (Z_t.out.below hb)
      replace Z_u := Lib.hid (Z_u.out.below hb)
      replace Z_p := Lib.hid (Z_p.out.below hb)
      replace B_a := Lib.hid (B_a.out.below hb)
      replace B_b := Lib.hid (B_b.out.below hb)
      replace B_x := Lib.hid (B_x.out.below hb)
      replace B_q := Lib.hid (B_q.out.below hb)
      replace B_r := Lib.hid (B_r.out.below hb)
      replace B_s := Lib.hid (B_s.out.below hb)
      replace B_t := Lib.hid (B_t.out.below hb)
      replace B_u := Lib.hid (B_u.out.below hb)
      replace B_p := Lib.hid (B_p.out.below hb)
      replace hB := below_next hB hb
      clear hb hHeld
      go_wp2_with fail
      refine hK.out _ _ (by exact ⟨B_a.out.cell0, B_a.out.cell1, B_b.out.cell0, B_b.out.cell1, B_x.out.cell0, B_x.out.cell1, B_q.out.cell0, B_q.out.cell1, B_r.out.cell0, B_r.out.cell1, B_s.out.cell0, B_s.out.cell1, B_t.out.cell0, B_t.out.cell1, B_u.out.cell0, B_u.out.cell1, B_p.out.cell0, B_p.out.cell1⟩) (fun hHeld => ?_)
      clear hK K
      try simp only [Act.put, List.setIfInBounds_toArray, List.set_cons_zero, List.set_cons_succ]
      refine wpAnyH_take2 16 (v := ?_) (fun _ _ _ _ _ h => h) (by simp only [List.getElem?_toArray, List.getElem?_cons_succ, List.getElem?_cons_zero]; rfl) (by kernel_rfl) (by kernel_rfl) (by kernel_rfl) (by rfl) ?_ hHeld ?_
      rotate_left
      · (intro w hSw; (try dsimp only at hSw); go_simp; (try with_reducible rfl))
      try simp only [Act.put, List.setIfInBounds_toArray, List.set_cons_zero, List.set_cons_succ]
      refine wpAnyH_take2 17 (v := ?_) (fun _ _ _ _ _ h => h) (by simp only [List.getElem?_toArray, List.getElem?_cons_succ, List.getElem?_cons_zero]; rfl) (by kernel_rfl) (by kernel_rfl) (by kernel_rfl) (by rfl) ?_ hHeld ?_
      rotate_left
      · (intro w hSw; (try dsimp only at hSw); go_simp; (try with_reducible rfl))
      try simp only [Act.put, List.setIfInBounds_toArray, List.set_cons_zero, List.set_cons_succ]
      refine wpAnyH_take2 18 (v := ?_) (fun _ _ _ _ _ h => h) (by simp only [List.getElem?_toArray, List.getElem?_cons_succ, List.getElem?_cons_zero]; rfl) (by kernel_rfl) (by kernel_rfl) (by kernel_rfl) (by rfl) ?_ hHeld ?_
      rotate_left
      · (intro w hSw; (try dsimp only at hSw); go_simp; (try with_reducible rfl))
      try simp only [Act.put, List.setIfInBounds_toArray, List.set_cons_zero, List.set_cons_succ]
      refine wpAnyH_take2 19 (v := ?_) (fun _ _ _ _ _ h => h) (by simp only [List.getElem?_toArray, List.getElem?_cons_succ, List.getElem?_cons_zero]; rfl) (by kernel_rfl) (by kernel_rfl) (by kernel_rfl) (by rfl) ?_ hHeld ?_
      rotate_left
      · (intro w hSw; (try dsimp only at hSw); go_simp; (try with_reducible rfl))
      try simp only [Act.put, List.setIfInBounds_toArray, List.set_cons_zero, List.set_cons_succ]
      refine wpAnyH_ready (rs := [20]) (by kernel_rfl) (by simp) ?_
      refine AllReadyH.cons (by simp only [List.getElem?_toArray, List.getElem?_cons_succ, List.getElem?_cons_zero]; rfl) (fun K hK => ?_) AllReadyH.nil
      go_simp
      refine (zsame_eq (by exact Z_r.out) (by exact Z_t.out) rfl).mono ?_
      rintro e w20 ⟨rfl, hb⟩
      replace HT := Lib.hid (HT.out.below hb)
      replace H_a := Lib.hid (H_a.out.below hb)
      replace H_b := Lib.hid (H_b.out.below hb)
      replace H_x := Lib.hid (H_x.out.below hb)
      replace Z_q := Lib.hid (Z_q.out.below hb)
      replace Z_r := Lib.hid (Z_r.out.below hb)
      replace Z_s := Lib.hid (Z_s.out.below hb)
      replace Z_t := Lib.hid (Z_t.out.below hb)
      replace Z_u := Lib.hid (Z_u.out.below hb)
      replace Z_p := Lib.hid (Z_p.out.below hb)
      replace B_a := Lib.hid (B_a.out.below hb)
      replace B_b := Lib.hid (B_b.out.below hb)
      replace B_x := Lib.hid (B_x.out.below hb)
      replace B_q := Lib.hid (B_q.out.below hb)
      replace B_r := Lib.hid (B_r.out.below hb)
      replace B_s := Lib.hid (B_s.out.below hb)
      replace B_t := Lib.hid (B_t.out.below hb)
      replace B_u := Lib.hid (B_u.out.below hb)
      replace B_p := Lib.hid (B_p.out.below hb)
      replace hB := below_next hB hb
      clear hb hHeld
      go_wp2_with fail
      refine hK.out _ _ (by exact ⟨B_a.out.cell0, B_a.out.cell1, B_b.out.cell0, B_b.out.cell1, B_x.out.cell0, B_x.out.cell1, B_q.out.cell0, B_q.out.cell1, B_r.out.cell0, B_r.out.cell1, B_s.out.cell0, B_s.out.cell1, B_t.out.cell0, B_t.out.cell1, B_u.out.cell0, B_u.out.cell1, B_p.out.cell0, B_p.out.cell1⟩) (fun hHeld => ?_)
      clear hK K
      try simp only [Act.put, List.setIfInBounds_toArray, List.set_cons_zero, List.set_cons_succ]
      refine wpAnyH_take2 21 (v := ?_) (fun _ _ _ _ _ h => h) (by simp only [List.getElem?_toArray, List.getElem?_cons_succ, List.getElem?_cons_zero]; rfl) (by kernel_rfl) (by kernel_rfl) (by kernel_rfl) (by rfl) ?_ hHeld ?_
      rotate_left
      · (intro w hSw; (try dsimp only at hSw); go_simp; (try with_reducible rfl))
      try simp only [Act.put, List.setIfInBounds_toArray, List.set_cons_zero, List.set_cons_succ]
      refine wpAnyH_take2 22 (v := ?_) (fun _ _ _ _ _ h => h) (by simp only [List.getElem?_toArray, List.getElem?_cons_succ, List.getElem?_cons_zero]; rfl) (by kernel_rfl) (by kernel_rfl) (by kernel_rfl) (by rfl) ?_ hHeld ?_
      rotate_left
      · (intro w hSw; (try dsimp only at hSw); go_simp; (try with_reducible rfl))
      try simp only [Act.put, List.setIfInBounds_toArray, List.set_cons_zero, List.set_cons_succ]
      refine wpAnyH_take2 23 (v := ?_) (fun _ _ _ _ _ h => h) (by simp only [List.getElem?_toArray, List.getElem?_cons_succ, List.getElem?_cons_zero]; rfl) (by kernel_rfl) (by kernel_rfl) (by kernel_rfl) (by rfl) ?_ hHeld ?_
      rotate_left
      · (intro w hSw; (try dsimp only at hSw); go_simp; (try with_reducible rfl))
      try simp only [Act.put, List.setIfInBounds_toArray, List.set_cons_zero, List.set_cons_succ]
      refine wpAnyH_take2 24 (v := ?_) (fun _ _ _ _ _ h => h) (by simp only [List.getElem?_toArray, List.getElem?_cons_succ, List.getElem?_cons_zero]; rfl) (by kernel_rfl) (by kernel_rfl) (by kernel_rfl) (by rfl) ?_ hHeld ?_
      rotate_left
      · (intro w hSw; (try dsimp only at hSw); go_simp; (try with_reducible rfl))
      try simp only [Act.put, List.setIfInBounds_toArray, List.set_cons_zero, List.set_cons_succ]
      refine wpAnyH_take2 25 (v := ?_) (fun _ _ _ _ _ h => h) (by simp only [List.getElem?_toArray, List.getElem?_cons_succ, List.getElem?_cons_zero]; rfl) (by kernel_rfl) (by kernel_rfl) (by kernel_rfl) (by rfl) ?_ hHeld ?_
      rotate_left
      · (intro w hSw; (try dsimp only at hSw); go_simp; (try with_reducible rfl))
      try simp only [Act.put, List.setIfInBounds_toArray, List.set_cons_zero, List.set_cons_succ]
      refine wpAnyH_take2 26 (v := ?_) (fun _ _ _ _ _ h => h) (by simp only [List.getElem?_toArray, List.getElem?_cons_succ, List.getElem?_cons_zero]; rfl) (by kernel_rfl) (by kernel_rfl) (by kernel_rfl) (by rfl) ?_ hHeld ?_
      rotate_left
      · (intro w hSw; (try dsimp only at hSw); go_simp; (try with_reducible rfl))
      try simp only [Act.put, List.setIfInBounds_toArray, List.set_cons_zero, List.set_cons_succ]
      refine wpAnyH_take2 27 (v := ?_) (fun _ _ _ _ _ h => h) (by simp only [List.getElem?_toArray, List.getElem?_cons_succ, List.getElem?_cons_zero]; rfl) (by kernel_rfl) (by kernel_rfl) (by kernel_rfl) (by rfl) ?_ hHeld ?_
      rotate_left
      · (intro w hSw; (try dsimp only at hSw); go_simp; (try with_reducible rfl))
      try simp only [Act.put, List.setIfInBounds_toArray, List.set_cons_zero, List.set_cons_succ]
      refine wpAnyH_take2 28 (v := ?_) (fun _ _ _ _ _ h => h) (by simp only [List.getElem?_toArray, List.getElem?_cons_succ, List.getElem?_cons_zero]; rfl) (by kernel_rfl) (by kernel_rfl) (by kernel_rfl) (by rfl) ?_ hHeld ?_
      rotate_left
      · (intro w hSw; (try dsimp only at hSw); go_simp; (try with_reducible rfl))
      try simp only [Act.put, List.setIfInBounds_toArray, List.set_cons_zero, List.set_cons_succ]
      refine wpAnyH_take2 30 (v := ?_) (fun _ _ _ _ _ h => h) (by simp only [List.getElem?_toArray, List.getElem?_cons_succ, List.getElem?_cons_zero]; rfl) (by kernel_rfl) (by kernel_rfl) (by kernel_rfl) (by rfl) ?_ hHeld ?_
      rotate_left
      · (intro w hSw; (try dsimp only at hSw); go_simp; (try with_reducible rfl))
      try simp only [Act.put, List.setIfInBounds_toArray, List.set_cons_zero, List.set_cons_succ]
      refine wpAnyH_ready (rs := [29]) (by kernel_rfl) (by simp) ?_
      refine AllReadyH.cons (by simp only [List.getElem?_toArray, List.getElem?_cons_succ, List.getElem?_cons_zero]; rfl) (fun K hK => ?_) AllReadyH.nil
      go_simp
      refine (itext_any _ _ (zval b_a l_a) 30 _ (by exact ⟨l_a, H_a.out, s_a, rfl⟩) (by omega) (by exact HT.out)).mono ?_
      rintro e w21 ⟨rfl, hb⟩
      replace HT := Lib.hid (HT.out.below hb)
      replace H_a := Lib.hid (H_a.out.below hb)
      replace H_b := Lib.hid (H_b.out.below hb)
      replace H_x := Lib.hid (H_x.out.below hb)
      replace Z_q := Lib.hid (Z_q.out.below hb)
      replace Z_r := Lib.hid (Z_r.out.below hb)
      replace Z_s := Lib.hid (Z_s.out.below hb)
      replace Z_t := Lib.hid (Z_t.out.below hb)
      replace Z_u := Lib.hid (Z_u.out.below hb)
      replace Z_p := Lib.hid (Z_p.out.below hb)
      replace B_a := Lib.hid (B_a.out.below hb)
      replace B_b := Lib.hid (B_b.out.below hb)
      replace B_x := Lib.hid (B_x.out.below hb)
      replace B_q := Lib.hid (B_q.out.below hb)
      replace B_r := Lib.hid (B_r.out.below hb)
      replace B_s := Lib.hid (B_s.out.below hb)
      replace B_t := Lib.hid (B_t.out.below hb)
      replace B_u := Lib.hid (B_u.out.below hb)
      replace B_p := Lib.hid (B_p.out.below hb)
      replace hB := below_next hB hb
      clear hb hHeld
      go_wp2_with fail
      refine hK.out _ _ (by exact ⟨B_a.out.cell0, B_a.out.cell1, B_b.out.cell0, B_b.out.cell1, B_x.out.cell0, B_x.out.cell1, B_q.out.cell0, B_q.out.cell1, B_r.out.cell0, B_r.out.cell1, B_s.out.cell0, B_s.out.cell1, B_t.out.cell0, B_t.out.cell1, B_u.out.cell0, B_u.out.cell1, B_p.out.cell0, B_p.out.cell1⟩) (fun hHeld => ?_)
      clear hK K
      try simp only [Act.put, List.setIfInBounds_toArray, List.set_cons_zero, List.set_cons_succ]
      refine wpAnyH_ready (rs := [31]) (by kernel_rfl) (by simp) ?_
      refine AllReadyH.cons (by simp only [List.getElem?_toArray, List.getElem?_cons_succ, List.getElem?_cons_zero]; rfl) (fun K hK => ?_) AllReadyH.nil
      go_simp
      refine (itext_any _ _ (zval b_a l_a) 35 _ (by exact ⟨_, H_x.out, sx, EX.out⟩) (by omega) (by exact HT.out)).mono ?_
      rintro e w22 ⟨rfl, hb⟩
      replace HT := Lib.hid (HT.out.below hb)
      replace H_a := Lib.hid (H_a.out.below hb)
      replace H_b := Lib.hid (H_b.out.below hb)
      replace H_x := Lib.hid (H_x.out.below hb)
      replace Z_q := Lib.hid (Z_q.out.below hb)
      replace Z_r := Lib.hid (Z_r.out.below hb)
      replace Z_s := Lib.hid (Z_s.out.below hb)
      replace Z_t := Lib.hid (Z_t.out.below hb)
      replace Z_u := Lib.hid (Z_u.out.below hb)
      replace Z_p := Lib.hid (Z_p.out.below hb)
      replace B_a := Lib.hid (B_a.out.below hb)
      replace B_b := Lib.hid (B_b.out.below hb)
      replace B_x := Lib.hid (B_x.out.below hb)
      replace B_q := Lib.hid (B_q.out.below hb)
      replace B_r := Lib.hid (B_r.out.below hb)
      replace B_s := Lib.hid (B_s.out.below hb)
      replace B_t := Lib.hid (B_t.out.below hb)
      replace B_u := Lib.hid (B_u.out.below hb)
      replace B_p := Lib.hid (B_p.out.below hb)
      replace hB := below_next hB hb
      clear hb hHeld
      go_wp2_with fail
      refine hK.out _ _ (by exact ⟨B_a.out.cell0, B_a.out.cell1, B_b.out.cell0, B_b.out.cell1, B_x.out.cell0, B_x.out.cell1, B_q.out.cell0, B_q.out.cell1, B_r.out.cell0, B_r.out.cell1, B_s.out.cell0, B_s.out.cell1, B_t.out.cell0, B_t.out.cell1, B_u.out.cell0, B_u.out.cell1, B_p.out.cell0, B_p.out.cell1⟩) (fun hHeld => ?_)
      clear hK K
      try simp only [Act.put, List.setIfInBounds_toArray, List.set_cons_zero, List.set_cons_succ]
      refine wpAnyH_take2 32 (v := ?_) (fun _ _ _ _ _ h => h) (by simp only [List.getElem?_toArray, List.getElem?_cons_succ, List.getElem?_cons_zero]; rfl) (by kernel_rfl) (by kernel_rfl) (by kernel_rfl) (by rfl) ?_ hHeld ?_
      rotate_left
      · (intro w hSw; (try dsimp only at hSw); go_simp; (try with_reducible rfl))
      try simp only [Act.put, List.setIfInBounds_toArray, List.set_cons_zero, List.set_cons_succ]
      refine wpAnyH_take2 33 (v := ?_) (fun _ _ _ _ _ h => h) (by simp only [List.getElem?_toArray, List.getElem?_cons_succ, List.getElem?_cons_zero]; rfl) (by kernel_rfl) (by kernel_rfl) (by kernel_rfl) (by rfl) ?_ hHeld ?_
      rotate_left
      · (intro w hSw; (try dsimp only at hSw); go_simp; (try with_reducible rfl))
      try simp only [Act.put, List.setIfInBounds_toArray, List.set_cons_zero, List.set_cons_succ]
      refine wpAnyH_take2 34 (v := ?_) (fun _ _ _ _ _ h => h) (by simp only [List.getElem?_toArray, List.getElem?_cons_succ, List.getElem?_cons_zero]; rfl) (by kernel_rfl) (by kernel_rfl) (by kernel_rfl) (by rfl) ?_ hHeld ?_
      rotate_left
      · (intro w hSw; (try dsimp only at hSw); go_simp; (try with_reducible rfl))
      try simp only [Act.put, List.setIfInBounds_toArray, List.set_cons_zero, List.set_cons_succ]
      refine wpAnyH_take2 35 (v := ?_) (fun _ _ _ _ _ h => h) (by simp only [List.getElem?_toArray, List.getElem?_cons_succ, List.getElem?_cons_zero]; rfl) (by kernel_rfl) (by kernel_rfl) (by kernel_rfl) (by rfl) ?_ hHeld ?_
      rotate_left
      · (intro w hSw; (try dsimp only at hSw); go_simp; (try with_reducible rfl))
      try simp only [Act.put, List.setIfInBounds_toArray, List.set_cons_zero, List.set_cons_succ]
      refine wpAnyH_take2 36 (v := ?_) (fun _ _ _ _ _ h => h) (by simp only [List.getElem?_toArray, List.getElem?_cons_succ, List.getElem?_cons_zero]; rfl) (by kernel_rfl) (by kernel_rfl) (by kernel_rfl) (by rfl) ?_ hHeld ?_
      rotate_left
      · (intro w hSw; (try dsimp only at hSw); go_simp; (try with_reducible rfl))
      try simp only [Act.put, List.setIfInBounds_toArray, List.set_cons_zero, List.set_cons_succ]
      refine wpAnyH_ready (rs := [37]) (by kernel_rfl) (by simp) ?_
      refine AllReadyH.cons (by simp only [List.getElem?_toArray, List.getElem?_cons_succ, List.getElem?_cons_zero]; rfl) (fun K hK => ?_) AllReadyH.nil
      go_simp
      refine (icmp_eq (k1 := 30) (k2 := 35) (z2 := zval b_a l_a) (by exact ⟨l_a, H_a.out, s_a, rfl⟩) (by exact ⟨_, H_x.out, sx, EX.out⟩) (by omega) (by omega) rfl).mono ?_
      rintro e w23 ⟨rfl, hb⟩
      replace HT := Lib.hid (HT.out.below hb)
      replace H_a := Lib.hid (H_a.out.below hb)
      replace H_b := Lib.hid (H_b.out.below hb)
      replace H_x := Lib.hid (H_x.out.below hb)
      replace Z_q := Lib.hid (Z_q.out.below hb)
      replace Z_r := Lib.hid (Z_r.out.below hb)
      replace Z_s := Lib.hid (Z_s.out.below hb)
      replace Z_t := Lib.hid (Z_t.out.below hb)
      replace Z_u := Lib.hid (Z_u.out.below hb)
      replace Z_p := Lib.hid (Z_p.out.below hb)
      replace B_a := Lib.hid (B_a.out.below hb)
      replace B_b := Lib.hid (B_b.out.below hb)
      replace B_x := Lib.hid (B_x.out.below hb)
      replace B_q := Lib.hid (B_q.out.below hb)
      replace B_r := Lib.hid (B_r.out.below hb)
      replace B_s := Lib.hid (B_s.out.below hb)
      replace B_t := Lib.hid (B_t.out.below hb)
      replace B_u := Lib.hid (B_u.out.below hb)
      replace B_p := Lib.hid (B_p.out.below hb)
      replace hB := below_next hB hb
      clear hb hHeld
      go_wp2_with fail
      refine hK.out _ _ (by exact ⟨B_a.out.cell0, B_a.out.cell1, B_b.out.cell0, B_b.out.cell1, B_x.out.cell0, B_x.out.cell1, B_q.out.cell0, B_q.out.cell1, B_r.out.cell0, B_r.out.cell1, B_s.out.cell0, B_s.out.cell1, B_t.out.cell0, B_t.out.cell1, B_u.out.cell0, B_u.out.cell1, B_p.out.cell0, B_p.out.cell1⟩) (fun hHeld => ?_)
      clear hK K
      try simp only [Act.put, List.setIfInBounds_toArray, List.set_cons_zero, List.set_cons_succ]
      refine wpAnyH_take2 38 (v := ?_) (fun _ _ _ _ _ h => h) (by simp only [List.getElem?_toArray, List.getElem?_cons_succ, List.getElem?_cons_zero]; rfl) (by kernel_rfl) (by kernel_rfl) (by kernel_rfl) (by rfl) ?_ hHeld ?_
      rotate_left
      · (intro w hSw; (try dsimp only at hSw); go_simp; (try with_reducible rfl))
      try simp only [Act.put, List.setIfInBounds_toArray, List.set_cons_zero, List.set_cons_succ]
      refine wpAnyH_take2 39 (v := ?_) (fun _ _ _ _ _ h => h) (by simp only [List.getElem?_toArray, List.getElem?_cons_succ, List.getElem?_cons_zero]; rfl) (by kernel_rfl) (by kernel_rfl) (by kernel_rfl) (by rfl) ?_ hHeld ?_
      rotate_left
      · (intro w hSw; (try dsimp only at hSw); go_simp; (try with_reducible rfl))
      try simp only [Act.put, List.setIfInBounds_toArray, List.set_cons_zero, List.set_cons_succ]
      refine wpAnyH_take2 40 (v := ?_) (fun _ _ _ _ _ h => h) (by simp only [List.getElem?_toArray, List.getElem?_cons_succ, List.getElem?_cons_zero]; rfl) (by kernel_rfl) (by kernel_rfl) (by kernel_rfl) (by rfl) ?_ hHeld ?_
      rotate_left
      · (intro w hSw; (try dsimp only at hSw); go_simp; (try with_reducible rfl))
      try simp only [Act.put, List.setIfInBounds_toArray, List.set_cons_zero, List.set_cons_succ]
      refine wpAnyH_ready (rs := [41]) (by kernel_rfl) (by simp) ?_
      refine AllReadyH.cons (by simp only [List.getElem?_toArray, List.getElem?_cons_succ, List.getElem?_cons_zero]; rfl) (fun K hK => ?_) AllReadyH.nil
      go_simp
      refine (awake_any _ (by exact HT.out)).mono ?_
      rintro e w24 ⟨rfl, hb⟩
      replace HT := Lib.hid (HT.out.below hb)
      replace H_a := Lib.hid (H_a.out.below hb)
      replace H_b := Lib.hid (H_b.out.below hb)
      replace H_x := Lib.hid (H_x.out.below hb)
      replace Z_q := Lib.hid (Z_q.out.below hb)
      replace Z_r := Lib.hid (Z_r.out.below hb)
      replace Z_s := Lib.hid (Z_s.out.below hb)
      replace Z_t := Lib.hid (Z_t.out.below hb)
      replace Z_u := Lib.hid (Z_u.out.below hb)
      replace Z_p := Lib.hid (Z_p.out.below hb)
      replace B_a := Lib.hid (B_a.out.below hb)
      replace B_b := Lib.hid (B_b.out.below hb)
      replace B_x := Lib.hid (B_x.out.below hb)
      replace B_q := Lib.hid (B_q.out.below hb)
      replace B_r := Lib.hid (B_r.out.below hb)
      replace B_s := Lib.hid (B_s.out.below hb)
      replace B_t := Lib.hid (B_t.out.below hb)
      replace B_u := Lib.hid (B_u.out.below hb)
      replace B_p := Lib.hid (B_p.out.below hb)
      replace hB := below_next hB hb
      clear hb hHeld
      go_wp2_with fail
      refine hK.out _ _ (by exact ⟨B_a.out.cell0, B_a.out.cell1, B_b.out.cell0, B_b.out.cell1, B_x.out.cell0, B_x.out.cell1, B_q.out.cell0, B_q.out.cell1, B_r.out.cell0, B_r.out.cell1, B_s.out.cell0, B_s.out.cell1, B_t.out.cell0, B_t.out.cell1, B_u.out.cell0, B_u.out.cell1, B_p.out.cell0, B_p.out.cell1⟩) (fun hHeld => ?_)
      clear hK K
      try simp only [Act.put, List.setIfInBounds_toArray, List.set_cons_zero, List.set_cons_succ]
      refine wpAnyH_take2 42 (v := ?_) (fun _ _ _ _ _ h => h) (by simp only [List.getElem?_toArray, List.getElem?_cons_succ, List.getElem?_cons_zero]; rfl) (by kernel_rfl) (by kernel_rfl) (by kernel_rfl) (by rfl) ?_ hHeld ?_
      rotate_left
      · (intro w hSw; (try dsimp only at hSw); go_simp; (try with_reducible rfl))
      try simp only [Act.put, List.setIfInBounds_toArray, List.set_cons_zero, List.set_cons_succ]
      refine wpAnyH_take2 43 (v := ?_) (fun _ _ _ _ _ h => h) (by simp only [List.getElem?_toArray, List.getElem?_cons_succ, List.getElem?_cons_zero]; rfl) (by kernel_rfl) (by kernel_rfl) (by kernel_rfl) (by rfl) ?_ hHeld ?_
      rotate_left
      · (intro w hSw; (try dsimp only at hSw); go_simp; (try with_reducible rfl))
      try simp only [Act.put, List.setIfInBounds_toArray, List.set_cons_zero, List.set_cons_succ]
      refine wpAnyH_done (by kernel_rfl) (NoPanic.normal ?_) _
      clear hHeld
      have c_a0 := B_a.out.cell0
      have c_a1 := B_a.out.cell1
      have c_b0 := B_b.out.cell0
      have c_b1 := B_b.out.cell1
      have c_x0 := B_x.out.cell0
      have c_x1 := B_x.out.cell1
      have c_q0 := B_q.out.cell0
      have c_q1 := B_q.out.cell1
      have c_r0 := B_r.out.cell0
      have c_r1 := B_r.out.cell1
      have c_s0 := B_s.out.cell0
      have c_s1 := B_s.out.cell1
      have c_t0 := B_t.out.cell0
      have c_t1 := B_t.out.cell1
      have c_u0 := B_u.out.cell0
      have c_u1 := B_u.out.cell1
      have c_p0 := B_p.out.cell0
      have c_p1 := B_p.out.cell1
      go_wp2
      go_ret
      exact ⟨rfl, hB⟩
end Go.Proofs.YtcdfhiocglibfaaDoor
