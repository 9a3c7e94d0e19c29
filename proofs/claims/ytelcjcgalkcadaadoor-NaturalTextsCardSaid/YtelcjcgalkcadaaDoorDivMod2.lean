/- natural.DivMod, the long division. -/
import Derived.Test.YtelcjcgalkcadaaDoorDivMod
namespace Go.Proofs.YtelcjcgalkcadaaDoor
open Go.RowKit

theorem below_undrew {w w' : World} (h : Below w.drew.heap.size w.drew w') : Below w.heap.size w w' := ⟨h.os, h.tape, h.output, h.size, h.block⟩
set_option maxRecDepth 100000 in
set_option maxHeartbeats 4000000 in
theorem divmod_long (va vb : Value) (xs ys : List Nat) (m : Nat) (w : World) (ha : NatAt w va xs) (hb : NatAt w vb ys) (hxl : xs.length ≤ 500000) (hyl : ys.length ≤ 500000) (hge : val ys ≤ val xs) (hlen : (limbs (val ys)).length = m + 2) :
    Calls Tryd.prog 26 #[va, vb] w (GivesDiv w (limbs (val xs / val ys)) (limbs (val xs % val ys)) true) := by
  have HA := Lib.hid ha
  have HB := Lib.hid hb
  have h0 : val ys ≠ 0 := fun e => by rw [e, limbs_zero] at hlen; simp at hlen
  have hl1 := limbs_val_length ha.lim
  have hl2 := limbs_val_length hb.lim
  have hl3 := limbs_length_mono hge
  have htop := limbs_last h0
  rw [hlen] at hl2 hl3 htop
  rw [show m + 2 - 1 = m + 1 from by omega] at htop
  have HTOP := Lib.hid htop
  have HGE := Lib.hid hge
  have HL := Lib.hid hlen
  have H0 := Lib.hid h0
  clear ha hb hge hlen h0 htop
  go_enter Tryd.func26, Tryd.ntmps26
  go_wp2_with fail
  refine (trim_any _ _ _ HA.out).mono ?_
  rintro e w' ⟨v1, rfl, rfl, h1⟩
  have H1 := Lib.hid h1
  clear h1
  go_wp2_with fail
  refine (trim_any _ _ _ HB.out).mono ?_
  rintro e w' ⟨v2, rfl, rfl, h2⟩
  have h1 := H1.out
  have E1 := Lib.hid (val_limbs (val xs))
  have E2 := Lib.hid (val_limbs (val ys))
  clear H1
  generalize limbs (val xs) = us at *
  generalize limbs (val ys) = vs at *
  have Hu := Lib.hid h1
  have Hv := Lib.hid h2
  obtain ⟨A, c, rfl, g1, g2⟩ := h1.form
  obtain ⟨A2, c2, rfl, k1, k2⟩ := h2.form
  obtain ⟨b2, o2, rfl, hb2, hc2⟩ := h2.at_ (by rw [HL.out]; omega)
  have hcv := hc2 (m + 1) (by rw [HL.out]; omega)
  clear h1 h2 hc2
  have hvl := Hv.out.lim.get (m + 1)
  have hord : (0 : Int) ≤ ord (val us) (val vs) := by rw [E1.out, E2.out]; unfold ord; rw [if_neg (by have := HGE.out; omega)]; split <;> omega
  rw [HL.out] at k1 k2 ⊢
  have Hv2 := Hv.out
  rw [HL.out] at Hv2
  have Hv := Lib.hid Hv2
  clear Hv2
  go_wp2_with fail
  refine (cmp_below _ _ _ _ _ Hu.out Hv.out).mono ?_
  rintro e w0 ⟨rfl, hb0, hz0⟩
  obtain ⟨oc, hoc⟩ : ∃ oc, oc = ord (val us) (val vs) := ⟨_, rfl⟩
  rw [← hoc] at hord ⊢
  clear hoc
  have hoB : decide (oc < 0) = false := by simp; omega
  have hcv0 := (hb0.cell (p := ⟨b2, o2 + (m + 1), none⟩) hb2).trans hcv
  clear hcv
  have HS := Lib.hid (fun (R : List Nat) (hR : Lim R) (hRl : R.length = m + 2 + 1) => left_div (R := R) (by omega : 1 ≤ m + 2) HL.out Hv.out.lim hR hRl)
  obtain ⟨y, hy⟩ : ∃ y : Nat, y = vs.getD (m + 1) 0 := ⟨_, rfl⟩
  rw [← hy] at hcv0 hvl
  have HY := Lib.hid hy
  clear hy
  go_wp2_with fail
  refine (lz32_any y _ hvl).mono ?_
  rintro e w1 ⟨rfl, n1, hw1⟩
  have hb1 : Below w.heap.size w w1 := by rw [hw1]; exact below_drewN hb0 n1
  have hz1 : w1.heap.size ≤ w.heap.size := by rw [hw1]; exact hz0
  clear hw1
  obtain ⟨s, hs⟩ : ∃ s : Nat, s = 32 - Lib.bitLen y := ⟨_, rfl⟩
  rw [← hs]
  have HSS := Lib.hid hs
  clear hs
  have hs32 : s < 32 := by
    rw [HSS.out]
    have := (bitLen_bounds 32 y hvl (by rw [HY.out]; exact HTOP.out) (by omega)).1
    omega
  go_wp2
  have Hu1 := Lib.hid (Hu.out.below hb1)
  have Hv1 := Lib.hid (Hv.out.below hb1)
  go_region_with (first
    | (go_at_call_of 44 (Value.slice A us.length c); refine (left_any _ us s _ (by exact Hu1.out) (by omega) hs32).mono ?_; rintro e w2 ⟨gu, Ru, rfl, hOu, hgu, hRul, hRuL, hRuv, hRut, hb2d⟩; have hb2' := below_undrew hb2d; clear hb2d; have HOu := Lib.hid hOu; have HRUL := Lib.hid hRul; have HRUV := Lib.hid hRuv; clear hOu hRul hRuv)
    | (go_at_call 44; refine (left_any _ vs s _ (by exact Hv1.out.below hb2') (by rw [HL.out]; omega) hs32).mono ?_; rintro e w3 ⟨gv, Rv, rfl, hOv, hgv, hRvl, hRvL, hRvv, hRvt, hb3'⟩; rw [HL.out] at hRvl hRvt ⊢; have HOv := Lib.hid hOv; have HRVL := Lib.hid hRvl; have HRVV := Lib.hid hRvv; clear hOv hRvl hRvv))
  obtain ⟨M, hM⟩ : ∃ M : Nat, us.length + 1 = M + (m + 2) := ⟨us.length + 1 - (m + 2), by omega⟩
  have hgu2 := HOu.out.lt
  have hgv2 := HOv.out.lt
  have hz2 := hb2'.size
  have hz3 := hb3'.size
  have hgu0 : w1.heap.size ≤ gu := hgu
  have HM := Lib.hid hM
  go_wp2_with (at_make; refine wpList_make rfl _ Tryd.undN _ _ rfl _ _ _ _ M M rfl rfl (by have := HM.out; omega) (by have := HM.out; omega) (Nat.le_refl _) (by have := HM.out; omega) ?_; intro w4 HOq hb4 hz4; have HZ := Lib.hid hz4; clear hz4)
  -- the divisor
  have hLD := HS.out Rv hRvL HRVL.out (by rw [show m + 2 - 1 = m + 1 from by omega]; exact HTOP.out) (by rw [HRVV.out, show m + 2 - 1 = m + 1 from by omega, ← HY.out, ← HSS.out])
  rw [show m + 2 - 1 = m + 1 from by omega] at hLD
  obtain ⟨d1, d2, d3⟩ := hLD
  clear d3
  have hTl : (Rv.take (m + 2)).length = m + 2 := by rw [List.length_take, HRVL.out]; omega
  have HD1 := Lib.hid d1
  have HD2 := Lib.hid d2
  have HTL := Lib.hid hTl
  have hP0 : DivP Ru [] (2 ^ s * val us) (val (Rv.take (m + 2))) (m + 2) M M := ⟨by rw [HRUL.out]; exact hM, hRuL, by simp, lim_nil, head_low (by omega) (by rw [HRUL.out]; exact hM) hRuL hTl (by
      rw [show M + (m + 2) - 1 = us.length from by omega]
      exact Nat.lt_of_lt_of_le hRut (Nat.pow_le_pow_right (n := 2) (i := s) (j := 31) (by omega) (by omega))) (by rw [show m + 2 - 1 = m + 1 from by omega]; exact d2), by rw [HRUV.out]; simp [val]⟩
  have HP0 := Lib.hid hP0
  have hb04 : Below w.heap.size w w4 := hb1.trans ((hb2'.mono hb1.size).trans ((hb3'.mono (Nat.le_trans hb1.size hz2)).trans (hb4.mono (Nat.le_trans hb1.size (Nat.le_trans hz2 hz3)))))
  have HU4 := Lib.hid ((HOu.out.next hb3').next hb4)
  have HV4 := Lib.hid (HOv.out.next hb4)
  have hguv : gu < gv := by omega
  have hw0 : w.heap.size ≤ gu := Nat.le_trans hb1.size hgu0
  clear hM d1 d2 hTl hP0 hz0 hz1 hgu hgv HOu HOv hRut hRvt hb2' hb3' hb0 hb1 hb4 hgu0
  go_loopw [14] (fun si wr => ∃ (k : Nat) (L qs : List Nat), k ≤ M ∧ si = .int .i64 ((k : Int) - 1) ∧ Own wr gu L ∧ Own wr gv Rv ∧ Own wr w3.heap.size (List.replicate k 0 ++ qs) ∧ DivP L qs (2 ^ s * val us) (val (Rv.take (m + 2))) (m + 2) k M ∧ Below w.heap.size w wr) (fun si _ => (intOf si + 1).toNat)
  case atStart => exact ⟨M, Ru, [], Nat.le_refl _, congrArg (Value.int .i64) (by have := HM.out; omega), HU4.out, HV4.out, by rw [List.append_nil]; exact HOq.out, HP0.out, hb04⟩
  case round =>
    obtain ⟨k, L, qs, hk, rfl, hO1, hO2, hO3, hP, hbw⟩ := hrel
    have hLl := hP.len
    rcases Nat.eq_zero_or_pos k with hk0 | hk0
    · subst hk0
      have hfin := hP
      rw [HD1.out, HRVV.out] at hfin
      have hvp : 0 < val vs := by rw [E2.out]; have := H0.out; omega
      obtain ⟨f1, f2⟩ := hfin.fin (Nat.pow_pos (by omega)) hvp
      have hq := hP.qlen
      rw [Nat.zero_add] at hq
      rw [List.replicate_zero, List.nil_append] at hO3
      have N1 := Lib.hid (hO3.natAt hP.qlim (c := M) (by omega) (by have := HM.out; omega))
      rw [hq] at N1
      have hn2 := hO1.part hP.lim (o := 0) (n := m + 2) (c := M + (m + 2)) (by omega) (by omega) (by have := HM.out; omega)
      rw [List.drop_zero] at hn2
      have N2 := Lib.hid hn2
      have hvl2 : val (L.take (m + 2)) = val L := by
        have h1 := val_take_drop L (m + 2) (by omega)
        have h2 := val_lt (hRvL.take (m + 2))
        rw [HTL.out] at h2
        have h3 := hP.low
        have h4 := val_drop_zero (k := 0) hP.lim (Nat.lt_trans h3 h2)
        rw [Nat.zero_add] at h4
        rw [h4] at h1
        omega
      have HV2 := Lib.hid hvl2
      have F1 := Lib.hid f1
      have F2 := Lib.hid f2
      have hlt2 : (L.take (m + 2)).length ≤ 1000000 := by rw [List.length_take]; have := HM.out; omega
      clear hfin f1 f2 hq hn2 hvl2 hO1 hO2 hO3 hP hLl
      go_wp2
      go_region_with (first
        | (go_at_call 38; refine (trim_any _ qs _ (by exact N1.out)).mono ?_; rintro e w6 ⟨v6, rfl, hw6, h6⟩; have H6 := Lib.hid h6; have HW6 := Lib.hid hw6; clear h6 hw6)
        | (go_at_call 46; refine (right_any _ (L.take (m + 2)) s _ (by rw [← HW6.out]; exact N2.out) hlt2 hs32).mono ?_; rintro e w7 ⟨v7, rfl, h7, hb7⟩; have H7 := Lib.hid h7; clear h7))
      all_goals
        go_wp2
        go_ret3
        have h6 := H6.out
        have h7 := H7.out
        rw [HW6.out, F1.out, E1.out, E2.out] at h6
        rw [HV2.out, F2.out, Nat.mul_div_cancel_left _ (Nat.pow_pos (by omega)), E1.out, E2.out] at h7
        have hb6 : Below w.heap.size w w6 := by rw [← HW6.out]; exact hbw.drew
        exact ⟨_, _, rfl, h6.below hb7, h7, hb6.trans (hb7.mono hb6.size)⟩
    · obtain ⟨j, rfl⟩ : ∃ j, k = j + 1 := ⟨k - 1, by omega⟩
      rw [show ((j + 1 : Nat) : Int) - 1 = (j : Int) from by omega]
      have hdi := hP.digIn (hRvL.take _) HTL.out (by omega) HD2.out
      have hcq := hO3.cell (j := j) (by rw [List.length_append, List.length_replicate]; omega)
      have hfq := hO3.frozen j
      have hj1 : j < us.length + 1 := by have := HM.out; omega
      have hj2 : j + (m + 2) + 1 ≤ us.length + 1 := by have := HM.out; omega
      have hne : ¬ us.length + 1 = j := by omega
      have HDI := Lib.hid hdi
      have HP := Lib.hid hP
      have HO1 := Lib.hid hO1
      have HO2 := Lib.hid hO2
      have HO3 := Lib.hid hO3
      have HLL := Lib.hid hLl
      obtain ⟨old, hold⟩ : ∃ u, wr.cell? ⟨w3.heap.size, j, none⟩ = some u := ⟨_, hcq⟩
      clear hdi hP hO1 hO2 hO3 hcq hLl
      go_wp2_with fail
      rw [show j + (m + 2) + 1 - j = m + 3 from by omega]
      refine (digit_any gu gv j _ _ m L ((L.drop j).take (m + 2 + 1)) (Rv.take (m + 2)) wr (by rw [splice_self (by rw [HLL.out]; omega)]; exact HO1.out) (by rw [HLL.out]; omega) (by omega) (by omega) HO2.out.lt (fun i hi => by rw [getD_take hi]; exact HO2.out.cell (by rw [HRVL.out]; omega)) HDI.out).mono ?_
      rintro e w5 ⟨R, rfl, hIR, hRl, hRL, hRv⟩
      have HN := Lib.hid (HP.out.next (hRvL.take _) HTL.out HDI.out hRl hRL hRv)
      have hql := HDI.out.qlt
      obtain ⟨qd, hqd⟩ : ∃ q : Nat, q = val ((L.drop j).take (m + 2 + 1)) / val (Rv.take (m + 2)) := ⟨_, rfl⟩
      rw [← hqd] at HN hql ⊢
      clear hqd
      have hg := hIR.grown
      have hsz := hIR.size
      have hq3 : w3.heap.size < wr.heap.size := HO3.out.lt
      have hold5 : w5.cell? ⟨w3.heap.size, j, none⟩ = some old := (hIR.far (p := ⟨w3.heap.size, j, none⟩) (by simp; omega) hq3).trans hold
      have O1 := Lib.hid hIR.own
      have O2 : Hid (Own w5 gv Rv) := (hg.block gv HO2.out.lt (fun e => by injection e; omega)).trans HO2.out
      have O3 : Hid (Own w5 w3.heap.size (List.replicate (j + 1) 0 ++ qs)) := (hg.block _ hq3 (fun e => by injection e; omega)).trans HO3.out
      have hfq5 := O3.out.frozen j
      have hb5 : Below w.heap.size w w5 := hbw.trans ⟨hg.os, hg.tape, hg.output, hg.size, fun i hi => hg.block i (Nat.lt_of_lt_of_le hi hbw.size) (fun e => by injection e; omega)⟩
      clear hg hIR hold hfq hsz
      go_wp2
      go_roundw
      case rel => exact ⟨j, splice L j R, qd :: qs, by omega, rfl, O1.out.far (by simp; omega) _, O2.out.far (by simp; omega) _, by rw [← set_front]; exact O3.out.set j qd, HN.out, hb5.setCell (by simp; omega) _⟩
      case measure => simp [intOf]
end Go.Proofs.YtelcjcgalkcadaaDoor
