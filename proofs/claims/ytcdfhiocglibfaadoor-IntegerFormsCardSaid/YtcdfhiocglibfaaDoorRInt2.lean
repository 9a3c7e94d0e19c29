/- garmentref02: Of, Text, Small. -/
import Derived.Test.YtcdfhiocglibfaaDoorRInt
import Derived.Test.YtcdfhiocglibfaaDoorInt6
import Derived.Test.YtcdfhiocglibfaaDoorRef2
namespace Go.Proofs.YtcdfhiocglibfaaDoor
open Go.RowKit
open Go.Lib (decDigits)

set_option maxHeartbeats 1000000 in
theorem riof_any (n : Int) (w : World) (h1 : -9223372036854775808 ≤ n) (h2 : n ≤ 9223372036854775807) : Calls Tryd.prog 27 #[.int .i64 n] w (GivesZ w n) := by
  have HB := Lib.hid (Box.new (w := w) (x := .bool false) (y := .slice none 0 0) rfl)
  by_cases h0 : n < 0
  · go_enter Tryd.func27, Tryd.ntmps27
    go_wp2_with fail
    have e1 : -(n + 1) + 1 = ((n.natAbs : Nat) : Int) := by omega
    rw [e1]
    refine (rof_any n.natAbs _ (by omega)).mono ?_
    rintro e w1 ⟨v1, rfl, g1, hb⟩
    replace HB := Lib.hid (HB.out.below hb)
    have HW := Lib.hid (below_next (below_alloc0 w _) hb)
    have G1 := Lib.hid g1
    obtain ⟨A, c, rfl, _, _⟩ := g1.form
    have c30 := HB.out.cell0
    have c31 := HB.out.cell1
    have f30 := HB.out.fro 0
    have f31 := HB.out.fro 1
    clear g1 hb e1
    go_wp2
    exact bodyPost_ret (v := .agg #[.bool true, .slice A (limbs n.natAbs).length c]) (by simp [results, Tryd.results27, go_sem, c30, c31]) rfl ⟨_, _, _, _, rfl, ⟨by rw [eq_comm, decide_eq_true_iff]; exact h0, G1.out.store HB.out nil_noInt _ _⟩, below_stored HW.out (Nat.le_refl _) _ _⟩
  · obtain ⟨k, rfl⟩ : ∃ k : Nat, n = (k : Int) := ⟨n.toNat, by omega⟩
    go_enter Tryd.func27, Tryd.ntmps27
    go_wp2_with fail
    refine (rof_any k _ (by omega)).mono ?_
    rintro e w1 ⟨v1, rfl, g1, hb⟩
    replace HB := Lib.hid (HB.out.below hb)
    have HW := Lib.hid (below_next (below_alloc0 w _) hb)
    have G1 := Lib.hid g1
    obtain ⟨A, c, rfl, _, _⟩ := g1.form
    have c30 := HB.out.cell0
    have c31 := HB.out.cell1
    have f30 := HB.out.fro 0
    have f31 := HB.out.fro 1
    clear g1 hb
    go_wp2
    exact bodyPost_ret (v := .agg #[.bool false, .slice A (limbs k).length c]) (by simp [results, Tryd.results27, go_sem, c30, c31]) rfl ⟨_, _, _, _, rfl, ⟨by rw [eq_comm, decide_eq_false_iff_not]; omega, by rw [Int.natAbs_natCast]; exact G1.out.store HB.out nil_noInt _ _⟩, below_stored HW.out (Nat.le_refl _) _ _⟩

set_option maxHeartbeats 1000000 in
theorem ritext_any (b : Bool) (m : Value) (z : Int) (k : Nat) (w : World) (h : IntAt w b m z k) (hk : k ≤ 100000) : Calls Tryd.prog 23 #[.agg #[.bool b, m]] w (GivesStr w (ztext z)) := by
  have H := Lib.hid h
  have HL : Hid ((limbs z.natAbs).length ≤ k) := by
    obtain ⟨xs, g1, g2, rfl⟩ := h
    show _ ≤ _
    rw [zval_abs]
    exact Nat.le_trans (limbs_val_length g1.lim) g2
  clear h
  go_enter Tryd.func23, Tryd.ntmps23
  go_wp2_with fail
  refine (rinorm_any _ _ _ _ _ (by exact H.out.alloc _) (by omega)).mono ?_
  rintro e w1 ⟨b3, A3, n3, k3, rfl, h3, hb⟩
  have HW := Lib.hid (below_next (below_alloc0 w _) hb)
  obtain ⟨e3, -⟩ := id h3
  have HR := Lib.hid h3
  clear hb h3
  by_cases hz : z < 0
  · obtain rfl : b3 = true := by rw [e3]; exact decide_eq_true hz
    clear e3
    go_wp2_with fail
    refine (rtext_any _ _ _ (by exact (HR.out.alloc _).2) (Nat.le_trans HL.out hk)).mono ?_
    rintro e w2 ⟨rfl, hb⟩
    rw [val_limbs]
    have hdl : (decDigits z.natAbs).length ≤ 1000001 := Nat.le_trans (dec_len_le _) (by have := HL.out; omega)
    go_wp2
    go_ret
    rw [ztext_neg hz]
    exact ⟨congrArg Ending.returned (congrArg Value.string (str_minus _)), below_next (below_next HW.out (below_alloc0 _ _)) hb⟩
  · obtain rfl : b3 = false := by rw [e3]; exact decide_eq_false hz
    clear e3
    go_wp2_with fail
    refine (rtext_any _ _ _ (by exact (HR.out.alloc _).2) (Nat.le_trans HL.out hk)).mono ?_
    rintro e w2 ⟨rfl, hb⟩
    rw [val_limbs]
    go_wp2
    go_ret
    rw [ztext_pos (by omega)]
    exact ⟨rfl, below_next (below_next HW.out (below_alloc0 _ _)) hb⟩

theorem small_ret {a b : Int} {c : Bool} (h : a = b) : Ending.returned (.tuple #[.int .i64 a, .bool c]) = .returned (.tuple #[.int .i64 b, .bool c]) := by rw [h]
theorem val_drop_lt {us : List Nat} (h : Lim us) (k j : Nat) (hj : us.length ≤ k + j) : val (us.drop k) < 4294967296 ^ j := by
  refine Nat.lt_of_lt_of_le (val_lt (h.drop k)) (Nat.pow_le_pow_right (by omega) ?_)
  rw [List.length_drop]; omega

set_option maxRecDepth 100000 in
set_option maxHeartbeats 2000000 in
theorem rismall_any (b : Bool) (m : Value) (z : Int) (k : Nat) (w : World) (h : IntAt w b m z k) (hk : k ≤ 100000) : Calls Tryd.prog 25 #[.agg #[.bool b, m]] w (GivesSmall w z) := by
  have H := Lib.hid h
  clear h
  go_enter Tryd.func25, Tryd.ntmps25
  go_wp2_with fail
  refine (rinorm_any _ _ _ _ _ (by exact H.out.alloc _) (by omega)).mono ?_
  rintro e w1 ⟨b3, A3, n3, k3, rfl, h3, hb⟩
  have HW := Lib.hid (below_next (below_next (below_alloc0 w _) hb) (below_alloc0 w1 (.cells #[.bool b3, .slice A3 n3 k3] 25)))
  have HBs := Lib.hid (Box.new (w := w1) (x := .bool b3) (y := .slice A3 n3 k3) rfl)
  have HR := Lib.hid (h3.alloc (.cells #[.bool b3, .slice A3 n3 k3] 25))
  obtain ⟨e3, h4⟩ := h3
  have E3 := Lib.hid e3
  obtain ⟨A', c', hv, g1, g2⟩ := h4.form
  injection hv with e4 e5 e6
  subst e4 e5 e6
  clear hb h4 e3
  by_cases hl : 2 < (limbs z.natAbs).length
  · have HF : Hid (zfits z = false) := by
      show _ = _
      unfold zfits
      rw [decide_eq_false_iff_not]
      intro e
      have := abs_two e.1 e.2
      omega
    go_wp2
    go_ret2
    unfold GivesSmall zsmall
    rw [HF.out]
    exact ⟨rfl, HW.out⟩
  · have hl2 : decide ((2 : Int) < ((limbs z.natAbs).length : Int)) = false := by simp; omega
    go_wp2
    obtain ⟨ws, hws⟩ : ∃ ws, w1.alloc (.cells #[.bool b3, .slice A3 (limbs z.natAbs).length k3] 25) = ws := ⟨_, rfl⟩
    rw [hws] at HW HBs HR ⊢
    have d10 := HBs.out.cell0
    have d11 := HBs.out.cell1
    clear hl2 hws
    obtain ⟨us, hus⟩ : ∃ us, us = limbs z.natAbs := ⟨_, rfl⟩
    have HV : Hid (val us = z.natAbs) := by rw [hus]; exact val_limbs _
    have HU := HR.out.2
    rw [← hus] at hl g1 g2 HU d11 ⊢
    have HN := Lib.hid HU
    clear hus HU
    go_loop [5, 6] (fun sn si => ∃ k : Nat, k ≤ us.length ∧ si = .int .i64 ((k : Int) - 1) ∧ sn = .int .u64 (val (us.drop k) : Nat)) (fun _ si => (intOf si + 1).toNat)
    case atStart => exact ⟨us.length, Nat.le_refl _, rfl, by rw [List.drop_length]; rfl⟩
    case round =>
      obtain ⟨k, hk, rfl, rfl⟩ := hrel
      rcases Nat.eq_zero_or_pos k with hk0 | hk0
      · subst hk0
        have hNl : z.natAbs < 18446744073709551616 := by
          have h1 := val_drop_lt HN.out.lim 0 2 (by omega)
          rw [List.drop_zero, HV.out] at h1
          exact h1
        rw [List.drop_zero, HV.out]
        by_cases hz : z < 0
        · obtain rfl : b3 = true := by rw [E3.out]; exact decide_eq_true hz
          obtain ⟨N, rfl⟩ : ∃ N : Nat, z = -(N : Int) := ⟨z.natAbs, by omega⟩
          rw [Int.natAbs_neg, Int.natAbs_natCast] at hNl ⊢
          have hN1 : 1 ≤ N := by omega
          clear HV HR HBs
          by_cases hN : N ≤ 9223372036854775808
          · have t1 : decide ((N : Int) ≤ 9223372036854775808) = true := by simp; omega
            go_wp2
            go_ret2
            unfold GivesSmall zsmall
            rw [show zfits (-(N : Int)) = true from decide_eq_true ⟨by omega, by omega⟩]
            exact ⟨small_ret (by show _ = -(N : Int); omega), HW.out⟩
          · have t1 : decide ((N : Int) ≤ 9223372036854775808) = false := by simp; omega
            go_wp2
            go_ret2
            unfold GivesSmall zsmall
            rw [show zfits (-(N : Int)) = false from decide_eq_false (by omega)]
            exact ⟨rfl, HW.out⟩
        · obtain rfl : b3 = false := by rw [E3.out]; exact decide_eq_false hz
          obtain ⟨N, rfl⟩ : ∃ N : Nat, z = (N : Int) := ⟨z.natAbs, by omega⟩
          rw [Int.natAbs_natCast] at hNl ⊢
          clear HV HR HBs hz
          by_cases hN : N ≤ 9223372036854775807
          · have t1 : decide ((N : Int) ≤ 9223372036854775807) = true := by simp; omega
            go_wp2
            go_ret2
            unfold GivesSmall zsmall
            rw [show zfits (N : Int) = true from decide_eq_true ⟨by omega, by omega⟩]
            exact ⟨rfl, HW.out⟩
          · have t1 : decide ((N : Int) ≤ 9223372036854775807) = false := by simp; omega
            go_wp2
            go_ret2
            unfold GivesSmall zsmall
            rw [show zfits (N : Int) = false from decide_eq_false (by omega)]
            exact ⟨rfl, HW.out⟩
      · obtain ⟨j, rfl⟩ : ∃ j, k = j + 1 := ⟨k - 1, by omega⟩
        rw [show ((j + 1 : Nat) : Int) - 1 = (j : Int) from by omega]
        obtain ⟨bb, o, rfl, hbb, hc⟩ := HN.out.at_ (by omega)
        have hcj := hc j (by omega)
        have hxl := HN.out.lim.get j
        have hdl := val_drop_lt HN.out.lim (j + 1) 1 (by omega)
        have HNX := Lib.hid (val_drop us j)
        clear hc
        obtain ⟨x, hx⟩ : ∃ x : Nat, x = us.getD j 0 := ⟨_, rfl⟩
        obtain ⟨t, ht⟩ : ∃ t : Nat, t = val (us.drop (j + 1)) := ⟨_, rfl⟩
        rw [← hx] at hcj hxl HNX
        rw [← ht] at hdl HNX ⊢
        clear hx ht
        have hj1 : j < us.length := by omega
        have htl : t < 4294967296 := by omega
        go_wp2
        go_round
        case rel => exact ⟨j, by omega, by go_num, congrArg (Value.int .u64) (by rw [HNX.out]; omega)⟩
        case measure => simp [intOf]
end Go.Proofs.YtcdfhiocglibfaaDoor
