/- garmentref01.DivMod. -/
import Derived.Test.YtelcjcgalkcadaaDoorRShift
import Derived.Test.YtelcjcgalkcadaaDoorRBits
import Derived.Test.YtelcjcgalkcadaaDoorRMul
import Derived.Test.YtelcjcgalkcadaaDoorGcd
import Derived.Deep.RegionHeld
namespace Go.Proofs.YtelcjcgalkcadaaDoor
open Go.RowKit

theorem Row.far {w : World} {base : Nat} {v : Value} {xs : List Nat} (h : Row w base v xs) {p : Addr} (hp : p.block < base) (u : Value) : Row (w.setCell p u) base v xs := by
  obtain ⟨h1, h2⟩ := h
  refine ⟨h1, ?_⟩
  rcases h2 with h2 | ⟨g, cap, cur, hv, hg, hh, r⟩
  · exact .inl h2
  · refine .inr ⟨g, cap, cur, hv, hg, ?_, r⟩
    rw [Below.heap_setCell w p u g (by omega)]; exact hh
/-- The slice reads as xs and does not lie in block g. -/
def NatOff (w : World) (v : Value) (xs : List Nat) (g : Nat) : Prop := NatAt w v xs ∧ ∀ b o n c, v = .slice (some ⟨b, o, none⟩) n c → 0 < n → b ≠ g
theorem NatAt.off {w : World} {v : Value} {xs : List Nat} {g : Nat} (h : NatAt w v xs) (hg : w.heap.size ≤ g) : NatOff w v xs g := by
  refine ⟨h, fun b o n c hv hn => ?_⟩
  obtain ⟨A, c', hv', _, _, _, h4⟩ := h
  rw [hv] at hv'
  injection hv' with e1 e2 e3
  obtain ⟨b', o', ha, hb, _⟩ := h4 (by omega)
  rw [ha] at e1
  injection e1 with e1
  injection e1 with e1
  omega
theorem Row.off {w : World} {base : Nat} {v : Value} {xs : List Nat} {g : Nat} (h : Row w base v xs) (hl : Lim xs) (hg : g < base) : NatOff w v xs g := by
  refine ⟨h.natAt hl, fun b o n c hv hn => ?_⟩
  obtain ⟨_, h2⟩ := h
  rcases h2 with ⟨rfl, _⟩ | ⟨g', cap, cur, rfl, hg', _⟩
  · cases hv
  · injection hv with e1
    injection e1 with e1
    injection e1 with e1
    omega
theorem NatOff.below {w w' : World} {v : Value} {xs : List Nat} {g : Nat} (h : NatOff w v xs g) (hb : Below w.heap.size w w') : NatOff w' v xs g := ⟨h.1.below hb, h.2⟩
theorem NatOff.set {w : World} {v : Value} {xs : List Nat} {g i : Nat} (h : NatOff w v xs g) (u : Value) : NatOff (w.setCell ⟨g, i, none⟩ u) v xs g := by
  obtain ⟨⟨A, c, hv, h1, h2, h3, h4⟩, h5⟩ := h
  refine ⟨⟨A, c, hv, h1, h2, h3, fun hn => ?_⟩, h5⟩
  obtain ⟨b, o, ha, hb, hc⟩ := h4 hn
  have hbg : b ≠ g := h5 b o xs.length c (by rw [hv, ha]) hn
  refine ⟨b, o, ha, by simpa using hb, fun j hj => ?_⟩
  rw [World.cell?_setCell_far _ _ _ _ (by exact fun e => hbg e.symm)]
  exact hc j hj

structure RDM (w wr : World) (g A B n j Q R : Nat) (qs : List Nat) (sr sp : Value) : Prop where
  own : Own wr g qs
  len : qs.length = n / 32 + 1
  lim : Lim qs
  quo : val qs = Q
  rel : RDivRel A B Q R j n
  rest : NatOff wr sr (limbs R) g
  part : NatOff wr sp (limbs (B * 2 ^ j / 2)) g
  below : Below w.heap.size w wr
theorem part_now (B k : Nat) : B * 2 ^ (k + 1) / 2 = B * 2 ^ k := by rw [Nat.pow_succ, ← Nat.mul_assoc, Nat.mul_div_cancel _ (by omega)]

theorem RDivRel.restLe {A B Q R j n : Nat} (h : RDivRel A B Q R j n) : R ≤ A := by have := h.eq; have := Nat.zero_le (Q * B); omega
theorem shift_len {b n k m : Nat} (hb : b < 4294967296 ^ k) (hn : n ≤ 32 * m) : (limbs (b * 2 ^ n)).length ≤ k + m := by
  apply limbs_length_le
  rw [Nat.pow_add]
  refine Nat.mul_lt_mul_of_lt_of_le hb ?_ (Nat.pow_pos (by omega))
  rw [show (4294967296 : Nat) = 2 ^ 32 from rfl, ← Nat.pow_mul]
  exact Nat.pow_le_pow_right (by omega) hn

set_option maxHeartbeats 1000000 in
theorem rdivmod_zero (va vb : Value) (ys : List Nat) (w : World) (hb : NatAt w vb ys) (hyl : ys.length ≤ 100000) (h0 : val ys = 0) : Calls Tryd.prog 27 #[va, vb] w (GivesDiv w [] [] false) := by
  have HB := Lib.hid hb
  have H0 := Lib.hid h0
  clear hb h0
  go_enter Tryd.func27, Tryd.ntmps27
  go_wp2_with fail
  refine (rbits_any _ _ _ HB.out (by omega)).mono ?_
  rintro e w1 ⟨kb, hkb, hkl, rfl, hb1⟩
  obtain rfl : kb = 0 := by
    rcases Nat.eq_zero_or_pos kb with e | e
    · exact e
    · exact absurd H0.out (hkb.pos (by omega))
  clear hkb hkl
  go_wp2
  go_ret3
  exact ⟨_, _, rfl, NatAt.nil _, NatAt.nil _, hb1⟩

set_option maxRecDepth 100000 in
set_option maxHeartbeats 4000000 in
theorem rdivmod_any (va vb : Value) (xs ys : List Nat) (w : World) (ha : NatAt w va xs) (hb : NatAt w vb ys) (hxl : xs.length ≤ 100000) (hyl : ys.length ≤ 100000) (h0 : val ys ≠ 0) :
    Calls Tryd.prog 27 #[va, vb] w (GivesDiv w (limbs (val xs / val ys)) (limbs (val xs % val ys)) true) := by
  have HA := Lib.hid ha
  have HB := Lib.hid hb
  have H0 := Lib.hid h0
  have HLA := Lib.hid (limbs_val_length ha.lim)
  clear ha hb h0
  go_enter Tryd.func27, Tryd.ntmps27
  go_wp2_with fail
  refine (rbits_any _ _ _ HB.out (by omega)).mono ?_
  rintro e w1 ⟨kb0, hkb0, hkl0, rfl, hb1⟩
  have hk00 : kb0 ≠ 0 := hkb0.ne H0.out
  have tk0 : ((kb0 : Int) == 0) = false := by rw [beq_eq_false_iff_ne]; omega
  clear hkb0 hkl0 hk00
  go_wp2_with fail
  refine (rnorm_any _ _ _ (by exact HA.out.below hb1) (by omega)).mono ?_
  rintro e w2 ⟨v2, rfl, h2, hb2⟩
  have H2 := Lib.hid h2
  clear h2
  go_wp2_with fail
  refine (rbits_any _ _ _ H2.out (by have := HLA.out; omega)).mono ?_
  rintro e w3 ⟨ka, hka, hkal, rfl, hb3⟩
  rw [val_limbs] at hka
  have hkal2 : ka ≤ 3200000 := by have := HLA.out; omega
  have HKA := Lib.hid hka
  clear hka hkal
  have hb13 := below_next hb1 (below_next hb2 hb3)
  go_wp2_with fail
  refine (rbits_any _ _ _ (by exact HB.out.below hb13) (by omega)).mono ?_
  rintro e w4 ⟨kb, hkb, hkbl, rfl, hb4⟩
  have hkbn : kb ≠ 0 := hkb.ne H0.out
  have HKB := Lib.hid hkb
  clear hkb
  have HBW := Lib.hid (below_next hb13 hb4)
  have HR4 := Lib.hid ((H2.out.below hb3).below hb4)
  have HB4 := Lib.hid (HB.out.below HBW.out)
  clear H2 hb1 hb2 hb3 hb4 hb13
  by_cases hlt : ka < kb
  · have HAB := Lib.hid (HKA.out.lt HKB.out hlt)
    go_wp2
    go_ret3
    rw [Nat.div_eq_of_lt HAB.out, Nat.mod_eq_of_lt HAB.out, limbs_zero]
    exact ⟨_, _, rfl, NatAt.nil _, HR4.out, HBW.out⟩
  · obtain ⟨n, rfl⟩ : ∃ n, ka = n + kb := ⟨ka - kb, by omega⟩
    have HF := Lib.hid (HKA.out.fits HKB.out hkbn (by omega))
    rw [Nat.add_sub_cancel] at HF
    have hn : (((n + kb : Nat) : Int) - (kb : Int)) = (n : Int) := by omega
    have hnl : n ≤ 3200000 := by omega
    clear hlt hkbn HKA HKB
    go_wp2_with (first
      | (at_make; refine wpList_make rfl _ Tryd.undN _ _ rfl _ _ _ _ (n / 32 + 1) (n / 32 + 1) rfl rfl (by omega) (by omega) (Nat.le_refl _) (by omega) ?_; intro w5 HO hb5 hz5; have HZ := Lib.hid hz5; clear hz5)
      | (go_at_call 48; refine (rshift_row _ _ n _ (by exact HB4.out.below hb5) (by omega) (by omega)).mono ?_; rintro e w6 ⟨vp, rfl, hp, hb6⟩; have HP := Lib.hid hp; clear hp))
    have hg4 : w.heap.size ≤ w4.heap.size := HBW.out.size
    have hg5 : w4.heap.size < w5.heap.size := by rw [HZ.out]; omega
    have HO6 := Lib.hid (HO.out.next hb6)
    have HBW6 := Lib.hid (below_next (below_next HBW.out hb5) hb6)
    have HR6 := Lib.hid (((HR4.out.off (Nat.le_refl _)).below hb5).below hb6)
    have HP6 := Lib.hid (HP.out.off (lim_limbs _) hg5)
    have HBl := Lib.hid (val_lt HB.out.lim)
    clear HO HP HR4 HZ hb5 hb6 hg5 hn
    obtain ⟨g, hg⟩ : ∃ g, g = w4.heap.size := ⟨_, rfl⟩
    rw [← hg] at HO6 HR6 HP6 hg4 ⊢
    clear hg
    go_loopw [7, 10, 11] (fun sr sp sk wr => ∃ (j Q R : Nat) (qs : List Nat), j ≤ n + 1 ∧ sk = .int .i64 ((j : Int) - 1) ∧ RDM w wr g (val xs) (val ys) n j Q R qs sr sp) (fun _ _ sk _ => (intOf sk + 1).toNat)
    case atStart => exact ⟨n + 1, 0, val xs, _, Nat.le_refl _, by go_num, HO6.out, by simp, Lim.replicate _, val_replicate _, RDivRel.start HF.out, HR6.out, by rw [part_now]; exact HP6.out, HBW6.out⟩
    case round =>
      obtain ⟨j, Q, R, qs, hj, rfl, M⟩ := hrel
      have hRl : (limbs R).length ≤ 100000 := limbs_len_of_lt M.rel.restLe (Nat.le_trans HLA.out hxl)
      have HM := Lib.hid M
      have hqsl := M.len
      rcases Nat.eq_zero_or_pos j with hj0 | hj0
      · subst hj0
        have HN := Lib.hid (M.own.natAt M.lim (c := n / 32 + 1) (by omega) (by omega))
        rw [M.len] at HN
        have HQL := Lib.hid hqsl
        clear M hqsl
        go_wp2_with fail
        refine (rnorm_any _ _ _ (by exact HN.out) (by rw [HQL.out]; omega)).mono ?_
        rintro e w7 ⟨v7, rfl, h7, hb7⟩
        have H7 := Lib.hid h7
        clear h7
        go_wp2
        go_ret3
        obtain ⟨e1, e2⟩ := HM.out.rel.quo
        rw [e1, e2, ← HM.out.quo]
        exact ⟨_, _, rfl, H7.out, HM.out.rest.1.below hb7, below_next HM.out.below hb7⟩
      · obtain ⟨k, rfl⟩ : ∃ k, j = k + 1 := ⟨j - 1, by omega⟩
        have hki : (((k + 1 : Nat) : Int) - 1) = (k : Int) := by omega
        rw [hki]
        have HPT := Lib.hid M.part
        rw [part_now] at HPT
        have hPl : (limbs (val ys * 2 ^ k)).length ≤ 200001 := Nat.le_trans (shift_len HBl.out (m := 100001) (by omega)) (by omega)
        clear M hki
        by_cases hle : val ys * 2 ^ k ≤ R
        · obtain ⟨i, hi⟩ : ∃ i, i = k / 32 := ⟨_, rfl⟩
          obtain ⟨s, hs⟩ : ∃ s, s = k % 32 := ⟨_, rfl⟩
          have HK : Hid (32 * i + s = k) := by rw [hi, hs]; exact Nat.div_add_mod _ _
          have hds : (k : Int) / 32 = (i : Int) := by omega
          have hss : (k : Int) % 32 = (s : Int) := by omega
          have hs32 : s < 32 := by omega
          have hin : i < n / 32 + 1 := by omega
          have hkn : k ≤ n := by omega
          have HLE := Lib.hid hle
          clear hi hs hle
          have hroom := limb_room (i := i) HM.out.lim hs32 (by rw [HM.out.quo, HK.out]; exact HM.out.rel.dvd)
          go_wp2_with fail
          refine (rsub_row _ _ _ _ _ (by exact HM.out.rest.1) (by exact HPT.out.1) (by omega) (by omega)).mono ?_
          rintro e w7 ⟨v7, rfl, h7, hb7⟩
          rw [val_limbs, val_limbs, decide_eq_true HLE.out]
          rw [val_limbs, val_limbs] at h7
          have H7 := Lib.hid (h7.off (lim_limbs _) HM.out.own.lt)
          have HO7 := Lib.hid (HM.out.own.next hb7)
          have HP7 := Lib.hid (HPT.out.below hb7)
          have hB7 := below_next HM.out.below hb7
          have hcx := HO7.out.cell (j := i) (by rw [HM.out.len]; exact hin)
          have hfx := HO7.out.frozen i
          have HOS := Lib.hid (HO7.out.set i (qs.getD i 0 + 2 ^ s))
          have HVB := Lib.hid (val_bit (qs := qs) (i := i) (s := s) (by rw [HM.out.len]; exact hin))
          obtain ⟨x, hx⟩ : ∃ x : Nat, x = qs.getD i 0 := ⟨_, rfl⟩
          rw [← hx] at hcx hroom HOS HVB
          clear h7 hx hb7
          have HQL := Lib.hid hqsl
          clear hqsl
          go_wp2_with fail
          have e1 : ((x : Int) + 2 ^ s) % 4294967296 = ((x + 2 ^ s : Nat) : Int) := by
            have e2 : (2 : Int) ^ s = ((2 ^ s : Nat) : Int) := by rw [Int.natCast_pow]; rfl
            rw [e2]
            generalize 2 ^ s = p at *
            omega
          rw [e1]
          refine (rhalf_row _ _ _ (by exact (HP7.out.set _).1) (by omega)).mono ?_
          rintro e w8 ⟨v8, rfl, h8, hb8⟩
          rw [val_limbs] at h8
          have H8 := Lib.hid (h8.off (lim_limbs _) (by simpa using HO7.out.lt))
          clear h8 e1
          go_wp2
          go_roundw
          case rel => exact ⟨k, Q + 2 ^ k, R - val ys * 2 ^ k, qs.set i (x + 2 ^ s), by omega, by go_num, HOS.out.next hb8, by rw [List.length_set, HQL.out], HM.out.lim.set _ hroom, by rw [HVB.out, HM.out.quo, HK.out], HM.out.rel.yes hkn HLE.out, (H7.out.set _).below hb8, H8.out, below_next (hB7.setCell hg4 _) hb8⟩
          case measure => simp [intOf]
        · have HLE := Lib.hid hle
          clear hle
          have HQL := Lib.hid hqsl
          clear hqsl
          go_wp2_with fail
          refine (rsub_row _ _ _ _ _ (by exact HM.out.rest.1) (by exact HPT.out.1) (by omega) (by omega)).mono ?_
          rintro e w7 ⟨v7, rfl, h7, hb7⟩
          rw [val_limbs, val_limbs, decide_eq_false HLE.out]
          have HO7 := Lib.hid (HM.out.own.next hb7)
          have HP7 := Lib.hid (HPT.out.below hb7)
          have HR7 := Lib.hid (HM.out.rest.below hb7)
          have hB7 := below_next HM.out.below hb7
          clear h7 hb7
          go_wp2_with fail
          refine (rhalf_row _ _ _ (by exact HP7.out.1) (by omega)).mono ?_
          rintro e w8 ⟨v8, rfl, h8, hb8⟩
          rw [val_limbs] at h8
          have H8 := Lib.hid (h8.off (lim_limbs _) HO7.out.lt)
          clear h8
          go_wp2
          go_roundw
          case rel => exact ⟨k, Q, R, qs, by omega, by go_num, HO7.out.next hb8, HQL.out, HM.out.lim, HM.out.quo, HM.out.rel.no HLE.out, HR7.out.below hb8, H8.out, below_next hB7 hb8⟩
          case measure => simp [intOf]
end Go.Proofs.YtelcjcgalkcadaaDoor
