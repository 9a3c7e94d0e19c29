/- garmentref02: Parse, Same, Short. -/
import Derived.Test.YtcdfhiocglibfaaDoorRInt2
namespace Go.Proofs.YtcdfhiocglibfaaDoor
open Go.RowKit

set_option maxHeartbeats 2000000 in
theorem riparse_any (s : ByteArray) (w : World) (hs : s.size ≤ 9223372036854775807) : Calls Tryd.prog 21 #[.string s] w (GivesZE w (zpNum s.data.toList) (zpErr s.data.toList)) := by
  have HB := Lib.hid (Box.new (w := w) (x := .bool false) (y := .slice none 0 0) rfl)
  have htl := ByteArray.toList_eq s
  by_cases hs0 : s.size = 0
  · have hnil : s.data.toList = [] := List.eq_nil_of_length_eq_zero (by rw [size_list]; exact hs0)
    have h1 : s.toList = [] := by rw [htl]; exact hnil
    have h2 : s.toList.isEmpty = true := by rw [h1]; rfl
    have HH : Hid (¬ s.data.toList.head? = some 45) := by show ¬ _; rw [hnil]; exact fun e => by cases e
    clear htl hnil
    go_enter Tryd.func21, Tryd.ntmps21
    go_wp2_with fail
    refine (rparse_any s _ hs).mono ?_
    rintro e w1 ⟨v1, rfl, h1, hb⟩
    replace HB := Lib.hid (HB.out.below hb)
    have HW := Lib.hid (below_next (below_alloc0 w _) hb)
    have c30 := HB.out.cell0
    have c31 := HB.out.cell1
    have f30 := HB.out.fro 0
    have f31 := HB.out.fro 1
    clear hb
    by_cases he : parseErr s.data.toList = 0
    · rw [parse_num_ok he] at h1
      rw [he]
      have HE := Lib.hid he
      have H1 := Lib.hid h1
      have hl100 : (limbs (decVal s.data.toList)).length ≤ 100 := by rw [← parse_num_ok he]; exact parse_num_len
      clear h1 he
      go_wp2_with fail
      refine (make1_any _ _ _ _ (by exact H1.out) (by omega)).mono ?_
      rintro e w2 ⟨b3, A3, n3, k3, rfl, h3, hb⟩
      have HR := Lib.hid h3
      replace HB := Lib.hid (HB.out.below hb)
      replace HW := Lib.hid (below_next HW.out hb)
      replace c30 := HB.out.cell0
      replace c31 := HB.out.cell1
      replace f30 := HB.out.fro 0
      replace f31 := HB.out.fro 1
      clear hb h3
      go_wp2
      refine bodyPost_ret (v := .tuple #[.agg #[.bool b3, .slice A3 n3 k3], .int .i64 0]) (by simp [results, Tryd.results21, go_sem, c30, c31]) rfl ?_
      have e1 : zpErr s.data.toList = 0 := by unfold zpErr; rw [if_neg HH.out, HE.out]
      have e2 : zpNum s.data.toList = (decVal s.data.toList : Int) := by unfold zpNum; rw [e1, if_pos rfl, if_neg HH.out]
      rw [e1, e2]
      have h3 := HR.out.store HB.out nil_noInt (.bool b3) (.slice A3 n3 k3)
      rw [zval_false, val_limbs] at h3
      exact ⟨_, _, _, _, rfl, h3, below_stored HW.out (Nat.le_refl _) _ _⟩
    · have HE := Lib.hid he
      have heb : (parseErr s.data.toList != 0) = true := by rw [bne_iff_ne]; exact he
      clear h1 he
      go_wp2
      refine bodyPost_ret (v := .tuple #[.agg #[.bool false, .slice none 0 0], .int .i64 (parseErr s.data.toList)]) (by simp [results, Tryd.results21, go_sem, c30, c31]) rfl ?_
      have e1 : zpErr s.data.toList = parseErr s.data.toList := by unfold zpErr; rw [if_neg HH.out]
      have e2 : zpNum s.data.toList = 0 := by unfold zpNum; rw [e1, if_neg HE.out]
      rw [e1, e2]
      exact ⟨_, _, _, _, rfl, zat_nil _, below_stored HW.out (Nat.le_refl _) _ _⟩
  · have hne : ¬ s.toList = [] := by
      rw [htl]; intro h
      have h2 : s.data.toList.length = 0 := by rw [h]; rfl
      rw [size_list] at h2
      omega
    have hem : s.toList.isEmpty = false := by
      rw [List.isEmpty_eq_false_iff]; exact hne
    have hsp : 0 < s.size := by omega
    have hh := head_byte s hsp
    clear htl
    by_cases h45 : s[0].toNat = 45
    · have q1 : ((s[0].toNat : Int) == 45) = true := by rw [h45]; rfl
      have HH : Hid (s.data.toList.head? = some 45) := by show _ = _; rw [hh]; congr 1; exact UInt8.toNat_inj.1 h45
      clear hh h45 hs0
      have HD : Hid ((s.extract 1 s.size).data.toList = s.data.toList.tail) := by show _ = _; rw [ext_drop, List.drop_one]
      have hdl : (s.extract 1 s.size).size ≤ 9223372036854775807 := by rw [← size_list, ext_drop, List.length_drop, size_list]; omega
      go_enter Tryd.func21, Tryd.ntmps21
      go_wp2_with fail
      refine (rparse_any _ _ hdl).mono ?_
      rintro e w1 ⟨v1, rfl, h1, hb⟩
      rw [HD.out] at h1 ⊢
      replace HB := Lib.hid (HB.out.below hb)
      have HW := Lib.hid (below_next (below_alloc0 w _) hb)
      have c30 := HB.out.cell0
      have c31 := HB.out.cell1
      have f30 := HB.out.fro 0
      have f31 := HB.out.fro 1
      clear hb
      by_cases he : parseErr s.data.toList.tail = 0
      · rw [parse_num_ok he] at h1
        rw [he]
        have HE := Lib.hid he
        have H1 := Lib.hid h1
        have hl100 : (limbs (decVal s.data.toList.tail)).length ≤ 100 := by rw [← parse_num_ok he]; exact parse_num_len
        clear h1 he
        go_wp2_with fail
        refine (rnorm_any _ _ _ (by exact H1.out) (by omega)).mono ?_
        rintro e w1b ⟨v1b, rfl, h1, hb⟩
        rw [val_limbs] at h1
        replace H1 := Lib.hid (H1.out.below hb)
        replace HB := Lib.hid (HB.out.below hb)
        replace HW := Lib.hid (below_next HW.out hb)
        replace c30 := HB.out.cell0
        replace c31 := HB.out.cell1
        replace f30 := HB.out.fro 0
        replace f31 := HB.out.fro 1
        clear hb
        by_cases hz : decVal s.data.toList.tail = 0
        · have HZ := Lib.hid hz
          rw [hz, limbs_zero] at h1
          obtain ⟨A, c, rfl, g1, g2⟩ := h1.form
          clear h1 hz g1 g2 hl100
          go_wp2
          refine bodyPost_ret (v := .tuple #[.agg #[.bool false, .slice none 0 0], .int .i64 2]) (by simp [results, Tryd.results21, go_sem, c30, c31]) rfl ?_
          have e1 : zpErr s.data.toList = 2 := by unfold zpErr; rw [if_pos HH.out, if_pos HE.out, if_pos HZ.out]
          have e2 : zpNum s.data.toList = 0 := by unfold zpNum; rw [e1, if_neg (by decide)]
          rw [e1, e2]
          exact ⟨_, _, _, _, rfl, zat_nil _, below_stored HW.out (Nat.le_refl _) _ _⟩
        · have HZ := Lib.hid hz
          obtain ⟨A, c, rfl, g1, g2⟩ := h1.form
          have hlp : 0 < (limbs (decVal s.data.toList.tail)).length := List.length_pos_iff.2 (limbs_ne_nil hz)
          have hlb : (((limbs (decVal s.data.toList.tail)).length : Int) == 0) = false := by rw [beq_eq_false_iff_ne]; omega
          clear h1 hz
          go_wp2_with fail
          refine (make1_any _ _ _ _ (by exact H1.out) (by omega)).mono ?_
          rintro e w2 ⟨b3, A3, n3, k3, rfl, h3, hb⟩
          have HR := Lib.hid h3
          replace HB := Lib.hid (HB.out.below hb)
          replace HW := Lib.hid (below_next HW.out hb)
          replace c30 := HB.out.cell0
          replace c31 := HB.out.cell1
          replace f30 := HB.out.fro 0
          replace f31 := HB.out.fro 1
          clear hb h3
          go_wp2
          refine bodyPost_ret (v := .tuple #[.agg #[.bool b3, .slice A3 n3 k3], .int .i64 0]) (by simp [results, Tryd.results21, go_sem, c30, c31]) rfl ?_
          have e1 : zpErr s.data.toList = 0 := by unfold zpErr; rw [if_pos HH.out, if_pos HE.out, if_neg HZ.out]
          have e2 : zpNum s.data.toList = -(decVal s.data.toList.tail : Int) := by unfold zpNum; rw [e1, if_pos rfl, if_pos HH.out]
          rw [e1, e2]
          have h3 := HR.out.store HB.out nil_noInt (.bool b3) (.slice A3 n3 k3)
          rw [zval_true, val_limbs] at h3
          exact ⟨_, _, _, _, rfl, h3, below_stored HW.out (Nat.le_refl _) _ _⟩
      · have HE := Lib.hid he
        have heb : (parseErr s.data.toList.tail != 0) = true := by rw [bne_iff_ne]; exact he
        clear h1 he
        go_wp2
        refine bodyPost_ret (v := .tuple #[.agg #[.bool false, .slice none 0 0], .int .i64 (parseErr s.data.toList.tail)]) (by simp [results, Tryd.results21, go_sem, c30, c31]) rfl ?_
        have e1 : zpErr s.data.toList = parseErr s.data.toList.tail := by unfold zpErr; rw [if_pos HH.out, if_neg HE.out]
        have e2 : zpNum s.data.toList = 0 := by unfold zpNum; rw [e1, if_neg HE.out]
        rw [e1, e2]
        exact ⟨_, _, _, _, rfl, zat_nil _, below_stored HW.out (Nat.le_refl _) _ _⟩
    · have q1 : ((s[0].toNat : Int) == 45) = false := by rw [beq_eq_false_iff_ne]; omega
      have HH : Hid (¬ s.data.toList.head? = some 45) := by show ¬ _; rw [hh]; intro e; injection e with e; exact h45 (by rw [e]; rfl)
      clear hh h45 hs0
      go_enter Tryd.func21, Tryd.ntmps21
      go_wp2_with fail
      refine (rparse_any s _ hs).mono ?_
      rintro e w1 ⟨v1, rfl, h1, hb⟩
      replace HB := Lib.hid (HB.out.below hb)
      have HW := Lib.hid (below_next (below_alloc0 w _) hb)
      have c30 := HB.out.cell0
      have c31 := HB.out.cell1
      have f30 := HB.out.fro 0
      have f31 := HB.out.fro 1
      clear hb
      by_cases he : parseErr s.data.toList = 0
      · rw [parse_num_ok he] at h1
        rw [he]
        have HE := Lib.hid he
        have H1 := Lib.hid h1
        have hl100 : (limbs (decVal s.data.toList)).length ≤ 100 := by rw [← parse_num_ok he]; exact parse_num_len
        clear h1 he
        go_wp2_with fail
        refine (make1_any _ _ _ _ (by exact H1.out) (by omega)).mono ?_
        rintro e w2 ⟨b3, A3, n3, k3, rfl, h3, hb⟩
        have HR := Lib.hid h3
        replace HB := Lib.hid (HB.out.below hb)
        replace HW := Lib.hid (below_next HW.out hb)
        replace c30 := HB.out.cell0
        replace c31 := HB.out.cell1
        replace f30 := HB.out.fro 0
        replace f31 := HB.out.fro 1
        clear hb h3
        go_wp2
        refine bodyPost_ret (v := .tuple #[.agg #[.bool b3, .slice A3 n3 k3], .int .i64 0]) (by simp [results, Tryd.results21, go_sem, c30, c31]) rfl ?_
        have e1 : zpErr s.data.toList = 0 := by unfold zpErr; rw [if_neg HH.out, HE.out]
        have e2 : zpNum s.data.toList = (decVal s.data.toList : Int) := by unfold zpNum; rw [e1, if_pos rfl, if_neg HH.out]
        rw [e1, e2]
        have h3 := HR.out.store HB.out nil_noInt (.bool b3) (.slice A3 n3 k3)
        rw [zval_false, val_limbs] at h3
        exact ⟨_, _, _, _, rfl, h3, below_stored HW.out (Nat.le_refl _) _ _⟩
      · have HE := Lib.hid he
        have heb : (parseErr s.data.toList != 0) = true := by rw [bne_iff_ne]; exact he
        clear h1 he
        go_wp2
        refine bodyPost_ret (v := .tuple #[.agg #[.bool false, .slice none 0 0], .int .i64 (parseErr s.data.toList)]) (by simp [results, Tryd.results21, go_sem, c30, c31]) rfl ?_
        have e1 : zpErr s.data.toList = parseErr s.data.toList := by unfold zpErr; rw [if_neg HH.out]
        have e2 : zpNum s.data.toList = 0 := by unfold zpNum; rw [e1, if_neg HE.out]
        rw [e1, e2]
        exact ⟨_, _, _, _, rfl, zat_nil _, below_stored HW.out (Nat.le_refl _) _ _⟩

theorem take_eq_next {xs ys : List Nat} {k : Nat} (hk : k < xs.length) (hk2 : k < ys.length) (h : xs.take k = ys.take k) (he : xs.getD k 0 = ys.getD k 0) : xs.take (k + 1) = ys.take (k + 1) := by
  rw [List.take_succ_eq_append_getElem hk, List.take_succ_eq_append_getElem hk2, h]
  rw [List.getD_eq_getElem?_getD, List.getD_eq_getElem?_getD, List.getElem?_eq_getElem hk, List.getElem?_eq_getElem hk2, Option.getD_some, Option.getD_some] at he
  rw [he]
def sameB (b1 b2 : Bool) (us vs : List Nat) : Bool := decide (b1 = b2 ∧ us = vs)
def GivesBool (w : World) (b : Bool) (e : Ending) (w' : World) : Prop := e = .returned (.bool b) ∧ Below w.heap.size w w'

set_option maxHeartbeats 1000000 in
theorem zsame_any (b1 b2 : Bool) (m1 m2 : Value) (us vs : List Nat) (w : World) (h1 : NatAt w m1 us) (h2 : NatAt w m2 vs) : Calls Tryd.prog 16 #[.agg #[.bool b1, m1], .agg #[.bool b2, m2]] w (GivesBool w (sameB b1 b2 us vs)) := by
  obtain ⟨W, hW, B1, B2, HW, HS⟩ := boxes2 w (.bool b1) m1 (.bool b2) m2
  have H1 := Lib.hid (h1.below HW.out)
  have H2 := Lib.hid (h2.below HW.out)
  obtain ⟨A, c, rfl, g1, g2⟩ := h1.form
  obtain ⟨A2, c2, rfl, k1, k2⟩ := h2.form
  have HWE := Lib.hid hW
  clear h1 h2 hW
  have c10 := B1.out.cell0
  have c11 := B1.out.cell1
  have c20 := B2.out.cell0
  have c21 := B2.out.cell1
  by_cases hs : b1 = b2
  · subst hs
    by_cases hl : us.length = vs.length
    · have hlb : ((us.length : Int) != (vs.length : Int)) = false := by rw [hl]; simp
      have HE := Lib.hid hl
      have hle : us.length ≤ vs.length := by omega
      have hle2 : vs.length ≤ us.length := by omega
      clear hl
      go_enter Tryd.func16, Tryd.ntmps16
      go_wp2
      rw [HWE.out]
      go_loopw [5] (fun s wr => ∃ (k m : Nat), k ≤ us.length ∧ s = .int .i64 k ∧ wr = W.drewN m ∧ us.take k = vs.take k) (fun s _ => us.length - (intOf s).toNat)
      case atStart => exact ⟨0, 0, Nat.zero_le _, rfl, rfl, rfl⟩
      case round =>
        obtain ⟨k, m, hk, rfl, hw, ht⟩ := hrel
        have d10 : wr.cell? ⟨w.heap.size, 0, none⟩ = some (.bool b1) := by rw [hw]; exact c10
        have d11 : wr.cell? ⟨w.heap.size, 1, none⟩ = some (.slice A us.length c) := by rw [hw]; exact c11
        have d20 : wr.cell? ⟨w.heap.size + 1, 0, none⟩ = some (.bool b1) := by rw [hw]; exact c20
        have d21 : wr.cell? ⟨w.heap.size + 1, 1, none⟩ = some (.slice A2 vs.length c2) := by rw [hw]; exact c21
        have HWr := Lib.hid hw
        have HT := Lib.hid ht
        clear ht
        by_cases hlt : k < us.length
        · obtain ⟨b, o, rfl, hb, hc⟩ := H1.out.at_ (by omega)
          obtain ⟨b', o2, rfl, hb2, hc2⟩ := H2.out.at_ (by omega)
          have hcj : wr.cell? ⟨b, o + k, none⟩ = some (.int .u32 (us.getD k 0 : Nat)) := by rw [hw]; exact hc k hlt
          have hcj2 : wr.cell? ⟨b', o2 + k, none⟩ = some (.int .u32 (vs.getD k 0 : Nat)) := by rw [hw]; exact hc2 k (by omega)
          clear hc hc2 hw
          obtain ⟨x, hx⟩ : ∃ x : Nat, x = us.getD k 0 := ⟨_, rfl⟩
          obtain ⟨y, hy⟩ : ∃ x : Nat, x = vs.getD k 0 := ⟨_, rfl⟩
          rw [← hx] at hcj
          rw [← hy] at hcj2
          have HX := Lib.hid hx
          have HY := Lib.hid hy
          clear hx hy
          have hlt2 : k < vs.length := by omega
          by_cases hxy : x = y
          · have hnb : ((x : Int) != (y : Int)) = false := by rw [hxy]; simp
            have HXY := Lib.hid hxy
            clear hxy
            go_wp2
            go_quiet (fail)
            go_wp2
            go_roundw
            case rel => exact ⟨k + 1, m + nq, by omega, by go_num, by rw [HWr.out, World.drewN_drewN], take_eq_next hlt hlt2 HT.out (by rw [← HX.out, ← HY.out, HXY.out])⟩
            case measure => simp [intOf]; omega
          · have hnb : ((x : Int) != (y : Int)) = true := by rw [bne_iff_ne]; omega
            have HXY := Lib.hid hxy
            clear hxy
            go_wp2
            go_quiet (fail)
            go_wp2
            go_ret
            have hd : sameB b1 b1 us vs = false := by
              unfold sameB
              rw [decide_eq_false_iff_not]; intro e
              exact HXY.out (by rw [HX.out, HY.out, e.2])
            rw [hd]
            exact ⟨rfl, by rw [HWr.out, World.drewN_drewN]; exact below_drewN HW.out _⟩
        · clear hw
          go_wp2
          go_ret
          have hd : sameB b1 b1 us vs = true := by
            unfold sameB
            rw [decide_eq_true_iff]
            have := HT.out
            rw [List.take_of_length_le (by omega), List.take_of_length_le (by have := HE.out; omega)] at this
            exact ⟨rfl, this⟩
          rw [hd]
          exact ⟨rfl, by rw [HWr.out]; exact below_drewN HW.out _⟩
    · have hlb : ((us.length : Int) != (vs.length : Int)) = true := by rw [bne_iff_ne]; omega
      have HE := Lib.hid hl
      clear hl
      go_enter Tryd.func16, Tryd.ntmps16
      go_wp2
      rw [HWE.out]
      go_ret
      have hd : sameB b1 b1 us vs = false := by
        unfold sameB
        rw [decide_eq_false_iff_not]; intro e
        exact HE.out (by rw [e.2])
      rw [hd]
      exact ⟨rfl, HW.out⟩
  · have hlb : (b1 != b2) = true := by rw [bne_iff_ne]; exact hs
    have hlb2 : (b1 == b2) = false := by simpa using hs
    have HE := Lib.hid hs
    clear hs
    go_enter Tryd.func16, Tryd.ntmps16
    go_wp2
    rw [HWE.out]
    go_ret
    have hd : sameB b1 b2 us vs = false := by
      unfold sameB
      rw [decide_eq_false_iff_not]; intro e
      exact HE.out e.1
    rw [hd]
    exact ⟨rfl, HW.out⟩
theorem limbs_inj {a b : Nat} (h : limbs a = limbs b) : a = b := by rw [← val_limbs a, h, val_limbs]
/-- Integers in normal form are the same if their values are. -/
theorem zsame {w : World} {b1 b2 : Bool} {m1 m2 : Value} {z1 z2 : Int} (h1 : ZAt w b1 m1 z1) (h2 : ZAt w b2 m2 z2) : Calls Tryd.prog 16 #[.agg #[.bool b1, m1], .agg #[.bool b2, m2]] w fun e w' => e = .returned (.bool (decide (z1 = z2))) ∧ Below w.heap.size w w' := by
  refine (zsame_any b1 b2 m1 m2 _ _ w h1.2 h2.2).mono fun e w' ⟨he, hb⟩ => ⟨?_, hb⟩
  rw [he]
  unfold sameB
  congr 2
  apply decide_eq_decide.2
  rw [h1.1, h2.1]
  constructor
  · rintro ⟨a, b⟩
    have := limbs_inj b
    by_cases ha : z1 < 0
    · rw [decide_eq_true ha] at a; have := of_decide_eq_true a.symm; omega
    · rw [decide_eq_false ha] at a; have := of_decide_eq_false a.symm; omega
  · rintro rfl; exact ⟨rfl, rfl⟩
theorem zsame_eq {w : World} {b1 b2 : Bool} {m1 m2 : Value} {z1 z2 : Int} (h1 : ZAt w b1 m1 z1) (h2 : ZAt w b2 m2 z2) (h : z1 = z2) : Calls Tryd.prog 16 #[.agg #[.bool b1, m1], .agg #[.bool b2, m2]] w (GivesTrue w) :=
  (zsame h1 h2).mono fun _ _ ⟨he, hb⟩ => ⟨by rw [he, decide_eq_true h], hb⟩

set_option maxHeartbeats 400000 in
theorem zshort_any (b : Bool) (m : Value) (xs : List Nat) (k : Nat) (w : World) (h : NatAt w m xs) : Calls Tryd.prog 19 #[.agg #[.bool b, m], .int .i64 k] w (GivesBool w (decide (xs.length ≤ k))) := by
  obtain ⟨A, c, rfl, g1, g2⟩ := h.form
  clear h
  go_enter Tryd.func19, Tryd.ntmps19
  by_cases hk : xs.length ≤ k
  · have t1 : decide (xs.length ≤ k) = true := by simpa using hk
    go_wp2
    go_ret
    exact ⟨by rw [t1]; rfl, below_alloc0 w _⟩
  · have t1 : decide (xs.length ≤ k) = false := by simpa using hk
    go_wp2
    go_ret
    exact ⟨by rw [t1]; rfl, below_alloc0 w _⟩
end Go.Proofs.YtcdfhiocglibfaaDoor
