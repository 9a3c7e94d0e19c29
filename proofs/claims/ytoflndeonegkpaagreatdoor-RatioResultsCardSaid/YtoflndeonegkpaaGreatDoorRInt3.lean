/- garmentref02: Parse, Same, Short. -/
import Derived.Test.YtoflndeonegkpaaGreatDoorRInt2
namespace Go.Proofs.YtoflndeonegkpaaGreatDoor
open Go.RowKit

set_option maxHeartbeats 2000000 in
theorem riparse_any (s : ByteArray) (w : World) (hs : s.size ≤ 9223372036854775807) : Calls Tryz.prog 65 #[.string s] w (GivesZE w (zpNum s.data.toList) (zpErr s.data.toList)) := by
  have HB := Lib.hid (Box.new (w := w) (x := .bool false) (y := .slice none 0 0) rfl)
  have htl := ByteArray.toList_eq s
  by_cases hs0 : s.size = 0
  · have hnil : s.data.toList = [] := List.eq_nil_of_length_eq_zero (by rw [size_list]; exact hs0)
    have h1 : s.toList = [] := by rw [htl]; exact hnil
    have h2 : s.toList.isEmpty = true := by rw [h1]; rfl
    have HH : Hid (¬ s.data.toList.head? = some 45) := by show ¬ _; rw [hnil]; exact fun e => by cases e
    clear htl hnil
    go_enter Tryz.func65, Tryz.ntmps65
    go_wp2_with fail
    refine (rparse_any s _ hs).mono ?_
    rintro e w1 ⟨v1, rfl, h1, hb⟩
    replace HB := Lib.hid (HB.out.below hb)
    have HW := Lib.hid (below_next (below_alloc0 w _) hb)
    have c30 := HB.out.cell0
    have c31 := HB.out.cell1
    have f30 := HB.out.fro 0
    have f31 := HB.out.fro 1
    clear hb
    by_cases he : parseErr s.data.toList = 0
    · rw [parse_num_ok he] at h1
      rw [he]
      have HE := Lib.hid he
      have H1 := Lib.hid h1
      have hl100 : (limbs (decVal s.data.toList)).length ≤ 100 := by rw [← parse_num_ok he]; exact parse_num_len
      clear h1 he
      go_wp2_with fail
      refine (make1_any _ _ _ _ (by exact H1.out) (by omega)).mono ?_
      rintro e w2 ⟨b3, A3, n3, k3, rfl, h3, hb⟩
      have HR := Lib.hid h3
      replace HB := Lib.hid (HB.out.below hb)
      replace HW := Lib.hid (below_next HW.out hb)
      replace c30 := HB.out.cell0
      replace c31 := HB.out.cell1
      replace f30 := HB.out.fro 0
      replace f31 := HB.out.fro 1
      clear hb h3
      go_wp2
      refine bodyPost_ret (v := .tuple #[.agg #[.bool b3, .slice A3 n3 k3], .int .i64 0]) (by simp [results, Tryz.results65, go_sem, c30, c31]) rfl ?_
      have e1 : zpErr s.data.toList = 0 := by unfold zpErr; rw [if_neg HH.out, HE.out]
      have e2 : zpNum s.data.toList = (decVal s.data.toList : Int) := by unfold zpNum; rw [e1, if_pos rfl, if_neg HH.out]
      rw [e1, e2]
      have h3 := HR.out.store HB.out nil_noInt (.bool b3) (.slice A3 n3 k3)
      rw [zval_false, val_limbs] at h3
      exact ⟨_, _, _, _, rfl, h3, below_stored HW.out (Nat.le_refl _) _ _⟩
    · have HE := Lib.hid he
      have heb : (parseErr s.data.toList != 0) = true := by rw [bne_iff_ne]; exact he
      clear h1 he
      go_wp2
      refine bodyPost_ret (v := .tuple #[.agg #[.bool false, .slice none 0 0], .int .i64 (parseErr s.data.toList)]) (by simp [results, Tryz.results65, go_sem, c30, c31]) rfl ?_
      have e1 : zpErr s.data.toList = parseErr s.data.toList := by unfold zpErr; rw [if_neg HH.out]
      have e2 : zpNum s.data.toList = 0 := by unfold zpNum; rw [e1, if_neg HE.out]
      rw [e1, e2]
      exact ⟨_, _, _, _, rfl, zat_nil _, below_stored HW.out (Nat.le_refl _) _ _⟩
  · have hne : ¬ s.toList = [] := by
      rw [htl]; intro h
      have h2 : s.data.toList.length = 0 := by rw [h]; rfl
      rw [size_list] at h2
      omega
    have hem : s.toList.isEmpty = false := by
      rw [List.isEmpty_eq_false_iff]; exact hne
    have hsp : 0 < s.size := by omega
    have hh := head_byte s hsp
    clear htl
    by_cases h45 : s[0].toNat = 45
    · have q1 : ((s[0].toNat : Int) == 45) = true := by rw [h45]; rfl
      have HH : Hid (s.data.toList.head? = some 45) := by show _ = _; rw [hh]; congr 1; exact UInt8.toNat_inj.1 h45
      clear hh h45 hs0
      have HD : Hid ((s.extract 1 s.size).data.toList = s.data.toList.tail) := by show _ = _; rw [ext_drop, List.drop_one]
      have hdl : (s.extract 1 s.size).size ≤ 9223372036854775807 := by rw [← size_list, ext_drop, List.length_drop, size_list]; omega
      go_enter Tryz.func65, Tryz.ntmps65
      go_wp2_with fail
      refine (rparse_any _ _ hdl).mono ?_
      rintro e w1 ⟨v1, rfl, h1, hb⟩
      rw [HD.out] at h1 ⊢
      replace HB := Lib.hid (HB.out.below hb)
      have HW := Lib.hid (below_next (below_alloc0 w _) hb)
      have c30 := HB.out.cell0
      have c31 := HB.out.cell1
      have f30 := HB.out.fro 0
      have f31 := HB.out.fro 1
      clear hb
      by_cases he : parseErr s.data.toList.tail = 0
      · rw [parse_num_ok he] at h1
        rw [he]
        have HE := Lib.hid he
        have H1 := Lib.hid h1
        have hl100 : (limbs (decVal s.data.toList.tail)).length ≤ 100 := by rw [← parse_num_ok he]; exact parse_num_len
        clear h1 he
        go_wp2_with fail
        refine (rnorm_any _ _ _ (by exact H1.out) (by omega)).mono ?_
        rintro e w1b ⟨v1b, rfl, h1, hb⟩
        rw [val_limbs] at h1
        replace H1 := Lib.hid (H1.out.below hb)
        replace HB := Lib.hid (HB.out.below hb)
        replace HW := Lib.hid (below_next HW.out hb)
        replace c30 := HB.out.cell0
        replace c31 := HB.out.cell1
        replace f30 := HB.out.fro 0
        replace f31 := HB.out.fro 1
        clear hb
        by_cases hz : decVal s.data.toList.tail = 0
        · have HZ := Lib.hid hz
          rw [hz, limbs_zero] at h1
          obtain ⟨A, c, rfl, g1, g2⟩ := h1.form
          clear h1 hz g1 g2 hl100
          go_wp2
          refine bodyPost_ret (v := .tuple #[.agg #[.bool false, .slice none 0 0], .int .i64 2]) (by simp [results, Tryz.results65, go_sem, c30, c31]) rfl ?_
          have e1 : zpErr s.data.toList = 2 := by unfold zpErr; rw [if_pos HH.out, if_pos HE.out, if_pos HZ.out]
          have e2 : zpNum s.data.toList = 0 := by unfold zpNum; rw [e1, if_neg (by decide)]
          rw [e1, e2]
          exact ⟨_, _, _, _, rfl, zat_nil _, below_stored HW.out (Nat.le_refl _) _ _⟩
        · have HZ := Lib.hid hz
          obtain ⟨A, c, rfl, g1, g2⟩ := h1.form
          have hlp : 0 < (limbs (decVal s.data.toList.tail)).length := List.length_pos_iff.2 (limbs_ne_nil hz)
          have hlb : (((limbs (decVal s.data.toList.tail)).length : Int) == 0) = false := by rw [beq_eq_false_iff_ne]; omega
          clear h1 hz
          go_wp2_with fail
          refine (make1_any _ _ _ _ (by exact H1.out) (by omega)).mono ?_
          rintro e w2 ⟨b3, A3, n3, k3, rfl, h3, hb⟩
          have HR := Lib.hid h3
          replace HB := Lib.hid (HB.out.below hb)
          replace HW := Lib.hid (below_next HW.out hb)
          replace c30 := HB.out.cell0
          replace c31 := HB.out.cell1
          replace f30 := HB.out.fro 0
          replace f31 := HB.out.fro 1
          clear hb h3
          go_wp2
          refine bodyPost_ret (v := .tuple #[.agg #[.bool b3, .slice A3 n3 k3], .int .i64 0]) (by simp [results, Tryz.results65, go_sem, c30, c31]) rfl ?_
          have e1 : zpErr s.data.toList = 0 := by unfold zpErr; rw [if_pos HH.out, if_pos HE.out, if_neg HZ.out]
          have e2 : zpNum s.data.toList = -(decVal s.data.toList.tail : Int) := by unfold zpNum; rw [e1, if_pos rfl, if_pos HH.out]
          rw [e1, e2]
          have h3 := HR.out.store HB.out nil_noInt (.bool b3) (.slice A3 n3 k3)
          rw [zval_true, val_limbs] at h3
          exact ⟨_, _, _, _, rfl, h3, below_stored HW.out (Nat.le_refl _) _ _⟩
      · have HE := Lib.hid he
        have heb : (parseErr s.data.toList.tail != 0) = true := by rw [bne_iff_ne]; exact he
        clear h1 he
        go_wp2
        refine bodyPost_ret (v := .tuple #[.agg #[.bool false, .slice none 0 0], .int .i64 (parseErr s.data.toList.tail)]) (by simp [results, Tryz.results65, go_sem, c30, c31]) rfl ?_
        have e1 : zpErr s.data.toList = parseErr s.data.toList.tail := by unfold zpErr; rw [if_pos HH.out, if_neg HE.out]
        have e2 : zpNum s.data.toList = 0 := by unfold zpNum; rw [e1, if_neg HE.out]
        rw [e1, e2]
        exact ⟨_, _, _, _, rfl, zat_nil _, below_stored HW.out (Nat.le_refl _) _ _⟩
    · have q1 : ((s[0].toNat : Int) == 45) = false := by rw [beq_eq_false_iff_ne]; omega
      have HH : Hid (¬ s.data.toList.head? = some 45) := by show ¬ _; rw [hh]; intro e; injection e with e; exact h45 (by rw [e]; rfl)
      clear hh h45 hs0
      go_enter Tryz.func65, Tryz.ntmps65
      go_wp2_with fail
      refine (rparse_any s _ hs).mono ?_
      rintro e w1 ⟨v1, rfl, h1, hb⟩
      replace HB := Lib.hid (HB.out.below hb)
      have HW := Lib.hid (below_next (below_alloc0 w _) hb)
      have c30 := HB.out.cell0
      have c31 := HB.out.cell1
      have f30 := HB.out.fro 0
      have f31 := HB.out.fro 1
      clear hb
      by_cases he : parseErr s.data.toList = 0
      · rw [parse_num_ok he] at h1
        rw [he]
        have HE := Lib.hid he
        have H1 := Lib.hid h1
        have hl100 : (limbs (decVal s.data.toList)).length ≤ 100 := by rw [← parse_num_ok he]; exact parse_num_len
        clear h1 he
        go_wp2_with fail
        refine (make1_any _ _ _ _ (by exact H1.out) (by omega)).mono ?_
        rintro e w2 ⟨b3, A3, n3, k3, rfl, h3, hb⟩
        have HR := Lib.hid h3
        replace HB := Lib.hid (HB.out.below hb)
        replace HW := Lib.hid (below_next HW.out hb)
        replace c30 := HB.out.cell0
        replace c31 := HB.out.cell1
        replace f30 := HB.out.fro 0
        replace f31 := HB.out.fro 1
        clear hb h3
        go_wp2
        refine bodyPost_ret (v := .tuple #[.agg #[.bool b3, .slice A3 n3 k3], .int .i64 0]) (by simp [results, Tryz.results65, go_sem, c30, c31]) rfl ?_
        have e1 : zpErr s.data.toList = 0 := by unfold zpErr; rw [if_neg HH.out, HE.out]
        have e2 : zpNum s.data.toList = (decVal s.data.toList : Int) := by unfold zpNum; rw [e1, if_pos rfl, if_neg HH.out]
        rw [e1, e2]
        have h3 := HR.out.store HB.out nil_noInt (.bool b3) (.slice A3 n3 k3)
        rw [zval_false, val_limbs] at h3
        exact ⟨_, _, _, _, rfl, h3, below_stored HW.out (Nat.le_refl _) _ _⟩
      · have HE := Lib.hid he
        have heb : (parseErr s.data.toList != 0) = true := by rw [bne_iff_ne]; exact he
        clear h1 he
        go_wp2
        refine bodyPost_ret (v := .tuple #[.agg #[.bool false, .slice none 0 0], .int .i64 (parseErr s.data.toList)]) (by simp [results, Tryz.results65, go_sem, c30, c31]) rfl ?_
        have e1 : zpErr s.data.toList = parseErr s.data.toList := by unfold zpErr; rw [if_neg HH.out]
        have e2 : zpNum s.data.toList = 0 := by unfold zpNum; rw [e1, if_neg HE.out]
        rw [e1, e2]
        exact ⟨_, _, _, _, rfl, zat_nil _, below_stored HW.out (Nat.le_refl _) _ _⟩

theorem take_eq_next {xs ys : List Nat} {k : Nat} (hk : k < xs.length) (hk2 : k < ys.length) (h : xs.take k = ys.take k) (he : xs.getD k 0 = ys.getD k 0) : xs.take (k + 1) = ys.take (k + 1) := by
  rw [List.take_succ_eq_append_getElem hk, List.take_succ_eq_append_getElem hk2, h]
  rw [List.getD_eq_getElem?_getD, List.getD_eq_getElem?_getD, List.getElem?_eq_getElem hk, List.getElem?_eq_getElem hk2, Option.getD_some, Option.getD_some] at he
  rw [he]
def sameB (b1 b2 : Bool) (us vs : List Nat) : Bool := decide (b1 = b2 ∧ us = vs)
def GivesBool (w : World) (b : Bool) (e : Ending) (w' : World) : Prop := e = .returned (.bool b) ∧ Below w.heap.size w w'

theorem limbs_inj {a b : Nat} (h : limbs a = limbs b) : a = b := by rw [← val_limbs a, h, val_limbs]
end Go.Proofs.YtoflndeonegkpaaGreatDoor
