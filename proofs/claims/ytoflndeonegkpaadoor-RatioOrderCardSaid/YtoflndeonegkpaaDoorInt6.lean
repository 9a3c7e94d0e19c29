/- integer.Parse. -/
import Derived.Test.YtoflndeonegkpaaDoorInt5
namespace Go.Proofs.YtoflndeonegkpaaDoor
open Go.RowKit

/-- What Parse returns: the error's code and the integer. -/
def zpErr (l : List UInt8) : Int := if l.head? = some 45 then (if parseErr l.tail = 0 then (if decVal l.tail = 0 then 2 else 0) else parseErr l.tail) else parseErr l
def zpNum (l : List UInt8) : Int := if zpErr l = 0 then (if l.head? = some 45 then -(decVal l.tail : Int) else (decVal l : Int)) else 0
def GivesZE (w : World) (z c : Int) (e : Ending) (w' : World) : Prop := ∃ b A n k, e = .returned (.tuple #[.agg #[.bool b, .slice A n k], .int .i64 c]) ∧ ZAt w' b (.slice A n k) z ∧ Below w.heap.size w w'
theorem parse_ok {l : List UInt8} (h : parseErr l = 0) : l.length ≤ 200 ∧ isNum l := by
  unfold parseErr at h
  split at h
  · split at h
    · exact ⟨by assumption, by assumption⟩
    · cases h
  · cases h
theorem parse_num_ok {l : List UInt8} (h : parseErr l = 0) : parseNum l = limbs (decVal l) := by rw [parseNum, if_pos (parse_ok h)]
theorem parse_num_len {l : List UInt8} : (parseNum l).length ≤ 100 := by
  unfold parseNum
  split
  · rename_i h; exact len_of_lt (decVal_lt l) (by omega)
  · simp
theorem parse_err_range (l : List UInt8) : parseErr l = 0 ∨ parseErr l = 2 ∨ parseErr l = 5 := by
  unfold parseErr
  split
  · split
    · exact .inl rfl
    · exact .inr (.inl rfl)
  · exact .inr (.inr rfl)

/-- strings.CutPrefix with a minus. -/
theorem hasMinus (s : ByteArray) : Lib.hasPrefix s.data.toList [45] = decide (s.data.toList.head? = some 45) := by
  cases h : s.data.toList with
  | nil => rfl
  | cons c l =>
    simp [Lib.hasPrefix, List.isPrefixOf]
    by_cases hc : c = 45
    · subst hc; rfl
    · rw [decide_eq_false hc, beq_eq_false_iff_ne]; exact fun e => hc e.symm
theorem ext_drop (s : ByteArray) (k : Nat) : (s.extract k s.size).data.toList = s.data.toList.drop k := by
  rw [ByteArray.data_extract, Array.toList_extract, List.extract_eq_take_drop, List.take_of_length_le]
  rw [List.length_drop, size_list]; exact Nat.le_refl _
/-- What is cut, and whether. -/
def Cut (w : World) (s : ByteArray) (e : Ending) (w' : World) : Prop := ∃ d : ByteArray, e = .returned (.tuple #[.string d, .bool (decide (s.data.toList.head? = some 45))]) ∧ d.data.toList = (if s.data.toList.head? = some 45 then s.data.toList.tail else s.data.toList) ∧ d.size ≤ s.size ∧ w = w'

set_option maxHeartbeats 1000000 in
theorem cutlite_any (s : ByteArray) (w : World) (hs : s.size ≤ 9223372036854775807) : Calls Tryd.prog 85 #[.string s, .string ⟨#[45]⟩] w (Cut w s) := by
  have HM := Lib.hid (hasMinus s)
  by_cases h : s.data.toList.head? = some 45
  · have HH := Lib.hid h
    have hp : 0 < s.size := by
      rcases Nat.eq_zero_or_pos s.size with e | e
      · have := size_list s
        rw [e] at this
        have h2 := List.eq_nil_of_length_eq_zero this
        rw [h2] at h
        cases h
      · exact e
    clear h
    go_enter Tryd.func85, Tryd.ntmps85
    go_wp2_with fail
    refine (Tryd.stringslite_HasPrefix _ _ _).mono ?_
    rintro e w' ⟨rfl, rfl⟩
    rw [show Lib.hasPrefix s.data.toList (ByteArray.mk #[45]).data.toList = true from by rw [show (ByteArray.mk #[45]).data.toList = [45] from rfl, HM.out]; exact decide_eq_true HH.out]
    go_wp2
    go_ret2
    exact ⟨s.extract 1 s.size, by rw [decide_eq_true HH.out]; rfl, by rw [if_pos HH.out, ext_drop, List.drop_one], by rw [← size_list, ext_drop, List.length_drop, size_list]; omega, rfl⟩
  · have HH := Lib.hid h
    clear h
    go_enter Tryd.func85, Tryd.ntmps85
    go_wp2_with fail
    refine (Tryd.stringslite_HasPrefix _ _ _).mono ?_
    rintro e w' ⟨rfl, rfl⟩
    rw [show Lib.hasPrefix s.data.toList (ByteArray.mk #[45]).data.toList = false from by rw [show (ByteArray.mk #[45]).data.toList = [45] from rfl, HM.out]; exact decide_eq_false HH.out]
    go_wp2
    go_ret2
    exact ⟨s, by rw [decide_eq_false HH.out]; rfl, by rw [if_neg HH.out], Nat.le_refl _, rfl⟩
theorem cut_any (s : ByteArray) (w : World) (hs : s.size ≤ 9223372036854775807) : Calls Tryd.prog 73 #[.string s, .string ⟨#[45]⟩] w (Cut w s) := by
  go_enter Tryd.func73, Tryd.ntmps73
  go_wp2_with fail
  refine (cutlite_any s _ hs).mono ?_
  rintro e w' ⟨d, rfl, hd, hdl, rfl⟩
  have HD := Lib.hid hd
  clear hd
  go_wp2
  go_ret2
  exact ⟨d, rfl, HD.out, hdl, rfl⟩

set_option maxHeartbeats 2000000 in
theorem iparse_any (s : ByteArray) (w : World) (hs : s.size ≤ 9223372036854775807) : Calls Tryd.prog 53 #[.string s] w (GivesZE w (zpNum s.data.toList) (zpErr s.data.toList)) := by
  have HB := Lib.hid (Box.new (w := w) (x := .bool false) (y := .slice none 0 0) rfl)
  by_cases hneg : s.data.toList.head? = some 45
  · have HH := Lib.hid hneg
    have hdt := decide_eq_true hneg
    clear hneg
    go_enter Tryd.func53, Tryd.ntmps53
    go_wp2_with fail
    refine (cut_any s _ hs).mono ?_
    rintro e w' ⟨d, rfl, hd, hdl, rfl⟩
    rw [hdt]
    rw [if_pos HH.out] at hd
    have HD := Lib.hid hd
    clear hd hdt
    go_wp2_with fail
    refine (parse_any d _ (by omega)).mono ?_
    rintro e w1 ⟨v1, rfl, h1, hb⟩
    rw [HD.out] at h1 ⊢
    replace HB := Lib.hid (HB.out.below hb)
    have HW := Lib.hid (below_next (below_alloc0 w _) hb)
    have c30 := HB.out.cell0
    have c31 := HB.out.cell1
    have f30 := HB.out.fro 0
    have f31 := HB.out.fro 1
    clear hb
    by_cases he : parseErr s.data.toList.tail = 0
    · rw [parse_num_ok he] at h1
      rw [he]
      have HE := Lib.hid he
      have H1 := Lib.hid h1
      have hl100 : (limbs (decVal s.data.toList.tail)).length ≤ 100 := by rw [← parse_num_ok he]; exact parse_num_len
      by_cases hz : decVal s.data.toList.tail = 0
      · have HZ := Lib.hid hz
        rw [hz, limbs_zero] at h1
        obtain ⟨A, c, rfl, g1, g2⟩ := h1.form
        clear h1 hz he g1 g2 hl100
        go_wp2
        refine bodyPost_ret (v := .tuple #[.agg #[.bool false, .slice none 0 0], .int .i64 2]) (by simp [results, Tryd.results53, go_sem, c30, c31]) rfl ?_
        have e1 : zpErr s.data.toList = 2 := by unfold zpErr; rw [if_pos HH.out, if_pos HE.out, if_pos HZ.out]
        have e2 : zpNum s.data.toList = 0 := by unfold zpNum; rw [e1, if_neg (by decide)]
        rw [e1, e2]
        exact ⟨_, _, _, _, rfl, zat_nil _, below_stored HW.out (Nat.le_refl _) _ _⟩
      · have HZ := Lib.hid hz
        obtain ⟨A, c, rfl, g1, g2⟩ := h1.form
        have hlp : 0 < (limbs (decVal s.data.toList.tail)).length := List.length_pos_iff.2 (limbs_ne_nil hz)
        have hlb : (((limbs (decVal s.data.toList.tail)).length : Int) == 0) = false := by rw [beq_eq_false_iff_ne]; omega
        clear h1 hz he
        go_wp2_with fail
        refine (signed_any _ _ _ _ (by exact H1.out) (by omega)).mono ?_
        rintro e w2 ⟨b3, A3, n3, k3, rfl, h3, hb⟩
        have HR := Lib.hid h3
        replace HB := Lib.hid (HB.out.below hb)
        replace HW := Lib.hid (below_next HW.out hb)
        replace c30 := HB.out.cell0
        replace c31 := HB.out.cell1
        replace f30 := HB.out.fro 0
        replace f31 := HB.out.fro 1
        clear hb h3
        go_wp2
        refine bodyPost_ret (v := .tuple #[.agg #[.bool b3, .slice A3 n3 k3], .int .i64 0]) (by simp [results, Tryd.results53, go_sem, c30, c31]) rfl ?_
        have e1 : zpErr s.data.toList = 0 := by unfold zpErr; rw [if_pos HH.out, if_pos HE.out, if_neg HZ.out]
        have e2 : zpNum s.data.toList = -(decVal s.data.toList.tail : Int) := by unfold zpNum; rw [e1, if_pos rfl, if_pos HH.out]
        rw [e1, e2]
        have h3 := HR.out.store HB.out nil_noInt (.bool b3) (.slice A3 n3 k3)
        rw [zval_true, val_limbs] at h3
        exact ⟨_, _, _, _, rfl, h3, below_stored HW.out (Nat.le_refl _) _ _⟩
    · have HE := Lib.hid he
      have heb : (parseErr s.data.toList.tail != 0) = true := by rw [bne_iff_ne]; exact he
      clear h1 he
      go_wp2
      refine bodyPost_ret (v := .tuple #[.agg #[.bool false, .slice none 0 0], .int .i64 (parseErr s.data.toList.tail)]) (by simp [results, Tryd.results53, go_sem, c30, c31]) rfl ?_
      have e1 : zpErr s.data.toList = parseErr s.data.toList.tail := by unfold zpErr; rw [if_pos HH.out, if_neg HE.out]
      have e2 : zpNum s.data.toList = 0 := by unfold zpNum; rw [e1, if_neg HE.out]
      rw [e1, e2]
      exact ⟨_, _, _, _, rfl, zat_nil _, below_stored HW.out (Nat.le_refl _) _ _⟩
  · have HH := Lib.hid hneg
    have hdt := decide_eq_false hneg
    clear hneg
    go_enter Tryd.func53, Tryd.ntmps53
    go_wp2_with fail
    refine (cut_any s _ hs).mono ?_
    rintro e w' ⟨d, rfl, hd, hdl, rfl⟩
    rw [hdt]
    rw [if_neg HH.out] at hd
    have HD := Lib.hid hd
    clear hd hdt
    go_wp2_with fail
    refine (parse_any d _ (by omega)).mono ?_
    rintro e w1 ⟨v1, rfl, h1, hb⟩
    rw [HD.out] at h1 ⊢
    replace HB := Lib.hid (HB.out.below hb)
    have HW := Lib.hid (below_next (below_alloc0 w _) hb)
    have c30 := HB.out.cell0
    have c31 := HB.out.cell1
    have f30 := HB.out.fro 0
    have f31 := HB.out.fro 1
    clear hb
    by_cases he : parseErr s.data.toList = 0
    · rw [parse_num_ok he] at h1
      rw [he]
      have HE := Lib.hid he
      have H1 := Lib.hid h1
      have hl100 : (limbs (decVal s.data.toList)).length ≤ 100 := by rw [← parse_num_ok he]; exact parse_num_len
      clear h1 he
      go_wp2_with fail
      refine (signed_any _ _ _ _ (by exact H1.out) (by omega)).mono ?_
      rintro e w2 ⟨b3, A3, n3, k3, rfl, h3, hb⟩
      have HR := Lib.hid h3
      replace HB := Lib.hid (HB.out.below hb)
      replace HW := Lib.hid (below_next HW.out hb)
      replace c30 := HB.out.cell0
      replace c31 := HB.out.cell1
      replace f30 := HB.out.fro 0
      replace f31 := HB.out.fro 1
      clear hb h3
      go_wp2
      refine bodyPost_ret (v := .tuple #[.agg #[.bool b3, .slice A3 n3 k3], .int .i64 0]) (by simp [results, Tryd.results53, go_sem, c30, c31]) rfl ?_
      have e1 : zpErr s.data.toList = 0 := by unfold zpErr; rw [if_neg HH.out, HE.out]
      have e2 : zpNum s.data.toList = (decVal s.data.toList : Int) := by unfold zpNum; rw [e1, if_pos rfl, if_neg HH.out]
      rw [e1, e2]
      have h3 := HR.out.store HB.out nil_noInt (.bool b3) (.slice A3 n3 k3)
      rw [zval_false, val_limbs] at h3
      exact ⟨_, _, _, _, rfl, h3, below_stored HW.out (Nat.le_refl _) _ _⟩
    · have HE := Lib.hid he
      have heb : (parseErr s.data.toList != 0) = true := by rw [bne_iff_ne]; exact he
      clear h1 he
      go_wp2
      refine bodyPost_ret (v := .tuple #[.agg #[.bool false, .slice none 0 0], .int .i64 (parseErr s.data.toList)]) (by simp [results, Tryd.results53, go_sem, c30, c31]) rfl ?_
      have e1 : zpErr s.data.toList = parseErr s.data.toList := by unfold zpErr; rw [if_neg HH.out]
      have e2 : zpNum s.data.toList = 0 := by unfold zpNum; rw [e1, if_neg HE.out]
      rw [e1, e2]
      exact ⟨_, _, _, _, rfl, zat_nil _, below_stored HW.out (Nat.le_refl _) _ _⟩
end Go.Proofs.YtoflndeonegkpaaDoor
