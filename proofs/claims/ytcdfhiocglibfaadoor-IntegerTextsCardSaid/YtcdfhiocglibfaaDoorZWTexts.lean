/- The law IntegerTexts: its walk. -/
import Derived.Test.YtcdfhiocglibfaaDoorAwake
import Derived.Test.YtcdfhiocglibfaaDoorZBase
namespace Go.Proofs.YtcdfhiocglibfaaDoor
open Go.RowKit

set_option maxRecDepth 100000 in
set_option maxHeartbeats 8000000 in
theorem walk_IntegerTexts (b_a : Bool) (m_a : Value) (l_a : List Nat) (s : ByteArray) (w : World) (h_a : NatAt w m_a l_a) (h_s : s.size ≤ maxLen) (htab : Tab w) : Calls Tryd.prog 4 #[.agg #[.bool b_a, m_a], .string s] w (GivesTrue w) := by
  have HT := Lib.hid htab
  clear htab
  have H_a := Lib.hid h_a
  clear h_a
  replace h_s : s.size ≤ 9223372036854775807 := h_s
  by_cases s_a : l_a.length ≤ 40
  · by_cases n_s : s.size ≤ 400
    · skip
      have ts : decide ((400 : Int) < (s.size : Int)) = false := by simp; omega
      go_enter Tryd.func4, Tryd.ntmps4
      go_wp2_with fail
      obtain ⟨W1, hW, NB, HW⟩ := boxes1 w (.bool b_a) m_a
      rw [hW]
      clear hW
      replace HT := Lib.hid (HT.out.below HW.out)
      replace H_a := Lib.hid (H_a.out.below HW.out)
      have hB := HW.out
      have B_a := NB
      clear NB HW
      refine (zshort_yes (k := 40) (by exact H_a.out) s_a).mono ?_
      rintro e w1 ⟨rfl, hb⟩
      replace HT := Lib.hid (HT.out.below hb)
      replace H_a := Lib.hid (H_a.out.below hb)
      replace B_a := Lib.hid (B_a.out.below hb)
      replace hB := below_next hB hb
      clear hb
      have c_a0 := B_a.out.cell0
      have c_a1 := B_a.out.cell1
      go_wp2_with fail
      clear c_a0 c_a1
      refine (iparse_any s _ h_s).mono ?_
      rintro e w2 ⟨b_n, A_n, n_n, c_n, rfl, h_n, hb⟩
      replace HT := Lib.hid (HT.out.below hb)
      replace H_a := Lib.hid (H_a.out.below hb)
      replace B_a := Lib.hid (B_a.out.below hb)
      replace hB := below_next hB hb
      clear hb
      have Z_n := Lib.hid h_n
      clear h_n
      have c_a0 := B_a.out.cell0
      have c_a1 := B_a.out.cell1
      go_wp2_with fail
      clear c_a0 c_a1
      obtain ⟨W2, hW, NB, HW⟩ := boxes1 w2 (.bool b_n) (.slice A_n n_n c_n)
      rw [hW]
      clear hW
      replace HT := Lib.hid (HT.out.below HW.out)
      replace H_a := Lib.hid (H_a.out.below HW.out)
      replace Z_n := Lib.hid (Z_n.out.below HW.out)
      replace B_a := Lib.hid (B_a.out.below HW.out)
      replace hB := below_next hB HW.out
      have B_n := NB
      clear NB HW
      refine (riparse_any s _ h_s).mono ?_
      rintro e w3 ⟨b_m, A_m, n_m, c_m, rfl, h_m, hb⟩
      replace HT := Lib.hid (HT.out.below hb)
      replace H_a := Lib.hid (H_a.out.below hb)
      replace Z_n := Lib.hid (Z_n.out.below hb)
      replace B_a := Lib.hid (B_a.out.below hb)
      replace B_n := Lib.hid (B_n.out.below hb)
      replace hB := below_next hB hb
      clear hb
      have Z_m := Lib.hid h_m
      clear h_m
      generalize zpErr s.data.toList = er
      have c_a0 := B_a.out.cell0
      have c_a1 := B_a.out.cell1
      have c_n0 := B_n.out.cell0
      have c_n1 := B_n.out.cell1
      go_wp2
      clear c_a0 c_a1 c_n0 c_n1
      obtain ⟨W3, hW, NB, HW⟩ := boxes1 w3 (.bool b_m) (.slice A_m n_m c_m)
      rw [hW]
      clear hW
      replace HT := Lib.hid (HT.out.below HW.out)
      replace H_a := Lib.hid (H_a.out.below HW.out)
      replace Z_n := Lib.hid (Z_n.out.below HW.out)
      replace Z_m := Lib.hid (Z_m.out.below HW.out)
      replace B_a := Lib.hid (B_a.out.below HW.out)
      replace B_n := Lib.hid (B_n.out.below HW.out)
      replace hB := below_next hB HW.out
      have B_m := NB
      clear NB HW
      have c_a0 := B_a.out.cell0
      have c_a1 := B_a.out.cell1
      have c_n0 := B_n.out.cell0
      have c_n1 := B_n.out.cell1
      have c_m0 := B_m.out.cell0
      have c_m1 := B_m.out.cell1
      go_region_held3 (fun w' => w'.cell? ⟨w.heap.size, 0, none⟩ = some (.bool b_a) ∧ w'.cell? ⟨w.heap.size, 1, none⟩ = some m_a ∧ w'.cell? ⟨w2.heap.size, 0, none⟩ = some (.bool b_n) ∧ w'.cell? ⟨w2.heap.size, 1, none⟩ = some (.slice A_n n_n c_n) ∧ w'.cell? ⟨w3.heap.size, 0, none⟩ = some (.bool b_m) ∧ w'.cell? ⟨w3.heap.size, 1, none⟩ = some (.slice A_m n_m c_m))
        (first | (go_split_ands; exact ⟨cellKeep hb (by assumption), cellKeep hb (by assumption), cellKeep hb (by assumption), cellKeep hb (by assumption), cellKeep hb (by assumption), cellKeep hb (by assumption)⟩) | go_keep)
        (first
          | (go_at_call 22; refine (itext_any _ _ _ 40 _ (by exact ⟨l_a, H_a.out, s_a, rfl⟩) (by omega) (by exact HT.out)).mono ?_; rintro e w_ ⟨rfl, hb⟩; (try replace hb := below_undrew hb); (try replace HT := Lib.hid (HT.out.below hb)); (try replace H_a := Lib.hid (H_a.out.below hb)); (try replace Z_n := Lib.hid (Z_n.out.below hb)); (try replace Z_m := Lib.hid (Z_m.out.below hb)); (try replace B_a := Lib.hid (B_a.out.below hb)); (try replace B_n := Lib.hid (B_n.out.below hb)); (try replace B_m := Lib.hid (B_m.out.below hb)); replace hB := below_next hB hb)
          | (go_at_call 23; refine (ritext_any _ _ _ 40 _ (by exact ⟨l_a, H_a.out, s_a, rfl⟩) (by omega)).mono ?_; rintro e w_ ⟨rfl, hb⟩; (try replace hb := below_undrew hb); (try replace HT := Lib.hid (HT.out.below hb)); (try replace H_a := Lib.hid (H_a.out.below hb)); (try replace Z_n := Lib.hid (Z_n.out.below hb)); (try replace Z_m := Lib.hid (Z_m.out.below hb)); (try replace B_a := Lib.hid (B_a.out.below hb)); (try replace B_n := Lib.hid (B_n.out.below hb)); (try replace B_m := Lib.hid (B_m.out.below hb)); replace hB := below_next hB hb)
          | (go_at_call 16; refine (zsame_eq (by exact Z_n.out) (by exact Z_m.out) rfl).mono ?_; rintro e w_ ⟨rfl, hb⟩; (try replace hb := below_undrew hb); (try replace HT := Lib.hid (HT.out.below hb)); (try replace H_a := Lib.hid (H_a.out.below hb)); (try replace Z_n := Lib.hid (Z_n.out.below hb)); (try replace Z_m := Lib.hid (Z_m.out.below hb)); (try replace B_a := Lib.hid (B_a.out.below hb)); (try replace B_n := Lib.hid (B_n.out.below hb)); (try replace B_m := Lib.hid (B_m.out.below hb)); replace hB := below_next hB hb)
          | (go_at_call 13; refine (awake_any _ (by exact HT.out)).mono ?_; rintro e w_ ⟨rfl, hb⟩; (try replace hb := below_undrew hb); (try replace HT := Lib.hid (HT.out.below hb)); (try replace H_a := Lib.hid (H_a.out.below hb)); (try replace Z_n := Lib.hid (Z_n.out.below hb)); (try replace Z_m := Lib.hid (Z_m.out.below hb)); (try replace B_a := Lib.hid (B_a.out.below hb)); (try replace B_n := Lib.hid (B_n.out.below hb)); (try replace B_m := Lib.hid (B_m.out.below hb)); replace hB := below_next hB hb))
      have c_a0 := B_a.out.cell0
      have c_a1 := B_a.out.cell1
      have c_n0 := B_n.out.cell0
      have c_n1 := B_n.out.cell1
      have c_m0 := B_m.out.cell0
      have c_m1 := B_m.out.cell1
      go_wp2
      go_ret
      exact ⟨rfl, hB⟩
    · skip
      have ts : decide ((400 : Int) < (s.size : Int)) = true := by simp; omega
      go_enter Tryd.func4, Tryd.ntmps4
      go_wp2_with fail
      obtain ⟨W1, hW, NB, HW⟩ := boxes1 w (.bool b_a) m_a
      rw [hW]
      clear hW
      replace HT := Lib.hid (HT.out.below HW.out)
      replace H_a := Lib.hid (H_a.out.below HW.out)
      have hB := HW.out
      have B_a := NB
      clear NB HW
      refine (zshort_yes (k := 40) (by exact H_a.out) s_a).mono ?_
      rintro e w1 ⟨rfl, hb⟩
      replace HT := Lib.hid (HT.out.below hb)
      replace H_a := Lib.hid (H_a.out.below hb)
      replace B_a := Lib.hid (B_a.out.below hb)
      replace hB := below_next hB hb
      clear hb
      have c_a0 := B_a.out.cell0
      have c_a1 := B_a.out.cell1
      go_wp2_with fail
      clear c_a0 c_a1
      refine (awake_any _ (by exact HT.out)).mono ?_
      rintro e w2 ⟨rfl, hb⟩
      replace HT := Lib.hid (HT.out.below hb)
      replace H_a := Lib.hid (H_a.out.below hb)
      replace B_a := Lib.hid (B_a.out.below hb)
      replace hB := below_next hB hb
      clear hb
      have c_a0 := B_a.out.cell0
      have c_a1 := B_a.out.cell1
      go_wp2
      go_ret
      exact ⟨rfl, hB⟩
  · skip
    go_enter Tryd.func4, Tryd.ntmps4
    go_wp2_with fail
    obtain ⟨W1, hW, NB, HW⟩ := boxes1 w (.bool b_a) m_a
    rw [hW]
    clear hW
    replace HT := Lib.hid (HT.out.below HW.out)
    replace H_a := Lib.hid (H_a.out.below HW.out)
    have hB := HW.out
    have B_a := NB
    clear NB HW
    refine (zshort_no (k := 40) (by exact H_a.out) s_a).mono ?_
    rintro e w1 ⟨rfl, hb⟩
    replace HT := Lib.hid (HT.out.below hb)
    replace H_a := Lib.hid (H_a.out.below hb)
    replace B_a := Lib.hid (B_a.out.below hb)
    replace hB := below_next hB hb
    clear hb
    have c_a0 := B_a.out.cell0
    have c_a1 := B_a.out.cell1
    go_wp2_with fail
    clear c_a0 c_a1
    refine (awake_any _ (by exact HT.out)).mono ?_
    rintro e w2 ⟨rfl, hb⟩
    replace HT := Lib.hid (HT.out.below hb)
    replace H_a := Lib.hid (H_a.out.below hb)
    replace B_a := Lib.hid (B_a.out.below hb)
    replace hB := below_next hB hb
    clear hb
    have c_a0 := B_a.out.cell0
    have c_a1 := B_a.out.cell1
    go_wp2
    go_ret
    exact ⟨rfl, hB⟩
end Go.Proofs.YtcdfhiocglibfaaDoor
