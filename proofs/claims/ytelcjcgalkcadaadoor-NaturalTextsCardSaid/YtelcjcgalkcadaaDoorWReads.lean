/- The law NaturalReads: its walk. -/
import Derived.Test.YtelcjcgalkcadaaDoorWSquares
namespace Go.Proofs.YtelcjcgalkcadaaDoor
open Go.RowKit Go.Lib

theorem text_str (va : Value) (xs : List Nat) (w : World) (ha : NatAt w va xs) (hxl : xs.length ≤ 100000) (htab : Tab w) : Calls Tryd.prog 36 #[va] w fun e w' => ∃ t : ByteArray, e = .returned (.string t) ∧ t.data.toList = decDigits (val xs) ∧ Below w.heap.size w w' :=
  (text_any va xs w ha hxl htab).mono fun _ _ ⟨he, hb⟩ => ⟨_, he, by simp, hb⟩
theorem pe_ok {n : Nat} (h : (decDigits n).length ≤ 200) : parseErr (decDigits n) = 0 := by rw [parseErr, if_pos h, if_pos (dec_isNum n)]
theorem pn_ok {n : Nat} (h : (decDigits n).length ≤ 200) : parseNum (decDigits n) = limbs n := by rw [parseNum, if_pos ⟨h, dec_isNum n⟩, decVal_dec]
theorem pe_long {l : List UInt8} (h : ¬ l.length ≤ 200) : parseErr l = 5 := by rw [parseErr, if_neg h]
theorem pe_num {l : List UInt8} (h : l.length ≤ 200 ∧ isNum l) : parseErr l = 0 := by rw [parseErr, if_pos h.1, if_pos h.2]
theorem pn_num {l : List UInt8} (h : l.length ≤ 200 ∧ isNum l) : parseNum l = limbs (decVal l) := by rw [parseNum, if_pos h]
theorem pe_no {l : List UInt8} (h : ¬ (l.length ≤ 200 ∧ isNum l)) : parseErr l = 2 ∨ parseErr l = 5 := by
  unfold parseErr
  split
  · rw [if_neg (fun e => h ⟨by assumption, e⟩)]; exact .inl rfl
  · exact .inr rfl
theorem bytes_ext {s t : ByteArray} (h : s.data.toList = t.data.toList) : s = t := by
  cases s; cases t
  simp at h
  simp [h]

set_option maxRecDepth 100000 in
set_option maxHeartbeats 4000000 in
theorem walk_NaturalReads (v_a : Value) (l_a : List Nat) (s : ByteArray) (w : World) (h_a : NatAt w v_a l_a) (h_s : s.size ≤ maxLen) (htab : Tab w) : Calls Tryd.prog 12 #[v_a, .string s] w (GivesTrue w) := by
  have HT := Lib.hid htab
  have H_a := Lib.hid h_a
  clear htab h_a
  replace h_s : s.size ≤ 9223372036854775807 := h_s
  obtain ⟨A, c, rfl, g1, g2⟩ := H_a.out.form
  by_cases n_a : l_a.length ≤ 24
  · have ta : decide ((24 : Int) < (l_a.length : Int)) = false := by simp; omega
    by_cases n_s : s.size ≤ 300
    · have ts : decide ((300 : Int) < (s.size : Int)) = false := by simp; omega
      by_cases hD : (decDigits (val l_a)).length ≤ 200
      · by_cases hN : s.data.toList.length ≤ 200 ∧ isNum s.data.toList
        · have HD := Lib.hid hD
          have HN := Lib.hid hN
          clear hD hN
          go_enter Tryd.func12, Tryd.ntmps12
          go_wp2_with fail
          refine (text_str _ _ _ (by exact H_a.out) (by omega) (by exact HT.out)).mono ?_
          rintro e w1 ⟨t, rfl, ht, hb⟩
          replace H_a := Lib.hid (H_a.out.below hb)
          have hB := hb
          clear hb
          have et : t.size = (decDigits (val l_a)).length := by rw [← size_list, ht]
          have t1 : decide ((200 : Int) < (t.size : Int)) = false := by have := HD.out; simp; omega
          have t2 : decide ((t.size : Int) ≤ 200) = true := by have := HD.out; simp; omega
          have tm : t.size ≤ 9223372036854775807 := by have := dec_len_le (val l_a); have := limbs_length_le (k := 24) (H_a.out.sz n_a); omega
          have Ht := Lib.hid ht
          clear et ht
          go_wp2_with fail
          refine (parse_any t _ tm).mono ?_
          rintro e w2 ⟨v_b, rfl, h_b, hb⟩
          rw [Ht.out, pe_ok HD.out]
          rw [Ht.out, pn_ok HD.out] at h_b
          have H_b := Lib.hid h_b
          clear h_b
          replace H_a := Lib.hid (H_a.out.below hb)
          replace hB := below_next hB hb
          clear hb
          go_wp2_with fail
          refine (cmp_eq (by exact H_a.out) (by exact H_b.out) (by rw [val_limbs])).mono ?_
          rintro e w3 ⟨rfl, hb⟩
          replace hB := below_next hB hb
          clear hb H_b
          go_wp2_with fail
          refine (parse_any s _ h_s).mono ?_
          rintro e w4 ⟨v_c, rfl, h_c, hb⟩
          replace hB := below_next hB hb
          clear hb
          rw [pe_num HN.out]
          rw [pn_num HN.out] at h_c
          have H_c := Lib.hid h_c
          clear h_c
          go_wp2_with fail
          refine (text_str _ _ _ (by exact H_c.out) (Nat.le_trans (len_of_lt (j := 100) (decVal_lt _) (by have := HN.out.1; omega)) (by omega)) (by exact HT.out.below hB)).mono ?_
          rintro e w5 ⟨t2, rfl, ht2, hb⟩
          replace hB := below_next hB hb
          clear hb H_c
          obtain rfl : s = t2 := bytes_ext (by rw [ht2, val_limbs, dec_decVal HN.out.2])
          clear ht2
          go_wp2_with fail
          refine (alive_any _ (by exact HT.out.below hB)).mono ?_
          rintro e w6 ⟨rfl, hb⟩
          replace hB := below_next hB hb
          clear hb
          go_wp2
          go_ret
          exact ⟨rfl, hB⟩
        · have HD := Lib.hid hD
          have HN := Lib.hid hN
          clear hD hN
          go_enter Tryd.func12, Tryd.ntmps12
          go_wp2_with fail
          refine (text_str _ _ _ (by exact H_a.out) (by omega) (by exact HT.out)).mono ?_
          rintro e w1 ⟨t, rfl, ht, hb⟩
          replace H_a := Lib.hid (H_a.out.below hb)
          have hB := hb
          clear hb
          have et : t.size = (decDigits (val l_a)).length := by rw [← size_list, ht]
          have t1 : decide ((200 : Int) < (t.size : Int)) = false := by have := HD.out; simp; omega
          have t2 : decide ((t.size : Int) ≤ 200) = true := by have := HD.out; simp; omega
          have tm : t.size ≤ 9223372036854775807 := by have := dec_len_le (val l_a); have := limbs_length_le (k := 24) (H_a.out.sz n_a); omega
          have Ht := Lib.hid ht
          clear et ht
          go_wp2_with fail
          refine (parse_any t _ tm).mono ?_
          rintro e w2 ⟨v_b, rfl, h_b, hb⟩
          rw [Ht.out, pe_ok HD.out]
          rw [Ht.out, pn_ok HD.out] at h_b
          have H_b := Lib.hid h_b
          clear h_b
          replace H_a := Lib.hid (H_a.out.below hb)
          replace hB := below_next hB hb
          clear hb
          go_wp2_with fail
          refine (cmp_eq (by exact H_a.out) (by exact H_b.out) (by rw [val_limbs])).mono ?_
          rintro e w3 ⟨rfl, hb⟩
          replace hB := below_next hB hb
          clear hb H_b
          go_wp2_with fail
          refine (parse_any s _ h_s).mono ?_
          rintro e w4 ⟨v_c, rfl, h_c, hb⟩
          replace hB := below_next hB hb
          clear hb
          rcases pe_no HN.out with hpc | hpc
          · rw [hpc]
            clear hpc h_c
            go_wp2_with fail
            refine (alive_any _ (by exact HT.out.below hB)).mono ?_
            rintro e w5 ⟨rfl, hb⟩
            replace hB := below_next hB hb
            clear hb
            go_wp2
            go_ret
            exact ⟨rfl, hB⟩
          · rw [hpc]
            clear hpc h_c
            go_wp2_with fail
            refine (alive_any _ (by exact HT.out.below hB)).mono ?_
            rintro e w5 ⟨rfl, hb⟩
            replace hB := below_next hB hb
            clear hb
            go_wp2
            go_ret
            exact ⟨rfl, hB⟩
      · by_cases hN : s.data.toList.length ≤ 200 ∧ isNum s.data.toList
        · have HD := Lib.hid hD
          have HN := Lib.hid hN
          clear hD hN
          go_enter Tryd.func12, Tryd.ntmps12
          go_wp2_with fail
          refine (text_str _ _ _ (by exact H_a.out) (by omega) (by exact HT.out)).mono ?_
          rintro e w1 ⟨t, rfl, ht, hb⟩
          replace H_a := Lib.hid (H_a.out.below hb)
          have hB := hb
          clear hb
          have et : t.size = (decDigits (val l_a)).length := by rw [← size_list, ht]
          have t1 : decide ((200 : Int) < (t.size : Int)) = true := by have := HD.out; simp; omega
          have t2 : decide ((t.size : Int) ≤ 200) = false := by have := HD.out; simp; omega
          have tm : t.size ≤ 9223372036854775807 := by have := dec_len_le (val l_a); have := limbs_length_le (k := 24) (H_a.out.sz n_a); omega
          have Ht := Lib.hid ht
          clear et ht
          go_wp2_with fail
          refine (parse_any t _ tm).mono ?_
          rintro e w2 ⟨v_b, rfl, h_b, hb⟩
          rw [Ht.out, pe_long HD.out]
          clear h_b
          replace H_a := Lib.hid (H_a.out.below hb)
          replace hB := below_next hB hb
          clear hb
          go_wp2_with fail
          refine (parse_any s _ h_s).mono ?_
          rintro e w3 ⟨v_c, rfl, h_c, hb⟩
          replace hB := below_next hB hb
          clear hb
          rw [pe_num HN.out]
          rw [pn_num HN.out] at h_c
          have H_c := Lib.hid h_c
          clear h_c
          go_wp2_with fail
          refine (text_str _ _ _ (by exact H_c.out) (Nat.le_trans (len_of_lt (j := 100) (decVal_lt _) (by have := HN.out.1; omega)) (by omega)) (by exact HT.out.below hB)).mono ?_
          rintro e w4 ⟨t2, rfl, ht2, hb⟩
          replace hB := below_next hB hb
          clear hb H_c
          obtain rfl : s = t2 := bytes_ext (by rw [ht2, val_limbs, dec_decVal HN.out.2])
          clear ht2
          go_wp2_with fail
          refine (alive_any _ (by exact HT.out.below hB)).mono ?_
          rintro e w5 ⟨rfl, hb⟩
          replace hB := below_next hB hb
          clear hb
          go_wp2
          go_ret
          exact ⟨rfl, hB⟩
        · have HD := Lib.hid hD
          have HN := Lib.hid hN
          clear hD hN
          go_enter Tryd.func12, Tryd.ntmps12
          go_wp2_with fail
          refine (text_str _ _ _ (by exact H_a.out) (by omega) (by exact HT.out)).mono ?_
          rintro e w1 ⟨t, rfl, ht, hb⟩
          replace H_a := Lib.hid (H_a.out.below hb)
          have hB := hb
          clear hb
          have et : t.size = (decDigits (val l_a)).length := by rw [← size_list, ht]
          have t1 : decide ((200 : Int) < (t.size : Int)) = true := by have := HD.out; simp; omega
          have t2 : decide ((t.size : Int) ≤ 200) = false := by have := HD.out; simp; omega
          have tm : t.size ≤ 9223372036854775807 := by have := dec_len_le (val l_a); have := limbs_length_le (k := 24) (H_a.out.sz n_a); omega
          have Ht := Lib.hid ht
          clear et ht
          go_wp2_with fail
          refine (parse_any t _ tm).mono ?_
          rintro e w2 ⟨v_b, rfl, h_b, hb⟩
          rw [Ht.out, pe_long HD.out]
          clear h_b
          replace H_a := Lib.hid (H_a.out.below hb)
          replace hB := below_next hB hb
          clear hb
          go_wp2_with fail
          refine (parse_any s _ h_s).mono ?_
          rintro e w3 ⟨v_c, rfl, h_c, hb⟩
          replace hB := below_next hB hb
          clear hb
          rcases pe_no HN.out with hpc | hpc
          · rw [hpc]
            clear hpc h_c
            go_wp2_with fail
            refine (alive_any _ (by exact HT.out.below hB)).mono ?_
            rintro e w4 ⟨rfl, hb⟩
            replace hB := below_next hB hb
            clear hb
            go_wp2
            go_ret
            exact ⟨rfl, hB⟩
          · rw [hpc]
            clear hpc h_c
            go_wp2_with fail
            refine (alive_any _ (by exact HT.out.below hB)).mono ?_
            rintro e w4 ⟨rfl, hb⟩
            replace hB := below_next hB hb
            clear hb
            go_wp2
            go_ret
            exact ⟨rfl, hB⟩
    · have ts : decide ((300 : Int) < (s.size : Int)) = true := by simp; omega
      go_enter Tryd.func12, Tryd.ntmps12
      go_wp2_with fail
      refine (alive_any _ (by exact HT.out)).mono ?_
      rintro e w1 ⟨rfl, hb⟩
      have hB := hb
      clear hb
      go_wp2
      go_ret
      exact ⟨rfl, hB⟩
  · have ta : decide ((24 : Int) < (l_a.length : Int)) = true := by simp; omega
    go_enter Tryd.func12, Tryd.ntmps12
    go_wp2_with fail
    refine (alive_any _ (by exact HT.out)).mono ?_
    rintro e w1 ⟨rfl, hb⟩
    have hB := hb
    clear hb
    go_wp2
    go_ret
    exact ⟨rfl, hB⟩
end Go.Proofs.YtelcjcgalkcadaaDoor
