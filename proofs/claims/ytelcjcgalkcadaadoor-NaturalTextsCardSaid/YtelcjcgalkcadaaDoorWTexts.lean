/- The law NaturalTexts: its walk. -/
import Derived.Test.YtelcjcgalkcadaaDoorWReads
import Derived.Test.YtelcjcgalkcadaaDoorRParse
namespace Go.Proofs.YtelcjcgalkcadaaDoor
open Go.RowKit Go.Lib

theorem rtext_str (va : Value) (xs : List Nat) (w : World) (ha : NatAt w va xs) (hxl : xs.length ≤ 100000) : Calls Tryd.prog 37 #[va] w fun e w' => ∃ t : ByteArray, e = .returned (.string t) ∧ t.data.toList = decDigits (val xs) ∧ Below w.heap.size w w' :=
  (rtext_any va xs w ha hxl).mono fun _ _ ⟨he, hb⟩ => ⟨_, he, by simp, hb⟩

set_option maxRecDepth 100000 in
set_option maxHeartbeats 4000000 in
theorem walk_NaturalTexts (v_a : Value) (l_a : List Nat) (s : ByteArray) (w : World) (h_a : NatAt w v_a l_a) (h_s : s.size ≤ maxLen) (htab : Tab w) : Calls Tryd.prog 7 #[v_a, .string s] w (GivesTrue w) := by
  have HT := Lib.hid htab
  have H_a := Lib.hid h_a
  clear htab h_a
  replace h_s : s.size ≤ 9223372036854775807 := h_s
  obtain ⟨A, c, rfl, g1, g2⟩ := H_a.out.form
  by_cases n_a : l_a.length ≤ 24
  · have ta : decide ((24 : Int) < (l_a.length : Int)) = false := by simp; omega
    by_cases n_s : s.size ≤ 300
    · have ts : decide ((300 : Int) < (s.size : Int)) = false := by simp; omega
      go_enter Tryd.func7, Tryd.ntmps7
      go_wp2_with fail
      refine (parse_any s _ h_s).mono ?_
      rintro e w1 ⟨v_x, rfl, h_x, hb⟩
      have H_x := Lib.hid h_x
      clear h_x
      replace H_a := Lib.hid (H_a.out.below hb)
      have hB := hb
      clear hb
      go_wp2_with fail
      refine (rparse_any s _ h_s).mono ?_
      rintro e w2 ⟨v_y, rfl, h_y, hb⟩
      have H_y := Lib.hid h_y
      clear h_y
      replace H_a := Lib.hid (H_a.out.below hb)
      replace H_x := Lib.hid (H_x.out.below hb)
      replace hB := below_next hB hb
      clear hb
      generalize parseErr s.data.toList = er
      go_wp2_with fail
      refine (text_str _ _ _ (by exact H_a.out) (by omega) (by exact HT.out.below hB)).mono ?_
      rintro e w3 ⟨t, rfl, ht, hb⟩
      have Ht := Lib.hid ht
      clear ht
      replace H_a := Lib.hid (H_a.out.below hb)
      replace H_x := Lib.hid (H_x.out.below hb)
      replace H_y := Lib.hid (H_y.out.below hb)
      replace hB := below_next hB hb
      clear hb
      go_wp2_with fail
      refine (rtext_str _ _ _ (by exact H_a.out) (by omega)).mono ?_
      rintro e w4 ⟨t2, rfl, ht, hb⟩
      obtain rfl : t = t2 := bytes_ext (by rw [Ht.out, ht])
      clear ht
      replace H_x := Lib.hid (H_x.out.below hb)
      replace H_y := Lib.hid (H_y.out.below hb)
      replace hB := below_next hB hb
      clear hb H_a
      go_wp2_with fail
      refine (same_eq _ _ _ _ _ (by exact H_x.out) (by exact H_y.out) rfl).mono ?_
      rintro e w5 ⟨rfl, hb⟩
      replace hB := below_next hB hb
      clear hb H_x H_y
      go_wp2_with fail
      refine (alive_any _ (by exact HT.out.below hB)).mono ?_
      rintro e w6 ⟨rfl, hb⟩
      replace hB := below_next hB hb
      clear hb
      go_wp2
      go_ret
      exact ⟨rfl, hB⟩
    · have ts : decide ((300 : Int) < (s.size : Int)) = true := by simp; omega
      go_enter Tryd.func7, Tryd.ntmps7
      go_wp2_with fail
      refine (alive_any _ (by exact HT.out)).mono ?_
      rintro e w1 ⟨rfl, hb⟩
      have hB := hb
      clear hb
      go_wp2
      go_ret
      exact ⟨rfl, hB⟩
  · have ta : decide ((24 : Int) < (l_a.length : Int)) = true := by simp; omega
    go_enter Tryd.func7, Tryd.ntmps7
    go_wp2_with fail
    refine (alive_any _ (by exact HT.out)).mono ?_
    rintro e w1 ⟨rfl, hb⟩
    have hB := hb
    clear hb
    go_wp2
    go_ret
    exact ⟨rfl, hB⟩
end Go.Proofs.YtelcjcgalkcadaaDoor
