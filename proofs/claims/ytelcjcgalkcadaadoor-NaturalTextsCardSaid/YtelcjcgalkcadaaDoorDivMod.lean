/- natural.DivMod. -/
import Derived.Test.YtelcjcgalkcadaaDoorDivMod0
import Derived.Deep.RegionWith
namespace Go.Proofs.YtelcjcgalkcadaaDoor
open Go.RowKit

/-- A quotient, a remainder and a bool. -/
def GivesDiv (w : World) (qs rs : List Nat) (b : Bool) (e : Ending) (w' : World) : Prop :=
  ∃ v1 v2, e = .returned (.tuple #[v1, v2, .bool b]) ∧ NatAt w' v1 qs ∧ NatAt w' v2 rs ∧ Below w.heap.size w w'

set_option maxHeartbeats 1000000 in
theorem divmod_zero (va vb : Value) (xs ys : List Nat) (w : World) (ha : NatAt w va xs) (hb : NatAt w vb ys) (h0 : val ys = 0) : Calls Tryd.prog 26 #[va, vb] w (GivesDiv w [] [] false) := by
  have HA := Lib.hid ha
  have HB := Lib.hid hb
  have H0 := Lib.hid h0
  clear ha hb h0
  go_enter Tryd.func26, Tryd.ntmps26
  go_wp2_with fail
  refine (trim_any _ _ _ HA.out).mono ?_
  rintro e w' ⟨v1, rfl, rfl, h1⟩
  clear h1
  go_wp2_with fail
  refine (trim_any _ _ _ HB.out).mono ?_
  rintro e w' ⟨v2, rfl, rfl, h2⟩
  rw [H0.out, limbs_zero] at h2
  obtain ⟨A2, c2, rfl, k1, k2⟩ := h2.form
  clear h2 k1 k2
  go_wp2
  go_ret3
  exact ⟨_, _, rfl, NatAt.nil _, NatAt.nil _, Below.refl _ _⟩

set_option maxHeartbeats 1000000 in
theorem divmod_less (va vb : Value) (xs ys : List Nat) (w : World) (ha : NatAt w va xs) (hb : NatAt w vb ys) (hxl : xs.length ≤ 1000000) (hlt : val xs < val ys) : Calls Tryd.prog 26 #[va, vb] w (GivesDiv w [] (limbs (val xs)) true) := by
  have HA := Lib.hid ha
  have HB := Lib.hid hb
  have HLT := Lib.hid hlt
  have hl1 := limbs_val_length ha.lim
  clear ha hb hlt
  go_enter Tryd.func26, Tryd.ntmps26
  go_wp2_with fail
  refine (trim_any _ _ _ HA.out).mono ?_
  rintro e w' ⟨v1, rfl, rfl, h1⟩
  have H1 := Lib.hid h1
  clear h1
  go_wp2_with fail
  refine (trim_any _ _ _ HB.out).mono ?_
  rintro e w' ⟨v2, rfl, rfl, h2⟩
  have H2 := Lib.hid h2
  have hvp : 0 < (limbs (val ys)).length := List.length_pos_iff.2 (limbs_ne_nil (by have := HLT.out; omega))
  obtain ⟨A2, c2, rfl, k1, k2⟩ := h2.form
  clear h2
  have e2 := Lib.hid (val_limbs (val ys))
  have e1 := Lib.hid (val_limbs (val xs))
  generalize limbs (val ys) = vs at *
  have h00 : ((vs.length : Int) == 0) = false := by rw [beq_eq_false_iff_ne]; omega
  go_wp2_with fail
  refine (cmp_below _ _ _ _ _ H1.out H2.out).mono ?_
  rintro e w0 ⟨rfl, hb0, hz0⟩
  rw [e1.out, e2.out, ord_lt HLT.out]
  go_wp2_with fail
  refine (norm_any _ _ _ (H1.out.below hb0) (by omega)).mono ?_
  rintro e w1 ⟨v3, rfl, h3, hb1⟩
  rw [e1.out] at h3
  have H3 := Lib.hid h3
  clear h3
  go_wp2
  go_ret3
  exact ⟨_, _, rfl, NatAt.nil _, H3.out, below_next hb0 hb1⟩

theorem of_one {vs : List Nat} (h : vs.length = 1) : val vs = vs.getD 0 0 := by
  match vs, h with
  | [x], _ => simp [val]
set_option maxHeartbeats 1000000 in
theorem divmod_one (va vb : Value) (xs ys : List Nat) (w : World) (ha : NatAt w va xs) (hb : NatAt w vb ys) (hxl : xs.length ≤ 1000000) (hge : val ys ≤ val xs) (hone : (limbs (val ys)).length = 1) (h0 : 0 < val ys) :
    Calls Tryd.prog 26 #[va, vb] w (GivesDiv w (limbs (val xs / val ys)) (limbs (val xs % val ys)) true) := by
  have HA := Lib.hid ha
  have HB := Lib.hid hb
  have HGE := Lib.hid hge
  have HONE := Lib.hid hone
  have H0 := Lib.hid h0
  have hl1 := limbs_val_length ha.lim
  clear ha hb hge hone h0
  go_enter Tryd.func26, Tryd.ntmps26
  go_wp2_with fail
  refine (trim_any _ _ _ HA.out).mono ?_
  rintro e w' ⟨v1, rfl, rfl, h1⟩
  have H1 := Lib.hid h1
  clear h1
  go_wp2_with fail
  refine (trim_any _ _ _ HB.out).mono ?_
  rintro e w' ⟨v2, rfl, rfl, h2⟩
  have H2 := Lib.hid h2
  obtain ⟨A2, c2, rfl, k1, k2⟩ := h2.form
  obtain ⟨b, o, rfl, hb, hc⟩ := h2.at_ (by rw [HONE.out]; omega)
  have hc0 := hc 0 (by rw [HONE.out]; omega)
  clear h2 hc
  have e2 := Lib.hid (val_limbs (val ys))
  have e1 := Lib.hid (val_limbs (val xs))
  have E3 := Lib.hid (of_one HONE.out)
  have hyl := H2.out.lim.get 0
  obtain ⟨y, hy⟩ : ∃ y : Nat, y = (limbs (val ys)).getD 0 0 := ⟨_, rfl⟩
  rw [← hy] at hc0 hyl E3
  clear hy
  rw [HONE.out] at k1 k2 ⊢
  have hord : (0 : Int) ≤ ord (val (limbs (val xs))) (val (limbs (val ys))) := by rw [e1.out, e2.out]; unfold ord; rw [if_neg (by have := HGE.out; omega)]; split <;> omega
  have H2' := H2.out
  rw [HONE.out] at H2'
  have H3 := Lib.hid H2'
  clear H2'
  go_wp2_with fail
  refine (cmp_below _ _ _ _ _ H1.out H3.out).mono ?_
  rintro e w0 ⟨rfl, hb0, hz0⟩
  obtain ⟨oc, hoc⟩ : ∃ oc, oc = ord (val (limbs (val xs))) (val (limbs (val ys))) := ⟨_, rfl⟩
  rw [← hoc] at hord ⊢
  clear hoc
  have hoB : decide (oc < 0) = false := by simp; omega
  have hc1 := (hb0.cell (p := ⟨b, o + 0, none⟩) hb).trans hc0
  rw [Nat.add_zero] at hc1
  clear hc0
  have hyp : 0 < y := by rw [← E3.out, e2.out]; exact H0.out
  go_wp2_with fail
  refine (short_any _ _ _ _ (H1.out.below hb0) (by omega) hyp hyl).mono ?_
  rintro e w1 ⟨v3, rfl, h3o, hb1⟩
  have h3 := h3o.natAt
  clear h3o
  have hr : val (limbs (val xs)) % y < 4294967296 := Nat.lt_trans (Nat.mod_lt _ hyp) hyl
  have H4 := Lib.hid h3
  clear h3
  obtain ⟨r, hrr⟩ : ∃ r : Nat, r = val (limbs (val xs)) % y := ⟨_, rfl⟩
  rw [← hrr] at hr ⊢
  have HRR := Lib.hid hrr
  clear hrr
  go_wp2_with fail
  refine (of_any r _ (by omega)).mono ?_
  rintro e w2 ⟨v4, rfl, h4, hb2⟩
  have H5 := Lib.hid h4
  clear h4
  go_wp2
  go_ret3
  have f1 : y = val ys := by rw [← E3.out, e2.out]
  have h5 := H4.out.below hb2
  have h6 := H5.out
  rw [HRR.out] at h6
  rw [e1.out, f1] at h5 h6
  exact ⟨_, _, rfl, h5, h6, below_next (below_next hb0 hb1) hb2⟩
end Go.Proofs.YtelcjcgalkcadaaDoor
