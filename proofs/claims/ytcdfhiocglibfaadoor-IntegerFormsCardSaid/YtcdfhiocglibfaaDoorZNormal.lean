/- garmentlaw02.normal: true of what is in normal form. -/
import Derived.Test.YtcdfhiocglibfaaDoorZBase
import Derived.Test.YtcdfhiocglibfaaDoorApp
namespace Go.Proofs.YtcdfhiocglibfaaDoor
open Go.RowKit

theorem zval_more (b : Bool) (l : List Nat) (k : Nat) : zval b l = zval b (l ++ List.replicate k 0) := by unfold zval; rw [val_zeros]
theorem zval_flip {b : Bool} {l : List Nat} (h : zval b l = 0) (k : Nat) : zval b l = zval (!b) (l ++ List.replicate k 0) := by
  have h0 : val l = 0 := by rw [← zval_abs b, h]; rfl
  rw [h]
  cases b <;> simp [zval, val_zeros, h0]
theorem setNeg {w : World} {g n c : Nat} {b : Bool} {A : Option Addr} (hB : Box w g (.bool b) (.slice A n c)) (u : Value) : ∃ V, w.setCell ⟨g, 0, none⟩ u = V ∧ Hid (Box V g u (.slice A n c)) ∧ Hid (∀ m xs, NatAt w m xs → NatAt V m xs) ∧ Hid (∀ g' x y, Box w g' x y → g' ≠ g → Box V g' x y) ∧ Hid (∀ (a : World), Below a.heap.size a w → a.heap.size ≤ g → Below a.heap.size a V) := by
  refine ⟨_, rfl, hB.set0 u, fun m xs h => ?_, fun g' x y h hg => ?_, fun a h hg => h.setCell hg _⟩
  · obtain ⟨A', c', hv, h1, h2, h3, h4⟩ := h
    refine ⟨A', c', hv, h1, h2, h3, fun hn => ?_⟩
    obtain ⟨b', o, ha, hb, hc⟩ := h4 hn
    have hbg : b' ≠ g := by
      rintro rfl
      have h5 := hc 0 hn
      rw [cell_of_row w b' (o + 0) _ _ _ hB] at h5
      match o, h5 with
      | 0, h5 => simp at h5
      | 1, h5 => simp at h5
      | o + 2, h5 => simp at h5
    refine ⟨b', o, ha, by simpa using hb, fun j hj => ?_⟩
    rw [World.cell?_setCell_far _ _ _ _ (by exact fun e => hbg e.symm)]
    exact hc j hj
  · show Box _ _ _ _
    unfold Box
    rw [Below.heap_setCell _ _ _ g' hg]; exact h
set_option maxHeartbeats 2000000 in
theorem inormal_any {b : Bool} {A : Option Addr} {n c : Nat} {z : Int} {w : World} (h : ZAt w b (.slice A n c) z) : Calls Tryd.prog 31 #[.agg #[.bool b, .slice A n c]] w (GivesBool w true) := by
  obtain ⟨hb, A', c', hv, h1, h2, h3, h4⟩ := h
  injection hv with hv1 hv2 hv3
  subst hv1 hv3
  by_cases hz : z = 0
  · subst hz
    obtain rfl : b = false := hb
    obtain rfl : n = 0 := hv2
    go_enter Tryd.func31, Tryd.ntmps31
    go_upto_region 1 with fail
    obtain ⟨W, hW, NB, HW⟩ := boxes1 w (.bool false) (.slice A 0 c)
    rw [hW]
    clear hW
    have c0 := NB.out.cell0
    have c1 := NB.out.cell1
    go_wp2
    go_ret
    exact ⟨rfl, HW.out⟩
  · have hl : limbs z.natAbs ≠ [] := limbs_ne_nil (by omega)
    have hp : 0 < (limbs z.natAbs).length := List.length_pos_iff.2 hl
    obtain ⟨bb, o, rfl, hbb, hc⟩ := h4 hp
    obtain ⟨k, hk⟩ : ∃ k, n = k + 1 := ⟨n - 1, by omega⟩
    have hcell := hc k (by omega)
    have hlast : (limbs z.natAbs).getD k 0 ≠ 0 := by
      have h := limbs_last (n := z.natAbs) (by omega)
      rwa [show (limbs z.natAbs).length - 1 = k by omega] at h
    generalize (limbs z.natAbs).getD k 0 = x at hcell hlast
    rw [← hv2] at h2
    clear hv2 hc h4 h3 hb
    subst hk
    have HC := Lib.hid (⟨hcell, hbb⟩ : _ ∧ _)
    clear hcell hbb
    go_enter Tryd.func31, Tryd.ntmps31
    go_upto_region 1 with fail
    obtain ⟨W, hW, NB, HW⟩ := boxes1 w (.bool b) (.slice (some ⟨bb, o, none⟩) (k + 1) c)
    rw [hW]
    clear hW
    have c0 := NB.out.cell0
    have c1 := NB.out.cell1
    have c2 := cellKeep HW.out HC.out.1
    have e1 : (((k + 1 : Nat) : Int) == 0) = false := by rw [beq_eq_false_iff_ne]; omega
    have e2 : decide ((0 : Int) < ((k + 1 : Nat) : Int)) = true := by simp
    have e3 : IntKind.i64.wrap (((k + 1 : Nat) : Int) - 1) = (k : Int) := by rw [IntKind.wrap_i64]; omega
    have e4 : ((x : Int) != 0) = true := by rw [bne_iff_ne]; omega
    go_wp2
    go_ret
    exact ⟨rfl, HW.out⟩
end Go.Proofs.YtcdfhiocglibfaaDoor
