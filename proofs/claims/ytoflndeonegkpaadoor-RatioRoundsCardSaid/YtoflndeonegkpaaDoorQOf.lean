/- garmentlaw03.of; words for RatioRounds. -/
import Derived.Test.YtoflndeonegkpaaDoorQ8
import Derived.Test.YtoflndeonegkpaaDoorQRound
namespace Go.Proofs.YtoflndeonegkpaaDoor
open Go.RowKit

theorem newU {g : Nat} (w : World) (hg : w.heap.size = g) : ∃ W, w.alloc (.cells #[.int .u32 1] 40) = W ∧ Hid (NatAt W (.slice (some ⟨g, 0, none⟩) 1 1) (limbs 1)) ∧ Below w.heap.size w W := by
  subst hg
  refine ⟨_, rfl, ?_, below_alloc0 w _⟩
  have h : Own (w.alloc (.cells #[.int .u32 1] 40)) w.heap.size [1] := heap_alloc_new w _
  exact h.natAt (fun x hx => by rw [List.mem_singleton.1 hx]; omega) (Nat.le_refl _) (by simp)
section
variable {P : Program} {md : Region.Mode} {ops : Array Oper} {Q : Exit → Act → World → Prop} {S : World → Prop}
theorem wpAnyH_key6Q {f0 : Nat} {L0 : Array Bool} {a0 : Act} {w0 : World} (f : Nat) (L : Array Bool) (d1 d2 d3 d4 d5 d6 : Nat) (J : Value → Value → Value → Value → Value → Value → World → Prop)
    (hkey : ∀ v1 v2 v3 v4 v5 v6 wx, J v1 v2 v3 v4 v5 v6 wx → wpAnyH P md ops Q S f L ((((((a0.put (some d1) v1).put (some d2) v2).put (some d3) v3).put (some d4) v4).put (some d5) v5).put (some d6) v6) wx)
    (h : (∀ v1 v2 v3 v4 v5 v6 wx, J v1 v2 v3 v4 v5 v6 wx → wpAnyH P md ops Q S f L ((((((a0.put (some d1) v1).put (some d2) v2).put (some d3) v3).put (some d4) v4).put (some d5) v5).put (some d6) v6) wx) → wpAnyH P md ops Q S f0 L0 a0 w0) : wpAnyH P md ops Q S f0 L0 a0 w0 := h hkey
theorem wpAnyH_atQ {f : Nat} {listed : Array Bool} {a : Act} {w : World} (L : Array Bool) (hl : listed = L) (h : wpAnyH P md ops Q S f L a w) : wpAnyH P md ops Q S f listed a w := hl ▸ h
end
/-- V is as a was below a's end. -/
def BW (a b : World) : Prop := Below a.heap.size a b
theorem BW.below {a b c : World} (h : BW a b) (k : Below b.heap.size b c) : BW a c := below_next h k
theorem BW.keeps {a b V : World} {g : Nat} (h : BW a b) (K : Keeps b V g) (hg : a.heap.size ≤ g) : BW a V := below_keeps h K hg
theorem BW.size {a b : World} (h : BW a b) : a.heap.size ≤ b.heap.size := Below.size h
theorem qcmp_le {b1 b2 : Bool} {m1 m2 d1 d2 : Value} {p q : Rat} {k j : Nat} {w : World} (h1 : RAt w b1 m1 d1 p k) (h2 : RAt w b2 m2 d2 q j) (hk : 1 ≤ k) (hk2 : k ≤ 50000) (hj : 1 ≤ j) (hj2 : j ≤ 50000) (h : p ≤ q) : Calls Tryd.prog 18 #[.agg #[.bool b1, m1, d1], .agg #[.bool b2, m2, d2]] w fun e w' => ∃ oc : Int, e = .returned (.int .i64 oc) ∧ oc ≤ 0 ∧ Below w.heap.size w w' :=
  (qcmp_any b1 m1 d1 p k b2 m2 d2 q j w h1 h2 hk hk2 hj hj2).mono fun _ _ ⟨he, hb⟩ => ⟨_, he, by unfold qord; split; omega; rw [if_neg (Rat.not_lt.2 h)]; omega, hb⟩
theorem qcmp_ge {b1 b2 : Bool} {m1 m2 d1 d2 : Value} {p q : Rat} {k j : Nat} {w : World} (h1 : RAt w b1 m1 d1 p k) (h2 : RAt w b2 m2 d2 q j) (hk : 1 ≤ k) (hk2 : k ≤ 50000) (hj : 1 ≤ j) (hj2 : j ≤ 50000) (h : q ≤ p) : Calls Tryd.prog 18 #[.agg #[.bool b1, m1, d1], .agg #[.bool b2, m2, d2]] w fun e w' => ∃ oc : Int, e = .returned (.int .i64 oc) ∧ 0 ≤ oc ∧ Below w.heap.size w w' :=
  (qcmp_any b1 m1 d1 p k b2 m2 d2 q j w h1 h2 hk hk2 hj hj2).mono fun _ _ ⟨he, hb⟩ => ⟨_, he, by unfold qord; rw [if_neg (Rat.not_lt.2 h)]; split <;> omega, hb⟩
set_option maxRecDepth 100000 in
set_option maxHeartbeats 8000000 in
theorem lof_any (b : Bool) (A : Option Addr) (n c : Nat) (z : Int) (w : World) (h : ZAt w b (.slice A n c) z) : Calls Tryd.prog 19 #[.agg #[.bool b, .slice A n c]] w (GivesQ w (z : Rat)) := by
  have Z := Lib.hid h
  clear h
  go_enter Tryd.func19, Tryd.ntmps19
  go_upto_region 1 with fail
  obtain ⟨W0, hW, B_a, B_r, HW, HS⟩ := rboxIR w (.bool b) (.slice A n c) (.bool false) (.slice none 0 0) (.slice none 0 0)
  rw [hW]
  clear hW
  replace Z := Lib.hid (Z.out.below HW.out)
  have hB := HW.out
  have hsz := HS.out
  clear HW HS
  have c_a0 := B_a.out.cell0
  have c_a1 := B_a.out.cell1
  have c_r0 := B_r.out.cell0
  have c_r1 := B_r.out.cell1
  have c_r2 := B_r.out.cell2
  have f_r0 := B_r.out.fro 0
  have f_r1 := B_r.out.fro 1
  have f_r2 := B_r.out.fro 2
  have k0 := fun o => (B_r.out.alloc o).cell0
  have k1 := fun o => (B_r.out.alloc o).cell1
  have k2 := fun o => (B_r.out.alloc o).cell2
  have j0 := fun o => (B_r.out.alloc o).fro 0
  have j1 := fun o => (B_r.out.alloc o).fro 1
  have j2 := fun o => (B_r.out.alloc o).fro 2
  go_wp2
  clear c_a0 c_a1 c_r0 c_r1 c_r2 f_r0 f_r1 f_r2
  clear k0 k1 k2 j0 j1 j2
  obtain ⟨V1, hV, NB, KP⟩ := storeR B_r.out (.bool b) (.slice A n c) (.slice (some ⟨w.heap.size + 2, 0, none⟩) 1 1)
  rw [hV]
  clear hV
  have hsz1 := KP.out.size.trans hsz
  replace Z := Lib.hid (Z.out.keeps KP.out)
  replace B_a := Lib.hid (B_a.out.keeps KP.out (by omega))
  replace hB := below_keeps hB KP.out (by omega)
  have B_r := NB
  clear NB KP
  obtain ⟨W1, hV, N_d, hb⟩ := newU V1 hsz1
  rw [hV]
  clear hV
  replace Z := Lib.hid (Z.out.below hb)
  replace B_a := Lib.hid (B_a.out.below hb)
  replace B_r := Lib.hid (B_r.out.below hb)
  replace hB := below_next hB hb
  clear hb
  have c_r0 := B_r.out.cell0
  have c_r1 := B_r.out.cell1
  have c_r2 := B_r.out.cell2
  refine bodyPost_ret (v := .agg #[.bool b, .slice A n c, .slice (some ⟨w.heap.size + 2, 0, none⟩) 1 1]) (by simp [results, Tryd.results19, go_sem, c_r0, c_r1, c_r2]) rfl ?_
  exact ⟨_, _, _, _, _, _, _, rfl, ⟨Z.out, N_d.out⟩, hB⟩
end Go.Proofs.YtoflndeonegkpaaDoor
