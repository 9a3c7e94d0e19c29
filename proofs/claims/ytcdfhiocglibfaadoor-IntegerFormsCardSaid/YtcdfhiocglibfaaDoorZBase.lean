/- What the walks of the laws of the integers share. -/
import Derived.Test.YtcdfhiocglibfaaDoorRInt3
import Derived.OpenShut
namespace Go.Proofs.YtcdfhiocglibfaaDoor
open Go.RowKit

theorem boxes1 (w : World) (x y : Value) : ∃ W, w.alloc (.cells #[x, y] 25) = W ∧ Hid (Box W w.heap.size x y) ∧ Hid (Below w.heap.size w W) := ⟨_, rfl, Box.new rfl, below_alloc0 w _⟩
theorem zshort_yes {b : Bool} {m : Value} {xs : List Nat} {k : Nat} {w : World} (h : NatAt w m xs) (hk : xs.length ≤ k) : Calls Tryd.prog 19 #[.agg #[.bool b, m], .int .i64 k] w (GivesBool w true) :=
  (zshort_any b m xs k w h).mono fun _ _ ⟨he, hb⟩ => ⟨by rw [he, decide_eq_true hk], hb⟩
theorem zshort_no {b : Bool} {m : Value} {xs : List Nat} {k : Nat} {w : World} (h : NatAt w m xs) (hk : ¬ xs.length ≤ k) : Calls Tryd.prog 19 #[.agg #[.bool b, m], .int .i64 k] w (GivesBool w false) :=
  (zshort_any b m xs k w h).mono fun _ _ ⟨he, hb⟩ => ⟨by rw [he, decide_eq_false hk], hb⟩
theorem zfits_of {n : Int} (h1 : -9223372036854775808 ≤ n) (h2 : n ≤ 9223372036854775807) : zfits n = true := decide_eq_true ⟨h1, h2⟩
theorem zsmall_of {n : Int} (h1 : -9223372036854775808 ≤ n) (h2 : n ≤ 9223372036854775807) : zsmall n = n := by unfold zsmall; rw [zfits_of h1 h2]; rfl
theorem ZAt.of {w : World} {b : Bool} {m : Value} {z : Int} (h : ZAt w b m z) {k : Nat} (hs : Sz z.natAbs k) : IntAt w b m z k := h.int (limbs_length_le hs)
section
variable {a b : Int} {k j : Nat}
theorem Sz.zadd (h : Sz a.natAbs k) (g : Sz b.natAbs k) : Sz (a + b).natAbs (k + 1) := (h.add g).le (Int.natAbs_add_le _ _)
theorem Sz.zneg (h : Sz a.natAbs k) : Sz (-a).natAbs k := by rw [Int.natAbs_neg]; exact h
theorem Sz.zsub (h : Sz a.natAbs k) (g : Sz b.natAbs k) : Sz (a - b).natAbs (k + 1) := by rw [Int.sub_eq_add_neg]; exact h.zadd g.zneg
theorem Sz.zmul (h : Sz a.natAbs k) (g : Sz b.natAbs j) : Sz (a * b).natAbs (k + j) := by rw [Int.natAbs_mul]; exact h.mul g
theorem Sz.zmod (h : Sz b.natAbs k) (hb : b ≠ 0) : Sz (a % b).natAbs k := h.le (by have h1 := Int.emod_nonneg a hb; have h2 := Int.emod_lt a hb; omega)
theorem Sz.zdiv (h : Sz a.natAbs k) (hb : b ≠ 0) : Sz (a / b).natAbs (k + 1) := by
  have h1 := Int.emod_nonneg a hb
  have h2 := Int.emod_lt a hb
  have h3 := Int.mul_ediv_add_emod a b
  have h4 : (b * (a / b)).natAbs ≤ a.natAbs + b.natAbs := by omega
  rw [Int.natAbs_mul] at h4
  have hbp : 1 ≤ b.natAbs := by omega
  have h5 : (a / b).natAbs ≤ a.natAbs + 1 := by
    rcases Nat.lt_or_ge (a.natAbs + 1) (a / b).natAbs with h6 | h6
    · have h7 : b.natAbs * (a.natAbs + 2) ≤ b.natAbs * (a / b).natAbs := Nat.mul_le_mul_left _ h6
      rw [Nat.mul_add] at h7
      have h8 : 1 * a.natAbs ≤ b.natAbs * a.natAbs := Nat.mul_le_mul_right _ hbp
      omega
    · exact h6
  refine Sz.le ?_ h5
  unfold Sz at *
  rw [pow_step]
  omega
end
theorem NatAt.zsz {w : World} {m : Value} {l : List Nat} (h : NatAt w m l) (b : Bool) {k : Nat} (s : l.length ≤ k) : Sz (zval b l).natAbs k := by rw [zval_abs]; exact h.sz s
section
variable {w : World} {b1 b2 : Bool} {m1 m2 : Value} {z1 z2 : Int} {k1 k2 : Nat}
theorem icmp_eq (h1 : IntAt w b1 m1 z1 k1) (h2 : IntAt w b2 m2 z2 k2) (hk1 : k1 ≤ 400000) (hk2 : k2 ≤ 400000) (h : z1 = z2) : Calls Tryd.prog 29 #[.agg #[.bool b1, m1], .agg #[.bool b2, m2]] w (GivesOrd w 0) := by
  have := icmp_any b1 b2 m1 m2 z1 z2 k1 k2 w h1 h2 hk1 hk2
  rw [zord_eq h] at this; exact this
theorem icmp_lt (h1 : IntAt w b1 m1 z1 k1) (h2 : IntAt w b2 m2 z2 k2) (hk1 : k1 ≤ 400000) (hk2 : k2 ≤ 400000) (h : z1 < z2) : Calls Tryd.prog 29 #[.agg #[.bool b1, m1], .agg #[.bool b2, m2]] w (GivesOrd w (-1)) := by
  have := icmp_any b1 b2 m1 m2 z1 z2 k1 k2 w h1 h2 hk1 hk2
  rw [zord_lt h] at this; exact this
theorem icmp_is {v : Int} (h1 : IntAt w b1 m1 z1 k1) (h2 : IntAt w b2 m2 z2 k2) (hk1 : k1 ≤ 400000) (hk2 : k2 ≤ 400000) (h : zord z1 z2 = v) : Calls Tryd.prog 29 #[.agg #[.bool b1, m1], .agg #[.bool b2, m2]] w (GivesOrd w v) := by
  have := icmp_any b1 b2 m1 m2 z1 z2 k1 k2 w h1 h2 hk1 hk2
  rw [h] at this; exact this
theorem zsame_is {v : Bool} (h1 : ZAt w b1 m1 z1) (h2 : ZAt w b2 m2 z2) (h : decide (z1 = z2) = v) : Calls Tryd.prog 16 #[.agg #[.bool b1, m1], .agg #[.bool b2, m2]] w (GivesBool w v) :=
  (zsame h1 h2).mono fun _ _ ⟨he, hb⟩ => ⟨by rw [he, h], hb⟩
def GivesLe (w : World) (e : Ending) (w' : World) : Prop := ∃ oc : Int, e = .returned (.int .i64 oc) ∧ oc ≤ 0 ∧ Below w.heap.size w w'
theorem icmp_le (h1 : IntAt w b1 m1 z1 k1) (h2 : IntAt w b2 m2 z2 k2) (hk1 : k1 ≤ 400000) (hk2 : k2 ≤ 400000) (h : z1 ≤ z2) : Calls Tryd.prog 29 #[.agg #[.bool b1, m1], .agg #[.bool b2, m2]] w (GivesLe w) :=
  (icmp_any b1 b2 m1 m2 z1 z2 k1 k2 w h1 h2 hk1 hk2).mono fun _ _ ⟨he, hb⟩ => ⟨_, he, by unfold zord; split; omega; rw [if_neg (by omega)]; omega, hb⟩
/-- A comparison's outcome of which only the sign is told. -/
def GivesGe (w : World) (e : Ending) (w' : World) : Prop := ∃ oc : Int, e = .returned (.int .i64 oc) ∧ 0 ≤ oc ∧ Below w.heap.size w w'
theorem icmp_ge (h1 : IntAt w b1 m1 z1 k1) (h2 : IntAt w b2 m2 z2 k2) (hk1 : k1 ≤ 400000) (hk2 : k2 ≤ 400000) (h : z2 ≤ z1) : Calls Tryd.prog 29 #[.agg #[.bool b1, m1], .agg #[.bool b2, m2]] w (GivesGe w) :=
  (icmp_any b1 b2 m1 m2 z1 z2 k1 k2 w h1 h2 hk1 hk2).mono fun _ _ ⟨he, hb⟩ => ⟨_, he, by unfold zord; rw [if_neg (by omega)]; split <;> omega, hb⟩
end
end Go.Proofs.YtcdfhiocglibfaaDoor
