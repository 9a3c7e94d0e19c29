/- Sizes of numbers; comparisons with a known outcome; garmentlaw01.light. -/
import Derived.Test.YtelcjcgalkcadaaDoorAlive
namespace Go.Proofs.YtelcjcgalkcadaaDoor
open Go.RowKit

/-- The number fits into k limbs. -/
def Sz (n k : Nat) : Prop := n < 4294967296 ^ k
section
variable {a b k j : Nat}
theorem Sz.more (h : Sz a j) (hk : j ≤ k) : Sz a k := Nat.lt_of_lt_of_le h (Nat.pow_le_pow_right (by omega) hk)
theorem Sz.le (h : Sz b k) (hab : a ≤ b) : Sz a k := Nat.lt_of_le_of_lt hab h
theorem Sz.len (h : Sz a k) (n : Nat) (hn : k ≤ n) : (limbs a).length ≤ n := Nat.le_trans (limbs_length_le h) hn
theorem Sz.add (h : Sz a k) (g : Sz b k) : Sz (a + b) (k + 1) := by
  unfold Sz at *
  rw [pow_step]
  omega
theorem Sz.mul (h : Sz a k) (g : Sz b j) : Sz (a * b) (k + j) := by
  unfold Sz at *
  rw [Nat.pow_add]
  rcases Nat.eq_zero_or_pos b with e | e
  · subst e; rw [Nat.mul_zero]; exact Nat.mul_pos (Nat.pow_pos (by omega)) (Nat.pow_pos (by omega))
  · exact Nat.mul_lt_mul_of_lt_of_le h (Nat.le_of_lt g) (by omega)
theorem Sz.sub (h : Sz a k) (b : Nat) : Sz (a - b) k := h.le (Nat.sub_le _ _)
theorem Sz.div (h : Sz a k) (b : Nat) : Sz (a / b) k := h.le (Nat.div_le_self _ _)
theorem Sz.mod (h : Sz a k) (b : Nat) : Sz (a % b) k := h.le (Nat.mod_le _ _)
theorem Sz.gcd (h : Sz a k) (g : Sz b k) : Sz (Nat.gcd a b) k := by
  rcases Nat.eq_zero_or_pos a with e | e
  · subst e; rw [Nat.gcd_zero_left]; exact g
  · exact h.le (Nat.gcd_le_left _ e)
theorem isqrt_self_le (n : Nat) : isqrt n ≤ n := by
  have h := isqrt_le n
  rcases Nat.eq_zero_or_pos (isqrt n) with e | e
  · omega
  · exact Nat.le_trans (Nat.le_mul_of_pos_right _ e) h
theorem Sz.sqrt (h : Sz a k) : Sz (isqrt a) k := h.le (isqrt_self_le a)
theorem Sz.one : Sz 1 1 := by unfold Sz; omega
end
theorem NatAt.sz {w : World} {v : Value} {xs : List Nat} (h : NatAt w v xs) {k : Nat} (hk : xs.length ≤ k) : Sz (val xs) k := (show Sz (val xs) xs.length from val_lt h.lim).more hk

/-- A comparison's outcome. -/
def GivesInt (w : World) (k : Int) (e : Ending) (w' : World) : Prop := e = .returned (.int .i64 k) ∧ Below w.heap.size w w'
section
variable {va vb : Value} {xs ys : List Nat} {w : World}
theorem cmp_eq (ha : NatAt w va xs) (hb : NatAt w vb ys) (h : val xs = val ys) : Calls Tryd.prog 20 #[va, vb] w (GivesInt w 0) :=
  (cmp_below va vb xs ys w ha hb).mono fun _ _ ⟨he, hB, _⟩ => ⟨by rw [he, ord_eq h], hB⟩
theorem cmp_lt (ha : NatAt w va xs) (hb : NatAt w vb ys) (h : val xs < val ys) : Calls Tryd.prog 20 #[va, vb] w (GivesInt w (-1)) :=
  (cmp_below va vb xs ys w ha hb).mono fun _ _ ⟨he, hB, _⟩ => ⟨by rw [he, ord_lt h], hB⟩
theorem cmp_ge (ha : NatAt w va xs) (hb : NatAt w vb ys) (h : val ys ≤ val xs) : Calls Tryd.prog 20 #[va, vb] w fun e w' => ∃ oc : Int, e = .returned (.int .i64 oc) ∧ 0 ≤ oc ∧ Below w.heap.size w w' :=
  (cmp_below va vb xs ys w ha hb).mono fun _ _ ⟨he, hB, _⟩ => ⟨_, he, by unfold ord; rw [if_neg (by omega)]; split <;> omega, hB⟩
theorem cmp_gt (ha : NatAt w va xs) (hb : NatAt w vb ys) (h : val ys < val xs) : Calls Tryd.prog 20 #[va, vb] w (GivesInt w 1) :=
  (cmp_below va vb xs ys w ha hb).mono fun _ _ ⟨he, hB, _⟩ => ⟨by rw [he, ord_gt h], hB⟩
end

set_option maxHeartbeats 400000 in
theorem light_yes (va vb : Value) (xs ys : List Nat) (w : World) (ha : NatAt w va xs) (hb : NatAt w vb ys) (h1 : xs.length ≤ 24) (h2 : ys.length ≤ 24) : Calls Tryd.prog 13 #[va, vb] w fun e w' => e = .returned (.bool true) ∧ w = w' := by
  obtain ⟨A, c, rfl, g1, g2⟩ := ha.form
  obtain ⟨A2, c2, rfl, k1, k2⟩ := hb.form
  clear ha hb
  have t1 : decide ((xs.length : Int) ≤ 24) = true := by simp; omega
  have t2 : decide ((ys.length : Int) ≤ 24) = true := by simp; omega
  go_enter Tryd.func13, Tryd.ntmps13
  go_wp2
  go_ret
  exact ⟨rfl, rfl⟩
set_option maxHeartbeats 400000 in
theorem light_no (va vb : Value) (xs ys : List Nat) (w : World) (ha : NatAt w va xs) (hb : NatAt w vb ys) (h : ¬ (xs.length ≤ 24 ∧ ys.length ≤ 24)) : Calls Tryd.prog 13 #[va, vb] w fun e w' => e = .returned (.bool false) ∧ w = w' := by
  obtain ⟨A, c, rfl, g1, g2⟩ := ha.form
  obtain ⟨A2, c2, rfl, k1, k2⟩ := hb.form
  clear ha hb
  by_cases h1 : xs.length ≤ 24
  · have h2 : ¬ ys.length ≤ 24 := fun e => h ⟨h1, e⟩
    have t1 : decide ((xs.length : Int) ≤ 24) = true := by simp; omega
    have t2 : decide ((ys.length : Int) ≤ 24) = false := by simp; omega
    clear h
    go_enter Tryd.func13, Tryd.ntmps13
    go_wp2
    go_ret
    exact ⟨rfl, rfl⟩
  · have t1 : decide ((xs.length : Int) ≤ 24) = false := by simp; omega
    clear h
    go_enter Tryd.func13, Tryd.ntmps13
    go_wp2
    go_ret
    exact ⟨rfl, rfl⟩
end Go.Proofs.YtelcjcgalkcadaaDoor
