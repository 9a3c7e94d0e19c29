/- garmentref01.Cmp. -/
import Derived.Test.YtelcjcgalkcadaaDoorRBase
namespace Go.Proofs.YtelcjcgalkcadaaDoor
open Go.RowKit

theorem val_drop (xs : List Nat) (k : Nat) : val (xs.drop k) = xs.getD k 0 + 4294967296 * val (xs.drop (k + 1)) := by
  rcases Nat.lt_or_ge k xs.length with h | h
  · rw [List.drop_eq_getElem_cons h]
    simp [val, h]
  · rw [List.drop_eq_nil_of_le h, List.drop_eq_nil_of_le (by omega), List.getD_eq_getElem?_getD, List.getElem?_eq_none h]
    rfl
theorem val_split (xs : List Nat) (k : Nat) : val xs = val (xs.take k) + 4294967296 ^ k * val (xs.drop k) := by
  rcases Nat.lt_or_ge k xs.length with h | h
  · exact val_take_drop xs k (by omega)
  · rw [List.drop_eq_nil_of_le h, List.take_of_length_le h]; simp [val]
theorem val_take_lt {xs : List Nat} (h : Lim xs) (k : Nat) : val (xs.take k) < 4294967296 ^ k :=
  Nat.lt_of_lt_of_le (val_lt (h.take k)) (Nat.pow_le_pow_right (by omega) (by rw [List.length_take]; omega))
theorem getD_zero {xs : List Nat} {k : Nat} (h : xs.length ≤ k) : xs.getD k 0 = 0 := by rw [List.getD_eq_getElem?_getD, List.getElem?_eq_none h]; rfl
theorem drop_eq_from (n : Nat) : ∀ (xs ys : List Nat) (k : Nat), xs.length + ys.length ≤ k + n → (∀ j, k ≤ j → xs.getD j 0 = ys.getD j 0) → val (xs.drop k) = val (ys.drop k) := by
  induction n with
  | zero => intro xs ys k h _; rw [List.drop_eq_nil_of_le (by omega), List.drop_eq_nil_of_le (by omega)]
  | succ n ih =>
    intro xs ys k h he
    rw [val_drop xs, val_drop ys, he k (Nat.le_refl _), ih xs ys (k + 1) (by omega) (fun j hj => he j (by omega))]
theorem lt_of_getD {xs ys : List Nat} {k : Nat} (hx : Lim xs) (he : ∀ j, k + 1 ≤ j → xs.getD j 0 = ys.getD j 0) (h : xs.getD k 0 < ys.getD k 0) : val xs < val ys := by
  rw [val_split xs k, val_split ys k, val_drop xs, val_drop ys, drop_eq_from _ xs ys (k + 1) (Nat.le_add_left _ _) he]
  have h1 := val_take_lt hx k
  have h2 : 4294967296 ^ k * (xs.getD k 0 + 4294967296 * val (ys.drop (k + 1))) + 4294967296 ^ k ≤ 4294967296 ^ k * (ys.getD k 0 + 4294967296 * val (ys.drop (k + 1))) := by
    rw [← Nat.mul_succ]; exact Nat.mul_le_mul_left _ (by omega)
  omega
theorem val_eq_of_getD {xs ys : List Nat} (he : ∀ j, 0 ≤ j → xs.getD j 0 = ys.getD j 0) : val xs = val ys := by
  have := drop_eq_from _ xs ys 0 (Nat.le_add_left _ _) he
  simpa using this

set_option maxHeartbeats 1000000 in
theorem rcmp_any (va vb : Value) (xs ys : List Nat) (w : World) (ha : NatAt w va xs) (hb : NatAt w vb ys) : Calls Tryd.prog 21 #[va, vb] w (Says w (.int .i64 (ord (val xs) (val ys)))) := by
  have HA := Lib.hid ha
  have HB := Lib.hid hb
  obtain ⟨A, c, rfl, g1, g2⟩ := ha.form
  obtain ⟨A2, c2, rfl, k1, k2⟩ := hb.form
  clear ha hb
  by_cases hmx : xs.length < ys.length
  · have hM : xs.length ≤ ys.length ∧ ys.length ≤ ys.length := by omega
    go_enter Tryd.func21, Tryd.ntmps21
    go_wp2
    go_loopw [5] (fun s wr => ∃ (k m : Nat), k ≤ ys.length ∧ s = .int .i64 ((k : Int) - 1) ∧ wr = w.drewN m ∧ ∀ j, k ≤ j → xs.getD j 0 = ys.getD j 0) (fun s _ => (intOf s + 1).toNat)
    case atStart => exact ⟨ys.length, 0, Nat.le_refl _, by go_num, rfl, fun j hj => by rw [getD_zero (by omega), getD_zero (by omega)]⟩
    case round =>
      obtain ⟨k, m, hk, rfl, hw, he⟩ := hrel
      have HW := Lib.hid hw
      have HE := Lib.hid he
      clear hw he
      rcases Nat.eq_zero_or_pos k with hk0 | hk0
      · subst hk0
        go_wp2
        go_ret
        exact ⟨by rw [ord_eq (val_eq_of_getD HE.out)]; rfl, m, HW.out⟩
      · obtain ⟨i, rfl⟩ : ∃ i, k = i + 1 := ⟨k - 1, by omega⟩
        have HAr : Hid (NatAt wr (.slice A xs.length c) xs) := by rw [HW.out]; exact HA.out
        have HBr : Hid (NatAt wr (.slice A2 ys.length c2) ys) := by rw [HW.out]; exact HB.out
        have hi : (((i + 1 : Nat) : Int) - 1) = (i : Int) := by omega
        rw [hi]
        clear hi
        obtain ⟨x, hx⟩ : ∃ x : Nat, x = xs.getD i 0 := ⟨_, rfl⟩
        obtain ⟨y, hy⟩ : ∃ x : Nat, x = ys.getD i 0 := ⟨_, rfl⟩
        have HX := Lib.hid hx
        have HY := Lib.hid hy
        have hxl : x < 4294967296 := by rw [hx]; exact HA.out.lim.get _
        have hyl : y < 4294967296 := by rw [hy]; exact HB.out.lim.get _
        clear hx hy
        rcases Nat.lt_trichotomy x y with hxy | hxy | hxy
        · skip
          go_wp2_with fail
          refine (limb_at (by exact HAr.out) (by omega) HX.out).mono ?_
          rintro e w' ⟨rfl, rfl⟩
          go_wp2_with fail
          refine (limb_at (by exact HBr.out) (by omega) HY.out).mono ?_
          rintro e w' ⟨rfl, rfl⟩
          go_wp2
          go_ret
          exact ⟨by rw [ord_lt (lt_of_getD HA.out.lim HE.out (by rw [← HX.out, ← HY.out]; exact hxy))]; rfl, m, HW.out⟩
        · have HXY := Lib.hid hxy
          have hxy1 : decide (x < y) = false := by simp; omega
          have hxy2 : decide (y < x) = false := by simp; omega
          clear hxy
          go_wp2_with fail
          refine (limb_at (by exact HAr.out) (by omega) HX.out).mono ?_
          rintro e w' ⟨rfl, rfl⟩
          go_wp2_with fail
          refine (limb_at (by exact HBr.out) (by omega) HY.out).mono ?_
          rintro e w' ⟨rfl, rfl⟩
          go_wp2_with fail
          refine (limb_at (by exact HAr.out) (by omega) HX.out).mono ?_
          rintro e w' ⟨rfl, rfl⟩
          go_wp2_with fail
          refine (limb_at (by exact HBr.out) (by omega) HY.out).mono ?_
          rintro e w' ⟨rfl, rfl⟩
          go_wp2
          go_roundw
          case rel => exact ⟨i, m, by omega, by go_num, HW.out, fun j hj => by
            rcases Nat.eq_or_lt_of_le hj with e | e
            · rw [← e, ← HX.out, ← HY.out, HXY.out]
            · exact HE.out j e⟩
          case measure => simp [intOf]
        · have hxy1 : decide (x < y) = false := by simp; omega
          go_wp2_with fail
          refine (limb_at (by exact HAr.out) (by omega) HX.out).mono ?_
          rintro e w' ⟨rfl, rfl⟩
          go_wp2_with fail
          refine (limb_at (by exact HBr.out) (by omega) HY.out).mono ?_
          rintro e w' ⟨rfl, rfl⟩
          go_wp2_with fail
          refine (limb_at (by exact HAr.out) (by omega) HX.out).mono ?_
          rintro e w' ⟨rfl, rfl⟩
          go_wp2_with fail
          refine (limb_at (by exact HBr.out) (by omega) HY.out).mono ?_
          rintro e w' ⟨rfl, rfl⟩
          go_wp2
          go_ret
          exact ⟨by rw [ord_gt (lt_of_getD HB.out.lim (fun j hj => (HE.out j hj).symm) (by rw [← HX.out, ← HY.out]; exact hxy))]; rfl, m, HW.out⟩
  · have hM : xs.length ≤ xs.length ∧ ys.length ≤ xs.length := by omega
    go_enter Tryd.func21, Tryd.ntmps21
    go_wp2
    go_loopw [5] (fun s wr => ∃ (k m : Nat), k ≤ xs.length ∧ s = .int .i64 ((k : Int) - 1) ∧ wr = w.drewN m ∧ ∀ j, k ≤ j → xs.getD j 0 = ys.getD j 0) (fun s _ => (intOf s + 1).toNat)
    case atStart => exact ⟨xs.length, 0, Nat.le_refl _, by go_num, rfl, fun j hj => by rw [getD_zero (by omega), getD_zero (by omega)]⟩
    case round =>
      obtain ⟨k, m, hk, rfl, hw, he⟩ := hrel
      have HW := Lib.hid hw
      have HE := Lib.hid he
      clear hw he
      rcases Nat.eq_zero_or_pos k with hk0 | hk0
      · subst hk0
        go_wp2
        go_ret
        exact ⟨by rw [ord_eq (val_eq_of_getD HE.out)]; rfl, m, HW.out⟩
      · obtain ⟨i, rfl⟩ : ∃ i, k = i + 1 := ⟨k - 1, by omega⟩
        have HAr : Hid (NatAt wr (.slice A xs.length c) xs) := by rw [HW.out]; exact HA.out
        have HBr : Hid (NatAt wr (.slice A2 ys.length c2) ys) := by rw [HW.out]; exact HB.out
        have hi : (((i + 1 : Nat) : Int) - 1) = (i : Int) := by omega
        rw [hi]
        clear hi
        obtain ⟨x, hx⟩ : ∃ x : Nat, x = xs.getD i 0 := ⟨_, rfl⟩
        obtain ⟨y, hy⟩ : ∃ x : Nat, x = ys.getD i 0 := ⟨_, rfl⟩
        have HX := Lib.hid hx
        have HY := Lib.hid hy
        have hxl : x < 4294967296 := by rw [hx]; exact HA.out.lim.get _
        have hyl : y < 4294967296 := by rw [hy]; exact HB.out.lim.get _
        clear hx hy
        rcases Nat.lt_trichotomy x y with hxy | hxy | hxy
        · skip
          go_wp2_with fail
          refine (limb_at (by exact HAr.out) (by omega) HX.out).mono ?_
          rintro e w' ⟨rfl, rfl⟩
          go_wp2_with fail
          refine (limb_at (by exact HBr.out) (by omega) HY.out).mono ?_
          rintro e w' ⟨rfl, rfl⟩
          go_wp2
          go_ret
          exact ⟨by rw [ord_lt (lt_of_getD HA.out.lim HE.out (by rw [← HX.out, ← HY.out]; exact hxy))]; rfl, m, HW.out⟩
        · have HXY := Lib.hid hxy
          have hxy1 : decide (x < y) = false := by simp; omega
          have hxy2 : decide (y < x) = false := by simp; omega
          clear hxy
          go_wp2_with fail
          refine (limb_at (by exact HAr.out) (by omega) HX.out).mono ?_
          rintro e w' ⟨rfl, rfl⟩
          go_wp2_with fail
          refine (limb_at (by exact HBr.out) (by omega) HY.out).mono ?_
          rintro e w' ⟨rfl, rfl⟩
          go_wp2_with fail
          refine (limb_at (by exact HAr.out) (by omega) HX.out).mono ?_
          rintro e w' ⟨rfl, rfl⟩
          go_wp2_with fail
          refine (limb_at (by exact HBr.out) (by omega) HY.out).mono ?_
          rintro e w' ⟨rfl, rfl⟩
          go_wp2
          go_roundw
          case rel => exact ⟨i, m, by omega, by go_num, HW.out, fun j hj => by
            rcases Nat.eq_or_lt_of_le hj with e | e
            · rw [← e, ← HX.out, ← HY.out, HXY.out]
            · exact HE.out j e⟩
          case measure => simp [intOf]
        · have hxy1 : decide (x < y) = false := by simp; omega
          go_wp2_with fail
          refine (limb_at (by exact HAr.out) (by omega) HX.out).mono ?_
          rintro e w' ⟨rfl, rfl⟩
          go_wp2_with fail
          refine (limb_at (by exact HBr.out) (by omega) HY.out).mono ?_
          rintro e w' ⟨rfl, rfl⟩
          go_wp2_with fail
          refine (limb_at (by exact HAr.out) (by omega) HX.out).mono ?_
          rintro e w' ⟨rfl, rfl⟩
          go_wp2_with fail
          refine (limb_at (by exact HBr.out) (by omega) HY.out).mono ?_
          rintro e w' ⟨rfl, rfl⟩
          go_wp2
          go_ret
          exact ⟨by rw [ord_gt (lt_of_getD HB.out.lim (fun j hj => (HE.out j hj).symm) (by rw [← HX.out, ← HY.out]; exact hxy))]; rfl, m, HW.out⟩
end Go.Proofs.YtelcjcgalkcadaaDoor
