/- natural.trim: what is left of a slice without its high zero limbs. -/
import Derived.Test.YtelcjcgalkcadaaDoorBase
namespace Go.Proofs.YtelcjcgalkcadaaDoor
open Go.RowKit

theorem trimL_snoc_zero (xs : List Nat) : trimL (xs ++ [0]) = trimL xs := by
  induction xs with
  | nil => rfl
  | cons x xs ih => simp only [List.cons_append, trimL, ih]
theorem trimL_snoc (xs : List Nat) {x : Nat} (h : x ≠ 0) : trimL (xs ++ [x]) = xs ++ [x] := by
  induction xs with
  | nil => simp [trimL, h]
  | cons y ys ih => simp only [List.cons_append, trimL, ih]; simp
theorem trimL_take_zero {xs : List Nat} {k : Nat} (hk : k < xs.length) (h0 : xs.getD k 0 = 0) : trimL (xs.take (k + 1)) = trimL (xs.take k) := by
  rw [List.take_succ_eq_append_getElem hk]
  rw [List.getD_eq_getElem?_getD, List.getElem?_eq_getElem hk, Option.getD_some] at h0
  rw [h0, trimL_snoc_zero]
theorem trimL_take_pos {xs : List Nat} {k : Nat} (hk : k < xs.length) (h0 : xs.getD k 0 ≠ 0) : trimL (xs.take (k + 1)) = xs.take (k + 1) := by
  rw [List.take_succ_eq_append_getElem hk]
  rw [List.getD_eq_getElem?_getD, List.getElem?_eq_getElem hk, Option.getD_some] at h0
  rw [trimL_snoc _ h0]

theorem getD_take {xs : List Nat} {k j : Nat} (h : j < k) : (xs.take k).getD j 0 = xs.getD j 0 := by
  rw [List.getD_eq_getElem?_getD, List.getD_eq_getElem?_getD, List.getElem?_take_of_lt h]
/-- A slice up to k reads as the first k limbs. -/
theorem NatAt.pre {w : World} {A : Option Addr} {n c k : Nat} {xs : List Nat} (h : NatAt w (.slice A n c) xs) (hk : k ≤ n) : NatAt w (.slice A k c) (xs.take k) := by
  obtain ⟨A', c', hv, h1, h2, h3, h4⟩ := h
  injection hv with e1 e2 e3
  subst e1 e2 e3
  have hl : (xs.take k).length = k := by rw [List.length_take]; omega
  refine ⟨A, c, by rw [hl], by omega, by omega, h3.take k, fun hn => ?_⟩
  obtain ⟨b, o, ha, hb, hc⟩ := h4 (by omega)
  exact ⟨b, o, ha, hb, fun j hj => by rw [getD_take (by omega)]; exact hc j (by omega)⟩


set_option maxHeartbeats 400000 in
theorem trim_form (A : Option Addr) (c : Nat) (xs : List Nat) (w : World) (h : NatAt w (.slice A xs.length c) xs) : Calls Tryd.prog 38 #[.slice A xs.length c] w fun e w' => e = .returned (.slice A (limbs (val xs)).length c) ∧ w = w' := by
  obtain ⟨A', c', hv, h1, h2, h3, h4⟩ := h
  injection hv with e1 e2 e3
  subst e1 e3
  clear e2
  have H4 := Lib.hid h4
  have H3 := Lib.hid h3
  have h2' : xs.length ≤ 9223372036854775807 := by omega
  clear h4 h3
  go_enter Tryd.func38, Tryd.ntmps38
  go_wp2
  go_loop [3] (fun s => ∃ k : Nat, k ≤ xs.length ∧ s = .int .i64 k ∧ trimL (xs.take k) = trimL xs) (fun s => (intOf s).toNat)
  case atStart => exact ⟨xs.length, Nat.le_refl _, rfl, by rw [List.take_of_length_le (Nat.le_refl _)]⟩
  case round =>
    obtain ⟨k, hk, rfl, ht⟩ := hrel
    have HT := Lib.hid ht
    clear ht
    rcases Nat.eq_zero_or_pos k with hk0 | hk0
    · subst hk0
      go_wp2
      go_ret
      refine ⟨?_, rfl⟩
      rw [← trimL_eq H3.out, ← HT.out]
      rfl
    · obtain ⟨m, rfl⟩ : ∃ m, k = m + 1 := ⟨k - 1, by omega⟩
      obtain ⟨b, o, rfl, hb, hc⟩ := H4.out (by omega)
      have hcm := hc m (by omega)
      clear hc
      have hlt : m < xs.length := by omega
      obtain ⟨x, hx⟩ : ∃ x : Nat, x = xs.getD m 0 := ⟨_, rfl⟩
      rw [← hx] at hcm
      have HX := Lib.hid hx
      clear hx
      go_wp2
      · have hx0 : x = 0 := by simpa using (by assumption : ((x : Int) == 0) = true)
        go_round
        case rel => exact ⟨m, by omega, by go_num, by rw [← HT.out, trimL_take_zero hlt (by rw [← HX.out, hx0])]⟩
        case measure => simp [intOf]
      · have hx0 : x ≠ 0 := by simpa using (by assumption : ((x : Int) == 0) = false)
        go_ret
        refine ⟨?_, rfl⟩
        rw [← trimL_eq H3.out, ← HT.out, trimL_take_pos hlt (by rw [← HX.out]; exact hx0), List.length_take, Nat.min_eq_left hk]
        rfl
theorem trimL_take (xs : List Nat) : trimL xs = xs.take (trimL xs).length := by
  induction xs with
  | nil => rfl
  | cons x xs ih =>
    unfold trimL
    by_cases h1 : trimL xs = []
    · rw [if_pos h1]
      by_cases h2 : x = 0
      · rw [if_pos h2]; rfl
      · rw [if_neg h2]; simp
    · rw [if_neg h1, List.length_cons, List.take_succ_cons, ← ih]
theorem trim_any (v : Value) (xs : List Nat) (w : World) (h : NatAt w v xs) : Calls Tryd.prog 38 #[v] w (SameNat w (limbs (val xs))) := by
  have hl := h.lim
  have hle := limbs_val_length hl
  obtain ⟨A, c, rfl, h1, h2, h3, h4⟩ := id h
  refine (trim_form A c xs w h).mono fun e w' ⟨he, hw⟩ => ⟨_, he, hw, ?_⟩
  have h5 := h.pre hle
  have h6 := trimL_take xs
  rw [trimL_eq hl] at h6
  rw [← h6] at h5
  exact h5
end Go.Proofs.YtelcjcgalkcadaaDoor
