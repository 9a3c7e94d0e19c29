/- natural.Cmp. -/
import Derived.Test.YtelcjcgalkcadaaDoorCmp
namespace Go.Proofs.YtelcjcgalkcadaaDoor
open Go.RowKit

/-- Limbs at an index, for the walk. -/
theorem NatAt.at_ {w : World} {A : Option Addr} {n c : Nat} {xs : List Nat} (h : NatAt w (.slice A n c) xs) (h0 : 0 < xs.length) :
    ∃ b o, A = some ⟨b, o, none⟩ ∧ b < w.heap.size ∧ ∀ j, j < xs.length → w.cell? ⟨b, o + j, none⟩ = some (.int .u32 (xs.getD j 0 : Nat)) := by
  obtain ⟨A', c', hv, h1, h2, h3, h4⟩ := h
  injection hv with e1 e2 e3
  subst e1
  exact h4 h0
theorem NatAt.form {w : World} {v : Value} {xs : List Nat} (h : NatAt w v xs) : ∃ A c, v = .slice A xs.length c ∧ xs.length ≤ c ∧ xs.length ≤ 9223372036854775807 := by
  obtain ⟨A', c', hv, h1, h2, h3, h4⟩ := h
  exact ⟨A', c', hv, h1, h2⟩

set_option maxHeartbeats 1000000 in
theorem cmp_any (va vb : Value) (xs ys : List Nat) (w : World) (ha : NatAt w va xs) (hb : NatAt w vb ys) : Calls Tryd.prog 20 #[va, vb] w (Says w (.int .i64 (ord (val xs) (val ys)))) := by
  have HA := Lib.hid ha
  have HB := Lib.hid hb
  clear ha hb
  go_enter Tryd.func20, Tryd.ntmps20
  go_wp2_with fail
  refine (trim_any _ _ _ HA.out).mono ?_
  rintro e w' ⟨v1, rfl, rfl, h1⟩
  have H1 := Lib.hid h1
  clear h1
  go_wp2_with fail
  refine (trim_any _ _ _ HB.out).mono ?_
  rintro e w' ⟨v2, rfl, rfl, h2⟩
  have h1 := H1.out
  have e1 : val (limbs (val xs)) = val xs := val_limbs _
  have e2 : val (limbs (val ys)) = val ys := val_limbs _
  have hlt := @lt_of_length (val xs) (val ys)
  have hgt := @lt_of_length (val ys) (val xs)
  generalize limbs (val xs) = us at *
  generalize limbs (val ys) = vs at *
  rw [← e1, ← e2] at hlt hgt
  have E1 := Lib.hid e1
  have E2 := Lib.hid e2
  have HL := Lib.hid hlt
  have HG := Lib.hid hgt
  have Hu := Lib.hid h1
  have Hv := Lib.hid h2
  clear H1 HA HB e1 e2 hlt hgt
  obtain ⟨A, c, rfl, g1, g2⟩ := h1.form
  obtain ⟨A2, c2, rfl, k1, k2⟩ := h2.form
  clear h1 h2
  go_wp2_with fail
  refine (compareI_any _ _ _).mono ?_
  rintro e w' ⟨rfl, n0, rfl⟩
  rcases Nat.lt_trichotomy us.length vs.length with hl | hl | hl
  · rw [ord_lt hl]
    go_wp2
    go_ret
    rw [← E1.out, ← E2.out, ord_lt (HL.out hl)]
    exact ⟨rfl, n0, rfl⟩
  · rw [ord_eq hl]
    have HE := Lib.hid hl
    have hll : us.length ≤ vs.length := by omega
    have hll2 : vs.length ≤ us.length := by omega
    clear hl
    go_wp2
    go_loopw [6] (fun s wr => ∃ (k m : Nat), k ≤ us.length ∧ s = .int .i64 ((k : Int) - 1) ∧ wr = w.drewN m ∧ us.drop k = vs.drop k) (fun s _ => (intOf s + 1).toNat)
    case atStart => exact ⟨us.length, n0, Nat.le_refl _, rfl, rfl, by rw [List.drop_length, HE.out, List.drop_length]⟩
    case round =>
      obtain ⟨k, m, hk, rfl, hw, hd⟩ := hrel
      have HD := Lib.hid hd
      clear hd
      have HW := Lib.hid hw
      clear hw
      rcases Nat.eq_zero_or_pos k with hk0 | hk0
      · subst hk0
        go_wp2
        go_ret
        have := HD.out
        rw [List.drop_zero, List.drop_zero] at this
        rw [← E1.out, ← E2.out, this, ord_eq rfl]
        exact ⟨rfl, m, HW.out⟩
      · obtain ⟨j, rfl⟩ : ∃ j, k = j + 1 := ⟨k - 1, by omega⟩
        obtain ⟨b, o, rfl, hb, hc⟩ := Hu.out.at_ (by omega)
        obtain ⟨b2, o2, rfl, hb2, hc2⟩ := Hv.out.at_ (by omega)
        have hcj : wr.cell? ⟨b, o + j, none⟩ = some (.int .u32 (us.getD j 0 : Nat)) := by rw [HW.out]; exact hc j (by omega)
        have hcj2 : wr.cell? ⟨b2, o2 + j, none⟩ = some (.int .u32 (vs.getD j 0 : Nat)) := by rw [HW.out]; exact hc2 j (by omega)
        clear hc hc2
        obtain ⟨x, hx⟩ : ∃ x : Nat, x = us.getD j 0 := ⟨_, rfl⟩
        obtain ⟨y, hy⟩ : ∃ x : Nat, x = vs.getD j 0 := ⟨_, rfl⟩
        rw [← hx] at hcj
        rw [← hy] at hcj2
        have HX := Lib.hid hx
        have HY := Lib.hid hy
        clear hx hy
        rw [show ((j + 1 : Nat) : Int) - 1 = (j : Int) from by omega]
        have hj1 : j < us.length := by omega
        have hj2 : j < vs.length := by omega
        go_wp2
        go_quiet ((go_at_call 40; exact Says.quiet (compareU_any _ _ _)))
        rcases Nat.lt_trichotomy x y with hl | hl | hl
        · rw [ord_lt hl]
          go_wp2
          go_ret
          rw [← E1.out, ← E2.out, ord_lt (lt_of_limb Hu.out.lim HE.out hj1 HD.out (by rw [← HX.out, ← HY.out]; exact hl))]
          exact ⟨rfl, m + nq, by rw [HW.out, World.drewN_drewN]⟩
        · rw [ord_eq hl]
          have hxy : us.getD j 0 = vs.getD j 0 := by rw [← HX.out, ← HY.out]; exact hl
          have HXY := Lib.hid hxy
          clear hl hxy
          go_wp2
          go_roundw
          case rel => exact ⟨j, m + nq, by omega, rfl, by rw [HW.out, World.drewN_drewN], drop_step HE.out hj1 HD.out HXY.out⟩
          case measure => simp [intOf]
        · rw [ord_gt hl]
          go_wp2
          go_ret
          rw [← E1.out, ← E2.out, ord_gt (lt_of_limb Hv.out.lim HE.out.symm hj2 HD.out.symm (by rw [← HX.out, ← HY.out]; exact hl))]
          exact ⟨rfl, m + nq, by rw [HW.out, World.drewN_drewN]⟩
  · rw [ord_gt hl]
    go_wp2
    go_ret
    rw [← E1.out, ← E2.out, ord_gt (HG.out hl)]
    exact ⟨rfl, n0, rfl⟩
end Go.Proofs.YtelcjcgalkcadaaDoor
