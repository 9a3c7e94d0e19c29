/- natural.Add. -/
import Derived.Test.YtelcjcgalkcadaaDoorCmp2
namespace Go.Proofs.YtelcjcgalkcadaaDoor
open Go.RowKit

/-- What holds at the head of each round of natural.Add. -/
structure AddRel (w wr : World) (us vs : List Nat) (r : Value) (rs : List Nat) (k c : Nat) : Prop where
  row : Row wr w.heap.size r rs
  len : rs.length = k
  lim : Lim rs
  sum : val rs + 4294967296 ^ k * c = val (us.take k) + val (vs.take k)
  below : Below w.heap.size w wr
theorem AddRel.step {w wr : World} {us vs rs : List Nat} {r : Value} {k c : Nat} (R : AddRel w wr us vs r rs k c) (_hx : us.getD k 0 < 4294967296) (_hy : vs.getD k 0 < 4294967296) (_hc : c ≤ 1) (v' : Value) (w2 : World)
    (hr : Row w2 w.heap.size v' (rs ++ [(c + us.getD k 0 + vs.getD k 0) % 4294967296])) (hb : Below w.heap.size wr w2) :
    AddRel w w2 us vs v' (rs ++ [(c + us.getD k 0 + vs.getD k 0) % 4294967296]) (k + 1) ((c + us.getD k 0 + vs.getD k 0) / 4294967296) :=
  ⟨hr, by simp [R.len], R.lim.append (Lim.cons (by omega) lim_nil), add_step R.len R.sum, R.below.trans hb⟩
theorem add_carry {c x y : Nat} (hc : c ≤ 1) (hx : x < 4294967296) (hy : y < 4294967296) : (c + x + y) / 4294967296 ≤ 1 := by omega
theorem AddRel.fin {w wr : World} {us vs rs : List Nat} {r : Value} {k c : Nat} (R : AddRel w wr us vs r rs k c) (hk : us.length ≤ k) (hv : vs.length ≤ us.length) : val us + val vs = val (rs ++ [c]) := by
  have h := R.sum
  rw [List.take_of_length_le hk, List.take_of_length_le (by omega)] at h
  rw [val_snoc, R.len, h]

set_option maxHeartbeats 1000000 in
theorem add_any (va vb : Value) (xs ys : List Nat) (w : World) (ha : NatAt w va xs) (hb : NatAt w vb ys) (hxl : xs.length ≤ 1000000) (hyl : ys.length ≤ 1000000) : Calls Tryd.prog 24 #[va, vb] w (GivesNat w (limbs (val xs + val ys))) := by
  have HA := Lib.hid ha
  have HB := Lib.hid hb
  have hl1 := limbs_val_length ha.lim
  have hl2 := limbs_val_length hb.lim
  clear ha hb
  go_enter Tryd.func24, Tryd.ntmps24
  go_wp2_with fail
  refine (trim_any _ _ _ HA.out).mono ?_
  rintro e w' ⟨v1, rfl, rfl, h1⟩
  have H1 := Lib.hid h1
  clear h1
  go_wp2_with fail
  refine (trim_any _ _ _ HB.out).mono ?_
  rintro e w' ⟨v2, rfl, rfl, h2⟩
  have h1 := H1.out
  have e1 : val (limbs (val xs)) = val xs := val_limbs _
  have e2 : val (limbs (val ys)) = val ys := val_limbs _
  generalize limbs (val xs) = us at *
  generalize limbs (val ys) = vs at *
  have E1 := Lib.hid e1
  have E2 := Lib.hid e2
  have Hu := Lib.hid h1
  have Hv := Lib.hid h2
  clear H1 HA HB e1 e2
  obtain ⟨A, c, rfl, g1, g2⟩ := h1.form
  obtain ⟨A2, c2, rfl, k1, k2⟩ := h2.form
  clear h1 h2
  by_cases hsw : us.length < vs.length
  · go_wp2_with (at_make; refine wpList_make rfl _ Tryd.undN _ _ rfl _ _ _ _ 0 (vs.length + 1) rfl rfl rfl (by omega) (by omega) (by omega) ?_; intro w1 HO hb1 hz1; have HZ := Lib.hid hz1; clear hz1)
    go_loopw [5, 6, 26] (fun r cy i wr => ∃ (k c : Nat) (rs : List Nat), k ≤ vs.length ∧ i = .int .i64 k ∧ cy = .int .u64 c ∧ c ≤ 1 ∧ AddRel w wr vs us r rs k c) (fun _ _ i _ => vs.length - (intOf i).toNat)
    case atStart => exact ⟨0, 0, [], Nat.zero_le _, rfl, rfl, by omega, Row.made HO.out (Nat.le_refl _) (by omega), rfl, lim_nil, rfl, hb1⟩
    case round =>
      obtain ⟨k, c, rs, hk, rfl, rfl, hc1, R⟩ := hrel
      have hsz := R.below.size
      by_cases hlt : k < vs.length
      · obtain ⟨b, o, rfl, hb, hc⟩ := Hv.out.at_ (by omega)
        have hcj : wr.cell? ⟨b, o + k, none⟩ = some (.int .u32 (vs.getD k 0 : Nat)) := (R.below.cell hb).trans (hc k hlt)
        clear hc
        have hxl := Hv.out.lim.get k
        have HS := Lib.hid (R.step (Hv.out.lim.get k) (Hu.out.lim.get k) hc1)
        have HC := Lib.hid (add_carry hc1 (Hv.out.lim.get k) (Hu.out.lim.get k))
        have HR := Lib.hid R
        clear R
        obtain ⟨x, hx⟩ : ∃ x : Nat, x = vs.getD k 0 := ⟨_, rfl⟩
        rw [← hx] at hcj hxl HS HC
        clear hx
        by_cases hlt2 : k < us.length
        · obtain ⟨b2, o2, rfl, hb2, hc2⟩ := Hu.out.at_ (by omega)
          have hcj2 : wr.cell? ⟨b2, o2 + k, none⟩ = some (.int .u32 (us.getD k 0 : Nat)) := (HR.out.below.cell hb2).trans (hc2 k hlt2)
          clear hc2
          have hyl := Hu.out.lim.get k
          obtain ⟨y, hy⟩ : ∃ x : Nat, x = us.getD k 0 := ⟨_, rfl⟩
          rw [← hy] at hcj2 hyl HS HC
          clear hy
          go_wp2_with (at_builtin; refine wpList_append1 rfl (.tmp 46) (.tmp 49) _ Tryd.undN rfl w.heap.size _ rs rfl (HR.out.row.alloc _) wr.heap.size _ ((c + x + y) % 4294967296) rfl (by omega) (cell_new1 _ _ _) (by rw [HR.out.len]; omega) (by simp; omega) ?_; intro v' w2 HRow hb2)
          go_roundw
          case rel => exact ⟨k + 1, (c + x + y) / 4294967296, rs ++ [(c + x + y) % 4294967296], by omega, by go_num, by go_num, HC.out, HS.out v' w2 HRow.out ((Below.refl _ _).alloc hsz _ |>.trans hb2)⟩
          case measure => simp [intOf]; omega
        · have hy : us.getD k 0 = 0 := by rw [List.getD_eq_getElem?_getD, List.getElem?_eq_none (by omega)]; rfl
          rw [hy] at HS HC
          clear hy
          simp only [Nat.add_zero] at HS HC
          go_wp2_with (at_builtin; refine wpList_append1 rfl (.tmp 46) (.tmp 49) _ Tryd.undN rfl w.heap.size _ rs rfl (HR.out.row.alloc _) wr.heap.size _ ((c + x) % 4294967296) rfl (by omega) (cell_new1 _ _ _) (by rw [HR.out.len]; omega) (by simp; omega) ?_; intro v' w2 HRow hb2)
          go_roundw
          case rel => exact ⟨k + 1, (c + x) / 4294967296, rs ++ [(c + x) % 4294967296], by omega, by go_num, by go_num, HC.out, HS.out v' w2 HRow.out ((Below.refl _ _).alloc hsz _ |>.trans hb2)⟩
          case measure => simp [intOf]; omega
      · have HR := Lib.hid R
        clear R
        go_wp2_with (first
          | (at_builtin; refine wpList_append1 rfl (.tmp 54) (.tmp 57) _ Tryd.undN rfl w.heap.size _ rs rfl (HR.out.row.alloc _) wr.heap.size _ c rfl (by omega) (cell_new1 _ _ _) (by rw [HR.out.len]; omega) (by simp; omega) ?_; intro v' w2 HRow hb2)
          | (go_at_call 38; refine (trim_any _ _ _ (HRow.out.natAt (HR.out.lim.append (Lim.cons (by omega) lim_nil)))).mono ?_; rintro e w' ⟨v3, rfl, rfl, h3⟩; have H3 := Lib.hid h3; clear h3))
        go_ret
        rw [← E1.out, ← E2.out, Nat.add_comm, HR.out.fin (by omega) (by omega)]
        exact ⟨_, rfl, H3.out, HR.out.below.trans ((Below.refl _ _).alloc hsz _ |>.trans hb2)⟩
  · go_wp2_with (at_make; refine wpList_make rfl _ Tryd.undN _ _ rfl _ _ _ _ 0 (us.length + 1) rfl rfl rfl (by omega) (by omega) (by omega) ?_; intro w1 HO hb1 hz1; have HZ := Lib.hid hz1; clear hz1)
    go_loopw [5, 6, 26] (fun r cy i wr => ∃ (k c : Nat) (rs : List Nat), k ≤ us.length ∧ i = .int .i64 k ∧ cy = .int .u64 c ∧ c ≤ 1 ∧ AddRel w wr us vs r rs k c) (fun _ _ i _ => us.length - (intOf i).toNat)
    case atStart => exact ⟨0, 0, [], Nat.zero_le _, rfl, rfl, by omega, Row.made HO.out (Nat.le_refl _) (by omega), rfl, lim_nil, rfl, hb1⟩
    case round =>
      obtain ⟨k, c, rs, hk, rfl, rfl, hc1, R⟩ := hrel
      have hsz := R.below.size
      by_cases hlt : k < us.length
      · obtain ⟨b, o, rfl, hb, hc⟩ := Hu.out.at_ (by omega)
        have hcj : wr.cell? ⟨b, o + k, none⟩ = some (.int .u32 (us.getD k 0 : Nat)) := (R.below.cell hb).trans (hc k hlt)
        clear hc
        have hxl := Hu.out.lim.get k
        have HS := Lib.hid (R.step (Hu.out.lim.get k) (Hv.out.lim.get k) hc1)
        have HC := Lib.hid (add_carry hc1 (Hu.out.lim.get k) (Hv.out.lim.get k))
        have HR := Lib.hid R
        clear R
        obtain ⟨x, hx⟩ : ∃ x : Nat, x = us.getD k 0 := ⟨_, rfl⟩
        rw [← hx] at hcj hxl HS HC
        clear hx
        by_cases hlt2 : k < vs.length
        · obtain ⟨b2, o2, rfl, hb2, hc2⟩ := Hv.out.at_ (by omega)
          have hcj2 : wr.cell? ⟨b2, o2 + k, none⟩ = some (.int .u32 (vs.getD k 0 : Nat)) := (HR.out.below.cell hb2).trans (hc2 k hlt2)
          clear hc2
          have hyl := Hv.out.lim.get k
          obtain ⟨y, hy⟩ : ∃ x : Nat, x = vs.getD k 0 := ⟨_, rfl⟩
          rw [← hy] at hcj2 hyl HS HC
          clear hy
          go_wp2_with (at_builtin; refine wpList_append1 rfl (.tmp 46) (.tmp 49) _ Tryd.undN rfl w.heap.size _ rs rfl (HR.out.row.alloc _) wr.heap.size _ ((c + x + y) % 4294967296) rfl (by omega) (cell_new1 _ _ _) (by rw [HR.out.len]; omega) (by simp; omega) ?_; intro v' w2 HRow hb2)
          go_roundw
          case rel => exact ⟨k + 1, (c + x + y) / 4294967296, rs ++ [(c + x + y) % 4294967296], by omega, by go_num, by go_num, HC.out, HS.out v' w2 HRow.out ((Below.refl _ _).alloc hsz _ |>.trans hb2)⟩
          case measure => simp [intOf]; omega
        · have hy : vs.getD k 0 = 0 := by rw [List.getD_eq_getElem?_getD, List.getElem?_eq_none (by omega)]; rfl
          rw [hy] at HS HC
          clear hy
          simp only [Nat.add_zero] at HS HC
          go_wp2_with (at_builtin; refine wpList_append1 rfl (.tmp 46) (.tmp 49) _ Tryd.undN rfl w.heap.size _ rs rfl (HR.out.row.alloc _) wr.heap.size _ ((c + x) % 4294967296) rfl (by omega) (cell_new1 _ _ _) (by rw [HR.out.len]; omega) (by simp; omega) ?_; intro v' w2 HRow hb2)
          go_roundw
          case rel => exact ⟨k + 1, (c + x) / 4294967296, rs ++ [(c + x) % 4294967296], by omega, by go_num, by go_num, HC.out, HS.out v' w2 HRow.out ((Below.refl _ _).alloc hsz _ |>.trans hb2)⟩
          case measure => simp [intOf]; omega
      · have HR := Lib.hid R
        clear R
        go_wp2_with (first
          | (at_builtin; refine wpList_append1 rfl (.tmp 54) (.tmp 57) _ Tryd.undN rfl w.heap.size _ rs rfl (HR.out.row.alloc _) wr.heap.size _ c rfl (by omega) (cell_new1 _ _ _) (by rw [HR.out.len]; omega) (by simp; omega) ?_; intro v' w2 HRow hb2)
          | (go_at_call 38; refine (trim_any _ _ _ (HRow.out.natAt (HR.out.lim.append (Lim.cons (by omega) lim_nil)))).mono ?_; rintro e w' ⟨v3, rfl, rfl, h3⟩; have H3 := Lib.hid h3; clear h3))
        go_ret
        rw [← E1.out, ← E2.out, HR.out.fin (by omega) (by omega)]
        exact ⟨_, rfl, H3.out, HR.out.below.trans ((Below.refl _ _).alloc hsz _ |>.trans hb2)⟩
end Go.Proofs.YtelcjcgalkcadaaDoor
