/- natural.Add. -/
import Derived.Test.YtoflndeonegkpaaDoorCore
namespace Go.Proofs.YtoflndeonegkpaaDoor
open Go.RowKit

/-- What holds at the head of each round of natural.Add. -/
structure AddRel (w wr : World) (us vs : List Nat) (r : Value) (rs : List Nat) (k c : Nat) : Prop where
  row : Row wr w.heap.size r rs
  len : rs.length = k
  lim : Lim rs
  sum : val rs + 4294967296 ^ k * c = val (us.take k) + val (vs.take k)
  below : Below w.heap.size w wr
theorem AddRel.step {w wr : World} {us vs rs : List Nat} {r : Value} {k c : Nat} (R : AddRel w wr us vs r rs k c) (_hx : us.getD k 0 < 4294967296) (_hy : vs.getD k 0 < 4294967296) (_hc : c ≤ 1) (v' : Value) (w2 : World)
    (hr : Row w2 w.heap.size v' (rs ++ [(c + us.getD k 0 + vs.getD k 0) % 4294967296])) (hb : Below w.heap.size wr w2) :
    AddRel w w2 us vs v' (rs ++ [(c + us.getD k 0 + vs.getD k 0) % 4294967296]) (k + 1) ((c + us.getD k 0 + vs.getD k 0) / 4294967296) :=
  ⟨hr, by simp [R.len], R.lim.append (Lim.cons (by omega) lim_nil), add_step R.len R.sum, R.below.trans hb⟩
theorem add_carry {c x y : Nat} (hc : c ≤ 1) (hx : x < 4294967296) (hy : y < 4294967296) : (c + x + y) / 4294967296 ≤ 1 := by omega
theorem AddRel.fin {w wr : World} {us vs rs : List Nat} {r : Value} {k c : Nat} (R : AddRel w wr us vs r rs k c) (hk : us.length ≤ k) (hv : vs.length ≤ us.length) : val us + val vs = val (rs ++ [c]) := by
  have h := R.sum
  rw [List.take_of_length_le hk, List.take_of_length_le (by omega)] at h
  rw [val_snoc, R.len, h]

set_option maxHeartbeats 1000000 in
theorem add_any (va vb : Value) (xs ys : List Nat) (w : World) (ha : NatAt w va xs) (hb : NatAt w vb ys) (hxl : xs.length ≤ 1000000) (hyl : ys.length ≤ 1000000) : Calls Tryd.prog 41 #[va, vb] w (GivesNat w (limbs (val xs + val ys))) := by
  have HA := Lib.hid ha
  have HB := Lib.hid hb
  have hl1 := limbs_val_length ha.lim
  have hl2 := limbs_val_length hb.lim
  clear ha hb
  go_enter Tryd.func41, Tryd.ntmps41
  go_wp2_with fail
  refine (trim_any _ _ _ HA.out).mono ?_
  rintro e w' ⟨v1, rfl, rfl, h1⟩
  have H1 := Lib.hid h1
  clear h1
  go_wp2_with fail
  refine (trim_any _ _ _ HB.out).mono ?_
  rintro e w' ⟨v2, rfl, rfl, h2⟩
  have h1 := H1.out
  have e1 : val (limbs (val xs)) = val xs := val_limbs _
  have e2 : val (limbs (val ys)) = val ys := val_limbs _
  generalize limbs (val xs) = us at *
  generalize limbs (val ys) = vs at *
  have E1 := Lib.hid e1
  have E2 := Lib.hid e2
  have Hu := Lib.hid h1
  have Hv := Lib.hid h2
  clear H1 HA HB e1 e2
  obtain ⟨A, c, rfl, g1, g2⟩ := h1.form
  obtain ⟨A2, c2, rfl, k1, k2⟩ := h2.form
  clear h1 h2
  by_cases hsw : us.length < vs.length
  · go_wp2_with (at_make; refine wpList_make rfl _ Tryd.undN _ _ rfl _ _ _ _ 0 (vs.length + 1) rfl rfl rfl (by omega) (by omega) (by omega) ?_; intro w1 HO hb1 hz1; have HZ := Lib.hid hz1; clear hz1)
    go_loopw [5, 6, 26] (fun r cy i wr => ∃ (k c : Nat) (rs : List Nat), k ≤ vs.length ∧ i = .int .i64 k ∧ cy = .int .u64 c ∧ c ≤ 1 ∧ AddRel w wr vs us r rs k c) (fun _ _ i _ => vs.length - (intOf i).toNat)
    case atStart => exact ⟨0, 0, [], Nat.zero_le _, rfl, rfl, by omega, Row.made HO.out (Nat.le_refl _) (by omega), rfl, lim_nil, rfl, hb1⟩
    case round =>
      obtain ⟨k, c, rs, hk, rfl, rfl, hc1, R⟩ := hrel
      have hsz := R.below.size
      by_cases hlt : k < vs.length
      · obtain ⟨b, o, rfl, hb, hc⟩ := Hv.out.at_ (by omega)
        have hcj : wr.cell? ⟨b, o + k, none⟩ = some (.int .u32 (vs.getD k 0 : Nat)) := (R.below.cell hb).trans (hc k hlt)
        clear hc
        have hxl := Hv.out.lim.get k
        have HS := Lib.hid (R.step (Hv.out.lim.get k) (Hu.out.lim.get k) hc1)
        have HC := Lib.hid (add_carry hc1 (Hv.out.lim.get k) (Hu.out.lim.get k))
        have HR := Lib.hid R
        clear R
        obtain ⟨x, hx⟩ : ∃ x : Nat, x = vs.getD k 0 := ⟨_, rfl⟩
        rw [← hx] at hcj hxl HS HC
        clear hx
        by_cases hlt2 : k < us.length
        · obtain ⟨b2, o2, rfl, hb2, hc2⟩ := Hu.out.at_ (by omega)
          have hcj2 : wr.cell? ⟨b2, o2 + k, none⟩ = some (.int .u32 (us.getD k 0 : Nat)) := (HR.out.below.cell hb2).trans (hc2 k hlt2)
          clear hc2
          have hyl := Hu.out.lim.get k
          obtain ⟨y, hy⟩ : ∃ x : Nat, x = us.getD k 0 := ⟨_, rfl⟩
          rw [← hy] at hcj2 hyl HS HC
          clear hy
          go_wp2_with (at_builtin; refine wpList_append1 rfl (.tmp 46) (.tmp 49) _ Tryd.undN rfl w.heap.size _ rs rfl (HR.out.row.alloc _) wr.heap.size _ ((c + x + y) % 4294967296) rfl (by omega) (cell_new1 _ _ _) (by rw [HR.out.len]; omega) (by simp; omega) ?_; intro v' w2 HRow hb2)
          go_roundw
          case rel => exact ⟨k + 1, (c + x + y) / 4294967296, rs ++ [(c + x + y) % 4294967296], by omega, by go_num, by go_num, HC.out, HS.out v' w2 HRow.out ((Below.refl _ _).alloc hsz _ |>.trans hb2)⟩
          case measure => simp [intOf]; omega
        · have hy : us.getD k 0 = 0 := by rw [List.getD_eq_getElem?_getD, List.getElem?_eq_none (by omega)]; rfl
          rw [hy] at HS HC
          clear hy
          simp only [Nat.add_zero] at HS HC
          go_wp2_with (at_builtin; refine wpList_append1 rfl (.tmp 46) (.tmp 49) _ Tryd.undN rfl w.heap.size _ rs rfl (HR.out.row.alloc _) wr.heap.size _ ((c + x) % 4294967296) rfl (by omega) (cell_new1 _ _ _) (by rw [HR.out.len]; omega) (by simp; omega) ?_; intro v' w2 HRow hb2)
          go_roundw
          case rel => exact ⟨k + 1, (c + x) / 4294967296, rs ++ [(c + x) % 4294967296], by omega, by go_num, by go_num, HC.out, HS.out v' w2 HRow.out ((Below.refl _ _).alloc hsz _ |>.trans hb2)⟩
          case measure => simp [intOf]; omega
      · have HR := Lib.hid R
        clear R
        go_wp2_with (first
          | (at_builtin; refine wpList_append1 rfl (.tmp 54) (.tmp 57) _ Tryd.undN rfl w.heap.size _ rs rfl (HR.out.row.alloc _) wr.heap.size _ c rfl (by omega) (cell_new1 _ _ _) (by rw [HR.out.len]; omega) (by simp; omega) ?_; intro v' w2 HRow hb2)
          | (go_at_call 58; refine (trim_any _ _ _ (HRow.out.natAt (HR.out.lim.append (Lim.cons (by omega) lim_nil)))).mono ?_; rintro e w' ⟨v3, rfl, rfl, h3⟩; have H3 := Lib.hid h3; clear h3))
        go_ret
        rw [← E1.out, ← E2.out, Nat.add_comm, HR.out.fin (by omega) (by omega)]
        exact ⟨_, rfl, H3.out, HR.out.below.trans ((Below.refl _ _).alloc hsz _ |>.trans hb2)⟩
  · go_wp2_with (at_make; refine wpList_make rfl _ Tryd.undN _ _ rfl _ _ _ _ 0 (us.length + 1) rfl rfl rfl (by omega) (by omega) (by omega) ?_; intro w1 HO hb1 hz1; have HZ := Lib.hid hz1; clear hz1)
    go_loopw [5, 6, 26] (fun r cy i wr => ∃ (k c : Nat) (rs : List Nat), k ≤ us.length ∧ i = .int .i64 k ∧ cy = .int .u64 c ∧ c ≤ 1 ∧ AddRel w wr us vs r rs k c) (fun _ _ i _ => us.length - (intOf i).toNat)
    case atStart => exact ⟨0, 0, [], Nat.zero_le _, rfl, rfl, by omega, Row.made HO.out (Nat.le_refl _) (by omega), rfl, lim_nil, rfl, hb1⟩
    case round =>
      obtain ⟨k, c, rs, hk, rfl, rfl, hc1, R⟩ := hrel
      have hsz := R.below.size
      by_cases hlt : k < us.length
      · obtain ⟨b, o, rfl, hb, hc⟩ := Hu.out.at_ (by omega)
        have hcj : wr.cell? ⟨b, o + k, none⟩ = some (.int .u32 (us.getD k 0 : Nat)) := (R.below.cell hb).trans (hc k hlt)
        clear hc
        have hxl := Hu.out.lim.get k
        have HS := Lib.hid (R.step (Hu.out.lim.get k) (Hv.out.lim.get k) hc1)
        have HC := Lib.hid (add_carry hc1 (Hu.out.lim.get k) (Hv.out.lim.get k))
        have HR := Lib.hid R
        clear R
        obtain ⟨x, hx⟩ : ∃ x : Nat, x = us.getD k 0 := ⟨_, rfl⟩
        rw [← hx] at hcj hxl HS HC
        clear hx
        by_cases hlt2 : k < vs.length
        · obtain ⟨b2, o2, rfl, hb2, hc2⟩ := Hv.out.at_ (by omega)
          have hcj2 : wr.cell? ⟨b2, o2 + k, none⟩ = some (.int .u32 (vs.getD k 0 : Nat)) := (HR.out.below.cell hb2).trans (hc2 k hlt2)
          clear hc2
          have hyl := Hv.out.lim.get k
          obtain ⟨y, hy⟩ : ∃ x : Nat, x = vs.getD k 0 := ⟨_, rfl⟩
          rw [← hy] at hcj2 hyl HS HC
          clear hy
          go_wp2_with (at_builtin; refine wpList_append1 rfl (.tmp 46) (.tmp 49) _ Tryd.undN rfl w.heap.size _ rs rfl (HR.out.row.alloc _) wr.heap.size _ ((c + x + y) % 4294967296) rfl (by omega) (cell_new1 _ _ _) (by rw [HR.out.len]; omega) (by simp; omega) ?_; intro v' w2 HRow hb2)
          go_roundw
          case rel => exact ⟨k + 1, (c + x + y) / 4294967296, rs ++ [(c + x + y) % 4294967296], by omega, by go_num, by go_num, HC.out, HS.out v' w2 HRow.out ((Below.refl _ _).alloc hsz _ |>.trans hb2)⟩
          case measure => simp [intOf]; omega
        · have hy : vs.getD k 0 = 0 := by rw [List.getD_eq_getElem?_getD, List.getElem?_eq_none (by omega)]; rfl
          rw [hy] at HS HC
          clear hy
          simp only [Nat.add_zero] at HS HC
          go_wp2_with (at_builtin; refine wpList_append1 rfl (.tmp 46) (.tmp 49) _ Tryd.undN rfl w.heap.size _ rs rfl (HR.out.row.alloc _) wr.heap.size _ ((c + x) % 4294967296) rfl (by omega) (cell_new1 _ _ _) (by rw [HR.out.len]; omega) (by simp; omega) ?_; intro v' w2 HRow hb2)
          go_roundw
          case rel => exact ⟨k + 1, (c + x) / 4294967296, rs ++ [(c + x) % 4294967296], by omega, by go_num, by go_num, HC.out, HS.out v' w2 HRow.out ((Below.refl _ _).alloc hsz _ |>.trans hb2)⟩
          case measure => simp [intOf]; omega
      · have HR := Lib.hid R
        clear R
        go_wp2_with (first
          | (at_builtin; refine wpList_append1 rfl (.tmp 54) (.tmp 57) _ Tryd.undN rfl w.heap.size _ rs rfl (HR.out.row.alloc _) wr.heap.size _ c rfl (by omega) (cell_new1 _ _ _) (by rw [HR.out.len]; omega) (by simp; omega) ?_; intro v' w2 HRow hb2)
          | (go_at_call 58; refine (trim_any _ _ _ (HRow.out.natAt (HR.out.lim.append (Lim.cons (by omega) lim_nil)))).mono ?_; rintro e w' ⟨v3, rfl, rfl, h3⟩; have H3 := Lib.hid h3; clear h3))
        go_ret
        rw [← E1.out, ← E2.out, HR.out.fin (by omega) (by omega)]
        exact ⟨_, rfl, H3.out, HR.out.below.trans ((Below.refl _ _).alloc hsz _ |>.trans hb2)⟩
end Go.Proofs.YtoflndeonegkpaaDoor

/- natural.Sub. -/
namespace Go.Proofs.YtoflndeonegkpaaDoor
open Go.RowKit

/-- A number and a bool. -/
def GivesNatB (w : World) (xs : List Nat) (b : Bool) (e : Ending) (w' : World) : Prop :=
  ∃ v, e = .returned (.tuple #[v, .bool b]) ∧ NatAt w' v xs ∧ Below w.heap.size w w'

structure SubRel (w wr : World) (g : Nat) (us vs : List Nat) (rs : List Nat) (k b : Nat) : Prop where
  own : Own wr g (rs ++ List.replicate (us.length - k) 0)
  len : rs.length = k
  lim : Lim rs
  sum : val rs + val (vs.take k) = val (us.take k) + 4294967296 ^ k * b
  below : Below w.heap.size w wr
theorem set_zeros {rs : List Nat} {n k d : Nat} (hr : rs.length = k) (hk : k < n) : (rs ++ List.replicate (n - k) 0).set k d = (rs ++ [d]) ++ List.replicate (n - (k + 1)) 0 := by
  rw [List.set_append_right _ _ (by omega), hr, Nat.sub_self]
  obtain ⟨m, hm⟩ : ∃ m, n - k = m + 1 := ⟨n - k - 1, by omega⟩
  rw [hm, List.replicate_succ, List.set_cons_zero, show n - (k + 1) = m by omega]
  simp
theorem SubRel.step {w wr : World} {g : Nat} {us vs rs : List Nat} {k b d c : Nat} (R : SubRel w wr g us vs rs k b) (hk : k < us.length) (hd : d + b + vs.getD k 0 = us.getD k 0 + 4294967296 * c) (hdl : d < 4294967296) (hg : w.heap.size ≤ g) :
    SubRel w (wr.setCell ⟨g, k, none⟩ (.int .u32 (d : Int))) g us vs (rs ++ [d]) (k + 1) c :=
  ⟨by rw [← set_zeros R.len hk]; exact R.own.set k d, by simp [R.len], R.lim.append (Lim.cons hdl lim_nil), sub_step R.len R.sum hd, R.below.setCell hg _⟩

theorem sub_words {b x y : Nat} (hb : b ≤ 1) (hx : x < 4294967296) (hy : y < 4294967296) : ∃ d c : Nat, IntKind.u64.wrap (IntKind.u64.wrap ((x : Int) - b) - y) / 9223372036854775808 = (c : Int) ∧
    IntKind.u64.wrap (IntKind.u64.wrap ((x : Int) - b) - y) % 4294967296 = (d : Int) ∧ c ≤ 1 ∧ d < 4294967296 ∧ d + b + y = x + 4294967296 * c := by
  rw [IntKind.wrap_u64, IntKind.wrap_u64]
  by_cases h : b + y ≤ x
  · exact ⟨x - b - y, 0, by omega, by omega, by omega, by omega, by omega⟩
  · exact ⟨x + 4294967296 - b - y, 1, by omega, by omega, by omega, by omega, by omega⟩
theorem sub_words1 {b x : Nat} (hb : b ≤ 1) (hx : x < 4294967296) : ∃ d c : Nat, IntKind.u64.wrap ((x : Int) - b) / 9223372036854775808 = (c : Int) ∧
    IntKind.u64.wrap ((x : Int) - b) % 4294967296 = (d : Int) ∧ c ≤ 1 ∧ d < 4294967296 ∧ d + b + 0 = x + 4294967296 * c := by
  rw [IntKind.wrap_u64]
  by_cases h : b ≤ x
  · exact ⟨x - b, 0, by omega, by omega, by omega, by omega, by omega⟩
  · exact ⟨x + 4294967296 - b, 1, by omega, by omega, by omega, by omega, by omega⟩
theorem cmp_below (va vb : Value) (xs ys : List Nat) (w : World) (ha : NatAt w va xs) (hb : NatAt w vb ys) : Calls Tryd.prog 46 #[va, vb] w fun e w' => e = .returned (.int .i64 (ord (val xs) (val ys))) ∧ Below w.heap.size w w' ∧ w'.heap.size ≤ w.heap.size :=
  (cmp_any va vb xs ys w ha hb).mono fun _ _ ⟨he, m, hm⟩ => by subst hm; exact ⟨he, below_drew0 w m, Nat.le_refl _⟩

set_option maxHeartbeats 1000000 in
theorem sub_any (va vb : Value) (xs ys : List Nat) (w : World) (ha : NatAt w va xs) (hb : NatAt w vb ys) (hxl : xs.length ≤ 1000000) : Calls Tryd.prog 57 #[va, vb] w (GivesNatB w (limbs (val xs - val ys)) (decide (val ys ≤ val xs))) := by
  have HA := Lib.hid ha
  have HB := Lib.hid hb
  have hl1 := limbs_val_length ha.lim
  clear ha hb
  go_enter Tryd.func57, Tryd.ntmps57
  go_wp2_with fail
  refine (trim_any _ _ _ HA.out).mono ?_
  rintro e w' ⟨v1, rfl, rfl, h1⟩
  have H1 := Lib.hid h1
  clear h1
  go_wp2_with fail
  refine (trim_any _ _ _ HB.out).mono ?_
  rintro e w' ⟨v2, rfl, rfl, h2⟩
  have h1 := H1.out
  have e1 : val (limbs (val xs)) = val xs := val_limbs _
  have e2 : val (limbs (val ys)) = val ys := val_limbs _
  have hgt := @limbs_length_mono (val xs) (val ys)
  generalize limbs (val xs) = us at *
  generalize limbs (val ys) = vs at *
  rw [← e1, ← e2] at hgt
  have E1 := Lib.hid e1
  have E2 := Lib.hid e2
  have HG := Lib.hid hgt
  have Hu := Lib.hid h1
  have Hv := Lib.hid h2
  clear H1 HA HB e1 e2 h1 h2 hgt
  go_wp2_with fail
  refine (cmp_below _ _ _ _ _ Hu.out Hv.out).mono ?_
  rintro e w0 ⟨rfl, hb0, hz0⟩
  by_cases hlt : val us < val vs
  · rw [ord_lt hlt]
    go_wp2
    go_ret2
    have hd : decide (val ys ≤ val xs) = false := by rw [← E1.out, ← E2.out]; simp; omega
    have hs : val xs - val ys = 0 := by rw [← E1.out, ← E2.out]; omega
    rw [hd, hs]
    exact ⟨_, rfl, NatAt.nil _, hb0⟩
  · have hvu : vs.length ≤ us.length := HG.out (by omega)
    have ho : (0 : Int) ≤ ord (val us) (val vs) := by unfold ord; rw [if_neg hlt]; split <;> omega
    obtain ⟨oc, hoc⟩ : ∃ oc, oc = ord (val us) (val vs) := ⟨_, rfl⟩
    rw [← hoc] at ho ⊢
    clear hoc
    have hoB : decide (oc < 0) = false := by simp; omega
    have HLT := Lib.hid hlt
    clear hlt
    obtain ⟨A, c, hv1, g1, g2⟩ := Hu.out.form
    obtain ⟨A2, c2, hv2, k1, k2⟩ := Hv.out.form
    subst hv1 hv2
    go_wp2_with (at_make; refine wpList_make rfl _ Tryd.undN _ _ rfl _ _ _ _ us.length us.length rfl rfl rfl rfl (by omega) (by omega) ?_; intro w1 HO hb1 hz1; have HZ := Lib.hid hz1; clear hz1)
    go_loopw [7, 24] (fun bo i wr => ∃ (k b : Nat) (rs : List Nat), k ≤ us.length ∧ i = .int .i64 k ∧ bo = .int .u64 b ∧ b ≤ 1 ∧ SubRel w wr w0.heap.size us vs rs k b) (fun _ i _ => us.length - (intOf i).toNat)
    case atStart => exact ⟨0, 0, [], Nat.zero_le _, rfl, rfl, by omega, HO.out, rfl, lim_nil, rfl, below_next hb0 hb1⟩
    case round =>
      obtain ⟨k, b, rs, hk, rfl, rfl, hc1, R⟩ := hrel
      have hsz := R.below.size
      by_cases hlt : k < us.length
      · obtain ⟨b0, o, rfl, hb, hc⟩ := Hu.out.at_ (by omega)
        have hcj : wr.cell? ⟨b0, o + k, none⟩ = some (.int .u32 (us.getD k 0 : Nat)) := (R.below.cell hb).trans (hc k hlt)
        clear hc
        have hxl := Hu.out.lim.get k
        have hyl := Hv.out.lim.get k
        have hst : ∃ u, wr.cell? ⟨w0.heap.size, k, none⟩ = some u := ⟨_, R.own.cell (by rw [List.length_append, List.length_replicate, R.len]; omega)⟩
        obtain ⟨old, hold⟩ := hst
        have hfr := R.own.frozen k
        have HS := Lib.hid (fun (d c : Nat) => R.step (d := d) (c := c) hlt)
        have HR := Lib.hid R
        clear R
        obtain ⟨x, hx⟩ : ∃ x : Nat, x = us.getD k 0 := ⟨_, rfl⟩
        rw [← hx] at hcj hxl HS
        clear hx
        by_cases hlt2 : k < vs.length
        · obtain ⟨b2, o2, rfl, hb2, hc2⟩ := Hv.out.at_ (by omega)
          have hcj2 : wr.cell? ⟨b2, o2 + k, none⟩ = some (.int .u32 (vs.getD k 0 : Nat)) := (HR.out.below.cell hb2).trans (hc2 k hlt2)
          clear hc2
          obtain ⟨y, hy⟩ : ∃ x : Nat, x = vs.getD k 0 := ⟨_, rfl⟩
          rw [← hy] at hcj2 hyl HS
          clear hy
          go_wp2
          obtain ⟨d, c', e1, e2, hc', hd', hsum⟩ := sub_words hc1 hxl hyl
          go_roundw
          case rel => exact ⟨k + 1, c', rs ++ [d], by omega, by go_num, congrArg (Value.int .u64) e1, hc', by rw [e2]; exact HS.out d c' hsum hd' hb0.size⟩
          case measure => simp [intOf]; omega
        · have hy : vs.getD k 0 = 0 := by rw [List.getD_eq_getElem?_getD, List.getElem?_eq_none (by omega)]; rfl
          rw [hy] at HS
          clear hy
          go_wp2
          obtain ⟨d, c', e1, e2, hc', hd', hsum⟩ := sub_words1 hc1 hxl
          go_roundw
          case rel => exact ⟨k + 1, c', rs ++ [d], by omega, by go_num, congrArg (Value.int .u64) e1, hc', by rw [e2]; exact HS.out d c' hsum hd' hb0.size⟩
          case measure => simp [intOf]; omega
      · have HR := Lib.hid R
        have hkl : k = us.length := by omega
        have hO := R.own
        rw [hkl, Nat.sub_self, List.replicate_zero, List.append_nil] at hO
        have HN := Lib.hid (hO.natAt R.lim (c := us.length) (by rw [R.len]; omega) (by rw [R.len]; omega))
        rw [R.len, hkl] at HN
        have hkL : Hid (k = us.length) := hkl
        clear R hkl hO
        go_wp2_with (go_at_call 58; refine (trim_any _ _ _ HN.out).mono ?_; rintro e w' ⟨v3, rfl, rfl, h3⟩; have H3 := Lib.hid h3; clear h3)
        go_ret2
        have hsum := HR.out.sum
        rw [hkL.out, List.take_of_length_le hvu, List.take_of_length_le (Nat.le_refl _)] at hsum
        have hbz : b = 0 := by
          rcases Nat.eq_zero_or_pos b with h0 | h0
          · exact h0
          · exfalso
            have h1 := val_lt HR.out.lim
            rw [HR.out.len, hkL.out] at h1
            have h2 : 4294967296 ^ us.length * 1 ≤ 4294967296 ^ us.length * b := Nat.mul_le_mul_left _ h0
            have := HLT.out
            omega
        rw [hbz] at hsum
        have hd : decide (val ys ≤ val xs) = true := by rw [← E1.out, ← E2.out]; simp; have := HLT.out; omega
        have hs : val xs - val ys = val rs := by rw [← E1.out, ← E2.out]; omega
        rw [hd, hs]
        exact ⟨_, rfl, H3.out, HR.out.below⟩
end Go.Proofs.YtoflndeonegkpaaDoor

/- natural.Mul. -/
namespace Go.Proofs.YtoflndeonegkpaaDoor
open Go.RowKit

structure MulRel (w wr : World) (g : Nat) (us vs : List Nat) (R : List Nat) (i : Nat) : Prop where
  own : Own wr g R
  len : R.length = us.length + vs.length
  lim : Lim R
  prod : val R = val (us.take i) * val vs
  below : Below w.heap.size w wr
structure MulIn (w wr : World) (g : Nat) (us vs : List Nat) (R : List Nat) (i k c : Nat) : Prop where
  own : Own wr g R
  len : R.length = us.length + vs.length
  lim : Lim R
  zero : R.getD (i + vs.length) 0 = 0
  sum : val R + 4294967296 ^ (i + k) * c = val (us.take i) * val vs + 4294967296 ^ i * (us.getD i 0 * val (vs.take k))
  below : Below w.heap.size w wr
theorem MulRel.enter {w wr : World} {g : Nat} {us vs R : List Nat} {i : Nat} (h : MulRel w wr g us vs R i) (hu : Lim us) (hv : Lim vs) (hi : i < us.length) : MulIn w wr g us vs R i 0 0 :=
  ⟨h.own, h.len, h.lim, get_zero_of_lt (k := i + vs.length) (by
    rw [h.prod, Nat.pow_add]
    have h1 := val_lt (hu.take i)
    rw [List.length_take, Nat.min_eq_left (by omega)] at h1
    have h2 := val_lt hv
    exact Nat.mul_lt_mul_of_le_of_lt (Nat.le_of_lt h1) h2 (by omega)) (Nat.le_refl _), by simp [h.prod, val], h.below⟩
theorem MulIn.step {w wr : World} {g : Nat} {us vs R : List Nat} {i k c : Nat} (h : MulIn w wr g us vs R i k c) (hi : i < us.length) (hk : k < vs.length) (hg : w.heap.size ≤ g) :
    MulIn w (wr.setCell ⟨g, i + k, none⟩ (.int .u32 (((c + us.getD i 0 * vs.getD k 0 + R.getD (i + k) 0) % 4294967296 : Nat) : Int))) g us vs (R.set (i + k) ((c + us.getD i 0 * vs.getD k 0 + R.getD (i + k) 0) % 4294967296)) i (k + 1)
      ((c + us.getD i 0 * vs.getD k 0 + R.getD (i + k) 0) / 4294967296) :=
  ⟨h.own.set _ _, by rw [List.length_set, h.len], h.lim.set _ (by omega), by
    rw [List.getD_eq_getElem?_getD, List.getElem?_set_ne (by omega), ← List.getD_eq_getElem?_getD]; exact h.zero,
   mul_step (by rw [h.len]; omega) h.sum, h.below.setCell hg _⟩
theorem MulIn.leave {w wr : World} {g : Nat} {us vs R : List Nat} {i c : Nat} (h : MulIn w wr g us vs R i vs.length c) (hi : i < us.length) (hc : c < 4294967296) (hg : w.heap.size ≤ g) :
    MulRel w (wr.setCell ⟨g, i + vs.length, none⟩ (.int .u32 (c : Int))) g us vs (R.set (i + vs.length) c) (i + 1) :=
  ⟨h.own.set _ _, by rw [List.length_set, h.len], h.lim.set _ hc, mul_round (by rw [h.len]; omega) h.zero h.sum, h.below.setCell hg _⟩
theorem mul_le {x y : Nat} (hx : x < 4294967296) (hy : y < 4294967296) : x * y ≤ 18446744065119617025 := Nat.mul_le_mul (by omega : x ≤ 4294967295) (by omega : y ≤ 4294967295)

set_option maxHeartbeats 2000000 in
theorem mul_any (va vb : Value) (xs ys : List Nat) (w : World) (ha : NatAt w va xs) (hb : NatAt w vb ys) (hxl : xs.length ≤ 1000000) (hyl : ys.length ≤ 1000000) : Calls Tryd.prog 36 #[va, vb] w (GivesNat w (limbs (val xs * val ys))) := by
  have HA := Lib.hid ha
  have HB := Lib.hid hb
  have hl1 := limbs_val_length ha.lim
  have hl2 := limbs_val_length hb.lim
  clear ha hb
  go_enter Tryd.func36, Tryd.ntmps36
  go_wp2_with fail
  refine (trim_any _ _ _ HA.out).mono ?_
  rintro e w' ⟨v1, rfl, rfl, h1⟩
  have H1 := Lib.hid h1
  clear h1
  go_wp2_with fail
  refine (trim_any _ _ _ HB.out).mono ?_
  rintro e w' ⟨v2, rfl, rfl, h2⟩
  have h1 := H1.out
  have e1 : val (limbs (val xs)) = val xs := val_limbs _
  have e2 : val (limbs (val ys)) = val ys := val_limbs _
  generalize limbs (val xs) = us at *
  generalize limbs (val ys) = vs at *
  have E1 := Lib.hid e1
  have E2 := Lib.hid e2
  have Hu := Lib.hid h1
  have Hv := Lib.hid h2
  clear H1 HA HB e1 e2
  obtain ⟨A, c, rfl, g1, g2⟩ := h1.form
  obtain ⟨A2, c2, rfl, k1, k2⟩ := h2.form
  clear h1 h2
  go_wp2_with (at_make; refine wpList_make rfl _ Tryd.undN _ _ rfl _ _ _ _ (us.length + vs.length) (us.length + vs.length) rfl rfl (by omega) (by omega) (by omega) (by omega) ?_; intro w1 HO hb1 hz1; have HZ := Lib.hid hz1; clear hz1)
  go_loopw [23] (fun si wr => ∃ (i : Nat) (R : List Nat), i ≤ us.length ∧ si = .int .i64 i ∧ MulRel w wr w.heap.size us vs R i) (fun si _ => us.length - (intOf si).toNat)
  case atStart => exact ⟨0, _, Nat.zero_le _, rfl, HO.out, by simp, Lim.replicate _, by simp [val_replicate, val], hb1⟩
  case round =>
    obtain ⟨i, R, hi, rfl, M⟩ := hrel
    by_cases hlt : i < us.length
    · obtain ⟨b, o, rfl, hb, hc⟩ := Hu.out.at_ (by omega)
      have hcj : wr.cell? ⟨b, o + i, none⟩ = some (.int .u32 (us.getD i 0 : Nat)) := (M.below.cell hb).trans (hc i hlt)
      clear hc
      have hxl := Hu.out.lim.get i
      have HM := Lib.hid (M.enter Hu.out.lim Hv.out.lim hlt)
      clear M
      obtain ⟨x, hx⟩ : ∃ x : Nat, x = us.getD i 0 := ⟨_, rfl⟩
      rw [← hx] at hcj hxl
      have HX := Lib.hid hx
      clear hx
      obtain ⟨wo, rfl⟩ : ∃ wo : World, wo = wr := ⟨_, rfl⟩
      go_wp2
      go_loopw [8, 30] (fun cy sk wr => ∃ (k c : Nat) (R : List Nat), k ≤ vs.length ∧ sk = .int .i64 k ∧ cy = .int .u64 c ∧ c < 4294967296 ∧ MulIn w wr w.heap.size us vs R i k c) (fun _ sk _ => vs.length - (intOf sk).toNat)
      case atStart => exact ⟨0, 0, R, Nat.zero_le _, rfl, rfl, by omega, HM.out⟩
      case round =>
        obtain ⟨k, c, R, hk, rfl, rfl, hc, M⟩ := hrel
        by_cases hlt2 : k < vs.length
        · obtain ⟨b2, o2, rfl, hb2, hc2⟩ := Hv.out.at_ (by omega)
          have hcj2 : wr.cell? ⟨b2, o2 + k, none⟩ = some (.int .u32 (vs.getD k 0 : Nat)) := (M.below.cell hb2).trans (hc2 k hlt2)
          clear hc2
          have hcr := M.own.cell (j := i + k) (by rw [M.len]; omega)
          have hfr := M.own.frozen (i + k)
          have hyl := Hv.out.lim.get k
          have hrl := M.lim.get (i + k)
          have HS := Lib.hid (M.step hlt hlt2 (Nat.le_refl _))
          clear M
          rw [← HX.out] at HS
          obtain ⟨y, hy⟩ : ∃ x : Nat, x = vs.getD k 0 := ⟨_, rfl⟩
          obtain ⟨r, hr⟩ : ∃ x : Nat, x = R.getD (i + k) 0 := ⟨_, rfl⟩
          rw [← hy] at hcj2 hyl HS
          rw [← hr] at hcr hrl HS
          clear hy hr
          obtain ⟨p, hp⟩ : ∃ p : Nat, p = x * y := ⟨_, rfl⟩
          have hpl := mul_le hxl hyl
          rw [← hp] at hpl HS
          have hpi : (x : Int) * (y : Int) = (p : Int) := by rw [hp]; push_cast; rfl
          clear hp
          go_wp2
          have e1 : (((c + p + r) % 4294967296 : Nat) : Int) = ((c : Int) + ((p : Int) + (r : Int))) % 4294967296 := by omega
          go_roundw
          case rel => exact ⟨k + 1, (c + p + r) / 4294967296, _, by omega, by go_num, congrArg (Value.int .u64) (by omega), by omega, by rw [← e1]; exact HS.out⟩
          case measure => simp [intOf]; omega
        · have hkv : k = vs.length := by omega
          have hcr := M.own.cell (j := i + vs.length) (by rw [M.len]; omega)
          have hfr := M.own.frozen (i + vs.length)
          have hrl := M.lim.get (i + vs.length)
          rw [hkv] at M
          have HS := Lib.hid (M.leave hlt hc (Nat.le_refl _))
          obtain ⟨r, hr⟩ : ∃ x : Nat, x = R.getD (i + vs.length) 0 := ⟨_, rfl⟩
          rw [← hr] at hcr hrl
          clear hr M hkv
          go_wp2
          have e1 : (c : Int) % 4294967296 = (c : Int) := by omega
          go_roundw
          case rel => exact ⟨i + 1, _, by omega, by go_num, HS.out⟩
          case measure => simp [intOf]; omega
    · have hkl : i = us.length := by omega
      have HM := Lib.hid M
      have HN := Lib.hid (M.own.natAt M.lim (c := us.length + vs.length) (by rw [M.len]; omega) (by rw [M.len]; omega))
      rw [M.len] at HN
      have hkL : Hid (i = us.length) := hkl
      clear M hkl
      go_wp2_with (go_at_call 58; refine (trim_any _ _ _ HN.out).mono ?_; rintro e w' ⟨v3, rfl, rfl, h3⟩; have H3 := Lib.hid h3; clear h3)
      go_ret
      have hp := HM.out.prod
      rw [hkL.out, List.take_of_length_le (Nat.le_refl _)] at hp
      rw [← E1.out, ← E2.out, ← hp]
      exact ⟨_, rfl, H3.out, HM.out.below⟩
end Go.Proofs.YtoflndeonegkpaaDoor

/- natural.short, left, right. -/
namespace Go.Proofs.YtoflndeonegkpaaDoor
open Go.RowKit

theorem set_front {qs : List Nat} {k d : Nat} : (List.replicate (k + 1) 0 ++ qs).set k d = List.replicate k 0 ++ (d :: qs) := by
  rw [List.replicate_succ', List.append_assoc, List.set_append_right _ _ (by simp)]
  simp
structure ShortRel (w wr : World) (g : Nat) (us qs : List Nat) (d k r : Nat) : Prop where
  own : Own wr g (List.replicate k 0 ++ qs)
  len : k + qs.length = us.length
  lim : Lim qs
  sum : val (us.drop k) = d * val qs + r
  below : Below w.heap.size w wr
theorem ShortRel.step {w wr : World} {g : Nat} {us qs : List Nat} {d k r : Nat} (h : ShortRel w wr g us qs d (k + 1) r) (hu : Lim us) (hr : r < d) (hk : k < us.length) (hg : w.heap.size ≤ g) :
    ShortRel w (wr.setCell ⟨g, k, none⟩ (.int .u32 (((r * 4294967296 + us.getD k 0) / d : Nat) : Int))) g us ((r * 4294967296 + us.getD k 0) / d :: qs) d k ((r * 4294967296 + us.getD k 0) % d) := by
  have hx := hu.get k
  have hq : (r * 4294967296 + us.getD k 0) / d < 4294967296 := by
    apply Nat.div_lt_of_lt_mul
    have : (r + 1) * 4294967296 ≤ d * 4294967296 := Nat.mul_le_mul_right _ hr
    omega
  refine ⟨?_, by rw [List.length_cons]; have := h.len; omega, Lim.cons hq h.lim, ?_, h.below.setCell hg _⟩
  · rw [← set_front]; exact h.own.set _ _
  · rw [short_step hk h.sum]; rfl
theorem or_add {a x s : Nat} (hx : x < 2 ^ s) : a * 2 ^ s ||| x = a * 2 ^ s + x := by
  rw [← Nat.shiftLeft_eq, ← Nat.shiftLeft_add_eq_or_of_lt hx]
theorem or_u64 {a x : Nat} (hx : x < 4294967296) (ha : a < 4294967296) : bits .or .u64 ((a : Int) * 4294967296) (x : Int) = ((a * 4294967296 + x : Nat) : Int) := by
  have h := u64_or_nat (a * 4294967296) x (by omega) (by omega)
  rw [show a * 4294967296 ||| x = a * 4294967296 + x from or_add (s := 32) hx] at h
  have e : ((a * 4294967296 : Nat) : Int) = (a : Int) * 4294967296 := by omega
  rw [← e]; exact h
theorem quo_word {t d : Nat} (h : t / d < 4294967296) : IntKind.u64.wrap ((t : Int) / d) % 4294967296 = ((t / d : Nat) : Int) := by
  rw [← Int.natCast_ediv, IntKind.wrap_u64]
  generalize t / d = q at *
  omega

/-- A number and a word. -/
def GivesNatW (w : World) (xs : List Nat) (r : Nat) (e : Ending) (w' : World) : Prop :=
  ∃ v, e = .returned (.tuple #[v, .int .u32 r]) ∧ OwnNat w' v xs ∧ Below w.heap.size w w'

set_option maxHeartbeats 1000000 in
theorem short_any (va : Value) (us : List Nat) (d : Nat) (w : World) (ha : NatAt w va us) (hul : us.length ≤ 1000000) (hd : 0 < d) (hdl : d < 4294967296) : Calls Tryd.prog 60 #[va, .int .u32 d] w (GivesNatW w (limbs (val us / d)) (val us % d)) := by
  have Hu := Lib.hid ha
  obtain ⟨A, c, rfl, g1, g2⟩ := ha.form
  clear ha
  go_enter Tryd.func60, Tryd.ntmps60
  go_wp2_with (at_make; refine wpList_make rfl _ Tryd.undN _ _ rfl _ _ _ _ us.length us.length rfl rfl rfl rfl (Nat.le_refl _) (by omega) ?_; intro w1 HO hb1 hz1; have HZ := Lib.hid hz1; clear hz1)
  go_loopw [7, 8] (fun sr si wr => ∃ (k r : Nat) (qs : List Nat), k ≤ us.length ∧ si = .int .i64 ((k : Int) - 1) ∧ sr = .int .u64 r ∧ r < d ∧ ShortRel w wr w.heap.size us qs d k r) (fun _ si _ => (intOf si + 1).toNat)
  case atStart => exact ⟨us.length, 0, [], Nat.le_refl _, rfl, rfl, hd, by rw [List.append_nil]; exact HO.out, by simp, lim_nil, by simp [val], hb1⟩
  case round =>
    obtain ⟨k, r, qs, hk, rfl, rfl, hr, M⟩ := hrel
    rcases Nat.eq_zero_or_pos k with hk0 | hk0
    · subst hk0
      have HM := Lib.hid M
      have hl := M.len
      rw [Nat.zero_add] at hl
      have hO := M.own
      rw [List.replicate_zero, List.nil_append] at hO
      have HOW := Lib.hid hO
      have HN := Lib.hid (hO.natAt M.lim (c := us.length) (by omega) (by omega))
      have HL := Lib.hid hl
      have hq1 : qs.length ≤ us.length := by omega
      have htr := trim_form (some ⟨w.heap.size, 0, none⟩) us.length qs wr HN.out
      rw [hl] at htr
      have HTR := Lib.hid htr
      clear M hl hO htr
      go_wp2_with (go_at_call 58; refine HTR.out.mono ?_; rintro e w' ⟨rfl, rfl⟩)
      go_ret2
      have hs := HM.out.sum
      rw [List.drop_zero] at hs
      have e1 : val us / d = val qs := by rw [hs, Nat.mul_add_div hd, Nat.div_eq_of_lt hr]; omega
      have e2 : val us % d = r := by rw [hs, Nat.mul_add_mod, Nat.mod_eq_of_lt hr]
      rw [e1, e2]
      have hle := limbs_val_length HM.out.lim
      have htk := trimL_take qs
      rw [trimL_eq HM.out.lim] at htk
      exact ⟨_, rfl, ⟨_, qs, _, rfl, by have := HL.out; omega, by have := HL.out; omega, HOW.out, HM.out.lim, hle, htk.symm⟩, HM.out.below⟩
    · obtain ⟨j, rfl⟩ : ∃ j, k = j + 1 := ⟨k - 1, by omega⟩
      rw [show ((j + 1 : Nat) : Int) - 1 = (j : Int) from by omega]
      obtain ⟨b, o, rfl, hb, hc⟩ := Hu.out.at_ (by omega)
      have hcj : wr.cell? ⟨b, o + j, none⟩ = some (.int .u32 (us.getD j 0 : Nat)) := (M.below.cell hb).trans (hc j (by omega))
      clear hc
      obtain ⟨old, hold⟩ : ∃ u, wr.cell? ⟨w.heap.size, j, none⟩ = some u := ⟨_, M.own.cell (by rw [List.length_append, List.length_replicate]; omega)⟩
      have hfr := M.own.frozen j
      have hxl := Hu.out.lim.get j
      have HS := Lib.hid (M.step Hu.out.lim hr (by omega) (Nat.le_refl _))
      clear M
      obtain ⟨x, hx⟩ : ∃ x : Nat, x = us.getD j 0 := ⟨_, rfl⟩
      rw [← hx] at hcj hxl HS
      clear hx
      have hj1 : j < us.length := by omega
      obtain ⟨t, ht⟩ : ∃ t : Nat, t = r * 4294967296 + x := ⟨_, rfl⟩
      have hor := or_u64 (a := r) hxl (by omega)
      have htl : t < 18446744073709551616 := by omega
      rw [← ht] at hor HS
      clear ht
      go_wp2
      have e1 := quo_word (t := t) (d := d) HS.out.lim.head
      go_roundw
      case rel => exact ⟨j, t % d, _, by omega, rfl, congrArg (Value.int .u64) (Int.natCast_emod ..).symm, Nat.mod_lt _ hd, by rw [e1]; exact HS.out⟩
      case measure => simp [intOf]
end Go.Proofs.YtoflndeonegkpaaDoor

/- natural.left, right. -/
namespace Go.Proofs.YtoflndeonegkpaaDoor
open Go.RowKit

theorem pow_split {s : Nat} (h : s < 32) : 2 ^ s * 2 ^ (32 - s) = 4294967296 := by
  rw [← Nat.pow_add, show s + (32 - s) = 32 by omega]
theorem lo_mul {p q x : Nat} (hp : p * q = 4294967296) : p * x % 4294967296 = p * (x % q) := by rw [← hp, Nat.mul_mod_mul_left]
theorem lo_mul' {p q x : Nat} (hp : p * q = 4294967296) : p * x % 4294967296 = x % q * p := by rw [lo_mul hp, Nat.mul_comm]
theorem lo_le {p q x t : Nat} (hp : p * q = 4294967296) (ht : t < p) : t + p * x % 4294967296 < 4294967296 := by
  rw [lo_mul hp]
  have hq : 0 < q := by
    rcases Nat.eq_zero_or_pos q with h | h
    · subst h; simp at hp
    · exact h
  have h1 : p * (x % q + 1) ≤ p * q := Nat.mul_le_mul_left _ (Nat.mod_lt _ hq)
  rw [Nat.mul_add] at h1
  omega
theorem hi_lt {p x : Nat} (hx : x < 4294967296) (hp0 : 0 < p) : p * x / 4294967296 < p := by
  apply Nat.div_lt_of_lt_mul
  rw [Nat.mul_comm 4294967296]
  exact Nat.mul_lt_mul_of_pos_left hx hp0
theorem set_left {rs : List Nat} {t n k a b : Nat} (hr : rs.length = k) (hk : k < n) :
    ((rs ++ t :: List.replicate (n - k) 0).set k a).set (k + 1) b = (rs ++ [a]) ++ b :: List.replicate (n - (k + 1)) 0 := by
  obtain ⟨m, hm⟩ : ∃ m, n - k = m + 1 := ⟨n - k - 1, by omega⟩
  rw [List.set_append_right _ _ (by omega), hr, Nat.sub_self, List.set_cons_zero, List.set_append_right _ _ (by omega), hr, show k + 1 - k = 0 + 1 by omega, List.set_cons_succ, hm, List.replicate_succ, List.set_cons_zero, show n - (k + 1) = m by omega]
  simp
structure LeftRel (w wr : World) (g : Nat) (us rs : List Nat) (s k t : Nat) : Prop where
  own : Own wr g (rs ++ t :: List.replicate (us.length - k) 0)
  len : rs.length = k
  lim : Lim rs
  low : t < 2 ^ s
  sum : val rs + 4294967296 ^ k * t = 2 ^ s * val (us.take k)
  below : Below w.heap.size w wr
theorem LeftRel.step {w wr : World} {g : Nat} {us rs : List Nat} {s k t : Nat} (h : LeftRel w wr g us rs s k t) (hu : Lim us) (hs : s < 32) (hk : k < us.length) (hg : w.heap.size ≤ g) :
    LeftRel w ((wr.setCell ⟨g, k, none⟩ (.int .u32 ((t + 2 ^ s * us.getD k 0 % 4294967296 : Nat) : Int))).setCell ⟨g, k + 1, none⟩ (.int .u32 ((2 ^ s * us.getD k 0 / 4294967296 : Nat) : Int))) g us (rs ++ [t + 2 ^ s * us.getD k 0 % 4294967296]) s (k + 1) (2 ^ s * us.getD k 0 / 4294967296) := by
  refine ⟨?_, by simp [h.len], h.lim.append (Lim.cons (lo_le (pow_split hs) h.low) lim_nil), hi_lt (hu.get k) (Nat.pow_pos (by omega)), ?_, (h.below.setCell hg _).setCell hg _⟩
  · rw [← set_left (t := t) h.len hk]; exact (h.own.set _ _).set _ _
  · rw [val_snoc, h.len]; exact left_step (pow_split hs) h.sum
theorem shl_eq {x : Nat} (s : Nat) : (x : Int) * 2 ^ s = ((2 ^ s * x : Nat) : Int) := by
  rw [Nat.mul_comm]; push_cast; rfl
theorem shl_le {x s : Nat} (hx : x < 4294967296) (hs : s < 32) : 2 ^ s * x ≤ 9223372034707292160 := by
  have h2s : 2 ^ s ≤ 2 ^ 31 := Nat.pow_le_pow_right (by omega) (by omega)
  have h : 2 ^ s * x ≤ 2147483648 * 4294967295 := Nat.mul_le_mul h2s (by omega)
  omega
theorem or_left {t x s : Nat} (hs : s < 32) (ht : t < 2 ^ s) : bits .or .u32 (t : Int) (((2 ^ s * x : Nat) : Int) % 4294967296) = ((t + 2 ^ s * x % 4294967296 : Nat) : Int) := by
  have h1 := lo_le (x := x) (pow_split hs) ht
  have e0 : ((2 ^ s * x : Nat) : Int) % 4294967296 = ((2 ^ s * x % 4294967296 : Nat) : Int) := by omega
  rw [e0, u32_or_nat t (2 ^ s * x % 4294967296) (by omega) (by omega), lo_mul' (pow_split hs), Nat.or_comm, or_add ht, Nat.add_comm]
/-- left's result: a row of its own, one limb longer, with the value of us shifted. -/
def GivesLeft (w : World) (us : List Nat) (s : Nat) (e : Ending) (w' : World) : Prop :=
  ∃ (g : Nat) (R : List Nat), e = .returned (.slice (some ⟨g, 0, none⟩) (us.length + 1) (us.length + 1)) ∧ Own w' g R ∧ w.heap.size ≤ g ∧ R.length = us.length + 1 ∧ Lim R ∧ val R = 2 ^ s * val us ∧ R.getD us.length 0 < 2 ^ s ∧ Below w.heap.size w w'

set_option maxHeartbeats 1000000 in
theorem left_any (va : Value) (us : List Nat) (s : Nat) (w : World) (ha : NatAt w va us) (hul : us.length ≤ 1000000) (hs : s < 32) : Calls Tryd.prog 62 #[va, .int .i64 s] w (GivesLeft w us s) := by
  have Hu := Lib.hid ha
  obtain ⟨A, c, rfl, g1, g2⟩ := ha.form
  clear ha
  go_enter Tryd.func62, Tryd.ntmps62
  go_wp2_with (at_make; refine wpList_make rfl _ Tryd.undN _ _ rfl _ _ _ _ (us.length + 1) (us.length + 1) rfl rfl (by omega) (by omega) (Nat.le_refl _) (by omega) ?_; intro w1 HO hb1 hz1; have HZ := Lib.hid hz1; clear hz1)
  go_loopw [15] (fun si wr => ∃ (k t : Nat) (rs : List Nat), k ≤ us.length ∧ si = .int .i64 k ∧ LeftRel w wr w.heap.size us rs s k t) (fun si _ => us.length - (intOf si).toNat)
  case atStart => exact ⟨0, 0, [], Nat.zero_le _, rfl, HO.out, rfl, lim_nil, Nat.pow_pos (by omega), by simp [val], hb1⟩
  case round =>
    obtain ⟨k, t, rs, hk, rfl, M⟩ := hrel
    by_cases hlt : k < us.length
    · obtain ⟨b, o, rfl, hb, hc⟩ := Hu.out.at_ (by omega)
      have hcj : wr.cell? ⟨b, o + k, none⟩ = some (.int .u32 (us.getD k 0 : Nat)) := (M.below.cell hb).trans (hc k (by omega))
      clear hc
      have hx := Hu.out.lim.get k
      have hcr := M.own.cell (j := k) (by rw [List.length_append, List.length_cons, M.len]; omega)
      rw [List.getD_eq_getElem?_getD, List.getElem?_append_right (by rw [M.len]; omega), M.len, Nat.sub_self, List.getElem?_cons_zero, Option.getD_some] at hcr
      obtain ⟨old2, hold2⟩ : ∃ u, wr.cell? ⟨w.heap.size, k + 1, none⟩ = some u := ⟨_, M.own.cell (by rw [List.length_append, List.length_cons, M.len, List.length_replicate]; omega)⟩
      have hfr := M.own.frozen k
      have hfr2 := M.own.frozen (k + 1)
      have HS := Lib.hid (M.step Hu.out.lim hs hlt (Nat.le_refl _))
      have hor := or_left (x := us.getD k 0) hs M.low
      have hsh := shl_eq (x := us.getD k 0) s
      have hPl := shl_le hx hs
      clear M
      obtain ⟨x, hxx⟩ : ∃ x : Nat, x = us.getD k 0 := ⟨_, rfl⟩
      rw [← hxx] at hcj hx HS hor hsh hPl
      clear hxx
      obtain ⟨P, hP⟩ : ∃ P : Nat, P = 2 ^ s * x := ⟨_, rfl⟩
      rw [← hP] at HS hor hsh hPl
      clear hP
      obtain ⟨Q, hQ⟩ : ∃ Q : Nat, Q = t + P % 4294967296 := ⟨_, rfl⟩
      rw [← hQ] at HS hor
      clear hQ
      go_wp2
      go_roundw
      case rel => exact ⟨k + 1, P / 4294967296, _, by omega, by go_num, HS.out⟩
      case measure => simp [intOf]; omega
    · have hkl : k = us.length := by omega
      have HM := Lib.hid M
      have hkL : Hid (k = us.length) := hkl
      clear M hkl
      go_wp2
      go_ret
      have hO := HM.out.own
      have hl := HM.out.len
      have hs2 := HM.out.sum
      rw [hkL.out] at hl hs2
      rw [hkL.out, Nat.sub_self, List.replicate_zero] at hO
      rw [List.take_of_length_le (Nat.le_refl _)] at hs2
      have hlow := HM.out.low
      have h2s : 2 ^ s ≤ 2 ^ 31 := Nat.pow_le_pow_right (by omega) (by omega)
      refine ⟨w.heap.size, rs ++ [t], rfl, hO, Nat.le_refl _, by simp [hl], HM.out.lim.append (Lim.cons (by omega) lim_nil), by rw [val_snoc, hl]; exact hs2, ?_, HM.out.below⟩
      rw [List.getD_eq_getElem?_getD, List.getElem?_append_right (by omega), hl, Nat.sub_self]
      exact hlow
end Go.Proofs.YtoflndeonegkpaaDoor

/- natural.right. -/
namespace Go.Proofs.YtoflndeonegkpaaDoor
open Go.RowKit

structure RightRel (w wr : World) (g : Nat) (us rs : List Nat) (s k : Nat) : Prop where
  own : Own wr g (rs ++ List.replicate (us.length - k) 0)
  len : rs.length = k
  lim : Lim rs
  sum : 2 ^ s * val rs + us.getD 0 0 % 2 ^ s = val (us.take k) + 4294967296 ^ k * (us.getD k 0 % 2 ^ s)
  below : Below w.heap.size w wr
theorem RightRel.step {w wr : World} {g : Nat} {us rs : List Nat} {s k : Nat} (h : RightRel w wr g us rs s k) (hu : Lim us) (hs : s < 32) (hk : k < us.length) (hg : w.heap.size ≤ g) :
    RightRel w (wr.setCell ⟨g, k, none⟩ (.int .u32 (((us.getD k 0 + 4294967296 * us.getD (k + 1) 0) / 2 ^ s % 4294967296 : Nat) : Int))) g us (rs ++ [(us.getD k 0 + 4294967296 * us.getD (k + 1) 0) / 2 ^ s % 4294967296]) s (k + 1) :=
  ⟨by rw [← set_zeros h.len hk]; exact h.own.set _ _, by simp [h.len], h.lim.append (Lim.cons (by omega) lim_nil), right_step h.len (pow_split hs) (Nat.pow_pos (by omega)) hu h.sum, h.below.setCell hg _⟩
theorem or_right {x y : Nat} (hx : x < 4294967296) (hy : y < 4294967296) : bits .or .u64 (x : Int) ((y : Int) * 4294967296) = ((x + 4294967296 * y : Nat) : Int) := by
  have h := u64_or_nat x (y * 4294967296) (by omega) (by omega)
  rw [Nat.or_comm, show y * 4294967296 ||| x = y * 4294967296 + x from or_add (s := 32) hx] at h
  have e : ((y * 4294967296 : Nat) : Int) = (y : Int) * 4294967296 := by omega
  rw [e] at h
  rw [h]; congr 1; omega
theorem shr_eq (T s : Nat) : (T : Int) / 2 ^ s = ((T / 2 ^ s : Nat) : Int) := by rw [Int.natCast_ediv, Int.natCast_pow]; rfl

set_option maxHeartbeats 1000000 in
theorem right_any (va : Value) (us : List Nat) (s : Nat) (w : World) (ha : NatAt w va us) (hul : us.length ≤ 1000000) (hs : s < 32) : Calls Tryd.prog 64 #[va, .int .i64 s] w (GivesNat w (limbs (val us / 2 ^ s))) := by
  have Hu := Lib.hid ha
  obtain ⟨A, c, rfl, g1, g2⟩ := ha.form
  clear ha
  go_enter Tryd.func64, Tryd.ntmps64
  go_wp2_with (at_make; refine wpList_make rfl _ Tryd.undN _ _ rfl _ _ _ _ us.length us.length rfl rfl rfl rfl (Nat.le_refl _) (by omega) ?_; intro w1 HO hb1 hz1; have HZ := Lib.hid hz1; clear hz1)
  go_loopw [14] (fun si wr => ∃ (k : Nat) (rs : List Nat), k ≤ us.length ∧ si = .int .i64 k ∧ RightRel w wr w.heap.size us rs s k) (fun si _ => us.length - (intOf si).toNat)
  case atStart => exact ⟨0, [], Nat.zero_le _, rfl, HO.out, rfl, lim_nil, by simp [val], hb1⟩
  case round =>
    obtain ⟨k, rs, hk, rfl, M⟩ := hrel
    by_cases hlt : k < us.length
    · obtain ⟨b, o, rfl, hb, hc⟩ := Hu.out.at_ (by omega)
      have hcj : wr.cell? ⟨b, o + k, none⟩ = some (.int .u32 (us.getD k 0 : Nat)) := (M.below.cell hb).trans (hc k (by omega))
      have hcj2 : k + 1 < us.length → wr.cell? ⟨b, o + (k + 1), none⟩ = some (.int .u32 (us.getD (k + 1) 0 : Nat)) := fun h => (M.below.cell hb).trans (hc (k + 1) h)
      clear hc
      have hx := Hu.out.lim.get k
      have hy := Hu.out.lim.get (k + 1)
      obtain ⟨old, hold⟩ : ∃ u, wr.cell? ⟨w.heap.size, k, none⟩ = some u := ⟨_, M.own.cell (by rw [List.length_append, List.length_replicate, M.len]; omega)⟩
      have hfr := M.own.frozen k
      have HS := Lib.hid (M.step Hu.out.lim hs hlt (Nat.le_refl _))
      clear M
      obtain ⟨x, hxx⟩ : ∃ x : Nat, x = us.getD k 0 := ⟨_, rfl⟩
      rw [← hxx] at hcj hx HS
      clear hxx
      by_cases hlt2 : k + 1 < us.length
      · have hcj3 := hcj2 hlt2
        clear hcj2
        obtain ⟨y, hyy⟩ : ∃ y : Nat, y = us.getD (k + 1) 0 := ⟨_, rfl⟩
        rw [← hyy] at hcj3 hy HS
        clear hyy
        have hor := or_right hx hy
        obtain ⟨T, hT⟩ : ∃ T : Nat, T = x + 4294967296 * y := ⟨_, rfl⟩
        have hTl : T < 18446744073709551616 := by omega
        rw [← hT] at HS hor
        clear hT
        have hsh := shr_eq T s
        have hDl : T / 2 ^ s < 18446744073709551616 := Nat.lt_of_le_of_lt (Nat.div_le_self _ _) hTl
        obtain ⟨D, hD⟩ : ∃ D : Nat, D = T / 2 ^ s := ⟨_, rfl⟩
        rw [← hD] at HS hsh hDl
        clear hD
        go_wp2
        have e1 : ((D % 4294967296 : Nat) : Int) = (D : Int) % 4294967296 := by omega
        go_roundw
        case rel => exact ⟨k + 1, _, by omega, by go_num, by rw [← e1]; exact HS.out⟩
        case measure => simp [intOf]; omega
      · clear hcj2
        have hy0 : us.getD (k + 1) 0 = 0 := by rw [List.getD_eq_getElem?_getD, List.getElem?_eq_none (by omega)]; rfl
        rw [hy0] at HS
        clear hy0 hy
        simp only [Nat.mul_zero, Nat.add_zero] at HS
        have hsh := shr_eq x s
        have hDl : x / 2 ^ s < 4294967296 := Nat.lt_of_le_of_lt (Nat.div_le_self _ _) hx
        obtain ⟨D, hD⟩ : ∃ D : Nat, D = x / 2 ^ s := ⟨_, rfl⟩
        rw [← hD] at HS hsh hDl
        clear hD
        go_wp2
        have e1 : ((D % 4294967296 : Nat) : Int) = (D : Int) := by omega
        rw [e1] at HS
        go_roundw
        case rel => exact ⟨k + 1, _, by omega, by go_num, HS.out⟩
        case measure => simp [intOf]; omega
    · have hkl : k = us.length := by omega
      have HM := Lib.hid M
      have hO := M.own
      rw [hkl, Nat.sub_self, List.replicate_zero, List.append_nil] at hO
      have HN := Lib.hid (hO.natAt M.lim (c := us.length) (by rw [M.len]; omega) (by rw [M.len]; omega))
      rw [M.len, hkl] at HN
      have hkL : Hid (k = us.length) := hkl
      clear M hkl hO
      go_wp2_with (go_at_call 58; refine (trim_any _ _ _ HN.out).mono ?_; rintro e w' ⟨v3, rfl, rfl, h3⟩; have H3 := Lib.hid h3; clear h3)
      go_ret
      have hsm := HM.out.sum
      rw [hkL.out] at hsm
      rw [← right_end (Nat.pow_pos (by omega)) hsm]
      exact ⟨_, rfl, H3.out, HM.out.below⟩
end Go.Proofs.YtoflndeonegkpaaDoor
