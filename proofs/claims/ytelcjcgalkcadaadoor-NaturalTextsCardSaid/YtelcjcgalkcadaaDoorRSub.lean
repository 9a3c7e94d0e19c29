/- garmentref01.Sub. -/
import Derived.Test.YtelcjcgalkcadaaDoorRAdd
import Derived.Test.YtelcjcgalkcadaaDoorSub
namespace Go.Proofs.YtelcjcgalkcadaaDoor
open Go.RowKit

/-- What holds at the head of each round. -/
structure RSubRel (w wr : World) (us vs : List Nat) (r : Value) (rs : List Nat) (k b : Nat) : Prop where
  row : Row wr w.heap.size r rs
  len : rs.length = k
  lim : Lim rs
  sum : val rs + val (vs.take k) = val (us.take k) + 4294967296 ^ k * b
  below : Below w.heap.size w wr
theorem RSubRel.step {w wr : World} {us vs rs : List Nat} {r : Value} {k b d c : Nat} (R : RSubRel w wr us vs r rs k b) (hd : d + b + vs.getD k 0 = us.getD k 0 + 4294967296 * c) (hdl : d < 4294967296) (v' : Value) (w2 : World)
    (hr : Row w2 w.heap.size v' (rs ++ [d])) (hb : Below w.heap.size wr w2) : RSubRel w w2 us vs v' (rs ++ [d]) (k + 1) c :=
  ⟨hr, by simp [R.len], R.lim.append (Lim.cons hdl lim_nil), sub_step R.len R.sum hd, R.below.trans hb⟩
theorem RSubRel.fin {w wr : World} {us vs rs : List Nat} {r : Value} {k b : Nat} (R : RSubRel w wr us vs r rs k b) (hu : us.length ≤ k) (hv : vs.length ≤ k) (hle : val vs ≤ val us) : val rs = val us - val vs := by
  have h := R.sum
  have h2 := val_lt R.lim
  rw [List.take_of_length_le hu, List.take_of_length_le hv] at h
  rw [R.len] at h2
  rcases Nat.eq_zero_or_pos b with e | e
  · subst e; omega
  · have : 4294967296 ^ k * 1 ≤ 4294967296 ^ k * b := Nat.mul_le_mul_left _ e
    omega
theorem rsub_words {b x y : Nat} (hb : b ≤ 1) (_hx : x < 4294967296) (hy : y < 4294967296) : ∃ d c t : Nat, (4294967296 : Int) + x - y - b = (t : Int) ∧ t < 18446744073709551616 ∧ t / 4294967296 ≤ 1 ∧ t % 4294967296 = d ∧ 1 - t / 4294967296 = c ∧ c ≤ 1 ∧ d < 4294967296 ∧ d + b + y = x + 4294967296 * c := by
  exact ⟨_, _, 4294967296 + x - y - b, by omega, by omega, by omega, rfl, rfl, by omega, by omega, by omega⟩
theorem rcmp_below (va vb : Value) (xs ys : List Nat) (w : World) (ha : NatAt w va xs) (hb : NatAt w vb ys) : Calls Tryd.prog 21 #[va, vb] w fun e w' => e = .returned (.int .i64 (ord (val xs) (val ys))) ∧ Below w.heap.size w w' ∧ w'.heap.size ≤ w.heap.size :=
  (rcmp_any va vb xs ys w ha hb).mono fun _ _ ⟨he, m, hm⟩ => by subst hm; exact ⟨he, below_drew0 w m, Nat.le_refl _⟩

/-- A row that the call has made, and a bool. -/
def GivesRowB (w : World) (xs : List Nat) (b : Bool) (e : Ending) (w' : World) : Prop :=
  ∃ v, e = .returned (.tuple #[v, .bool b]) ∧ Row w' w.heap.size v xs ∧ Below w.heap.size w w'
set_option maxHeartbeats 1000000 in
theorem rsub_row (va vb : Value) (us vs : List Nat) (w : World) (ha : NatAt w va us) (hb : NatAt w vb vs) (hul : us.length ≤ 1000000) (hvl : vs.length ≤ 1000000) : Calls Tryd.prog 23 #[va, vb] w (GivesRowB w (limbs (val us - val vs)) (decide (val vs ≤ val us))) := by
  have HA := Lib.hid ha
  have HB := Lib.hid hb
  obtain ⟨A, c, rfl, g1, g2⟩ := ha.form
  obtain ⟨A2, c2, rfl, k1, k2⟩ := hb.form
  clear ha hb
  go_enter Tryd.func23, Tryd.ntmps23
  go_wp2_with fail
  refine (rcmp_below _ _ _ _ _ HA.out HB.out).mono ?_
  rintro e w0 ⟨rfl, hb0, hz0⟩
  have HB0 := Lib.hid hb0
  clear hb0 hz0
  by_cases hvu : val us < val vs
  · rw [ord_lt hvu]
    go_wp2
    go_ret2
    have hd : decide (val vs ≤ val us) = false := by simp; omega
    have hs : val us - val vs = 0 := by omega
    rw [hd, hs]
    exact ⟨_, rfl, Row.nil _ _, HB0.out⟩
  · obtain ⟨oc, hoc, ho⟩ : ∃ oc : Int, ord (val us) (val vs) = oc ∧ 0 ≤ oc := ⟨_, rfl, by unfold ord; rw [if_neg hvu]; split <;> omega⟩
    rw [hoc]
    have HV := Lib.hid (Nat.le_of_not_lt hvu)
    clear hoc hvu
    by_cases hmx : us.length < vs.length
    · have hM : us.length ≤ vs.length ∧ vs.length ≤ vs.length := by omega
      go_wp2
      go_loopw [6, 7, 8] (fun r cy i wr => ∃ (k b : Nat) (rs : List Nat), k ≤ vs.length ∧ i = .int .i64 k ∧ cy = .int .u64 b ∧ b ≤ 1 ∧ RSubRel w wr us vs r rs k b) (fun _ _ i _ => vs.length - (intOf i).toNat)
      case atStart => exact ⟨0, 0, [], by omega, rfl, rfl, by omega, Row.nil _ _, rfl, lim_nil, rfl, HB0.out⟩
      case round =>
        obtain ⟨k, b, rs, hk, rfl, rfl, hb1, R⟩ := hrel
        have hsz := R.below.size
        have HAr := Lib.hid (HA.out.below R.below)
        have HBr := Lib.hid (HB.out.below R.below)
        have HR := Lib.hid R
        have hrl := R.len
        clear R
        by_cases hlt : k < vs.length
        · obtain ⟨x, hx⟩ : ∃ x : Nat, x = us.getD k 0 := ⟨_, rfl⟩
          obtain ⟨y, hy⟩ : ∃ x : Nat, x = vs.getD k 0 := ⟨_, rfl⟩
          have HX := Lib.hid hx
          have HY := Lib.hid hy
          have hxl : x < 4294967296 := by rw [hx]; exact HA.out.lim.get _
          have hyl : y < 4294967296 := by rw [hy]; exact HB.out.lim.get _
          clear hx hy
          obtain ⟨d, c', t, ht, htl, htd, hd, hc, hc1, hdl, hE⟩ := rsub_words hb1 hxl hyl
          have HE := Lib.hid hE
          have HD := Lib.hid hd
          have HC := Lib.hid hc
          clear hE hd hc
          go_wp2_with fail
          refine (limb_at (by exact HAr.out) (by omega) HX.out).mono ?_
          rintro e w' ⟨rfl, rfl⟩
          go_wp2_with fail
          refine (limb_at (by exact HBr.out) (by omega) HY.out).mono ?_
          rintro e w' ⟨rfl, rfl⟩
          go_wp2_with (at_builtin; refine wpList_append1 rfl (.tmp 33) (.tmp 37) _ Tryd.undN rfl w.heap.size _ rs rfl (HR.out.row.alloc _) _ _ d rfl (by have := HD.out; omega) (cell_new1 _ _ _) (by omega) (by simp; omega) ?_; intro v' w2 HRow hb2)
          go_roundw
          case rel => exact ⟨k + 1, c', rs ++ [d], by omega, by go_num, by have := HC.out; go_num, hc1, HR.out.step (by rw [← HX.out, ← HY.out]; exact HE.out) hdl v' w2 HRow.out ((Below.refl _ _).alloc hsz _ |>.trans hb2)⟩
          case measure => simp [intOf]; omega
        · go_wp2_with fail
          refine (rnorm_row _ _ _ (by exact HR.out.row.natAt HR.out.lim) (by omega)).mono ?_
          rintro e w' ⟨v3, rfl, h3, hb3⟩
          have H3 := Lib.hid h3
          clear h3
          go_wp2
          go_ret2
          rw [decide_eq_true HV.out]
          refine ⟨_, rfl, ?_, below_next HR.out.below hb3⟩
          rw [← HR.out.fin (by omega) (by omega) HV.out]
          exact H3.out.lower HR.out.below.size
    · have hM : us.length ≤ us.length ∧ vs.length ≤ us.length := by omega
      go_wp2
      go_loopw [6, 7, 8] (fun r cy i wr => ∃ (k b : Nat) (rs : List Nat), k ≤ us.length ∧ i = .int .i64 k ∧ cy = .int .u64 b ∧ b ≤ 1 ∧ RSubRel w wr us vs r rs k b) (fun _ _ i _ => us.length - (intOf i).toNat)
      case atStart => exact ⟨0, 0, [], by omega, rfl, rfl, by omega, Row.nil _ _, rfl, lim_nil, rfl, HB0.out⟩
      case round =>
        obtain ⟨k, b, rs, hk, rfl, rfl, hb1, R⟩ := hrel
        have hsz := R.below.size
        have HAr := Lib.hid (HA.out.below R.below)
        have HBr := Lib.hid (HB.out.below R.below)
        have HR := Lib.hid R
        have hrl := R.len
        clear R
        by_cases hlt : k < us.length
        · obtain ⟨x, hx⟩ : ∃ x : Nat, x = us.getD k 0 := ⟨_, rfl⟩
          obtain ⟨y, hy⟩ : ∃ x : Nat, x = vs.getD k 0 := ⟨_, rfl⟩
          have HX := Lib.hid hx
          have HY := Lib.hid hy
          have hxl : x < 4294967296 := by rw [hx]; exact HA.out.lim.get _
          have hyl : y < 4294967296 := by rw [hy]; exact HB.out.lim.get _
          clear hx hy
          obtain ⟨d, c', t, ht, htl, htd, hd, hc, hc1, hdl, hE⟩ := rsub_words hb1 hxl hyl
          have HE := Lib.hid hE
          have HD := Lib.hid hd
          have HC := Lib.hid hc
          clear hE hd hc
          go_wp2_with fail
          refine (limb_at (by exact HAr.out) (by omega) HX.out).mono ?_
          rintro e w' ⟨rfl, rfl⟩
          go_wp2_with fail
          refine (limb_at (by exact HBr.out) (by omega) HY.out).mono ?_
          rintro e w' ⟨rfl, rfl⟩
          go_wp2_with (at_builtin; refine wpList_append1 rfl (.tmp 33) (.tmp 37) _ Tryd.undN rfl w.heap.size _ rs rfl (HR.out.row.alloc _) _ _ d rfl (by have := HD.out; omega) (cell_new1 _ _ _) (by omega) (by simp; omega) ?_; intro v' w2 HRow hb2)
          go_roundw
          case rel => exact ⟨k + 1, c', rs ++ [d], by omega, by go_num, by have := HC.out; go_num, hc1, HR.out.step (by rw [← HX.out, ← HY.out]; exact HE.out) hdl v' w2 HRow.out ((Below.refl _ _).alloc hsz _ |>.trans hb2)⟩
          case measure => simp [intOf]; omega
        · go_wp2_with fail
          refine (rnorm_row _ _ _ (by exact HR.out.row.natAt HR.out.lim) (by omega)).mono ?_
          rintro e w' ⟨v3, rfl, h3, hb3⟩
          have H3 := Lib.hid h3
          clear h3
          go_wp2
          go_ret2
          rw [decide_eq_true HV.out]
          refine ⟨_, rfl, ?_, below_next HR.out.below hb3⟩
          rw [← HR.out.fin (by omega) (by omega) HV.out]
          exact H3.out.lower HR.out.below.size
theorem rsub_any (va vb : Value) (us vs : List Nat) (w : World) (ha : NatAt w va us) (hb : NatAt w vb vs) (hul : us.length ≤ 1000000) (hvl : vs.length ≤ 1000000) : Calls Tryd.prog 23 #[va, vb] w (GivesNatB w (limbs (val us - val vs)) (decide (val vs ≤ val us))) :=
  (rsub_row va vb us vs w ha hb hul hvl).mono fun _ _ ⟨v, he, hr, hB⟩ => ⟨v, he, hr.natAt (lim_limbs _), hB⟩
end Go.Proofs.YtelcjcgalkcadaaDoor
