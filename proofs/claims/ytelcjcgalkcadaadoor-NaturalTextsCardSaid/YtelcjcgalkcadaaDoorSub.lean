/- natural.Sub. -/
import Derived.Test.YtelcjcgalkcadaaDoorAdd
namespace Go.Proofs.YtelcjcgalkcadaaDoor
open Go.RowKit

/-- A number and a bool. -/
def GivesNatB (w : World) (xs : List Nat) (b : Bool) (e : Ending) (w' : World) : Prop :=
  ∃ v, e = .returned (.tuple #[v, .bool b]) ∧ NatAt w' v xs ∧ Below w.heap.size w w'

structure SubRel (w wr : World) (g : Nat) (us vs : List Nat) (rs : List Nat) (k b : Nat) : Prop where
  own : Own wr g (rs ++ List.replicate (us.length - k) 0)
  len : rs.length = k
  lim : Lim rs
  sum : val rs + val (vs.take k) = val (us.take k) + 4294967296 ^ k * b
  below : Below w.heap.size w wr
theorem set_zeros {rs : List Nat} {n k d : Nat} (hr : rs.length = k) (hk : k < n) : (rs ++ List.replicate (n - k) 0).set k d = (rs ++ [d]) ++ List.replicate (n - (k + 1)) 0 := by
  rw [List.set_append_right _ _ (by omega), hr, Nat.sub_self]
  obtain ⟨m, hm⟩ : ∃ m, n - k = m + 1 := ⟨n - k - 1, by omega⟩
  rw [hm, List.replicate_succ, List.set_cons_zero, show n - (k + 1) = m by omega]
  simp
theorem SubRel.step {w wr : World} {g : Nat} {us vs rs : List Nat} {k b d c : Nat} (R : SubRel w wr g us vs rs k b) (hk : k < us.length) (hd : d + b + vs.getD k 0 = us.getD k 0 + 4294967296 * c) (hdl : d < 4294967296) (hg : w.heap.size ≤ g) :
    SubRel w (wr.setCell ⟨g, k, none⟩ (.int .u32 (d : Int))) g us vs (rs ++ [d]) (k + 1) c :=
  ⟨by rw [← set_zeros R.len hk]; exact R.own.set k d, by simp [R.len], R.lim.append (Lim.cons hdl lim_nil), sub_step R.len R.sum hd, R.below.setCell hg _⟩

theorem sub_words {b x y : Nat} (hb : b ≤ 1) (hx : x < 4294967296) (hy : y < 4294967296) : ∃ d c : Nat, IntKind.u64.wrap (IntKind.u64.wrap ((x : Int) - b) - y) / 9223372036854775808 = (c : Int) ∧
    IntKind.u64.wrap (IntKind.u64.wrap ((x : Int) - b) - y) % 4294967296 = (d : Int) ∧ c ≤ 1 ∧ d < 4294967296 ∧ d + b + y = x + 4294967296 * c := by
  rw [IntKind.wrap_u64, IntKind.wrap_u64]
  by_cases h : b + y ≤ x
  · exact ⟨x - b - y, 0, by omega, by omega, by omega, by omega, by omega⟩
  · exact ⟨x + 4294967296 - b - y, 1, by omega, by omega, by omega, by omega, by omega⟩
theorem sub_words1 {b x : Nat} (hb : b ≤ 1) (hx : x < 4294967296) : ∃ d c : Nat, IntKind.u64.wrap ((x : Int) - b) / 9223372036854775808 = (c : Int) ∧
    IntKind.u64.wrap ((x : Int) - b) % 4294967296 = (d : Int) ∧ c ≤ 1 ∧ d < 4294967296 ∧ d + b + 0 = x + 4294967296 * c := by
  rw [IntKind.wrap_u64]
  by_cases h : b ≤ x
  · exact ⟨x - b, 0, by omega, by omega, by omega, by omega, by omega⟩
  · exact ⟨x + 4294967296 - b, 1, by omega, by omega, by omega, by omega, by omega⟩
theorem cmp_below (va vb : Value) (xs ys : List Nat) (w : World) (ha : NatAt w va xs) (hb : NatAt w vb ys) : Calls Tryd.prog 20 #[va, vb] w fun e w' => e = .returned (.int .i64 (ord (val xs) (val ys))) ∧ Below w.heap.size w w' ∧ w'.heap.size ≤ w.heap.size :=
  (cmp_any va vb xs ys w ha hb).mono fun _ _ ⟨he, m, hm⟩ => by subst hm; exact ⟨he, below_drew0 w m, Nat.le_refl _⟩

set_option maxHeartbeats 1000000 in
theorem sub_any (va vb : Value) (xs ys : List Nat) (w : World) (ha : NatAt w va xs) (hb : NatAt w vb ys) (hxl : xs.length ≤ 1000000) : Calls Tryd.prog 22 #[va, vb] w (GivesNatB w (limbs (val xs - val ys)) (decide (val ys ≤ val xs))) := by
  have HA := Lib.hid ha
  have HB := Lib.hid hb
  have hl1 := limbs_val_length ha.lim
  clear ha hb
  go_enter Tryd.func22, Tryd.ntmps22
  go_wp2_with fail
  refine (trim_any _ _ _ HA.out).mono ?_
  rintro e w' ⟨v1, rfl, rfl, h1⟩
  have H1 := Lib.hid h1
  clear h1
  go_wp2_with fail
  refine (trim_any _ _ _ HB.out).mono ?_
  rintro e w' ⟨v2, rfl, rfl, h2⟩
  have h1 := H1.out
  have e1 : val (limbs (val xs)) = val xs := val_limbs _
  have e2 : val (limbs (val ys)) = val ys := val_limbs _
  have hgt := @limbs_length_mono (val xs) (val ys)
  generalize limbs (val xs) = us at *
  generalize limbs (val ys) = vs at *
  rw [← e1, ← e2] at hgt
  have E1 := Lib.hid e1
  have E2 := Lib.hid e2
  have HG := Lib.hid hgt
  have Hu := Lib.hid h1
  have Hv := Lib.hid h2
  clear H1 HA HB e1 e2 h1 h2 hgt
  go_wp2_with fail
  refine (cmp_below _ _ _ _ _ Hu.out Hv.out).mono ?_
  rintro e w0 ⟨rfl, hb0, hz0⟩
  by_cases hlt : val us < val vs
  · rw [ord_lt hlt]
    go_wp2
    go_ret2
    have hd : decide (val ys ≤ val xs) = false := by rw [← E1.out, ← E2.out]; simp; omega
    have hs : val xs - val ys = 0 := by rw [← E1.out, ← E2.out]; omega
    rw [hd, hs]
    exact ⟨_, rfl, NatAt.nil _, hb0⟩
  · have hvu : vs.length ≤ us.length := HG.out (by omega)
    have ho : (0 : Int) ≤ ord (val us) (val vs) := by unfold ord; rw [if_neg hlt]; split <;> omega
    obtain ⟨oc, hoc⟩ : ∃ oc, oc = ord (val us) (val vs) := ⟨_, rfl⟩
    rw [← hoc] at ho ⊢
    clear hoc
    have hoB : decide (oc < 0) = false := by simp; omega
    have HLT := Lib.hid hlt
    clear hlt
    obtain ⟨A, c, hv1, g1, g2⟩ := Hu.out.form
    obtain ⟨A2, c2, hv2, k1, k2⟩ := Hv.out.form
    subst hv1 hv2
    go_wp2_with (at_make; refine wpList_make rfl _ Tryd.undN _ _ rfl _ _ _ _ us.length us.length rfl rfl rfl rfl (by omega) (by omega) ?_; intro w1 HO hb1 hz1; have HZ := Lib.hid hz1; clear hz1)
    go_loopw [7, 24] (fun bo i wr => ∃ (k b : Nat) (rs : List Nat), k ≤ us.length ∧ i = .int .i64 k ∧ bo = .int .u64 b ∧ b ≤ 1 ∧ SubRel w wr w0.heap.size us vs rs k b) (fun _ i _ => us.length - (intOf i).toNat)
    case atStart => exact ⟨0, 0, [], Nat.zero_le _, rfl, rfl, by omega, HO.out, rfl, lim_nil, rfl, below_next hb0 hb1⟩
    case round =>
      obtain ⟨k, b, rs, hk, rfl, rfl, hc1, R⟩ := hrel
      have hsz := R.below.size
      by_cases hlt : k < us.length
      · obtain ⟨b0, o, rfl, hb, hc⟩ := Hu.out.at_ (by omega)
        have hcj : wr.cell? ⟨b0, o + k, none⟩ = some (.int .u32 (us.getD k 0 : Nat)) := (R.below.cell hb).trans (hc k hlt)
        clear hc
        have hxl := Hu.out.lim.get k
        have hyl := Hv.out.lim.get k
        have hst : ∃ u, wr.cell? ⟨w0.heap.size, k, none⟩ = some u := ⟨_, R.own.cell (by rw [List.length_append, List.length_replicate, R.len]; omega)⟩
        obtain ⟨old, hold⟩ := hst
        have hfr := R.own.frozen k
        have HS := Lib.hid (fun (d c : Nat) => R.step (d := d) (c := c) hlt)
        have HR := Lib.hid R
        clear R
        obtain ⟨x, hx⟩ : ∃ x : Nat, x = us.getD k 0 := ⟨_, rfl⟩
        rw [← hx] at hcj hxl HS
        clear hx
        by_cases hlt2 : k < vs.length
        · obtain ⟨b2, o2, rfl, hb2, hc2⟩ := Hv.out.at_ (by omega)
          have hcj2 : wr.cell? ⟨b2, o2 + k, none⟩ = some (.int .u32 (vs.getD k 0 : Nat)) := (HR.out.below.cell hb2).trans (hc2 k hlt2)
          clear hc2
          obtain ⟨y, hy⟩ : ∃ x : Nat, x = vs.getD k 0 := ⟨_, rfl⟩
          rw [← hy] at hcj2 hyl HS
          clear hy
          go_wp2
          obtain ⟨d, c', e1, e2, hc', hd', hsum⟩ := sub_words hc1 hxl hyl
          go_roundw
          case rel => exact ⟨k + 1, c', rs ++ [d], by omega, by go_num, congrArg (Value.int .u64) e1, hc', by rw [e2]; exact HS.out d c' hsum hd' hb0.size⟩
          case measure => simp [intOf]; omega
        · have hy : vs.getD k 0 = 0 := by rw [List.getD_eq_getElem?_getD, List.getElem?_eq_none (by omega)]; rfl
          rw [hy] at HS
          clear hy
          go_wp2
          obtain ⟨d, c', e1, e2, hc', hd', hsum⟩ := sub_words1 hc1 hxl
          go_roundw
          case rel => exact ⟨k + 1, c', rs ++ [d], by omega, by go_num, congrArg (Value.int .u64) e1, hc', by rw [e2]; exact HS.out d c' hsum hd' hb0.size⟩
          case measure => simp [intOf]; omega
      · have HR := Lib.hid R
        have hkl : k = us.length := by omega
        have hO := R.own
        rw [hkl, Nat.sub_self, List.replicate_zero, List.append_nil] at hO
        have HN := Lib.hid (hO.natAt R.lim (c := us.length) (by rw [R.len]; omega) (by rw [R.len]; omega))
        rw [R.len, hkl] at HN
        have hkL : Hid (k = us.length) := hkl
        clear R hkl hO
        go_wp2_with (go_at_call 38; refine (trim_any _ _ _ HN.out).mono ?_; rintro e w' ⟨v3, rfl, rfl, h3⟩; have H3 := Lib.hid h3; clear h3)
        go_ret2
        have hsum := HR.out.sum
        rw [hkL.out, List.take_of_length_le hvu, List.take_of_length_le (Nat.le_refl _)] at hsum
        have hbz : b = 0 := by
          rcases Nat.eq_zero_or_pos b with h0 | h0
          · exact h0
          · exfalso
            have h1 := val_lt HR.out.lim
            rw [HR.out.len, hkL.out] at h1
            have h2 : 4294967296 ^ us.length * 1 ≤ 4294967296 ^ us.length * b := Nat.mul_le_mul_left _ h0
            have := HLT.out
            omega
        rw [hbz] at hsum
        have hd : decide (val ys ≤ val xs) = true := by rw [← E1.out, ← E2.out]; simp; have := HLT.out; omega
        have hs : val xs - val ys = val rs := by rw [← E1.out, ← E2.out]; omega
        rw [hd, hs]
        exact ⟨_, rfl, H3.out, HR.out.below⟩
end Go.Proofs.YtelcjcgalkcadaaDoor
