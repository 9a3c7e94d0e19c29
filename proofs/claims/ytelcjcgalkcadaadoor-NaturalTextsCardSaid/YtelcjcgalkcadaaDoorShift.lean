/- natural.left, right. -/
import Derived.Test.YtelcjcgalkcadaaDoorShort
namespace Go.Proofs.YtelcjcgalkcadaaDoor
open Go.RowKit

theorem pow_split {s : Nat} (h : s < 32) : 2 ^ s * 2 ^ (32 - s) = 4294967296 := by
  rw [← Nat.pow_add, show s + (32 - s) = 32 by omega]
theorem lo_mul {p q x : Nat} (hp : p * q = 4294967296) : p * x % 4294967296 = p * (x % q) := by rw [← hp, Nat.mul_mod_mul_left]
theorem lo_mul' {p q x : Nat} (hp : p * q = 4294967296) : p * x % 4294967296 = x % q * p := by rw [lo_mul hp, Nat.mul_comm]
theorem lo_le {p q x t : Nat} (hp : p * q = 4294967296) (ht : t < p) : t + p * x % 4294967296 < 4294967296 := by
  rw [lo_mul hp]
  have hq : 0 < q := by
    rcases Nat.eq_zero_or_pos q with h | h
    · subst h; simp at hp
    · exact h
  have h1 : p * (x % q + 1) ≤ p * q := Nat.mul_le_mul_left _ (Nat.mod_lt _ hq)
  rw [Nat.mul_add] at h1
  omega
theorem hi_lt {p x : Nat} (hx : x < 4294967296) (hp0 : 0 < p) : p * x / 4294967296 < p := by
  apply Nat.div_lt_of_lt_mul
  rw [Nat.mul_comm 4294967296]
  exact Nat.mul_lt_mul_of_pos_left hx hp0
theorem set_left {rs : List Nat} {t n k a b : Nat} (hr : rs.length = k) (hk : k < n) :
    ((rs ++ t :: List.replicate (n - k) 0).set k a).set (k + 1) b = (rs ++ [a]) ++ b :: List.replicate (n - (k + 1)) 0 := by
  obtain ⟨m, hm⟩ : ∃ m, n - k = m + 1 := ⟨n - k - 1, by omega⟩
  rw [List.set_append_right _ _ (by omega), hr, Nat.sub_self, List.set_cons_zero, List.set_append_right _ _ (by omega), hr, show k + 1 - k = 0 + 1 by omega, List.set_cons_succ, hm, List.replicate_succ, List.set_cons_zero, show n - (k + 1) = m by omega]
  simp
structure LeftRel (w wr : World) (g : Nat) (us rs : List Nat) (s k t : Nat) : Prop where
  own : Own wr g (rs ++ t :: List.replicate (us.length - k) 0)
  len : rs.length = k
  lim : Lim rs
  low : t < 2 ^ s
  sum : val rs + 4294967296 ^ k * t = 2 ^ s * val (us.take k)
  below : Below w.heap.size w wr
theorem LeftRel.step {w wr : World} {g : Nat} {us rs : List Nat} {s k t : Nat} (h : LeftRel w wr g us rs s k t) (hu : Lim us) (hs : s < 32) (hk : k < us.length) (hg : w.heap.size ≤ g) :
    LeftRel w ((wr.setCell ⟨g, k, none⟩ (.int .u32 ((t + 2 ^ s * us.getD k 0 % 4294967296 : Nat) : Int))).setCell ⟨g, k + 1, none⟩ (.int .u32 ((2 ^ s * us.getD k 0 / 4294967296 : Nat) : Int))) g us (rs ++ [t + 2 ^ s * us.getD k 0 % 4294967296]) s (k + 1) (2 ^ s * us.getD k 0 / 4294967296) := by
  refine ⟨?_, by simp [h.len], h.lim.append (Lim.cons (lo_le (pow_split hs) h.low) lim_nil), hi_lt (hu.get k) (Nat.pow_pos (by omega)), ?_, (h.below.setCell hg _).setCell hg _⟩
  · rw [← set_left (t := t) h.len hk]; exact (h.own.set _ _).set _ _
  · rw [val_snoc, h.len]; exact left_step (pow_split hs) h.sum
theorem shl_eq {x : Nat} (s : Nat) : (x : Int) * 2 ^ s = ((2 ^ s * x : Nat) : Int) := by
  rw [Nat.mul_comm]; push_cast; rfl
theorem shl_le {x s : Nat} (hx : x < 4294967296) (hs : s < 32) : 2 ^ s * x ≤ 9223372034707292160 := by
  have h2s : 2 ^ s ≤ 2 ^ 31 := Nat.pow_le_pow_right (by omega) (by omega)
  have h : 2 ^ s * x ≤ 2147483648 * 4294967295 := Nat.mul_le_mul h2s (by omega)
  omega
theorem or_left {t x s : Nat} (hs : s < 32) (ht : t < 2 ^ s) : bits .or .u32 (t : Int) (((2 ^ s * x : Nat) : Int) % 4294967296) = ((t + 2 ^ s * x % 4294967296 : Nat) : Int) := by
  have h1 := lo_le (x := x) (pow_split hs) ht
  have e0 : ((2 ^ s * x : Nat) : Int) % 4294967296 = ((2 ^ s * x % 4294967296 : Nat) : Int) := by omega
  rw [e0, u32_or_nat t (2 ^ s * x % 4294967296) (by omega) (by omega), lo_mul' (pow_split hs), Nat.or_comm, or_add ht, Nat.add_comm]
/-- left's result: a row of its own, one limb longer, with the value of us shifted. -/
def GivesLeft (w : World) (us : List Nat) (s : Nat) (e : Ending) (w' : World) : Prop :=
  ∃ (g : Nat) (R : List Nat), e = .returned (.slice (some ⟨g, 0, none⟩) (us.length + 1) (us.length + 1)) ∧ Own w' g R ∧ w.heap.size ≤ g ∧ R.length = us.length + 1 ∧ Lim R ∧ val R = 2 ^ s * val us ∧ R.getD us.length 0 < 2 ^ s ∧ Below w.heap.size w w'

set_option maxHeartbeats 1000000 in
theorem left_any (va : Value) (us : List Nat) (s : Nat) (w : World) (ha : NatAt w va us) (hul : us.length ≤ 1000000) (hs : s < 32) : Calls Tryd.prog 44 #[va, .int .i64 s] w (GivesLeft w us s) := by
  have Hu := Lib.hid ha
  obtain ⟨A, c, rfl, g1, g2⟩ := ha.form
  clear ha
  go_enter Tryd.func44, Tryd.ntmps44
  go_wp2_with (at_make; refine wpList_make rfl _ Tryd.undN _ _ rfl _ _ _ _ (us.length + 1) (us.length + 1) rfl rfl (by omega) (by omega) (Nat.le_refl _) (by omega) ?_; intro w1 HO hb1 hz1; have HZ := Lib.hid hz1; clear hz1)
  go_loopw [15] (fun si wr => ∃ (k t : Nat) (rs : List Nat), k ≤ us.length ∧ si = .int .i64 k ∧ LeftRel w wr w.heap.size us rs s k t) (fun si _ => us.length - (intOf si).toNat)
  case atStart => exact ⟨0, 0, [], Nat.zero_le _, rfl, HO.out, rfl, lim_nil, Nat.pow_pos (by omega), by simp [val], hb1⟩
  case round =>
    obtain ⟨k, t, rs, hk, rfl, M⟩ := hrel
    by_cases hlt : k < us.length
    · obtain ⟨b, o, rfl, hb, hc⟩ := Hu.out.at_ (by omega)
      have hcj : wr.cell? ⟨b, o + k, none⟩ = some (.int .u32 (us.getD k 0 : Nat)) := (M.below.cell hb).trans (hc k (by omega))
      clear hc
      have hx := Hu.out.lim.get k
      have hcr := M.own.cell (j := k) (by rw [List.length_append, List.length_cons, M.len]; omega)
      rw [List.getD_eq_getElem?_getD, List.getElem?_append_right (by rw [M.len]; omega), M.len, Nat.sub_self, List.getElem?_cons_zero, Option.getD_some] at hcr
      obtain ⟨old2, hold2⟩ : ∃ u, wr.cell? ⟨w.heap.size, k + 1, none⟩ = some u := ⟨_, M.own.cell (by rw [List.length_append, List.length_cons, M.len, List.length_replicate]; omega)⟩
      have hfr := M.own.frozen k
      have hfr2 := M.own.frozen (k + 1)
      have HS := Lib.hid (M.step Hu.out.lim hs hlt (Nat.le_refl _))
      have hor := or_left (x := us.getD k 0) hs M.low
      have hsh := shl_eq (x := us.getD k 0) s
      have hPl := shl_le hx hs
      clear M
      obtain ⟨x, hxx⟩ : ∃ x : Nat, x = us.getD k 0 := ⟨_, rfl⟩
      rw [← hxx] at hcj hx HS hor hsh hPl
      clear hxx
      obtain ⟨P, hP⟩ : ∃ P : Nat, P = 2 ^ s * x := ⟨_, rfl⟩
      rw [← hP] at HS hor hsh hPl
      clear hP
      obtain ⟨Q, hQ⟩ : ∃ Q : Nat, Q = t + P % 4294967296 := ⟨_, rfl⟩
      rw [← hQ] at HS hor
      clear hQ
      go_wp2
      go_roundw
      case rel => exact ⟨k + 1, P / 4294967296, _, by omega, by go_num, HS.out⟩
      case measure => simp [intOf]; omega
    · have hkl : k = us.length := by omega
      have HM := Lib.hid M
      have hkL : Hid (k = us.length) := hkl
      clear M hkl
      go_wp2
      go_ret
      have hO := HM.out.own
      have hl := HM.out.len
      have hs2 := HM.out.sum
      rw [hkL.out] at hl hs2
      rw [hkL.out, Nat.sub_self, List.replicate_zero] at hO
      rw [List.take_of_length_le (Nat.le_refl _)] at hs2
      have hlow := HM.out.low
      have h2s : 2 ^ s ≤ 2 ^ 31 := Nat.pow_le_pow_right (by omega) (by omega)
      refine ⟨w.heap.size, rs ++ [t], rfl, hO, Nat.le_refl _, by simp [hl], HM.out.lim.append (Lim.cons (by omega) lim_nil), by rw [val_snoc, hl]; exact hs2, ?_, HM.out.below⟩
      rw [List.getD_eq_getElem?_getD, List.getElem?_append_right (by omega), hl, Nat.sub_self]
      exact hlow
end Go.Proofs.YtelcjcgalkcadaaDoor
