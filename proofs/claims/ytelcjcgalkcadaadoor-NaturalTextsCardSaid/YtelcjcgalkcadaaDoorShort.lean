/- natural.short, left, right. -/
import Derived.Test.YtelcjcgalkcadaaDoorMul
namespace Go.Proofs.YtelcjcgalkcadaaDoor
open Go.RowKit

theorem set_front {qs : List Nat} {k d : Nat} : (List.replicate (k + 1) 0 ++ qs).set k d = List.replicate k 0 ++ (d :: qs) := by
  rw [List.replicate_succ', List.append_assoc, List.set_append_right _ _ (by simp)]
  simp
structure ShortRel (w wr : World) (g : Nat) (us qs : List Nat) (d k r : Nat) : Prop where
  own : Own wr g (List.replicate k 0 ++ qs)
  len : k + qs.length = us.length
  lim : Lim qs
  sum : val (us.drop k) = d * val qs + r
  below : Below w.heap.size w wr
theorem ShortRel.step {w wr : World} {g : Nat} {us qs : List Nat} {d k r : Nat} (h : ShortRel w wr g us qs d (k + 1) r) (hu : Lim us) (hr : r < d) (hk : k < us.length) (hg : w.heap.size ≤ g) :
    ShortRel w (wr.setCell ⟨g, k, none⟩ (.int .u32 (((r * 4294967296 + us.getD k 0) / d : Nat) : Int))) g us ((r * 4294967296 + us.getD k 0) / d :: qs) d k ((r * 4294967296 + us.getD k 0) % d) := by
  have hx := hu.get k
  have hq : (r * 4294967296 + us.getD k 0) / d < 4294967296 := by
    apply Nat.div_lt_of_lt_mul
    have : (r + 1) * 4294967296 ≤ d * 4294967296 := Nat.mul_le_mul_right _ hr
    omega
  refine ⟨?_, by rw [List.length_cons]; have := h.len; omega, Lim.cons hq h.lim, ?_, h.below.setCell hg _⟩
  · rw [← set_front]; exact h.own.set _ _
  · rw [short_step hk h.sum]; rfl
theorem or_add {a x s : Nat} (hx : x < 2 ^ s) : a * 2 ^ s ||| x = a * 2 ^ s + x := by
  rw [← Nat.shiftLeft_eq, ← Nat.shiftLeft_add_eq_or_of_lt hx]
theorem or_u64 {a x : Nat} (hx : x < 4294967296) (ha : a < 4294967296) : bits .or .u64 ((a : Int) * 4294967296) (x : Int) = ((a * 4294967296 + x : Nat) : Int) := by
  have h := u64_or_nat (a * 4294967296) x (by omega) (by omega)
  rw [show a * 4294967296 ||| x = a * 4294967296 + x from or_add (s := 32) hx] at h
  have e : ((a * 4294967296 : Nat) : Int) = (a : Int) * 4294967296 := by omega
  rw [← e]; exact h
theorem quo_word {t d : Nat} (h : t / d < 4294967296) : IntKind.u64.wrap ((t : Int) / d) % 4294967296 = ((t / d : Nat) : Int) := by
  rw [← Int.natCast_ediv, IntKind.wrap_u64]
  generalize t / d = q at *
  omega

/-- A number and a word. -/
def GivesNatW (w : World) (xs : List Nat) (r : Nat) (e : Ending) (w' : World) : Prop :=
  ∃ v, e = .returned (.tuple #[v, .int .u32 r]) ∧ OwnNat w' v xs ∧ Below w.heap.size w w'

set_option maxHeartbeats 1000000 in
theorem short_any (va : Value) (us : List Nat) (d : Nat) (w : World) (ha : NatAt w va us) (hul : us.length ≤ 1000000) (hd : 0 < d) (hdl : d < 4294967296) : Calls Tryd.prog 42 #[va, .int .u32 d] w (GivesNatW w (limbs (val us / d)) (val us % d)) := by
  have Hu := Lib.hid ha
  obtain ⟨A, c, rfl, g1, g2⟩ := ha.form
  clear ha
  go_enter Tryd.func42, Tryd.ntmps42
  go_wp2_with (at_make; refine wpList_make rfl _ Tryd.undN _ _ rfl _ _ _ _ us.length us.length rfl rfl rfl rfl (Nat.le_refl _) (by omega) ?_; intro w1 HO hb1 hz1; have HZ := Lib.hid hz1; clear hz1)
  go_loopw [7, 8] (fun sr si wr => ∃ (k r : Nat) (qs : List Nat), k ≤ us.length ∧ si = .int .i64 ((k : Int) - 1) ∧ sr = .int .u64 r ∧ r < d ∧ ShortRel w wr w.heap.size us qs d k r) (fun _ si _ => (intOf si + 1).toNat)
  case atStart => exact ⟨us.length, 0, [], Nat.le_refl _, rfl, rfl, hd, by rw [List.append_nil]; exact HO.out, by simp, lim_nil, by simp [val], hb1⟩
  case round =>
    obtain ⟨k, r, qs, hk, rfl, rfl, hr, M⟩ := hrel
    rcases Nat.eq_zero_or_pos k with hk0 | hk0
    · subst hk0
      have HM := Lib.hid M
      have hl := M.len
      rw [Nat.zero_add] at hl
      have hO := M.own
      rw [List.replicate_zero, List.nil_append] at hO
      have HOW := Lib.hid hO
      have HN := Lib.hid (hO.natAt M.lim (c := us.length) (by omega) (by omega))
      have HL := Lib.hid hl
      have hq1 : qs.length ≤ us.length := by omega
      have htr := trim_form (some ⟨w.heap.size, 0, none⟩) us.length qs wr HN.out
      rw [hl] at htr
      have HTR := Lib.hid htr
      clear M hl hO htr
      go_wp2_with (go_at_call 38; refine HTR.out.mono ?_; rintro e w' ⟨rfl, rfl⟩)
      go_ret2
      have hs := HM.out.sum
      rw [List.drop_zero] at hs
      have e1 : val us / d = val qs := by rw [hs, Nat.mul_add_div hd, Nat.div_eq_of_lt hr]; omega
      have e2 : val us % d = r := by rw [hs, Nat.mul_add_mod, Nat.mod_eq_of_lt hr]
      rw [e1, e2]
      have hle := limbs_val_length HM.out.lim
      have htk := trimL_take qs
      rw [trimL_eq HM.out.lim] at htk
      exact ⟨_, rfl, ⟨_, qs, _, rfl, by have := HL.out; omega, by have := HL.out; omega, HOW.out, HM.out.lim, hle, htk.symm⟩, HM.out.below⟩
    · obtain ⟨j, rfl⟩ : ∃ j, k = j + 1 := ⟨k - 1, by omega⟩
      rw [show ((j + 1 : Nat) : Int) - 1 = (j : Int) from by omega]
      obtain ⟨b, o, rfl, hb, hc⟩ := Hu.out.at_ (by omega)
      have hcj : wr.cell? ⟨b, o + j, none⟩ = some (.int .u32 (us.getD j 0 : Nat)) := (M.below.cell hb).trans (hc j (by omega))
      clear hc
      obtain ⟨old, hold⟩ : ∃ u, wr.cell? ⟨w.heap.size, j, none⟩ = some u := ⟨_, M.own.cell (by rw [List.length_append, List.length_replicate]; omega)⟩
      have hfr := M.own.frozen j
      have hxl := Hu.out.lim.get j
      have HS := Lib.hid (M.step Hu.out.lim hr (by omega) (Nat.le_refl _))
      clear M
      obtain ⟨x, hx⟩ : ∃ x : Nat, x = us.getD j 0 := ⟨_, rfl⟩
      rw [← hx] at hcj hxl HS
      clear hx
      have hj1 : j < us.length := by omega
      obtain ⟨t, ht⟩ : ∃ t : Nat, t = r * 4294967296 + x := ⟨_, rfl⟩
      have hor := or_u64 (a := r) hxl (by omega)
      have htl : t < 18446744073709551616 := by omega
      rw [← ht] at hor HS
      clear ht
      go_wp2
      have e1 := quo_word (t := t) (d := d) HS.out.lim.head
      go_roundw
      case rel => exact ⟨j, t % d, _, by omega, rfl, congrArg (Value.int .u64) (Int.natCast_emod ..).symm, Nat.mod_lt _ hd, by rw [e1]; exact HS.out⟩
      case measure => simp [intOf]
end Go.Proofs.YtelcjcgalkcadaaDoor
