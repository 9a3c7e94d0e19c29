/- natural.Of, Norm, Cmp and cmp.Compare at uint32 and int. -/
import Derived.Test.YtelcjcgalkcadaaDoorTrim
import Derived.Deep.QuietTactic
import Derived.BigQuiet
namespace Go.Proofs.YtelcjcgalkcadaaDoor
open Go.RowKit

/-- -1, 0 or 1. -/
def ord (a b : Nat) : Int := if a < b then -1 else if b < a then 1 else 0
theorem ord_lt {a b : Nat} (h : a < b) : ord a b = -1 := if_pos h
theorem ord_gt {a b : Nat} (h : b < a) : ord a b = 1 := by unfold ord; rw [if_neg (by omega), if_pos h]
theorem ord_eq {a b : Nat} (h : a = b) : ord a b = 0 := by unfold ord; rw [if_neg (by omega), if_neg (by omega)]

theorem limbs_length_mono {a b : Nat} (h : b ≤ a) : (limbs b).length ≤ (limbs a).length := by
  induction a using Nat.strongRecOn generalizing b with
  | ind a ih =>
    by_cases hb : b = 0
    · subst hb; simp [limbs_zero]
    · rw [limbs_pos hb, limbs_pos (by omega : a ≠ 0), List.length_cons, List.length_cons]
      have := ih (a / 4294967296) (by omega) (b := b / 4294967296) (by omega)
      omega
theorem lt_of_length {a b : Nat} (h : (limbs a).length < (limbs b).length) : a < b := by
  rcases Nat.lt_or_ge a b with h1 | h1
  · exact h1
  · have := limbs_length_mono h1; omega
theorem lt_of_limb {xs ys : List Nat} {k : Nat} (hx : Lim xs) (hl : xs.length = ys.length) (hk : k < xs.length) (hd : xs.drop (k + 1) = ys.drop (k + 1)) (h : xs.getD k 0 < ys.getD k 0) : val xs < val ys := by
  rw [val_take_drop xs (k + 1) (by omega), val_take_drop ys (k + 1) (by omega), hd, val_take_next, val_take_next]
  have h1 := val_lt (hx.take k)
  rw [List.length_take, Nat.min_eq_left (by omega)] at h1
  have h2 : 4294967296 ^ k * (xs.getD k 0 + 1) ≤ 4294967296 ^ k * ys.getD k 0 := Nat.mul_le_mul_left _ h
  rw [Nat.mul_add] at h2
  omega
theorem drop_step {xs ys : List Nat} {k : Nat} (hl : xs.length = ys.length) (hk : k < xs.length) (hd : xs.drop (k + 1) = ys.drop (k + 1)) (h : xs.getD k 0 = ys.getD k 0) : xs.drop k = ys.drop k := by
  rw [List.drop_eq_getElem_cons hk, List.drop_eq_getElem_cons (by omega : k < ys.length), hd]
  rw [List.getD_eq_getElem?_getD, List.getD_eq_getElem?_getD, List.getElem?_eq_getElem hk, List.getElem?_eq_getElem (by omega : k < ys.length), Option.getD_some, Option.getD_some] at h
  rw [h]

/-- A function's result: the value v; the world is as it was but for draws. -/
def Says (w : World) (v : Value) (e : Ending) (w' : World) : Prop := e = .returned v ∧ ∃ m, w' = w.drewN m
theorem Says.quiet {P : Program} {f : FuncId} {args : Array Value} {w : World} {n : Nat} {v : Value} (h : Calls P f args (w.drewN n) (Says (w.drewN n) v)) :
    Calls P f args (w.drewN n) fun e w'' => e = .returned v ∧ ∃ m, w'' = w.drewN m := Calls.quiet_of h
/-- The same behind a quiet region. -/
theorem Says.quiet2 {P : Program} {f : FuncId} {args : Array Value} {w : World} {a n : Nat} {v : Value} (h : Calls P f args (w.drewN (a + n)) (Says (w.drewN (a + n)) v)) :
    Calls P f args (w.drewN (a + n)) fun e w'' => e = .returned v ∧ ∃ m, w'' = w.drewN (a + m) :=
  h.mono fun _ _ ⟨he, m, hm⟩ => ⟨he, n + m, by rw [hm, World.drewN_drewN, Nat.add_assoc]⟩

theorem two_limbs (n : Nat) : val [n % 4294967296, n / 4294967296] = n := by simp only [val]; omega

set_option maxHeartbeats 400000 in
theorem of_any (n : Nat) (w : World) (hn : n < 18446744073709551616) : Calls Tryd.prog 16 #[.int .u64 n] w (GivesNat w (limbs n)) := by
  go_enter Tryd.func16, Tryd.ntmps16
  go_wp2_with fail
  have hN : NatAt (w.alloc (.cells #[.int .u32 ((n : Int) % 4294967296), .int .u32 ((n : Int) / 4294967296)] 42)) (.slice (some ⟨w.heap.size, 0, none⟩) 2 2) [n % 4294967296, n / 4294967296] := by
    have ho : Own (w.alloc (.cells #[.int .u32 ((n : Int) % 4294967296), .int .u32 ((n : Int) / 4294967296)] 42)) w.heap.size [n % 4294967296, n / 4294967296] := heap_alloc_new w _
    exact ho.natAt (Lim.cons (by omega) (Lim.cons (by omega) lim_nil)) (by simp) (by simp)
  refine (trim_any _ _ _ hN).mono ?_
  rintro e w' ⟨v, rfl, rfl, h1⟩
  rw [two_limbs n] at h1
  go_wp2
  go_ret
  exact ⟨v, rfl, h1, below_alloc0 w _⟩

set_option maxHeartbeats 400000 in
theorem norm_any (v : Value) (xs : List Nat) (w : World) (h : NatAt w v xs) (hl : xs.length ≤ 1000000) : Calls Tryd.prog 18 #[v] w (GivesNat w (limbs (val xs))) := by
  have H := Lib.hid h
  have hll := limbs_val_length h.lim
  clear h
  go_enter Tryd.func18, Tryd.ntmps18
  go_wp2_with fail
  refine (trim_any _ _ _ H.out).mono ?_
  rintro e w' ⟨v1, rfl, rfl, h1⟩
  obtain ⟨ys, hys⟩ : ∃ ys, ys = limbs (val xs) := ⟨_, rfl⟩
  rw [← hys] at h1 hll
  have HY := Lib.hid hys
  clear hys
  have H1 := Lib.hid h1
  obtain ⟨A, c, rfl, g1, g2, g3, g4⟩ := h1
  clear g3 g4
  go_wp2_with (first
    | (at_make; refine wpList_make rfl _ Tryd.undN _ _ rfl _ _ _ _ ys.length ys.length rfl rfl rfl rfl (Nat.le_refl _) (by omega) ?_; intro w1 HO hb1 hz1; have HZ := Lib.hid hz1; clear hz1)
    | (refine wpList_copyN (o := ⟨some 11, _, _, _, _, _⟩) rfl (.tmp 9) (.tmp 10) _ Tryd.undN rfl w.heap.size _ _ _ _ ys rfl rfl (H1.out.below hb1) rfl HO.out (by rw [List.length_replicate]) w.heap.size w hb1 (Nat.le_refl _) ?_; intro w2 HG hb2))
  go_ret
  rw [← HY.out]
  exact ⟨_, rfl, HG.out.natAt H1.out.lim (Nat.le_refl _) (by omega), hb2⟩

set_option maxHeartbeats 400000 in
theorem compareU_any (a b : Nat) (w : World) : Calls Tryd.prog 40 #[.int .u32 a, .int .u32 b] w (Says w (.int .i64 (ord a b))) := by
  go_enter Tryd.func40, Tryd.ntmps40
  go_wp2
  · rename_i h
    go_ret
    rw [ord_lt h]; exact ⟨rfl, 0, rfl⟩
  · rename_i h
    go_ret
    rw [ord_gt h]; exact ⟨rfl, 0, rfl⟩
  · rename_i h1 h2
    go_ret
    rw [ord_eq (by omega)]; exact ⟨rfl, 0, rfl⟩
set_option maxHeartbeats 400000 in
theorem compareI_any (a b : Nat) (w : World) : Calls Tryd.prog 39 #[.int .i64 a, .int .i64 b] w (Says w (.int .i64 (ord a b))) := by
  go_enter Tryd.func39, Tryd.ntmps39
  go_wp2
  · rename_i h
    go_ret
    rw [ord_lt h]; exact ⟨rfl, 0, rfl⟩
  · rename_i h
    go_ret
    rw [ord_gt h]; exact ⟨rfl, 0, rfl⟩
  · rename_i h1 h2
    go_ret
    rw [ord_eq (by omega)]; exact ⟨rfl, 0, rfl⟩
end Go.Proofs.YtelcjcgalkcadaaDoor
