/- natural.right. -/
import Derived.Test.YtelcjcgalkcadaaDoorShift
namespace Go.Proofs.YtelcjcgalkcadaaDoor
open Go.RowKit

structure RightRel (w wr : World) (g : Nat) (us rs : List Nat) (s k : Nat) : Prop where
  own : Own wr g (rs ++ List.replicate (us.length - k) 0)
  len : rs.length = k
  lim : Lim rs
  sum : 2 ^ s * val rs + us.getD 0 0 % 2 ^ s = val (us.take k) + 4294967296 ^ k * (us.getD k 0 % 2 ^ s)
  below : Below w.heap.size w wr
theorem RightRel.step {w wr : World} {g : Nat} {us rs : List Nat} {s k : Nat} (h : RightRel w wr g us rs s k) (hu : Lim us) (hs : s < 32) (hk : k < us.length) (hg : w.heap.size ≤ g) :
    RightRel w (wr.setCell ⟨g, k, none⟩ (.int .u32 (((us.getD k 0 + 4294967296 * us.getD (k + 1) 0) / 2 ^ s % 4294967296 : Nat) : Int))) g us (rs ++ [(us.getD k 0 + 4294967296 * us.getD (k + 1) 0) / 2 ^ s % 4294967296]) s (k + 1) :=
  ⟨by rw [← set_zeros h.len hk]; exact h.own.set _ _, by simp [h.len], h.lim.append (Lim.cons (by omega) lim_nil), right_step h.len (pow_split hs) (Nat.pow_pos (by omega)) hu h.sum, h.below.setCell hg _⟩
theorem or_right {x y : Nat} (hx : x < 4294967296) (hy : y < 4294967296) : bits .or .u64 (x : Int) ((y : Int) * 4294967296) = ((x + 4294967296 * y : Nat) : Int) := by
  have h := u64_or_nat x (y * 4294967296) (by omega) (by omega)
  rw [Nat.or_comm, show y * 4294967296 ||| x = y * 4294967296 + x from or_add (s := 32) hx] at h
  have e : ((y * 4294967296 : Nat) : Int) = (y : Int) * 4294967296 := by omega
  rw [e] at h
  rw [h]; congr 1; omega
theorem shr_eq (T s : Nat) : (T : Int) / 2 ^ s = ((T / 2 ^ s : Nat) : Int) := by rw [Int.natCast_ediv, Int.natCast_pow]; rfl

set_option maxHeartbeats 1000000 in
theorem right_any (va : Value) (us : List Nat) (s : Nat) (w : World) (ha : NatAt w va us) (hul : us.length ≤ 1000000) (hs : s < 32) : Calls Tryd.prog 46 #[va, .int .i64 s] w (GivesNat w (limbs (val us / 2 ^ s))) := by
  have Hu := Lib.hid ha
  obtain ⟨A, c, rfl, g1, g2⟩ := ha.form
  clear ha
  go_enter Tryd.func46, Tryd.ntmps46
  go_wp2_with (at_make; refine wpList_make rfl _ Tryd.undN _ _ rfl _ _ _ _ us.length us.length rfl rfl rfl rfl (Nat.le_refl _) (by omega) ?_; intro w1 HO hb1 hz1; have HZ := Lib.hid hz1; clear hz1)
  go_loopw [14] (fun si wr => ∃ (k : Nat) (rs : List Nat), k ≤ us.length ∧ si = .int .i64 k ∧ RightRel w wr w.heap.size us rs s k) (fun si _ => us.length - (intOf si).toNat)
  case atStart => exact ⟨0, [], Nat.zero_le _, rfl, HO.out, rfl, lim_nil, by simp [val], hb1⟩
  case round =>
    obtain ⟨k, rs, hk, rfl, M⟩ := hrel
    by_cases hlt : k < us.length
    · obtain ⟨b, o, rfl, hb, hc⟩ := Hu.out.at_ (by omega)
      have hcj : wr.cell? ⟨b, o + k, none⟩ = some (.int .u32 (us.getD k 0 : Nat)) := (M.below.cell hb).trans (hc k (by omega))
      have hcj2 : k + 1 < us.length → wr.cell? ⟨b, o + (k + 1), none⟩ = some (.int .u32 (us.getD (k + 1) 0 : Nat)) := fun h => (M.below.cell hb).trans (hc (k + 1) h)
      clear hc
      have hx := Hu.out.lim.get k
      have hy := Hu.out.lim.get (k + 1)
      obtain ⟨old, hold⟩ : ∃ u, wr.cell? ⟨w.heap.size, k, none⟩ = some u := ⟨_, M.own.cell (by rw [List.length_append, List.length_replicate, M.len]; omega)⟩
      have hfr := M.own.frozen k
      have HS := Lib.hid (M.step Hu.out.lim hs hlt (Nat.le_refl _))
      clear M
      obtain ⟨x, hxx⟩ : ∃ x : Nat, x = us.getD k 0 := ⟨_, rfl⟩
      rw [← hxx] at hcj hx HS
      clear hxx
      by_cases hlt2 : k + 1 < us.length
      · have hcj3 := hcj2 hlt2
        clear hcj2
        obtain ⟨y, hyy⟩ : ∃ y : Nat, y = us.getD (k + 1) 0 := ⟨_, rfl⟩
        rw [← hyy] at hcj3 hy HS
        clear hyy
        have hor := or_right hx hy
        obtain ⟨T, hT⟩ : ∃ T : Nat, T = x + 4294967296 * y := ⟨_, rfl⟩
        have hTl : T < 18446744073709551616 := by omega
        rw [← hT] at HS hor
        clear hT
        have hsh := shr_eq T s
        have hDl : T / 2 ^ s < 18446744073709551616 := Nat.lt_of_le_of_lt (Nat.div_le_self _ _) hTl
        obtain ⟨D, hD⟩ : ∃ D : Nat, D = T / 2 ^ s := ⟨_, rfl⟩
        rw [← hD] at HS hsh hDl
        clear hD
        go_wp2
        have e1 : ((D % 4294967296 : Nat) : Int) = (D : Int) % 4294967296 := by omega
        go_roundw
        case rel => exact ⟨k + 1, _, by omega, by go_num, by rw [← e1]; exact HS.out⟩
        case measure => simp [intOf]; omega
      · clear hcj2
        have hy0 : us.getD (k + 1) 0 = 0 := by rw [List.getD_eq_getElem?_getD, List.getElem?_eq_none (by omega)]; rfl
        rw [hy0] at HS
        clear hy0 hy
        simp only [Nat.mul_zero, Nat.add_zero] at HS
        have hsh := shr_eq x s
        have hDl : x / 2 ^ s < 4294967296 := Nat.lt_of_le_of_lt (Nat.div_le_self _ _) hx
        obtain ⟨D, hD⟩ : ∃ D : Nat, D = x / 2 ^ s := ⟨_, rfl⟩
        rw [← hD] at HS hsh hDl
        clear hD
        go_wp2
        have e1 : ((D % 4294967296 : Nat) : Int) = (D : Int) := by omega
        rw [e1] at HS
        go_roundw
        case rel => exact ⟨k + 1, _, by omega, by go_num, HS.out⟩
        case measure => simp [intOf]; omega
    · have hkl : k = us.length := by omega
      have HM := Lib.hid M
      have hO := M.own
      rw [hkl, Nat.sub_self, List.replicate_zero, List.append_nil] at hO
      have HN := Lib.hid (hO.natAt M.lim (c := us.length) (by rw [M.len]; omega) (by rw [M.len]; omega))
      rw [M.len, hkl] at HN
      have hkL : Hid (k = us.length) := hkl
      clear M hkl hO
      go_wp2_with (go_at_call 38; refine (trim_any _ _ _ HN.out).mono ?_; rintro e w' ⟨v3, rfl, rfl, h3⟩; have H3 := Lib.hid h3; clear h3)
      go_ret
      have hsm := HM.out.sum
      rw [hkL.out] at hsm
      rw [← right_end (Nat.pow_pos (by omega)) hsm]
      exact ⟨_, rfl, H3.out, HM.out.below⟩
end Go.Proofs.YtelcjcgalkcadaaDoor
