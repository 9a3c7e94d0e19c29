/- integer.Text, Small. -/
import Derived.Test.YtcdfhiocglibfaaDoorInt4
import Derived.Test.YtcdfhiocglibfaaDoorTxt
namespace Go.Proofs.YtcdfhiocglibfaaDoor
open Go.RowKit
open Go.Lib (decDigits)

/-- The decimal notation of an integer. -/
def ztext (z : Int) : List UInt8 := if z < 0 then 45 :: decDigits z.natAbs else decDigits z.natAbs
theorem ztext_neg {z : Int} (h : z < 0) : ztext z = 45 :: decDigits z.natAbs := if_pos h
theorem ztext_pos {z : Int} (h : ¬ z < 0) : ztext z = decDigits z.natAbs := if_neg h
theorem str_minus (l : List UInt8) : (⟨#[45]⟩ : ByteArray) ++ ⟨l.toArray⟩ = ⟨(45 :: l).toArray⟩ := by
  apply ByteArray.ext
  simp

set_option maxHeartbeats 1000000 in
theorem itext_any (b : Bool) (m : Value) (z : Int) (k : Nat) (w : World) (h : IntAt w b m z k) (hk : k ≤ 100000) (htab : Tab w) : Calls Tryd.prog 22 #[.agg #[.bool b, m]] w (GivesStr w (ztext z)) := by
  have H := Lib.hid h
  have HT := Lib.hid htab
  have HL : Hid ((limbs z.natAbs).length ≤ k) := by
    obtain ⟨xs, g1, g2, rfl⟩ := h
    show _ ≤ _
    rw [zval_abs]
    exact Nat.le_trans (limbs_val_length g1.lim) g2
  have HB := Lib.hid (Box.new (w := w) (x := .bool b) (y := m) rfl)
  have HN := Lib.hid h.noInt
  clear h htab
  go_enter Tryd.func22, Tryd.ntmps22
  go_wp2_with fail
  refine (inorm_any _ _ _ _ _ (by exact H.out.alloc _) (by omega)).mono ?_
  rintro e w1 ⟨b3, A3, n3, k3, rfl, h3, hb⟩
  replace HB := Lib.hid (HB.out.below hb)
  have HW := Lib.hid (below_next (below_alloc0 w _) hb)
  have c10 := HB.out.cell0
  have c11 := HB.out.cell1
  have f10 := HB.out.fro 0
  have f11 := HB.out.fro 1
  have HR := Lib.hid (h3.store HB.out HN.out (.bool b3) (.slice A3 n3 k3))
  have HWs := Lib.hid (below_stored HW.out (Nat.le_refl _) (.bool b3) (.slice A3 n3 k3))
  have HTs := Lib.hid (HT.out.below HWs.out)
  obtain ⟨e3, -⟩ := h3
  clear hb
  by_cases hz : z < 0
  · obtain rfl : b3 = true := by rw [e3]; exact decide_eq_true hz
    clear e3
    go_wp2_with fail
    refine (text_any _ _ _ (by exact HR.out.2) (Nat.le_trans HL.out hk) (by exact HTs.out)).mono ?_
    rintro e w2 ⟨rfl, hb⟩
    rw [val_limbs]
    have hdl : (decDigits z.natAbs).length ≤ 1000001 := Nat.le_trans (dec_len_le _) (by have := HL.out; omega)
    go_wp2
    go_ret
    rw [ztext_neg hz]
    exact ⟨congrArg Ending.returned (congrArg Value.string (str_minus _)), below_next HWs.out hb⟩
  · obtain rfl : b3 = false := by rw [e3]; exact decide_eq_false hz
    clear e3
    go_wp2_with fail
    refine (text_any _ _ _ (by exact HR.out.2) (Nat.le_trans HL.out hk) (by exact HTs.out)).mono ?_
    rintro e w2 ⟨rfl, hb⟩
    rw [val_limbs]
    go_wp2
    go_ret
    rw [ztext_pos (by omega)]
    exact ⟨rfl, below_next HWs.out hb⟩

/-- The int that an integer is, if there is one. -/
def zfits (z : Int) : Bool := decide (-9223372036854775808 ≤ z ∧ z ≤ 9223372036854775807)
def zsmall (z : Int) : Int := if zfits z then z else 0
def GivesSmall (w : World) (z : Int) (e : Ending) (w' : World) : Prop := e = .returned (.tuple #[.int .i64 (zsmall z), .bool (zfits z)]) ∧ Below w.heap.size w w'

theorem or_zero_u64 {x : Nat} (hx : x < 4294967296) : bits .or .u64 0 (x : Int) = (x : Int) := by
  have h := u64_or_nat 0 x (by omega) (by omega)
  rw [Nat.zero_or] at h
  exact h
theorem or_high_u64 {x t : Nat} (hx : x < 4294967296) (ht : t < 4294967296) : bits .or .u64 (t : Int) ((x : Int) * 4294967296) = ((t + x * 4294967296 : Nat) : Int) := by
  have h := u64_or_nat t (x * 4294967296) (by omega) (by omega)
  rw [Nat.or_comm, show x * 4294967296 ||| t = x * 4294967296 + t from or_add (s := 32) ht, Nat.add_comm] at h
  rw [← h]
  congr 1
theorem val_take_lt2 {us : List Nat} (h : Lim us) : val (us.take 1) < 4294967296 := by
  have h1 := val_lt (h.take 1)
  have h2 : (us.take 1).length ≤ 1 := by rw [List.length_take]; omega
  have h3 : 4294967296 ^ (us.take 1).length ≤ 4294967296 ^ 1 := Nat.pow_le_pow_right (by omega) h2
  omega
set_option maxRecDepth 100000 in
set_option maxHeartbeats 2000000 in
theorem ismall_any (b : Bool) (m : Value) (z : Int) (k : Nat) (w : World) (h : IntAt w b m z k) (hk : k ≤ 100000) : Calls Tryd.prog 24 #[.agg #[.bool b, m]] w (GivesSmall w z) := by
  have H := Lib.hid h
  have HB := Lib.hid (Box.new (w := w) (x := .bool b) (y := m) rfl)
  have HN := Lib.hid h.noInt
  clear h
  go_enter Tryd.func24, Tryd.ntmps24
  go_wp2_with fail
  refine (inorm_any _ _ _ _ _ (by exact H.out.alloc _) (by omega)).mono ?_
  rintro e w1 ⟨b3, A3, n3, k3, rfl, h3, hb⟩
  replace HB := Lib.hid (HB.out.below hb)
  have HW := Lib.hid (below_next (below_alloc0 w _) hb)
  have c10 := HB.out.cell0
  have c11 := HB.out.cell1
  have f10 := HB.out.fro 0
  have f11 := HB.out.fro 1
  have HR := Lib.hid (h3.store HB.out HN.out (.bool b3) (.slice A3 n3 k3))
  have HWs := Lib.hid (below_stored HW.out (Nat.le_refl _) (.bool b3) (.slice A3 n3 k3))
  have HBs := Lib.hid (HB.out.store (.bool b3) (.slice A3 n3 k3))
  obtain ⟨e3, h4⟩ := h3
  have E3 := Lib.hid e3
  obtain ⟨A', c', hv, g1, g2⟩ := h4.form
  injection hv with e4 e5 e6
  subst e4 e5 e6
  obtain ⟨ws, hws⟩ : ∃ ws, (w1.setCell ⟨w.heap.size, 0, none⟩ (.bool b3)).setCell ⟨w.heap.size, 1, none⟩ (.slice A3 (limbs z.natAbs).length k3) = ws := ⟨_, rfl⟩
  have HWE := Lib.hid hws
  rw [show stored w1 w.heap.size (.bool b3) (.slice A3 (limbs z.natAbs).length k3) = ws from hws] at HR HWs HBs
  clear hb h4 e3 hws
  have HUS := Lib.hid (rfl : limbs z.natAbs = limbs z.natAbs)
  by_cases hl : 2 < (limbs z.natAbs).length
  · have HF : Hid (zfits z = false) := by
      show _ = _
      unfold zfits
      rw [decide_eq_false_iff_not]
      intro e
      have := abs_two e.1 e.2
      omega
    go_wp2
    go_ret2
    unfold GivesSmall zsmall
    rw [HF.out, show (w1.setCell ⟨w.heap.size, 0, none⟩ (.bool b3)).setCell ⟨w.heap.size, 1, none⟩ (.slice A3 (limbs z.natAbs).length k3) = ws from HWE.out]
    exact ⟨rfl, HWs.out⟩
  · have hl2 : decide ((2 : Int) < ((limbs z.natAbs).length : Int)) = false := by simp; omega
    go_wp2
    rw [HWE.out]
    have d10 := HBs.out.cell0
    have d11 := HBs.out.cell1
    clear HWE c10 c11 f10 f11 HB HW hl2
    obtain ⟨us, hus⟩ : ∃ us, us = limbs z.natAbs := ⟨_, rfl⟩
    have HV : Hid (val us = z.natAbs) := by rw [hus]; exact val_limbs _
    have HU := HR.out.2
    rw [← hus] at hl g1 g2 HU d11 ⊢
    have HN := Lib.hid HU
    clear HUS hus HU
    go_loop [4, 16] (fun sn si => ∃ k : Nat, k ≤ us.length ∧ si = .int .i64 k ∧ sn = .int .u64 (val (us.take k) : Nat)) (fun _ si => us.length - (intOf si).toNat)
    case atStart => exact ⟨0, Nat.zero_le _, rfl, rfl⟩
    case round =>
      obtain ⟨k, hk, rfl, rfl⟩ := hrel
      by_cases hlt : k < us.length
      · obtain ⟨bb, o, rfl, hbb, hc⟩ := HN.out.at_ (by omega)
        have hcj := hc k hlt
        have hxl := HN.out.lim.get k
        have HNX := Lib.hid (val_take_next us k)
        clear hc
        obtain ⟨x, hx⟩ : ∃ x : Nat, x = us.getD k 0 := ⟨_, rfl⟩
        rw [← hx] at hcj hxl HNX
        clear hx
        obtain rfl | rfl : k = 0 ∨ k = 1 := by omega
        · rw [Nat.add_zero] at hcj
          rw [show val (us.take 0) = 0 from rfl]
          go_wp2
          go_round
          case rel => exact ⟨1, by omega, rfl, by rw [or_zero_u64 hxl]; congr 1; have := HNX.out; rw [Nat.pow_zero, Nat.one_mul, show val (us.take 0) = 0 from rfl, Nat.zero_add] at this; rw [this]; omega⟩
          case measure => simp [intOf]; omega
        · have htl := val_take_lt2 HN.out.lim
          obtain ⟨t, ht⟩ : ∃ t : Nat, t = val (us.take 1) := ⟨_, rfl⟩
          rw [← ht] at htl HNX ⊢
          clear ht
          go_wp2
          go_round
          case rel => exact ⟨2, by omega, rfl, by rw [or_high_u64 hxl htl]; congr 1; have := HNX.out; rw [this]; omega⟩
          case measure => simp [intOf]; omega
      · have hVl := val_lt HN.out.lim
        have hVl2 : 4294967296 ^ us.length ≤ 4294967296 ^ 2 := Nat.pow_le_pow_right (by omega) (by omega)
        have hNl : z.natAbs < 18446744073709551616 := by rw [← HV.out]; exact Nat.lt_of_lt_of_le hVl hVl2
        rw [List.take_of_length_le (by omega), HV.out]
        clear hVl hVl2
        by_cases hz : z < 0
        · obtain rfl : b3 = true := by rw [E3.out]; exact decide_eq_true hz
          obtain ⟨N, rfl⟩ : ∃ N : Nat, z = -(N : Int) := ⟨z.natAbs, by omega⟩
          rw [Int.natAbs_neg, Int.natAbs_natCast] at hNl ⊢
          clear HV HR HBs
          by_cases hN : N ≤ 9223372036854775808
          · have t1 : decide ((N : Int) ≤ 9223372036854775808) = true := by simp; omega
            have e1 : IntKind.i64.wrap (IntKind.u64.wrap (-(N : Int))) = -(N : Int) := by rw [IntKind.wrap_u64, IntKind.wrap_i64]; omega
            go_wp2
            go_ret2
            unfold GivesSmall zsmall
            rw [show zfits (-(N : Int)) = true from decide_eq_true ⟨by omega, by omega⟩]
            exact ⟨rfl, HWs.out⟩
          · have t1 : decide ((N : Int) ≤ 9223372036854775808) = false := by simp; omega
            go_wp2
            go_ret2
            unfold GivesSmall zsmall
            rw [show zfits (-(N : Int)) = false from decide_eq_false (by omega)]
            exact ⟨rfl, HWs.out⟩
        · obtain rfl : b3 = false := by rw [E3.out]; exact decide_eq_false hz
          obtain ⟨N, rfl⟩ : ∃ N : Nat, z = (N : Int) := ⟨z.natAbs, by omega⟩
          rw [Int.natAbs_natCast] at hNl ⊢
          clear HV HR HBs hz
          by_cases hN : N < 9223372036854775808
          · have t1 : decide ((N : Int) < 9223372036854775808) = true := by simp; omega
            go_wp2
            go_ret2
            unfold GivesSmall zsmall
            rw [show zfits (N : Int) = true from decide_eq_true ⟨by omega, by omega⟩]
            exact ⟨rfl, HWs.out⟩
          · have t1 : decide ((N : Int) < 9223372036854775808) = false := by simp; omega
            go_wp2
            go_ret2
            unfold GivesSmall zsmall
            rw [show zfits (N : Int) = false from decide_eq_false (by omega)]
            exact ⟨rfl, HWs.out⟩
end Go.Proofs.YtcdfhiocglibfaaDoor
