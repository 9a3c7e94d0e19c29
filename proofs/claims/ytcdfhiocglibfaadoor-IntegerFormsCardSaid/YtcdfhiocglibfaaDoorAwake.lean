/- garmentlaw02.awake. -/
import Derived.Test.YtcdfhiocglibfaaDoorRInt3
namespace Go.Proofs.YtcdfhiocglibfaaDoor
open Go.RowKit
open Go.Lib (decDigits)

theorem ZAt.two {w : World} {b : Bool} {m : Value} {z : Int} (h : ZAt w b m z) (h1 : -9223372036854775808 ≤ z) (h2 : z ≤ 9223372036854775807) : IntAt w b m z 2 := h.int (abs_two h1 h2)
theorem lit3 (W : World) (g x y z : Nat) (hg : W.heap.size = g) (hx : x < 4294967296) (hy : y < 4294967296) (hz : z < 4294967296) : NatAt (W.alloc (.cells #[.int .u32 (x : Int), .int .u32 (y : Int), .int .u32 (z : Int)] 46)) (.slice (some ⟨g, 0, none⟩) 3 3) [x, y, z] := by
  subst hg
  have h : Own (W.alloc (.cells #[.int .u32 (x : Int), .int .u32 (y : Int), .int .u32 (z : Int)] 46)) W.heap.size [x, y, z] := heap_alloc_new W _
  exact h.natAt (Lim.cons hx (Lim.cons hy (Lim.cons hz lim_nil))) (Nat.le_refl _) (by simp)
theorem dec4 : ztext (-4) = [45, 52] := by rw [ztext_neg (by decide), show (-4 : Int).natAbs = 4 from rfl, dec_lt (by omega)]; rfl
theorem dec1 : ztext 1 = [49] := by rw [ztext_pos (by decide), show (1 : Int).natAbs = 1 from rfl, dec_lt (by omega)]; rfl
theorem dec12 : ztext (-12) = [45, 49, 50] := by rw [ztext_neg (by decide), show (-12 : Int).natAbs = 12 from rfl, dec_ge (by omega), dec_lt (by omega)]; rfl
theorem dec0 : ztext 0 = [48] := by rw [ztext_pos (by decide), show (0 : Int).natAbs = 0 from rfl, dec_lt (by omega)]; rfl
theorem dec15 : ztext 15 = [49, 53] := by rw [ztext_pos (by decide), show (15 : Int).natAbs = 15 from rfl, dec_ge (by omega), dec_lt (by omega)]; rfl

set_option maxRecDepth 100000 in
set_option maxHeartbeats 8000000 in
theorem awake_any (w : World) (htab : Tab w) : Calls Tryd.prog 13 #[] w (GivesTrue w) := by
  have HT := Lib.hid htab
  clear htab
  go_enter Tryd.func13, Tryd.ntmps13
  go_wp2_with fail
  refine (iof_any (-7) _ (by omega) (by omega)).mono ?_
  rintro e w1 ⟨b1, A1, n1, c1, rfl, h1, hb1⟩
  have H1 := Lib.hid h1
  clear h1
  go_wp2_with fail
  refine (iof_any 2 _ (by omega) (by omega)).mono ?_
  rintro e w2 ⟨b2, A2, n2, c2, rfl, h2, hb2⟩
  have H2 := Lib.hid h2
  replace H1 := Lib.hid (H1.out.below hb2)
  have hB := below_next hb1 hb2
  clear h2 hb1 hb2
  go_wp2_with fail
  refine (idivmod_any _ _ _ _ (-7) 2 2 2 _ (by exact H1.out.two (by omega) (by omega)) (by exact H2.out.two (by omega) (by omega)) (by omega) (by omega) (by omega)).mono ?_
  rintro e w3 ⟨bq, Aq, nq, cq, br, Ar, nr, cr, rfl, hq, hr, hb⟩
  rw [show (-7 : Int) / 2 = -4 from rfl] at hq
  rw [show (-7 : Int) % 2 = 1 from rfl] at hr
  have HQ := Lib.hid hq
  have HR := Lib.hid hr
  replace hB := below_next hB hb
  clear hq hr hb H1 H2
  -- the second division
  go_wp2_with fail
  obtain ⟨W, hW, BQ, BR, HW, HS⟩ := boxes2 w3 (.bool bq) (.slice Aq nq cq) (.bool br) (.slice Ar nr cr)
  rw [hW]
  clear hW
  replace HQ := Lib.hid (HQ.out.below HW.out)
  replace HR := Lib.hid (HR.out.below HW.out)
  replace hB := below_next hB HW.out
  clear HW HS
  refine (iof_any 3 _ (by omega) (by omega)).mono ?_
  rintro e w4 ⟨b1, A1, n1, c1, rfl, h1, hb⟩
  have H1 := Lib.hid h1
  replace HQ := Lib.hid (HQ.out.below hb)
  replace HR := Lib.hid (HR.out.below hb)
  replace BQ := Lib.hid (BQ.out.below hb)
  replace BR := Lib.hid (BR.out.below hb)
  replace hB := below_next hB hb
  clear h1 hb
  go_wp2_with fail
  refine (idivmod_zero _ _ _ _ 3 0 2 1 _ (by exact (H1.out.two (by omega) (by omega)).alloc _) (by exact ⟨[0], lit1 w4 _ 0 rfl (by omega), by simp, rfl⟩) rfl).mono ?_
  rintro e w5 ⟨bx, Ax, nx, cx, bz, Az, nz, cz, rfl, hx, hz, hb⟩
  replace hb := below_next (below_alloc0 w4 _) hb
  replace HQ := Lib.hid (HQ.out.below hb)
  replace HR := Lib.hid (HR.out.below hb)
  replace BQ := Lib.hid (BQ.out.below hb)
  replace BR := Lib.hid (BR.out.below hb)
  replace hB := below_next hB hb
  clear hx hz hb H1
  -- Parse
  go_wp2_with fail
  refine (iparse_any ⟨#[45, 49, 50]⟩ _ (by decide)).mono ?_
  rintro e w6 ⟨bn, An, nn, cn, rfl, hn, hb⟩
  replace hb := below_next (below_two w5 _ _) hb
  replace HQ := Lib.hid (HQ.out.below hb)
  replace HR := Lib.hid (HR.out.below hb)
  replace BQ := Lib.hid (BQ.out.below hb)
  replace BR := Lib.hid (BR.out.below hb)
  replace hB := below_next hB hb
  clear hb 
  rw [show zpErr (ByteArray.mk #[45, 49, 50]).data.toList = 0 from by decide]
  rw [show zpNum (ByteArray.mk #[45, 49, 50]).data.toList = -12 from by decide] at hn
  have HN := Lib.hid (hn.alloc (.cells #[.bool bn, .slice An nn cn] 25))
  have BN := Lib.hid (Box.new (w := w6) (x := .bool bn) (y := .slice An nn cn) rfl)
  clear hn
  go_wp2_with fail
  refine (iparse_any ⟨#[45, 48]⟩ _ (by decide)).mono ?_
  rintro e w7 ⟨bf, Af, nf, cf, rfl, hf, hb⟩
  replace HN := Lib.hid (HN.out.below hb)
  replace BN := Lib.hid (BN.out.below hb)
  replace hb := below_next (below_alloc0 w6 _) hb
  replace HQ := Lib.hid (HQ.out.below hb)
  replace HR := Lib.hid (HR.out.below hb)
  replace BQ := Lib.hid (BQ.out.below hb)
  replace BR := Lib.hid (BR.out.below hb)
  replace hB := below_next hB hb
  rw [show zpErr (ByteArray.mk #[45, 48]).data.toList = 2 from by decide]
  clear hf hb
  go_wp2_with fail
  refine (ismall_any _ _ (-9223372036854775808) 3 _ (by exact ⟨[0, 2147483648, 0], lit3 (w7.alloc _) _ 0 2147483648 0 (by simp) (by omega) (by omega) (by omega), by simp, rfl⟩) (by omega)).mono ?_
  rintro e w8 ⟨rfl, hb⟩
  replace hb := below_next (below_two w7 _ _) hb
  replace HQ := Lib.hid (HQ.out.below hb)
  replace HR := Lib.hid (HR.out.below hb)
  replace BQ := Lib.hid (BQ.out.below hb)
  replace BR := Lib.hid (BR.out.below hb)
  replace HN := Lib.hid (HN.out.below hb)
  replace BN := Lib.hid (BN.out.below hb)
  replace hB := below_next hB hb
  clear hb 
  rw [show zsmall (-9223372036854775808) = -9223372036854775808 from rfl, show zfits (-9223372036854775808) = true from rfl]
  go_wp2_with fail
  refine (ismall_any _ _ 9223372036854775808 2 _ (by exact ⟨[0, 2147483648], lit2 w8 _ 0 2147483648 rfl (by omega) (by omega), by simp, rfl⟩) (by omega)).mono ?_
  rintro e w9 ⟨rfl, hb⟩
  replace hb := below_next (below_alloc0 w8 _) hb
  replace HQ := Lib.hid (HQ.out.below hb)
  replace HR := Lib.hid (HR.out.below hb)
  replace BQ := Lib.hid (BQ.out.below hb)
  replace BR := Lib.hid (BR.out.below hb)
  replace HN := Lib.hid (HN.out.below hb)
  replace BN := Lib.hid (BN.out.below hb)
  replace hB := below_next hB hb
  clear hb 
  rw [show zsmall 9223372036854775808 = 0 from rfl, show zfits 9223372036854775808 = false from rfl]
  have cQ0 := BQ.out.cell0
  have cQ1 := BQ.out.cell1
  have cR0 := BR.out.cell0
  have cR1 := BR.out.cell1
  have cN0 := BN.out.cell0
  have cN1 := BN.out.cell1
  go_wp2_with fail
  refine (itext_any _ _ _ 2 _ (by exact HQ.out.two (by omega) (by omega)) (by omega) (by exact HT.out.below hB)).mono ?_
  rintro e w10 ⟨rfl, hb⟩
  rw [dec4]
  replace HQ := Lib.hid (HQ.out.below hb)
  replace HR := Lib.hid (HR.out.below hb)
  replace BQ := Lib.hid (BQ.out.below hb)
  replace BR := Lib.hid (BR.out.below hb)
  replace HN := Lib.hid (HN.out.below hb)
  replace BN := Lib.hid (BN.out.below hb)
  replace hB := below_next hB hb
  clear hb
  replace cQ0 := BQ.out.cell0
  replace cQ1 := BQ.out.cell1
  replace cR0 := BR.out.cell0
  replace cR1 := BR.out.cell1
  replace cN0 := BN.out.cell0
  replace cN1 := BN.out.cell1
  go_wp2_with fail
  refine (itext_any _ _ _ 2 _ (by exact HR.out.two (by omega) (by omega)) (by omega) (by exact HT.out.below hB)).mono ?_
  rintro e w11 ⟨rfl, hb⟩
  rw [dec1]
  replace HQ := Lib.hid (HQ.out.below hb)
  replace HR := Lib.hid (HR.out.below hb)
  replace BQ := Lib.hid (BQ.out.below hb)
  replace BR := Lib.hid (BR.out.below hb)
  replace HN := Lib.hid (HN.out.below hb)
  replace BN := Lib.hid (BN.out.below hb)
  replace hB := below_next hB hb
  clear hb
  replace cQ0 := BQ.out.cell0
  replace cQ1 := BQ.out.cell1
  replace cR0 := BR.out.cell0
  replace cR1 := BR.out.cell1
  replace cN0 := BN.out.cell0
  replace cN1 := BN.out.cell1
  go_wp2_with fail
  refine (itext_any _ _ _ 2 _ (by exact HN.out.two (by omega) (by omega)) (by omega) (by exact HT.out.below hB)).mono ?_
  rintro e w12 ⟨rfl, hb⟩
  rw [dec12]
  replace HQ := Lib.hid (HQ.out.below hb)
  replace HR := Lib.hid (HR.out.below hb)
  replace BQ := Lib.hid (BQ.out.below hb)
  replace BR := Lib.hid (BR.out.below hb)
  replace HN := Lib.hid (HN.out.below hb)
  replace BN := Lib.hid (BN.out.below hb)
  replace hB := below_next hB hb
  clear hb
  replace cQ0 := BQ.out.cell0
  replace cQ1 := BQ.out.cell1
  replace cR0 := BR.out.cell0
  replace cR1 := BR.out.cell1
  replace cN0 := BN.out.cell0
  replace cN1 := BN.out.cell1
  clear cQ0 cQ1 cR0 cR1 cN0 cN1 HQ HR HN BQ BR BN
  go_wp2_with fail
  refine (itext_any _ _ 0 2 _ (by exact ⟨[0, 0], lit2 w12 _ 0 0 rfl (by omega) (by omega), by simp, rfl⟩) (by omega) (by exact HT.out.below (below_next hB (below_alloc0 w12 _)))).mono ?_
  rintro e w13 ⟨rfl, hb⟩
  replace hb := below_next (below_alloc0 w12 _) hb
  replace hB := below_next hB hb
  clear hb 
  rw [dec0]
  go_wp2_with fail
  refine (iof_any (-5) _ (by omega) (by omega)).mono ?_
  rintro e w14 ⟨b1, A1, n1, c1, rfl, h1, hb⟩
  replace hB := below_next hB hb
  clear hb 
  have HA := Lib.hid h1
  clear h1
  go_wp2_with fail
  refine (iof_any 3 _ (by omega) (by omega)).mono ?_
  rintro e w15 ⟨b2, A2, n2, c2, rfl, h1, hb⟩
  replace HA := Lib.hid (HA.out.below hb)
  replace hB := below_next hB hb
  clear hb 
  have HB := Lib.hid h1
  clear h1
  go_wp2_with fail
  refine (icmp_any _ _ _ _ (-5) 3 2 2 _ (by exact HA.out.two (by omega) (by omega)) (by exact HB.out.two (by omega) (by omega)) (by omega) (by omega)).mono ?_
  rintro e w16 ⟨rfl, hb⟩
  replace HA := Lib.hid (HA.out.below hb)
  replace HB := Lib.hid (HB.out.below hb)
  replace hB := below_next hB hb
  clear hb 
  rw [show zord (-5) 3 = -1 from rfl]
  clear HA HB
  go_wp2_with fail
  refine (iof_any (-5) _ (by omega) (by omega)).mono ?_
  rintro e w17 ⟨b3, A3, n3, c3, rfl, h1, hb⟩
  replace hB := below_next hB hb
  clear hb 
  have HA := Lib.hid h1
  clear h1
  go_wp2_with fail
  refine (iof_any (-3) _ (by omega) (by omega)).mono ?_
  rintro e w18 ⟨b4, A4, n4, c4, rfl, h1, hb⟩
  replace HA := Lib.hid (HA.out.below hb)
  replace hB := below_next hB hb
  clear hb 
  have HB := Lib.hid h1
  clear h1
  go_wp2_with fail
  refine (imul_any _ _ _ _ (-5) (-3) 2 2 _ (by exact HA.out.two (by omega) (by omega)) (by exact HB.out.two (by omega) (by omega)) (by omega) (by omega)).mono ?_
  rintro e w19 ⟨b5, A5, n5, c5, rfl, h1, hb⟩
  replace HA := Lib.hid (HA.out.below hb)
  replace HB := Lib.hid (HB.out.below hb)
  replace hB := below_next hB hb
  clear hb 
  rw [show (-5 : Int) * (-3) = 15 from rfl] at h1
  have HC := Lib.hid h1
  clear h1
  go_wp2_with fail
  refine (itext_any _ _ _ 2 _ (by exact HC.out.two (by omega) (by omega)) (by omega) (by exact HT.out.below hB)).mono ?_
  rintro e w20 ⟨rfl, hb⟩
  replace HC := Lib.hid (HC.out.below hb)
  replace hB := below_next hB hb
  clear hb 
  rw [dec15]
  go_wp2
  go_ret
  exact ⟨rfl, hB⟩
end Go.Proofs.YtcdfhiocglibfaaDoor
