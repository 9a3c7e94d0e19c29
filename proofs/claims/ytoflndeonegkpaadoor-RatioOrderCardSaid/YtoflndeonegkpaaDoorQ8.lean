/- garmentlaw03.exampleHolds. -/
import Derived.Test.YtoflndeonegkpaaDoorQ3
import Derived.Test.YtoflndeonegkpaaDoorQ4
import Derived.Test.YtoflndeonegkpaaDoorQ6
import Derived.Test.YtoflndeonegkpaaDoorQ7
import Derived.Test.YtoflndeonegkpaaDoorRInt2
namespace Go.Proofs.YtoflndeonegkpaaDoor
open Go.RowKit

open Go.Lib (decDigits)
theorem qpart {q : Rat} {n : Int} {d : Nat} {l : List UInt8} (hn : q.num = n) (hd : q.den = d) (h1 : d ≠ 1) (h : ztext n ++ 47 :: decDigits d = l) : qtext q = l := by
  unfold qtext
  rw [hn, hd, if_neg h1, h]
theorem ex_sz (n d : Int) (h1 : n.natAbs < 4294967296) (h2 : d.natAbs < 4294967296) : QSz (qof n d) 1 := by
  refine qsz_mk ?_ (by unfold Sz; omega) (by omega)
  unfold Sz
  split <;> omega
theorem dlow {n : Nat} (h : n < 10) : decDigits n = [UInt8.ofNat (48 + n)] := by rw [dec_lt h]
theorem ex1 : qtext (qof 6 (-4) + qof 1 3) = [45, 55, 47, 54] := qpart (n := -7) (d := 6) (by kernel_rfl) (by kernel_rfl) (by decide) (by rw [ztext_neg (by decide), show (-7 : Int).natAbs = 7 from rfl, dlow (by omega), dlow (by omega)]; rfl)
theorem ex2 : qtext (qof 6 (-4) * qof 1 3) = [45, 49, 47, 50] := qpart (n := -1) (d := 2) (by kernel_rfl) (by kernel_rfl) (by decide) (by rw [ztext_neg (by decide), show (-1 : Int).natAbs = 1 from rfl, dlow (by omega), dlow (by omega)]; rfl)
theorem ex3 : qtext (qof 6 (-4) / qof 1 3) = [45, 57, 47, 50] := qpart (n := -9) (d := 2) (by kernel_rfl) (by kernel_rfl) (by decide) (by rw [ztext_neg (by decide), show (-9 : Int).natAbs = 9 from rfl, dlow (by omega), dlow (by omega)]; rfl)
theorem ex4 : qpNum [45, 51, 47, 50] = qof 6 (-4) := Rat.ext (by kernel_rfl) (by kernel_rfl)
theorem ex8 : qpErr (ByteArray.mk #[45, 51, 47, 50]).data.toList = 0 := by decide +kernel
theorem ex9 : qpErr (ByteArray.mk #[54, 47, 52]).data.toList = 2 := by decide +kernel
theorem ex5 : (qof 6 (-4)).floor = -2 := by kernel_rfl
theorem ex6 : qround (qof 6 (-4)) = -2 := by kernel_rfl
theorem ex7 : qof 1 3 ≠ 0 := fun h => absurd (congrArg Rat.num h) (by rw [show (qof 1 3).num = 1 from by kernel_rfl]; decide)
theorem qord_self (q : Rat) : qord q q = 0 := by unfold qord; rw [if_neg Rat.lt_irrefl, if_neg Rat.lt_irrefl]
set_option maxRecDepth 100000 in
set_option maxHeartbeats 8000000 in
theorem holds_any (w : World) (htab : Tab w) : Calls Tryd.prog 9 #[] w (GivesTrue w) := by
  have HT := Lib.hid htab
  clear htab
  have S_a := ex_sz 6 (-4) (by decide) (by decide)
  have S_b := ex_sz 1 3 (by decide) (by decide)
  go_enter Tryd.func9, Tryd.ntmps9
  go_wp2_with fail
  refine (qof_any 6 (-4) _ (by omega) (by omega) (by omega) (by omega) (by omega)).mono ?_
  rintro e w1 ⟨b_a, A_a, n_a, c_a, D_a, e_a, f_a, rfl, h_a, hb⟩
  have hB := hb
  clear hb
  have Q_a := Lib.hid h_a
  clear h_a
  go_upto_region 2 with fail
  obtain ⟨W2, g_a, hV, hg, NB, hb⟩ := newR w1 (.bool b_a) (.slice A_a n_a c_a) (.slice D_a e_a f_a)
  rw [hV, hg]
  clear hV
  replace Q_a := Lib.hid (Q_a.out.below hb)
  replace hB := below_next hB hb
  have B_a := NB
  clear NB hb hg
  have c_a0 := B_a.out.cell0
  have c_a1 := B_a.out.cell1
  have c_a2 := B_a.out.cell2
  go_wp2_with fail
  clear c_a0 c_a1 c_a2
  refine (qof_any 1 3 _ (by omega) (by omega) (by omega) (by omega) (by omega)).mono ?_
  rintro e w3 ⟨b_b, A_b, n_b, c_b, D_b, e_b, f_b, rfl, h_b, hb⟩
  replace Q_a := Lib.hid (Q_a.out.below hb)
  replace B_a := Lib.hid (B_a.out.below hb)
  replace hB := below_next hB hb
  clear hb
  have Q_b := Lib.hid h_b
  clear h_b
  have c_a0 := B_a.out.cell0
  have c_a1 := B_a.out.cell1
  have c_a2 := B_a.out.cell2
  go_upto_region 3 with fail
  clear c_a0 c_a1 c_a2
  obtain ⟨W4, g_b, hV, hg, NB, hb⟩ := newR w3 (.bool b_b) (.slice A_b n_b c_b) (.slice D_b e_b f_b)
  rw [hV, hg]
  clear hV
  have l_b_a : g_a < g_b := hg ▸ B_a.out.lt
  replace Q_a := Lib.hid (Q_a.out.below hb)
  replace Q_b := Lib.hid (Q_b.out.below hb)
  replace B_a := Lib.hid (B_a.out.below hb)
  replace hB := below_next hB hb
  have B_b := NB
  clear NB hb hg
  have c_a0 := B_a.out.cell0
  have c_a1 := B_a.out.cell1
  have c_a2 := B_a.out.cell2
  have c_b0 := B_b.out.cell0
  have c_b1 := B_b.out.cell1
  have c_b2 := B_b.out.cell2
  go_wp2_with fail
  clear c_a0 c_a1 c_a2 c_b0 c_b1 c_b2
  refine (qof_zero 7 _).mono ?_
  rintro e w5 ⟨rfl, hb⟩
  replace Q_a := Lib.hid (Q_a.out.below hb)
  replace Q_b := Lib.hid (Q_b.out.below hb)
  replace B_a := Lib.hid (B_a.out.below hb)
  replace B_b := Lib.hid (B_b.out.below hb)
  replace hB := below_next hB hb
  clear hb
  have c_a0 := B_a.out.cell0
  have c_a1 := B_a.out.cell1
  have c_a2 := B_a.out.cell2
  have c_b0 := B_b.out.cell0
  have c_b1 := B_b.out.cell1
  have c_b2 := B_b.out.cell2
  go_upto_region 4 with fail
  clear c_a0 c_a1 c_a2 c_b0 c_b1 c_b2
  obtain ⟨W6, g_z, hV, hg, NB, hb⟩ := newR w5 (.bool false) (.slice none 0 0) (.slice none 0 0)
  rw [hV, hg]
  clear hV
  have l_z_a : g_a < g_z := hg ▸ B_a.out.lt
  have l_z_b : g_b < g_z := hg ▸ B_b.out.lt
  replace Q_a := Lib.hid (Q_a.out.below hb)
  replace Q_b := Lib.hid (Q_b.out.below hb)
  replace B_a := Lib.hid (B_a.out.below hb)
  replace B_b := Lib.hid (B_b.out.below hb)
  replace hB := below_next hB hb
  have B_z := NB
  clear NB hb hg
  have c_a0 := B_a.out.cell0
  have c_a1 := B_a.out.cell1
  have c_a2 := B_a.out.cell2
  have c_b0 := B_b.out.cell0
  have c_b1 := B_b.out.cell1
  have c_b2 := B_b.out.cell2
  have c_z0 := B_z.out.cell0
  have c_z1 := B_z.out.cell1
  have c_z2 := B_z.out.cell2
  go_wp2_with fail
  clear c_a0 c_a1 c_a2 c_b0 c_b1 c_b2 c_z0 c_z1 c_z2
  refine (qdiv_any _ _ _ _ 1 _ _ _ _ 1 _ (by exact Q_a.out.rat S_a) (by exact Q_b.out.rat S_b) (by omega) (by omega) (by omega) (by omega) ex7).mono ?_
  rintro e w7 ⟨b_q, A_q, n_q, c_q, D_q, e_q, f_q, rfl, h_q, hb⟩
  replace Q_a := Lib.hid (Q_a.out.below hb)
  replace Q_b := Lib.hid (Q_b.out.below hb)
  replace B_a := Lib.hid (B_a.out.below hb)
  replace B_b := Lib.hid (B_b.out.below hb)
  replace B_z := Lib.hid (B_z.out.below hb)
  replace hB := below_next hB hb
  clear hb
  have Q_q := Lib.hid h_q
  clear h_q
  have c_a0 := B_a.out.cell0
  have c_a1 := B_a.out.cell1
  have c_a2 := B_a.out.cell2
  have c_b0 := B_b.out.cell0
  have c_b1 := B_b.out.cell1
  have c_b2 := B_b.out.cell2
  have c_z0 := B_z.out.cell0
  have c_z1 := B_z.out.cell1
  have c_z2 := B_z.out.cell2
  go_upto_region 5 with fail
  clear c_a0 c_a1 c_a2 c_b0 c_b1 c_b2 c_z0 c_z1 c_z2
  obtain ⟨W8, g_q, hV, hg, NB, hb⟩ := newR w7 (.bool b_q) (.slice A_q n_q c_q) (.slice D_q e_q f_q)
  rw [hV, hg]
  clear hV
  have l_q_a : g_a < g_q := hg ▸ B_a.out.lt
  have l_q_b : g_b < g_q := hg ▸ B_b.out.lt
  have l_q_z : g_z < g_q := hg ▸ B_z.out.lt
  replace Q_a := Lib.hid (Q_a.out.below hb)
  replace Q_b := Lib.hid (Q_b.out.below hb)
  replace Q_q := Lib.hid (Q_q.out.below hb)
  replace B_a := Lib.hid (B_a.out.below hb)
  replace B_b := Lib.hid (B_b.out.below hb)
  replace B_z := Lib.hid (B_z.out.below hb)
  replace hB := below_next hB hb
  have B_q := NB
  clear NB hb hg
  have c_a0 := B_a.out.cell0
  have c_a1 := B_a.out.cell1
  have c_a2 := B_a.out.cell2
  have c_b0 := B_b.out.cell0
  have c_b1 := B_b.out.cell1
  have c_b2 := B_b.out.cell2
  have c_z0 := B_z.out.cell0
  have c_z1 := B_z.out.cell1
  have c_z2 := B_z.out.cell2
  have c_q0 := B_q.out.cell0
  have c_q1 := B_q.out.cell1
  have c_q2 := B_q.out.cell2
  go_wp2_with fail
  clear c_a0 c_a1 c_a2 c_b0 c_b1 c_b2 c_z0 c_z1 c_z2 c_q0 c_q1 c_q2
  refine (qparse_ok ⟨#[45, 51, 47, 50]⟩ _ (by decide) ex8).mono ?_
  rintro e w9 ⟨b_p, A_p, n_p, c_p, D_p, e_p, f_p, rfl, h_p, hb⟩
  replace Q_a := Lib.hid (Q_a.out.below hb)
  replace Q_b := Lib.hid (Q_b.out.below hb)
  replace Q_q := Lib.hid (Q_q.out.below hb)
  replace B_a := Lib.hid (B_a.out.below hb)
  replace B_b := Lib.hid (B_b.out.below hb)
  replace B_z := Lib.hid (B_z.out.below hb)
  replace B_q := Lib.hid (B_q.out.below hb)
  replace hB := below_next hB hb
  clear hb
  rw [show qpNum (ByteArray.mk #[45, 51, 47, 50]).data.toList = qof 6 (-4) from ex4] at h_p
  have Q_p := Lib.hid h_p
  clear h_p
  have c_a0 := B_a.out.cell0
  have c_a1 := B_a.out.cell1
  have c_a2 := B_a.out.cell2
  have c_b0 := B_b.out.cell0
  have c_b1 := B_b.out.cell1
  have c_b2 := B_b.out.cell2
  have c_z0 := B_z.out.cell0
  have c_z1 := B_z.out.cell1
  have c_z2 := B_z.out.cell2
  have c_q0 := B_q.out.cell0
  have c_q1 := B_q.out.cell1
  have c_q2 := B_q.out.cell2
  go_upto_region 6 with fail
  clear c_a0 c_a1 c_a2 c_b0 c_b1 c_b2 c_z0 c_z1 c_z2 c_q0 c_q1 c_q2
  obtain ⟨W10, g_p, hV, hg, NB, hb⟩ := newR w9 (.bool b_p) (.slice A_p n_p c_p) (.slice D_p e_p f_p)
  rw [hV, hg]
  clear hV
  have l_p_a : g_a < g_p := hg ▸ B_a.out.lt
  have l_p_b : g_b < g_p := hg ▸ B_b.out.lt
  have l_p_z : g_z < g_p := hg ▸ B_z.out.lt
  have l_p_q : g_q < g_p := hg ▸ B_q.out.lt
  replace Q_a := Lib.hid (Q_a.out.below hb)
  replace Q_b := Lib.hid (Q_b.out.below hb)
  replace Q_q := Lib.hid (Q_q.out.below hb)
  replace Q_p := Lib.hid (Q_p.out.below hb)
  replace B_a := Lib.hid (B_a.out.below hb)
  replace B_b := Lib.hid (B_b.out.below hb)
  replace B_z := Lib.hid (B_z.out.below hb)
  replace B_q := Lib.hid (B_q.out.below hb)
  replace hB := below_next hB hb
  have B_p := NB
  clear NB hb hg
  have c_a0 := B_a.out.cell0
  have c_a1 := B_a.out.cell1
  have c_a2 := B_a.out.cell2
  have c_b0 := B_b.out.cell0
  have c_b1 := B_b.out.cell1
  have c_b2 := B_b.out.cell2
  have c_z0 := B_z.out.cell0
  have c_z1 := B_z.out.cell1
  have c_z2 := B_z.out.cell2
  have c_q0 := B_q.out.cell0
  have c_q1 := B_q.out.cell1
  have c_q2 := B_q.out.cell2
  have c_p0 := B_p.out.cell0
  have c_p1 := B_p.out.cell1
  have c_p2 := B_p.out.cell2
  go_wp2_with fail
  clear c_a0 c_a1 c_a2 c_b0 c_b1 c_b2 c_z0 c_z1 c_z2 c_q0 c_q1 c_q2 c_p0 c_p1 c_p2
  refine (qparse_err ⟨#[54, 47, 52]⟩ _ (by decide) (by rw [ex9]; decide)).mono ?_
  rintro e w11 ⟨rfl, hb⟩
  replace Q_a := Lib.hid (Q_a.out.below hb)
  replace Q_b := Lib.hid (Q_b.out.below hb)
  replace Q_q := Lib.hid (Q_q.out.below hb)
  replace Q_p := Lib.hid (Q_p.out.below hb)
  replace B_a := Lib.hid (B_a.out.below hb)
  replace B_b := Lib.hid (B_b.out.below hb)
  replace B_z := Lib.hid (B_z.out.below hb)
  replace B_q := Lib.hid (B_q.out.below hb)
  replace B_p := Lib.hid (B_p.out.below hb)
  replace hB := below_next hB hb
  clear hb
  rw [ex9]
  have c_a0 := B_a.out.cell0
  have c_a1 := B_a.out.cell1
  have c_a2 := B_a.out.cell2
  have c_b0 := B_b.out.cell0
  have c_b1 := B_b.out.cell1
  have c_b2 := B_b.out.cell2
  have c_z0 := B_z.out.cell0
  have c_z1 := B_z.out.cell1
  have c_z2 := B_z.out.cell2
  have c_q0 := B_q.out.cell0
  have c_q1 := B_q.out.cell1
  have c_q2 := B_q.out.cell2
  have c_p0 := B_p.out.cell0
  have c_p1 := B_p.out.cell1
  have c_p2 := B_p.out.cell2
  go_upto_region 7 with fail
  clear c_a0 c_a1 c_a2 c_b0 c_b1 c_b2 c_z0 c_z1 c_z2 c_q0 c_q1 c_q2 c_p0 c_p1 c_p2
  obtain ⟨W12, g_f, hV, hg, NB, hb⟩ := newR w11 (.bool false) (.slice none 0 0) (.slice none 0 0)
  rw [hV, hg]
  clear hV
  have l_f_a : g_a < g_f := hg ▸ B_a.out.lt
  have l_f_b : g_b < g_f := hg ▸ B_b.out.lt
  have l_f_z : g_z < g_f := hg ▸ B_z.out.lt
  have l_f_q : g_q < g_f := hg ▸ B_q.out.lt
  have l_f_p : g_p < g_f := hg ▸ B_p.out.lt
  replace Q_a := Lib.hid (Q_a.out.below hb)
  replace Q_b := Lib.hid (Q_b.out.below hb)
  replace Q_q := Lib.hid (Q_q.out.below hb)
  replace Q_p := Lib.hid (Q_p.out.below hb)
  replace B_a := Lib.hid (B_a.out.below hb)
  replace B_b := Lib.hid (B_b.out.below hb)
  replace B_z := Lib.hid (B_z.out.below hb)
  replace B_q := Lib.hid (B_q.out.below hb)
  replace B_p := Lib.hid (B_p.out.below hb)
  replace hB := below_next hB hb
  have B_f := NB
  clear NB hb hg
  have c_a0 := B_a.out.cell0
  have c_a1 := B_a.out.cell1
  have c_a2 := B_a.out.cell2
  have c_b0 := B_b.out.cell0
  have c_b1 := B_b.out.cell1
  have c_b2 := B_b.out.cell2
  have c_z0 := B_z.out.cell0
  have c_z1 := B_z.out.cell1
  have c_z2 := B_z.out.cell2
  have c_q0 := B_q.out.cell0
  have c_q1 := B_q.out.cell1
  have c_q2 := B_q.out.cell2
  have c_p0 := B_p.out.cell0
  have c_p1 := B_p.out.cell1
  have c_p2 := B_p.out.cell2
  have c_f0 := B_f.out.cell0
  have c_f1 := B_f.out.cell1
  have c_f2 := B_f.out.cell2
  go_wp2_with fail
  clear c_a0 c_a1 c_a2 c_b0 c_b1 c_b2 c_z0 c_z1 c_z2 c_q0 c_q1 c_q2 c_p0 c_p1 c_p2 c_f0 c_f1 c_f2
  refine (qadd_any _ _ _ _ 1 _ _ _ _ 1 _ (by exact Q_a.out.rat S_a) (by exact Q_b.out.rat S_b) (by omega) (by omega) (by omega) (by omega)).mono ?_
  rintro e w13 ⟨b_s, A_s, n_s, c_s, D_s, e_s, f_s, rfl, h_s, hb⟩
  replace Q_a := Lib.hid (Q_a.out.below hb)
  replace Q_b := Lib.hid (Q_b.out.below hb)
  replace Q_q := Lib.hid (Q_q.out.below hb)
  replace Q_p := Lib.hid (Q_p.out.below hb)
  replace B_a := Lib.hid (B_a.out.below hb)
  replace B_b := Lib.hid (B_b.out.below hb)
  replace B_z := Lib.hid (B_z.out.below hb)
  replace B_q := Lib.hid (B_q.out.below hb)
  replace B_p := Lib.hid (B_p.out.below hb)
  replace B_f := Lib.hid (B_f.out.below hb)
  replace hB := below_next hB hb
  clear hb
  have Q_s := Lib.hid h_s
  clear h_s
  have c_a0 := B_a.out.cell0
  have c_a1 := B_a.out.cell1
  have c_a2 := B_a.out.cell2
  have c_b0 := B_b.out.cell0
  have c_b1 := B_b.out.cell1
  have c_b2 := B_b.out.cell2
  have c_z0 := B_z.out.cell0
  have c_z1 := B_z.out.cell1
  have c_z2 := B_z.out.cell2
  have c_q0 := B_q.out.cell0
  have c_q1 := B_q.out.cell1
  have c_q2 := B_q.out.cell2
  have c_p0 := B_p.out.cell0
  have c_p1 := B_p.out.cell1
  have c_p2 := B_p.out.cell2
  have c_f0 := B_f.out.cell0
  have c_f1 := B_f.out.cell1
  have c_f2 := B_f.out.cell2
  go_wp2_with fail
  clear c_a0 c_a1 c_a2 c_b0 c_b1 c_b2 c_z0 c_z1 c_z2 c_q0 c_q1 c_q2 c_p0 c_p1 c_p2 c_f0 c_f1 c_f2
  refine (qtext_any _ _ _ _ 3 _ (by exact Q_s.out.rat ((S_a.add S_b).more (by omega))) (by omega) (by omega) (by exact HT.out.below hB)).mono ?_
  rintro e w14 ⟨rfl, hb⟩
  replace Q_a := Lib.hid (Q_a.out.below hb)
  replace Q_b := Lib.hid (Q_b.out.below hb)
  replace Q_q := Lib.hid (Q_q.out.below hb)
  replace Q_p := Lib.hid (Q_p.out.below hb)
  replace Q_s := Lib.hid (Q_s.out.below hb)
  replace B_a := Lib.hid (B_a.out.below hb)
  replace B_b := Lib.hid (B_b.out.below hb)
  replace B_z := Lib.hid (B_z.out.below hb)
  replace B_q := Lib.hid (B_q.out.below hb)
  replace B_p := Lib.hid (B_p.out.below hb)
  replace B_f := Lib.hid (B_f.out.below hb)
  replace hB := below_next hB hb
  clear hb
  rw [ex1]
  have c_a0 := B_a.out.cell0
  have c_a1 := B_a.out.cell1
  have c_a2 := B_a.out.cell2
  have c_b0 := B_b.out.cell0
  have c_b1 := B_b.out.cell1
  have c_b2 := B_b.out.cell2
  have c_z0 := B_z.out.cell0
  have c_z1 := B_z.out.cell1
  have c_z2 := B_z.out.cell2
  have c_q0 := B_q.out.cell0
  have c_q1 := B_q.out.cell1
  have c_q2 := B_q.out.cell2
  have c_p0 := B_p.out.cell0
  have c_p1 := B_p.out.cell1
  have c_p2 := B_p.out.cell2
  have c_f0 := B_f.out.cell0
  have c_f1 := B_f.out.cell1
  have c_f2 := B_f.out.cell2
  go_wp2_with fail
  clear c_a0 c_a1 c_a2 c_b0 c_b1 c_b2 c_z0 c_z1 c_z2 c_q0 c_q1 c_q2 c_p0 c_p1 c_p2 c_f0 c_f1 c_f2
  refine (qmul_any _ _ _ _ 1 _ _ _ _ 1 _ (by exact Q_a.out.rat S_a) (by exact Q_b.out.rat S_b) (by omega) (by omega) (by omega) (by omega)).mono ?_
  rintro e w15 ⟨b_m, A_m, n_m, c_m, D_m, e_m, f_m, rfl, h_m, hb⟩
  replace Q_a := Lib.hid (Q_a.out.below hb)
  replace Q_b := Lib.hid (Q_b.out.below hb)
  replace Q_q := Lib.hid (Q_q.out.below hb)
  replace Q_p := Lib.hid (Q_p.out.below hb)
  replace Q_s := Lib.hid (Q_s.out.below hb)
  replace B_a := Lib.hid (B_a.out.below hb)
  replace B_b := Lib.hid (B_b.out.below hb)
  replace B_z := Lib.hid (B_z.out.below hb)
  replace B_q := Lib.hid (B_q.out.below hb)
  replace B_p := Lib.hid (B_p.out.below hb)
  replace B_f := Lib.hid (B_f.out.below hb)
  replace hB := below_next hB hb
  clear hb
  have Q_m := Lib.hid h_m
  clear h_m
  have c_a0 := B_a.out.cell0
  have c_a1 := B_a.out.cell1
  have c_a2 := B_a.out.cell2
  have c_b0 := B_b.out.cell0
  have c_b1 := B_b.out.cell1
  have c_b2 := B_b.out.cell2
  have c_z0 := B_z.out.cell0
  have c_z1 := B_z.out.cell1
  have c_z2 := B_z.out.cell2
  have c_q0 := B_q.out.cell0
  have c_q1 := B_q.out.cell1
  have c_q2 := B_q.out.cell2
  have c_p0 := B_p.out.cell0
  have c_p1 := B_p.out.cell1
  have c_p2 := B_p.out.cell2
  have c_f0 := B_f.out.cell0
  have c_f1 := B_f.out.cell1
  have c_f2 := B_f.out.cell2
  go_wp2_with fail
  clear c_a0 c_a1 c_a2 c_b0 c_b1 c_b2 c_z0 c_z1 c_z2 c_q0 c_q1 c_q2 c_p0 c_p1 c_p2 c_f0 c_f1 c_f2
  refine (qtext_any _ _ _ _ 2 _ (by exact Q_m.out.rat ((S_a.mul S_b).more (by omega))) (by omega) (by omega) (by exact HT.out.below hB)).mono ?_
  rintro e w16 ⟨rfl, hb⟩
  replace Q_a := Lib.hid (Q_a.out.below hb)
  replace Q_b := Lib.hid (Q_b.out.below hb)
  replace Q_q := Lib.hid (Q_q.out.below hb)
  replace Q_p := Lib.hid (Q_p.out.below hb)
  replace Q_s := Lib.hid (Q_s.out.below hb)
  replace Q_m := Lib.hid (Q_m.out.below hb)
  replace B_a := Lib.hid (B_a.out.below hb)
  replace B_b := Lib.hid (B_b.out.below hb)
  replace B_z := Lib.hid (B_z.out.below hb)
  replace B_q := Lib.hid (B_q.out.below hb)
  replace B_p := Lib.hid (B_p.out.below hb)
  replace B_f := Lib.hid (B_f.out.below hb)
  replace hB := below_next hB hb
  clear hb
  rw [ex2]
  have c_a0 := B_a.out.cell0
  have c_a1 := B_a.out.cell1
  have c_a2 := B_a.out.cell2
  have c_b0 := B_b.out.cell0
  have c_b1 := B_b.out.cell1
  have c_b2 := B_b.out.cell2
  have c_z0 := B_z.out.cell0
  have c_z1 := B_z.out.cell1
  have c_z2 := B_z.out.cell2
  have c_q0 := B_q.out.cell0
  have c_q1 := B_q.out.cell1
  have c_q2 := B_q.out.cell2
  have c_p0 := B_p.out.cell0
  have c_p1 := B_p.out.cell1
  have c_p2 := B_p.out.cell2
  have c_f0 := B_f.out.cell0
  have c_f1 := B_f.out.cell1
  have c_f2 := B_f.out.cell2
  go_wp2_with fail
  clear c_a0 c_a1 c_a2 c_b0 c_b1 c_b2 c_z0 c_z1 c_z2 c_q0 c_q1 c_q2 c_p0 c_p1 c_p2 c_f0 c_f1 c_f2
  refine (qtext_any _ _ _ _ 2 _ (by exact Q_q.out.rat ((S_a.div S_b).more (by omega))) (by omega) (by omega) (by exact HT.out.below hB)).mono ?_
  rintro e w17 ⟨rfl, hb⟩
  replace Q_a := Lib.hid (Q_a.out.below hb)
  replace Q_b := Lib.hid (Q_b.out.below hb)
  replace Q_q := Lib.hid (Q_q.out.below hb)
  replace Q_p := Lib.hid (Q_p.out.below hb)
  replace Q_s := Lib.hid (Q_s.out.below hb)
  replace Q_m := Lib.hid (Q_m.out.below hb)
  replace B_a := Lib.hid (B_a.out.below hb)
  replace B_b := Lib.hid (B_b.out.below hb)
  replace B_z := Lib.hid (B_z.out.below hb)
  replace B_q := Lib.hid (B_q.out.below hb)
  replace B_p := Lib.hid (B_p.out.below hb)
  replace B_f := Lib.hid (B_f.out.below hb)
  replace hB := below_next hB hb
  clear hb
  rw [ex3]
  have c_a0 := B_a.out.cell0
  have c_a1 := B_a.out.cell1
  have c_a2 := B_a.out.cell2
  have c_b0 := B_b.out.cell0
  have c_b1 := B_b.out.cell1
  have c_b2 := B_b.out.cell2
  have c_z0 := B_z.out.cell0
  have c_z1 := B_z.out.cell1
  have c_z2 := B_z.out.cell2
  have c_q0 := B_q.out.cell0
  have c_q1 := B_q.out.cell1
  have c_q2 := B_q.out.cell2
  have c_p0 := B_p.out.cell0
  have c_p1 := B_p.out.cell1
  have c_p2 := B_p.out.cell2
  have c_f0 := B_f.out.cell0
  have c_f1 := B_f.out.cell1
  have c_f2 := B_f.out.cell2
  go_wp2_with fail
  clear c_a0 c_a1 c_a2 c_b0 c_b1 c_b2 c_z0 c_z1 c_z2 c_q0 c_q1 c_q2 c_p0 c_p1 c_p2 c_f0 c_f1 c_f2
  refine (qcmp_any _ _ _ _ 1 _ _ _ _ 1 _ (by exact Q_p.out.rat S_a) (by exact Q_a.out.rat S_a) (by omega) (by omega) (by omega) (by omega)).mono ?_
  rintro e w18 ⟨rfl, hb⟩
  replace Q_a := Lib.hid (Q_a.out.below hb)
  replace Q_b := Lib.hid (Q_b.out.below hb)
  replace Q_q := Lib.hid (Q_q.out.below hb)
  replace Q_p := Lib.hid (Q_p.out.below hb)
  replace Q_s := Lib.hid (Q_s.out.below hb)
  replace Q_m := Lib.hid (Q_m.out.below hb)
  replace B_a := Lib.hid (B_a.out.below hb)
  replace B_b := Lib.hid (B_b.out.below hb)
  replace B_z := Lib.hid (B_z.out.below hb)
  replace B_q := Lib.hid (B_q.out.below hb)
  replace B_p := Lib.hid (B_p.out.below hb)
  replace B_f := Lib.hid (B_f.out.below hb)
  replace hB := below_next hB hb
  clear hb
  rw [qord_self]
  have c_a0 := B_a.out.cell0
  have c_a1 := B_a.out.cell1
  have c_a2 := B_a.out.cell2
  have c_b0 := B_b.out.cell0
  have c_b1 := B_b.out.cell1
  have c_b2 := B_b.out.cell2
  have c_z0 := B_z.out.cell0
  have c_z1 := B_z.out.cell1
  have c_z2 := B_z.out.cell2
  have c_q0 := B_q.out.cell0
  have c_q1 := B_q.out.cell1
  have c_q2 := B_q.out.cell2
  have c_p0 := B_p.out.cell0
  have c_p1 := B_p.out.cell1
  have c_p2 := B_p.out.cell2
  have c_f0 := B_f.out.cell0
  have c_f1 := B_f.out.cell1
  have c_f2 := B_f.out.cell2
  go_wp2_with fail
  clear c_a0 c_a1 c_a2 c_b0 c_b1 c_b2 c_z0 c_z1 c_z2 c_q0 c_q1 c_q2 c_p0 c_p1 c_p2 c_f0 c_f1 c_f2
  refine (qfloor_any _ _ _ _ 1 _ (by exact Q_a.out.rat S_a) (by omega) (by omega)).mono ?_
  rintro e w19 ⟨b_x, A_x, n_x, c_x, rfl, h_x, hb⟩
  replace Q_a := Lib.hid (Q_a.out.below hb)
  replace Q_b := Lib.hid (Q_b.out.below hb)
  replace Q_q := Lib.hid (Q_q.out.below hb)
  replace Q_p := Lib.hid (Q_p.out.below hb)
  replace Q_s := Lib.hid (Q_s.out.below hb)
  replace Q_m := Lib.hid (Q_m.out.below hb)
  replace B_a := Lib.hid (B_a.out.below hb)
  replace B_b := Lib.hid (B_b.out.below hb)
  replace B_z := Lib.hid (B_z.out.below hb)
  replace B_q := Lib.hid (B_q.out.below hb)
  replace B_p := Lib.hid (B_p.out.below hb)
  replace B_f := Lib.hid (B_f.out.below hb)
  replace hB := below_next hB hb
  clear hb
  rw [ex5] at h_x
  have Z_x := Lib.hid h_x
  clear h_x
  have c_a0 := B_a.out.cell0
  have c_a1 := B_a.out.cell1
  have c_a2 := B_a.out.cell2
  have c_b0 := B_b.out.cell0
  have c_b1 := B_b.out.cell1
  have c_b2 := B_b.out.cell2
  have c_z0 := B_z.out.cell0
  have c_z1 := B_z.out.cell1
  have c_z2 := B_z.out.cell2
  have c_q0 := B_q.out.cell0
  have c_q1 := B_q.out.cell1
  have c_q2 := B_q.out.cell2
  have c_p0 := B_p.out.cell0
  have c_p1 := B_p.out.cell1
  have c_p2 := B_p.out.cell2
  have c_f0 := B_f.out.cell0
  have c_f1 := B_f.out.cell1
  have c_f2 := B_f.out.cell2
  go_wp2_with fail
  clear c_a0 c_a1 c_a2 c_b0 c_b1 c_b2 c_z0 c_z1 c_z2 c_q0 c_q1 c_q2 c_p0 c_p1 c_p2 c_f0 c_f1 c_f2
  refine (riof_any (-2) _ (by omega) (by omega)).mono ?_
  rintro e w20 ⟨b_y, A_y, n_y, c_y, rfl, h_y, hb⟩
  replace Q_a := Lib.hid (Q_a.out.below hb)
  replace Q_b := Lib.hid (Q_b.out.below hb)
  replace Q_q := Lib.hid (Q_q.out.below hb)
  replace Q_p := Lib.hid (Q_p.out.below hb)
  replace Q_s := Lib.hid (Q_s.out.below hb)
  replace Q_m := Lib.hid (Q_m.out.below hb)
  replace Z_x := Lib.hid (Z_x.out.below hb)
  replace B_a := Lib.hid (B_a.out.below hb)
  replace B_b := Lib.hid (B_b.out.below hb)
  replace B_z := Lib.hid (B_z.out.below hb)
  replace B_q := Lib.hid (B_q.out.below hb)
  replace B_p := Lib.hid (B_p.out.below hb)
  replace B_f := Lib.hid (B_f.out.below hb)
  replace hB := below_next hB hb
  clear hb
  have Z_y := Lib.hid h_y
  clear h_y
  have c_a0 := B_a.out.cell0
  have c_a1 := B_a.out.cell1
  have c_a2 := B_a.out.cell2
  have c_b0 := B_b.out.cell0
  have c_b1 := B_b.out.cell1
  have c_b2 := B_b.out.cell2
  have c_z0 := B_z.out.cell0
  have c_z1 := B_z.out.cell1
  have c_z2 := B_z.out.cell2
  have c_q0 := B_q.out.cell0
  have c_q1 := B_q.out.cell1
  have c_q2 := B_q.out.cell2
  have c_p0 := B_p.out.cell0
  have c_p1 := B_p.out.cell1
  have c_p2 := B_p.out.cell2
  have c_f0 := B_f.out.cell0
  have c_f1 := B_f.out.cell1
  have c_f2 := B_f.out.cell2
  go_wp2_with fail
  clear c_a0 c_a1 c_a2 c_b0 c_b1 c_b2 c_z0 c_z1 c_z2 c_q0 c_q1 c_q2 c_p0 c_p1 c_p2 c_f0 c_f1 c_f2
  refine (rsameint (by exact Z_x.out) (by exact Z_y.out)).mono ?_
  rintro e w21 ⟨rfl, hb⟩
  replace Q_a := Lib.hid (Q_a.out.below hb)
  replace Q_b := Lib.hid (Q_b.out.below hb)
  replace Q_q := Lib.hid (Q_q.out.below hb)
  replace Q_p := Lib.hid (Q_p.out.below hb)
  replace Q_s := Lib.hid (Q_s.out.below hb)
  replace Q_m := Lib.hid (Q_m.out.below hb)
  replace Z_x := Lib.hid (Z_x.out.below hb)
  replace Z_y := Lib.hid (Z_y.out.below hb)
  replace B_a := Lib.hid (B_a.out.below hb)
  replace B_b := Lib.hid (B_b.out.below hb)
  replace B_z := Lib.hid (B_z.out.below hb)
  replace B_q := Lib.hid (B_q.out.below hb)
  replace B_p := Lib.hid (B_p.out.below hb)
  replace B_f := Lib.hid (B_f.out.below hb)
  replace hB := below_next hB hb
  clear hb
  have c_a0 := B_a.out.cell0
  have c_a1 := B_a.out.cell1
  have c_a2 := B_a.out.cell2
  have c_b0 := B_b.out.cell0
  have c_b1 := B_b.out.cell1
  have c_b2 := B_b.out.cell2
  have c_z0 := B_z.out.cell0
  have c_z1 := B_z.out.cell1
  have c_z2 := B_z.out.cell2
  have c_q0 := B_q.out.cell0
  have c_q1 := B_q.out.cell1
  have c_q2 := B_q.out.cell2
  have c_p0 := B_p.out.cell0
  have c_p1 := B_p.out.cell1
  have c_p2 := B_p.out.cell2
  have c_f0 := B_f.out.cell0
  have c_f1 := B_f.out.cell1
  have c_f2 := B_f.out.cell2
  go_wp2_with fail
  clear c_a0 c_a1 c_a2 c_b0 c_b1 c_b2 c_z0 c_z1 c_z2 c_q0 c_q1 c_q2 c_p0 c_p1 c_p2 c_f0 c_f1 c_f2
  refine (qround_any _ _ _ _ 1 _ (by exact Q_a.out.rat S_a) (by omega) (by omega)).mono ?_
  rintro e w22 ⟨b_u, A_u, n_u, c_u, rfl, h_u, hb⟩
  replace Q_a := Lib.hid (Q_a.out.below hb)
  replace Q_b := Lib.hid (Q_b.out.below hb)
  replace Q_q := Lib.hid (Q_q.out.below hb)
  replace Q_p := Lib.hid (Q_p.out.below hb)
  replace Q_s := Lib.hid (Q_s.out.below hb)
  replace Q_m := Lib.hid (Q_m.out.below hb)
  replace Z_x := Lib.hid (Z_x.out.below hb)
  replace Z_y := Lib.hid (Z_y.out.below hb)
  replace B_a := Lib.hid (B_a.out.below hb)
  replace B_b := Lib.hid (B_b.out.below hb)
  replace B_z := Lib.hid (B_z.out.below hb)
  replace B_q := Lib.hid (B_q.out.below hb)
  replace B_p := Lib.hid (B_p.out.below hb)
  replace B_f := Lib.hid (B_f.out.below hb)
  replace hB := below_next hB hb
  clear hb
  rw [ex6] at h_u
  have Z_u := Lib.hid h_u
  clear h_u
  have c_a0 := B_a.out.cell0
  have c_a1 := B_a.out.cell1
  have c_a2 := B_a.out.cell2
  have c_b0 := B_b.out.cell0
  have c_b1 := B_b.out.cell1
  have c_b2 := B_b.out.cell2
  have c_z0 := B_z.out.cell0
  have c_z1 := B_z.out.cell1
  have c_z2 := B_z.out.cell2
  have c_q0 := B_q.out.cell0
  have c_q1 := B_q.out.cell1
  have c_q2 := B_q.out.cell2
  have c_p0 := B_p.out.cell0
  have c_p1 := B_p.out.cell1
  have c_p2 := B_p.out.cell2
  have c_f0 := B_f.out.cell0
  have c_f1 := B_f.out.cell1
  have c_f2 := B_f.out.cell2
  go_wp2_with fail
  clear c_a0 c_a1 c_a2 c_b0 c_b1 c_b2 c_z0 c_z1 c_z2 c_q0 c_q1 c_q2 c_p0 c_p1 c_p2 c_f0 c_f1 c_f2
  refine (riof_any (-2) _ (by omega) (by omega)).mono ?_
  rintro e w23 ⟨b_v, A_v, n_v, c_v, rfl, h_v, hb⟩
  replace Q_a := Lib.hid (Q_a.out.below hb)
  replace Q_b := Lib.hid (Q_b.out.below hb)
  replace Q_q := Lib.hid (Q_q.out.below hb)
  replace Q_p := Lib.hid (Q_p.out.below hb)
  replace Q_s := Lib.hid (Q_s.out.below hb)
  replace Q_m := Lib.hid (Q_m.out.below hb)
  replace Z_x := Lib.hid (Z_x.out.below hb)
  replace Z_y := Lib.hid (Z_y.out.below hb)
  replace Z_u := Lib.hid (Z_u.out.below hb)
  replace B_a := Lib.hid (B_a.out.below hb)
  replace B_b := Lib.hid (B_b.out.below hb)
  replace B_z := Lib.hid (B_z.out.below hb)
  replace B_q := Lib.hid (B_q.out.below hb)
  replace B_p := Lib.hid (B_p.out.below hb)
  replace B_f := Lib.hid (B_f.out.below hb)
  replace hB := below_next hB hb
  clear hb
  have Z_v := Lib.hid h_v
  clear h_v
  have c_a0 := B_a.out.cell0
  have c_a1 := B_a.out.cell1
  have c_a2 := B_a.out.cell2
  have c_b0 := B_b.out.cell0
  have c_b1 := B_b.out.cell1
  have c_b2 := B_b.out.cell2
  have c_z0 := B_z.out.cell0
  have c_z1 := B_z.out.cell1
  have c_z2 := B_z.out.cell2
  have c_q0 := B_q.out.cell0
  have c_q1 := B_q.out.cell1
  have c_q2 := B_q.out.cell2
  have c_p0 := B_p.out.cell0
  have c_p1 := B_p.out.cell1
  have c_p2 := B_p.out.cell2
  have c_f0 := B_f.out.cell0
  have c_f1 := B_f.out.cell1
  have c_f2 := B_f.out.cell2
  go_wp2_with fail
  clear c_a0 c_a1 c_a2 c_b0 c_b1 c_b2 c_z0 c_z1 c_z2 c_q0 c_q1 c_q2 c_p0 c_p1 c_p2 c_f0 c_f1 c_f2
  refine (rsameint (by exact Z_u.out) (by exact Z_v.out)).mono ?_
  rintro e w24 ⟨rfl, hb⟩
  replace Q_a := Lib.hid (Q_a.out.below hb)
  replace Q_b := Lib.hid (Q_b.out.below hb)
  replace Q_q := Lib.hid (Q_q.out.below hb)
  replace Q_p := Lib.hid (Q_p.out.below hb)
  replace Q_s := Lib.hid (Q_s.out.below hb)
  replace Q_m := Lib.hid (Q_m.out.below hb)
  replace Z_x := Lib.hid (Z_x.out.below hb)
  replace Z_y := Lib.hid (Z_y.out.below hb)
  replace Z_u := Lib.hid (Z_u.out.below hb)
  replace Z_v := Lib.hid (Z_v.out.below hb)
  replace B_a := Lib.hid (B_a.out.below hb)
  replace B_b := Lib.hid (B_b.out.below hb)
  replace B_z := Lib.hid (B_z.out.below hb)
  replace B_q := Lib.hid (B_q.out.below hb)
  replace B_p := Lib.hid (B_p.out.below hb)
  replace B_f := Lib.hid (B_f.out.below hb)
  replace hB := below_next hB hb
  clear hb
  have c_a0 := B_a.out.cell0
  have c_a1 := B_a.out.cell1
  have c_a2 := B_a.out.cell2
  have c_b0 := B_b.out.cell0
  have c_b1 := B_b.out.cell1
  have c_b2 := B_b.out.cell2
  have c_z0 := B_z.out.cell0
  have c_z1 := B_z.out.cell1
  have c_z2 := B_z.out.cell2
  have c_q0 := B_q.out.cell0
  have c_q1 := B_q.out.cell1
  have c_q2 := B_q.out.cell2
  have c_p0 := B_p.out.cell0
  have c_p1 := B_p.out.cell1
  have c_p2 := B_p.out.cell2
  have c_f0 := B_f.out.cell0
  have c_f1 := B_f.out.cell1
  have c_f2 := B_f.out.cell2
  go_wp2
  go_ret
  exact ⟨rfl, hB⟩
end Go.Proofs.YtoflndeonegkpaaDoor
