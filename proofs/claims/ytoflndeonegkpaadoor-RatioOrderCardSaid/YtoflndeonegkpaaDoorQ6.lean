/- strings.Cut at a slash; ratio.Parse. -/
import Derived.Test.YtoflndeonegkpaaDoorQ5
namespace Go.Proofs.YtoflndeonegkpaaDoor
open Go.RowKit

/-- Where the first slash stands. -/
def slashAt (l : List UInt8) : Int := Lib.indexByte l 47
def fore (l : List UInt8) : List UInt8 := if 0 ≤ slashAt l then l.take (slashAt l).toNat else l
def aft (l : List UInt8) : List UInt8 := if 0 ≤ slashAt l then l.drop ((slashAt l).toNat + 1) else []
def GivesCut (w : World) (s : ByteArray) (e : Ending) (w' : World) : Prop := ∃ t u : ByteArray, e = .returned (.tuple #[.string t, .string u, .bool (decide (0 ≤ slashAt s.data.toList))]) ∧ t.data.toList = fore s.data.toList ∧ u.data.toList = aft s.data.toList ∧ t.size ≤ s.size ∧ u.size ≤ s.size ∧ Below w.heap.size w w'
theorem slash_lt : ∀ l : List UInt8, Lib.indexByte l 47 < l.length
  | [] => by decide
  | b :: l => by
    have := slash_lt l
    unfold Lib.indexByte
    rw [List.length_cons]
    split
    · omega
    · split
      · omega
      · omega
theorem ext_take (s : ByteArray) (k : Nat) : (s.extract 0 k).data.toList = s.data.toList.take k := by
  rw [ByteArray.data_extract, Array.toList_extract, List.extract_eq_take_drop]
  simp
set_option maxRecDepth 100000 in
set_option maxHeartbeats 8000000 in
theorem qcutlite_any (s : ByteArray) (w : World) (hs : s.size ≤ 9223372036854775807) : Calls Tryd.prog 72 #[.string s, .string ⟨#[47]⟩] w (GivesCut w s) := by
  have hl := slash_lt s.data.toList
  rw [size_list] at hl
  by_cases h : 0 ≤ slashAt s.data.toList
  · obtain ⟨i, hi⟩ := Int.eq_ofNat_of_zero_le h
    have HI := Lib.hid hi
    have hi2 : Lib.indexByte s.data.toList 47 = (i : Int) := hi
    rw [hi2] at hl
    have hl1 : (i : Int) ≤ (s.size : Int) := by omega
    have hl2 : (i : Int) + 1 ≤ (s.size : Int) := by omega
    have hl0 : (0 : Int) ≤ (i : Int) + 1 := by omega
    have hw : IntKind.i64.wrap ((i : Int) + 1) = (i : Int) + 1 := by rw [IntKind.wrap_i64]; omega
    clear h hi
    go_enter Tryd.func72, Tryd.ntmps72
    go_wp2_with fail
    refine (Tryd.stringslite_Index_one s 47 _).mono ?_
    rintro e w' ⟨rfl, rfl⟩
    rw [hi2]
    clear hi2
    go_wp2
    refine wp_region_named (S := (fun w' => True)) (by kernel_rfl) (by exact trivial) (fun V1 hb hHeld => ?_)
    have hB := hb
    clear hb
    refine wpAnyH_takeQ 0 (v := ?_) (fun _ _ _ _ _ h => h) (by simp only [List.getElem?_toArray, List.getElem?_cons_zero]; rfl) (by kernel_rfl) (by kernel_rfl) (by kernel_rfl) (by rfl) ?_ hHeld ?_; rotate_left; · (intro w hSw; (try dsimp only at hSw); go_simp; (try with_reducible rfl))
    try simp only [Act.put, List.setIfInBounds_toArray, List.set_cons_zero, List.set_cons_succ]
    refine wpAnyH_takeQ 1 (v := ?_) (fun _ _ _ _ _ h => h) (by simp only [List.getElem?_toArray, List.getElem?_cons_succ, List.getElem?_cons_zero]; rfl) (by kernel_rfl) (by kernel_rfl) (by kernel_rfl) (by rfl) ?_ hHeld ?_; rotate_left; · (intro w hSw; (try dsimp only at hSw); go_simp; (try with_reducible rfl))
    try simp only [Act.put, List.setIfInBounds_toArray, List.set_cons_zero, List.set_cons_succ]
    refine wpAnyH_takeQ 2 (v := ?_) (fun _ _ _ _ _ h => h) (by simp only [List.getElem?_toArray, List.getElem?_cons_succ, List.getElem?_cons_zero]; rfl) (by kernel_rfl) (by kernel_rfl) (by kernel_rfl) (by rfl) ?_ hHeld ?_; rotate_left; · (intro w hSw; (try dsimp only at hSw); go_simp; (try with_reducible rfl))
    try simp only [Act.put, List.setIfInBounds_toArray, List.set_cons_zero, List.set_cons_succ]
    refine wpAnyH_takeQ 3 (v := ?_) (fun _ _ _ _ _ h => h) (by simp only [List.getElem?_toArray, List.getElem?_cons_succ, List.getElem?_cons_zero]; rfl) (by kernel_rfl) (by kernel_rfl) (by kernel_rfl) (by rfl) ?_ hHeld ?_; rotate_left; · (intro w hSw; (try dsimp only at hSw); go_simp; (try with_reducible rfl))
    try simp only [Act.put, List.setIfInBounds_toArray, List.set_cons_zero, List.set_cons_succ]
    refine wpAnyH_takeQ 4 (v := ?_) (fun _ _ _ _ _ h => h) (by simp only [List.getElem?_toArray, List.getElem?_cons_succ, List.getElem?_cons_zero]; rfl) (by kernel_rfl) (by kernel_rfl) (by kernel_rfl) (by rfl) ?_ hHeld ?_; rotate_left; · (intro w hSw; (try dsimp only at hSw); go_simp; (try with_reducible rfl))
    try simp only [Act.put, List.setIfInBounds_toArray, List.set_cons_zero, List.set_cons_succ]
    refine wpAnyH_takeQ 5 (v := ?_) (fun _ _ _ _ _ h => h) (by simp only [List.getElem?_toArray, List.getElem?_cons_succ, List.getElem?_cons_zero]; rfl) (by kernel_rfl) (by kernel_rfl) (by kernel_rfl) (by rfl) ?_ hHeld ?_; rotate_left; · (intro w hSw; (try dsimp only at hSw); go_simp; (try with_reducible rfl))
    try simp only [Act.put, List.setIfInBounds_toArray, List.set_cons_zero, List.set_cons_succ]
    refine wpAnyH_takeQ 6 (v := ?_) (fun _ _ _ _ _ h => h) (by simp only [List.getElem?_toArray, List.getElem?_cons_succ, List.getElem?_cons_zero]; rfl) (by kernel_rfl) (by kernel_rfl) (by kernel_rfl) (by rfl) ?_ hHeld ?_; rotate_left; · (intro w hSw; (try dsimp only at hSw); go_simp; (try with_reducible rfl))
    try simp only [Act.put, List.setIfInBounds_toArray, List.set_cons_zero, List.set_cons_succ]
    refine wpAnyH_takeQ 7 (v := ?_) (fun _ _ _ _ _ h => h) (by simp only [List.getElem?_toArray, List.getElem?_cons_succ, List.getElem?_cons_zero]; rfl) (by kernel_rfl) (by kernel_rfl) (by kernel_rfl) (by rfl) ?_ hHeld ?_; rotate_left; · (intro w hSw; (try dsimp only at hSw); go_simp; (try with_reducible rfl))
    try simp only [Act.put, List.setIfInBounds_toArray, List.set_cons_zero, List.set_cons_succ]
    refine wpAnyH_takeQ 8 (v := ?_) (fun _ _ _ _ _ h => h) (by simp only [List.getElem?_toArray, List.getElem?_cons_succ, List.getElem?_cons_zero]; rfl) (by kernel_rfl) (by kernel_rfl) (by kernel_rfl) (by rfl) ?_ hHeld ?_; rotate_left; · (intro w hSw; (try dsimp only at hSw); go_simp; (try with_reducible rfl))
    try simp only [Act.put, List.setIfInBounds_toArray, List.set_cons_zero, List.set_cons_succ]
    refine wpAnyH_takeQ 9 (v := ?_) (fun _ _ _ _ _ h => h) (by simp only [List.getElem?_toArray, List.getElem?_cons_succ, List.getElem?_cons_zero]; rfl) (by kernel_rfl) (by kernel_rfl) (by kernel_rfl) (by rfl) ?_ hHeld ?_; rotate_left; · (intro w hSw; (try dsimp only at hSw); go_simp; (try with_reducible rfl))
    try simp only [Act.put, List.setIfInBounds_toArray, List.set_cons_zero, List.set_cons_succ]
    refine wpAnyH_takeQ 10 (v := ?_) (fun _ _ _ _ _ h => h) (by simp only [List.getElem?_toArray, List.getElem?_cons_succ, List.getElem?_cons_zero]; rfl) (by kernel_rfl) (by kernel_rfl) (by kernel_rfl) (by rfl) ?_ hHeld ?_; rotate_left; · (intro w hSw; (try dsimp only at hSw); go_simp; (try with_reducible rfl))
    try simp only [Act.put, List.setIfInBounds_toArray, List.set_cons_zero, List.set_cons_succ]
    refine wpAnyH_takeQ 11 (v := ?_) (fun _ _ _ _ _ h => h) (by simp only [List.getElem?_toArray, List.getElem?_cons_succ, List.getElem?_cons_zero]; rfl) (by kernel_rfl) (by kernel_rfl) (by kernel_rfl) (by rfl) ?_ hHeld ?_; rotate_left; · (intro w hSw; (try dsimp only at hSw); go_simp; (try with_reducible rfl))
    try simp only [Act.put, List.setIfInBounds_toArray, List.set_cons_zero, List.set_cons_succ]
    refine wpAnyH_done (by kernel_rfl) (NoPanic.normal ?_) _
    clear hHeld
    go_wp2
    go_ret3
    exact ⟨s.extract 0 i, s.extract (i + 1) s.size, by rw [HI.out]; rfl, by rw [ext_take, fore, HI.out, if_pos (by omega)]; rfl, by rw [ext_drop, aft, HI.out, if_pos (by omega)]; rfl, by rw [← size_list, ext_take, List.length_take, size_list]; omega, by rw [← size_list, ext_drop, List.length_drop, size_list]; omega, hB⟩
  · skip
    have hneg : slashAt s.data.toList = -1 := by have := Lib.indexByte_ge s.data.toList 47; unfold slashAt at h ⊢; omega
    have HI := Lib.hid hneg
    have hi2 : Lib.indexByte s.data.toList 47 = -1 := hneg
    clear h hneg hl
    go_enter Tryd.func72, Tryd.ntmps72
    go_wp2_with fail
    refine (Tryd.stringslite_Index_one s 47 _).mono ?_
    rintro e w' ⟨rfl, rfl⟩
    rw [hi2]
    clear hi2
    go_wp2
    go_ret3
    exact ⟨s, ⟨#[]⟩, by rw [HI.out]; rfl, by rw [fore, HI.out, if_neg (by omega)], by rw [aft, HI.out, if_neg (by omega)], Nat.le_refl _, Nat.zero_le _, Below.refl _ _⟩
theorem qcut_any (s : ByteArray) (w : World) (hs : s.size ≤ 9223372036854775807) : Calls Tryd.prog 52 #[.string s, .string ⟨#[47]⟩] w (GivesCut w s) := by
  go_enter Tryd.func52, Tryd.ntmps52
  go_wp2_with fail
  refine (qcutlite_any s _ hs).mono ?_
  rintro e w1 ⟨t, u, rfl, h1, h2, l1, l2, hb⟩
  have H := Lib.hid (And.intro h1 h2)
  clear h1 h2
  go_wp2
  go_ret3
  exact ⟨t, u, rfl, H.out.1, H.out.2, l1, l2, hb⟩
theorem zp_len (l : List UInt8) : (limbs (zpNum l).natAbs).length ≤ 200 := by
  unfold zpNum
  split
  · rename_i h
    unfold zpErr at h
    split
    · rename_i h1
      rw [if_pos h1] at h
      have h2 : parseErr l.tail = 0 := by
        split at h
        · assumption
        · exact h
      rw [Int.natAbs_neg, Int.natAbs_natCast, ← parse_num_ok h2]
      exact Nat.le_trans parse_num_len (by omega)
    · rename_i h1
      rw [if_neg h1] at h
      rw [Int.natAbs_natCast, ← parse_num_ok h]
      exact Nat.le_trans parse_num_len (by omega)
  · simp [limbs_zero]
open Go.Lib (decDigits)
/-- What Parse returns: the error's code and the ratio. -/
def qpErr (l : List UInt8) : Int := if zpErr (fore l) = 0 then (if 0 ≤ slashAt l then (if parseErr (aft l) = 0 then (if decVal (aft l) ≤ 1 ∨ 1 < Nat.gcd (zpNum (fore l)).natAbs (decVal (aft l)) then 2 else 0) else parseErr (aft l)) else 0) else zpErr (fore l)
def qpNum (l : List UInt8) : Rat := if 0 ≤ slashAt l then mkRat (zpNum (fore l)) (decVal (aft l)) else ((zpNum (fore l) : Int) : Rat)
def GivesQE (w : World) (q : Rat) (e : Ending) (w' : World) : Prop := ∃ b A n c D n2 c2, e = .returned (.tuple #[.agg #[.bool b, .slice A n c, .slice D n2 c2], .int .i64 0]) ∧ QAt w' b (.slice A n c) (.slice D n2 c2) q ∧ Below w.heap.size w w'
def GivesErr (w : World) (c : Int) (e : Ending) (w' : World) : Prop := e = .returned (.tuple #[.agg #[.bool false, .slice none 0 0, .slice none 0 0], .int .i64 c]) ∧ Below w.heap.size w w'
theorem mk_low {z : Int} {D : Nat} (hD : 1 < D) (hg : ¬ 1 < Nat.gcd z.natAbs D) : (mkRat z D).num = z ∧ (mkRat z D).den = D := by
  have h1 : Nat.gcd z.natAbs D = 1 := by have := gcd_ne (X := z.natAbs) (show D ≠ 0 by omega); omega
  refine ⟨?_, ?_⟩
  · rw [Rat.num_mkRat, if_neg (by omega), Nat.gcd_comm, h1]; simp
  · rw [qden_of z (by omega), h1, Nat.div_one]
set_option maxRecDepth 100000 in
set_option maxHeartbeats 8000000 in
theorem qparse_e1 (s : ByteArray) (w : World) (hs : s.size ≤ 9223372036854775807) (h1 : zpErr (fore s.data.toList) ≠ 0) : Calls Tryd.prog 27 #[.string s] w (GivesErr w (zpErr (fore s.data.toList))) := by
  have e1 : (zpErr (fore s.data.toList) != 0) = true := by rw [bne_iff_ne]; exact h1
  go_enter Tryd.func27, Tryd.ntmps27
  go_upto_region 1 with fail
  obtain ⟨W0, hW, B_r, HW, HS⟩ := rbox1 w (.bool false) (.slice none 0 0) (.slice none 0 0)
  rw [hW]
  clear hW
  have hB := HW.out
  have hsz := HS.out
  clear HW HS
  have c_r0 := B_r.out.cell0
  have c_r1 := B_r.out.cell1
  have c_r2 := B_r.out.cell2
  go_wp2_with fail
  clear c_r0 c_r1 c_r2
  refine (qcut_any s _ hs).mono ?_
  rintro e w1 ⟨t, u, rfl, ht, hu, lt, lu, hb⟩
  replace B_r := Lib.hid (B_r.out.below hb)
  replace hB := below_next hB hb
  clear hb
  have HTU := Lib.hid (And.intro ht hu)
  clear ht hu
  have c_r0 := B_r.out.cell0
  have c_r1 := B_r.out.cell1
  have c_r2 := B_r.out.cell2
  go_wp2_with fail
  clear c_r0 c_r1 c_r2
  refine (iparse_any t _ (by omega)).mono ?_
  rintro e w2 ⟨b_n, A_n, n_n, c_n, rfl, h_n, hb⟩
  replace B_r := Lib.hid (B_r.out.below hb)
  replace hB := below_next hB hb
  clear hb
  rw [HTU.out.1] at h_n ⊢
  have Z_n := Lib.hid h_n
  clear h_n
  have c_r0 := B_r.out.cell0
  have c_r1 := B_r.out.cell1
  have c_r2 := B_r.out.cell2
  go_upto_region 3 with fail
  clear c_r0 c_r1 c_r2
  obtain ⟨W3, g_n, hV, hg, NB, hb⟩ := newI w2 (.bool b_n) (.slice A_n n_n c_n)
  rw [hV, hg]
  clear hV
  have l_n_r : w.heap.size < g_n := hg ▸ B_r.out.lt
  replace Z_n := Lib.hid (Z_n.out.below hb)
  replace B_r := Lib.hid (B_r.out.below hb)
  replace hB := below_next hB hb
  have B_n := NB
  clear NB hb hg
  have c_r0 := B_r.out.cell0
  have c_r1 := B_r.out.cell1
  have c_r2 := B_r.out.cell2
  have f_r0 := B_r.out.fro 0
  have f_r1 := B_r.out.fro 1
  have f_r2 := B_r.out.fro 2
  have c_n0 := B_n.out.cell0
  have c_n1 := B_n.out.cell1
  go_wp2
  clear c_r0 c_r1 c_r2 f_r0 f_r1 f_r2 c_n0 c_n1
  obtain ⟨V4, hV, NB, KP⟩ := storeR B_r.out (.bool false) (.slice none 0 0) (.slice none 0 0)
  rw [hV]
  clear hV
  replace Z_n := Lib.hid (Z_n.out.keeps KP.out)
  replace B_n := Lib.hid (B_n.out.keeps KP.out (by omega))
  replace hB := below_keeps hB KP.out (by omega)
  have B_r := NB
  clear NB KP
  have c_r0 := B_r.out.cell0
  have c_r1 := B_r.out.cell1
  have c_r2 := B_r.out.cell2
  refine bodyPost_ret (v := .tuple #[.agg #[.bool false, .slice none 0 0, .slice none 0 0], .int .i64 (zpErr (fore s.data.toList))]) (by simp [results, Tryd.results27, go_sem, c_r0, c_r1, c_r2]) rfl ?_
  exact ⟨rfl, hB⟩
set_option maxRecDepth 100000 in
set_option maxHeartbeats 8000000 in
theorem qparse_int (s : ByteArray) (w : World) (hs : s.size ≤ 9223372036854775807) (h1 : zpErr (fore s.data.toList) = 0) (hf : ¬ 0 ≤ slashAt s.data.toList) : Calls Tryd.prog 27 #[.string s] w (GivesQE w ((zpNum (fore s.data.toList) : Int) : Rat)) := by
  have HE1 := Lib.hid h1
  clear h1
  have ef := decide_eq_false hf
  go_enter Tryd.func27, Tryd.ntmps27
  go_upto_region 1 with fail
  obtain ⟨W0, hW, B_r, HW, HS⟩ := rbox1 w (.bool false) (.slice none 0 0) (.slice none 0 0)
  rw [hW]
  clear hW
  have hB := HW.out
  have hsz := HS.out
  clear HW HS
  have c_r0 := B_r.out.cell0
  have c_r1 := B_r.out.cell1
  have c_r2 := B_r.out.cell2
  go_wp2_with fail
  clear c_r0 c_r1 c_r2
  refine (qcut_any s _ hs).mono ?_
  rintro e w1 ⟨t, u, rfl, ht, hu, lt, lu, hb⟩
  replace B_r := Lib.hid (B_r.out.below hb)
  replace hB := below_next hB hb
  clear hb
  have HTU := Lib.hid (And.intro ht hu)
  clear ht hu
  have c_r0 := B_r.out.cell0
  have c_r1 := B_r.out.cell1
  have c_r2 := B_r.out.cell2
  go_wp2_with fail
  clear c_r0 c_r1 c_r2
  refine (iparse_any t _ (by omega)).mono ?_
  rintro e w2 ⟨b_n, A_n, n_n, c_n, rfl, h_n, hb⟩
  replace B_r := Lib.hid (B_r.out.below hb)
  replace hB := below_next hB hb
  clear hb
  rw [HTU.out.1] at h_n ⊢
  have Z_n := Lib.hid h_n
  clear h_n
  rw [HE1.out]
  have c_r0 := B_r.out.cell0
  have c_r1 := B_r.out.cell1
  have c_r2 := B_r.out.cell2
  go_upto_region 5 with fail
  clear c_r0 c_r1 c_r2
  obtain ⟨W3, g_n, hV, hg, NB, hb⟩ := newI w2 (.bool b_n) (.slice A_n n_n c_n)
  rw [hV, hg]
  clear hV
  have l_n_r : w.heap.size < g_n := hg ▸ B_r.out.lt
  replace Z_n := Lib.hid (Z_n.out.below hb)
  replace B_r := Lib.hid (B_r.out.below hb)
  replace hB := below_next hB hb
  have B_n := NB
  clear NB hb hg
  have c_r0 := B_r.out.cell0
  have c_r1 := B_r.out.cell1
  have c_r2 := B_r.out.cell2
  have c_n0 := B_n.out.cell0
  have c_n1 := B_n.out.cell1
  go_wp2_with fail
  clear c_r0 c_r1 c_r2 c_n0 c_n1
  refine (of_any 1 _ (by omega)).mono ?_
  rintro e w4 ⟨v_o, rfl, h_o, hb⟩
  replace Z_n := Lib.hid (Z_n.out.below hb)
  replace B_r := Lib.hid (B_r.out.below hb)
  replace B_n := Lib.hid (B_n.out.below hb)
  replace hB := below_next hB hb
  clear hb
  obtain ⟨A_o, c_o, rfl, _, _⟩ := h_o.form
  have N_o := Lib.hid h_o
  clear h_o
  have c_r0 := B_r.out.cell0
  have c_r1 := B_r.out.cell1
  have c_r2 := B_r.out.cell2
  have f_r0 := B_r.out.fro 0
  have f_r1 := B_r.out.fro 1
  have f_r2 := B_r.out.fro 2
  have c_n0 := B_n.out.cell0
  have c_n1 := B_n.out.cell1
  go_wp2
  clear c_r0 c_r1 c_r2 f_r0 f_r1 f_r2 c_n0 c_n1
  obtain ⟨V5, hV, NB, KP⟩ := storeR B_r.out (.bool b_n) (.slice A_n n_n c_n) (.slice A_o (limbs 1).length c_o)
  rw [hV]
  clear hV
  replace Z_n := Lib.hid (Z_n.out.keeps KP.out)
  replace N_o := Lib.hid (N_o.out.keeps KP.out)
  replace B_n := Lib.hid (B_n.out.keeps KP.out (by omega))
  replace hB := below_keeps hB KP.out (by omega)
  have B_r := NB
  clear NB KP
  have c_r0 := B_r.out.cell0
  have c_r1 := B_r.out.cell1
  have c_r2 := B_r.out.cell2
  refine bodyPost_ret (v := .tuple #[.agg #[.bool b_n, .slice A_n n_n c_n, .slice A_o (limbs 1).length c_o], .int .i64 0]) (by simp [results, Tryd.results27, go_sem, c_r0, c_r1, c_r2]) rfl ?_
  exact ⟨_, _, _, _, _, _, _, rfl, ⟨Z_n.out, N_o.out⟩, hB⟩
set_option maxRecDepth 100000 in
set_option maxHeartbeats 8000000 in
theorem qparse_e2 (s : ByteArray) (w : World) (hs : s.size ≤ 9223372036854775807) (h1 : zpErr (fore s.data.toList) = 0) (hf : 0 ≤ slashAt s.data.toList) (h2 : parseErr (aft s.data.toList) ≠ 0) : Calls Tryd.prog 27 #[.string s] w (GivesErr w (parseErr (aft s.data.toList))) := by
  have HE1 := Lib.hid h1
  clear h1
  have ef := decide_eq_true hf
  have e2 : (parseErr (aft s.data.toList) != 0) = true := by rw [bne_iff_ne]; exact h2
  go_enter Tryd.func27, Tryd.ntmps27
  go_upto_region 1 with fail
  obtain ⟨W0, hW, B_r, HW, HS⟩ := rbox1 w (.bool false) (.slice none 0 0) (.slice none 0 0)
  rw [hW]
  clear hW
  have hB := HW.out
  have hsz := HS.out
  clear HW HS
  have c_r0 := B_r.out.cell0
  have c_r1 := B_r.out.cell1
  have c_r2 := B_r.out.cell2
  go_wp2_with fail
  clear c_r0 c_r1 c_r2
  refine (qcut_any s _ hs).mono ?_
  rintro e w1 ⟨t, u, rfl, ht, hu, lt, lu, hb⟩
  replace B_r := Lib.hid (B_r.out.below hb)
  replace hB := below_next hB hb
  clear hb
  have HTU := Lib.hid (And.intro ht hu)
  clear ht hu
  have c_r0 := B_r.out.cell0
  have c_r1 := B_r.out.cell1
  have c_r2 := B_r.out.cell2
  go_wp2_with fail
  clear c_r0 c_r1 c_r2
  refine (iparse_any t _ (by omega)).mono ?_
  rintro e w2 ⟨b_n, A_n, n_n, c_n, rfl, h_n, hb⟩
  replace B_r := Lib.hid (B_r.out.below hb)
  replace hB := below_next hB hb
  clear hb
  rw [HTU.out.1] at h_n ⊢
  have Z_n := Lib.hid h_n
  clear h_n
  rw [HE1.out]
  have c_r0 := B_r.out.cell0
  have c_r1 := B_r.out.cell1
  have c_r2 := B_r.out.cell2
  go_upto_region 5 with fail
  clear c_r0 c_r1 c_r2
  obtain ⟨W3, g_n, hV, hg, NB, hb⟩ := newI w2 (.bool b_n) (.slice A_n n_n c_n)
  rw [hV, hg]
  clear hV
  have l_n_r : w.heap.size < g_n := hg ▸ B_r.out.lt
  replace Z_n := Lib.hid (Z_n.out.below hb)
  replace B_r := Lib.hid (B_r.out.below hb)
  replace hB := below_next hB hb
  have B_n := NB
  clear NB hb hg
  have c_r0 := B_r.out.cell0
  have c_r1 := B_r.out.cell1
  have c_r2 := B_r.out.cell2
  have c_n0 := B_n.out.cell0
  have c_n1 := B_n.out.cell1
  go_wp2_with fail
  clear c_r0 c_r1 c_r2 c_n0 c_n1
  refine (of_any 1 _ (by omega)).mono ?_
  rintro e w4 ⟨v_o, rfl, h_o, hb⟩
  replace Z_n := Lib.hid (Z_n.out.below hb)
  replace B_r := Lib.hid (B_r.out.below hb)
  replace B_n := Lib.hid (B_n.out.below hb)
  replace hB := below_next hB hb
  clear hb
  obtain ⟨A_o, c_o, rfl, _, _⟩ := h_o.form
  have N_o := Lib.hid h_o
  clear h_o
  have c_r0 := B_r.out.cell0
  have c_r1 := B_r.out.cell1
  have c_r2 := B_r.out.cell2
  have c_n0 := B_n.out.cell0
  have c_n1 := B_n.out.cell1
  go_wp2_with fail
  clear c_r0 c_r1 c_r2 c_n0 c_n1
  refine (parse_any u _ (by omega)).mono ?_
  rintro e w5 ⟨v_d, rfl, h_d, hb⟩
  replace Z_n := Lib.hid (Z_n.out.below hb)
  replace N_o := Lib.hid (N_o.out.below hb)
  replace B_r := Lib.hid (B_r.out.below hb)
  replace B_n := Lib.hid (B_n.out.below hb)
  replace hB := below_next hB hb
  clear hb
  rw [HTU.out.2] at h_d ⊢
  obtain ⟨A_d, c_d, rfl, _, _⟩ := h_d.form
  have N_d := Lib.hid h_d
  clear h_d
  have c_r0 := B_r.out.cell0
  have c_r1 := B_r.out.cell1
  have c_r2 := B_r.out.cell2
  have f_r0 := B_r.out.fro 0
  have f_r1 := B_r.out.fro 1
  have f_r2 := B_r.out.fro 2
  have c_n0 := B_n.out.cell0
  have c_n1 := B_n.out.cell1
  go_wp2
  clear c_r0 c_r1 c_r2 f_r0 f_r1 f_r2 c_n0 c_n1
  obtain ⟨V6, hV, NB, KP⟩ := storeR B_r.out (.bool false) (.slice none 0 0) (.slice none 0 0)
  rw [hV]
  clear hV
  replace Z_n := Lib.hid (Z_n.out.keeps KP.out)
  replace N_o := Lib.hid (N_o.out.keeps KP.out)
  replace N_d := Lib.hid (N_d.out.keeps KP.out)
  replace B_n := Lib.hid (B_n.out.keeps KP.out (by omega))
  replace hB := below_keeps hB KP.out (by omega)
  have B_r := NB
  clear NB KP
  have c_r0 := B_r.out.cell0
  have c_r1 := B_r.out.cell1
  have c_r2 := B_r.out.cell2
  refine bodyPost_ret (v := .tuple #[.agg #[.bool false, .slice none 0 0, .slice none 0 0], .int .i64 (parseErr (aft s.data.toList))]) (by simp [results, Tryd.results27, go_sem, c_r0, c_r1, c_r2]) rfl ?_
  exact ⟨rfl, hB⟩
set_option maxRecDepth 100000 in
set_option maxHeartbeats 8000000 in
theorem qparse_e3 (s : ByteArray) (w : World) (hs : s.size ≤ 9223372036854775807) (h1 : zpErr (fore s.data.toList) = 0) (hf : 0 ≤ slashAt s.data.toList) (h2 : parseErr (aft s.data.toList) = 0) (h3 : decVal (aft s.data.toList) ≤ 1) : Calls Tryd.prog 27 #[.string s] w (GivesErr w 2) := by
  have HE1 := Lib.hid h1
  clear h1
  have ef := decide_eq_true hf
  have HE2 := Lib.hid h2
  have hd := parse_num_ok h2
  have hdl := parse_num_len (l := aft s.data.toList)
  rw [hd] at hdl
  have HD := Lib.hid hd
  clear h2 hd
  have hnl : (limbs (zpNum (fore s.data.toList)).natAbs).length ≤ 200 := zp_len _
  go_enter Tryd.func27, Tryd.ntmps27
  go_upto_region 1 with fail
  obtain ⟨W0, hW, B_r, HW, HS⟩ := rbox1 w (.bool false) (.slice none 0 0) (.slice none 0 0)
  rw [hW]
  clear hW
  have hB := HW.out
  have hsz := HS.out
  clear HW HS
  have c_r0 := B_r.out.cell0
  have c_r1 := B_r.out.cell1
  have c_r2 := B_r.out.cell2
  go_wp2_with fail
  clear c_r0 c_r1 c_r2
  refine (qcut_any s _ hs).mono ?_
  rintro e w1 ⟨t, u, rfl, ht, hu, lt, lu, hb⟩
  replace B_r := Lib.hid (B_r.out.below hb)
  replace hB := below_next hB hb
  clear hb
  have HTU := Lib.hid (And.intro ht hu)
  clear ht hu
  have c_r0 := B_r.out.cell0
  have c_r1 := B_r.out.cell1
  have c_r2 := B_r.out.cell2
  go_wp2_with fail
  clear c_r0 c_r1 c_r2
  refine (iparse_any t _ (by omega)).mono ?_
  rintro e w2 ⟨b_n, A_n, n_n, c_n, rfl, h_n, hb⟩
  replace B_r := Lib.hid (B_r.out.below hb)
  replace hB := below_next hB hb
  clear hb
  rw [HTU.out.1] at h_n ⊢
  have Z_n := Lib.hid h_n
  clear h_n
  rw [HE1.out]
  have c_r0 := B_r.out.cell0
  have c_r1 := B_r.out.cell1
  have c_r2 := B_r.out.cell2
  go_upto_region 5 with fail
  clear c_r0 c_r1 c_r2
  obtain ⟨W3, g_n, hV, hg, NB, hb⟩ := newI w2 (.bool b_n) (.slice A_n n_n c_n)
  rw [hV, hg]
  clear hV
  have l_n_r : w.heap.size < g_n := hg ▸ B_r.out.lt
  replace Z_n := Lib.hid (Z_n.out.below hb)
  replace B_r := Lib.hid (B_r.out.below hb)
  replace hB := below_next hB hb
  have B_n := NB
  clear NB hb hg
  have c_r0 := B_r.out.cell0
  have c_r1 := B_r.out.cell1
  have c_r2 := B_r.out.cell2
  have c_n0 := B_n.out.cell0
  have c_n1 := B_n.out.cell1
  go_wp2_with fail
  clear c_r0 c_r1 c_r2 c_n0 c_n1
  refine (of_any 1 _ (by omega)).mono ?_
  rintro e w4 ⟨v_o, rfl, h_o, hb⟩
  replace Z_n := Lib.hid (Z_n.out.below hb)
  replace B_r := Lib.hid (B_r.out.below hb)
  replace B_n := Lib.hid (B_n.out.below hb)
  replace hB := below_next hB hb
  clear hb
  obtain ⟨A_o, c_o, rfl, _, _⟩ := h_o.form
  have N_o := Lib.hid h_o
  clear h_o
  have c_r0 := B_r.out.cell0
  have c_r1 := B_r.out.cell1
  have c_r2 := B_r.out.cell2
  have c_n0 := B_n.out.cell0
  have c_n1 := B_n.out.cell1
  go_wp2_with fail
  clear c_r0 c_r1 c_r2 c_n0 c_n1
  refine (parse_any u _ (by omega)).mono ?_
  rintro e w5 ⟨v_d, rfl, h_d, hb⟩
  replace Z_n := Lib.hid (Z_n.out.below hb)
  replace N_o := Lib.hid (N_o.out.below hb)
  replace B_r := Lib.hid (B_r.out.below hb)
  replace B_n := Lib.hid (B_n.out.below hb)
  replace hB := below_next hB hb
  clear hb
  rw [HTU.out.2] at h_d ⊢
  rw [HD.out] at h_d
  rw [HE2.out]
  obtain ⟨A_d, c_d, rfl, _, _⟩ := h_d.form
  have N_d := Lib.hid h_d
  clear h_d
  have c_r0 := B_r.out.cell0
  have c_r1 := B_r.out.cell1
  have c_r2 := B_r.out.cell2
  have c_n0 := B_n.out.cell0
  have c_n1 := B_n.out.cell1
  go_wp2_with fail
  clear c_r0 c_r1 c_r2 c_n0 c_n1
  obtain ⟨v3, hv3, hv4⟩ : ∃ v : Int, ord (val (limbs (decVal (aft s.data.toList)))) (val (limbs 1)) = v ∧ v ≤ 0 := ⟨_, rfl, by rw [val_limbs, val_limbs]; unfold ord; split; omega; rw [if_neg (by omega)]; omega⟩
  have e3 : decide (v3 ≤ 0) = true := decide_eq_true hv4
  have HV := Lib.hid hv3
  clear hv3
  refine (ncmp_is (v := v3) (by exact N_d.out) (by exact N_o.out) HV.out).mono ?_
  rintro e w6 ⟨rfl, hb⟩
  replace Z_n := Lib.hid (Z_n.out.below hb)
  replace N_o := Lib.hid (N_o.out.below hb)
  replace N_d := Lib.hid (N_d.out.below hb)
  replace B_r := Lib.hid (B_r.out.below hb)
  replace B_n := Lib.hid (B_n.out.below hb)
  replace hB := below_next hB hb
  clear hb
  have c_r0 := B_r.out.cell0
  have c_r1 := B_r.out.cell1
  have c_r2 := B_r.out.cell2
  have f_r0 := B_r.out.fro 0
  have f_r1 := B_r.out.fro 1
  have f_r2 := B_r.out.fro 2
  have c_n0 := B_n.out.cell0
  have c_n1 := B_n.out.cell1
  go_wp2
  clear c_r0 c_r1 c_r2 f_r0 f_r1 f_r2 c_n0 c_n1
  obtain ⟨V7, hV, NB, KP⟩ := storeR B_r.out (.bool false) (.slice none 0 0) (.slice none 0 0)
  rw [hV]
  clear hV
  replace Z_n := Lib.hid (Z_n.out.keeps KP.out)
  replace N_o := Lib.hid (N_o.out.keeps KP.out)
  replace N_d := Lib.hid (N_d.out.keeps KP.out)
  replace B_n := Lib.hid (B_n.out.keeps KP.out (by omega))
  replace hB := below_keeps hB KP.out (by omega)
  have B_r := NB
  clear NB KP
  have c_r0 := B_r.out.cell0
  have c_r1 := B_r.out.cell1
  have c_r2 := B_r.out.cell2
  refine bodyPost_ret (v := .tuple #[.agg #[.bool false, .slice none 0 0, .slice none 0 0], .int .i64 2]) (by simp [results, Tryd.results27, go_sem, c_r0, c_r1, c_r2]) rfl ?_
  exact ⟨rfl, hB⟩
set_option maxRecDepth 100000 in
set_option maxHeartbeats 8000000 in
theorem qparse_e4 (s : ByteArray) (w : World) (hs : s.size ≤ 9223372036854775807) (h1 : zpErr (fore s.data.toList) = 0) (hf : 0 ≤ slashAt s.data.toList) (h2 : parseErr (aft s.data.toList) = 0) (h3 : 1 < decVal (aft s.data.toList)) (h4 : 1 < Nat.gcd (zpNum (fore s.data.toList)).natAbs (decVal (aft s.data.toList))) : Calls Tryd.prog 27 #[.string s] w (GivesErr w 2) := by
  have HE1 := Lib.hid h1
  clear h1
  have ef := decide_eq_true hf
  have HE2 := Lib.hid h2
  have hd := parse_num_ok h2
  have hdl := parse_num_len (l := aft s.data.toList)
  rw [hd] at hdl
  have HD := Lib.hid hd
  clear h2 hd
  have hnl : (limbs (zpNum (fore s.data.toList)).natAbs).length ≤ 200 := zp_len _
  go_enter Tryd.func27, Tryd.ntmps27
  go_upto_region 1 with fail
  obtain ⟨W0, hW, B_r, HW, HS⟩ := rbox1 w (.bool false) (.slice none 0 0) (.slice none 0 0)
  rw [hW]
  clear hW
  have hB := HW.out
  have hsz := HS.out
  clear HW HS
  have c_r0 := B_r.out.cell0
  have c_r1 := B_r.out.cell1
  have c_r2 := B_r.out.cell2
  go_wp2_with fail
  clear c_r0 c_r1 c_r2
  refine (qcut_any s _ hs).mono ?_
  rintro e w1 ⟨t, u, rfl, ht, hu, lt, lu, hb⟩
  replace B_r := Lib.hid (B_r.out.below hb)
  replace hB := below_next hB hb
  clear hb
  have HTU := Lib.hid (And.intro ht hu)
  clear ht hu
  have c_r0 := B_r.out.cell0
  have c_r1 := B_r.out.cell1
  have c_r2 := B_r.out.cell2
  go_wp2_with fail
  clear c_r0 c_r1 c_r2
  refine (iparse_any t _ (by omega)).mono ?_
  rintro e w2 ⟨b_n, A_n, n_n, c_n, rfl, h_n, hb⟩
  replace B_r := Lib.hid (B_r.out.below hb)
  replace hB := below_next hB hb
  clear hb
  rw [HTU.out.1] at h_n ⊢
  have Z_n := Lib.hid h_n
  clear h_n
  rw [HE1.out]
  have c_r0 := B_r.out.cell0
  have c_r1 := B_r.out.cell1
  have c_r2 := B_r.out.cell2
  go_upto_region 5 with fail
  clear c_r0 c_r1 c_r2
  obtain ⟨W3, g_n, hV, hg, NB, hb⟩ := newI w2 (.bool b_n) (.slice A_n n_n c_n)
  rw [hV, hg]
  clear hV
  have l_n_r : w.heap.size < g_n := hg ▸ B_r.out.lt
  replace Z_n := Lib.hid (Z_n.out.below hb)
  replace B_r := Lib.hid (B_r.out.below hb)
  replace hB := below_next hB hb
  have B_n := NB
  clear NB hb hg
  have c_r0 := B_r.out.cell0
  have c_r1 := B_r.out.cell1
  have c_r2 := B_r.out.cell2
  have c_n0 := B_n.out.cell0
  have c_n1 := B_n.out.cell1
  go_wp2_with fail
  clear c_r0 c_r1 c_r2 c_n0 c_n1
  refine (of_any 1 _ (by omega)).mono ?_
  rintro e w4 ⟨v_o, rfl, h_o, hb⟩
  replace Z_n := Lib.hid (Z_n.out.below hb)
  replace B_r := Lib.hid (B_r.out.below hb)
  replace B_n := Lib.hid (B_n.out.below hb)
  replace hB := below_next hB hb
  clear hb
  obtain ⟨A_o, c_o, rfl, _, _⟩ := h_o.form
  have N_o := Lib.hid h_o
  clear h_o
  have c_r0 := B_r.out.cell0
  have c_r1 := B_r.out.cell1
  have c_r2 := B_r.out.cell2
  have c_n0 := B_n.out.cell0
  have c_n1 := B_n.out.cell1
  go_wp2_with fail
  clear c_r0 c_r1 c_r2 c_n0 c_n1
  refine (parse_any u _ (by omega)).mono ?_
  rintro e w5 ⟨v_d, rfl, h_d, hb⟩
  replace Z_n := Lib.hid (Z_n.out.below hb)
  replace N_o := Lib.hid (N_o.out.below hb)
  replace B_r := Lib.hid (B_r.out.below hb)
  replace B_n := Lib.hid (B_n.out.below hb)
  replace hB := below_next hB hb
  clear hb
  rw [HTU.out.2] at h_d ⊢
  rw [HD.out] at h_d
  rw [HE2.out]
  obtain ⟨A_d, c_d, rfl, _, _⟩ := h_d.form
  have N_d := Lib.hid h_d
  clear h_d
  have c_r0 := B_r.out.cell0
  have c_r1 := B_r.out.cell1
  have c_r2 := B_r.out.cell2
  have c_n0 := B_n.out.cell0
  have c_n1 := B_n.out.cell1
  go_wp2_with fail
  clear c_r0 c_r1 c_r2 c_n0 c_n1
  refine (ncmp_is (v := 1) (by exact N_d.out) (by exact N_o.out) (by rw [val_limbs, val_limbs]; exact ord_gt h3)).mono ?_
  rintro e w6 ⟨rfl, hb⟩
  replace Z_n := Lib.hid (Z_n.out.below hb)
  replace N_o := Lib.hid (N_o.out.below hb)
  replace N_d := Lib.hid (N_d.out.below hb)
  replace B_r := Lib.hid (B_r.out.below hb)
  replace B_n := Lib.hid (B_n.out.below hb)
  replace hB := below_next hB hb
  clear hb
  have c_r0 := B_r.out.cell0
  have c_r1 := B_r.out.cell1
  have c_r2 := B_r.out.cell2
  have c_n0 := B_n.out.cell0
  have c_n1 := B_n.out.cell1
  go_wp2_with fail
  clear c_r0 c_r1 c_r2 c_n0 c_n1
  refine (gcd_any _ _ _ _ _ (by exact Z_n.out.2) (by exact N_d.out) (by omega) (by omega)).mono ?_
  rintro e w7 ⟨v_g, rfl, h_g, hb⟩
  replace Z_n := Lib.hid (Z_n.out.below hb)
  replace N_o := Lib.hid (N_o.out.below hb)
  replace N_d := Lib.hid (N_d.out.below hb)
  replace B_r := Lib.hid (B_r.out.below hb)
  replace B_n := Lib.hid (B_n.out.below hb)
  replace hB := below_next hB hb
  clear hb
  rw [val_limbs, val_limbs] at h_g
  have N_g := Lib.hid h_g
  clear h_g
  have c_r0 := B_r.out.cell0
  have c_r1 := B_r.out.cell1
  have c_r2 := B_r.out.cell2
  have c_n0 := B_n.out.cell0
  have c_n1 := B_n.out.cell1
  go_wp2_with fail
  clear c_r0 c_r1 c_r2 c_n0 c_n1
  refine (ncmp_is (v := 1) (by exact N_g.out) (by exact N_o.out) (by rw [val_limbs, val_limbs]; exact ord_gt h4)).mono ?_
  rintro e w8 ⟨rfl, hb⟩
  replace Z_n := Lib.hid (Z_n.out.below hb)
  replace N_o := Lib.hid (N_o.out.below hb)
  replace N_d := Lib.hid (N_d.out.below hb)
  replace N_g := Lib.hid (N_g.out.below hb)
  replace B_r := Lib.hid (B_r.out.below hb)
  replace B_n := Lib.hid (B_n.out.below hb)
  replace hB := below_next hB hb
  clear hb
  have c_r0 := B_r.out.cell0
  have c_r1 := B_r.out.cell1
  have c_r2 := B_r.out.cell2
  have f_r0 := B_r.out.fro 0
  have f_r1 := B_r.out.fro 1
  have f_r2 := B_r.out.fro 2
  have c_n0 := B_n.out.cell0
  have c_n1 := B_n.out.cell1
  go_wp2
  clear c_r0 c_r1 c_r2 f_r0 f_r1 f_r2 c_n0 c_n1
  obtain ⟨V9, hV, NB, KP⟩ := storeR B_r.out (.bool false) (.slice none 0 0) (.slice none 0 0)
  rw [hV]
  clear hV
  replace Z_n := Lib.hid (Z_n.out.keeps KP.out)
  replace N_o := Lib.hid (N_o.out.keeps KP.out)
  replace N_d := Lib.hid (N_d.out.keeps KP.out)
  replace N_g := Lib.hid (N_g.out.keeps KP.out)
  replace B_n := Lib.hid (B_n.out.keeps KP.out (by omega))
  replace hB := below_keeps hB KP.out (by omega)
  have B_r := NB
  clear NB KP
  have c_r0 := B_r.out.cell0
  have c_r1 := B_r.out.cell1
  have c_r2 := B_r.out.cell2
  refine bodyPost_ret (v := .tuple #[.agg #[.bool false, .slice none 0 0, .slice none 0 0], .int .i64 2]) (by simp [results, Tryd.results27, go_sem, c_r0, c_r1, c_r2]) rfl ?_
  exact ⟨rfl, hB⟩
set_option maxRecDepth 100000 in
set_option maxHeartbeats 8000000 in
theorem qparse_rat (s : ByteArray) (w : World) (hs : s.size ≤ 9223372036854775807) (h1 : zpErr (fore s.data.toList) = 0) (hf : 0 ≤ slashAt s.data.toList) (h2 : parseErr (aft s.data.toList) = 0) (h3 : 1 < decVal (aft s.data.toList)) (h4 : ¬ 1 < Nat.gcd (zpNum (fore s.data.toList)).natAbs (decVal (aft s.data.toList))) : Calls Tryd.prog 27 #[.string s] w (GivesQE w (mkRat (zpNum (fore s.data.toList)) (decVal (aft s.data.toList)))) := by
  have HE1 := Lib.hid h1
  clear h1
  have ef := decide_eq_true hf
  have HE2 := Lib.hid h2
  have hd := parse_num_ok h2
  have hdl := parse_num_len (l := aft s.data.toList)
  rw [hd] at hdl
  have HD := Lib.hid hd
  clear h2 hd
  have hnl : (limbs (zpNum (fore s.data.toList)).natAbs).length ≤ 200 := zp_len _
  go_enter Tryd.func27, Tryd.ntmps27
  go_upto_region 1 with fail
  obtain ⟨W0, hW, B_r, HW, HS⟩ := rbox1 w (.bool false) (.slice none 0 0) (.slice none 0 0)
  rw [hW]
  clear hW
  have hB := HW.out
  have hsz := HS.out
  clear HW HS
  have c_r0 := B_r.out.cell0
  have c_r1 := B_r.out.cell1
  have c_r2 := B_r.out.cell2
  go_wp2_with fail
  clear c_r0 c_r1 c_r2
  refine (qcut_any s _ hs).mono ?_
  rintro e w1 ⟨t, u, rfl, ht, hu, lt, lu, hb⟩
  replace B_r := Lib.hid (B_r.out.below hb)
  replace hB := below_next hB hb
  clear hb
  have HTU := Lib.hid (And.intro ht hu)
  clear ht hu
  have c_r0 := B_r.out.cell0
  have c_r1 := B_r.out.cell1
  have c_r2 := B_r.out.cell2
  go_wp2_with fail
  clear c_r0 c_r1 c_r2
  refine (iparse_any t _ (by omega)).mono ?_
  rintro e w2 ⟨b_n, A_n, n_n, c_n, rfl, h_n, hb⟩
  replace B_r := Lib.hid (B_r.out.below hb)
  replace hB := below_next hB hb
  clear hb
  rw [HTU.out.1] at h_n ⊢
  have Z_n := Lib.hid h_n
  clear h_n
  rw [HE1.out]
  have c_r0 := B_r.out.cell0
  have c_r1 := B_r.out.cell1
  have c_r2 := B_r.out.cell2
  go_upto_region 5 with fail
  clear c_r0 c_r1 c_r2
  obtain ⟨W3, g_n, hV, hg, NB, hb⟩ := newI w2 (.bool b_n) (.slice A_n n_n c_n)
  rw [hV, hg]
  clear hV
  have l_n_r : w.heap.size < g_n := hg ▸ B_r.out.lt
  replace Z_n := Lib.hid (Z_n.out.below hb)
  replace B_r := Lib.hid (B_r.out.below hb)
  replace hB := below_next hB hb
  have B_n := NB
  clear NB hb hg
  have c_r0 := B_r.out.cell0
  have c_r1 := B_r.out.cell1
  have c_r2 := B_r.out.cell2
  have c_n0 := B_n.out.cell0
  have c_n1 := B_n.out.cell1
  go_wp2_with fail
  clear c_r0 c_r1 c_r2 c_n0 c_n1
  refine (of_any 1 _ (by omega)).mono ?_
  rintro e w4 ⟨v_o, rfl, h_o, hb⟩
  replace Z_n := Lib.hid (Z_n.out.below hb)
  replace B_r := Lib.hid (B_r.out.below hb)
  replace B_n := Lib.hid (B_n.out.below hb)
  replace hB := below_next hB hb
  clear hb
  obtain ⟨A_o, c_o, rfl, _, _⟩ := h_o.form
  have N_o := Lib.hid h_o
  clear h_o
  have c_r0 := B_r.out.cell0
  have c_r1 := B_r.out.cell1
  have c_r2 := B_r.out.cell2
  have c_n0 := B_n.out.cell0
  have c_n1 := B_n.out.cell1
  go_wp2_with fail
  clear c_r0 c_r1 c_r2 c_n0 c_n1
  refine (parse_any u _ (by omega)).mono ?_
  rintro e w5 ⟨v_d, rfl, h_d, hb⟩
  replace Z_n := Lib.hid (Z_n.out.below hb)
  replace N_o := Lib.hid (N_o.out.below hb)
  replace B_r := Lib.hid (B_r.out.below hb)
  replace B_n := Lib.hid (B_n.out.below hb)
  replace hB := below_next hB hb
  clear hb
  rw [HTU.out.2] at h_d ⊢
  rw [HD.out] at h_d
  rw [HE2.out]
  obtain ⟨A_d, c_d, rfl, _, _⟩ := h_d.form
  have N_d := Lib.hid h_d
  clear h_d
  have c_r0 := B_r.out.cell0
  have c_r1 := B_r.out.cell1
  have c_r2 := B_r.out.cell2
  have c_n0 := B_n.out.cell0
  have c_n1 := B_n.out.cell1
  go_wp2_with fail
  clear c_r0 c_r1 c_r2 c_n0 c_n1
  refine (ncmp_is (v := 1) (by exact N_d.out) (by exact N_o.out) (by rw [val_limbs, val_limbs]; exact ord_gt h3)).mono ?_
  rintro e w6 ⟨rfl, hb⟩
  replace Z_n := Lib.hid (Z_n.out.below hb)
  replace N_o := Lib.hid (N_o.out.below hb)
  replace N_d := Lib.hid (N_d.out.below hb)
  replace B_r := Lib.hid (B_r.out.below hb)
  replace B_n := Lib.hid (B_n.out.below hb)
  replace hB := below_next hB hb
  clear hb
  have c_r0 := B_r.out.cell0
  have c_r1 := B_r.out.cell1
  have c_r2 := B_r.out.cell2
  have c_n0 := B_n.out.cell0
  have c_n1 := B_n.out.cell1
  go_wp2_with fail
  clear c_r0 c_r1 c_r2 c_n0 c_n1
  refine (gcd_any _ _ _ _ _ (by exact Z_n.out.2) (by exact N_d.out) (by omega) (by omega)).mono ?_
  rintro e w7 ⟨v_g, rfl, h_g, hb⟩
  replace Z_n := Lib.hid (Z_n.out.below hb)
  replace N_o := Lib.hid (N_o.out.below hb)
  replace N_d := Lib.hid (N_d.out.below hb)
  replace B_r := Lib.hid (B_r.out.below hb)
  replace B_n := Lib.hid (B_n.out.below hb)
  replace hB := below_next hB hb
  clear hb
  rw [val_limbs, val_limbs] at h_g
  have N_g := Lib.hid h_g
  clear h_g
  have c_r0 := B_r.out.cell0
  have c_r1 := B_r.out.cell1
  have c_r2 := B_r.out.cell2
  have c_n0 := B_n.out.cell0
  have c_n1 := B_n.out.cell1
  go_wp2_with fail
  clear c_r0 c_r1 c_r2 c_n0 c_n1
  refine (ncmp_is (v := 0) (by exact N_g.out) (by exact N_o.out) (by rw [val_limbs, val_limbs]; exact ord_eq (by have := gcd_ne (X := (zpNum (fore s.data.toList)).natAbs) (show decVal (aft s.data.toList) ≠ 0 by omega); omega))).mono ?_
  rintro e w8 ⟨rfl, hb⟩
  replace Z_n := Lib.hid (Z_n.out.below hb)
  replace N_o := Lib.hid (N_o.out.below hb)
  replace N_d := Lib.hid (N_d.out.below hb)
  replace N_g := Lib.hid (N_g.out.below hb)
  replace B_r := Lib.hid (B_r.out.below hb)
  replace B_n := Lib.hid (B_n.out.below hb)
  replace hB := below_next hB hb
  clear hb
  have c_r0 := B_r.out.cell0
  have c_r1 := B_r.out.cell1
  have c_r2 := B_r.out.cell2
  have f_r0 := B_r.out.fro 0
  have f_r1 := B_r.out.fro 1
  have f_r2 := B_r.out.fro 2
  have c_n0 := B_n.out.cell0
  have c_n1 := B_n.out.cell1
  go_wp2
  clear c_r0 c_r1 c_r2 f_r0 f_r1 f_r2 c_n0 c_n1
  obtain ⟨V9, hV, NB, KP⟩ := storeR B_r.out (.bool b_n) (.slice A_n n_n c_n) (.slice A_d (limbs (decVal (aft s.data.toList))).length c_d)
  rw [hV]
  clear hV
  replace Z_n := Lib.hid (Z_n.out.keeps KP.out)
  replace N_o := Lib.hid (N_o.out.keeps KP.out)
  replace N_d := Lib.hid (N_d.out.keeps KP.out)
  replace N_g := Lib.hid (N_g.out.keeps KP.out)
  replace B_n := Lib.hid (B_n.out.keeps KP.out (by omega))
  replace hB := below_keeps hB KP.out (by omega)
  have B_r := NB
  clear NB KP
  have c_r0 := B_r.out.cell0
  have c_r1 := B_r.out.cell1
  have c_r2 := B_r.out.cell2
  refine bodyPost_ret (v := .tuple #[.agg #[.bool b_n, .slice A_n n_n c_n, .slice A_d (limbs (decVal (aft s.data.toList))).length c_d], .int .i64 0]) (by simp [results, Tryd.results27, go_sem, c_r0, c_r1, c_r2]) rfl ?_
  exact ⟨_, _, _, _, _, _, _, rfl, ⟨by rw [(mk_low h3 h4).1]; exact Z_n.out, by rw [(mk_low h3 h4).2]; exact N_d.out⟩, hB⟩
theorem qparse_ok (s : ByteArray) (w : World) (hs : s.size ≤ 9223372036854775807) (h : qpErr s.data.toList = 0) : Calls Tryd.prog 27 #[.string s] w (GivesQE w (qpNum s.data.toList)) := by
  unfold qpErr at h
  by_cases h1 : zpErr (fore s.data.toList) = 0
  · rw [if_pos h1] at h
    by_cases hf : 0 ≤ slashAt s.data.toList
    · rw [if_pos hf] at h
      by_cases h2 : parseErr (aft s.data.toList) = 0
      · rw [if_pos h2] at h
        rw [show qpNum s.data.toList = _ from if_pos hf]
        split at h
        · cases h
        · rename_i h3
          exact qparse_rat s w hs h1 hf h2 (by omega) (by omega)
      · rw [if_neg h2] at h; exact absurd h h2
    · rw [show qpNum s.data.toList = _ from if_neg hf]
      exact qparse_int s w hs h1 hf
  · rw [if_neg h1] at h; exact absurd h h1
theorem qparse_err (s : ByteArray) (w : World) (hs : s.size ≤ 9223372036854775807) (h : qpErr s.data.toList ≠ 0) : Calls Tryd.prog 27 #[.string s] w (GivesErr w (qpErr s.data.toList)) := by
  unfold qpErr at h ⊢
  by_cases h1 : zpErr (fore s.data.toList) = 0
  · rw [if_pos h1] at h ⊢
    by_cases hf : 0 ≤ slashAt s.data.toList
    · rw [if_pos hf] at h ⊢
      by_cases h2 : parseErr (aft s.data.toList) = 0
      · rw [if_pos h2] at h ⊢
        by_cases h3 : decVal (aft s.data.toList) ≤ 1
        · rw [if_pos (.inl h3)]
          exact qparse_e3 s w hs h1 hf h2 h3
        · by_cases h4 : 1 < Nat.gcd (zpNum (fore s.data.toList)).natAbs (decVal (aft s.data.toList))
          · rw [if_pos (.inr h4)]
            exact qparse_e4 s w hs h1 hf h2 (by omega) h4
          · rw [if_neg (by omega)] at h; exact absurd rfl h
      · rw [if_neg h2]
        exact qparse_e2 s w hs h1 hf h2
    · rw [if_neg hf] at h; exact absurd rfl h
  · rw [if_neg h1]
    exact qparse_e1 s w hs h1
end Go.Proofs.YtoflndeonegkpaaDoor
