/- garmentref03: slash, Parse. -/
import Derived.Test.YtoflndeonegkpaaGreatDoorR2
import Derived.Test.YtoflndeonegkpaaGreatDoorQText
import Derived.Test.YtoflndeonegkpaaGreatDoorRInt3
namespace Go.Proofs.YtoflndeonegkpaaGreatDoor
open Go.RowKit

theorem idx_take : ∀ (l : List UInt8) (k : Nat), (∀ c ∈ l.take k, c ≠ 47) → (h : k < l.length) → l[k] = 47 → Lib.indexByte l 47 = k
  | [], k, _, h, _ => by simp at h
  | b :: l, 0, _, _, e => by
    unfold Lib.indexByte
    rw [if_pos (by rw [beq_iff_eq]; exact e)]
    rfl
  | b :: l, k + 1, hd, h, e => by
    have h1 : ¬ (b == 47) = true := fun g => hd b (by simp) (eq_of_beq g)
    have h2 := idx_take l k (fun c hc => hd c (by rw [List.take_succ_cons]; exact List.mem_cons_of_mem _ hc)) (by simpa using h) (by simpa using e)
    unfold Lib.indexByte
    rw [if_neg h1, h2, if_neg (by rw [beq_iff_eq]; omega)]
    omega
/-- Where the first slash stands, or the length. -/
def slashPos (l : List UInt8) : Int := if 0 ≤ slashAt l then slashAt l else l.length
set_option maxHeartbeats 2000000 in
theorem r3slash_any (s : ByteArray) (w : World) (hs : s.size ≤ 9223372036854775807) : Calls Tryz.prog 64 #[.string s] w (GivesOrd w (slashPos s.data.toList)) := by
  have HSL := Lib.hid (size_list s)
  go_enter Tryz.func64, Tryz.ntmps64
  go_wp2
  go_loop [3] (fun si => ∃ k : Nat, k ≤ s.size ∧ si = .int .i64 k ∧ ∀ c ∈ s.data.toList.take k, c ≠ 47) (fun si => s.size - (intOf si).toNat)
  case atStart => exact ⟨0, Nat.zero_le _, rfl, by simp⟩
  case round =>
    obtain ⟨k, hk, rfl, hD⟩ := hrel
    have HD := Lib.hid hD
    clear hD
    by_cases hlt : k < s.size
    · by_cases he : s[k] = 47
      · have q1 : ((s[k].toNat : Int) == 47) = true := by rw [he]; rfl
        have HE := Lib.hid he
        clear he
        go_wp2
        go_ret
        have h1 : slashAt s.data.toList = k := idx_take _ k HD.out (by rw [HSL.out]; exact hlt) HE.out
        rw [slashPos, h1, if_pos (by omega)]
        exact ⟨rfl, Below.refl _ _⟩
      · have q1 : ((s[k].toNat : Int) == 47) = false := by
          rw [beq_eq_false_iff_ne]
          intro e
          exact he (UInt8.toNat_inj.1 (by show s[k].toNat = 47; omega))
        have HE := Lib.hid he
        clear he
        go_wp2
        go_round
        case rel =>
          refine ⟨k + 1, by omega, by go_num, fun c hc => ?_⟩
          rw [take_snoc s k hlt] at hc
          rcases List.mem_append.1 hc with hc | hc
          · exact HD.out c hc
          · rw [List.mem_singleton.1 hc]; exact HE.out
        case measure => simp [intOf]; omega
    · go_wp2
      go_ret
      have h1 : slashAt s.data.toList = -1 := idx_none (fun h => HD.out 47 (by rw [List.take_of_length_le (by rw [HSL.out]; omega)]; exact h) rfl)
      rw [slashPos, h1, if_neg (by omega), HSL.out]
      exact ⟨congrArg Ending.returned (congrArg (Value.int IntKind.i64) (by omega)), Below.refl _ _⟩
set_option maxRecDepth 100000 in
set_option maxHeartbeats 8000000 in
theorem r3parse_e1 (s : ByteArray) (w : World) (hs : s.size ≤ 9223372036854775807) (h1 : zpErr (fore s.data.toList) ≠ 0) : Calls Tryz.prog 20 #[.string s] w (GivesErr w (zpErr (fore s.data.toList))) := by
  have e1 : (zpErr (fore s.data.toList) != 0) = true := by rw [bne_iff_ne]; exact h1
  by_cases hf : 0 ≤ slashAt s.data.toList
  · skip
    obtain ⟨i, hi⟩ := Int.eq_ofNat_of_zero_le hf
    have hil : i < s.size := by have := slash_lt s.data.toList; rw [size_list] at this; have h2 : Lib.indexByte s.data.toList 47 = (i : Int) := hi; omega
    have ep : slashPos s.data.toList = (i : Int) := by rw [slashPos, if_pos hf, hi]
    have HF : Hid (fore s.data.toList = (s.extract 0 i).data.toList) := by show _ = _; rw [ext_take, fore, if_pos hf, hi]; rfl
    have HA : Hid (aft s.data.toList = (s.extract (i + 1) s.size).data.toList) := by show _ = _; rw [ext_drop, aft, if_pos hf, hi]; rfl
    have hl1 : (i : Int) ≤ (s.size : Int) := by omega
    have hl2 : (i : Int) + 1 ≤ (s.size : Int) := by omega
    have hl0 : (0 : Int) ≤ (i : Int) + 1 := by omega
    have hw : IntKind.i64.wrap ((i : Int) + 1) = (i : Int) + 1 := by rw [IntKind.wrap_i64]; omega
    have hne : ((i : Int) == (s.size : Int)) = false := by rw [beq_eq_false_iff_ne]; omega
    have hsz1 : (s.extract 0 i).size ≤ 9223372036854775807 := by rw [← size_list, ext_take, List.length_take]; omega
    have hsz2 : (s.extract (i + 1) s.size).size ≤ 9223372036854775807 := by rw [← size_list, ext_drop, List.length_drop, size_list]; omega
    clear hf hi
    go_enter Tryz.func20, Tryz.ntmps20
    go_upto_region 1 with fail
    obtain ⟨W0, hW, B_r, HW, HS⟩ := rbox1 w (.bool false) (.slice none 0 0) (.slice none 0 0)
    rw [hW]
    clear hW
    have hB := HW.out
    have hsz := HS.out
    clear HW HS
    have c_r0 := B_r.out.cell0
    have c_r1 := B_r.out.cell1
    have c_r2 := B_r.out.cell2
    go_wp2_with fail
    clear c_r0 c_r1 c_r2
    refine (r3slash_any s _ hs).mono ?_
    rintro e w1 ⟨rfl, hb⟩
    replace B_r := Lib.hid (B_r.out.below hb)
    replace hB := below_next hB hb
    clear hb
    rw [ep]
    have c_r0 := B_r.out.cell0
    have c_r1 := B_r.out.cell1
    have c_r2 := B_r.out.cell2
    go_wp2_with fail
    clear c_r0 c_r1 c_r2
    refine (riparse_any (s.extract 0 i) _ hsz1).mono ?_
    rintro e w2 ⟨b_n, A_n, n_n, c_n, rfl, h_n, hb⟩
    replace B_r := Lib.hid (B_r.out.below hb)
    replace hB := below_next hB hb
    clear hb
    rw [← HF.out] at h_n ⊢
    have Z_n := Lib.hid h_n
    clear h_n
    have c_r0 := B_r.out.cell0
    have c_r1 := B_r.out.cell1
    have c_r2 := B_r.out.cell2
    go_upto_region 3 with fail
    clear c_r0 c_r1 c_r2
    obtain ⟨W3, g_n, hV, hg, NB, hb⟩ := newI w2 (.bool b_n) (.slice A_n n_n c_n)
    rw [hV, hg]
    clear hV
    have l_n_r : w.heap.size < g_n := hg ▸ B_r.out.lt
    replace Z_n := Lib.hid (Z_n.out.below hb)
    replace B_r := Lib.hid (B_r.out.below hb)
    replace hB := below_next hB hb
    have B_n := NB
    clear NB hb hg
    have c_r0 := B_r.out.cell0
    have c_r1 := B_r.out.cell1
    have c_r2 := B_r.out.cell2
    have f_r0 := B_r.out.fro 0
    have f_r1 := B_r.out.fro 1
    have f_r2 := B_r.out.fro 2
    have c_n0 := B_n.out.cell0
    have c_n1 := B_n.out.cell1
    go_wp2
    clear c_r0 c_r1 c_r2 f_r0 f_r1 f_r2 c_n0 c_n1
    obtain ⟨V4, hV, NB, KP⟩ := storeR B_r.out (.bool false) (.slice none 0 0) (.slice none 0 0)
    rw [hV]
    clear hV
    replace Z_n := Lib.hid (Z_n.out.keeps KP.out)
    replace B_n := Lib.hid (B_n.out.keeps KP.out (by omega))
    replace hB := below_keeps hB KP.out (by omega)
    have B_r := NB
    clear NB KP
    have c_r0 := B_r.out.cell0
    have c_r1 := B_r.out.cell1
    have c_r2 := B_r.out.cell2
    refine bodyPost_ret (v := .tuple #[.agg #[.bool false, .slice none 0 0, .slice none 0 0], .int .i64 (zpErr (fore s.data.toList))]) (by simp [results, Tryz.results20, go_sem, c_r0, c_r1, c_r2]) rfl ?_
    exact ⟨rfl, hB⟩
  · skip
    have ep : slashPos s.data.toList = (s.size : Int) := by rw [slashPos, if_neg hf, size_list]
    have HF : Hid (fore s.data.toList = s.data.toList) := by show _ = _; rw [fore, if_neg hf]
    clear hf
    go_enter Tryz.func20, Tryz.ntmps20
    go_upto_region 1 with fail
    obtain ⟨W0, hW, B_r, HW, HS⟩ := rbox1 w (.bool false) (.slice none 0 0) (.slice none 0 0)
    rw [hW]
    clear hW
    have hB := HW.out
    have hsz := HS.out
    clear HW HS
    have c_r0 := B_r.out.cell0
    have c_r1 := B_r.out.cell1
    have c_r2 := B_r.out.cell2
    go_wp2_with fail
    clear c_r0 c_r1 c_r2
    refine (r3slash_any s _ hs).mono ?_
    rintro e w1 ⟨rfl, hb⟩
    replace B_r := Lib.hid (B_r.out.below hb)
    replace hB := below_next hB hb
    clear hb
    rw [ep]
    have c_r0 := B_r.out.cell0
    have c_r1 := B_r.out.cell1
    have c_r2 := B_r.out.cell2
    go_wp2_with fail
    clear c_r0 c_r1 c_r2
    refine (riparse_any s _ hs).mono ?_
    rintro e w2 ⟨b_n, A_n, n_n, c_n, rfl, h_n, hb⟩
    replace B_r := Lib.hid (B_r.out.below hb)
    replace hB := below_next hB hb
    clear hb
    have HZ0 := Lib.hid (show zpErr s.data.toList = zpErr (fore s.data.toList) by rw [HF.out])
    have HZ1 := Lib.hid (show zpNum s.data.toList = zpNum (fore s.data.toList) by rw [HF.out])
    rw [HZ1.out] at h_n
    rw [HZ0.out]
    have Z_n := Lib.hid h_n
    clear h_n
    have c_r0 := B_r.out.cell0
    have c_r1 := B_r.out.cell1
    have c_r2 := B_r.out.cell2
    go_upto_region 3 with fail
    clear c_r0 c_r1 c_r2
    obtain ⟨W3, g_n, hV, hg, NB, hb⟩ := newI w2 (.bool b_n) (.slice A_n n_n c_n)
    rw [hV, hg]
    clear hV
    have l_n_r : w.heap.size < g_n := hg ▸ B_r.out.lt
    replace Z_n := Lib.hid (Z_n.out.below hb)
    replace B_r := Lib.hid (B_r.out.below hb)
    replace hB := below_next hB hb
    have B_n := NB
    clear NB hb hg
    have c_r0 := B_r.out.cell0
    have c_r1 := B_r.out.cell1
    have c_r2 := B_r.out.cell2
    have f_r0 := B_r.out.fro 0
    have f_r1 := B_r.out.fro 1
    have f_r2 := B_r.out.fro 2
    have c_n0 := B_n.out.cell0
    have c_n1 := B_n.out.cell1
    go_wp2
    clear c_r0 c_r1 c_r2 f_r0 f_r1 f_r2 c_n0 c_n1
    obtain ⟨V4, hV, NB, KP⟩ := storeR B_r.out (.bool false) (.slice none 0 0) (.slice none 0 0)
    rw [hV]
    clear hV
    replace Z_n := Lib.hid (Z_n.out.keeps KP.out)
    replace B_n := Lib.hid (B_n.out.keeps KP.out (by omega))
    replace hB := below_keeps hB KP.out (by omega)
    have B_r := NB
    clear NB KP
    have c_r0 := B_r.out.cell0
    have c_r1 := B_r.out.cell1
    have c_r2 := B_r.out.cell2
    refine bodyPost_ret (v := .tuple #[.agg #[.bool false, .slice none 0 0, .slice none 0 0], .int .i64 (zpErr (fore s.data.toList))]) (by simp [results, Tryz.results20, go_sem, c_r0, c_r1, c_r2]) rfl ?_
    exact ⟨rfl, hB⟩
set_option maxRecDepth 100000 in
set_option maxHeartbeats 8000000 in
theorem r3parse_int (s : ByteArray) (w : World) (hs : s.size ≤ 9223372036854775807) (h1 : zpErr (fore s.data.toList) = 0) (hf : ¬ 0 ≤ slashAt s.data.toList) : Calls Tryz.prog 20 #[.string s] w (GivesQE w ((zpNum (fore s.data.toList) : Int) : Rat)) := by
  have HE1 := Lib.hid h1
  clear h1
  have ep : slashPos s.data.toList = (s.size : Int) := by rw [slashPos, if_neg hf, size_list]
  have HF : Hid (fore s.data.toList = s.data.toList) := by show _ = _; rw [fore, if_neg hf]
  clear hf
  go_enter Tryz.func20, Tryz.ntmps20
  go_upto_region 1 with fail
  obtain ⟨W0, hW, B_r, HW, HS⟩ := rbox1 w (.bool false) (.slice none 0 0) (.slice none 0 0)
  rw [hW]
  clear hW
  have hB := HW.out
  have hsz := HS.out
  clear HW HS
  have c_r0 := B_r.out.cell0
  have c_r1 := B_r.out.cell1
  have c_r2 := B_r.out.cell2
  go_wp2_with fail
  clear c_r0 c_r1 c_r2
  refine (r3slash_any s _ hs).mono ?_
  rintro e w1 ⟨rfl, hb⟩
  replace B_r := Lib.hid (B_r.out.below hb)
  replace hB := below_next hB hb
  clear hb
  rw [ep]
  have c_r0 := B_r.out.cell0
  have c_r1 := B_r.out.cell1
  have c_r2 := B_r.out.cell2
  go_wp2_with fail
  clear c_r0 c_r1 c_r2
  refine (riparse_any s _ hs).mono ?_
  rintro e w2 ⟨b_n, A_n, n_n, c_n, rfl, h_n, hb⟩
  replace B_r := Lib.hid (B_r.out.below hb)
  replace hB := below_next hB hb
  clear hb
  have HZ0 := Lib.hid (show zpErr s.data.toList = zpErr (fore s.data.toList) by rw [HF.out])
  have HZ1 := Lib.hid (show zpNum s.data.toList = zpNum (fore s.data.toList) by rw [HF.out])
  rw [HZ1.out] at h_n
  rw [HZ0.out]
  have Z_n := Lib.hid h_n
  clear h_n
  rw [HE1.out]
  have c_r0 := B_r.out.cell0
  have c_r1 := B_r.out.cell1
  have c_r2 := B_r.out.cell2
  go_upto_region 5 with fail
  clear c_r0 c_r1 c_r2
  obtain ⟨W3, g_n, hV, hg, NB, hb⟩ := newI w2 (.bool b_n) (.slice A_n n_n c_n)
  rw [hV, hg]
  clear hV
  have l_n_r : w.heap.size < g_n := hg ▸ B_r.out.lt
  replace Z_n := Lib.hid (Z_n.out.below hb)
  replace B_r := Lib.hid (B_r.out.below hb)
  replace hB := below_next hB hb
  have B_n := NB
  clear NB hb hg
  have c_r0 := B_r.out.cell0
  have c_r1 := B_r.out.cell1
  have c_r2 := B_r.out.cell2
  have c_n0 := B_n.out.cell0
  have c_n1 := B_n.out.cell1
  go_wp2
  clear c_r0 c_r1 c_r2 c_n0 c_n1
  refine wp_region_named (S := (fun w' => w'.cell? ⟨g_n, 0, none⟩ = some (.bool b_n) ∧ w'.cell? ⟨g_n, 1, none⟩ = some (.slice A_n n_n c_n))) (by kernel_rfl) (by exact ⟨B_n.out.cell0, B_n.out.cell1⟩) (fun V4 hb hHeld => ?_)
  replace Z_n := Lib.hid (Z_n.out.below hb)
  replace B_r := Lib.hid (B_r.out.below hb)
  replace B_n := Lib.hid (B_n.out.below hb)
  replace hB := below_next hB hb
  clear hb
  refine wpAnyH_takeQ 0 (v := ?_) (fun _ _ _ _ _ h => h) (by simp only [List.getElem?_toArray, List.getElem?_cons_zero]; rfl) (by kernel_rfl) (by kernel_rfl) (by kernel_rfl) (by rfl) ?_ hHeld ?_
  rotate_left
  · (intro w hSw; (try dsimp only at hSw); go_simp; (try with_reducible rfl))
  try simp only [Act.put, List.setIfInBounds_toArray, List.set_cons_zero, List.set_cons_succ]
  refine wpAnyH_ready (rs := [1]) (by kernel_rfl) (by simp) ?_
  refine AllReadyH.cons (by simp only [List.getElem?_toArray, List.getElem?_cons_succ, List.getElem?_cons_zero]; rfl) (fun K hK => ?_) AllReadyH.nil
  go_simp
  clear hHeld
  refine (rof_any 1 _ (by omega)).mono ?_
  rintro e w5 ⟨v_o, rfl, h_o, hb⟩
  replace Z_n := Lib.hid (Z_n.out.below hb)
  replace B_r := Lib.hid (B_r.out.below hb)
  replace B_n := Lib.hid (B_n.out.below hb)
  replace hB := below_next hB hb
  clear hb
  obtain ⟨A_o, c_o, rfl, _, _⟩ := h_o.form
  have N_o := Lib.hid h_o
  clear h_o
  go_wp2_with fail
  refine hK.out _ _ (by exact ⟨B_n.out.cell0, B_n.out.cell1⟩) (fun hHeld => ?_)
  clear hK K
  try simp only [Act.put, List.setIfInBounds_toArray, List.set_cons_zero, List.set_cons_succ]
  refine wpAnyH_takeQ 2 (v := ?_) (fun _ _ _ _ _ h => h) (by simp only [List.getElem?_toArray, List.getElem?_cons_succ, List.getElem?_cons_zero]; rfl) (by kernel_rfl) (by kernel_rfl) (by kernel_rfl) (by rfl) ?_ hHeld ?_
  rotate_left
  · (intro w hSw; (try dsimp only at hSw); go_simp; (try with_reducible rfl))
  try simp only [Act.put, List.setIfInBounds_toArray, List.set_cons_zero, List.set_cons_succ]
  refine wpAnyH_ready (rs := [3]) (by kernel_rfl) (by simp) ?_
  refine AllReadyH.cons (by simp only [List.getElem?_toArray, List.getElem?_cons_succ, List.getElem?_cons_zero]; rfl) (fun K hK => ?_) AllReadyH.nil
  have c_r0 := B_r.out.cell0
  have c_r1 := B_r.out.cell1
  have c_r2 := B_r.out.cell2
  have f_r0 := B_r.out.fro 0
  have f_r1 := B_r.out.fro 1
  have f_r2 := B_r.out.fro 2
  have c_n0 := B_n.out.cell0
  have c_n1 := B_n.out.cell1
  go_simp
  clear c_r0 c_r1 c_r2 f_r0 f_r1 f_r2 c_n0 c_n1
  clear hHeld
  obtain ⟨V6, hV, NB, KP⟩ := storeR B_r.out (.bool b_n) (.slice A_n n_n c_n) (.slice A_o (limbs 1).length c_o)
  rw [hV]
  clear hV
  replace Z_n := Lib.hid (Z_n.out.keeps KP.out)
  replace N_o := Lib.hid (N_o.out.keeps KP.out)
  replace B_n := Lib.hid (B_n.out.keeps KP.out (by omega))
  replace hB := below_keeps hB KP.out (by omega)
  have B_r := NB
  clear NB KP
  refine hK.out _ _ (by exact ⟨B_n.out.cell0, B_n.out.cell1⟩) (fun hHeld => ?_)
  clear hK K
  try simp only [Act.put, List.setIfInBounds_toArray, List.set_cons_zero, List.set_cons_succ]
  refine wpAnyH_takeQ 4 (v := ?_) (fun _ _ _ _ _ h => h) (by simp only [List.getElem?_toArray, List.getElem?_cons_succ, List.getElem?_cons_zero]; rfl) (by kernel_rfl) (by kernel_rfl) (by kernel_rfl) (by rfl) ?_ hHeld ?_
  rotate_left
  · (intro w hSw; (try dsimp only at hSw); go_simp; (try with_reducible rfl))
  try simp only [Act.put, List.setIfInBounds_toArray, List.set_cons_zero, List.set_cons_succ]
  refine wpAnyH_done (by kernel_rfl) (NoPanic.normal ?_) _
  clear hHeld
  go_wp2
  have c_r0 := B_r.out.cell0
  have c_r1 := B_r.out.cell1
  have c_r2 := B_r.out.cell2
  refine bodyPost_ret (v := .tuple #[.agg #[.bool b_n, .slice A_n n_n c_n, .slice A_o (limbs 1).length c_o], .int .i64 0]) (by simp [results, Tryz.results20, go_sem, c_r0, c_r1, c_r2]) rfl ?_
  exact ⟨_, _, _, _, _, _, _, rfl, ⟨Z_n.out, N_o.out⟩, hB⟩
set_option maxRecDepth 100000 in
set_option maxHeartbeats 8000000 in
theorem r3parse_e2 (s : ByteArray) (w : World) (hs : s.size ≤ 9223372036854775807) (h1 : zpErr (fore s.data.toList) = 0) (hf : 0 ≤ slashAt s.data.toList) (h2 : parseErr (aft s.data.toList) ≠ 0) : Calls Tryz.prog 20 #[.string s] w (GivesErr w (parseErr (aft s.data.toList))) := by
  have HE1 := Lib.hid h1
  clear h1
  have e2 : (parseErr (aft s.data.toList) != 0) = true := by rw [bne_iff_ne]; exact h2
  obtain ⟨i, hi⟩ := Int.eq_ofNat_of_zero_le hf
  have hil : i < s.size := by have := slash_lt s.data.toList; rw [size_list] at this; have h2 : Lib.indexByte s.data.toList 47 = (i : Int) := hi; omega
  have ep : slashPos s.data.toList = (i : Int) := by rw [slashPos, if_pos hf, hi]
  have HF : Hid (fore s.data.toList = (s.extract 0 i).data.toList) := by show _ = _; rw [ext_take, fore, if_pos hf, hi]; rfl
  have HA : Hid (aft s.data.toList = (s.extract (i + 1) s.size).data.toList) := by show _ = _; rw [ext_drop, aft, if_pos hf, hi]; rfl
  have hl1 : (i : Int) ≤ (s.size : Int) := by omega
  have hl2 : (i : Int) + 1 ≤ (s.size : Int) := by omega
  have hl0 : (0 : Int) ≤ (i : Int) + 1 := by omega
  have hw : IntKind.i64.wrap ((i : Int) + 1) = (i : Int) + 1 := by rw [IntKind.wrap_i64]; omega
  have hne : ((i : Int) == (s.size : Int)) = false := by rw [beq_eq_false_iff_ne]; omega
  have hsz1 : (s.extract 0 i).size ≤ 9223372036854775807 := by rw [← size_list, ext_take, List.length_take]; omega
  have hsz2 : (s.extract (i + 1) s.size).size ≤ 9223372036854775807 := by rw [← size_list, ext_drop, List.length_drop, size_list]; omega
  clear hf hi
  go_enter Tryz.func20, Tryz.ntmps20
  go_upto_region 1 with fail
  obtain ⟨W0, hW, B_r, HW, HS⟩ := rbox1 w (.bool false) (.slice none 0 0) (.slice none 0 0)
  rw [hW]
  clear hW
  have hB := HW.out
  have hsz := HS.out
  clear HW HS
  have c_r0 := B_r.out.cell0
  have c_r1 := B_r.out.cell1
  have c_r2 := B_r.out.cell2
  go_wp2_with fail
  clear c_r0 c_r1 c_r2
  refine (r3slash_any s _ hs).mono ?_
  rintro e w1 ⟨rfl, hb⟩
  replace B_r := Lib.hid (B_r.out.below hb)
  replace hB := below_next hB hb
  clear hb
  rw [ep]
  have c_r0 := B_r.out.cell0
  have c_r1 := B_r.out.cell1
  have c_r2 := B_r.out.cell2
  go_wp2_with fail
  clear c_r0 c_r1 c_r2
  refine (riparse_any (s.extract 0 i) _ hsz1).mono ?_
  rintro e w2 ⟨b_n, A_n, n_n, c_n, rfl, h_n, hb⟩
  replace B_r := Lib.hid (B_r.out.below hb)
  replace hB := below_next hB hb
  clear hb
  rw [← HF.out] at h_n ⊢
  have Z_n := Lib.hid h_n
  clear h_n
  rw [HE1.out]
  have c_r0 := B_r.out.cell0
  have c_r1 := B_r.out.cell1
  have c_r2 := B_r.out.cell2
  go_upto_region 5 with fail
  clear c_r0 c_r1 c_r2
  obtain ⟨W3, g_n, hV, hg, NB, hb⟩ := newI w2 (.bool b_n) (.slice A_n n_n c_n)
  rw [hV, hg]
  clear hV
  have l_n_r : w.heap.size < g_n := hg ▸ B_r.out.lt
  replace Z_n := Lib.hid (Z_n.out.below hb)
  replace B_r := Lib.hid (B_r.out.below hb)
  replace hB := below_next hB hb
  have B_n := NB
  clear NB hb hg
  have c_r0 := B_r.out.cell0
  have c_r1 := B_r.out.cell1
  have c_r2 := B_r.out.cell2
  have c_n0 := B_n.out.cell0
  have c_n1 := B_n.out.cell1
  go_wp2_with fail
  clear c_r0 c_r1 c_r2 c_n0 c_n1
  refine (rparse_any (s.extract (i + 1) s.size) _ hsz2).mono ?_
  rintro e w4 ⟨v_d, rfl, h_d, hb⟩
  replace Z_n := Lib.hid (Z_n.out.below hb)
  replace B_r := Lib.hid (B_r.out.below hb)
  replace B_n := Lib.hid (B_n.out.below hb)
  replace hB := below_next hB hb
  clear hb
  rw [← HA.out] at h_d ⊢
  obtain ⟨A_d, c_d, rfl, _, _⟩ := h_d.form
  have N_d := Lib.hid h_d
  clear h_d
  have c_r0 := B_r.out.cell0
  have c_r1 := B_r.out.cell1
  have c_r2 := B_r.out.cell2
  have f_r0 := B_r.out.fro 0
  have f_r1 := B_r.out.fro 1
  have f_r2 := B_r.out.fro 2
  have c_n0 := B_n.out.cell0
  have c_n1 := B_n.out.cell1
  go_wp2
  clear c_r0 c_r1 c_r2 f_r0 f_r1 f_r2 c_n0 c_n1
  obtain ⟨V5, hV, NB, KP⟩ := storeR B_r.out (.bool false) (.slice none 0 0) (.slice none 0 0)
  rw [hV]
  clear hV
  replace Z_n := Lib.hid (Z_n.out.keeps KP.out)
  replace N_d := Lib.hid (N_d.out.keeps KP.out)
  replace B_n := Lib.hid (B_n.out.keeps KP.out (by omega))
  replace hB := below_keeps hB KP.out (by omega)
  have B_r := NB
  clear NB KP
  have c_r0 := B_r.out.cell0
  have c_r1 := B_r.out.cell1
  have c_r2 := B_r.out.cell2
  refine bodyPost_ret (v := .tuple #[.agg #[.bool false, .slice none 0 0, .slice none 0 0], .int .i64 (parseErr (aft s.data.toList))]) (by simp [results, Tryz.results20, go_sem, c_r0, c_r1, c_r2]) rfl ?_
  exact ⟨rfl, hB⟩
set_option maxRecDepth 100000 in
set_option maxHeartbeats 8000000 in
theorem r3parse_e3 (s : ByteArray) (w : World) (hs : s.size ≤ 9223372036854775807) (h1 : zpErr (fore s.data.toList) = 0) (hf : 0 ≤ slashAt s.data.toList) (h2 : parseErr (aft s.data.toList) = 0) (h3 : decVal (aft s.data.toList) ≤ 1) : Calls Tryz.prog 20 #[.string s] w (GivesErr w 2) := by
  have HE1 := Lib.hid h1
  clear h1
  have HE2 := Lib.hid h2
  have hd := parse_num_ok h2
  have hdl := parse_num_len (l := aft s.data.toList)
  rw [hd] at hdl
  have HD := Lib.hid hd
  clear h2 hd
  have hnl : (limbs (zpNum (fore s.data.toList)).natAbs).length ≤ 200 := zp_len _
  obtain ⟨i, hi⟩ := Int.eq_ofNat_of_zero_le hf
  have hil : i < s.size := by have := slash_lt s.data.toList; rw [size_list] at this; have h2 : Lib.indexByte s.data.toList 47 = (i : Int) := hi; omega
  have ep : slashPos s.data.toList = (i : Int) := by rw [slashPos, if_pos hf, hi]
  have HF : Hid (fore s.data.toList = (s.extract 0 i).data.toList) := by show _ = _; rw [ext_take, fore, if_pos hf, hi]; rfl
  have HA : Hid (aft s.data.toList = (s.extract (i + 1) s.size).data.toList) := by show _ = _; rw [ext_drop, aft, if_pos hf, hi]; rfl
  have hl1 : (i : Int) ≤ (s.size : Int) := by omega
  have hl2 : (i : Int) + 1 ≤ (s.size : Int) := by omega
  have hl0 : (0 : Int) ≤ (i : Int) + 1 := by omega
  have hw : IntKind.i64.wrap ((i : Int) + 1) = (i : Int) + 1 := by rw [IntKind.wrap_i64]; omega
  have hne : ((i : Int) == (s.size : Int)) = false := by rw [beq_eq_false_iff_ne]; omega
  have hsz1 : (s.extract 0 i).size ≤ 9223372036854775807 := by rw [← size_list, ext_take, List.length_take]; omega
  have hsz2 : (s.extract (i + 1) s.size).size ≤ 9223372036854775807 := by rw [← size_list, ext_drop, List.length_drop, size_list]; omega
  clear hf hi
  go_enter Tryz.func20, Tryz.ntmps20
  go_upto_region 1 with fail
  obtain ⟨W0, hW, B_r, HW, HS⟩ := rbox1 w (.bool false) (.slice none 0 0) (.slice none 0 0)
  rw [hW]
  clear hW
  have hB := HW.out
  have hsz := HS.out
  clear HW HS
  have c_r0 := B_r.out.cell0
  have c_r1 := B_r.out.cell1
  have c_r2 := B_r.out.cell2
  go_wp2_with fail
  clear c_r0 c_r1 c_r2
  refine (r3slash_any s _ hs).mono ?_
  rintro e w1 ⟨rfl, hb⟩
  replace B_r := Lib.hid (B_r.out.below hb)
  replace hB := below_next hB hb
  clear hb
  rw [ep]
  have c_r0 := B_r.out.cell0
  have c_r1 := B_r.out.cell1
  have c_r2 := B_r.out.cell2
  go_wp2_with fail
  clear c_r0 c_r1 c_r2
  refine (riparse_any (s.extract 0 i) _ hsz1).mono ?_
  rintro e w2 ⟨b_n, A_n, n_n, c_n, rfl, h_n, hb⟩
  replace B_r := Lib.hid (B_r.out.below hb)
  replace hB := below_next hB hb
  clear hb
  rw [← HF.out] at h_n ⊢
  have Z_n := Lib.hid h_n
  clear h_n
  rw [HE1.out]
  have c_r0 := B_r.out.cell0
  have c_r1 := B_r.out.cell1
  have c_r2 := B_r.out.cell2
  go_upto_region 5 with fail
  clear c_r0 c_r1 c_r2
  obtain ⟨W3, g_n, hV, hg, NB, hb⟩ := newI w2 (.bool b_n) (.slice A_n n_n c_n)
  rw [hV, hg]
  clear hV
  have l_n_r : w.heap.size < g_n := hg ▸ B_r.out.lt
  replace Z_n := Lib.hid (Z_n.out.below hb)
  replace B_r := Lib.hid (B_r.out.below hb)
  replace hB := below_next hB hb
  have B_n := NB
  clear NB hb hg
  have c_r0 := B_r.out.cell0
  have c_r1 := B_r.out.cell1
  have c_r2 := B_r.out.cell2
  have c_n0 := B_n.out.cell0
  have c_n1 := B_n.out.cell1
  go_wp2_with fail
  clear c_r0 c_r1 c_r2 c_n0 c_n1
  refine (rparse_any (s.extract (i + 1) s.size) _ hsz2).mono ?_
  rintro e w4 ⟨v_d, rfl, h_d, hb⟩
  replace Z_n := Lib.hid (Z_n.out.below hb)
  replace B_r := Lib.hid (B_r.out.below hb)
  replace B_n := Lib.hid (B_n.out.below hb)
  replace hB := below_next hB hb
  clear hb
  rw [← HA.out] at h_d ⊢
  rw [HD.out] at h_d
  rw [HE2.out]
  obtain ⟨A_d, c_d, rfl, _, _⟩ := h_d.form
  have N_d := Lib.hid h_d
  clear h_d
  have c_r0 := B_r.out.cell0
  have c_r1 := B_r.out.cell1
  have c_r2 := B_r.out.cell2
  have c_n0 := B_n.out.cell0
  have c_n1 := B_n.out.cell1
  go_wp2_with fail
  clear c_r0 c_r1 c_r2 c_n0 c_n1
  refine (rof_any 1 _ (by omega)).mono ?_
  rintro e w5 ⟨v_o, rfl, h_o, hb⟩
  replace Z_n := Lib.hid (Z_n.out.below hb)
  replace N_d := Lib.hid (N_d.out.below hb)
  replace B_r := Lib.hid (B_r.out.below hb)
  replace B_n := Lib.hid (B_n.out.below hb)
  replace hB := below_next hB hb
  clear hb
  have N_o := Lib.hid h_o
  clear h_o
  have c_r0 := B_r.out.cell0
  have c_r1 := B_r.out.cell1
  have c_r2 := B_r.out.cell2
  have c_n0 := B_n.out.cell0
  have c_n1 := B_n.out.cell1
  go_wp2_with fail
  clear c_r0 c_r1 c_r2 c_n0 c_n1
  obtain ⟨v3, hv3, hv4⟩ : ∃ v : Int, ord (val (limbs (decVal (aft s.data.toList)))) (val (limbs 1)) = v ∧ v ≤ 0 := ⟨_, rfl, by rw [val_limbs, val_limbs]; unfold ord; split; omega; rw [if_neg (by omega)]; omega⟩
  have e3 : decide (v3 ≤ 0) = true := decide_eq_true hv4
  have HV := Lib.hid hv3
  clear hv3
  refine (rncmp_is (v := v3) (by exact N_d.out) (by exact N_o.out) HV.out).mono ?_
  rintro e w6 ⟨rfl, hb⟩
  replace Z_n := Lib.hid (Z_n.out.below hb)
  replace N_d := Lib.hid (N_d.out.below hb)
  replace N_o := Lib.hid (N_o.out.below hb)
  replace B_r := Lib.hid (B_r.out.below hb)
  replace B_n := Lib.hid (B_n.out.below hb)
  replace hB := below_next hB hb
  clear hb
  have c_r0 := B_r.out.cell0
  have c_r1 := B_r.out.cell1
  have c_r2 := B_r.out.cell2
  have f_r0 := B_r.out.fro 0
  have f_r1 := B_r.out.fro 1
  have f_r2 := B_r.out.fro 2
  have c_n0 := B_n.out.cell0
  have c_n1 := B_n.out.cell1
  go_wp2
  clear c_r0 c_r1 c_r2 f_r0 f_r1 f_r2 c_n0 c_n1
  obtain ⟨V7, hV, NB, KP⟩ := storeR B_r.out (.bool false) (.slice none 0 0) (.slice none 0 0)
  rw [hV]
  clear hV
  replace Z_n := Lib.hid (Z_n.out.keeps KP.out)
  replace N_d := Lib.hid (N_d.out.keeps KP.out)
  replace N_o := Lib.hid (N_o.out.keeps KP.out)
  replace B_n := Lib.hid (B_n.out.keeps KP.out (by omega))
  replace hB := below_keeps hB KP.out (by omega)
  have B_r := NB
  clear NB KP
  have c_r0 := B_r.out.cell0
  have c_r1 := B_r.out.cell1
  have c_r2 := B_r.out.cell2
  refine bodyPost_ret (v := .tuple #[.agg #[.bool false, .slice none 0 0, .slice none 0 0], .int .i64 2]) (by simp [results, Tryz.results20, go_sem, c_r0, c_r1, c_r2]) rfl ?_
  exact ⟨rfl, hB⟩
set_option maxRecDepth 100000 in
set_option maxHeartbeats 8000000 in
theorem r3parse_e4 (s : ByteArray) (w : World) (hs : s.size ≤ 9223372036854775807) (h1 : zpErr (fore s.data.toList) = 0) (hf : 0 ≤ slashAt s.data.toList) (h2 : parseErr (aft s.data.toList) = 0) (h3 : 1 < decVal (aft s.data.toList)) (h4 : 1 < Nat.gcd (zpNum (fore s.data.toList)).natAbs (decVal (aft s.data.toList))) : Calls Tryz.prog 20 #[.string s] w (GivesErr w 2) := by
  have HE1 := Lib.hid h1
  clear h1
  have HE2 := Lib.hid h2
  have hd := parse_num_ok h2
  have hdl := parse_num_len (l := aft s.data.toList)
  rw [hd] at hdl
  have HD := Lib.hid hd
  clear h2 hd
  have hnl : (limbs (zpNum (fore s.data.toList)).natAbs).length ≤ 200 := zp_len _
  obtain ⟨i, hi⟩ := Int.eq_ofNat_of_zero_le hf
  have hil : i < s.size := by have := slash_lt s.data.toList; rw [size_list] at this; have h2 : Lib.indexByte s.data.toList 47 = (i : Int) := hi; omega
  have ep : slashPos s.data.toList = (i : Int) := by rw [slashPos, if_pos hf, hi]
  have HF : Hid (fore s.data.toList = (s.extract 0 i).data.toList) := by show _ = _; rw [ext_take, fore, if_pos hf, hi]; rfl
  have HA : Hid (aft s.data.toList = (s.extract (i + 1) s.size).data.toList) := by show _ = _; rw [ext_drop, aft, if_pos hf, hi]; rfl
  have hl1 : (i : Int) ≤ (s.size : Int) := by omega
  have hl2 : (i : Int) + 1 ≤ (s.size : Int) := by omega
  have hl0 : (0 : Int) ≤ (i : Int) + 1 := by omega
  have hw : IntKind.i64.wrap ((i : Int) + 1) = (i : Int) + 1 := by rw [IntKind.wrap_i64]; omega
  have hne : ((i : Int) == (s.size : Int)) = false := by rw [beq_eq_false_iff_ne]; omega
  have hsz1 : (s.extract 0 i).size ≤ 9223372036854775807 := by rw [← size_list, ext_take, List.length_take]; omega
  have hsz2 : (s.extract (i + 1) s.size).size ≤ 9223372036854775807 := by rw [← size_list, ext_drop, List.length_drop, size_list]; omega
  clear hf hi
  go_enter Tryz.func20, Tryz.ntmps20
  go_upto_region 1 with fail
  obtain ⟨W0, hW, B_r, HW, HS⟩ := rbox1 w (.bool false) (.slice none 0 0) (.slice none 0 0)
  rw [hW]
  clear hW
  have hB := HW.out
  have hsz := HS.out
  clear HW HS
  have c_r0 := B_r.out.cell0
  have c_r1 := B_r.out.cell1
  have c_r2 := B_r.out.cell2
  go_wp2_with fail
  clear c_r0 c_r1 c_r2
  refine (r3slash_any s _ hs).mono ?_
  rintro e w1 ⟨rfl, hb⟩
  replace B_r := Lib.hid (B_r.out.below hb)
  replace hB := below_next hB hb
  clear hb
  rw [ep]
  have c_r0 := B_r.out.cell0
  have c_r1 := B_r.out.cell1
  have c_r2 := B_r.out.cell2
  go_wp2_with fail
  clear c_r0 c_r1 c_r2
  refine (riparse_any (s.extract 0 i) _ hsz1).mono ?_
  rintro e w2 ⟨b_n, A_n, n_n, c_n, rfl, h_n, hb⟩
  replace B_r := Lib.hid (B_r.out.below hb)
  replace hB := below_next hB hb
  clear hb
  rw [← HF.out] at h_n ⊢
  have Z_n := Lib.hid h_n
  clear h_n
  rw [HE1.out]
  have c_r0 := B_r.out.cell0
  have c_r1 := B_r.out.cell1
  have c_r2 := B_r.out.cell2
  go_upto_region 5 with fail
  clear c_r0 c_r1 c_r2
  obtain ⟨W3, g_n, hV, hg, NB, hb⟩ := newI w2 (.bool b_n) (.slice A_n n_n c_n)
  rw [hV, hg]
  clear hV
  have l_n_r : w.heap.size < g_n := hg ▸ B_r.out.lt
  replace Z_n := Lib.hid (Z_n.out.below hb)
  replace B_r := Lib.hid (B_r.out.below hb)
  replace hB := below_next hB hb
  have B_n := NB
  clear NB hb hg
  have c_r0 := B_r.out.cell0
  have c_r1 := B_r.out.cell1
  have c_r2 := B_r.out.cell2
  have c_n0 := B_n.out.cell0
  have c_n1 := B_n.out.cell1
  go_wp2_with fail
  clear c_r0 c_r1 c_r2 c_n0 c_n1
  refine (rparse_any (s.extract (i + 1) s.size) _ hsz2).mono ?_
  rintro e w4 ⟨v_d, rfl, h_d, hb⟩
  replace Z_n := Lib.hid (Z_n.out.below hb)
  replace B_r := Lib.hid (B_r.out.below hb)
  replace B_n := Lib.hid (B_n.out.below hb)
  replace hB := below_next hB hb
  clear hb
  rw [← HA.out] at h_d ⊢
  rw [HD.out] at h_d
  rw [HE2.out]
  obtain ⟨A_d, c_d, rfl, _, _⟩ := h_d.form
  have N_d := Lib.hid h_d
  clear h_d
  have c_r0 := B_r.out.cell0
  have c_r1 := B_r.out.cell1
  have c_r2 := B_r.out.cell2
  have c_n0 := B_n.out.cell0
  have c_n1 := B_n.out.cell1
  go_wp2_with fail
  clear c_r0 c_r1 c_r2 c_n0 c_n1
  refine (rof_any 1 _ (by omega)).mono ?_
  rintro e w5 ⟨v_o, rfl, h_o, hb⟩
  replace Z_n := Lib.hid (Z_n.out.below hb)
  replace N_d := Lib.hid (N_d.out.below hb)
  replace B_r := Lib.hid (B_r.out.below hb)
  replace B_n := Lib.hid (B_n.out.below hb)
  replace hB := below_next hB hb
  clear hb
  have N_o := Lib.hid h_o
  clear h_o
  have c_r0 := B_r.out.cell0
  have c_r1 := B_r.out.cell1
  have c_r2 := B_r.out.cell2
  have c_n0 := B_n.out.cell0
  have c_n1 := B_n.out.cell1
  go_wp2_with fail
  clear c_r0 c_r1 c_r2 c_n0 c_n1
  refine (rncmp_is (v := 1) (by exact N_d.out) (by exact N_o.out) (by rw [val_limbs, val_limbs]; exact ord_gt h3)).mono ?_
  rintro e w6 ⟨rfl, hb⟩
  replace Z_n := Lib.hid (Z_n.out.below hb)
  replace N_d := Lib.hid (N_d.out.below hb)
  replace N_o := Lib.hid (N_o.out.below hb)
  replace B_r := Lib.hid (B_r.out.below hb)
  replace B_n := Lib.hid (B_n.out.below hb)
  replace hB := below_next hB hb
  clear hb
  have c_r0 := B_r.out.cell0
  have c_r1 := B_r.out.cell1
  have c_r2 := B_r.out.cell2
  have c_n0 := B_n.out.cell0
  have c_n1 := B_n.out.cell1
  go_wp2_with fail
  clear c_r0 c_r1 c_r2 c_n0 c_n1
  refine (rgcd_any _ _ _ _ _ (by exact Z_n.out.2) (by exact N_d.out) (by omega) (by omega)).mono ?_
  rintro e w7 ⟨v_g, rfl, h_g, hb⟩
  replace Z_n := Lib.hid (Z_n.out.below hb)
  replace N_d := Lib.hid (N_d.out.below hb)
  replace N_o := Lib.hid (N_o.out.below hb)
  replace B_r := Lib.hid (B_r.out.below hb)
  replace B_n := Lib.hid (B_n.out.below hb)
  replace hB := below_next hB hb
  clear hb
  rw [val_limbs, val_limbs] at h_g
  have N_g := Lib.hid h_g
  clear h_g
  have c_r0 := B_r.out.cell0
  have c_r1 := B_r.out.cell1
  have c_r2 := B_r.out.cell2
  have c_n0 := B_n.out.cell0
  have c_n1 := B_n.out.cell1
  go_wp2_with fail
  clear c_r0 c_r1 c_r2 c_n0 c_n1
  refine (rncmp_is (v := 1) (by exact N_g.out) (by exact N_o.out) (by rw [val_limbs, val_limbs]; exact ord_gt h4)).mono ?_
  rintro e w8 ⟨rfl, hb⟩
  replace Z_n := Lib.hid (Z_n.out.below hb)
  replace N_d := Lib.hid (N_d.out.below hb)
  replace N_o := Lib.hid (N_o.out.below hb)
  replace N_g := Lib.hid (N_g.out.below hb)
  replace B_r := Lib.hid (B_r.out.below hb)
  replace B_n := Lib.hid (B_n.out.below hb)
  replace hB := below_next hB hb
  clear hb
  have c_r0 := B_r.out.cell0
  have c_r1 := B_r.out.cell1
  have c_r2 := B_r.out.cell2
  have f_r0 := B_r.out.fro 0
  have f_r1 := B_r.out.fro 1
  have f_r2 := B_r.out.fro 2
  have c_n0 := B_n.out.cell0
  have c_n1 := B_n.out.cell1
  go_wp2
  clear c_r0 c_r1 c_r2 f_r0 f_r1 f_r2 c_n0 c_n1
  obtain ⟨V9, hV, NB, KP⟩ := storeR B_r.out (.bool false) (.slice none 0 0) (.slice none 0 0)
  rw [hV]
  clear hV
  replace Z_n := Lib.hid (Z_n.out.keeps KP.out)
  replace N_d := Lib.hid (N_d.out.keeps KP.out)
  replace N_o := Lib.hid (N_o.out.keeps KP.out)
  replace N_g := Lib.hid (N_g.out.keeps KP.out)
  replace B_n := Lib.hid (B_n.out.keeps KP.out (by omega))
  replace hB := below_keeps hB KP.out (by omega)
  have B_r := NB
  clear NB KP
  have c_r0 := B_r.out.cell0
  have c_r1 := B_r.out.cell1
  have c_r2 := B_r.out.cell2
  refine bodyPost_ret (v := .tuple #[.agg #[.bool false, .slice none 0 0, .slice none 0 0], .int .i64 2]) (by simp [results, Tryz.results20, go_sem, c_r0, c_r1, c_r2]) rfl ?_
  exact ⟨rfl, hB⟩
set_option maxRecDepth 100000 in
set_option maxHeartbeats 8000000 in
theorem r3parse_rat (s : ByteArray) (w : World) (hs : s.size ≤ 9223372036854775807) (h1 : zpErr (fore s.data.toList) = 0) (hf : 0 ≤ slashAt s.data.toList) (h2 : parseErr (aft s.data.toList) = 0) (h3 : 1 < decVal (aft s.data.toList)) (h4 : ¬ 1 < Nat.gcd (zpNum (fore s.data.toList)).natAbs (decVal (aft s.data.toList))) : Calls Tryz.prog 20 #[.string s] w (GivesQE w (mkRat (zpNum (fore s.data.toList)) (decVal (aft s.data.toList)))) := by
  have HE1 := Lib.hid h1
  clear h1
  have HE2 := Lib.hid h2
  have hd := parse_num_ok h2
  have hdl := parse_num_len (l := aft s.data.toList)
  rw [hd] at hdl
  have HD := Lib.hid hd
  clear h2 hd
  have hnl : (limbs (zpNum (fore s.data.toList)).natAbs).length ≤ 200 := zp_len _
  obtain ⟨i, hi⟩ := Int.eq_ofNat_of_zero_le hf
  have hil : i < s.size := by have := slash_lt s.data.toList; rw [size_list] at this; have h2 : Lib.indexByte s.data.toList 47 = (i : Int) := hi; omega
  have ep : slashPos s.data.toList = (i : Int) := by rw [slashPos, if_pos hf, hi]
  have HF : Hid (fore s.data.toList = (s.extract 0 i).data.toList) := by show _ = _; rw [ext_take, fore, if_pos hf, hi]; rfl
  have HA : Hid (aft s.data.toList = (s.extract (i + 1) s.size).data.toList) := by show _ = _; rw [ext_drop, aft, if_pos hf, hi]; rfl
  have hl1 : (i : Int) ≤ (s.size : Int) := by omega
  have hl2 : (i : Int) + 1 ≤ (s.size : Int) := by omega
  have hl0 : (0 : Int) ≤ (i : Int) + 1 := by omega
  have hw : IntKind.i64.wrap ((i : Int) + 1) = (i : Int) + 1 := by rw [IntKind.wrap_i64]; omega
  have hne : ((i : Int) == (s.size : Int)) = false := by rw [beq_eq_false_iff_ne]; omega
  have hsz1 : (s.extract 0 i).size ≤ 9223372036854775807 := by rw [← size_list, ext_take, List.length_take]; omega
  have hsz2 : (s.extract (i + 1) s.size).size ≤ 9223372036854775807 := by rw [← size_list, ext_drop, List.length_drop, size_list]; omega
  clear hf hi
  go_enter Tryz.func20, Tryz.ntmps20
  go_upto_region 1 with fail
  obtain ⟨W0, hW, B_r, HW, HS⟩ := rbox1 w (.bool false) (.slice none 0 0) (.slice none 0 0)
  rw [hW]
  clear hW
  have hB := HW.out
  have hsz := HS.out
  clear HW HS
  have c_r0 := B_r.out.cell0
  have c_r1 := B_r.out.cell1
  have c_r2 := B_r.out.cell2
  go_wp2_with fail
  clear c_r0 c_r1 c_r2
  refine (r3slash_any s _ hs).mono ?_
  rintro e w1 ⟨rfl, hb⟩
  replace B_r := Lib.hid (B_r.out.below hb)
  replace hB := below_next hB hb
  clear hb
  rw [ep]
  have c_r0 := B_r.out.cell0
  have c_r1 := B_r.out.cell1
  have c_r2 := B_r.out.cell2
  go_wp2_with fail
  clear c_r0 c_r1 c_r2
  refine (riparse_any (s.extract 0 i) _ hsz1).mono ?_
  rintro e w2 ⟨b_n, A_n, n_n, c_n, rfl, h_n, hb⟩
  replace B_r := Lib.hid (B_r.out.below hb)
  replace hB := below_next hB hb
  clear hb
  rw [← HF.out] at h_n ⊢
  have Z_n := Lib.hid h_n
  clear h_n
  rw [HE1.out]
  have c_r0 := B_r.out.cell0
  have c_r1 := B_r.out.cell1
  have c_r2 := B_r.out.cell2
  go_upto_region 5 with fail
  clear c_r0 c_r1 c_r2
  obtain ⟨W3, g_n, hV, hg, NB, hb⟩ := newI w2 (.bool b_n) (.slice A_n n_n c_n)
  rw [hV, hg]
  clear hV
  have l_n_r : w.heap.size < g_n := hg ▸ B_r.out.lt
  replace Z_n := Lib.hid (Z_n.out.below hb)
  replace B_r := Lib.hid (B_r.out.below hb)
  replace hB := below_next hB hb
  have B_n := NB
  clear NB hb hg
  have c_r0 := B_r.out.cell0
  have c_r1 := B_r.out.cell1
  have c_r2 := B_r.out.cell2
  have c_n0 := B_n.out.cell0
  have c_n1 := B_n.out.cell1
  go_wp2_with fail
  clear c_r0 c_r1 c_r2 c_n0 c_n1
  refine (rparse_any (s.extract (i + 1) s.size) _ hsz2).mono ?_
  rintro e w4 ⟨v_d, rfl, h_d, hb⟩
  replace Z_n := Lib.hid (Z_n.out.below hb)
  replace B_r := Lib.hid (B_r.out.below hb)
  replace B_n := Lib.hid (B_n.out.below hb)
  replace hB := below_next hB hb
  clear hb
  rw [← HA.out] at h_d ⊢
  rw [HD.out] at h_d
  rw [HE2.out]
  obtain ⟨A_d, c_d, rfl, _, _⟩ := h_d.form
  have N_d := Lib.hid h_d
  clear h_d
  have c_r0 := B_r.out.cell0
  have c_r1 := B_r.out.cell1
  have c_r2 := B_r.out.cell2
  have c_n0 := B_n.out.cell0
  have c_n1 := B_n.out.cell1
  go_wp2_with fail
  clear c_r0 c_r1 c_r2 c_n0 c_n1
  refine (rof_any 1 _ (by omega)).mono ?_
  rintro e w5 ⟨v_o, rfl, h_o, hb⟩
  replace Z_n := Lib.hid (Z_n.out.below hb)
  replace N_d := Lib.hid (N_d.out.below hb)
  replace B_r := Lib.hid (B_r.out.below hb)
  replace B_n := Lib.hid (B_n.out.below hb)
  replace hB := below_next hB hb
  clear hb
  have N_o := Lib.hid h_o
  clear h_o
  have c_r0 := B_r.out.cell0
  have c_r1 := B_r.out.cell1
  have c_r2 := B_r.out.cell2
  have c_n0 := B_n.out.cell0
  have c_n1 := B_n.out.cell1
  go_wp2_with fail
  clear c_r0 c_r1 c_r2 c_n0 c_n1
  refine (rncmp_is (v := 1) (by exact N_d.out) (by exact N_o.out) (by rw [val_limbs, val_limbs]; exact ord_gt h3)).mono ?_
  rintro e w6 ⟨rfl, hb⟩
  replace Z_n := Lib.hid (Z_n.out.below hb)
  replace N_d := Lib.hid (N_d.out.below hb)
  replace N_o := Lib.hid (N_o.out.below hb)
  replace B_r := Lib.hid (B_r.out.below hb)
  replace B_n := Lib.hid (B_n.out.below hb)
  replace hB := below_next hB hb
  clear hb
  have c_r0 := B_r.out.cell0
  have c_r1 := B_r.out.cell1
  have c_r2 := B_r.out.cell2
  have c_n0 := B_n.out.cell0
  have c_n1 := B_n.out.cell1
  go_wp2_with fail
  clear c_r0 c_r1 c_r2 c_n0 c_n1
  refine (rgcd_any _ _ _ _ _ (by exact Z_n.out.2) (by exact N_d.out) (by omega) (by omega)).mono ?_
  rintro e w7 ⟨v_g, rfl, h_g, hb⟩
  replace Z_n := Lib.hid (Z_n.out.below hb)
  replace N_d := Lib.hid (N_d.out.below hb)
  replace N_o := Lib.hid (N_o.out.below hb)
  replace B_r := Lib.hid (B_r.out.below hb)
  replace B_n := Lib.hid (B_n.out.below hb)
  replace hB := below_next hB hb
  clear hb
  rw [val_limbs, val_limbs] at h_g
  have N_g := Lib.hid h_g
  clear h_g
  have c_r0 := B_r.out.cell0
  have c_r1 := B_r.out.cell1
  have c_r2 := B_r.out.cell2
  have c_n0 := B_n.out.cell0
  have c_n1 := B_n.out.cell1
  go_wp2_with fail
  clear c_r0 c_r1 c_r2 c_n0 c_n1
  refine (rncmp_is (v := 0) (by exact N_g.out) (by exact N_o.out) (by rw [val_limbs, val_limbs]; exact ord_eq (by have := gcd_ne (X := (zpNum (fore s.data.toList)).natAbs) (show decVal (aft s.data.toList) ≠ 0 by omega); omega))).mono ?_
  rintro e w8 ⟨rfl, hb⟩
  replace Z_n := Lib.hid (Z_n.out.below hb)
  replace N_d := Lib.hid (N_d.out.below hb)
  replace N_o := Lib.hid (N_o.out.below hb)
  replace N_g := Lib.hid (N_g.out.below hb)
  replace B_r := Lib.hid (B_r.out.below hb)
  replace B_n := Lib.hid (B_n.out.below hb)
  replace hB := below_next hB hb
  clear hb
  have c_r0 := B_r.out.cell0
  have c_r1 := B_r.out.cell1
  have c_r2 := B_r.out.cell2
  have f_r0 := B_r.out.fro 0
  have f_r1 := B_r.out.fro 1
  have f_r2 := B_r.out.fro 2
  have c_n0 := B_n.out.cell0
  have c_n1 := B_n.out.cell1
  go_wp2
  clear c_r0 c_r1 c_r2 f_r0 f_r1 f_r2 c_n0 c_n1
  obtain ⟨V9, hV, NB, KP⟩ := storeR B_r.out (.bool b_n) (.slice A_n n_n c_n) (.slice A_d (limbs (decVal (aft s.data.toList))).length c_d)
  rw [hV]
  clear hV
  replace Z_n := Lib.hid (Z_n.out.keeps KP.out)
  replace N_d := Lib.hid (N_d.out.keeps KP.out)
  replace N_o := Lib.hid (N_o.out.keeps KP.out)
  replace N_g := Lib.hid (N_g.out.keeps KP.out)
  replace B_n := Lib.hid (B_n.out.keeps KP.out (by omega))
  replace hB := below_keeps hB KP.out (by omega)
  have B_r := NB
  clear NB KP
  have c_r0 := B_r.out.cell0
  have c_r1 := B_r.out.cell1
  have c_r2 := B_r.out.cell2
  refine bodyPost_ret (v := .tuple #[.agg #[.bool b_n, .slice A_n n_n c_n, .slice A_d (limbs (decVal (aft s.data.toList))).length c_d], .int .i64 0]) (by simp [results, Tryz.results20, go_sem, c_r0, c_r1, c_r2]) rfl ?_
  exact ⟨_, _, _, _, _, _, _, rfl, ⟨by rw [(mk_low h3 h4).1]; exact Z_n.out, by rw [(mk_low h3 h4).2]; exact N_d.out⟩, hB⟩
theorem r3parse_ok (s : ByteArray) (w : World) (hs : s.size ≤ 9223372036854775807) (h : qpErr s.data.toList = 0) : Calls Tryz.prog 20 #[.string s] w (GivesQE w (qpNum s.data.toList)) := by
  unfold qpErr at h
  by_cases h1 : zpErr (fore s.data.toList) = 0
  · rw [if_pos h1] at h
    by_cases hf : 0 ≤ slashAt s.data.toList
    · rw [if_pos hf] at h
      by_cases h2 : parseErr (aft s.data.toList) = 0
      · rw [if_pos h2] at h
        rw [show qpNum s.data.toList = _ from if_pos hf]
        split at h
        · cases h
        · rename_i h3
          exact r3parse_rat s w hs h1 hf h2 (by omega) (by omega)
      · rw [if_neg h2] at h; exact absurd h h2
    · rw [show qpNum s.data.toList = _ from if_neg hf]
      exact r3parse_int s w hs h1 hf
  · rw [if_neg h1] at h; exact absurd h h1
theorem r3parse_err (s : ByteArray) (w : World) (hs : s.size ≤ 9223372036854775807) (h : qpErr s.data.toList ≠ 0) : Calls Tryz.prog 20 #[.string s] w (GivesErr w (qpErr s.data.toList)) := by
  unfold qpErr at h ⊢
  by_cases h1 : zpErr (fore s.data.toList) = 0
  · rw [if_pos h1] at h ⊢
    by_cases hf : 0 ≤ slashAt s.data.toList
    · rw [if_pos hf] at h ⊢
      by_cases h2 : parseErr (aft s.data.toList) = 0
      · rw [if_pos h2] at h ⊢
        by_cases h3 : decVal (aft s.data.toList) ≤ 1
        · rw [if_pos (.inl h3)]
          exact r3parse_e3 s w hs h1 hf h2 h3
        · by_cases h4 : 1 < Nat.gcd (zpNum (fore s.data.toList)).natAbs (decVal (aft s.data.toList))
          · rw [if_pos (.inr h4)]
            exact r3parse_e4 s w hs h1 hf h2 (by omega) h4
          · rw [if_neg (by omega)] at h; exact absurd rfl h
      · rw [if_neg h2]
        exact r3parse_e2 s w hs h1 hf h2
    · rw [if_neg hf] at h; exact absurd rfl h
  · rw [if_neg h1]
    exact r3parse_e1 s w hs h1
end Go.Proofs.YtoflndeonegkpaaGreatDoor
