/- The law IntegerRoundTrip: its walk. -/
import Derived.Test.YtcdfhiocglibfaaDoorAwake
import Derived.Test.YtcdfhiocglibfaaDoorZBase
namespace Go.Proofs.YtcdfhiocglibfaaDoor
open Go.RowKit

open Go.Lib (decDigits)
theorem itext_str {b : Bool} {m : Value} {z : Int} {k : Nat} {w : World} (h : IntAt w b m z k) (hk : k ≤ 100000) (htab : Tab w) : Calls Tryd.prog 22 #[.agg #[.bool b, m]] w fun e w' => ∃ t : ByteArray, e = .returned (.string t) ∧ t.data.toList = ztext z ∧ Below w.heap.size w w' :=
  (itext_any b m z k w h hk htab).mono fun _ _ ⟨he, hb⟩ => ⟨_, he, by simp, hb⟩
theorem txt_len {w : World} {m : Value} {l : List Nat} (b : Bool) (h : NatAt w m l) (hl : l.length ≤ 40) : (decDigits (zval b l).natAbs).length ≤ 401 := by
  have := limbs_length_le (h.zsz b hl)
  exact Nat.le_trans (dec_len_le _) (by omega)
section
variable {z : Int} {t : ByteArray}
theorem txt_size_neg (hz : z < 0) (h : t.data.toList = ztext z) : t.size = (decDigits z.natAbs).length + 1 := by rw [← size_list, h, ztext_neg hz]; rfl
theorem txt_size_pos (hz : ¬ z < 0) (h : t.data.toList = ztext z) : t.size = (decDigits z.natAbs).length := by rw [← size_list, h, ztext_pos hz]
theorem txt_pos (hz : ¬ z < 0) (h : t.data.toList = ztext z) : 0 < t.size := by rw [txt_size_pos hz h]; exact List.length_pos_iff.2 (dec_ne_nil _)
theorem txt_head_neg (hz : z < 0) (h : t.data.toList = ztext z) (hp : 0 < t.size) : ((t[0].toNat : Int) == 45) = true := by
  have h1 := head_byte t hp
  rw [h, ztext_neg hz] at h1
  injection h1 with h1
  rw [← h1]; rfl
theorem txt_head_pos (hz : ¬ z < 0) (h : t.data.toList = ztext z) (hp : 0 < t.size) : ((t[0].toNat : Int) == 45) = false := by
  have h1 := mem_byte t 0 hp
  rw [h, ztext_pos hz] at h1
  have h2 := dec_digits z.natAbs _ h1
  rw [beq_eq_false_iff_ne]
  have := h2.1
  omega
theorem dec_head45 (n : Nat) : ¬ (decDigits n).head? = some 45 := fun e => by
  have h1 := dec_digits n 45 (List.mem_of_mem_head? (by rw [e]; exact rfl))
  exact absurd h1.1 (by decide)
theorem zp_ok (h : (decDigits z.natAbs).length ≤ 200) : zpErr (ztext z) = 0 ∧ zpNum (ztext z) = z := by
  by_cases hz : z < 0
  · have e : zpErr (ztext z) = 0 := by
      unfold zpErr
      rw [ztext_neg hz, if_pos (show (45 :: decDigits z.natAbs).head? = some 45 from rfl), List.tail_cons, if_pos (pe_ok h), if_neg (by rw [decVal_dec]; omega)]
    refine ⟨e, ?_⟩
    unfold zpNum
    rw [e, if_pos rfl, ztext_neg hz, if_pos (show (45 :: decDigits z.natAbs).head? = some 45 from rfl), List.tail_cons, decVal_dec]
    omega
  · have e : zpErr (ztext z) = 0 := by
      unfold zpErr
      rw [ztext_pos hz, if_neg (dec_head45 _), pe_ok h]
    refine ⟨e, ?_⟩
    unfold zpNum
    rw [e, if_pos rfl, ztext_pos hz, if_neg (dec_head45 _), decVal_dec]
    omega
theorem zp_long (h : ¬ (decDigits z.natAbs).length ≤ 200) : zpErr (ztext z) = 5 ∧ zpNum (ztext z) = 0 := by
  have e : zpErr (ztext z) = 5 := by
    unfold zpErr
    by_cases hz : z < 0
    · rw [ztext_neg hz, if_pos (show (45 :: decDigits z.natAbs).head? = some 45 from rfl), List.tail_cons, pe_long h, if_neg (by decide)]
    · rw [ztext_pos hz, if_neg (dec_head45 _), pe_long h]
  refine ⟨e, ?_⟩
  unfold zpNum
  rw [e, if_neg (by decide)]
end

set_option maxRecDepth 100000 in
set_option maxHeartbeats 8000000 in
theorem walk_IntegerRoundTrip (b_a : Bool) (m_a : Value) (l_a : List Nat) (w : World) (h_a : NatAt w m_a l_a) (htab : Tab w) : Calls Tryd.prog 6 #[.agg #[.bool b_a, m_a]] w (GivesTrue w) := by
  have HT := Lib.hid htab
  clear htab
  have H_a := Lib.hid h_a
  clear h_a
  by_cases s_a : l_a.length ≤ 40
  · have HLN := Lib.hid (txt_len b_a H_a.out s_a)
    by_cases hz : zval b_a l_a < 0
    · have HZ := Lib.hid hz
      clear hz
      by_cases hd : (decDigits (zval b_a l_a).natAbs).length ≤ 200
      · have HD := Lib.hid hd
        clear hd
        go_enter Tryd.func6, Tryd.ntmps6
        go_wp2_with fail
        obtain ⟨W1, hW, NB, HW⟩ := boxes1 w (.bool b_a) m_a
        rw [hW]
        clear hW
        replace HT := Lib.hid (HT.out.below HW.out)
        replace H_a := Lib.hid (H_a.out.below HW.out)
        have hB := HW.out
        have B_a := NB
        clear NB HW
        refine (zshort_yes (k := 40) (by exact H_a.out) s_a).mono ?_
        rintro e w1 ⟨rfl, hb⟩
        replace HT := Lib.hid (HT.out.below hb)
        replace H_a := Lib.hid (H_a.out.below hb)
        replace B_a := Lib.hid (B_a.out.below hb)
        replace hB := below_next hB hb
        clear hb
        have c_a0 := B_a.out.cell0
        have c_a1 := B_a.out.cell1
        go_wp2_with fail
        clear c_a0 c_a1
        refine (itext_str (k := 40) (by exact ⟨l_a, H_a.out, s_a, rfl⟩) (by omega) (by exact HT.out)).mono ?_
        rintro e w2 ⟨t, rfl, ht, hb⟩
        replace HT := Lib.hid (HT.out.below hb)
        replace H_a := Lib.hid (H_a.out.below hb)
        replace B_a := Lib.hid (B_a.out.below hb)
        replace hB := below_next hB hb
        clear hb
        have Ht := Lib.hid ht
        clear ht
        have et := txt_size_neg (by have := HZ.out; omega) Ht.out
        have tp : 0 < t.size := by omega
        have q1 : ((t[0].toNat : Int) == 45) = true := txt_head_neg (by have := HZ.out; omega) Ht.out tp
        have tm : t.size ≤ 9223372036854775807 := by have := HLN.out; omega
        have q2 : decide ((200 : Int) < (t.size : Int) - 1) = false := by have := HD.out; simp; omega
        clear et
        have c_a0 := B_a.out.cell0
        have c_a1 := B_a.out.cell1
        go_wp2_with fail
        clear c_a0 c_a1
        refine (iparse_any t _ tm).mono ?_
        rintro e w3 ⟨b_n, A_n, n_n, c_n, rfl, h_n, hb⟩
        replace HT := Lib.hid (HT.out.below hb)
        replace H_a := Lib.hid (H_a.out.below hb)
        replace B_a := Lib.hid (B_a.out.below hb)
        replace hB := below_next hB hb
        clear hb
        rw [Ht.out, (zp_ok HD.out).1]
        rw [Ht.out, (zp_ok HD.out).2] at h_n
        have Z_n := Lib.hid h_n
        clear h_n
        have c_a0 := B_a.out.cell0
        have c_a1 := B_a.out.cell1
        go_wp2
        clear c_a0 c_a1
        obtain ⟨W2, hW, NB, HW⟩ := boxes1 w3 (.bool b_n) (.slice A_n n_n c_n)
        rw [hW]
        clear hW
        replace HT := Lib.hid (HT.out.below HW.out)
        replace H_a := Lib.hid (H_a.out.below HW.out)
        replace Z_n := Lib.hid (Z_n.out.below HW.out)
        replace B_a := Lib.hid (B_a.out.below HW.out)
        replace hB := below_next hB HW.out
        have B_n := NB
        clear NB HW
        have c_a0 := B_a.out.cell0
        have c_a1 := B_a.out.cell1
        have c_n0 := B_n.out.cell0
        have c_n1 := B_n.out.cell1
        go_region_held3 (fun w' => w'.cell? ⟨w.heap.size, 0, none⟩ = some (.bool b_a) ∧ w'.cell? ⟨w.heap.size, 1, none⟩ = some m_a ∧ w'.cell? ⟨w3.heap.size, 0, none⟩ = some (.bool b_n) ∧ w'.cell? ⟨w3.heap.size, 1, none⟩ = some (.slice A_n n_n c_n))
          (first | (go_split_ands; exact ⟨cellKeep hb (by assumption), cellKeep hb (by assumption), cellKeep hb (by assumption), cellKeep hb (by assumption)⟩) | go_keep)
          (first
            | (go_at_call 28; refine (inorm_any _ _ _ 40 _ (by exact ⟨l_a, H_a.out, s_a, rfl⟩) (by omega)).mono ?_; rintro e w_ ⟨b_x, A_x, n_x, c_x, rfl, h_x, hb⟩; (try replace hb := below_undrew hb); (try replace HT := Lib.hid (HT.out.below hb)); (try replace H_a := Lib.hid (H_a.out.below hb)); (try replace Z_n := Lib.hid (Z_n.out.below hb)); (try replace B_a := Lib.hid (B_a.out.below hb)); (try replace B_n := Lib.hid (B_n.out.below hb)); (try replace Z_x := Lib.hid (Z_x.out.below hb)); replace hB := below_next hB hb; have Z_x := Lib.hid h_x; clear h_x)
            | (go_at_call 16; refine (zsame_eq (by exact Z_n.out) (by exact Z_x.out) rfl).mono ?_; rintro e w_ ⟨rfl, hb⟩; (try replace hb := below_undrew hb); (try replace HT := Lib.hid (HT.out.below hb)); (try replace H_a := Lib.hid (H_a.out.below hb)); (try replace Z_n := Lib.hid (Z_n.out.below hb)); (try replace B_a := Lib.hid (B_a.out.below hb)); (try replace B_n := Lib.hid (B_n.out.below hb)); (try replace Z_x := Lib.hid (Z_x.out.below hb)); replace hB := below_next hB hb)
            | (go_at_call 22; refine (itext_str (k := 40) (by exact Z_n.out.of (H_a.out.zsz b_a s_a)) (by omega) (by exact HT.out)).mono ?_; rintro e w_ ⟨t2, rfl, ht2, hb⟩; (try replace hb := below_undrew hb); (try replace HT := Lib.hid (HT.out.below hb)); (try replace H_a := Lib.hid (H_a.out.below hb)); (try replace Z_n := Lib.hid (Z_n.out.below hb)); (try replace B_a := Lib.hid (B_a.out.below hb)); (try replace B_n := Lib.hid (B_n.out.below hb)); (try replace Z_x := Lib.hid (Z_x.out.below hb)); replace hB := below_next hB hb; obtain rfl : t = t2 := bytes_ext (by rw [Ht.out, ht2]); clear ht2)
            | (go_at_call 13; refine (awake_any _ (by exact HT.out)).mono ?_; rintro e w_ ⟨rfl, hb⟩; (try replace hb := below_undrew hb); (try replace HT := Lib.hid (HT.out.below hb)); (try replace H_a := Lib.hid (H_a.out.below hb)); (try replace Z_n := Lib.hid (Z_n.out.below hb)); (try replace B_a := Lib.hid (B_a.out.below hb)); (try replace B_n := Lib.hid (B_n.out.below hb)); (try replace Z_x := Lib.hid (Z_x.out.below hb)); replace hB := below_next hB hb))
        have c_a0 := B_a.out.cell0
        have c_a1 := B_a.out.cell1
        have c_n0 := B_n.out.cell0
        have c_n1 := B_n.out.cell1
        go_wp2
        go_ret
        exact ⟨rfl, hB⟩
      · have HD := Lib.hid hd
        clear hd
        go_enter Tryd.func6, Tryd.ntmps6
        go_wp2_with fail
        obtain ⟨W1, hW, NB, HW⟩ := boxes1 w (.bool b_a) m_a
        rw [hW]
        clear hW
        replace HT := Lib.hid (HT.out.below HW.out)
        replace H_a := Lib.hid (H_a.out.below HW.out)
        have hB := HW.out
        have B_a := NB
        clear NB HW
        refine (zshort_yes (k := 40) (by exact H_a.out) s_a).mono ?_
        rintro e w1 ⟨rfl, hb⟩
        replace HT := Lib.hid (HT.out.below hb)
        replace H_a := Lib.hid (H_a.out.below hb)
        replace B_a := Lib.hid (B_a.out.below hb)
        replace hB := below_next hB hb
        clear hb
        have c_a0 := B_a.out.cell0
        have c_a1 := B_a.out.cell1
        go_wp2_with fail
        clear c_a0 c_a1
        refine (itext_str (k := 40) (by exact ⟨l_a, H_a.out, s_a, rfl⟩) (by omega) (by exact HT.out)).mono ?_
        rintro e w2 ⟨t, rfl, ht, hb⟩
        replace HT := Lib.hid (HT.out.below hb)
        replace H_a := Lib.hid (H_a.out.below hb)
        replace B_a := Lib.hid (B_a.out.below hb)
        replace hB := below_next hB hb
        clear hb
        have Ht := Lib.hid ht
        clear ht
        have et := txt_size_neg (by have := HZ.out; omega) Ht.out
        have tp : 0 < t.size := by omega
        have q1 : ((t[0].toNat : Int) == 45) = true := txt_head_neg (by have := HZ.out; omega) Ht.out tp
        have tm : t.size ≤ 9223372036854775807 := by have := HLN.out; omega
        have q2 : decide ((200 : Int) < (t.size : Int) - 1) = true := by have := HD.out; simp; omega
        clear et
        have c_a0 := B_a.out.cell0
        have c_a1 := B_a.out.cell1
        go_wp2_with fail
        clear c_a0 c_a1
        refine (iparse_any t _ tm).mono ?_
        rintro e w3 ⟨b_n, A_n, n_n, c_n, rfl, h_n, hb⟩
        replace HT := Lib.hid (HT.out.below hb)
        replace H_a := Lib.hid (H_a.out.below hb)
        replace B_a := Lib.hid (B_a.out.below hb)
        replace hB := below_next hB hb
        clear hb
        rw [Ht.out, (zp_long HD.out).1]
        rw [Ht.out, (zp_long HD.out).2] at h_n
        have Z_n := Lib.hid h_n
        clear h_n
        have c_a0 := B_a.out.cell0
        have c_a1 := B_a.out.cell1
        go_wp2_with fail
        clear c_a0 c_a1
        obtain ⟨W2, hW, NB, HW⟩ := boxes1 w3 (.bool b_n) (.slice A_n n_n c_n)
        rw [hW]
        clear hW
        replace HT := Lib.hid (HT.out.below HW.out)
        replace H_a := Lib.hid (H_a.out.below HW.out)
        replace Z_n := Lib.hid (Z_n.out.below HW.out)
        replace B_a := Lib.hid (B_a.out.below HW.out)
        replace hB := below_next hB HW.out
        have B_n := NB
        clear NB HW
        refine (zsame_eq (by exact Z_n.out) (by exact zat_nil _) rfl).mono ?_
        rintro e w4 ⟨rfl, hb⟩
        replace HT := Lib.hid (HT.out.below hb)
        replace H_a := Lib.hid (H_a.out.below hb)
        replace Z_n := Lib.hid (Z_n.out.below hb)
        replace B_a := Lib.hid (B_a.out.below hb)
        replace B_n := Lib.hid (B_n.out.below hb)
        replace hB := below_next hB hb
        clear hb
        have c_a0 := B_a.out.cell0
        have c_a1 := B_a.out.cell1
        have c_n0 := B_n.out.cell0
        have c_n1 := B_n.out.cell1
        go_wp2_with fail
        clear c_a0 c_a1 c_n0 c_n1
        refine (awake_any _ (by exact HT.out)).mono ?_
        rintro e w5 ⟨rfl, hb⟩
        replace HT := Lib.hid (HT.out.below hb)
        replace H_a := Lib.hid (H_a.out.below hb)
        replace Z_n := Lib.hid (Z_n.out.below hb)
        replace B_a := Lib.hid (B_a.out.below hb)
        replace B_n := Lib.hid (B_n.out.below hb)
        replace hB := below_next hB hb
        clear hb
        have c_a0 := B_a.out.cell0
        have c_a1 := B_a.out.cell1
        have c_n0 := B_n.out.cell0
        have c_n1 := B_n.out.cell1
        go_wp2
        go_ret
        exact ⟨rfl, hB⟩
    · have HZ := Lib.hid hz
      clear hz
      by_cases hd : (decDigits (zval b_a l_a).natAbs).length ≤ 200
      · have HD := Lib.hid hd
        clear hd
        go_enter Tryd.func6, Tryd.ntmps6
        go_wp2_with fail
        obtain ⟨W1, hW, NB, HW⟩ := boxes1 w (.bool b_a) m_a
        rw [hW]
        clear hW
        replace HT := Lib.hid (HT.out.below HW.out)
        replace H_a := Lib.hid (H_a.out.below HW.out)
        have hB := HW.out
        have B_a := NB
        clear NB HW
        refine (zshort_yes (k := 40) (by exact H_a.out) s_a).mono ?_
        rintro e w1 ⟨rfl, hb⟩
        replace HT := Lib.hid (HT.out.below hb)
        replace H_a := Lib.hid (H_a.out.below hb)
        replace B_a := Lib.hid (B_a.out.below hb)
        replace hB := below_next hB hb
        clear hb
        have c_a0 := B_a.out.cell0
        have c_a1 := B_a.out.cell1
        go_wp2_with fail
        clear c_a0 c_a1
        refine (itext_str (k := 40) (by exact ⟨l_a, H_a.out, s_a, rfl⟩) (by omega) (by exact HT.out)).mono ?_
        rintro e w2 ⟨t, rfl, ht, hb⟩
        replace HT := Lib.hid (HT.out.below hb)
        replace H_a := Lib.hid (H_a.out.below hb)
        replace B_a := Lib.hid (B_a.out.below hb)
        replace hB := below_next hB hb
        clear hb
        have Ht := Lib.hid ht
        clear ht
        have et := txt_size_pos (by have := HZ.out; omega) Ht.out
        have tp : 0 < t.size := txt_pos (by have := HZ.out; omega) Ht.out
        have q1 : ((t[0].toNat : Int) == 45) = false := txt_head_pos (by have := HZ.out; omega) Ht.out tp
        have tm : t.size ≤ 9223372036854775807 := by have := HLN.out; omega
        have q2 : decide ((200 : Int) < (t.size : Int)) = false := by have := HD.out; simp; omega
        clear et
        have c_a0 := B_a.out.cell0
        have c_a1 := B_a.out.cell1
        go_wp2_with fail
        clear c_a0 c_a1
        refine (iparse_any t _ tm).mono ?_
        rintro e w3 ⟨b_n, A_n, n_n, c_n, rfl, h_n, hb⟩
        replace HT := Lib.hid (HT.out.below hb)
        replace H_a := Lib.hid (H_a.out.below hb)
        replace B_a := Lib.hid (B_a.out.below hb)
        replace hB := below_next hB hb
        clear hb
        rw [Ht.out, (zp_ok HD.out).1]
        rw [Ht.out, (zp_ok HD.out).2] at h_n
        have Z_n := Lib.hid h_n
        clear h_n
        have c_a0 := B_a.out.cell0
        have c_a1 := B_a.out.cell1
        go_wp2
        clear c_a0 c_a1
        obtain ⟨W2, hW, NB, HW⟩ := boxes1 w3 (.bool b_n) (.slice A_n n_n c_n)
        rw [hW]
        clear hW
        replace HT := Lib.hid (HT.out.below HW.out)
        replace H_a := Lib.hid (H_a.out.below HW.out)
        replace Z_n := Lib.hid (Z_n.out.below HW.out)
        replace B_a := Lib.hid (B_a.out.below HW.out)
        replace hB := below_next hB HW.out
        have B_n := NB
        clear NB HW
        have c_a0 := B_a.out.cell0
        have c_a1 := B_a.out.cell1
        have c_n0 := B_n.out.cell0
        have c_n1 := B_n.out.cell1
        go_region_held3 (fun w' => w'.cell? ⟨w.heap.size, 0, none⟩ = some (.bool b_a) ∧ w'.cell? ⟨w.heap.size, 1, none⟩ = some m_a ∧ w'.cell? ⟨w3.heap.size, 0, none⟩ = some (.bool b_n) ∧ w'.cell? ⟨w3.heap.size, 1, none⟩ = some (.slice A_n n_n c_n))
          (first | (go_split_ands; exact ⟨cellKeep hb (by assumption), cellKeep hb (by assumption), cellKeep hb (by assumption), cellKeep hb (by assumption)⟩) | go_keep)
          (first
            | (go_at_call 28; refine (inorm_any _ _ _ 40 _ (by exact ⟨l_a, H_a.out, s_a, rfl⟩) (by omega)).mono ?_; rintro e w_ ⟨b_x, A_x, n_x, c_x, rfl, h_x, hb⟩; (try replace hb := below_undrew hb); (try replace HT := Lib.hid (HT.out.below hb)); (try replace H_a := Lib.hid (H_a.out.below hb)); (try replace Z_n := Lib.hid (Z_n.out.below hb)); (try replace B_a := Lib.hid (B_a.out.below hb)); (try replace B_n := Lib.hid (B_n.out.below hb)); (try replace Z_x := Lib.hid (Z_x.out.below hb)); replace hB := below_next hB hb; have Z_x := Lib.hid h_x; clear h_x)
            | (go_at_call 16; refine (zsame_eq (by exact Z_n.out) (by exact Z_x.out) rfl).mono ?_; rintro e w_ ⟨rfl, hb⟩; (try replace hb := below_undrew hb); (try replace HT := Lib.hid (HT.out.below hb)); (try replace H_a := Lib.hid (H_a.out.below hb)); (try replace Z_n := Lib.hid (Z_n.out.below hb)); (try replace B_a := Lib.hid (B_a.out.below hb)); (try replace B_n := Lib.hid (B_n.out.below hb)); (try replace Z_x := Lib.hid (Z_x.out.below hb)); replace hB := below_next hB hb)
            | (go_at_call 22; refine (itext_str (k := 40) (by exact Z_n.out.of (H_a.out.zsz b_a s_a)) (by omega) (by exact HT.out)).mono ?_; rintro e w_ ⟨t2, rfl, ht2, hb⟩; (try replace hb := below_undrew hb); (try replace HT := Lib.hid (HT.out.below hb)); (try replace H_a := Lib.hid (H_a.out.below hb)); (try replace Z_n := Lib.hid (Z_n.out.below hb)); (try replace B_a := Lib.hid (B_a.out.below hb)); (try replace B_n := Lib.hid (B_n.out.below hb)); (try replace Z_x := Lib.hid (Z_x.out.below hb)); replace hB := below_next hB hb; obtain rfl : t = t2 := bytes_ext (by rw [Ht.out, ht2]); clear ht2)
            | (go_at_call 13; refine (awake_any _ (by exact HT.out)).mono ?_; rintro e w_ ⟨rfl, hb⟩; (try replace hb := below_undrew hb); (try replace HT := Lib.hid (HT.out.below hb)); (try replace H_a := Lib.hid (H_a.out.below hb)); (try replace Z_n := Lib.hid (Z_n.out.below hb)); (try replace B_a := Lib.hid (B_a.out.below hb)); (try replace B_n := Lib.hid (B_n.out.below hb)); (try replace Z_x := Lib.hid (Z_x.out.below hb)); replace hB := below_next hB hb))
        have c_a0 := B_a.out.cell0
        have c_a1 := B_a.out.cell1
        have c_n0 := B_n.out.cell0
        have c_n1 := B_n.out.cell1
        go_wp2
        go_ret
        exact ⟨rfl, hB⟩
      · have HD := Lib.hid hd
        clear hd
        go_enter Tryd.func6, Tryd.ntmps6
        go_wp2_with fail
        obtain ⟨W1, hW, NB, HW⟩ := boxes1 w (.bool b_a) m_a
        rw [hW]
        clear hW
        replace HT := Lib.hid (HT.out.below HW.out)
        replace H_a := Lib.hid (H_a.out.below HW.out)
        have hB := HW.out
        have B_a := NB
        clear NB HW
        refine (zshort_yes (k := 40) (by exact H_a.out) s_a).mono ?_
        rintro e w1 ⟨rfl, hb⟩
        replace HT := Lib.hid (HT.out.below hb)
        replace H_a := Lib.hid (H_a.out.below hb)
        replace B_a := Lib.hid (B_a.out.below hb)
        replace hB := below_next hB hb
        clear hb
        have c_a0 := B_a.out.cell0
        have c_a1 := B_a.out.cell1
        go_wp2_with fail
        clear c_a0 c_a1
        refine (itext_str (k := 40) (by exact ⟨l_a, H_a.out, s_a, rfl⟩) (by omega) (by exact HT.out)).mono ?_
        rintro e w2 ⟨t, rfl, ht, hb⟩
        replace HT := Lib.hid (HT.out.below hb)
        replace H_a := Lib.hid (H_a.out.below hb)
        replace B_a := Lib.hid (B_a.out.below hb)
        replace hB := below_next hB hb
        clear hb
        have Ht := Lib.hid ht
        clear ht
        have et := txt_size_pos (by have := HZ.out; omega) Ht.out
        have tp : 0 < t.size := txt_pos (by have := HZ.out; omega) Ht.out
        have q1 : ((t[0].toNat : Int) == 45) = false := txt_head_pos (by have := HZ.out; omega) Ht.out tp
        have tm : t.size ≤ 9223372036854775807 := by have := HLN.out; omega
        have q2 : decide ((200 : Int) < (t.size : Int)) = true := by have := HD.out; simp; omega
        clear et
        have c_a0 := B_a.out.cell0
        have c_a1 := B_a.out.cell1
        go_wp2_with fail
        clear c_a0 c_a1
        refine (iparse_any t _ tm).mono ?_
        rintro e w3 ⟨b_n, A_n, n_n, c_n, rfl, h_n, hb⟩
        replace HT := Lib.hid (HT.out.below hb)
        replace H_a := Lib.hid (H_a.out.below hb)
        replace B_a := Lib.hid (B_a.out.below hb)
        replace hB := below_next hB hb
        clear hb
        rw [Ht.out, (zp_long HD.out).1]
        rw [Ht.out, (zp_long HD.out).2] at h_n
        have Z_n := Lib.hid h_n
        clear h_n
        have c_a0 := B_a.out.cell0
        have c_a1 := B_a.out.cell1
        go_wp2_with fail
        clear c_a0 c_a1
        obtain ⟨W2, hW, NB, HW⟩ := boxes1 w3 (.bool b_n) (.slice A_n n_n c_n)
        rw [hW]
        clear hW
        replace HT := Lib.hid (HT.out.below HW.out)
        replace H_a := Lib.hid (H_a.out.below HW.out)
        replace Z_n := Lib.hid (Z_n.out.below HW.out)
        replace B_a := Lib.hid (B_a.out.below HW.out)
        replace hB := below_next hB HW.out
        have B_n := NB
        clear NB HW
        refine (zsame_eq (by exact Z_n.out) (by exact zat_nil _) rfl).mono ?_
        rintro e w4 ⟨rfl, hb⟩
        replace HT := Lib.hid (HT.out.below hb)
        replace H_a := Lib.hid (H_a.out.below hb)
        replace Z_n := Lib.hid (Z_n.out.below hb)
        replace B_a := Lib.hid (B_a.out.below hb)
        replace B_n := Lib.hid (B_n.out.below hb)
        replace hB := below_next hB hb
        clear hb
        have c_a0 := B_a.out.cell0
        have c_a1 := B_a.out.cell1
        have c_n0 := B_n.out.cell0
        have c_n1 := B_n.out.cell1
        go_wp2_with fail
        clear c_a0 c_a1 c_n0 c_n1
        refine (awake_any _ (by exact HT.out)).mono ?_
        rintro e w5 ⟨rfl, hb⟩
        replace HT := Lib.hid (HT.out.below hb)
        replace H_a := Lib.hid (H_a.out.below hb)
        replace Z_n := Lib.hid (Z_n.out.below hb)
        replace B_a := Lib.hid (B_a.out.below hb)
        replace B_n := Lib.hid (B_n.out.below hb)
        replace hB := below_next hB hb
        clear hb
        have c_a0 := B_a.out.cell0
        have c_a1 := B_a.out.cell1
        have c_n0 := B_n.out.cell0
        have c_n1 := B_n.out.cell1
        go_wp2
        go_ret
        exact ⟨rfl, hB⟩
  · skip
    go_enter Tryd.func6, Tryd.ntmps6
    go_wp2_with fail
    obtain ⟨W1, hW, NB, HW⟩ := boxes1 w (.bool b_a) m_a
    rw [hW]
    clear hW
    replace HT := Lib.hid (HT.out.below HW.out)
    replace H_a := Lib.hid (H_a.out.below HW.out)
    have hB := HW.out
    have B_a := NB
    clear NB HW
    refine (zshort_no (k := 40) (by exact H_a.out) s_a).mono ?_
    rintro e w1 ⟨rfl, hb⟩
    replace HT := Lib.hid (HT.out.below hb)
    replace H_a := Lib.hid (H_a.out.below hb)
    replace B_a := Lib.hid (B_a.out.below hb)
    replace hB := below_next hB hb
    clear hb
    have c_a0 := B_a.out.cell0
    have c_a1 := B_a.out.cell1
    go_wp2_with fail
    clear c_a0 c_a1
    refine (awake_any _ (by exact HT.out)).mono ?_
    rintro e w2 ⟨rfl, hb⟩
    replace HT := Lib.hid (HT.out.below hb)
    replace H_a := Lib.hid (H_a.out.below hb)
    replace B_a := Lib.hid (B_a.out.below hb)
    replace hB := below_next hB hb
    clear hb
    have c_a0 := B_a.out.cell0
    have c_a1 := B_a.out.cell1
    go_wp2
    go_ret
    exact ⟨rfl, hB⟩
end Go.Proofs.YtcdfhiocglibfaaDoor
