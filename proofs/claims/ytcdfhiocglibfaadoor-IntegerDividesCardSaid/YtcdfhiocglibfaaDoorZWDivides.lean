/- The law IntegerDivides: its walk. -/
import Derived.Test.YtcdfhiocglibfaaDoorAwake
import Derived.Test.YtcdfhiocglibfaaDoorZBase
namespace Go.Proofs.YtcdfhiocglibfaaDoor
open Go.RowKit

set_option maxRecDepth 100000 in
set_option maxHeartbeats 8000000 in
theorem walk_IntegerDivides (b_a : Bool) (m_a : Value) (l_a : List Nat) (b_b : Bool) (m_b : Value) (l_b : List Nat) (w : World) (h_a : NatAt w m_a l_a) (h_b : NatAt w m_b l_b) (htab : Tab w) : Calls Tryd.prog 7 #[.agg #[.bool b_a, m_a], .agg #[.bool b_b, m_b]] w (GivesTrue w) := by
  have HT := Lib.hid htab
  clear htab
  have H_a := Lib.hid h_a
  clear h_a
  have H_b := Lib.hid h_b
  clear h_b
  obtain ⟨E_a, k_a, rfl, f_a, g_a⟩ := H_a.out.form
  obtain ⟨E_b, k_b, rfl, f_b, g_b⟩ := H_b.out.form
  by_cases s_a : l_a.length ≤ 30
  · by_cases s_b : l_b.length ≤ 30
    · have S_a := Lib.hid (H_a.out.zsz b_a s_a)
      have S_b := Lib.hid (H_b.out.zsz b_b s_b)
      by_cases hz : zval b_b l_b = 0
      · have HZ := Lib.hid hz
        clear hz
        go_enter Tryd.func7, Tryd.ntmps7
        go_wp2_with fail
        obtain ⟨W1, hW, NB, NC, HW, _⟩ := boxes2 w (.bool b_a) (.slice E_a l_a.length k_a) (.bool b_b) (.slice E_b l_b.length k_b)
        rw [hW]
        clear hW
        replace HT := Lib.hid (HT.out.below HW.out)
        replace H_a := Lib.hid (H_a.out.below HW.out)
        replace H_b := Lib.hid (H_b.out.below HW.out)
        have hB := HW.out
        have B_a := NB
        have B_b := NC
        clear NB NC HW
        refine (zshort_yes (k := 30) (by exact H_a.out) s_a).mono ?_
        rintro e w1 ⟨rfl, hb⟩
        replace HT := Lib.hid (HT.out.below hb)
        replace H_a := Lib.hid (H_a.out.below hb)
        replace H_b := Lib.hid (H_b.out.below hb)
        replace B_a := Lib.hid (B_a.out.below hb)
        replace B_b := Lib.hid (B_b.out.below hb)
        replace hB := below_next hB hb
        clear hb
        have c_a0 := B_a.out.cell0
        have c_a1 := B_a.out.cell1
        have c_b0 := B_b.out.cell0
        have c_b1 := B_b.out.cell1
        go_wp2_with fail
        clear c_a0 c_a1 c_b0 c_b1
        refine (zshort_yes (k := 30) (by exact H_b.out) s_b).mono ?_
        rintro e w2 ⟨rfl, hb⟩
        replace HT := Lib.hid (HT.out.below hb)
        replace H_a := Lib.hid (H_a.out.below hb)
        replace H_b := Lib.hid (H_b.out.below hb)
        replace B_a := Lib.hid (B_a.out.below hb)
        replace B_b := Lib.hid (B_b.out.below hb)
        replace hB := below_next hB hb
        clear hb
        have c_a0 := B_a.out.cell0
        have c_a1 := B_a.out.cell1
        have c_b0 := B_b.out.cell0
        have c_b1 := B_b.out.cell1
        go_wp2_with fail
        clear c_a0 c_a1 c_b0 c_b1
        refine (idivmod_zero _ _ _ _ _ _ 30 30 _ (by exact ⟨l_a, H_a.out, s_a, rfl⟩) (by exact ⟨l_b, H_b.out, s_b, rfl⟩) HZ.out).mono ?_
        rintro e w3 ⟨b_q, A_q, n_q, c_q, b_r, A_r, n_r, c_r, rfl, h_q, h_r, hb⟩
        replace HT := Lib.hid (HT.out.below hb)
        replace H_a := Lib.hid (H_a.out.below hb)
        replace H_b := Lib.hid (H_b.out.below hb)
        replace B_a := Lib.hid (B_a.out.below hb)
        replace B_b := Lib.hid (B_b.out.below hb)
        replace hB := below_next hB hb
        clear hb
        have Z_q := Lib.hid h_q
        clear h_q
        have Z_r := Lib.hid h_r
        clear h_r
        have c_a0 := B_a.out.cell0
        have c_a1 := B_a.out.cell1
        have c_b0 := B_b.out.cell0
        have c_b1 := B_b.out.cell1
        go_wp2
        clear c_a0 c_a1 c_b0 c_b1
        obtain ⟨W2, hW, NB, NC, HW, _⟩ := boxes2 w3 (.bool b_q) (.slice A_q n_q c_q) (.bool b_r) (.slice A_r n_r c_r)
        rw [hW]
        clear hW
        replace HT := Lib.hid (HT.out.below HW.out)
        replace H_a := Lib.hid (H_a.out.below HW.out)
        replace H_b := Lib.hid (H_b.out.below HW.out)
        replace Z_q := Lib.hid (Z_q.out.below HW.out)
        replace Z_r := Lib.hid (Z_r.out.below HW.out)
        replace B_a := Lib.hid (B_a.out.below HW.out)
        replace B_b := Lib.hid (B_b.out.below HW.out)
        replace hB := below_next hB HW.out
        have B_q := NB
        have B_r := NC
        clear NB NC HW
        have c_a0 := B_a.out.cell0
        have c_a1 := B_a.out.cell1
        have c_b0 := B_b.out.cell0
        have c_b1 := B_b.out.cell1
        have c_q0 := B_q.out.cell0
        have c_q1 := B_q.out.cell1
        have c_r0 := B_r.out.cell0
        have c_r1 := B_r.out.cell1
        go_region_held3 (fun w' => w'.cell? ⟨w.heap.size, 0, none⟩ = some (.bool b_a) ∧ w'.cell? ⟨w.heap.size, 1, none⟩ = some (.slice E_a l_a.length k_a) ∧ w'.cell? ⟨w.heap.size + 1, 0, none⟩ = some (.bool b_b) ∧ w'.cell? ⟨w.heap.size + 1, 1, none⟩ = some (.slice E_b l_b.length k_b) ∧ w'.cell? ⟨w3.heap.size, 0, none⟩ = some (.bool b_q) ∧ w'.cell? ⟨w3.heap.size, 1, none⟩ = some (.slice A_q n_q c_q) ∧ w'.cell? ⟨w3.heap.size + 1, 0, none⟩ = some (.bool b_r) ∧ w'.cell? ⟨w3.heap.size + 1, 1, none⟩ = some (.slice A_r n_r c_r))
          (first | (go_split_ands; exact ⟨cellKeep hb (by assumption), cellKeep hb (by assumption), cellKeep hb (by assumption), cellKeep hb (by assumption), cellKeep hb (by assumption), cellKeep hb (by assumption), cellKeep hb (by assumption), cellKeep hb (by assumption)⟩) | go_keep)
          (first
            | (go_at_call 26; refine (iof_any 0 _ (by omega) (by omega)).mono ?_; rintro e w_ ⟨b_o, A_o, n_o, c_o, rfl, h_o, hb⟩; (try replace hb := below_undrew hb); (try replace HT := Lib.hid (HT.out.below hb)); (try replace H_a := Lib.hid (H_a.out.below hb)); (try replace H_b := Lib.hid (H_b.out.below hb)); (try replace Z_q := Lib.hid (Z_q.out.below hb)); (try replace Z_r := Lib.hid (Z_r.out.below hb)); (try replace B_a := Lib.hid (B_a.out.below hb)); (try replace B_b := Lib.hid (B_b.out.below hb)); (try replace B_q := Lib.hid (B_q.out.below hb)); (try replace B_r := Lib.hid (B_r.out.below hb)); (try replace Z_o := Lib.hid (Z_o.out.below hb)); replace hB := below_next hB hb; have Z_o := Lib.hid h_o; clear h_o)
            | (go_at_call 29; refine (icmp_eq (k2 := 2) (by exact ⟨l_b, H_b.out, s_b, rfl⟩) (by exact Z_o.out.two (by omega) (by omega)) (by omega) (by omega) HZ.out).mono ?_; rintro e w_ ⟨rfl, hb⟩; (try replace hb := below_undrew hb); (try replace HT := Lib.hid (HT.out.below hb)); (try replace H_a := Lib.hid (H_a.out.below hb)); (try replace H_b := Lib.hid (H_b.out.below hb)); (try replace Z_q := Lib.hid (Z_q.out.below hb)); (try replace Z_r := Lib.hid (Z_r.out.below hb)); (try replace B_a := Lib.hid (B_a.out.below hb)); (try replace B_b := Lib.hid (B_b.out.below hb)); (try replace B_q := Lib.hid (B_q.out.below hb)); (try replace B_r := Lib.hid (B_r.out.below hb)); (try replace Z_o := Lib.hid (Z_o.out.below hb)); replace hB := below_next hB hb)
            | (go_at_call_of 16 (Value.agg #[.bool b_q, .slice A_q n_q c_q]); refine (zsame_eq (by exact Z_q.out) (by exact zat_nil _) rfl).mono ?_; rintro e w_ ⟨rfl, hb⟩; (try replace hb := below_undrew hb); (try replace HT := Lib.hid (HT.out.below hb)); (try replace H_a := Lib.hid (H_a.out.below hb)); (try replace H_b := Lib.hid (H_b.out.below hb)); (try replace Z_q := Lib.hid (Z_q.out.below hb)); (try replace Z_r := Lib.hid (Z_r.out.below hb)); (try replace B_a := Lib.hid (B_a.out.below hb)); (try replace B_b := Lib.hid (B_b.out.below hb)); (try replace B_q := Lib.hid (B_q.out.below hb)); (try replace B_r := Lib.hid (B_r.out.below hb)); (try replace Z_o := Lib.hid (Z_o.out.below hb)); replace hB := below_next hB hb)
            | (go_at_call_of 16 (Value.agg #[.bool b_r, .slice A_r n_r c_r]); refine (zsame_eq (by exact Z_r.out) (by exact zat_nil _) rfl).mono ?_; rintro e w_ ⟨rfl, hb⟩; (try replace hb := below_undrew hb); (try replace HT := Lib.hid (HT.out.below hb)); (try replace H_a := Lib.hid (H_a.out.below hb)); (try replace H_b := Lib.hid (H_b.out.below hb)); (try replace Z_q := Lib.hid (Z_q.out.below hb)); (try replace Z_r := Lib.hid (Z_r.out.below hb)); (try replace B_a := Lib.hid (B_a.out.below hb)); (try replace B_b := Lib.hid (B_b.out.below hb)); (try replace B_q := Lib.hid (B_q.out.below hb)); (try replace B_r := Lib.hid (B_r.out.below hb)); (try replace Z_o := Lib.hid (Z_o.out.below hb)); replace hB := below_next hB hb)
            | (go_at_call 13; refine (awake_any _ (by exact HT.out)).mono ?_; rintro e w_ ⟨rfl, hb⟩; (try replace hb := below_undrew hb); (try replace HT := Lib.hid (HT.out.below hb)); (try replace H_a := Lib.hid (H_a.out.below hb)); (try replace H_b := Lib.hid (H_b.out.below hb)); (try replace Z_q := Lib.hid (Z_q.out.below hb)); (try replace Z_r := Lib.hid (Z_r.out.below hb)); (try replace B_a := Lib.hid (B_a.out.below hb)); (try replace B_b := Lib.hid (B_b.out.below hb)); (try replace B_q := Lib.hid (B_q.out.below hb)); (try replace B_r := Lib.hid (B_r.out.below hb)); (try replace Z_o := Lib.hid (Z_o.out.below hb)); replace hB := below_next hB hb))
        have c_a0 := B_a.out.cell0
        have c_a1 := B_a.out.cell1
        have c_b0 := B_b.out.cell0
        have c_b1 := B_b.out.cell1
        have c_q0 := B_q.out.cell0
        have c_q1 := B_q.out.cell1
        have c_r0 := B_r.out.cell0
        have c_r1 := B_r.out.cell1
        go_wp2
        go_ret
        exact ⟨rfl, hB⟩
      · have HZ := Lib.hid hz
        clear hz
        go_enter Tryd.func7, Tryd.ntmps7
        go_wp2_with fail
        obtain ⟨W1, hW, NB, NC, HW, _⟩ := boxes2 w (.bool b_a) (.slice E_a l_a.length k_a) (.bool b_b) (.slice E_b l_b.length k_b)
        rw [hW]
        clear hW
        replace HT := Lib.hid (HT.out.below HW.out)
        replace H_a := Lib.hid (H_a.out.below HW.out)
        replace H_b := Lib.hid (H_b.out.below HW.out)
        have hB := HW.out
        have B_a := NB
        have B_b := NC
        clear NB NC HW
        refine (zshort_yes (k := 30) (by exact H_a.out) s_a).mono ?_
        rintro e w1 ⟨rfl, hb⟩
        replace HT := Lib.hid (HT.out.below hb)
        replace H_a := Lib.hid (H_a.out.below hb)
        replace H_b := Lib.hid (H_b.out.below hb)
        replace B_a := Lib.hid (B_a.out.below hb)
        replace B_b := Lib.hid (B_b.out.below hb)
        replace hB := below_next hB hb
        clear hb
        have c_a0 := B_a.out.cell0
        have c_a1 := B_a.out.cell1
        have c_b0 := B_b.out.cell0
        have c_b1 := B_b.out.cell1
        go_wp2_with fail
        clear c_a0 c_a1 c_b0 c_b1
        refine (zshort_yes (k := 30) (by exact H_b.out) s_b).mono ?_
        rintro e w2 ⟨rfl, hb⟩
        replace HT := Lib.hid (HT.out.below hb)
        replace H_a := Lib.hid (H_a.out.below hb)
        replace H_b := Lib.hid (H_b.out.below hb)
        replace B_a := Lib.hid (B_a.out.below hb)
        replace B_b := Lib.hid (B_b.out.below hb)
        replace hB := below_next hB hb
        clear hb
        have c_a0 := B_a.out.cell0
        have c_a1 := B_a.out.cell1
        have c_b0 := B_b.out.cell0
        have c_b1 := B_b.out.cell1
        go_wp2_with fail
        clear c_a0 c_a1 c_b0 c_b1
        refine (idivmod_any _ _ _ _ _ _ 30 30 _ (by exact ⟨l_a, H_a.out, s_a, rfl⟩) (by exact ⟨l_b, H_b.out, s_b, rfl⟩) (by omega) (by omega) HZ.out).mono ?_
        rintro e w3 ⟨b_q, A_q, n_q, c_q, b_r, A_r, n_r, c_r, rfl, h_q, h_r, hb⟩
        replace HT := Lib.hid (HT.out.below hb)
        replace H_a := Lib.hid (H_a.out.below hb)
        replace H_b := Lib.hid (H_b.out.below hb)
        replace B_a := Lib.hid (B_a.out.below hb)
        replace B_b := Lib.hid (B_b.out.below hb)
        replace hB := below_next hB hb
        clear hb
        have Z_q := Lib.hid h_q
        clear h_q
        have Z_r := Lib.hid h_r
        clear h_r
        have c_a0 := B_a.out.cell0
        have c_a1 := B_a.out.cell1
        have c_b0 := B_b.out.cell0
        have c_b1 := B_b.out.cell1
        go_upto_region 6 with fail
        clear c_a0 c_a1 c_b0 c_b1
        obtain ⟨W2, hW, NB, NC, HW, _⟩ := boxes2 w3 (.bool b_q) (.slice A_q n_q c_q) (.bool b_r) (.slice A_r n_r c_r)
        rw [hW]
        clear hW
        replace HT := Lib.hid (HT.out.below HW.out)
        replace H_a := Lib.hid (H_a.out.below HW.out)
        replace H_b := Lib.hid (H_b.out.below HW.out)
        replace Z_q := Lib.hid (Z_q.out.below HW.out)
        replace Z_r := Lib.hid (Z_r.out.below HW.out)
        replace B_a := Lib.hid (B_a.out.below HW.out)
        replace B_b := Lib.hid (B_b.out.below HW.out)
        replace hB := below_next hB HW.out
        have B_q := NB
        have B_r := NC
        clear NB NC HW
        have c_a0 := B_a.out.cell0
        have c_a1 := B_a.out.cell1
        have c_b0 := B_b.out.cell0
        have c_b1 := B_b.out.cell1
        have c_q0 := B_q.out.cell0
        have c_q1 := B_q.out.cell1
        have c_r0 := B_r.out.cell0
        have c_r1 := B_r.out.cell1
        go_upto_region 8 with fail
        clear c_a0 c_a1 c_b0 c_b1 c_q0 c_q1 c_r0 c_r1
        obtain ⟨W3, hW, NB, HW⟩ := boxes1 W2 (.bool false) (.slice E_b l_b.length k_b)
        rw [hW]
        clear hW
        replace HT := Lib.hid (HT.out.below HW.out)
        replace H_a := Lib.hid (H_a.out.below HW.out)
        replace H_b := Lib.hid (H_b.out.below HW.out)
        replace Z_q := Lib.hid (Z_q.out.below HW.out)
        replace Z_r := Lib.hid (Z_r.out.below HW.out)
        replace B_a := Lib.hid (B_a.out.below HW.out)
        replace B_b := Lib.hid (B_b.out.below HW.out)
        replace B_q := Lib.hid (B_q.out.below HW.out)
        replace B_r := Lib.hid (B_r.out.below HW.out)
        replace hB := below_next hB HW.out
        have B_s := NB
        clear NB HW
        have c_a0 := B_a.out.cell0
        have c_a1 := B_a.out.cell1
        have c_b0 := B_b.out.cell0
        have c_b1 := B_b.out.cell1
        have c_q0 := B_q.out.cell0
        have c_q1 := B_q.out.cell1
        have c_r0 := B_r.out.cell0
        have c_r1 := B_r.out.cell1
        have c_s0 := B_s.out.cell0
        have c_s1 := B_s.out.cell1
        go_region_held3 (fun w' => w'.cell? ⟨w.heap.size, 0, none⟩ = some (.bool b_a) ∧ w'.cell? ⟨w.heap.size, 1, none⟩ = some (.slice E_a l_a.length k_a) ∧ w'.cell? ⟨w.heap.size + 1, 0, none⟩ = some (.bool b_b) ∧ w'.cell? ⟨w.heap.size + 1, 1, none⟩ = some (.slice E_b l_b.length k_b) ∧ w'.cell? ⟨w3.heap.size, 0, none⟩ = some (.bool b_q) ∧ w'.cell? ⟨w3.heap.size, 1, none⟩ = some (.slice A_q n_q c_q) ∧ w'.cell? ⟨w3.heap.size + 1, 0, none⟩ = some (.bool b_r) ∧ w'.cell? ⟨w3.heap.size + 1, 1, none⟩ = some (.slice A_r n_r c_r) ∧ w'.cell? ⟨W2.heap.size, 0, none⟩ = some (.bool false) ∧ w'.cell? ⟨W2.heap.size, 1, none⟩ = some (.slice E_b l_b.length k_b))
          (first | (go_split_ands; exact ⟨cellKeep hb (by assumption), cellKeep hb (by assumption), cellKeep hb (by assumption), cellKeep hb (by assumption), cellKeep hb (by assumption), cellKeep hb (by assumption), cellKeep hb (by assumption), cellKeep hb (by assumption), cellKeep hb (by assumption), cellKeep hb (by assumption)⟩) | go_keep)
          (first
            | (go_at_call 17; refine (imul_any _ _ _ _ _ _ 31 30 _ (by exact Z_q.out.of (S_a.out.zdiv HZ.out)) (by exact ⟨l_b, H_b.out, s_b, rfl⟩) (by omega) (by omega)).mono ?_; rintro e w_ ⟨b_m, A_m, n_m, c_m, rfl, h_m, hb⟩; (try replace hb := below_undrew hb); (try replace HT := Lib.hid (HT.out.below hb)); (try replace H_a := Lib.hid (H_a.out.below hb)); (try replace H_b := Lib.hid (H_b.out.below hb)); (try replace Z_q := Lib.hid (Z_q.out.below hb)); (try replace Z_r := Lib.hid (Z_r.out.below hb)); (try replace B_a := Lib.hid (B_a.out.below hb)); (try replace B_b := Lib.hid (B_b.out.below hb)); (try replace B_q := Lib.hid (B_q.out.below hb)); (try replace B_r := Lib.hid (B_r.out.below hb)); (try replace B_s := Lib.hid (B_s.out.below hb)); (try replace Z_m := Lib.hid (Z_m.out.below hb)); (try replace Z_t := Lib.hid (Z_t.out.below hb)); (try replace Z_x := Lib.hid (Z_x.out.below hb)); (try replace Z_o := Lib.hid (Z_o.out.below hb)); replace hB := below_next hB hb; have Z_m := Lib.hid h_m; clear h_m)
            | (go_at_call 30; refine (iadd_any _ _ _ _ _ _ 61 30 _ (by exact Z_m.out.of ((S_a.out.zdiv HZ.out).zmul S_b.out)) (by exact Z_r.out.of (S_b.out.zmod HZ.out)) (by omega) (by omega)).mono ?_; rintro e w_ ⟨b_t, A_t, n_t, c_t, rfl, h_t, hb⟩; (try replace hb := below_undrew hb); (try replace HT := Lib.hid (HT.out.below hb)); (try replace H_a := Lib.hid (H_a.out.below hb)); (try replace H_b := Lib.hid (H_b.out.below hb)); (try replace Z_q := Lib.hid (Z_q.out.below hb)); (try replace Z_r := Lib.hid (Z_r.out.below hb)); (try replace B_a := Lib.hid (B_a.out.below hb)); (try replace B_b := Lib.hid (B_b.out.below hb)); (try replace B_q := Lib.hid (B_q.out.below hb)); (try replace B_r := Lib.hid (B_r.out.below hb)); (try replace B_s := Lib.hid (B_s.out.below hb)); (try replace Z_m := Lib.hid (Z_m.out.below hb)); (try replace Z_t := Lib.hid (Z_t.out.below hb)); (try replace Z_x := Lib.hid (Z_x.out.below hb)); (try replace Z_o := Lib.hid (Z_o.out.below hb)); replace hB := below_next hB hb; have Z_t := Lib.hid h_t; clear h_t)
            | (go_at_call 28; refine (inorm_any _ _ _ 30 _ (by exact ⟨l_a, H_a.out, s_a, rfl⟩) (by omega)).mono ?_; rintro e w_ ⟨b_x, A_x, n_x, c_x, rfl, h_x, hb⟩; (try replace hb := below_undrew hb); (try replace HT := Lib.hid (HT.out.below hb)); (try replace H_a := Lib.hid (H_a.out.below hb)); (try replace H_b := Lib.hid (H_b.out.below hb)); (try replace Z_q := Lib.hid (Z_q.out.below hb)); (try replace Z_r := Lib.hid (Z_r.out.below hb)); (try replace B_a := Lib.hid (B_a.out.below hb)); (try replace B_b := Lib.hid (B_b.out.below hb)); (try replace B_q := Lib.hid (B_q.out.below hb)); (try replace B_r := Lib.hid (B_r.out.below hb)); (try replace B_s := Lib.hid (B_s.out.below hb)); (try replace Z_m := Lib.hid (Z_m.out.below hb)); (try replace Z_t := Lib.hid (Z_t.out.below hb)); (try replace Z_x := Lib.hid (Z_x.out.below hb)); (try replace Z_o := Lib.hid (Z_o.out.below hb)); replace hB := below_next hB hb; have Z_x := Lib.hid h_x; clear h_x)
            | (go_at_call 16; refine (zsame_eq (by exact Z_t.out) (by exact Z_x.out) (by rw [Int.mul_comm]; exact Int.mul_ediv_add_emod _ _)).mono ?_; rintro e w_ ⟨rfl, hb⟩; (try replace hb := below_undrew hb); (try replace HT := Lib.hid (HT.out.below hb)); (try replace H_a := Lib.hid (H_a.out.below hb)); (try replace H_b := Lib.hid (H_b.out.below hb)); (try replace Z_q := Lib.hid (Z_q.out.below hb)); (try replace Z_r := Lib.hid (Z_r.out.below hb)); (try replace B_a := Lib.hid (B_a.out.below hb)); (try replace B_b := Lib.hid (B_b.out.below hb)); (try replace B_q := Lib.hid (B_q.out.below hb)); (try replace B_r := Lib.hid (B_r.out.below hb)); (try replace B_s := Lib.hid (B_s.out.below hb)); (try replace Z_m := Lib.hid (Z_m.out.below hb)); (try replace Z_t := Lib.hid (Z_t.out.below hb)); (try replace Z_x := Lib.hid (Z_x.out.below hb)); (try replace Z_o := Lib.hid (Z_o.out.below hb)); replace hB := below_next hB hb)
            | (go_at_call 26; refine (iof_any 0 _ (by omega) (by omega)).mono ?_; rintro e w_ ⟨b_o, A_o, n_o, c_o, rfl, h_o, hb⟩; (try replace hb := below_undrew hb); (try replace HT := Lib.hid (HT.out.below hb)); (try replace H_a := Lib.hid (H_a.out.below hb)); (try replace H_b := Lib.hid (H_b.out.below hb)); (try replace Z_q := Lib.hid (Z_q.out.below hb)); (try replace Z_r := Lib.hid (Z_r.out.below hb)); (try replace B_a := Lib.hid (B_a.out.below hb)); (try replace B_b := Lib.hid (B_b.out.below hb)); (try replace B_q := Lib.hid (B_q.out.below hb)); (try replace B_r := Lib.hid (B_r.out.below hb)); (try replace B_s := Lib.hid (B_s.out.below hb)); (try replace Z_m := Lib.hid (Z_m.out.below hb)); (try replace Z_t := Lib.hid (Z_t.out.below hb)); (try replace Z_x := Lib.hid (Z_x.out.below hb)); (try replace Z_o := Lib.hid (Z_o.out.below hb)); replace hB := below_next hB hb; have Z_o := Lib.hid h_o; clear h_o)
            | (go_at_call 29; (with_reducible refine (icmp_ge (b2 := b_o) (k1 := 30) (k2 := 2) (Z_r.out.of (S_b.out.zmod HZ.out)) (Z_o.out.two (by omega) (by omega)) (by omega) (by omega) (Int.emod_nonneg _ HZ.out)).mono ?_); rintro e w_ ⟨oc, rfl, hoc, hb⟩; (try replace hb := below_undrew hb); (try replace HT := Lib.hid (HT.out.below hb)); (try replace H_a := Lib.hid (H_a.out.below hb)); (try replace H_b := Lib.hid (H_b.out.below hb)); (try replace Z_q := Lib.hid (Z_q.out.below hb)); (try replace Z_r := Lib.hid (Z_r.out.below hb)); (try replace B_a := Lib.hid (B_a.out.below hb)); (try replace B_b := Lib.hid (B_b.out.below hb)); (try replace B_q := Lib.hid (B_q.out.below hb)); (try replace B_r := Lib.hid (B_r.out.below hb)); (try replace B_s := Lib.hid (B_s.out.below hb)); (try replace Z_m := Lib.hid (Z_m.out.below hb)); (try replace Z_t := Lib.hid (Z_t.out.below hb)); (try replace Z_x := Lib.hid (Z_x.out.below hb)); (try replace Z_o := Lib.hid (Z_o.out.below hb)); replace hB := below_next hB hb)
            | (go_at_call 29; refine (icmp_lt (k1 := 30) (k2 := 30) (Z_r.out.of (S_b.out.zmod HZ.out)) (by exact ⟨l_b, H_b.out, s_b, rfl⟩) (by omega) (by omega) (by rw [zval_false, ← zval_abs b_b]; exact Int.emod_lt _ HZ.out)).mono ?_; rintro e w_ ⟨rfl, hb⟩; (try replace hb := below_undrew hb); (try replace HT := Lib.hid (HT.out.below hb)); (try replace H_a := Lib.hid (H_a.out.below hb)); (try replace H_b := Lib.hid (H_b.out.below hb)); (try replace Z_q := Lib.hid (Z_q.out.below hb)); (try replace Z_r := Lib.hid (Z_r.out.below hb)); (try replace B_a := Lib.hid (B_a.out.below hb)); (try replace B_b := Lib.hid (B_b.out.below hb)); (try replace B_q := Lib.hid (B_q.out.below hb)); (try replace B_r := Lib.hid (B_r.out.below hb)); (try replace B_s := Lib.hid (B_s.out.below hb)); (try replace Z_m := Lib.hid (Z_m.out.below hb)); (try replace Z_t := Lib.hid (Z_t.out.below hb)); (try replace Z_x := Lib.hid (Z_x.out.below hb)); (try replace Z_o := Lib.hid (Z_o.out.below hb)); replace hB := below_next hB hb)
            | (go_at_call 13; refine (awake_any _ (by exact HT.out)).mono ?_; rintro e w_ ⟨rfl, hb⟩; (try replace hb := below_undrew hb); (try replace HT := Lib.hid (HT.out.below hb)); (try replace H_a := Lib.hid (H_a.out.below hb)); (try replace H_b := Lib.hid (H_b.out.below hb)); (try replace Z_q := Lib.hid (Z_q.out.below hb)); (try replace Z_r := Lib.hid (Z_r.out.below hb)); (try replace B_a := Lib.hid (B_a.out.below hb)); (try replace B_b := Lib.hid (B_b.out.below hb)); (try replace B_q := Lib.hid (B_q.out.below hb)); (try replace B_r := Lib.hid (B_r.out.below hb)); (try replace B_s := Lib.hid (B_s.out.below hb)); (try replace Z_m := Lib.hid (Z_m.out.below hb)); (try replace Z_t := Lib.hid (Z_t.out.below hb)); (try replace Z_x := Lib.hid (Z_x.out.below hb)); (try replace Z_o := Lib.hid (Z_o.out.below hb)); replace hB := below_next hB hb))
        have c_a0 := B_a.out.cell0
        have c_a1 := B_a.out.cell1
        have c_b0 := B_b.out.cell0
        have c_b1 := B_b.out.cell1
        have c_q0 := B_q.out.cell0
        have c_q1 := B_q.out.cell1
        have c_r0 := B_r.out.cell0
        have c_r1 := B_r.out.cell1
        have c_s0 := B_s.out.cell0
        have c_s1 := B_s.out.cell1
        go_wp2
        go_ret
        exact ⟨rfl, hB⟩
    · skip
      go_enter Tryd.func7, Tryd.ntmps7
      go_wp2_with fail
      obtain ⟨W1, hW, NB, NC, HW, _⟩ := boxes2 w (.bool b_a) (.slice E_a l_a.length k_a) (.bool b_b) (.slice E_b l_b.length k_b)
      rw [hW]
      clear hW
      replace HT := Lib.hid (HT.out.below HW.out)
      replace H_a := Lib.hid (H_a.out.below HW.out)
      replace H_b := Lib.hid (H_b.out.below HW.out)
      have hB := HW.out
      have B_a := NB
      have B_b := NC
      clear NB NC HW
      refine (zshort_yes (k := 30) (by exact H_a.out) s_a).mono ?_
      rintro e w1 ⟨rfl, hb⟩
      replace HT := Lib.hid (HT.out.below hb)
      replace H_a := Lib.hid (H_a.out.below hb)
      replace H_b := Lib.hid (H_b.out.below hb)
      replace B_a := Lib.hid (B_a.out.below hb)
      replace B_b := Lib.hid (B_b.out.below hb)
      replace hB := below_next hB hb
      clear hb
      have c_a0 := B_a.out.cell0
      have c_a1 := B_a.out.cell1
      have c_b0 := B_b.out.cell0
      have c_b1 := B_b.out.cell1
      go_wp2_with fail
      clear c_a0 c_a1 c_b0 c_b1
      refine (zshort_no (k := 30) (by exact H_b.out) s_b).mono ?_
      rintro e w2 ⟨rfl, hb⟩
      replace HT := Lib.hid (HT.out.below hb)
      replace H_a := Lib.hid (H_a.out.below hb)
      replace H_b := Lib.hid (H_b.out.below hb)
      replace B_a := Lib.hid (B_a.out.below hb)
      replace B_b := Lib.hid (B_b.out.below hb)
      replace hB := below_next hB hb
      clear hb
      have c_a0 := B_a.out.cell0
      have c_a1 := B_a.out.cell1
      have c_b0 := B_b.out.cell0
      have c_b1 := B_b.out.cell1
      go_wp2_with fail
      clear c_a0 c_a1 c_b0 c_b1
      refine (awake_any _ (by exact HT.out)).mono ?_
      rintro e w3 ⟨rfl, hb⟩
      replace HT := Lib.hid (HT.out.below hb)
      replace H_a := Lib.hid (H_a.out.below hb)
      replace H_b := Lib.hid (H_b.out.below hb)
      replace B_a := Lib.hid (B_a.out.below hb)
      replace B_b := Lib.hid (B_b.out.below hb)
      replace hB := below_next hB hb
      clear hb
      have c_a0 := B_a.out.cell0
      have c_a1 := B_a.out.cell1
      have c_b0 := B_b.out.cell0
      have c_b1 := B_b.out.cell1
      go_wp2
      go_ret
      exact ⟨rfl, hB⟩
  · skip
    go_enter Tryd.func7, Tryd.ntmps7
    go_wp2_with fail
    obtain ⟨W1, hW, NB, NC, HW, _⟩ := boxes2 w (.bool b_a) (.slice E_a l_a.length k_a) (.bool b_b) (.slice E_b l_b.length k_b)
    rw [hW]
    clear hW
    replace HT := Lib.hid (HT.out.below HW.out)
    replace H_a := Lib.hid (H_a.out.below HW.out)
    replace H_b := Lib.hid (H_b.out.below HW.out)
    have hB := HW.out
    have B_a := NB
    have B_b := NC
    clear NB NC HW
    refine (zshort_no (k := 30) (by exact H_a.out) s_a).mono ?_
    rintro e w1 ⟨rfl, hb⟩
    replace HT := Lib.hid (HT.out.below hb)
    replace H_a := Lib.hid (H_a.out.below hb)
    replace H_b := Lib.hid (H_b.out.below hb)
    replace B_a := Lib.hid (B_a.out.below hb)
    replace B_b := Lib.hid (B_b.out.below hb)
    replace hB := below_next hB hb
    clear hb
    have c_a0 := B_a.out.cell0
    have c_a1 := B_a.out.cell1
    have c_b0 := B_b.out.cell0
    have c_b1 := B_b.out.cell1
    go_wp2_with fail
    clear c_a0 c_a1 c_b0 c_b1
    refine (awake_any _ (by exact HT.out)).mono ?_
    rintro e w2 ⟨rfl, hb⟩
    replace HT := Lib.hid (HT.out.below hb)
    replace H_a := Lib.hid (H_a.out.below hb)
    replace H_b := Lib.hid (H_b.out.below hb)
    replace B_a := Lib.hid (B_a.out.below hb)
    replace B_b := Lib.hid (B_b.out.below hb)
    replace hB := below_next hB hb
    clear hb
    have c_a0 := B_a.out.cell0
    have c_a1 := B_a.out.cell1
    have c_b0 := B_b.out.cell0
    have c_b1 := B_b.out.cell1
    go_wp2
    go_ret
    exact ⟨rfl, hB⟩
end Go.Proofs.YtcdfhiocglibfaaDoor
