/- RatioOrder -/
import Derived.Test.YtoflndeonegkpaaDoorQWField0
import Derived.Test.YtoflndeonegkpaaDoorQText
namespace Go.Proofs.YtoflndeonegkpaaDoor
open Go.RowKit

theorem qtext_str2 {b : Bool} {m d : Value} {q : Rat} {k : Nat} {w : World} (h : RAt w b m d q k) (hk : 1 ≤ k) (hk2 : k ≤ 100000) (htab : Tab w) : Calls Tryd.prog 24 #[.agg #[.bool b, m, d]] w fun e w' => ∃ t : ByteArray, e = .returned (.string t) ∧ t.data.toList = qtext q ∧ Below w.heap.size w w' :=
  (qtext_any b m d q k w h hk hk2 htab).mono fun _ _ ⟨he, hb⟩ => ⟨_, he, by simp, hb⟩
theorem Tab.keeps {w V : World} {g : Nat} (h : Tab w) (K : Keeps w V g) : Tab V := by
  unfold Tab at *
  have hg : Tryd.prog.globalNamed "internal/strconv.uint64pow10" = some 1 := by kernel_rfl
  have hc := h.cell hg 0 (by decide)
  have hne : 1 ≠ g := fun e => K.plain 0 _ _ (e ▸ hc)
  unfold Lib.TabIs World.var? at *
  simp only [hg, Option.bind_some] at *
  rw [K.block _ hne]
  exact h
theorem qord_cases (p q : Rat) : qord p q = -1 ∧ p < q ∨ qord p q = 0 ∧ p = q ∨ qord p q = 1 ∧ q < p := by
  by_cases h : p < q
  · exact .inl ⟨qord_lt h, h⟩
  · by_cases e : p = q
    · exact .inr (.inl ⟨qord_eq e, e⟩)
    · have g := Rat.lt_of_le_of_ne (Rat.not_lt.1 h) (fun x => e x.symm)
      exact .inr (.inr ⟨qord_gt g, g⟩)
theorem qord_add (a b c : Rat) : qord (a + c) (b + c) = qord a b := by
  rcases qord_cases a b with ⟨e, h⟩ | ⟨e, h⟩ | ⟨e, h⟩
  · rw [e, qord_lt (Rat.add_lt_add_right.2 h)]
  · rw [e, qord_eq (by rw [h])]
  · rw [e, qord_gt (Rat.add_lt_add_right.2 h)]
theorem neg_mul_lt {a b c : Rat} (hc : c < 0) (h : a < b) : b * c < a * c := by
  have h1 : 0 < -c := by rw [Rat.lt_neg_iff]; exact hc
  have h2 := (Rat.mul_lt_mul_right h1).2 h
  rw [Rat.mul_neg, Rat.mul_neg, Rat.neg_lt_neg_iff] at h2
  exact h2
theorem qord_mul (a b c : Rat) : qord (a * c) (b * c) = qord a b * qord c 0 := by
  rcases qord_cases c 0 with ⟨f, hc⟩ | ⟨f, hc⟩ | ⟨f, hc⟩
  · rcases qord_cases a b with ⟨e, h⟩ | ⟨e, h⟩ | ⟨e, h⟩
    · rw [e, f, qord_gt (neg_mul_lt hc h)]; rfl
    · rw [e, f, qord_eq (by rw [h])]; rfl
    · rw [e, f, qord_lt (neg_mul_lt hc h)]; rfl
  · rw [f, hc, Rat.mul_zero, Rat.mul_zero, qord_self, Int.mul_zero]
  · rcases qord_cases a b with ⟨e, h⟩ | ⟨e, h⟩ | ⟨e, h⟩
    · rw [e, f, qord_lt ((Rat.mul_lt_mul_right hc).2 h)]; rfl
    · rw [e, f, qord_eq (by rw [h])]; rfl
    · rw [e, f, qord_gt ((Rat.mul_lt_mul_right hc).2 h)]; rfl
theorem half_two : qof 1 2 + qof 1 2 = 1 := Rat.ext (by kernel_rfl) (by kernel_rfl)
theorem mid_two (a b : Rat) : qof 1 2 * (a + b) + qof 1 2 * (a + b) = a + b := by rw [← Rat.add_mul, half_two, Rat.one_mul]
theorem mid_lt {a b : Rat} (h : a < b) : a < qof 1 2 * (a + b) ∧ qof 1 2 * (a + b) < b := by
  have e := mid_two a b
  generalize qof 1 2 * (a + b) = m at *
  constructor
  · exact Rat.not_le.1 fun g => by grind
  · exact Rat.not_le.1 fun g => by grind
theorem mid_eq (a : Rat) : qof 1 2 * (a + a) = a := by
  have e := mid_two a a
  generalize qof 1 2 * (a + a) = m at *
  grind
theorem qord_mid (a b : Rat) : qord a (qof 1 2 * (a + b)) = qord a b ∧ qord (qof 1 2 * (a + b)) b = qord a b := by
  rcases qord_cases a b with ⟨e, h⟩ | ⟨e, h⟩ | ⟨e, h⟩
  · rw [e]; exact ⟨qord_lt (mid_lt h).1, qord_lt (mid_lt h).2⟩
  · rw [e, h, mid_eq]; exact ⟨qord_self _, qord_self _⟩
  · rw [e, Rat.add_comm]; exact ⟨qord_gt (mid_lt h).2, qord_gt (mid_lt h).1⟩
theorem qle_eq {p q : Rat} (h : p = q) : p ≤ q := by subst h; exact Rat.le_refl
theorem qord_le {p q : Rat} (h : p ≤ q) : qord p q ≤ 0 := by
  rcases qord_cases p q with ⟨e, _⟩ | ⟨e, _⟩ | ⟨_, g⟩
  · omega
  · omega
  · exact absurd h (Rat.not_le.2 g)
theorem qord_ge {p q : Rat} (h : q ≤ p) : 0 ≤ qord p q := by
  rcases qord_cases p q with ⟨_, g⟩ | ⟨e, _⟩ | ⟨e, _⟩
  · exact absurd h (Rat.not_le.2 g)
  · omega
  · omega
set_option maxRecDepth 100000 in
set_option maxHeartbeats 8000000 in
theorem order_light (b_a : Bool) (m_a d_a : Value) (xs_a ys_a : List Nat) (b_b : Bool) (m_b d_b : Value) (xs_b ys_b : List Nat) (b_c : Bool) (m_c d_c : Value) (xs_c ys_c : List Nat) (w : World) (h_a : NatAt w m_a xs_a) (g_a : NatAt w d_a ys_a) (h_b : NatAt w m_b xs_b) (g_b : NatAt w d_b ys_b) (h_c : NatAt w m_c xs_c) (g_c : NatAt w d_c ys_c) (htab : Tab w) (s_a : xs_a.length ≤ 6 ∧ ys_a.length ≤ 6) (s_b : xs_b.length ≤ 6 ∧ ys_b.length ≤ 6) (s_c : xs_c.length ≤ 6 ∧ ys_c.length ≤ 6) : Calls Tryd.prog 6 #[.agg #[.bool b_a, m_a, d_a], .agg #[.bool b_b, m_b, d_b], .agg #[.bool b_c, m_c, d_c]] w (GivesTrue w) := by
  have HT := Lib.hid htab
  clear htab
  have H_a := Lib.hid h_a
  have K_a := Lib.hid g_a
  clear h_a g_a
  have H_b := Lib.hid h_b
  have K_b := Lib.hid g_b
  clear h_b g_b
  have H_c := Lib.hid h_c
  have K_c := Lib.hid g_c
  clear h_c g_c
  go_enter Tryd.func6, Tryd.ntmps6
  go_wp2_with fail
  obtain ⟨W0, hW, B_a, B_b, B_c, HW, HS⟩ := rbox3 w (.bool b_a) m_a d_a (.bool b_b) m_b d_b (.bool b_c) m_c d_c
  rw [hW]
  clear hW
  replace HT := Lib.hid (HT.out.below HW.out)
  replace H_a := Lib.hid (H_a.out.below HW.out)
  replace H_b := Lib.hid (H_b.out.below HW.out)
  replace H_c := Lib.hid (H_c.out.below HW.out)
  replace K_a := Lib.hid (K_a.out.below HW.out)
  replace K_b := Lib.hid (K_b.out.below HW.out)
  replace K_c := Lib.hid (K_c.out.below HW.out)
  have hB := HW.out
  have hsz := HS.out
  clear HW HS
  refine (rlight_is (k := 6) (v := true) (by exact H_a.out) (by exact K_a.out) (decide_eq_true s_a)).mono ?_
  rintro e w1 ⟨rfl, hb⟩
  replace HT := Lib.hid (HT.out.below hb)
  replace H_a := Lib.hid (H_a.out.below hb)
  replace H_b := Lib.hid (H_b.out.below hb)
  replace H_c := Lib.hid (H_c.out.below hb)
  replace K_a := Lib.hid (K_a.out.below hb)
  replace K_b := Lib.hid (K_b.out.below hb)
  replace K_c := Lib.hid (K_c.out.below hb)
  replace B_a := Lib.hid (B_a.out.below hb)
  replace B_b := Lib.hid (B_b.out.below hb)
  replace B_c := Lib.hid (B_c.out.below hb)
  replace hB := below_next hB hb
  clear hb
  have c_a0 := B_a.out.cell0
  have c_a1 := B_a.out.cell1
  have c_a2 := B_a.out.cell2
  have c_b0 := B_b.out.cell0
  have c_b1 := B_b.out.cell1
  have c_b2 := B_b.out.cell2
  have c_c0 := B_c.out.cell0
  have c_c1 := B_c.out.cell1
  have c_c2 := B_c.out.cell2
  go_wp2_with fail
  clear c_a0 c_a1 c_a2 c_b0 c_b1 c_b2 c_c0 c_c1 c_c2
  refine (rlight_is (k := 6) (v := true) (by exact H_b.out) (by exact K_b.out) (decide_eq_true s_b)).mono ?_
  rintro e w2 ⟨rfl, hb⟩
  replace HT := Lib.hid (HT.out.below hb)
  replace H_a := Lib.hid (H_a.out.below hb)
  replace H_b := Lib.hid (H_b.out.below hb)
  replace H_c := Lib.hid (H_c.out.below hb)
  replace K_a := Lib.hid (K_a.out.below hb)
  replace K_b := Lib.hid (K_b.out.below hb)
  replace K_c := Lib.hid (K_c.out.below hb)
  replace B_a := Lib.hid (B_a.out.below hb)
  replace B_b := Lib.hid (B_b.out.below hb)
  replace B_c := Lib.hid (B_c.out.below hb)
  replace hB := below_next hB hb
  clear hb
  have c_a0 := B_a.out.cell0
  have c_a1 := B_a.out.cell1
  have c_a2 := B_a.out.cell2
  have c_b0 := B_b.out.cell0
  have c_b1 := B_b.out.cell1
  have c_b2 := B_b.out.cell2
  have c_c0 := B_c.out.cell0
  have c_c1 := B_c.out.cell1
  have c_c2 := B_c.out.cell2
  go_wp2_with fail
  clear c_a0 c_a1 c_a2 c_b0 c_b1 c_b2 c_c0 c_c1 c_c2
  refine (rlight_is (k := 6) (v := true) (by exact H_c.out) (by exact K_c.out) (decide_eq_true s_c)).mono ?_
  rintro e w3 ⟨rfl, hb⟩
  replace HT := Lib.hid (HT.out.below hb)
  replace H_a := Lib.hid (H_a.out.below hb)
  replace H_b := Lib.hid (H_b.out.below hb)
  replace H_c := Lib.hid (H_c.out.below hb)
  replace K_a := Lib.hid (K_a.out.below hb)
  replace K_b := Lib.hid (K_b.out.below hb)
  replace K_c := Lib.hid (K_c.out.below hb)
  replace B_a := Lib.hid (B_a.out.below hb)
  replace B_b := Lib.hid (B_b.out.below hb)
  replace B_c := Lib.hid (B_c.out.below hb)
  replace hB := below_next hB hb
  clear hb
  obtain ⟨q_a, R_a⟩ : ∃ q, Hid (RAt w3 b_a m_a d_a q 6) := ⟨_, xs_a, ys_a, H_a.out, K_a.out, s_a.1, s_a.2, rfl⟩
  have S_a := R_a.out.sz (by omega)
  clear H_a K_a
  obtain ⟨q_b, R_b⟩ : ∃ q, Hid (RAt w3 b_b m_b d_b q 6) := ⟨_, xs_b, ys_b, H_b.out, K_b.out, s_b.1, s_b.2, rfl⟩
  have S_b := R_b.out.sz (by omega)
  clear H_b K_b
  obtain ⟨q_c, R_c⟩ : ∃ q, Hid (RAt w3 b_c m_c d_c q 6) := ⟨_, xs_c, ys_c, H_c.out, K_c.out, s_c.1, s_c.2, rfl⟩
  have S_c := R_c.out.sz (by omega)
  clear H_c K_c
  obtain ⟨x, hx⟩ : ∃ x, qord q_a q_b = x := ⟨_, rfl⟩
  obtain ⟨y, hy⟩ : ∃ y, qord q_b q_c = y := ⟨_, rfl⟩
  obtain ⟨z, hz⟩ : ∃ z, qord q_a q_c = z := ⟨_, rfl⟩
  have HX := Lib.hid hx
  have HY := Lib.hid hy
  have HZ := Lib.hid hz
  clear hx hy hz
  have c_a0 := B_a.out.cell0
  have c_a1 := B_a.out.cell1
  have c_a2 := B_a.out.cell2
  have c_b0 := B_b.out.cell0
  have c_b1 := B_b.out.cell1
  have c_b2 := B_b.out.cell2
  have c_c0 := B_c.out.cell0
  have c_c1 := B_c.out.cell1
  have c_c2 := B_c.out.cell2
  go_wp2_with fail
  clear c_a0 c_a1 c_a2 c_b0 c_b1 c_b2 c_c0 c_c1 c_c2
  refine (qof_any 0 1 _ (by omega) (by omega) (by omega) (by omega) (by omega)).mono ?_
  rintro e w4 ⟨b_z, A_z, n_z, c_z, D_z, e_z, f_z, rfl, h_z, hb⟩
  replace HT := Lib.hid (HT.out.below hb)
  replace R_a := Lib.hid (R_a.out.below hb)
  replace R_b := Lib.hid (R_b.out.below hb)
  replace R_c := Lib.hid (R_c.out.below hb)
  replace B_a := Lib.hid (B_a.out.below hb)
  replace B_b := Lib.hid (B_b.out.below hb)
  replace B_c := Lib.hid (B_c.out.below hb)
  replace hB := below_next hB hb
  clear hb
  rw [qof0] at h_z
  have Q_z := Lib.hid h_z
  clear h_z
  have c_a0 := B_a.out.cell0
  have c_a1 := B_a.out.cell1
  have c_a2 := B_a.out.cell2
  have c_b0 := B_b.out.cell0
  have c_b1 := B_b.out.cell1
  have c_b2 := B_b.out.cell2
  have c_c0 := B_c.out.cell0
  have c_c1 := B_c.out.cell1
  have c_c2 := B_c.out.cell2
  go_upto_region 4 with fail
  clear c_a0 c_a1 c_a2 c_b0 c_b1 c_b2 c_c0 c_c1 c_c2
  obtain ⟨W5, g_z, hV, hg, NB, hb⟩ := newR w4 (.bool b_z) (.slice A_z n_z c_z) (.slice D_z e_z f_z)
  rw [hV, hg]
  clear hV
  have l_z_a : w.heap.size < g_z := hg ▸ B_a.out.lt
  have l_z_b : w.heap.size + 1 < g_z := hg ▸ B_b.out.lt
  have l_z_c : w.heap.size + 1 + 1 < g_z := hg ▸ B_c.out.lt
  replace HT := Lib.hid (HT.out.below hb)
  replace R_a := Lib.hid (R_a.out.below hb)
  replace R_b := Lib.hid (R_b.out.below hb)
  replace R_c := Lib.hid (R_c.out.below hb)
  replace Q_z := Lib.hid (Q_z.out.below hb)
  replace B_a := Lib.hid (B_a.out.below hb)
  replace B_b := Lib.hid (B_b.out.below hb)
  replace B_c := Lib.hid (B_c.out.below hb)
  replace hB := below_next hB hb
  have B_z := NB
  clear NB hb hg
  have c_a0 := B_a.out.cell0
  have c_a1 := B_a.out.cell1
  have c_a2 := B_a.out.cell2
  have c_b0 := B_b.out.cell0
  have c_b1 := B_b.out.cell1
  have c_b2 := B_b.out.cell2
  have c_c0 := B_c.out.cell0
  have c_c1 := B_c.out.cell1
  have c_c2 := B_c.out.cell2
  have c_z0 := B_z.out.cell0
  have c_z1 := B_z.out.cell1
  have c_z2 := B_z.out.cell2
  go_wp2_with fail
  clear c_a0 c_a1 c_a2 c_b0 c_b1 c_b2 c_c0 c_c1 c_c2 c_z0 c_z1 c_z2
  refine (qof_any 1 2 _ (by omega) (by omega) (by omega) (by omega) (by omega)).mono ?_
  rintro e w6 ⟨b_h, A_h, n_h, c_h, D_h, e_h, f_h, rfl, h_h, hb⟩
  replace HT := Lib.hid (HT.out.below hb)
  replace R_a := Lib.hid (R_a.out.below hb)
  replace R_b := Lib.hid (R_b.out.below hb)
  replace R_c := Lib.hid (R_c.out.below hb)
  replace Q_z := Lib.hid (Q_z.out.below hb)
  replace B_a := Lib.hid (B_a.out.below hb)
  replace B_b := Lib.hid (B_b.out.below hb)
  replace B_c := Lib.hid (B_c.out.below hb)
  replace B_z := Lib.hid (B_z.out.below hb)
  replace hB := below_next hB hb
  clear hb
  have Q_h := Lib.hid h_h
  clear h_h
  have c_a0 := B_a.out.cell0
  have c_a1 := B_a.out.cell1
  have c_a2 := B_a.out.cell2
  have c_b0 := B_b.out.cell0
  have c_b1 := B_b.out.cell1
  have c_b2 := B_b.out.cell2
  have c_c0 := B_c.out.cell0
  have c_c1 := B_c.out.cell1
  have c_c2 := B_c.out.cell2
  have c_z0 := B_z.out.cell0
  have c_z1 := B_z.out.cell1
  have c_z2 := B_z.out.cell2
  go_wp2
  clear c_a0 c_a1 c_a2 c_b0 c_b1 c_b2 c_c0 c_c1 c_c2 c_z0 c_z1 c_z2
  obtain ⟨W7, g_h, hV, hg, NB, hb⟩ := newR w6 (.bool b_h) (.slice A_h n_h c_h) (.slice D_h e_h f_h)
  rw [hV, hg]
  clear hV
  have l_h_a : w.heap.size < g_h := hg ▸ B_a.out.lt
  have l_h_b : w.heap.size + 1 < g_h := hg ▸ B_b.out.lt
  have l_h_c : w.heap.size + 1 + 1 < g_h := hg ▸ B_c.out.lt
  have l_h_z : g_z < g_h := hg ▸ B_z.out.lt
  replace HT := Lib.hid (HT.out.below hb)
  replace R_a := Lib.hid (R_a.out.below hb)
  replace R_b := Lib.hid (R_b.out.below hb)
  replace R_c := Lib.hid (R_c.out.below hb)
  replace Q_z := Lib.hid (Q_z.out.below hb)
  replace Q_h := Lib.hid (Q_h.out.below hb)
  replace B_a := Lib.hid (B_a.out.below hb)
  replace B_b := Lib.hid (B_b.out.below hb)
  replace B_c := Lib.hid (B_c.out.below hb)
  replace B_z := Lib.hid (B_z.out.below hb)
  replace hB := below_next hB hb
  have B_h := NB
  clear NB hb hg
  have S_h := ex_sz 1 2 (by decide) (by decide)
  refine wp_region_named (S := (fun w' => (w'.cell? ⟨w.heap.size, 0, none⟩ = some (.bool b_a) ∧ w'.cell? ⟨w.heap.size, 1, none⟩ = some m_a ∧ w'.cell? ⟨w.heap.size, 2, none⟩ = some d_a) ∧ (w'.cell? ⟨w.heap.size + 1, 0, none⟩ = some (.bool b_b) ∧ w'.cell? ⟨w.heap.size + 1, 1, none⟩ = some m_b ∧ w'.cell? ⟨w.heap.size + 1, 2, none⟩ = some d_b) ∧ (w'.cell? ⟨w.heap.size + 1 + 1, 0, none⟩ = some (.bool b_c) ∧ w'.cell? ⟨w.heap.size + 1 + 1, 1, none⟩ = some m_c ∧ w'.cell? ⟨w.heap.size + 1 + 1, 2, none⟩ = some d_c))) (by kernel_rfl) (by exact ⟨B_a.out.c3, B_b.out.c3, B_c.out.c3⟩) (fun V8 hb hHeld => ?_)
  replace HT := Lib.hid (HT.out.below hb)
  replace R_a := Lib.hid (R_a.out.below hb)
  replace R_b := Lib.hid (R_b.out.below hb)
  replace R_c := Lib.hid (R_c.out.below hb)
  replace Q_z := Lib.hid (Q_z.out.below hb)
  replace Q_h := Lib.hid (Q_h.out.below hb)
  replace B_a := Lib.hid (B_a.out.below hb)
  replace B_b := Lib.hid (B_b.out.below hb)
  replace B_c := Lib.hid (B_c.out.below hb)
  replace B_z := Lib.hid (B_z.out.below hb)
  replace B_h := Lib.hid (B_h.out.below hb)
  replace hB := below_next hB hb
  clear hb
  refine wpAnyH_takeQ 0 (v := ?_) (fun _ _ _ _ _ h => h) (by simp only [List.getElem?_toArray, List.getElem?_cons_zero]; rfl) (by kernel_rfl) (by kernel_rfl) (by kernel_rfl) (by rfl) ?_ hHeld ?_; rotate_left; · (intro w hSw; (try dsimp only at hSw); go_simp; (try with_reducible rfl))
  try simp only [Act.put, List.setIfInBounds_toArray, List.set_cons_zero, List.set_cons_succ]
  refine wpAnyH_takeQ 1 (v := ?_) (fun _ _ _ _ _ h => h) (by simp only [List.getElem?_toArray, List.getElem?_cons_succ, List.getElem?_cons_zero]; rfl) (by kernel_rfl) (by kernel_rfl) (by kernel_rfl) (by rfl) ?_ hHeld ?_; rotate_left; · (intro w hSw; (try dsimp only at hSw); go_simp; (try with_reducible rfl))
  try simp only [Act.put, List.setIfInBounds_toArray, List.set_cons_zero, List.set_cons_succ]
  refine wpAnyH_takeQ 3 (v := ?_) (fun _ _ _ _ _ h => h) (by simp only [List.getElem?_toArray, List.getElem?_cons_succ, List.getElem?_cons_zero]; rfl) (by kernel_rfl) (by kernel_rfl) (by kernel_rfl) (by rfl) ?_ hHeld ?_; rotate_left; · (intro w hSw; (try dsimp only at hSw); go_simp; (try with_reducible rfl))
  try simp only [Act.put, List.setIfInBounds_toArray, List.set_cons_zero, List.set_cons_succ]
  refine wpAnyH_takeQ 4 (v := ?_) (fun _ _ _ _ _ h => h) (by simp only [List.getElem?_toArray, List.getElem?_cons_succ, List.getElem?_cons_zero]; rfl) (by kernel_rfl) (by kernel_rfl) (by kernel_rfl) (by rfl) ?_ hHeld ?_; rotate_left; · (intro w hSw; (try dsimp only at hSw); go_simp; (try with_reducible rfl))
  try simp only [Act.put, List.setIfInBounds_toArray, List.set_cons_zero, List.set_cons_succ]
  refine wpAnyH_takeQ 6 (v := ?_) (fun _ _ _ _ _ h => h) (by simp only [List.getElem?_toArray, List.getElem?_cons_succ, List.getElem?_cons_zero]; rfl) (by kernel_rfl) (by kernel_rfl) (by kernel_rfl) (by rfl) ?_ hHeld ?_; rotate_left; · (intro w hSw; (try dsimp only at hSw); go_simp; (try with_reducible rfl))
  try simp only [Act.put, List.setIfInBounds_toArray, List.set_cons_zero, List.set_cons_succ]
  refine wpAnyH_takeQ 7 (v := ?_) (fun _ _ _ _ _ h => h) (by simp only [List.getElem?_toArray, List.getElem?_cons_succ, List.getElem?_cons_zero]; rfl) (by kernel_rfl) (by kernel_rfl) (by kernel_rfl) (by rfl) ?_ hHeld ?_; rotate_left; · (intro w hSw; (try dsimp only at hSw); go_simp; (try with_reducible rfl))
  try simp only [Act.put, List.setIfInBounds_toArray, List.set_cons_zero, List.set_cons_succ]
  refine wpAnyH_ready (rs := [2]) (by kernel_rfl) (by simp) ?_
  refine AllReadyH.cons (by simp only [List.getElem?_toArray, List.getElem?_cons_succ, List.getElem?_cons_zero]; rfl) (fun K hK => ?_) AllReadyH.nil
  go_simp
  clear hHeld
  refine (qcmp_is (k := 6) (j := 6) (v := x) (by exact R_a.out) (by exact R_b.out) (by omega) (by omega) (by omega) (by omega) (by exact HX.out)).mono ?_
  rintro e w9 ⟨rfl, hb⟩
  replace HT := Lib.hid (HT.out.below hb)
  replace R_a := Lib.hid (R_a.out.below hb)
  replace R_b := Lib.hid (R_b.out.below hb)
  replace R_c := Lib.hid (R_c.out.below hb)
  replace Q_z := Lib.hid (Q_z.out.below hb)
  replace Q_h := Lib.hid (Q_h.out.below hb)
  replace B_a := Lib.hid (B_a.out.below hb)
  replace B_b := Lib.hid (B_b.out.below hb)
  replace B_c := Lib.hid (B_c.out.below hb)
  replace B_z := Lib.hid (B_z.out.below hb)
  replace B_h := Lib.hid (B_h.out.below hb)
  replace hB := below_next hB hb
  clear hb
  go_wp2_with fail
  refine hK.out _ _ (by exact ⟨B_a.out.c3, B_b.out.c3, B_c.out.c3⟩) (fun hHeld => ?_)
  clear hK K
  try simp only [Act.put, List.setIfInBounds_toArray, List.set_cons_zero, List.set_cons_succ]
  refine wpAnyH_ready (rs := [5]) (by kernel_rfl) (by simp) ?_
  refine AllReadyH.cons (by simp only [List.getElem?_toArray, List.getElem?_cons_succ, List.getElem?_cons_zero]; rfl) (fun K hK => ?_) AllReadyH.nil
  go_simp
  clear hHeld
  refine (qcmp_is (k := 6) (j := 6) (v := y) (by exact R_b.out) (by exact R_c.out) (by omega) (by omega) (by omega) (by omega) (by exact HY.out)).mono ?_
  rintro e w10 ⟨rfl, hb⟩
  replace HT := Lib.hid (HT.out.below hb)
  replace R_a := Lib.hid (R_a.out.below hb)
  replace R_b := Lib.hid (R_b.out.below hb)
  replace R_c := Lib.hid (R_c.out.below hb)
  replace Q_z := Lib.hid (Q_z.out.below hb)
  replace Q_h := Lib.hid (Q_h.out.below hb)
  replace B_a := Lib.hid (B_a.out.below hb)
  replace B_b := Lib.hid (B_b.out.below hb)
  replace B_c := Lib.hid (B_c.out.below hb)
  replace B_z := Lib.hid (B_z.out.below hb)
  replace B_h := Lib.hid (B_h.out.below hb)
  replace hB := below_next hB hb
  clear hb
  go_wp2_with fail
  refine hK.out _ _ (by exact ⟨B_a.out.c3, B_b.out.c3, B_c.out.c3⟩) (fun hHeld => ?_)
  clear hK K
  try simp only [Act.put, List.setIfInBounds_toArray, List.set_cons_zero, List.set_cons_succ]
  refine wpAnyH_ready (rs := [8]) (by kernel_rfl) (by simp) ?_
  refine AllReadyH.cons (by simp only [List.getElem?_toArray, List.getElem?_cons_succ, List.getElem?_cons_zero]; rfl) (fun K hK => ?_) AllReadyH.nil
  go_simp
  clear hHeld
  refine (qcmp_is (k := 6) (j := 6) (v := z) (by exact R_a.out) (by exact R_c.out) (by omega) (by omega) (by omega) (by omega) (by exact HZ.out)).mono ?_
  rintro e w11 ⟨rfl, hb⟩
  replace HT := Lib.hid (HT.out.below hb)
  replace R_a := Lib.hid (R_a.out.below hb)
  replace R_b := Lib.hid (R_b.out.below hb)
  replace R_c := Lib.hid (R_c.out.below hb)
  replace Q_z := Lib.hid (Q_z.out.below hb)
  replace Q_h := Lib.hid (Q_h.out.below hb)
  replace B_a := Lib.hid (B_a.out.below hb)
  replace B_b := Lib.hid (B_b.out.below hb)
  replace B_c := Lib.hid (B_c.out.below hb)
  replace B_z := Lib.hid (B_z.out.below hb)
  replace B_h := Lib.hid (B_h.out.below hb)
  replace hB := below_next hB hb
  clear hb
  go_wp2_with fail
  refine hK.out _ _ (by exact ⟨B_a.out.c3, B_b.out.c3, B_c.out.c3⟩) (fun hHeld => ?_)
  clear hK K
  try simp only [Act.put, List.setIfInBounds_toArray, List.set_cons_zero, List.set_cons_succ]
  refine wpAnyH_takeQ 9 (v := ?_) (fun _ _ _ _ _ h => h) (by simp only [List.getElem?_toArray, List.getElem?_cons_succ, List.getElem?_cons_zero]; rfl) (by kernel_rfl) (by kernel_rfl) (by kernel_rfl) (by rfl) ?_ hHeld ?_; rotate_left; · (intro w hSw; (try dsimp only at hSw); go_simp; (try with_reducible rfl))
  try simp only [Act.put, List.setIfInBounds_toArray, List.set_cons_zero, List.set_cons_succ]
  refine wpAnyH_takeQ 10 (v := ?_) (fun _ _ _ _ _ h => h) (by simp only [List.getElem?_toArray, List.getElem?_cons_succ, List.getElem?_cons_zero]; rfl) (by kernel_rfl) (by kernel_rfl) (by kernel_rfl) (by rfl) ?_ hHeld ?_; rotate_left; · (intro w hSw; (try dsimp only at hSw); go_simp; (try with_reducible rfl))
  try simp only [Act.put, List.setIfInBounds_toArray, List.set_cons_zero, List.set_cons_succ]
  refine wpAnyH_takeQ 11 (v := ?_) (fun _ _ _ _ _ h => h) (by simp only [List.getElem?_toArray, List.getElem?_cons_succ, List.getElem?_cons_zero]; rfl) (by kernel_rfl) (by kernel_rfl) (by kernel_rfl) (by rfl) ?_ hHeld ?_; rotate_left; · (intro w hSw; (try dsimp only at hSw); go_simp; (try with_reducible rfl))
  try simp only [Act.put, List.setIfInBounds_toArray, List.set_cons_zero, List.set_cons_succ]
  refine wpAnyH_done (by kernel_rfl) (NoPanic.normal ?_) _
  clear hHeld
  have c_a0 := B_a.out.cell0
  have c_a1 := B_a.out.cell1
  have c_a2 := B_a.out.cell2
  have c_b0 := B_b.out.cell0
  have c_b1 := B_b.out.cell1
  have c_b2 := B_b.out.cell2
  have c_c0 := B_c.out.cell0
  have c_c1 := B_c.out.cell1
  have c_c2 := B_c.out.cell2
  have c_z0 := B_z.out.cell0
  have c_z1 := B_z.out.cell1
  have c_z2 := B_z.out.cell2
  have c_h0 := B_h.out.cell0
  have c_h1 := B_h.out.cell1
  have c_h2 := B_h.out.cell2
  go_wp2
  clear c_a0 c_a1 c_a2 c_b0 c_b1 c_b2 c_c0 c_c1 c_c2 c_z0 c_z1 c_z2 c_h0 c_h1 c_h2
  go_cut [99] (fun sv wx => sv = .bool false ∧ Tab wx ∧ RAt wx b_a m_a d_a q_a 6 ∧ RAt wx b_b m_b d_b q_b 6 ∧ RAt wx b_c m_c d_c q_c 6 ∧ QAt wx b_z (.slice A_z n_z c_z) (.slice D_z e_z f_z) 0 ∧ QAt wx b_h (.slice A_h n_h c_h) (.slice D_h e_h f_h) (qof 1 2) ∧ RBox wx (w.heap.size) (.bool b_a) m_a d_a ∧ RBox wx (w.heap.size + 1) (.bool b_b) m_b d_b ∧ RBox wx (w.heap.size + 1 + 1) (.bool b_c) m_c d_c ∧ RBox wx (g_z) (.bool b_z) (.slice A_z n_z c_z) (.slice D_z e_z f_z) ∧ RBox wx (g_h) (.bool b_h) (.slice A_h n_h c_h) (.slice D_h e_h f_h) ∧ Below w.heap.size w wx)
  case first =>
    have ew1 : IntKind.i64.wrap (-1) = -1 := by rw [IntKind.wrap_i64]; rfl
    have ew2 : IntKind.i64.wrap 1 = 1 := by rw [IntKind.wrap_i64]; rfl
    have ew3 : IntKind.i64.wrap 0 = 0 := by rw [IntKind.wrap_i64]; rfl
    rcases qord_cases q_a q_b with ⟨e1, h1⟩ | ⟨e1, h1⟩ | ⟨e1, h1⟩
    · obtain rfl : x = -1 := HX.out.symm.trans e1
      by_cases h2 : q_b ≤ q_c
      · skip
        have y1 : decide (y ≤ 0) = true := by rw [← HY.out]; exact decide_eq_true (qord_le h2)
        have z1 : decide (0 < z) = false := by rw [← HZ.out]; have := qord_le (Rat.le_trans (Rat.le_of_lt h1) h2); simp; omega
        have H1 := Lib.hid h1
        clear h1 h2 e1
        refine wp_region_named (S := (fun w' => (w'.cell? ⟨w.heap.size, 0, none⟩ = some (.bool b_a) ∧ w'.cell? ⟨w.heap.size, 1, none⟩ = some m_a ∧ w'.cell? ⟨w.heap.size, 2, none⟩ = some d_a) ∧ (w'.cell? ⟨w.heap.size + 1, 0, none⟩ = some (.bool b_b) ∧ w'.cell? ⟨w.heap.size + 1, 1, none⟩ = some m_b ∧ w'.cell? ⟨w.heap.size + 1, 2, none⟩ = some d_b))) (by kernel_rfl) (by exact ⟨B_a.out.c3, B_b.out.c3⟩) (fun V12 hb hHeld => ?_)
        replace HT := Lib.hid (HT.out.below hb)
        replace R_a := Lib.hid (R_a.out.below hb)
        replace R_b := Lib.hid (R_b.out.below hb)
        replace R_c := Lib.hid (R_c.out.below hb)
        replace Q_z := Lib.hid (Q_z.out.below hb)
        replace Q_h := Lib.hid (Q_h.out.below hb)
        replace B_a := Lib.hid (B_a.out.below hb)
        replace B_b := Lib.hid (B_b.out.below hb)
        replace B_c := Lib.hid (B_c.out.below hb)
        replace B_z := Lib.hid (B_z.out.below hb)
        replace B_h := Lib.hid (B_h.out.below hb)
        replace hB := below_next hB hb
        clear hb
        refine wpAnyH_takeQ 0 (v := ?_) (fun _ _ _ _ _ h => h) (by simp only [List.getElem?_toArray, List.getElem?_cons_zero]; rfl) (by kernel_rfl) (by kernel_rfl) (by kernel_rfl) (by rfl) ?_ hHeld ?_; rotate_left; · (intro w hSw; (try dsimp only at hSw); go_simp; (try with_reducible rfl))
        try simp only [Act.put, List.setIfInBounds_toArray, List.set_cons_zero, List.set_cons_succ]
        refine wpAnyH_takeQ 1 (v := ?_) (fun _ _ _ _ _ h => h) (by simp only [List.getElem?_toArray, List.getElem?_cons_succ, List.getElem?_cons_zero]; rfl) (by kernel_rfl) (by kernel_rfl) (by kernel_rfl) (by rfl) ?_ hHeld ?_; rotate_left; · (intro w hSw; (try dsimp only at hSw); go_simp; (try with_reducible rfl))
        try simp only [Act.put, List.setIfInBounds_toArray, List.set_cons_zero, List.set_cons_succ]
        refine wpAnyH_takeQ 2 (v := ?_) (fun _ _ _ _ _ h => h) (by simp only [List.getElem?_toArray, List.getElem?_cons_succ, List.getElem?_cons_zero]; rfl) (by kernel_rfl) (by kernel_rfl) (by kernel_rfl) (by rfl) ?_ hHeld ?_; rotate_left; · (intro w hSw; (try dsimp only at hSw); go_simp; (try with_reducible rfl))
        try simp only [Act.put, List.setIfInBounds_toArray, List.set_cons_zero, List.set_cons_succ]
        refine wpAnyH_takeQ 3 (v := ?_) (fun _ _ _ _ _ h => h) (by simp only [List.getElem?_toArray, List.getElem?_cons_succ, List.getElem?_cons_zero]; rfl) (by kernel_rfl) (by kernel_rfl) (by kernel_rfl) (by rfl) ?_ hHeld ?_; rotate_left; · (intro w hSw; (try dsimp only at hSw); go_simp; (try with_reducible rfl))
        try simp only [Act.put, List.setIfInBounds_toArray, List.set_cons_zero, List.set_cons_succ]
        refine wpAnyH_takeQ 4 (v := ?_) (fun _ _ _ _ _ h => h) (by simp only [List.getElem?_toArray, List.getElem?_cons_succ, List.getElem?_cons_zero]; rfl) (by kernel_rfl) (by kernel_rfl) (by kernel_rfl) (by rfl) ?_ hHeld ?_; rotate_left; · (intro w hSw; (try dsimp only at hSw); go_simp; (try with_reducible rfl))
        try simp only [Act.put, List.setIfInBounds_toArray, List.set_cons_zero, List.set_cons_succ]
        refine wpAnyH_takeQ 5 (v := ?_) (fun _ _ _ _ _ h => h) (by simp only [List.getElem?_toArray, List.getElem?_cons_succ, List.getElem?_cons_zero]; rfl) (by kernel_rfl) (by kernel_rfl) (by kernel_rfl) (by rfl) ?_ hHeld ?_; rotate_left; · (intro w hSw; (try dsimp only at hSw); go_simp; (try with_reducible rfl))
        try simp only [Act.put, List.setIfInBounds_toArray, List.set_cons_zero, List.set_cons_succ]
        refine wpAnyH_takeQ 6 (v := ?_) (fun _ _ _ _ _ h => h) (by simp only [List.getElem?_toArray, List.getElem?_cons_succ, List.getElem?_cons_zero]; rfl) (by kernel_rfl) (by kernel_rfl) (by kernel_rfl) (by rfl) ?_ hHeld ?_; rotate_left; · (intro w hSw; (try dsimp only at hSw); go_simp; (try with_reducible rfl))
        try simp only [Act.put, List.setIfInBounds_toArray, List.set_cons_zero, List.set_cons_succ]
        refine wpAnyH_takeQ 7 (v := ?_) (fun _ _ _ _ _ h => h) (by simp only [List.getElem?_toArray, List.getElem?_cons_succ, List.getElem?_cons_zero]; rfl) (by kernel_rfl) (by kernel_rfl) (by kernel_rfl) (by rfl) ?_ hHeld ?_; rotate_left; · (intro w hSw; (try dsimp only at hSw); go_simp; (try with_reducible rfl))
        try simp only [Act.put, List.setIfInBounds_toArray, List.set_cons_zero, List.set_cons_succ]
        refine wpAnyH_takeQ 8 (v := ?_) (fun _ _ _ _ _ h => h) (by simp only [List.getElem?_toArray, List.getElem?_cons_succ, List.getElem?_cons_zero]; rfl) (by kernel_rfl) (by kernel_rfl) (by kernel_rfl) (by rfl) ?_ hHeld ?_; rotate_left; · (intro w hSw; (try dsimp only at hSw); go_simp; (try with_reducible rfl))
        try simp only [Act.put, List.setIfInBounds_toArray, List.set_cons_zero, List.set_cons_succ]
        refine wpAnyH_takeQ 10 (v := ?_) (fun _ _ _ _ _ h => h) (by simp only [List.getElem?_toArray, List.getElem?_cons_succ, List.getElem?_cons_zero]; rfl) (by kernel_rfl) (by kernel_rfl) (by kernel_rfl) (by rfl) ?_ hHeld ?_; rotate_left; · (intro w hSw; (try dsimp only at hSw); go_simp; (try with_reducible rfl))
        try simp only [Act.put, List.setIfInBounds_toArray, List.set_cons_zero, List.set_cons_succ]
        refine wpAnyH_takeQ 11 (v := ?_) (fun _ _ _ _ _ h => h) (by simp only [List.getElem?_toArray, List.getElem?_cons_succ, List.getElem?_cons_zero]; rfl) (by kernel_rfl) (by kernel_rfl) (by kernel_rfl) (by rfl) ?_ hHeld ?_; rotate_left; · (intro w hSw; (try dsimp only at hSw); go_simp; (try with_reducible rfl))
        try simp only [Act.put, List.setIfInBounds_toArray, List.set_cons_zero, List.set_cons_succ]
        refine wpAnyH_ready (rs := [9]) (by kernel_rfl) (by simp) ?_
        refine AllReadyH.cons (by simp only [List.getElem?_toArray, List.getElem?_cons_succ, List.getElem?_cons_zero]; rfl) (fun K hK => ?_) AllReadyH.nil
        go_simp
        clear hHeld
        refine (qcmp_is (k := 6) (j := 6) (v := 1) (by exact R_b.out) (by exact R_a.out) (by omega) (by omega) (by omega) (by omega) (by have h := H1.out; exact qord_gt h)).mono ?_
        rintro e w13 ⟨rfl, hb⟩
        replace HT := Lib.hid (HT.out.below hb)
        replace R_a := Lib.hid (R_a.out.below hb)
        replace R_b := Lib.hid (R_b.out.below hb)
        replace R_c := Lib.hid (R_c.out.below hb)
        replace Q_z := Lib.hid (Q_z.out.below hb)
        replace Q_h := Lib.hid (Q_h.out.below hb)
        replace B_a := Lib.hid (B_a.out.below hb)
        replace B_b := Lib.hid (B_b.out.below hb)
        replace B_c := Lib.hid (B_c.out.below hb)
        replace B_z := Lib.hid (B_z.out.below hb)
        replace B_h := Lib.hid (B_h.out.below hb)
        replace hB := below_next hB hb
        clear hb
        go_wp2_with fail
        refine hK.out _ _ (by exact ⟨B_a.out.c3, B_b.out.c3⟩) (fun hHeld => ?_)
        clear hK K
        try simp only [Act.put, List.setIfInBounds_toArray, List.set_cons_zero, List.set_cons_succ]
        refine wpAnyH_takeQ 12 (v := ?_) (fun _ _ _ _ _ h => h) (by simp only [List.getElem?_toArray, List.getElem?_cons_succ, List.getElem?_cons_zero]; rfl) (by kernel_rfl) (by kernel_rfl) (by kernel_rfl) (by rfl) ?_ hHeld ?_; rotate_left; · (intro w hSw; (try dsimp only at hSw); go_simp; (try with_reducible rfl))
        try simp only [Act.put, List.setIfInBounds_toArray, List.set_cons_zero, List.set_cons_succ]
        refine wpAnyH_takeQ 13 (v := ?_) (fun _ _ _ _ _ h => h) (by simp only [List.getElem?_toArray, List.getElem?_cons_succ, List.getElem?_cons_zero]; rfl) (by kernel_rfl) (by kernel_rfl) (by kernel_rfl) (by rfl) ?_ hHeld ?_; rotate_left; · (intro w hSw; (try dsimp only at hSw); go_simp; (try with_reducible rfl))
        try simp only [Act.put, List.setIfInBounds_toArray, List.set_cons_zero, List.set_cons_succ]
        refine wpAnyH_takeQ 14 (v := ?_) (fun _ _ _ _ _ h => h) (by simp only [List.getElem?_toArray, List.getElem?_cons_succ, List.getElem?_cons_zero]; rfl) (by kernel_rfl) (by kernel_rfl) (by kernel_rfl) (by rfl) ?_ hHeld ?_; rotate_left; · (intro w hSw; (try dsimp only at hSw); go_simp; (try with_reducible rfl))
        try simp only [Act.put, List.setIfInBounds_toArray, List.set_cons_zero, List.set_cons_succ]
        refine wpAnyH_takeQ 15 (v := ?_) (fun _ _ _ _ _ h => h) (by simp only [List.getElem?_toArray, List.getElem?_cons_succ, List.getElem?_cons_zero]; rfl) (by kernel_rfl) (by kernel_rfl) (by kernel_rfl) (by rfl) ?_ hHeld ?_; rotate_left; · (intro w hSw; (try dsimp only at hSw); go_simp; (try with_reducible rfl))
        try simp only [Act.put, List.setIfInBounds_toArray, List.set_cons_zero, List.set_cons_succ]
        refine wpAnyH_takeQ 16 (v := ?_) (fun _ _ _ _ _ h => h) (by simp only [List.getElem?_toArray, List.getElem?_cons_succ, List.getElem?_cons_zero]; rfl) (by kernel_rfl) (by kernel_rfl) (by kernel_rfl) (by rfl) ?_ hHeld ?_; rotate_left; · (intro w hSw; (try dsimp only at hSw); go_simp; (try with_reducible rfl))
        try simp only [Act.put, List.setIfInBounds_toArray, List.set_cons_zero, List.set_cons_succ]
        refine wpAnyH_ready (rs := [17]) (by kernel_rfl) (by simp) ?_
        refine AllReadyH.cons (by simp only [List.getElem?_toArray, List.getElem?_cons_succ, List.getElem?_cons_zero]; rfl) (fun K hK => ?_) AllReadyH.nil
        go_simp
        clear hHeld
        refine (qcmp_is (k := 6) (j := 6) (v := 0) (by exact R_a.out) (by exact R_a.out) (by omega) (by omega) (by omega) (by omega) (by exact qord_self _)).mono ?_
        rintro e w14 ⟨rfl, hb⟩
        replace HT := Lib.hid (HT.out.below hb)
        replace R_a := Lib.hid (R_a.out.below hb)
        replace R_b := Lib.hid (R_b.out.below hb)
        replace R_c := Lib.hid (R_c.out.below hb)
        replace Q_z := Lib.hid (Q_z.out.below hb)
        replace Q_h := Lib.hid (Q_h.out.below hb)
        replace B_a := Lib.hid (B_a.out.below hb)
        replace B_b := Lib.hid (B_b.out.below hb)
        replace B_c := Lib.hid (B_c.out.below hb)
        replace B_z := Lib.hid (B_z.out.below hb)
        replace B_h := Lib.hid (B_h.out.below hb)
        replace hB := below_next hB hb
        clear hb
        go_wp2_with fail
        refine hK.out _ _ (by exact ⟨B_a.out.c3, B_b.out.c3⟩) (fun hHeld => ?_)
        clear hK K
        try simp only [Act.put, List.setIfInBounds_toArray, List.set_cons_zero, List.set_cons_succ]
        refine wpAnyH_takeQ 18 (v := ?_) (fun _ _ _ _ _ h => h) (by simp only [List.getElem?_toArray, List.getElem?_cons_succ, List.getElem?_cons_zero]; rfl) (by kernel_rfl) (by kernel_rfl) (by kernel_rfl) (by rfl) ?_ hHeld ?_; rotate_left; · (intro w hSw; (try dsimp only at hSw); go_simp; (try with_reducible rfl))
        try simp only [Act.put, List.setIfInBounds_toArray, List.set_cons_zero, List.set_cons_succ]
        refine wpAnyH_takeQ 19 (v := ?_) (fun _ _ _ _ _ h => h) (by simp only [List.getElem?_toArray, List.getElem?_cons_succ, List.getElem?_cons_zero]; rfl) (by kernel_rfl) (by kernel_rfl) (by kernel_rfl) (by rfl) ?_ hHeld ?_; rotate_left; · (intro w hSw; (try dsimp only at hSw); go_simp; (try with_reducible rfl))
        try simp only [Act.put, List.setIfInBounds_toArray, List.set_cons_zero, List.set_cons_succ]
        refine wpAnyH_takeQ 20 (v := ?_) (fun _ _ _ _ _ h => h) (by simp only [List.getElem?_toArray, List.getElem?_cons_succ, List.getElem?_cons_zero]; rfl) (by kernel_rfl) (by kernel_rfl) (by kernel_rfl) (by rfl) ?_ hHeld ?_; rotate_left; · (intro w hSw; (try dsimp only at hSw); go_simp; (try with_reducible rfl))
        try simp only [Act.put, List.setIfInBounds_toArray, List.set_cons_zero, List.set_cons_succ]
        refine wpAnyH_takeQ 21 (v := ?_) (fun _ _ _ _ _ h => h) (by simp only [List.getElem?_toArray, List.getElem?_cons_succ, List.getElem?_cons_zero]; rfl) (by kernel_rfl) (by kernel_rfl) (by kernel_rfl) (by rfl) ?_ hHeld ?_; rotate_left; · (intro w hSw; (try dsimp only at hSw); go_simp; (try with_reducible rfl))
        try simp only [Act.put, List.setIfInBounds_toArray, List.set_cons_zero, List.set_cons_succ]
        refine wpAnyH_takeQ 22 (v := ?_) (fun _ _ _ _ _ h => h) (by simp only [List.getElem?_toArray, List.getElem?_cons_succ, List.getElem?_cons_zero]; rfl) (by kernel_rfl) (by kernel_rfl) (by kernel_rfl) (by rfl) ?_ hHeld ?_; rotate_left; · (intro w hSw; (try dsimp only at hSw); go_simp; (try with_reducible rfl))
        try simp only [Act.put, List.setIfInBounds_toArray, List.set_cons_zero, List.set_cons_succ]
        refine wpAnyH_takeQ 23 (v := ?_) (fun _ _ _ _ _ h => h) (by simp only [List.getElem?_toArray, List.getElem?_cons_succ, List.getElem?_cons_zero]; rfl) (by kernel_rfl) (by kernel_rfl) (by kernel_rfl) (by rfl) ?_ hHeld ?_; rotate_left; · (intro w hSw; (try dsimp only at hSw); go_simp; (try with_reducible rfl))
        try simp only [Act.put, List.setIfInBounds_toArray, List.set_cons_zero, List.set_cons_succ]
        refine wpAnyH_takeQ 24 (v := ?_) (fun _ _ _ _ _ h => h) (by simp only [List.getElem?_toArray, List.getElem?_cons_succ, List.getElem?_cons_zero]; rfl) (by kernel_rfl) (by kernel_rfl) (by kernel_rfl) (by rfl) ?_ hHeld ?_; rotate_left; · (intro w hSw; (try dsimp only at hSw); go_simp; (try with_reducible rfl))
        try simp only [Act.put, List.setIfInBounds_toArray, List.set_cons_zero, List.set_cons_succ]
        refine wpAnyH_takeQ 25 (v := ?_) (fun _ _ _ _ _ h => h) (by simp only [List.getElem?_toArray, List.getElem?_cons_succ, List.getElem?_cons_zero]; rfl) (by kernel_rfl) (by kernel_rfl) (by kernel_rfl) (by rfl) ?_ hHeld ?_; rotate_left; · (intro w hSw; (try dsimp only at hSw); go_simp; (try with_reducible rfl))
        try simp only [Act.put, List.setIfInBounds_toArray, List.set_cons_zero, List.set_cons_succ]
        refine wpAnyH_takeQ 26 (v := ?_) (fun _ _ _ _ _ h => h) (by simp only [List.getElem?_toArray, List.getElem?_cons_succ, List.getElem?_cons_zero]; rfl) (by kernel_rfl) (by kernel_rfl) (by kernel_rfl) (by rfl) ?_ hHeld ?_; rotate_left; · (intro w hSw; (try dsimp only at hSw); go_simp; (try with_reducible rfl))
        try simp only [Act.put, List.setIfInBounds_toArray, List.set_cons_zero, List.set_cons_succ]
        refine wpAnyH_takeQ 27 (v := ?_) (fun _ _ _ _ _ h => h) (by simp only [List.getElem?_toArray, List.getElem?_cons_succ, List.getElem?_cons_zero]; rfl) (by kernel_rfl) (by kernel_rfl) (by kernel_rfl) (by rfl) ?_ hHeld ?_; rotate_left; · (intro w hSw; (try dsimp only at hSw); go_simp; (try with_reducible rfl))
        try simp only [Act.put, List.setIfInBounds_toArray, List.set_cons_zero, List.set_cons_succ]
        refine wpAnyH_takeQ 28 (v := ?_) (fun _ _ _ _ _ h => h) (by simp only [List.getElem?_toArray, List.getElem?_cons_succ, List.getElem?_cons_zero]; rfl) (by kernel_rfl) (by kernel_rfl) (by kernel_rfl) (by rfl) ?_ hHeld ?_; rotate_left; · (intro w hSw; (try dsimp only at hSw); go_simp; (try with_reducible rfl))
        try simp only [Act.put, List.setIfInBounds_toArray, List.set_cons_zero, List.set_cons_succ]
        refine wpAnyH_takeQ 29 (v := ?_) (fun _ _ _ _ _ h => h) (by simp only [List.getElem?_toArray, List.getElem?_cons_succ, List.getElem?_cons_zero]; rfl) (by kernel_rfl) (by kernel_rfl) (by kernel_rfl) (by rfl) ?_ hHeld ?_; rotate_left; · (intro w hSw; (try dsimp only at hSw); go_simp; (try with_reducible rfl))
        try simp only [Act.put, List.setIfInBounds_toArray, List.set_cons_zero, List.set_cons_succ]
        refine wpAnyH_takeQ 30 (v := ?_) (fun _ _ _ _ _ h => h) (by simp only [List.getElem?_toArray, List.getElem?_cons_succ, List.getElem?_cons_zero]; rfl) (by kernel_rfl) (by kernel_rfl) (by kernel_rfl) (by rfl) ?_ hHeld ?_; rotate_left; · (intro w hSw; (try dsimp only at hSw); go_simp; (try with_reducible rfl))
        try simp only [Act.put, List.setIfInBounds_toArray, List.set_cons_zero, List.set_cons_succ]
        refine wpAnyH_takeQ 31 (v := ?_) (fun _ _ _ _ _ h => h) (by simp only [List.getElem?_toArray, List.getElem?_cons_succ, List.getElem?_cons_zero]; rfl) (by kernel_rfl) (by kernel_rfl) (by kernel_rfl) (by rfl) ?_ hHeld ?_; rotate_left; · (intro w hSw; (try dsimp only at hSw); go_simp; (try with_reducible rfl))
        try simp only [Act.put, List.setIfInBounds_toArray, List.set_cons_zero, List.set_cons_succ]
        refine wpAnyH_takeQ 32 (v := ?_) (fun _ _ _ _ _ h => h) (by simp only [List.getElem?_toArray, List.getElem?_cons_succ, List.getElem?_cons_zero]; rfl) (by kernel_rfl) (by kernel_rfl) (by kernel_rfl) (by rfl) ?_ hHeld ?_; rotate_left; · (intro w hSw; (try dsimp only at hSw); go_simp; (try with_reducible rfl))
        try simp only [Act.put, List.setIfInBounds_toArray, List.set_cons_zero, List.set_cons_succ]
        refine wpAnyH_takeQ 33 (v := ?_) (fun _ _ _ _ _ h => h) (by simp only [List.getElem?_toArray, List.getElem?_cons_succ, List.getElem?_cons_zero]; rfl) (by kernel_rfl) (by kernel_rfl) (by kernel_rfl) (by rfl) ?_ hHeld ?_; rotate_left; · (intro w hSw; (try dsimp only at hSw); go_simp; (try with_reducible rfl))
        try simp only [Act.put, List.setIfInBounds_toArray, List.set_cons_zero, List.set_cons_succ]
        refine wpAnyH_takeQ 34 (v := ?_) (fun _ _ _ _ _ h => h) (by simp only [List.getElem?_toArray, List.getElem?_cons_succ, List.getElem?_cons_zero]; rfl) (by kernel_rfl) (by kernel_rfl) (by kernel_rfl) (by rfl) ?_ hHeld ?_; rotate_left; · (intro w hSw; (try dsimp only at hSw); go_simp; (try with_reducible rfl))
        try simp only [Act.put, List.setIfInBounds_toArray, List.set_cons_zero, List.set_cons_succ]
        refine wpAnyH_takeQ 35 (v := ?_) (fun _ _ _ _ _ h => h) (by simp only [List.getElem?_toArray, List.getElem?_cons_succ, List.getElem?_cons_zero]; rfl) (by kernel_rfl) (by kernel_rfl) (by kernel_rfl) (by rfl) ?_ hHeld ?_; rotate_left; · (intro w hSw; (try dsimp only at hSw); go_simp; (try with_reducible rfl))
        try simp only [Act.put, List.setIfInBounds_toArray, List.set_cons_zero, List.set_cons_succ]
        refine wpAnyH_skipQ 36 (fun _ _ _ _ _ h => h) (by simp only [List.getElem?_toArray, List.getElem?_cons_succ, List.getElem?_cons_zero]; rfl) (by kernel_rfl) (by kernel_rfl) (by kernel_rfl) (by rfl) hHeld ?_
        try simp only [Act.put, List.setIfInBounds_toArray, List.set_cons_zero, List.set_cons_succ]
        refine wpAnyH_skipQ 37 (fun _ _ _ _ _ h => h) (by simp only [List.getElem?_toArray, List.getElem?_cons_succ, List.getElem?_cons_zero]; rfl) (by kernel_rfl) (by kernel_rfl) (by kernel_rfl) (by rfl) hHeld ?_
        try simp only [Act.put, List.setIfInBounds_toArray, List.set_cons_zero, List.set_cons_succ]
        refine wpAnyH_takeQ 38 (v := ?_) (fun _ _ _ _ _ h => h) (by simp only [List.getElem?_toArray, List.getElem?_cons_succ, List.getElem?_cons_zero]; rfl) (by kernel_rfl) (by kernel_rfl) (by kernel_rfl) (by rfl) ?_ hHeld ?_; rotate_left; · (intro w hSw; (try dsimp only at hSw); go_simp; (try with_reducible rfl))
        try simp only [Act.put, List.setIfInBounds_toArray, List.set_cons_zero, List.set_cons_succ]
        refine wpAnyH_takeQ 39 (v := ?_) (fun _ _ _ _ _ h => h) (by simp only [List.getElem?_toArray, List.getElem?_cons_succ, List.getElem?_cons_zero]; rfl) (by kernel_rfl) (by kernel_rfl) (by kernel_rfl) (by rfl) ?_ hHeld ?_; rotate_left; · (intro w hSw; (try dsimp only at hSw); go_simp; (try with_reducible rfl))
        try simp only [Act.put, List.setIfInBounds_toArray, List.set_cons_zero, List.set_cons_succ]
        refine wpAnyH_skipQ 40 (fun _ _ _ _ _ h => h) (by simp only [List.getElem?_toArray, List.getElem?_cons_succ, List.getElem?_cons_zero]; rfl) (by kernel_rfl) (by kernel_rfl) (by kernel_rfl) (by rfl) hHeld ?_
        try simp only [Act.put, List.setIfInBounds_toArray, List.set_cons_zero, List.set_cons_succ]
        refine wpAnyH_skipQ 41 (fun _ _ _ _ _ h => h) (by simp only [List.getElem?_toArray, List.getElem?_cons_succ, List.getElem?_cons_zero]; rfl) (by kernel_rfl) (by kernel_rfl) (by kernel_rfl) (by rfl) hHeld ?_
        try simp only [Act.put, List.setIfInBounds_toArray, List.set_cons_zero, List.set_cons_succ]
        refine wpAnyH_takeQ 42 (v := ?_) (fun _ _ _ _ _ h => h) (by simp only [List.getElem?_toArray, List.getElem?_cons_succ, List.getElem?_cons_zero]; rfl) (by kernel_rfl) (by kernel_rfl) (by kernel_rfl) (by rfl) ?_ hHeld ?_; rotate_left; · (intro w hSw; (try dsimp only at hSw); go_simp; (try with_reducible rfl))
        try simp only [Act.put, List.setIfInBounds_toArray, List.set_cons_zero, List.set_cons_succ]
        refine wpAnyH_takeQ 43 (v := ?_) (fun _ _ _ _ _ h => h) (by simp only [List.getElem?_toArray, List.getElem?_cons_succ, List.getElem?_cons_zero]; rfl) (by kernel_rfl) (by kernel_rfl) (by kernel_rfl) (by rfl) ?_ hHeld ?_; rotate_left; · (intro w hSw; (try dsimp only at hSw); go_simp; (try with_reducible rfl))
        try simp only [Act.put, List.setIfInBounds_toArray, List.set_cons_zero, List.set_cons_succ]
        refine wpAnyH_takeQ 44 (v := ?_) (fun _ _ _ _ _ h => h) (by simp only [List.getElem?_toArray, List.getElem?_cons_succ, List.getElem?_cons_zero]; rfl) (by kernel_rfl) (by kernel_rfl) (by kernel_rfl) (by rfl) ?_ hHeld ?_; rotate_left; · (intro w hSw; (try dsimp only at hSw); go_simp; (try with_reducible rfl))
        try simp only [Act.put, List.setIfInBounds_toArray, List.set_cons_zero, List.set_cons_succ]
        refine wpAnyH_takeQ 45 (v := ?_) (fun _ _ _ _ _ h => h) (by simp only [List.getElem?_toArray, List.getElem?_cons_succ, List.getElem?_cons_zero]; rfl) (by kernel_rfl) (by kernel_rfl) (by kernel_rfl) (by rfl) ?_ hHeld ?_; rotate_left; · (intro w hSw; (try dsimp only at hSw); go_simp; (try with_reducible rfl))
        try simp only [Act.put, List.setIfInBounds_toArray, List.set_cons_zero, List.set_cons_succ]
        refine wpAnyH_takeQ 46 (v := ?_) (fun _ _ _ _ _ h => h) (by simp only [List.getElem?_toArray, List.getElem?_cons_succ, List.getElem?_cons_zero]; rfl) (by kernel_rfl) (by kernel_rfl) (by kernel_rfl) (by rfl) ?_ hHeld ?_; rotate_left; · (intro w hSw; (try dsimp only at hSw); go_simp; (try with_reducible rfl))
        try simp only [Act.put, List.setIfInBounds_toArray, List.set_cons_zero, List.set_cons_succ]
        refine wpAnyH_takeQ 47 (v := ?_) (fun _ _ _ _ _ h => h) (by simp only [List.getElem?_toArray, List.getElem?_cons_succ, List.getElem?_cons_zero]; rfl) (by kernel_rfl) (by kernel_rfl) (by kernel_rfl) (by rfl) ?_ hHeld ?_; rotate_left; · (intro w hSw; (try dsimp only at hSw); go_simp; (try with_reducible rfl))
        try simp only [Act.put, List.setIfInBounds_toArray, List.set_cons_zero, List.set_cons_succ]
        refine wpAnyH_takeQ 49 (v := ?_) (fun _ _ _ _ _ h => h) (by simp only [List.getElem?_toArray, List.getElem?_cons_succ, List.getElem?_cons_zero]; rfl) (by kernel_rfl) (by kernel_rfl) (by kernel_rfl) (by rfl) ?_ hHeld ?_; rotate_left; · (intro w hSw; (try dsimp only at hSw); go_simp; (try with_reducible rfl))
        try simp only [Act.put, List.setIfInBounds_toArray, List.set_cons_zero, List.set_cons_succ]
        refine wpAnyH_ready (rs := [48]) (by kernel_rfl) (by simp) ?_
        refine AllReadyH.cons (by simp only [List.getElem?_toArray, List.getElem?_cons_succ, List.getElem?_cons_zero]; rfl) (fun K hK => ?_) AllReadyH.nil
        go_simp
        clear hHeld
        refine (qtext_str2 (k := 6) (by exact R_a.out) (by omega) (by omega) (by exact HT.out)).mono ?_
        rintro e w15 ⟨t1, rfl, ht1, hb⟩
        replace HT := Lib.hid (HT.out.below hb)
        replace R_a := Lib.hid (R_a.out.below hb)
        replace R_b := Lib.hid (R_b.out.below hb)
        replace R_c := Lib.hid (R_c.out.below hb)
        replace Q_z := Lib.hid (Q_z.out.below hb)
        replace Q_h := Lib.hid (Q_h.out.below hb)
        replace B_a := Lib.hid (B_a.out.below hb)
        replace B_b := Lib.hid (B_b.out.below hb)
        replace B_c := Lib.hid (B_c.out.below hb)
        replace B_z := Lib.hid (B_z.out.below hb)
        replace B_h := Lib.hid (B_h.out.below hb)
        replace hB := below_next hB hb
        clear hb
        have Ht1 := Lib.hid ht1
        clear ht1
        go_wp2_with fail
        refine hK.out _ _ (by exact ⟨B_a.out.c3, B_b.out.c3⟩) (fun hHeld => ?_)
        clear hK K
        try simp only [Act.put, List.setIfInBounds_toArray, List.set_cons_zero, List.set_cons_succ]
        refine wpAnyH_ready (rs := [50]) (by kernel_rfl) (by simp) ?_
        refine AllReadyH.cons (by simp only [List.getElem?_toArray, List.getElem?_cons_succ, List.getElem?_cons_zero]; rfl) (fun K hK => ?_) AllReadyH.nil
        go_simp
        clear hHeld
        refine (qtext_str2 (k := 6) (by exact R_b.out) (by omega) (by omega) (by exact HT.out)).mono ?_
        rintro e w16 ⟨t2, rfl, ht2, hb⟩
        replace HT := Lib.hid (HT.out.below hb)
        replace R_a := Lib.hid (R_a.out.below hb)
        replace R_b := Lib.hid (R_b.out.below hb)
        replace R_c := Lib.hid (R_c.out.below hb)
        replace Q_z := Lib.hid (Q_z.out.below hb)
        replace Q_h := Lib.hid (Q_h.out.below hb)
        replace B_a := Lib.hid (B_a.out.below hb)
        replace B_b := Lib.hid (B_b.out.below hb)
        replace B_c := Lib.hid (B_c.out.below hb)
        replace B_z := Lib.hid (B_z.out.below hb)
        replace B_h := Lib.hid (B_h.out.below hb)
        replace hB := below_next hB hb
        clear hb
        have Ht2 := Lib.hid ht2
        clear ht2
        have tb : (t1.toList == t2.toList) = false := by rw [beq_eq_false_iff_ne, Go.ByteArray.toList_eq, Go.ByteArray.toList_eq, Ht1.out, Ht2.out]; intro e; have h4 := H1.out; rw [qtext_inj e] at h4; exact Rat.lt_irrefl h4
        go_wp2_with fail
        refine hK.out _ _ (by exact ⟨B_a.out.c3, B_b.out.c3⟩) (fun hHeld => ?_)
        clear hK K
        try simp only [Act.put, List.setIfInBounds_toArray, List.set_cons_zero, List.set_cons_succ]
        refine wpAnyH_takeQ 51 (v := ?_) (fun _ _ _ _ _ h => h) (by simp only [List.getElem?_toArray, List.getElem?_cons_succ, List.getElem?_cons_zero]; rfl) (by kernel_rfl) (by kernel_rfl) (by kernel_rfl) (by rfl) ?_ hHeld ?_; rotate_left; · (intro w hSw; (try dsimp only at hSw); go_simp; (try with_reducible rfl))
        try simp only [Act.put, List.setIfInBounds_toArray, List.set_cons_zero, List.set_cons_succ]
        refine wpAnyH_takeQ 52 (v := ?_) (fun _ _ _ _ _ h => h) (by simp only [List.getElem?_toArray, List.getElem?_cons_succ, List.getElem?_cons_zero]; rfl) (by kernel_rfl) (by kernel_rfl) (by kernel_rfl) (by rfl) ?_ hHeld ?_; rotate_left; · (intro w hSw; (try dsimp only at hSw); go_simp; (try with_reducible rfl))
        try simp only [Act.put, List.setIfInBounds_toArray, List.set_cons_zero, List.set_cons_succ]
        refine wpAnyH_takeQ 53 (v := ?_) (fun _ _ _ _ _ h => h) (by simp only [List.getElem?_toArray, List.getElem?_cons_succ, List.getElem?_cons_zero]; rfl) (by kernel_rfl) (by kernel_rfl) (by kernel_rfl) (by rfl) ?_ hHeld ?_; rotate_left; · (intro w hSw; (try dsimp only at hSw); go_simp; (try with_reducible rfl))
        try simp only [Act.put, List.setIfInBounds_toArray, List.set_cons_zero, List.set_cons_succ]
        refine wpAnyH_done (by kernel_rfl) (NoPanic.normal ?_) _
        clear hHeld
        go_wp2_with fail
        go_meet
        exact ⟨rfl, HT.out, R_a.out, R_b.out, R_c.out, Q_z.out, Q_h.out, B_a.out, B_b.out, B_c.out, B_z.out, B_h.out, hB⟩
      · skip
        have y1 : decide (y ≤ 0) = false := by rw [← HY.out, qord_gt (Rat.not_le.1 h2)]; rfl
        have H1 := Lib.hid h1
        clear h1 h2 e1
        refine wp_region_named (S := (fun w' => (w'.cell? ⟨w.heap.size, 0, none⟩ = some (.bool b_a) ∧ w'.cell? ⟨w.heap.size, 1, none⟩ = some m_a ∧ w'.cell? ⟨w.heap.size, 2, none⟩ = some d_a) ∧ (w'.cell? ⟨w.heap.size + 1, 0, none⟩ = some (.bool b_b) ∧ w'.cell? ⟨w.heap.size + 1, 1, none⟩ = some m_b ∧ w'.cell? ⟨w.heap.size + 1, 2, none⟩ = some d_b))) (by kernel_rfl) (by exact ⟨B_a.out.c3, B_b.out.c3⟩) (fun V17 hb hHeld => ?_)
        replace HT := Lib.hid (HT.out.below hb)
        replace R_a := Lib.hid (R_a.out.below hb)
        replace R_b := Lib.hid (R_b.out.below hb)
        replace R_c := Lib.hid (R_c.out.below hb)
        replace Q_z := Lib.hid (Q_z.out.below hb)
        replace Q_h := Lib.hid (Q_h.out.below hb)
        replace B_a := Lib.hid (B_a.out.below hb)
        replace B_b := Lib.hid (B_b.out.below hb)
        replace B_c := Lib.hid (B_c.out.below hb)
        replace B_z := Lib.hid (B_z.out.below hb)
        replace B_h := Lib.hid (B_h.out.below hb)
        replace hB := below_next hB hb
        clear hb
        refine wpAnyH_takeQ 0 (v := ?_) (fun _ _ _ _ _ h => h) (by simp only [List.getElem?_toArray, List.getElem?_cons_zero]; rfl) (by kernel_rfl) (by kernel_rfl) (by kernel_rfl) (by rfl) ?_ hHeld ?_; rotate_left; · (intro w hSw; (try dsimp only at hSw); go_simp; (try with_reducible rfl))
        try simp only [Act.put, List.setIfInBounds_toArray, List.set_cons_zero, List.set_cons_succ]
        refine wpAnyH_takeQ 1 (v := ?_) (fun _ _ _ _ _ h => h) (by simp only [List.getElem?_toArray, List.getElem?_cons_succ, List.getElem?_cons_zero]; rfl) (by kernel_rfl) (by kernel_rfl) (by kernel_rfl) (by rfl) ?_ hHeld ?_; rotate_left; · (intro w hSw; (try dsimp only at hSw); go_simp; (try with_reducible rfl))
        try simp only [Act.put, List.setIfInBounds_toArray, List.set_cons_zero, List.set_cons_succ]
        refine wpAnyH_takeQ 2 (v := ?_) (fun _ _ _ _ _ h => h) (by simp only [List.getElem?_toArray, List.getElem?_cons_succ, List.getElem?_cons_zero]; rfl) (by kernel_rfl) (by kernel_rfl) (by kernel_rfl) (by rfl) ?_ hHeld ?_; rotate_left; · (intro w hSw; (try dsimp only at hSw); go_simp; (try with_reducible rfl))
        try simp only [Act.put, List.setIfInBounds_toArray, List.set_cons_zero, List.set_cons_succ]
        refine wpAnyH_takeQ 3 (v := ?_) (fun _ _ _ _ _ h => h) (by simp only [List.getElem?_toArray, List.getElem?_cons_succ, List.getElem?_cons_zero]; rfl) (by kernel_rfl) (by kernel_rfl) (by kernel_rfl) (by rfl) ?_ hHeld ?_; rotate_left; · (intro w hSw; (try dsimp only at hSw); go_simp; (try with_reducible rfl))
        try simp only [Act.put, List.setIfInBounds_toArray, List.set_cons_zero, List.set_cons_succ]
        refine wpAnyH_takeQ 4 (v := ?_) (fun _ _ _ _ _ h => h) (by simp only [List.getElem?_toArray, List.getElem?_cons_succ, List.getElem?_cons_zero]; rfl) (by kernel_rfl) (by kernel_rfl) (by kernel_rfl) (by rfl) ?_ hHeld ?_; rotate_left; · (intro w hSw; (try dsimp only at hSw); go_simp; (try with_reducible rfl))
        try simp only [Act.put, List.setIfInBounds_toArray, List.set_cons_zero, List.set_cons_succ]
        refine wpAnyH_takeQ 5 (v := ?_) (fun _ _ _ _ _ h => h) (by simp only [List.getElem?_toArray, List.getElem?_cons_succ, List.getElem?_cons_zero]; rfl) (by kernel_rfl) (by kernel_rfl) (by kernel_rfl) (by rfl) ?_ hHeld ?_; rotate_left; · (intro w hSw; (try dsimp only at hSw); go_simp; (try with_reducible rfl))
        try simp only [Act.put, List.setIfInBounds_toArray, List.set_cons_zero, List.set_cons_succ]
        refine wpAnyH_takeQ 6 (v := ?_) (fun _ _ _ _ _ h => h) (by simp only [List.getElem?_toArray, List.getElem?_cons_succ, List.getElem?_cons_zero]; rfl) (by kernel_rfl) (by kernel_rfl) (by kernel_rfl) (by rfl) ?_ hHeld ?_; rotate_left; · (intro w hSw; (try dsimp only at hSw); go_simp; (try with_reducible rfl))
        try simp only [Act.put, List.setIfInBounds_toArray, List.set_cons_zero, List.set_cons_succ]
        refine wpAnyH_takeQ 7 (v := ?_) (fun _ _ _ _ _ h => h) (by simp only [List.getElem?_toArray, List.getElem?_cons_succ, List.getElem?_cons_zero]; rfl) (by kernel_rfl) (by kernel_rfl) (by kernel_rfl) (by rfl) ?_ hHeld ?_; rotate_left; · (intro w hSw; (try dsimp only at hSw); go_simp; (try with_reducible rfl))
        try simp only [Act.put, List.setIfInBounds_toArray, List.set_cons_zero, List.set_cons_succ]
        refine wpAnyH_takeQ 8 (v := ?_) (fun _ _ _ _ _ h => h) (by simp only [List.getElem?_toArray, List.getElem?_cons_succ, List.getElem?_cons_zero]; rfl) (by kernel_rfl) (by kernel_rfl) (by kernel_rfl) (by rfl) ?_ hHeld ?_; rotate_left; · (intro w hSw; (try dsimp only at hSw); go_simp; (try with_reducible rfl))
        try simp only [Act.put, List.setIfInBounds_toArray, List.set_cons_zero, List.set_cons_succ]
        refine wpAnyH_takeQ 10 (v := ?_) (fun _ _ _ _ _ h => h) (by simp only [List.getElem?_toArray, List.getElem?_cons_succ, List.getElem?_cons_zero]; rfl) (by kernel_rfl) (by kernel_rfl) (by kernel_rfl) (by rfl) ?_ hHeld ?_; rotate_left; · (intro w hSw; (try dsimp only at hSw); go_simp; (try with_reducible rfl))
        try simp only [Act.put, List.setIfInBounds_toArray, List.set_cons_zero, List.set_cons_succ]
        refine wpAnyH_takeQ 11 (v := ?_) (fun _ _ _ _ _ h => h) (by simp only [List.getElem?_toArray, List.getElem?_cons_succ, List.getElem?_cons_zero]; rfl) (by kernel_rfl) (by kernel_rfl) (by kernel_rfl) (by rfl) ?_ hHeld ?_; rotate_left; · (intro w hSw; (try dsimp only at hSw); go_simp; (try with_reducible rfl))
        try simp only [Act.put, List.setIfInBounds_toArray, List.set_cons_zero, List.set_cons_succ]
        refine wpAnyH_ready (rs := [9]) (by kernel_rfl) (by simp) ?_
        refine AllReadyH.cons (by simp only [List.getElem?_toArray, List.getElem?_cons_succ, List.getElem?_cons_zero]; rfl) (fun K hK => ?_) AllReadyH.nil
        go_simp
        clear hHeld
        refine (qcmp_is (k := 6) (j := 6) (v := 1) (by exact R_b.out) (by exact R_a.out) (by omega) (by omega) (by omega) (by omega) (by have h := H1.out; exact qord_gt h)).mono ?_
        rintro e w18 ⟨rfl, hb⟩
        replace HT := Lib.hid (HT.out.below hb)
        replace R_a := Lib.hid (R_a.out.below hb)
        replace R_b := Lib.hid (R_b.out.below hb)
        replace R_c := Lib.hid (R_c.out.below hb)
        replace Q_z := Lib.hid (Q_z.out.below hb)
        replace Q_h := Lib.hid (Q_h.out.below hb)
        replace B_a := Lib.hid (B_a.out.below hb)
        replace B_b := Lib.hid (B_b.out.below hb)
        replace B_c := Lib.hid (B_c.out.below hb)
        replace B_z := Lib.hid (B_z.out.below hb)
        replace B_h := Lib.hid (B_h.out.below hb)
        replace hB := below_next hB hb
        clear hb
        go_wp2_with fail
        refine hK.out _ _ (by exact ⟨B_a.out.c3, B_b.out.c3⟩) (fun hHeld => ?_)
        clear hK K
        try simp only [Act.put, List.setIfInBounds_toArray, List.set_cons_zero, List.set_cons_succ]
        refine wpAnyH_takeQ 12 (v := ?_) (fun _ _ _ _ _ h => h) (by simp only [List.getElem?_toArray, List.getElem?_cons_succ, List.getElem?_cons_zero]; rfl) (by kernel_rfl) (by kernel_rfl) (by kernel_rfl) (by rfl) ?_ hHeld ?_; rotate_left; · (intro w hSw; (try dsimp only at hSw); go_simp; (try with_reducible rfl))
        try simp only [Act.put, List.setIfInBounds_toArray, List.set_cons_zero, List.set_cons_succ]
        refine wpAnyH_takeQ 13 (v := ?_) (fun _ _ _ _ _ h => h) (by simp only [List.getElem?_toArray, List.getElem?_cons_succ, List.getElem?_cons_zero]; rfl) (by kernel_rfl) (by kernel_rfl) (by kernel_rfl) (by rfl) ?_ hHeld ?_; rotate_left; · (intro w hSw; (try dsimp only at hSw); go_simp; (try with_reducible rfl))
        try simp only [Act.put, List.setIfInBounds_toArray, List.set_cons_zero, List.set_cons_succ]
        refine wpAnyH_takeQ 14 (v := ?_) (fun _ _ _ _ _ h => h) (by simp only [List.getElem?_toArray, List.getElem?_cons_succ, List.getElem?_cons_zero]; rfl) (by kernel_rfl) (by kernel_rfl) (by kernel_rfl) (by rfl) ?_ hHeld ?_; rotate_left; · (intro w hSw; (try dsimp only at hSw); go_simp; (try with_reducible rfl))
        try simp only [Act.put, List.setIfInBounds_toArray, List.set_cons_zero, List.set_cons_succ]
        refine wpAnyH_takeQ 15 (v := ?_) (fun _ _ _ _ _ h => h) (by simp only [List.getElem?_toArray, List.getElem?_cons_succ, List.getElem?_cons_zero]; rfl) (by kernel_rfl) (by kernel_rfl) (by kernel_rfl) (by rfl) ?_ hHeld ?_; rotate_left; · (intro w hSw; (try dsimp only at hSw); go_simp; (try with_reducible rfl))
        try simp only [Act.put, List.setIfInBounds_toArray, List.set_cons_zero, List.set_cons_succ]
        refine wpAnyH_takeQ 16 (v := ?_) (fun _ _ _ _ _ h => h) (by simp only [List.getElem?_toArray, List.getElem?_cons_succ, List.getElem?_cons_zero]; rfl) (by kernel_rfl) (by kernel_rfl) (by kernel_rfl) (by rfl) ?_ hHeld ?_; rotate_left; · (intro w hSw; (try dsimp only at hSw); go_simp; (try with_reducible rfl))
        try simp only [Act.put, List.setIfInBounds_toArray, List.set_cons_zero, List.set_cons_succ]
        refine wpAnyH_ready (rs := [17]) (by kernel_rfl) (by simp) ?_
        refine AllReadyH.cons (by simp only [List.getElem?_toArray, List.getElem?_cons_succ, List.getElem?_cons_zero]; rfl) (fun K hK => ?_) AllReadyH.nil
        go_simp
        clear hHeld
        refine (qcmp_is (k := 6) (j := 6) (v := 0) (by exact R_a.out) (by exact R_a.out) (by omega) (by omega) (by omega) (by omega) (by exact qord_self _)).mono ?_
        rintro e w19 ⟨rfl, hb⟩
        replace HT := Lib.hid (HT.out.below hb)
        replace R_a := Lib.hid (R_a.out.below hb)
        replace R_b := Lib.hid (R_b.out.below hb)
        replace R_c := Lib.hid (R_c.out.below hb)
        replace Q_z := Lib.hid (Q_z.out.below hb)
        replace Q_h := Lib.hid (Q_h.out.below hb)
        replace B_a := Lib.hid (B_a.out.below hb)
        replace B_b := Lib.hid (B_b.out.below hb)
        replace B_c := Lib.hid (B_c.out.below hb)
        replace B_z := Lib.hid (B_z.out.below hb)
        replace B_h := Lib.hid (B_h.out.below hb)
        replace hB := below_next hB hb
        clear hb
        go_wp2_with fail
        refine hK.out _ _ (by exact ⟨B_a.out.c3, B_b.out.c3⟩) (fun hHeld => ?_)
        clear hK K
        try simp only [Act.put, List.setIfInBounds_toArray, List.set_cons_zero, List.set_cons_succ]
        refine wpAnyH_takeQ 18 (v := ?_) (fun _ _ _ _ _ h => h) (by simp only [List.getElem?_toArray, List.getElem?_cons_succ, List.getElem?_cons_zero]; rfl) (by kernel_rfl) (by kernel_rfl) (by kernel_rfl) (by rfl) ?_ hHeld ?_; rotate_left; · (intro w hSw; (try dsimp only at hSw); go_simp; (try with_reducible rfl))
        try simp only [Act.put, List.setIfInBounds_toArray, List.set_cons_zero, List.set_cons_succ]
        refine wpAnyH_takeQ 19 (v := ?_) (fun _ _ _ _ _ h => h) (by simp only [List.getElem?_toArray, List.getElem?_cons_succ, List.getElem?_cons_zero]; rfl) (by kernel_rfl) (by kernel_rfl) (by kernel_rfl) (by rfl) ?_ hHeld ?_; rotate_left; · (intro w hSw; (try dsimp only at hSw); go_simp; (try with_reducible rfl))
        try simp only [Act.put, List.setIfInBounds_toArray, List.set_cons_zero, List.set_cons_succ]
        refine wpAnyH_takeQ 20 (v := ?_) (fun _ _ _ _ _ h => h) (by simp only [List.getElem?_toArray, List.getElem?_cons_succ, List.getElem?_cons_zero]; rfl) (by kernel_rfl) (by kernel_rfl) (by kernel_rfl) (by rfl) ?_ hHeld ?_; rotate_left; · (intro w hSw; (try dsimp only at hSw); go_simp; (try with_reducible rfl))
        try simp only [Act.put, List.setIfInBounds_toArray, List.set_cons_zero, List.set_cons_succ]
        refine wpAnyH_takeQ 21 (v := ?_) (fun _ _ _ _ _ h => h) (by simp only [List.getElem?_toArray, List.getElem?_cons_succ, List.getElem?_cons_zero]; rfl) (by kernel_rfl) (by kernel_rfl) (by kernel_rfl) (by rfl) ?_ hHeld ?_; rotate_left; · (intro w hSw; (try dsimp only at hSw); go_simp; (try with_reducible rfl))
        try simp only [Act.put, List.setIfInBounds_toArray, List.set_cons_zero, List.set_cons_succ]
        refine wpAnyH_takeQ 22 (v := ?_) (fun _ _ _ _ _ h => h) (by simp only [List.getElem?_toArray, List.getElem?_cons_succ, List.getElem?_cons_zero]; rfl) (by kernel_rfl) (by kernel_rfl) (by kernel_rfl) (by rfl) ?_ hHeld ?_; rotate_left; · (intro w hSw; (try dsimp only at hSw); go_simp; (try with_reducible rfl))
        try simp only [Act.put, List.setIfInBounds_toArray, List.set_cons_zero, List.set_cons_succ]
        refine wpAnyH_takeQ 23 (v := ?_) (fun _ _ _ _ _ h => h) (by simp only [List.getElem?_toArray, List.getElem?_cons_succ, List.getElem?_cons_zero]; rfl) (by kernel_rfl) (by kernel_rfl) (by kernel_rfl) (by rfl) ?_ hHeld ?_; rotate_left; · (intro w hSw; (try dsimp only at hSw); go_simp; (try with_reducible rfl))
        try simp only [Act.put, List.setIfInBounds_toArray, List.set_cons_zero, List.set_cons_succ]
        refine wpAnyH_takeQ 24 (v := ?_) (fun _ _ _ _ _ h => h) (by simp only [List.getElem?_toArray, List.getElem?_cons_succ, List.getElem?_cons_zero]; rfl) (by kernel_rfl) (by kernel_rfl) (by kernel_rfl) (by rfl) ?_ hHeld ?_; rotate_left; · (intro w hSw; (try dsimp only at hSw); go_simp; (try with_reducible rfl))
        try simp only [Act.put, List.setIfInBounds_toArray, List.set_cons_zero, List.set_cons_succ]
        refine wpAnyH_takeQ 25 (v := ?_) (fun _ _ _ _ _ h => h) (by simp only [List.getElem?_toArray, List.getElem?_cons_succ, List.getElem?_cons_zero]; rfl) (by kernel_rfl) (by kernel_rfl) (by kernel_rfl) (by rfl) ?_ hHeld ?_; rotate_left; · (intro w hSw; (try dsimp only at hSw); go_simp; (try with_reducible rfl))
        try simp only [Act.put, List.setIfInBounds_toArray, List.set_cons_zero, List.set_cons_succ]
        refine wpAnyH_takeQ 26 (v := ?_) (fun _ _ _ _ _ h => h) (by simp only [List.getElem?_toArray, List.getElem?_cons_succ, List.getElem?_cons_zero]; rfl) (by kernel_rfl) (by kernel_rfl) (by kernel_rfl) (by rfl) ?_ hHeld ?_; rotate_left; · (intro w hSw; (try dsimp only at hSw); go_simp; (try with_reducible rfl))
        try simp only [Act.put, List.setIfInBounds_toArray, List.set_cons_zero, List.set_cons_succ]
        refine wpAnyH_takeQ 27 (v := ?_) (fun _ _ _ _ _ h => h) (by simp only [List.getElem?_toArray, List.getElem?_cons_succ, List.getElem?_cons_zero]; rfl) (by kernel_rfl) (by kernel_rfl) (by kernel_rfl) (by rfl) ?_ hHeld ?_; rotate_left; · (intro w hSw; (try dsimp only at hSw); go_simp; (try with_reducible rfl))
        try simp only [Act.put, List.setIfInBounds_toArray, List.set_cons_zero, List.set_cons_succ]
        refine wpAnyH_skipQ 28 (fun _ _ _ _ _ h => h) (by simp only [List.getElem?_toArray, List.getElem?_cons_succ, List.getElem?_cons_zero]; rfl) (by kernel_rfl) (by kernel_rfl) (by kernel_rfl) (by rfl) hHeld ?_
        try simp only [Act.put, List.setIfInBounds_toArray, List.set_cons_zero, List.set_cons_succ]
        refine wpAnyH_skipQ 29 (fun _ _ _ _ _ h => h) (by simp only [List.getElem?_toArray, List.getElem?_cons_succ, List.getElem?_cons_zero]; rfl) (by kernel_rfl) (by kernel_rfl) (by kernel_rfl) (by rfl) hHeld ?_
        try simp only [Act.put, List.setIfInBounds_toArray, List.set_cons_zero, List.set_cons_succ]
        refine wpAnyH_takeQ 30 (v := ?_) (fun _ _ _ _ _ h => h) (by simp only [List.getElem?_toArray, List.getElem?_cons_succ, List.getElem?_cons_zero]; rfl) (by kernel_rfl) (by kernel_rfl) (by kernel_rfl) (by rfl) ?_ hHeld ?_; rotate_left; · (intro w hSw; (try dsimp only at hSw); go_simp; (try with_reducible rfl))
        try simp only [Act.put, List.setIfInBounds_toArray, List.set_cons_zero, List.set_cons_succ]
        refine wpAnyH_takeQ 31 (v := ?_) (fun _ _ _ _ _ h => h) (by simp only [List.getElem?_toArray, List.getElem?_cons_succ, List.getElem?_cons_zero]; rfl) (by kernel_rfl) (by kernel_rfl) (by kernel_rfl) (by rfl) ?_ hHeld ?_; rotate_left; · (intro w hSw; (try dsimp only at hSw); go_simp; (try with_reducible rfl))
        try simp only [Act.put, List.setIfInBounds_toArray, List.set_cons_zero, List.set_cons_succ]
        refine wpAnyH_takeQ 32 (v := ?_) (fun _ _ _ _ _ h => h) (by simp only [List.getElem?_toArray, List.getElem?_cons_succ, List.getElem?_cons_zero]; rfl) (by kernel_rfl) (by kernel_rfl) (by kernel_rfl) (by rfl) ?_ hHeld ?_; rotate_left; · (intro w hSw; (try dsimp only at hSw); go_simp; (try with_reducible rfl))
        try simp only [Act.put, List.setIfInBounds_toArray, List.set_cons_zero, List.set_cons_succ]
        refine wpAnyH_takeQ 33 (v := ?_) (fun _ _ _ _ _ h => h) (by simp only [List.getElem?_toArray, List.getElem?_cons_succ, List.getElem?_cons_zero]; rfl) (by kernel_rfl) (by kernel_rfl) (by kernel_rfl) (by rfl) ?_ hHeld ?_; rotate_left; · (intro w hSw; (try dsimp only at hSw); go_simp; (try with_reducible rfl))
        try simp only [Act.put, List.setIfInBounds_toArray, List.set_cons_zero, List.set_cons_succ]
        refine wpAnyH_takeQ 34 (v := ?_) (fun _ _ _ _ _ h => h) (by simp only [List.getElem?_toArray, List.getElem?_cons_succ, List.getElem?_cons_zero]; rfl) (by kernel_rfl) (by kernel_rfl) (by kernel_rfl) (by rfl) ?_ hHeld ?_; rotate_left; · (intro w hSw; (try dsimp only at hSw); go_simp; (try with_reducible rfl))
        try simp only [Act.put, List.setIfInBounds_toArray, List.set_cons_zero, List.set_cons_succ]
        refine wpAnyH_takeQ 35 (v := ?_) (fun _ _ _ _ _ h => h) (by simp only [List.getElem?_toArray, List.getElem?_cons_succ, List.getElem?_cons_zero]; rfl) (by kernel_rfl) (by kernel_rfl) (by kernel_rfl) (by rfl) ?_ hHeld ?_; rotate_left; · (intro w hSw; (try dsimp only at hSw); go_simp; (try with_reducible rfl))
        try simp only [Act.put, List.setIfInBounds_toArray, List.set_cons_zero, List.set_cons_succ]
        refine wpAnyH_skipQ 36 (fun _ _ _ _ _ h => h) (by simp only [List.getElem?_toArray, List.getElem?_cons_succ, List.getElem?_cons_zero]; rfl) (by kernel_rfl) (by kernel_rfl) (by kernel_rfl) (by rfl) hHeld ?_
        try simp only [Act.put, List.setIfInBounds_toArray, List.set_cons_zero, List.set_cons_succ]
        refine wpAnyH_skipQ 37 (fun _ _ _ _ _ h => h) (by simp only [List.getElem?_toArray, List.getElem?_cons_succ, List.getElem?_cons_zero]; rfl) (by kernel_rfl) (by kernel_rfl) (by kernel_rfl) (by rfl) hHeld ?_
        try simp only [Act.put, List.setIfInBounds_toArray, List.set_cons_zero, List.set_cons_succ]
        refine wpAnyH_takeQ 38 (v := ?_) (fun _ _ _ _ _ h => h) (by simp only [List.getElem?_toArray, List.getElem?_cons_succ, List.getElem?_cons_zero]; rfl) (by kernel_rfl) (by kernel_rfl) (by kernel_rfl) (by rfl) ?_ hHeld ?_; rotate_left; · (intro w hSw; (try dsimp only at hSw); go_simp; (try with_reducible rfl))
        try simp only [Act.put, List.setIfInBounds_toArray, List.set_cons_zero, List.set_cons_succ]
        refine wpAnyH_takeQ 39 (v := ?_) (fun _ _ _ _ _ h => h) (by simp only [List.getElem?_toArray, List.getElem?_cons_succ, List.getElem?_cons_zero]; rfl) (by kernel_rfl) (by kernel_rfl) (by kernel_rfl) (by rfl) ?_ hHeld ?_; rotate_left; · (intro w hSw; (try dsimp only at hSw); go_simp; (try with_reducible rfl))
        try simp only [Act.put, List.setIfInBounds_toArray, List.set_cons_zero, List.set_cons_succ]
        refine wpAnyH_skipQ 40 (fun _ _ _ _ _ h => h) (by simp only [List.getElem?_toArray, List.getElem?_cons_succ, List.getElem?_cons_zero]; rfl) (by kernel_rfl) (by kernel_rfl) (by kernel_rfl) (by rfl) hHeld ?_
        try simp only [Act.put, List.setIfInBounds_toArray, List.set_cons_zero, List.set_cons_succ]
        refine wpAnyH_skipQ 41 (fun _ _ _ _ _ h => h) (by simp only [List.getElem?_toArray, List.getElem?_cons_succ, List.getElem?_cons_zero]; rfl) (by kernel_rfl) (by kernel_rfl) (by kernel_rfl) (by rfl) hHeld ?_
        try simp only [Act.put, List.setIfInBounds_toArray, List.set_cons_zero, List.set_cons_succ]
        refine wpAnyH_takeQ 42 (v := ?_) (fun _ _ _ _ _ h => h) (by simp only [List.getElem?_toArray, List.getElem?_cons_succ, List.getElem?_cons_zero]; rfl) (by kernel_rfl) (by kernel_rfl) (by kernel_rfl) (by rfl) ?_ hHeld ?_; rotate_left; · (intro w hSw; (try dsimp only at hSw); go_simp; (try with_reducible rfl))
        try simp only [Act.put, List.setIfInBounds_toArray, List.set_cons_zero, List.set_cons_succ]
        refine wpAnyH_takeQ 43 (v := ?_) (fun _ _ _ _ _ h => h) (by simp only [List.getElem?_toArray, List.getElem?_cons_succ, List.getElem?_cons_zero]; rfl) (by kernel_rfl) (by kernel_rfl) (by kernel_rfl) (by rfl) ?_ hHeld ?_; rotate_left; · (intro w hSw; (try dsimp only at hSw); go_simp; (try with_reducible rfl))
        try simp only [Act.put, List.setIfInBounds_toArray, List.set_cons_zero, List.set_cons_succ]
        refine wpAnyH_takeQ 44 (v := ?_) (fun _ _ _ _ _ h => h) (by simp only [List.getElem?_toArray, List.getElem?_cons_succ, List.getElem?_cons_zero]; rfl) (by kernel_rfl) (by kernel_rfl) (by kernel_rfl) (by rfl) ?_ hHeld ?_; rotate_left; · (intro w hSw; (try dsimp only at hSw); go_simp; (try with_reducible rfl))
        try simp only [Act.put, List.setIfInBounds_toArray, List.set_cons_zero, List.set_cons_succ]
        refine wpAnyH_takeQ 45 (v := ?_) (fun _ _ _ _ _ h => h) (by simp only [List.getElem?_toArray, List.getElem?_cons_succ, List.getElem?_cons_zero]; rfl) (by kernel_rfl) (by kernel_rfl) (by kernel_rfl) (by rfl) ?_ hHeld ?_; rotate_left; · (intro w hSw; (try dsimp only at hSw); go_simp; (try with_reducible rfl))
        try simp only [Act.put, List.setIfInBounds_toArray, List.set_cons_zero, List.set_cons_succ]
        refine wpAnyH_takeQ 46 (v := ?_) (fun _ _ _ _ _ h => h) (by simp only [List.getElem?_toArray, List.getElem?_cons_succ, List.getElem?_cons_zero]; rfl) (by kernel_rfl) (by kernel_rfl) (by kernel_rfl) (by rfl) ?_ hHeld ?_; rotate_left; · (intro w hSw; (try dsimp only at hSw); go_simp; (try with_reducible rfl))
        try simp only [Act.put, List.setIfInBounds_toArray, List.set_cons_zero, List.set_cons_succ]
        refine wpAnyH_takeQ 47 (v := ?_) (fun _ _ _ _ _ h => h) (by simp only [List.getElem?_toArray, List.getElem?_cons_succ, List.getElem?_cons_zero]; rfl) (by kernel_rfl) (by kernel_rfl) (by kernel_rfl) (by rfl) ?_ hHeld ?_; rotate_left; · (intro w hSw; (try dsimp only at hSw); go_simp; (try with_reducible rfl))
        try simp only [Act.put, List.setIfInBounds_toArray, List.set_cons_zero, List.set_cons_succ]
        refine wpAnyH_takeQ 49 (v := ?_) (fun _ _ _ _ _ h => h) (by simp only [List.getElem?_toArray, List.getElem?_cons_succ, List.getElem?_cons_zero]; rfl) (by kernel_rfl) (by kernel_rfl) (by kernel_rfl) (by rfl) ?_ hHeld ?_; rotate_left; · (intro w hSw; (try dsimp only at hSw); go_simp; (try with_reducible rfl))
        try simp only [Act.put, List.setIfInBounds_toArray, List.set_cons_zero, List.set_cons_succ]
        refine wpAnyH_ready (rs := [48]) (by kernel_rfl) (by simp) ?_
        refine AllReadyH.cons (by simp only [List.getElem?_toArray, List.getElem?_cons_succ, List.getElem?_cons_zero]; rfl) (fun K hK => ?_) AllReadyH.nil
        go_simp
        clear hHeld
        refine (qtext_str2 (k := 6) (by exact R_a.out) (by omega) (by omega) (by exact HT.out)).mono ?_
        rintro e w20 ⟨t1, rfl, ht1, hb⟩
        replace HT := Lib.hid (HT.out.below hb)
        replace R_a := Lib.hid (R_a.out.below hb)
        replace R_b := Lib.hid (R_b.out.below hb)
        replace R_c := Lib.hid (R_c.out.below hb)
        replace Q_z := Lib.hid (Q_z.out.below hb)
        replace Q_h := Lib.hid (Q_h.out.below hb)
        replace B_a := Lib.hid (B_a.out.below hb)
        replace B_b := Lib.hid (B_b.out.below hb)
        replace B_c := Lib.hid (B_c.out.below hb)
        replace B_z := Lib.hid (B_z.out.below hb)
        replace B_h := Lib.hid (B_h.out.below hb)
        replace hB := below_next hB hb
        clear hb
        have Ht1 := Lib.hid ht1
        clear ht1
        go_wp2_with fail
        refine hK.out _ _ (by exact ⟨B_a.out.c3, B_b.out.c3⟩) (fun hHeld => ?_)
        clear hK K
        try simp only [Act.put, List.setIfInBounds_toArray, List.set_cons_zero, List.set_cons_succ]
        refine wpAnyH_ready (rs := [50]) (by kernel_rfl) (by simp) ?_
        refine AllReadyH.cons (by simp only [List.getElem?_toArray, List.getElem?_cons_succ, List.getElem?_cons_zero]; rfl) (fun K hK => ?_) AllReadyH.nil
        go_simp
        clear hHeld
        refine (qtext_str2 (k := 6) (by exact R_b.out) (by omega) (by omega) (by exact HT.out)).mono ?_
        rintro e w21 ⟨t2, rfl, ht2, hb⟩
        replace HT := Lib.hid (HT.out.below hb)
        replace R_a := Lib.hid (R_a.out.below hb)
        replace R_b := Lib.hid (R_b.out.below hb)
        replace R_c := Lib.hid (R_c.out.below hb)
        replace Q_z := Lib.hid (Q_z.out.below hb)
        replace Q_h := Lib.hid (Q_h.out.below hb)
        replace B_a := Lib.hid (B_a.out.below hb)
        replace B_b := Lib.hid (B_b.out.below hb)
        replace B_c := Lib.hid (B_c.out.below hb)
        replace B_z := Lib.hid (B_z.out.below hb)
        replace B_h := Lib.hid (B_h.out.below hb)
        replace hB := below_next hB hb
        clear hb
        have Ht2 := Lib.hid ht2
        clear ht2
        have tb : (t1.toList == t2.toList) = false := by rw [beq_eq_false_iff_ne, Go.ByteArray.toList_eq, Go.ByteArray.toList_eq, Ht1.out, Ht2.out]; intro e; have h4 := H1.out; rw [qtext_inj e] at h4; exact Rat.lt_irrefl h4
        go_wp2_with fail
        refine hK.out _ _ (by exact ⟨B_a.out.c3, B_b.out.c3⟩) (fun hHeld => ?_)
        clear hK K
        try simp only [Act.put, List.setIfInBounds_toArray, List.set_cons_zero, List.set_cons_succ]
        refine wpAnyH_takeQ 51 (v := ?_) (fun _ _ _ _ _ h => h) (by simp only [List.getElem?_toArray, List.getElem?_cons_succ, List.getElem?_cons_zero]; rfl) (by kernel_rfl) (by kernel_rfl) (by kernel_rfl) (by rfl) ?_ hHeld ?_; rotate_left; · (intro w hSw; (try dsimp only at hSw); go_simp; (try with_reducible rfl))
        try simp only [Act.put, List.setIfInBounds_toArray, List.set_cons_zero, List.set_cons_succ]
        refine wpAnyH_takeQ 52 (v := ?_) (fun _ _ _ _ _ h => h) (by simp only [List.getElem?_toArray, List.getElem?_cons_succ, List.getElem?_cons_zero]; rfl) (by kernel_rfl) (by kernel_rfl) (by kernel_rfl) (by rfl) ?_ hHeld ?_; rotate_left; · (intro w hSw; (try dsimp only at hSw); go_simp; (try with_reducible rfl))
        try simp only [Act.put, List.setIfInBounds_toArray, List.set_cons_zero, List.set_cons_succ]
        refine wpAnyH_takeQ 53 (v := ?_) (fun _ _ _ _ _ h => h) (by simp only [List.getElem?_toArray, List.getElem?_cons_succ, List.getElem?_cons_zero]; rfl) (by kernel_rfl) (by kernel_rfl) (by kernel_rfl) (by rfl) ?_ hHeld ?_; rotate_left; · (intro w hSw; (try dsimp only at hSw); go_simp; (try with_reducible rfl))
        try simp only [Act.put, List.setIfInBounds_toArray, List.set_cons_zero, List.set_cons_succ]
        refine wpAnyH_done (by kernel_rfl) (NoPanic.normal ?_) _
        clear hHeld
        go_wp2_with fail
        go_meet
        exact ⟨rfl, HT.out, R_a.out, R_b.out, R_c.out, Q_z.out, Q_h.out, B_a.out, B_b.out, B_c.out, B_z.out, B_h.out, hB⟩
    · obtain rfl : x = 0 := HX.out.symm.trans e1
      rcases qord_cases q_b q_c with ⟨e2, h2⟩ | ⟨e2, h2⟩ | ⟨e2, h2⟩
      · skip
        obtain rfl : y = -1 := HY.out.symm.trans e2
        have z1 : decide (0 < z) = false := by rw [← HZ.out]; have := qord_le (Rat.le_trans (qle_eq h1) (Rat.le_of_lt h2)); simp; omega
        clear e2
        have H1 := Lib.hid h1
        clear h1 h2 e1
        refine wp_region_named (S := (fun w' => (w'.cell? ⟨w.heap.size, 0, none⟩ = some (.bool b_a) ∧ w'.cell? ⟨w.heap.size, 1, none⟩ = some m_a ∧ w'.cell? ⟨w.heap.size, 2, none⟩ = some d_a) ∧ (w'.cell? ⟨w.heap.size + 1, 0, none⟩ = some (.bool b_b) ∧ w'.cell? ⟨w.heap.size + 1, 1, none⟩ = some m_b ∧ w'.cell? ⟨w.heap.size + 1, 2, none⟩ = some d_b))) (by kernel_rfl) (by exact ⟨B_a.out.c3, B_b.out.c3⟩) (fun V22 hb hHeld => ?_)
        replace HT := Lib.hid (HT.out.below hb)
        replace R_a := Lib.hid (R_a.out.below hb)
        replace R_b := Lib.hid (R_b.out.below hb)
        replace R_c := Lib.hid (R_c.out.below hb)
        replace Q_z := Lib.hid (Q_z.out.below hb)
        replace Q_h := Lib.hid (Q_h.out.below hb)
        replace B_a := Lib.hid (B_a.out.below hb)
        replace B_b := Lib.hid (B_b.out.below hb)
        replace B_c := Lib.hid (B_c.out.below hb)
        replace B_z := Lib.hid (B_z.out.below hb)
        replace B_h := Lib.hid (B_h.out.below hb)
        replace hB := below_next hB hb
        clear hb
        refine wpAnyH_takeQ 0 (v := ?_) (fun _ _ _ _ _ h => h) (by simp only [List.getElem?_toArray, List.getElem?_cons_zero]; rfl) (by kernel_rfl) (by kernel_rfl) (by kernel_rfl) (by rfl) ?_ hHeld ?_; rotate_left; · (intro w hSw; (try dsimp only at hSw); go_simp; (try with_reducible rfl))
        try simp only [Act.put, List.setIfInBounds_toArray, List.set_cons_zero, List.set_cons_succ]
        refine wpAnyH_takeQ 1 (v := ?_) (fun _ _ _ _ _ h => h) (by simp only [List.getElem?_toArray, List.getElem?_cons_succ, List.getElem?_cons_zero]; rfl) (by kernel_rfl) (by kernel_rfl) (by kernel_rfl) (by rfl) ?_ hHeld ?_; rotate_left; · (intro w hSw; (try dsimp only at hSw); go_simp; (try with_reducible rfl))
        try simp only [Act.put, List.setIfInBounds_toArray, List.set_cons_zero, List.set_cons_succ]
        refine wpAnyH_takeQ 2 (v := ?_) (fun _ _ _ _ _ h => h) (by simp only [List.getElem?_toArray, List.getElem?_cons_succ, List.getElem?_cons_zero]; rfl) (by kernel_rfl) (by kernel_rfl) (by kernel_rfl) (by rfl) ?_ hHeld ?_; rotate_left; · (intro w hSw; (try dsimp only at hSw); go_simp; (try with_reducible rfl))
        try simp only [Act.put, List.setIfInBounds_toArray, List.set_cons_zero, List.set_cons_succ]
        refine wpAnyH_takeQ 3 (v := ?_) (fun _ _ _ _ _ h => h) (by simp only [List.getElem?_toArray, List.getElem?_cons_succ, List.getElem?_cons_zero]; rfl) (by kernel_rfl) (by kernel_rfl) (by kernel_rfl) (by rfl) ?_ hHeld ?_; rotate_left; · (intro w hSw; (try dsimp only at hSw); go_simp; (try with_reducible rfl))
        try simp only [Act.put, List.setIfInBounds_toArray, List.set_cons_zero, List.set_cons_succ]
        refine wpAnyH_takeQ 4 (v := ?_) (fun _ _ _ _ _ h => h) (by simp only [List.getElem?_toArray, List.getElem?_cons_succ, List.getElem?_cons_zero]; rfl) (by kernel_rfl) (by kernel_rfl) (by kernel_rfl) (by rfl) ?_ hHeld ?_; rotate_left; · (intro w hSw; (try dsimp only at hSw); go_simp; (try with_reducible rfl))
        try simp only [Act.put, List.setIfInBounds_toArray, List.set_cons_zero, List.set_cons_succ]
        refine wpAnyH_takeQ 5 (v := ?_) (fun _ _ _ _ _ h => h) (by simp only [List.getElem?_toArray, List.getElem?_cons_succ, List.getElem?_cons_zero]; rfl) (by kernel_rfl) (by kernel_rfl) (by kernel_rfl) (by rfl) ?_ hHeld ?_; rotate_left; · (intro w hSw; (try dsimp only at hSw); go_simp; (try with_reducible rfl))
        try simp only [Act.put, List.setIfInBounds_toArray, List.set_cons_zero, List.set_cons_succ]
        refine wpAnyH_takeQ 6 (v := ?_) (fun _ _ _ _ _ h => h) (by simp only [List.getElem?_toArray, List.getElem?_cons_succ, List.getElem?_cons_zero]; rfl) (by kernel_rfl) (by kernel_rfl) (by kernel_rfl) (by rfl) ?_ hHeld ?_; rotate_left; · (intro w hSw; (try dsimp only at hSw); go_simp; (try with_reducible rfl))
        try simp only [Act.put, List.setIfInBounds_toArray, List.set_cons_zero, List.set_cons_succ]
        refine wpAnyH_takeQ 7 (v := ?_) (fun _ _ _ _ _ h => h) (by simp only [List.getElem?_toArray, List.getElem?_cons_succ, List.getElem?_cons_zero]; rfl) (by kernel_rfl) (by kernel_rfl) (by kernel_rfl) (by rfl) ?_ hHeld ?_; rotate_left; · (intro w hSw; (try dsimp only at hSw); go_simp; (try with_reducible rfl))
        try simp only [Act.put, List.setIfInBounds_toArray, List.set_cons_zero, List.set_cons_succ]
        refine wpAnyH_takeQ 8 (v := ?_) (fun _ _ _ _ _ h => h) (by simp only [List.getElem?_toArray, List.getElem?_cons_succ, List.getElem?_cons_zero]; rfl) (by kernel_rfl) (by kernel_rfl) (by kernel_rfl) (by rfl) ?_ hHeld ?_; rotate_left; · (intro w hSw; (try dsimp only at hSw); go_simp; (try with_reducible rfl))
        try simp only [Act.put, List.setIfInBounds_toArray, List.set_cons_zero, List.set_cons_succ]
        refine wpAnyH_takeQ 10 (v := ?_) (fun _ _ _ _ _ h => h) (by simp only [List.getElem?_toArray, List.getElem?_cons_succ, List.getElem?_cons_zero]; rfl) (by kernel_rfl) (by kernel_rfl) (by kernel_rfl) (by rfl) ?_ hHeld ?_; rotate_left; · (intro w hSw; (try dsimp only at hSw); go_simp; (try with_reducible rfl))
        try simp only [Act.put, List.setIfInBounds_toArray, List.set_cons_zero, List.set_cons_succ]
        refine wpAnyH_takeQ 11 (v := ?_) (fun _ _ _ _ _ h => h) (by simp only [List.getElem?_toArray, List.getElem?_cons_succ, List.getElem?_cons_zero]; rfl) (by kernel_rfl) (by kernel_rfl) (by kernel_rfl) (by rfl) ?_ hHeld ?_; rotate_left; · (intro w hSw; (try dsimp only at hSw); go_simp; (try with_reducible rfl))
        try simp only [Act.put, List.setIfInBounds_toArray, List.set_cons_zero, List.set_cons_succ]
        refine wpAnyH_ready (rs := [9]) (by kernel_rfl) (by simp) ?_
        refine AllReadyH.cons (by simp only [List.getElem?_toArray, List.getElem?_cons_succ, List.getElem?_cons_zero]; rfl) (fun K hK => ?_) AllReadyH.nil
        go_simp
        clear hHeld
        refine (qcmp_is (k := 6) (j := 6) (v := 0) (by exact R_b.out) (by exact R_a.out) (by omega) (by omega) (by omega) (by omega) (by have h := H1.out; exact qord_eq h.symm)).mono ?_
        rintro e w23 ⟨rfl, hb⟩
        replace HT := Lib.hid (HT.out.below hb)
        replace R_a := Lib.hid (R_a.out.below hb)
        replace R_b := Lib.hid (R_b.out.below hb)
        replace R_c := Lib.hid (R_c.out.below hb)
        replace Q_z := Lib.hid (Q_z.out.below hb)
        replace Q_h := Lib.hid (Q_h.out.below hb)
        replace B_a := Lib.hid (B_a.out.below hb)
        replace B_b := Lib.hid (B_b.out.below hb)
        replace B_c := Lib.hid (B_c.out.below hb)
        replace B_z := Lib.hid (B_z.out.below hb)
        replace B_h := Lib.hid (B_h.out.below hb)
        replace hB := below_next hB hb
        clear hb
        go_wp2_with fail
        refine hK.out _ _ (by exact ⟨B_a.out.c3, B_b.out.c3⟩) (fun hHeld => ?_)
        clear hK K
        try simp only [Act.put, List.setIfInBounds_toArray, List.set_cons_zero, List.set_cons_succ]
        refine wpAnyH_takeQ 12 (v := ?_) (fun _ _ _ _ _ h => h) (by simp only [List.getElem?_toArray, List.getElem?_cons_succ, List.getElem?_cons_zero]; rfl) (by kernel_rfl) (by kernel_rfl) (by kernel_rfl) (by rfl) ?_ hHeld ?_; rotate_left; · (intro w hSw; (try dsimp only at hSw); go_simp; (try with_reducible rfl))
        try simp only [Act.put, List.setIfInBounds_toArray, List.set_cons_zero, List.set_cons_succ]
        refine wpAnyH_takeQ 13 (v := ?_) (fun _ _ _ _ _ h => h) (by simp only [List.getElem?_toArray, List.getElem?_cons_succ, List.getElem?_cons_zero]; rfl) (by kernel_rfl) (by kernel_rfl) (by kernel_rfl) (by rfl) ?_ hHeld ?_; rotate_left; · (intro w hSw; (try dsimp only at hSw); go_simp; (try with_reducible rfl))
        try simp only [Act.put, List.setIfInBounds_toArray, List.set_cons_zero, List.set_cons_succ]
        refine wpAnyH_takeQ 14 (v := ?_) (fun _ _ _ _ _ h => h) (by simp only [List.getElem?_toArray, List.getElem?_cons_succ, List.getElem?_cons_zero]; rfl) (by kernel_rfl) (by kernel_rfl) (by kernel_rfl) (by rfl) ?_ hHeld ?_; rotate_left; · (intro w hSw; (try dsimp only at hSw); go_simp; (try with_reducible rfl))
        try simp only [Act.put, List.setIfInBounds_toArray, List.set_cons_zero, List.set_cons_succ]
        refine wpAnyH_takeQ 15 (v := ?_) (fun _ _ _ _ _ h => h) (by simp only [List.getElem?_toArray, List.getElem?_cons_succ, List.getElem?_cons_zero]; rfl) (by kernel_rfl) (by kernel_rfl) (by kernel_rfl) (by rfl) ?_ hHeld ?_; rotate_left; · (intro w hSw; (try dsimp only at hSw); go_simp; (try with_reducible rfl))
        try simp only [Act.put, List.setIfInBounds_toArray, List.set_cons_zero, List.set_cons_succ]
        refine wpAnyH_takeQ 16 (v := ?_) (fun _ _ _ _ _ h => h) (by simp only [List.getElem?_toArray, List.getElem?_cons_succ, List.getElem?_cons_zero]; rfl) (by kernel_rfl) (by kernel_rfl) (by kernel_rfl) (by rfl) ?_ hHeld ?_; rotate_left; · (intro w hSw; (try dsimp only at hSw); go_simp; (try with_reducible rfl))
        try simp only [Act.put, List.setIfInBounds_toArray, List.set_cons_zero, List.set_cons_succ]
        refine wpAnyH_ready (rs := [17]) (by kernel_rfl) (by simp) ?_
        refine AllReadyH.cons (by simp only [List.getElem?_toArray, List.getElem?_cons_succ, List.getElem?_cons_zero]; rfl) (fun K hK => ?_) AllReadyH.nil
        go_simp
        clear hHeld
        refine (qcmp_is (k := 6) (j := 6) (v := 0) (by exact R_a.out) (by exact R_a.out) (by omega) (by omega) (by omega) (by omega) (by exact qord_self _)).mono ?_
        rintro e w24 ⟨rfl, hb⟩
        replace HT := Lib.hid (HT.out.below hb)
        replace R_a := Lib.hid (R_a.out.below hb)
        replace R_b := Lib.hid (R_b.out.below hb)
        replace R_c := Lib.hid (R_c.out.below hb)
        replace Q_z := Lib.hid (Q_z.out.below hb)
        replace Q_h := Lib.hid (Q_h.out.below hb)
        replace B_a := Lib.hid (B_a.out.below hb)
        replace B_b := Lib.hid (B_b.out.below hb)
        replace B_c := Lib.hid (B_c.out.below hb)
        replace B_z := Lib.hid (B_z.out.below hb)
        replace B_h := Lib.hid (B_h.out.below hb)
        replace hB := below_next hB hb
        clear hb
        go_wp2_with fail
        refine hK.out _ _ (by exact ⟨B_a.out.c3, B_b.out.c3⟩) (fun hHeld => ?_)
        clear hK K
        try simp only [Act.put, List.setIfInBounds_toArray, List.set_cons_zero, List.set_cons_succ]
        refine wpAnyH_takeQ 18 (v := ?_) (fun _ _ _ _ _ h => h) (by simp only [List.getElem?_toArray, List.getElem?_cons_succ, List.getElem?_cons_zero]; rfl) (by kernel_rfl) (by kernel_rfl) (by kernel_rfl) (by rfl) ?_ hHeld ?_; rotate_left; · (intro w hSw; (try dsimp only at hSw); go_simp; (try with_reducible rfl))
        try simp only [Act.put, List.setIfInBounds_toArray, List.set_cons_zero, List.set_cons_succ]
        refine wpAnyH_takeQ 19 (v := ?_) (fun _ _ _ _ _ h => h) (by simp only [List.getElem?_toArray, List.getElem?_cons_succ, List.getElem?_cons_zero]; rfl) (by kernel_rfl) (by kernel_rfl) (by kernel_rfl) (by rfl) ?_ hHeld ?_; rotate_left; · (intro w hSw; (try dsimp only at hSw); go_simp; (try with_reducible rfl))
        try simp only [Act.put, List.setIfInBounds_toArray, List.set_cons_zero, List.set_cons_succ]
        refine wpAnyH_takeQ 20 (v := ?_) (fun _ _ _ _ _ h => h) (by simp only [List.getElem?_toArray, List.getElem?_cons_succ, List.getElem?_cons_zero]; rfl) (by kernel_rfl) (by kernel_rfl) (by kernel_rfl) (by rfl) ?_ hHeld ?_; rotate_left; · (intro w hSw; (try dsimp only at hSw); go_simp; (try with_reducible rfl))
        try simp only [Act.put, List.setIfInBounds_toArray, List.set_cons_zero, List.set_cons_succ]
        refine wpAnyH_takeQ 21 (v := ?_) (fun _ _ _ _ _ h => h) (by simp only [List.getElem?_toArray, List.getElem?_cons_succ, List.getElem?_cons_zero]; rfl) (by kernel_rfl) (by kernel_rfl) (by kernel_rfl) (by rfl) ?_ hHeld ?_; rotate_left; · (intro w hSw; (try dsimp only at hSw); go_simp; (try with_reducible rfl))
        try simp only [Act.put, List.setIfInBounds_toArray, List.set_cons_zero, List.set_cons_succ]
        refine wpAnyH_takeQ 22 (v := ?_) (fun _ _ _ _ _ h => h) (by simp only [List.getElem?_toArray, List.getElem?_cons_succ, List.getElem?_cons_zero]; rfl) (by kernel_rfl) (by kernel_rfl) (by kernel_rfl) (by rfl) ?_ hHeld ?_; rotate_left; · (intro w hSw; (try dsimp only at hSw); go_simp; (try with_reducible rfl))
        try simp only [Act.put, List.setIfInBounds_toArray, List.set_cons_zero, List.set_cons_succ]
        refine wpAnyH_takeQ 23 (v := ?_) (fun _ _ _ _ _ h => h) (by simp only [List.getElem?_toArray, List.getElem?_cons_succ, List.getElem?_cons_zero]; rfl) (by kernel_rfl) (by kernel_rfl) (by kernel_rfl) (by rfl) ?_ hHeld ?_; rotate_left; · (intro w hSw; (try dsimp only at hSw); go_simp; (try with_reducible rfl))
        try simp only [Act.put, List.setIfInBounds_toArray, List.set_cons_zero, List.set_cons_succ]
        refine wpAnyH_takeQ 24 (v := ?_) (fun _ _ _ _ _ h => h) (by simp only [List.getElem?_toArray, List.getElem?_cons_succ, List.getElem?_cons_zero]; rfl) (by kernel_rfl) (by kernel_rfl) (by kernel_rfl) (by rfl) ?_ hHeld ?_; rotate_left; · (intro w hSw; (try dsimp only at hSw); go_simp; (try with_reducible rfl))
        try simp only [Act.put, List.setIfInBounds_toArray, List.set_cons_zero, List.set_cons_succ]
        refine wpAnyH_takeQ 25 (v := ?_) (fun _ _ _ _ _ h => h) (by simp only [List.getElem?_toArray, List.getElem?_cons_succ, List.getElem?_cons_zero]; rfl) (by kernel_rfl) (by kernel_rfl) (by kernel_rfl) (by rfl) ?_ hHeld ?_; rotate_left; · (intro w hSw; (try dsimp only at hSw); go_simp; (try with_reducible rfl))
        try simp only [Act.put, List.setIfInBounds_toArray, List.set_cons_zero, List.set_cons_succ]
        refine wpAnyH_takeQ 26 (v := ?_) (fun _ _ _ _ _ h => h) (by simp only [List.getElem?_toArray, List.getElem?_cons_succ, List.getElem?_cons_zero]; rfl) (by kernel_rfl) (by kernel_rfl) (by kernel_rfl) (by rfl) ?_ hHeld ?_; rotate_left; · (intro w hSw; (try dsimp only at hSw); go_simp; (try with_reducible rfl))
        try simp only [Act.put, List.setIfInBounds_toArray, List.set_cons_zero, List.set_cons_succ]
        refine wpAnyH_takeQ 27 (v := ?_) (fun _ _ _ _ _ h => h) (by simp only [List.getElem?_toArray, List.getElem?_cons_succ, List.getElem?_cons_zero]; rfl) (by kernel_rfl) (by kernel_rfl) (by kernel_rfl) (by rfl) ?_ hHeld ?_; rotate_left; · (intro w hSw; (try dsimp only at hSw); go_simp; (try with_reducible rfl))
        try simp only [Act.put, List.setIfInBounds_toArray, List.set_cons_zero, List.set_cons_succ]
        refine wpAnyH_takeQ 28 (v := ?_) (fun _ _ _ _ _ h => h) (by simp only [List.getElem?_toArray, List.getElem?_cons_succ, List.getElem?_cons_zero]; rfl) (by kernel_rfl) (by kernel_rfl) (by kernel_rfl) (by rfl) ?_ hHeld ?_; rotate_left; · (intro w hSw; (try dsimp only at hSw); go_simp; (try with_reducible rfl))
        try simp only [Act.put, List.setIfInBounds_toArray, List.set_cons_zero, List.set_cons_succ]
        refine wpAnyH_takeQ 29 (v := ?_) (fun _ _ _ _ _ h => h) (by simp only [List.getElem?_toArray, List.getElem?_cons_succ, List.getElem?_cons_zero]; rfl) (by kernel_rfl) (by kernel_rfl) (by kernel_rfl) (by rfl) ?_ hHeld ?_; rotate_left; · (intro w hSw; (try dsimp only at hSw); go_simp; (try with_reducible rfl))
        try simp only [Act.put, List.setIfInBounds_toArray, List.set_cons_zero, List.set_cons_succ]
        refine wpAnyH_takeQ 30 (v := ?_) (fun _ _ _ _ _ h => h) (by simp only [List.getElem?_toArray, List.getElem?_cons_succ, List.getElem?_cons_zero]; rfl) (by kernel_rfl) (by kernel_rfl) (by kernel_rfl) (by rfl) ?_ hHeld ?_; rotate_left; · (intro w hSw; (try dsimp only at hSw); go_simp; (try with_reducible rfl))
        try simp only [Act.put, List.setIfInBounds_toArray, List.set_cons_zero, List.set_cons_succ]
        refine wpAnyH_takeQ 31 (v := ?_) (fun _ _ _ _ _ h => h) (by simp only [List.getElem?_toArray, List.getElem?_cons_succ, List.getElem?_cons_zero]; rfl) (by kernel_rfl) (by kernel_rfl) (by kernel_rfl) (by rfl) ?_ hHeld ?_; rotate_left; · (intro w hSw; (try dsimp only at hSw); go_simp; (try with_reducible rfl))
        try simp only [Act.put, List.setIfInBounds_toArray, List.set_cons_zero, List.set_cons_succ]
        refine wpAnyH_takeQ 32 (v := ?_) (fun _ _ _ _ _ h => h) (by simp only [List.getElem?_toArray, List.getElem?_cons_succ, List.getElem?_cons_zero]; rfl) (by kernel_rfl) (by kernel_rfl) (by kernel_rfl) (by rfl) ?_ hHeld ?_; rotate_left; · (intro w hSw; (try dsimp only at hSw); go_simp; (try with_reducible rfl))
        try simp only [Act.put, List.setIfInBounds_toArray, List.set_cons_zero, List.set_cons_succ]
        refine wpAnyH_takeQ 33 (v := ?_) (fun _ _ _ _ _ h => h) (by simp only [List.getElem?_toArray, List.getElem?_cons_succ, List.getElem?_cons_zero]; rfl) (by kernel_rfl) (by kernel_rfl) (by kernel_rfl) (by rfl) ?_ hHeld ?_; rotate_left; · (intro w hSw; (try dsimp only at hSw); go_simp; (try with_reducible rfl))
        try simp only [Act.put, List.setIfInBounds_toArray, List.set_cons_zero, List.set_cons_succ]
        refine wpAnyH_takeQ 34 (v := ?_) (fun _ _ _ _ _ h => h) (by simp only [List.getElem?_toArray, List.getElem?_cons_succ, List.getElem?_cons_zero]; rfl) (by kernel_rfl) (by kernel_rfl) (by kernel_rfl) (by rfl) ?_ hHeld ?_; rotate_left; · (intro w hSw; (try dsimp only at hSw); go_simp; (try with_reducible rfl))
        try simp only [Act.put, List.setIfInBounds_toArray, List.set_cons_zero, List.set_cons_succ]
        refine wpAnyH_takeQ 35 (v := ?_) (fun _ _ _ _ _ h => h) (by simp only [List.getElem?_toArray, List.getElem?_cons_succ, List.getElem?_cons_zero]; rfl) (by kernel_rfl) (by kernel_rfl) (by kernel_rfl) (by rfl) ?_ hHeld ?_; rotate_left; · (intro w hSw; (try dsimp only at hSw); go_simp; (try with_reducible rfl))
        try simp only [Act.put, List.setIfInBounds_toArray, List.set_cons_zero, List.set_cons_succ]
        refine wpAnyH_takeQ 36 (v := ?_) (fun _ _ _ _ _ h => h) (by simp only [List.getElem?_toArray, List.getElem?_cons_succ, List.getElem?_cons_zero]; rfl) (by kernel_rfl) (by kernel_rfl) (by kernel_rfl) (by rfl) ?_ hHeld ?_; rotate_left; · (intro w hSw; (try dsimp only at hSw); go_simp; (try with_reducible rfl))
        try simp only [Act.put, List.setIfInBounds_toArray, List.set_cons_zero, List.set_cons_succ]
        refine wpAnyH_takeQ 37 (v := ?_) (fun _ _ _ _ _ h => h) (by simp only [List.getElem?_toArray, List.getElem?_cons_succ, List.getElem?_cons_zero]; rfl) (by kernel_rfl) (by kernel_rfl) (by kernel_rfl) (by rfl) ?_ hHeld ?_; rotate_left; · (intro w hSw; (try dsimp only at hSw); go_simp; (try with_reducible rfl))
        try simp only [Act.put, List.setIfInBounds_toArray, List.set_cons_zero, List.set_cons_succ]
        refine wpAnyH_takeQ 38 (v := ?_) (fun _ _ _ _ _ h => h) (by simp only [List.getElem?_toArray, List.getElem?_cons_succ, List.getElem?_cons_zero]; rfl) (by kernel_rfl) (by kernel_rfl) (by kernel_rfl) (by rfl) ?_ hHeld ?_; rotate_left; · (intro w hSw; (try dsimp only at hSw); go_simp; (try with_reducible rfl))
        try simp only [Act.put, List.setIfInBounds_toArray, List.set_cons_zero, List.set_cons_succ]
        refine wpAnyH_takeQ 39 (v := ?_) (fun _ _ _ _ _ h => h) (by simp only [List.getElem?_toArray, List.getElem?_cons_succ, List.getElem?_cons_zero]; rfl) (by kernel_rfl) (by kernel_rfl) (by kernel_rfl) (by rfl) ?_ hHeld ?_; rotate_left; · (intro w hSw; (try dsimp only at hSw); go_simp; (try with_reducible rfl))
        try simp only [Act.put, List.setIfInBounds_toArray, List.set_cons_zero, List.set_cons_succ]
        refine wpAnyH_skipQ 40 (fun _ _ _ _ _ h => h) (by simp only [List.getElem?_toArray, List.getElem?_cons_succ, List.getElem?_cons_zero]; rfl) (by kernel_rfl) (by kernel_rfl) (by kernel_rfl) (by rfl) hHeld ?_
        try simp only [Act.put, List.setIfInBounds_toArray, List.set_cons_zero, List.set_cons_succ]
        refine wpAnyH_skipQ 41 (fun _ _ _ _ _ h => h) (by simp only [List.getElem?_toArray, List.getElem?_cons_succ, List.getElem?_cons_zero]; rfl) (by kernel_rfl) (by kernel_rfl) (by kernel_rfl) (by rfl) hHeld ?_
        try simp only [Act.put, List.setIfInBounds_toArray, List.set_cons_zero, List.set_cons_succ]
        refine wpAnyH_takeQ 42 (v := ?_) (fun _ _ _ _ _ h => h) (by simp only [List.getElem?_toArray, List.getElem?_cons_succ, List.getElem?_cons_zero]; rfl) (by kernel_rfl) (by kernel_rfl) (by kernel_rfl) (by rfl) ?_ hHeld ?_; rotate_left; · (intro w hSw; (try dsimp only at hSw); go_simp; (try with_reducible rfl))
        try simp only [Act.put, List.setIfInBounds_toArray, List.set_cons_zero, List.set_cons_succ]
        refine wpAnyH_takeQ 43 (v := ?_) (fun _ _ _ _ _ h => h) (by simp only [List.getElem?_toArray, List.getElem?_cons_succ, List.getElem?_cons_zero]; rfl) (by kernel_rfl) (by kernel_rfl) (by kernel_rfl) (by rfl) ?_ hHeld ?_; rotate_left; · (intro w hSw; (try dsimp only at hSw); go_simp; (try with_reducible rfl))
        try simp only [Act.put, List.setIfInBounds_toArray, List.set_cons_zero, List.set_cons_succ]
        refine wpAnyH_takeQ 44 (v := ?_) (fun _ _ _ _ _ h => h) (by simp only [List.getElem?_toArray, List.getElem?_cons_succ, List.getElem?_cons_zero]; rfl) (by kernel_rfl) (by kernel_rfl) (by kernel_rfl) (by rfl) ?_ hHeld ?_; rotate_left; · (intro w hSw; (try dsimp only at hSw); go_simp; (try with_reducible rfl))
        try simp only [Act.put, List.setIfInBounds_toArray, List.set_cons_zero, List.set_cons_succ]
        refine wpAnyH_takeQ 45 (v := ?_) (fun _ _ _ _ _ h => h) (by simp only [List.getElem?_toArray, List.getElem?_cons_succ, List.getElem?_cons_zero]; rfl) (by kernel_rfl) (by kernel_rfl) (by kernel_rfl) (by rfl) ?_ hHeld ?_; rotate_left; · (intro w hSw; (try dsimp only at hSw); go_simp; (try with_reducible rfl))
        try simp only [Act.put, List.setIfInBounds_toArray, List.set_cons_zero, List.set_cons_succ]
        refine wpAnyH_takeQ 46 (v := ?_) (fun _ _ _ _ _ h => h) (by simp only [List.getElem?_toArray, List.getElem?_cons_succ, List.getElem?_cons_zero]; rfl) (by kernel_rfl) (by kernel_rfl) (by kernel_rfl) (by rfl) ?_ hHeld ?_; rotate_left; · (intro w hSw; (try dsimp only at hSw); go_simp; (try with_reducible rfl))
        try simp only [Act.put, List.setIfInBounds_toArray, List.set_cons_zero, List.set_cons_succ]
        refine wpAnyH_takeQ 47 (v := ?_) (fun _ _ _ _ _ h => h) (by simp only [List.getElem?_toArray, List.getElem?_cons_succ, List.getElem?_cons_zero]; rfl) (by kernel_rfl) (by kernel_rfl) (by kernel_rfl) (by rfl) ?_ hHeld ?_; rotate_left; · (intro w hSw; (try dsimp only at hSw); go_simp; (try with_reducible rfl))
        try simp only [Act.put, List.setIfInBounds_toArray, List.set_cons_zero, List.set_cons_succ]
        refine wpAnyH_takeQ 49 (v := ?_) (fun _ _ _ _ _ h => h) (by simp only [List.getElem?_toArray, List.getElem?_cons_succ, List.getElem?_cons_zero]; rfl) (by kernel_rfl) (by kernel_rfl) (by kernel_rfl) (by rfl) ?_ hHeld ?_; rotate_left; · (intro w hSw; (try dsimp only at hSw); go_simp; (try with_reducible rfl))
        try simp only [Act.put, List.setIfInBounds_toArray, List.set_cons_zero, List.set_cons_succ]
        refine wpAnyH_ready (rs := [48]) (by kernel_rfl) (by simp) ?_
        refine AllReadyH.cons (by simp only [List.getElem?_toArray, List.getElem?_cons_succ, List.getElem?_cons_zero]; rfl) (fun K hK => ?_) AllReadyH.nil
        go_simp
        clear hHeld
        refine (qtext_str2 (k := 6) (by exact R_a.out) (by omega) (by omega) (by exact HT.out)).mono ?_
        rintro e w25 ⟨t1, rfl, ht1, hb⟩
        replace HT := Lib.hid (HT.out.below hb)
        replace R_a := Lib.hid (R_a.out.below hb)
        replace R_b := Lib.hid (R_b.out.below hb)
        replace R_c := Lib.hid (R_c.out.below hb)
        replace Q_z := Lib.hid (Q_z.out.below hb)
        replace Q_h := Lib.hid (Q_h.out.below hb)
        replace B_a := Lib.hid (B_a.out.below hb)
        replace B_b := Lib.hid (B_b.out.below hb)
        replace B_c := Lib.hid (B_c.out.below hb)
        replace B_z := Lib.hid (B_z.out.below hb)
        replace B_h := Lib.hid (B_h.out.below hb)
        replace hB := below_next hB hb
        clear hb
        have Ht1 := Lib.hid ht1
        clear ht1
        go_wp2_with fail
        refine hK.out _ _ (by exact ⟨B_a.out.c3, B_b.out.c3⟩) (fun hHeld => ?_)
        clear hK K
        try simp only [Act.put, List.setIfInBounds_toArray, List.set_cons_zero, List.set_cons_succ]
        refine wpAnyH_ready (rs := [50]) (by kernel_rfl) (by simp) ?_
        refine AllReadyH.cons (by simp only [List.getElem?_toArray, List.getElem?_cons_succ, List.getElem?_cons_zero]; rfl) (fun K hK => ?_) AllReadyH.nil
        go_simp
        clear hHeld
        refine (qtext_str2 (k := 6) (by exact R_b.out) (by omega) (by omega) (by exact HT.out)).mono ?_
        rintro e w26 ⟨t2, rfl, ht2, hb⟩
        replace HT := Lib.hid (HT.out.below hb)
        replace R_a := Lib.hid (R_a.out.below hb)
        replace R_b := Lib.hid (R_b.out.below hb)
        replace R_c := Lib.hid (R_c.out.below hb)
        replace Q_z := Lib.hid (Q_z.out.below hb)
        replace Q_h := Lib.hid (Q_h.out.below hb)
        replace B_a := Lib.hid (B_a.out.below hb)
        replace B_b := Lib.hid (B_b.out.below hb)
        replace B_c := Lib.hid (B_c.out.below hb)
        replace B_z := Lib.hid (B_z.out.below hb)
        replace B_h := Lib.hid (B_h.out.below hb)
        replace hB := below_next hB hb
        clear hb
        have Ht2 := Lib.hid ht2
        clear ht2
        obtain rfl : t1 = t2 := bytes_ext (by rw [Ht1.out, Ht2.out, H1.out])
        clear Ht2
        go_wp2_with fail
        refine hK.out _ _ (by exact ⟨B_a.out.c3, B_b.out.c3⟩) (fun hHeld => ?_)
        clear hK K
        try simp only [Act.put, List.setIfInBounds_toArray, List.set_cons_zero, List.set_cons_succ]
        refine wpAnyH_takeQ 51 (v := ?_) (fun _ _ _ _ _ h => h) (by simp only [List.getElem?_toArray, List.getElem?_cons_succ, List.getElem?_cons_zero]; rfl) (by kernel_rfl) (by kernel_rfl) (by kernel_rfl) (by rfl) ?_ hHeld ?_; rotate_left; · (intro w hSw; (try dsimp only at hSw); go_simp; (try with_reducible rfl))
        try simp only [Act.put, List.setIfInBounds_toArray, List.set_cons_zero, List.set_cons_succ]
        refine wpAnyH_takeQ 52 (v := ?_) (fun _ _ _ _ _ h => h) (by simp only [List.getElem?_toArray, List.getElem?_cons_succ, List.getElem?_cons_zero]; rfl) (by kernel_rfl) (by kernel_rfl) (by kernel_rfl) (by rfl) ?_ hHeld ?_; rotate_left; · (intro w hSw; (try dsimp only at hSw); go_simp; (try with_reducible rfl))
        try simp only [Act.put, List.setIfInBounds_toArray, List.set_cons_zero, List.set_cons_succ]
        refine wpAnyH_takeQ 53 (v := ?_) (fun _ _ _ _ _ h => h) (by simp only [List.getElem?_toArray, List.getElem?_cons_succ, List.getElem?_cons_zero]; rfl) (by kernel_rfl) (by kernel_rfl) (by kernel_rfl) (by rfl) ?_ hHeld ?_; rotate_left; · (intro w hSw; (try dsimp only at hSw); go_simp; (try with_reducible rfl))
        try simp only [Act.put, List.setIfInBounds_toArray, List.set_cons_zero, List.set_cons_succ]
        refine wpAnyH_done (by kernel_rfl) (NoPanic.normal ?_) _
        clear hHeld
        go_wp2_with fail
        go_meet
        exact ⟨rfl, HT.out, R_a.out, R_b.out, R_c.out, Q_z.out, Q_h.out, B_a.out, B_b.out, B_c.out, B_z.out, B_h.out, hB⟩
      · skip
        obtain rfl : y = 0 := HY.out.symm.trans e2
        have z1 : decide (0 < z) = false := by rw [← HZ.out]; have := qord_le (Rat.le_trans (qle_eq h1) (qle_eq h2)); simp; omega
        have z2 : decide (z < 0) = false := by rw [← HZ.out]; have := qord_ge (Rat.le_trans (qle_eq h2.symm) (qle_eq h1.symm)); simp; omega
        clear e2
        have H1 := Lib.hid h1
        clear h1 h2 e1
        refine wp_region_named (S := (fun w' => (w'.cell? ⟨w.heap.size, 0, none⟩ = some (.bool b_a) ∧ w'.cell? ⟨w.heap.size, 1, none⟩ = some m_a ∧ w'.cell? ⟨w.heap.size, 2, none⟩ = some d_a) ∧ (w'.cell? ⟨w.heap.size + 1, 0, none⟩ = some (.bool b_b) ∧ w'.cell? ⟨w.heap.size + 1, 1, none⟩ = some m_b ∧ w'.cell? ⟨w.heap.size + 1, 2, none⟩ = some d_b))) (by kernel_rfl) (by exact ⟨B_a.out.c3, B_b.out.c3⟩) (fun V27 hb hHeld => ?_)
        replace HT := Lib.hid (HT.out.below hb)
        replace R_a := Lib.hid (R_a.out.below hb)
        replace R_b := Lib.hid (R_b.out.below hb)
        replace R_c := Lib.hid (R_c.out.below hb)
        replace Q_z := Lib.hid (Q_z.out.below hb)
        replace Q_h := Lib.hid (Q_h.out.below hb)
        replace B_a := Lib.hid (B_a.out.below hb)
        replace B_b := Lib.hid (B_b.out.below hb)
        replace B_c := Lib.hid (B_c.out.below hb)
        replace B_z := Lib.hid (B_z.out.below hb)
        replace B_h := Lib.hid (B_h.out.below hb)
        replace hB := below_next hB hb
        clear hb
        refine wpAnyH_takeQ 0 (v := ?_) (fun _ _ _ _ _ h => h) (by simp only [List.getElem?_toArray, List.getElem?_cons_zero]; rfl) (by kernel_rfl) (by kernel_rfl) (by kernel_rfl) (by rfl) ?_ hHeld ?_; rotate_left; · (intro w hSw; (try dsimp only at hSw); go_simp; (try with_reducible rfl))
        try simp only [Act.put, List.setIfInBounds_toArray, List.set_cons_zero, List.set_cons_succ]
        refine wpAnyH_takeQ 1 (v := ?_) (fun _ _ _ _ _ h => h) (by simp only [List.getElem?_toArray, List.getElem?_cons_succ, List.getElem?_cons_zero]; rfl) (by kernel_rfl) (by kernel_rfl) (by kernel_rfl) (by rfl) ?_ hHeld ?_; rotate_left; · (intro w hSw; (try dsimp only at hSw); go_simp; (try with_reducible rfl))
        try simp only [Act.put, List.setIfInBounds_toArray, List.set_cons_zero, List.set_cons_succ]
        refine wpAnyH_takeQ 2 (v := ?_) (fun _ _ _ _ _ h => h) (by simp only [List.getElem?_toArray, List.getElem?_cons_succ, List.getElem?_cons_zero]; rfl) (by kernel_rfl) (by kernel_rfl) (by kernel_rfl) (by rfl) ?_ hHeld ?_; rotate_left; · (intro w hSw; (try dsimp only at hSw); go_simp; (try with_reducible rfl))
        try simp only [Act.put, List.setIfInBounds_toArray, List.set_cons_zero, List.set_cons_succ]
        refine wpAnyH_takeQ 3 (v := ?_) (fun _ _ _ _ _ h => h) (by simp only [List.getElem?_toArray, List.getElem?_cons_succ, List.getElem?_cons_zero]; rfl) (by kernel_rfl) (by kernel_rfl) (by kernel_rfl) (by rfl) ?_ hHeld ?_; rotate_left; · (intro w hSw; (try dsimp only at hSw); go_simp; (try with_reducible rfl))
        try simp only [Act.put, List.setIfInBounds_toArray, List.set_cons_zero, List.set_cons_succ]
        refine wpAnyH_takeQ 4 (v := ?_) (fun _ _ _ _ _ h => h) (by simp only [List.getElem?_toArray, List.getElem?_cons_succ, List.getElem?_cons_zero]; rfl) (by kernel_rfl) (by kernel_rfl) (by kernel_rfl) (by rfl) ?_ hHeld ?_; rotate_left; · (intro w hSw; (try dsimp only at hSw); go_simp; (try with_reducible rfl))
        try simp only [Act.put, List.setIfInBounds_toArray, List.set_cons_zero, List.set_cons_succ]
        refine wpAnyH_takeQ 5 (v := ?_) (fun _ _ _ _ _ h => h) (by simp only [List.getElem?_toArray, List.getElem?_cons_succ, List.getElem?_cons_zero]; rfl) (by kernel_rfl) (by kernel_rfl) (by kernel_rfl) (by rfl) ?_ hHeld ?_; rotate_left; · (intro w hSw; (try dsimp only at hSw); go_simp; (try with_reducible rfl))
        try simp only [Act.put, List.setIfInBounds_toArray, List.set_cons_zero, List.set_cons_succ]
        refine wpAnyH_takeQ 6 (v := ?_) (fun _ _ _ _ _ h => h) (by simp only [List.getElem?_toArray, List.getElem?_cons_succ, List.getElem?_cons_zero]; rfl) (by kernel_rfl) (by kernel_rfl) (by kernel_rfl) (by rfl) ?_ hHeld ?_; rotate_left; · (intro w hSw; (try dsimp only at hSw); go_simp; (try with_reducible rfl))
        try simp only [Act.put, List.setIfInBounds_toArray, List.set_cons_zero, List.set_cons_succ]
        refine wpAnyH_takeQ 7 (v := ?_) (fun _ _ _ _ _ h => h) (by simp only [List.getElem?_toArray, List.getElem?_cons_succ, List.getElem?_cons_zero]; rfl) (by kernel_rfl) (by kernel_rfl) (by kernel_rfl) (by rfl) ?_ hHeld ?_; rotate_left; · (intro w hSw; (try dsimp only at hSw); go_simp; (try with_reducible rfl))
        try simp only [Act.put, List.setIfInBounds_toArray, List.set_cons_zero, List.set_cons_succ]
        refine wpAnyH_takeQ 8 (v := ?_) (fun _ _ _ _ _ h => h) (by simp only [List.getElem?_toArray, List.getElem?_cons_succ, List.getElem?_cons_zero]; rfl) (by kernel_rfl) (by kernel_rfl) (by kernel_rfl) (by rfl) ?_ hHeld ?_; rotate_left; · (intro w hSw; (try dsimp only at hSw); go_simp; (try with_reducible rfl))
        try simp only [Act.put, List.setIfInBounds_toArray, List.set_cons_zero, List.set_cons_succ]
        refine wpAnyH_takeQ 10 (v := ?_) (fun _ _ _ _ _ h => h) (by simp only [List.getElem?_toArray, List.getElem?_cons_succ, List.getElem?_cons_zero]; rfl) (by kernel_rfl) (by kernel_rfl) (by kernel_rfl) (by rfl) ?_ hHeld ?_; rotate_left; · (intro w hSw; (try dsimp only at hSw); go_simp; (try with_reducible rfl))
        try simp only [Act.put, List.setIfInBounds_toArray, List.set_cons_zero, List.set_cons_succ]
        refine wpAnyH_takeQ 11 (v := ?_) (fun _ _ _ _ _ h => h) (by simp only [List.getElem?_toArray, List.getElem?_cons_succ, List.getElem?_cons_zero]; rfl) (by kernel_rfl) (by kernel_rfl) (by kernel_rfl) (by rfl) ?_ hHeld ?_; rotate_left; · (intro w hSw; (try dsimp only at hSw); go_simp; (try with_reducible rfl))
        try simp only [Act.put, List.setIfInBounds_toArray, List.set_cons_zero, List.set_cons_succ]
        refine wpAnyH_ready (rs := [9]) (by kernel_rfl) (by simp) ?_
        refine AllReadyH.cons (by simp only [List.getElem?_toArray, List.getElem?_cons_succ, List.getElem?_cons_zero]; rfl) (fun K hK => ?_) AllReadyH.nil
        go_simp
        clear hHeld
        refine (qcmp_is (k := 6) (j := 6) (v := 0) (by exact R_b.out) (by exact R_a.out) (by omega) (by omega) (by omega) (by omega) (by have h := H1.out; exact qord_eq h.symm)).mono ?_
        rintro e w28 ⟨rfl, hb⟩
        replace HT := Lib.hid (HT.out.below hb)
        replace R_a := Lib.hid (R_a.out.below hb)
        replace R_b := Lib.hid (R_b.out.below hb)
        replace R_c := Lib.hid (R_c.out.below hb)
        replace Q_z := Lib.hid (Q_z.out.below hb)
        replace Q_h := Lib.hid (Q_h.out.below hb)
        replace B_a := Lib.hid (B_a.out.below hb)
        replace B_b := Lib.hid (B_b.out.below hb)
        replace B_c := Lib.hid (B_c.out.below hb)
        replace B_z := Lib.hid (B_z.out.below hb)
        replace B_h := Lib.hid (B_h.out.below hb)
        replace hB := below_next hB hb
        clear hb
        go_wp2_with fail
        refine hK.out _ _ (by exact ⟨B_a.out.c3, B_b.out.c3⟩) (fun hHeld => ?_)
        clear hK K
        try simp only [Act.put, List.setIfInBounds_toArray, List.set_cons_zero, List.set_cons_succ]
        refine wpAnyH_takeQ 12 (v := ?_) (fun _ _ _ _ _ h => h) (by simp only [List.getElem?_toArray, List.getElem?_cons_succ, List.getElem?_cons_zero]; rfl) (by kernel_rfl) (by kernel_rfl) (by kernel_rfl) (by rfl) ?_ hHeld ?_; rotate_left; · (intro w hSw; (try dsimp only at hSw); go_simp; (try with_reducible rfl))
        try simp only [Act.put, List.setIfInBounds_toArray, List.set_cons_zero, List.set_cons_succ]
        refine wpAnyH_takeQ 13 (v := ?_) (fun _ _ _ _ _ h => h) (by simp only [List.getElem?_toArray, List.getElem?_cons_succ, List.getElem?_cons_zero]; rfl) (by kernel_rfl) (by kernel_rfl) (by kernel_rfl) (by rfl) ?_ hHeld ?_; rotate_left; · (intro w hSw; (try dsimp only at hSw); go_simp; (try with_reducible rfl))
        try simp only [Act.put, List.setIfInBounds_toArray, List.set_cons_zero, List.set_cons_succ]
        refine wpAnyH_takeQ 14 (v := ?_) (fun _ _ _ _ _ h => h) (by simp only [List.getElem?_toArray, List.getElem?_cons_succ, List.getElem?_cons_zero]; rfl) (by kernel_rfl) (by kernel_rfl) (by kernel_rfl) (by rfl) ?_ hHeld ?_; rotate_left; · (intro w hSw; (try dsimp only at hSw); go_simp; (try with_reducible rfl))
        try simp only [Act.put, List.setIfInBounds_toArray, List.set_cons_zero, List.set_cons_succ]
        refine wpAnyH_takeQ 15 (v := ?_) (fun _ _ _ _ _ h => h) (by simp only [List.getElem?_toArray, List.getElem?_cons_succ, List.getElem?_cons_zero]; rfl) (by kernel_rfl) (by kernel_rfl) (by kernel_rfl) (by rfl) ?_ hHeld ?_; rotate_left; · (intro w hSw; (try dsimp only at hSw); go_simp; (try with_reducible rfl))
        try simp only [Act.put, List.setIfInBounds_toArray, List.set_cons_zero, List.set_cons_succ]
        refine wpAnyH_takeQ 16 (v := ?_) (fun _ _ _ _ _ h => h) (by simp only [List.getElem?_toArray, List.getElem?_cons_succ, List.getElem?_cons_zero]; rfl) (by kernel_rfl) (by kernel_rfl) (by kernel_rfl) (by rfl) ?_ hHeld ?_; rotate_left; · (intro w hSw; (try dsimp only at hSw); go_simp; (try with_reducible rfl))
        try simp only [Act.put, List.setIfInBounds_toArray, List.set_cons_zero, List.set_cons_succ]
        refine wpAnyH_ready (rs := [17]) (by kernel_rfl) (by simp) ?_
        refine AllReadyH.cons (by simp only [List.getElem?_toArray, List.getElem?_cons_succ, List.getElem?_cons_zero]; rfl) (fun K hK => ?_) AllReadyH.nil
        go_simp
        clear hHeld
        refine (qcmp_is (k := 6) (j := 6) (v := 0) (by exact R_a.out) (by exact R_a.out) (by omega) (by omega) (by omega) (by omega) (by exact qord_self _)).mono ?_
        rintro e w29 ⟨rfl, hb⟩
        replace HT := Lib.hid (HT.out.below hb)
        replace R_a := Lib.hid (R_a.out.below hb)
        replace R_b := Lib.hid (R_b.out.below hb)
        replace R_c := Lib.hid (R_c.out.below hb)
        replace Q_z := Lib.hid (Q_z.out.below hb)
        replace Q_h := Lib.hid (Q_h.out.below hb)
        replace B_a := Lib.hid (B_a.out.below hb)
        replace B_b := Lib.hid (B_b.out.below hb)
        replace B_c := Lib.hid (B_c.out.below hb)
        replace B_z := Lib.hid (B_z.out.below hb)
        replace B_h := Lib.hid (B_h.out.below hb)
        replace hB := below_next hB hb
        clear hb
        go_wp2_with fail
        refine hK.out _ _ (by exact ⟨B_a.out.c3, B_b.out.c3⟩) (fun hHeld => ?_)
        clear hK K
        try simp only [Act.put, List.setIfInBounds_toArray, List.set_cons_zero, List.set_cons_succ]
        refine wpAnyH_takeQ 18 (v := ?_) (fun _ _ _ _ _ h => h) (by simp only [List.getElem?_toArray, List.getElem?_cons_succ, List.getElem?_cons_zero]; rfl) (by kernel_rfl) (by kernel_rfl) (by kernel_rfl) (by rfl) ?_ hHeld ?_; rotate_left; · (intro w hSw; (try dsimp only at hSw); go_simp; (try with_reducible rfl))
        try simp only [Act.put, List.setIfInBounds_toArray, List.set_cons_zero, List.set_cons_succ]
        refine wpAnyH_takeQ 19 (v := ?_) (fun _ _ _ _ _ h => h) (by simp only [List.getElem?_toArray, List.getElem?_cons_succ, List.getElem?_cons_zero]; rfl) (by kernel_rfl) (by kernel_rfl) (by kernel_rfl) (by rfl) ?_ hHeld ?_; rotate_left; · (intro w hSw; (try dsimp only at hSw); go_simp; (try with_reducible rfl))
        try simp only [Act.put, List.setIfInBounds_toArray, List.set_cons_zero, List.set_cons_succ]
        refine wpAnyH_takeQ 20 (v := ?_) (fun _ _ _ _ _ h => h) (by simp only [List.getElem?_toArray, List.getElem?_cons_succ, List.getElem?_cons_zero]; rfl) (by kernel_rfl) (by kernel_rfl) (by kernel_rfl) (by rfl) ?_ hHeld ?_; rotate_left; · (intro w hSw; (try dsimp only at hSw); go_simp; (try with_reducible rfl))
        try simp only [Act.put, List.setIfInBounds_toArray, List.set_cons_zero, List.set_cons_succ]
        refine wpAnyH_takeQ 21 (v := ?_) (fun _ _ _ _ _ h => h) (by simp only [List.getElem?_toArray, List.getElem?_cons_succ, List.getElem?_cons_zero]; rfl) (by kernel_rfl) (by kernel_rfl) (by kernel_rfl) (by rfl) ?_ hHeld ?_; rotate_left; · (intro w hSw; (try dsimp only at hSw); go_simp; (try with_reducible rfl))
        try simp only [Act.put, List.setIfInBounds_toArray, List.set_cons_zero, List.set_cons_succ]
        refine wpAnyH_takeQ 22 (v := ?_) (fun _ _ _ _ _ h => h) (by simp only [List.getElem?_toArray, List.getElem?_cons_succ, List.getElem?_cons_zero]; rfl) (by kernel_rfl) (by kernel_rfl) (by kernel_rfl) (by rfl) ?_ hHeld ?_; rotate_left; · (intro w hSw; (try dsimp only at hSw); go_simp; (try with_reducible rfl))
        try simp only [Act.put, List.setIfInBounds_toArray, List.set_cons_zero, List.set_cons_succ]
        refine wpAnyH_takeQ 23 (v := ?_) (fun _ _ _ _ _ h => h) (by simp only [List.getElem?_toArray, List.getElem?_cons_succ, List.getElem?_cons_zero]; rfl) (by kernel_rfl) (by kernel_rfl) (by kernel_rfl) (by rfl) ?_ hHeld ?_; rotate_left; · (intro w hSw; (try dsimp only at hSw); go_simp; (try with_reducible rfl))
        try simp only [Act.put, List.setIfInBounds_toArray, List.set_cons_zero, List.set_cons_succ]
        refine wpAnyH_takeQ 24 (v := ?_) (fun _ _ _ _ _ h => h) (by simp only [List.getElem?_toArray, List.getElem?_cons_succ, List.getElem?_cons_zero]; rfl) (by kernel_rfl) (by kernel_rfl) (by kernel_rfl) (by rfl) ?_ hHeld ?_; rotate_left; · (intro w hSw; (try dsimp only at hSw); go_simp; (try with_reducible rfl))
        try simp only [Act.put, List.setIfInBounds_toArray, List.set_cons_zero, List.set_cons_succ]
        refine wpAnyH_takeQ 25 (v := ?_) (fun _ _ _ _ _ h => h) (by simp only [List.getElem?_toArray, List.getElem?_cons_succ, List.getElem?_cons_zero]; rfl) (by kernel_rfl) (by kernel_rfl) (by kernel_rfl) (by rfl) ?_ hHeld ?_; rotate_left; · (intro w hSw; (try dsimp only at hSw); go_simp; (try with_reducible rfl))
        try simp only [Act.put, List.setIfInBounds_toArray, List.set_cons_zero, List.set_cons_succ]
        refine wpAnyH_takeQ 26 (v := ?_) (fun _ _ _ _ _ h => h) (by simp only [List.getElem?_toArray, List.getElem?_cons_succ, List.getElem?_cons_zero]; rfl) (by kernel_rfl) (by kernel_rfl) (by kernel_rfl) (by rfl) ?_ hHeld ?_; rotate_left; · (intro w hSw; (try dsimp only at hSw); go_simp; (try with_reducible rfl))
        try simp only [Act.put, List.setIfInBounds_toArray, List.set_cons_zero, List.set_cons_succ]
        refine wpAnyH_takeQ 27 (v := ?_) (fun _ _ _ _ _ h => h) (by simp only [List.getElem?_toArray, List.getElem?_cons_succ, List.getElem?_cons_zero]; rfl) (by kernel_rfl) (by kernel_rfl) (by kernel_rfl) (by rfl) ?_ hHeld ?_; rotate_left; · (intro w hSw; (try dsimp only at hSw); go_simp; (try with_reducible rfl))
        try simp only [Act.put, List.setIfInBounds_toArray, List.set_cons_zero, List.set_cons_succ]
        refine wpAnyH_takeQ 28 (v := ?_) (fun _ _ _ _ _ h => h) (by simp only [List.getElem?_toArray, List.getElem?_cons_succ, List.getElem?_cons_zero]; rfl) (by kernel_rfl) (by kernel_rfl) (by kernel_rfl) (by rfl) ?_ hHeld ?_; rotate_left; · (intro w hSw; (try dsimp only at hSw); go_simp; (try with_reducible rfl))
        try simp only [Act.put, List.setIfInBounds_toArray, List.set_cons_zero, List.set_cons_succ]
        refine wpAnyH_takeQ 29 (v := ?_) (fun _ _ _ _ _ h => h) (by simp only [List.getElem?_toArray, List.getElem?_cons_succ, List.getElem?_cons_zero]; rfl) (by kernel_rfl) (by kernel_rfl) (by kernel_rfl) (by rfl) ?_ hHeld ?_; rotate_left; · (intro w hSw; (try dsimp only at hSw); go_simp; (try with_reducible rfl))
        try simp only [Act.put, List.setIfInBounds_toArray, List.set_cons_zero, List.set_cons_succ]
        refine wpAnyH_takeQ 30 (v := ?_) (fun _ _ _ _ _ h => h) (by simp only [List.getElem?_toArray, List.getElem?_cons_succ, List.getElem?_cons_zero]; rfl) (by kernel_rfl) (by kernel_rfl) (by kernel_rfl) (by rfl) ?_ hHeld ?_; rotate_left; · (intro w hSw; (try dsimp only at hSw); go_simp; (try with_reducible rfl))
        try simp only [Act.put, List.setIfInBounds_toArray, List.set_cons_zero, List.set_cons_succ]
        refine wpAnyH_takeQ 31 (v := ?_) (fun _ _ _ _ _ h => h) (by simp only [List.getElem?_toArray, List.getElem?_cons_succ, List.getElem?_cons_zero]; rfl) (by kernel_rfl) (by kernel_rfl) (by kernel_rfl) (by rfl) ?_ hHeld ?_; rotate_left; · (intro w hSw; (try dsimp only at hSw); go_simp; (try with_reducible rfl))
        try simp only [Act.put, List.setIfInBounds_toArray, List.set_cons_zero, List.set_cons_succ]
        refine wpAnyH_takeQ 32 (v := ?_) (fun _ _ _ _ _ h => h) (by simp only [List.getElem?_toArray, List.getElem?_cons_succ, List.getElem?_cons_zero]; rfl) (by kernel_rfl) (by kernel_rfl) (by kernel_rfl) (by rfl) ?_ hHeld ?_; rotate_left; · (intro w hSw; (try dsimp only at hSw); go_simp; (try with_reducible rfl))
        try simp only [Act.put, List.setIfInBounds_toArray, List.set_cons_zero, List.set_cons_succ]
        refine wpAnyH_takeQ 33 (v := ?_) (fun _ _ _ _ _ h => h) (by simp only [List.getElem?_toArray, List.getElem?_cons_succ, List.getElem?_cons_zero]; rfl) (by kernel_rfl) (by kernel_rfl) (by kernel_rfl) (by rfl) ?_ hHeld ?_; rotate_left; · (intro w hSw; (try dsimp only at hSw); go_simp; (try with_reducible rfl))
        try simp only [Act.put, List.setIfInBounds_toArray, List.set_cons_zero, List.set_cons_succ]
        refine wpAnyH_takeQ 34 (v := ?_) (fun _ _ _ _ _ h => h) (by simp only [List.getElem?_toArray, List.getElem?_cons_succ, List.getElem?_cons_zero]; rfl) (by kernel_rfl) (by kernel_rfl) (by kernel_rfl) (by rfl) ?_ hHeld ?_; rotate_left; · (intro w hSw; (try dsimp only at hSw); go_simp; (try with_reducible rfl))
        try simp only [Act.put, List.setIfInBounds_toArray, List.set_cons_zero, List.set_cons_succ]
        refine wpAnyH_takeQ 35 (v := ?_) (fun _ _ _ _ _ h => h) (by simp only [List.getElem?_toArray, List.getElem?_cons_succ, List.getElem?_cons_zero]; rfl) (by kernel_rfl) (by kernel_rfl) (by kernel_rfl) (by rfl) ?_ hHeld ?_; rotate_left; · (intro w hSw; (try dsimp only at hSw); go_simp; (try with_reducible rfl))
        try simp only [Act.put, List.setIfInBounds_toArray, List.set_cons_zero, List.set_cons_succ]
        refine wpAnyH_takeQ 36 (v := ?_) (fun _ _ _ _ _ h => h) (by simp only [List.getElem?_toArray, List.getElem?_cons_succ, List.getElem?_cons_zero]; rfl) (by kernel_rfl) (by kernel_rfl) (by kernel_rfl) (by rfl) ?_ hHeld ?_; rotate_left; · (intro w hSw; (try dsimp only at hSw); go_simp; (try with_reducible rfl))
        try simp only [Act.put, List.setIfInBounds_toArray, List.set_cons_zero, List.set_cons_succ]
        refine wpAnyH_takeQ 37 (v := ?_) (fun _ _ _ _ _ h => h) (by simp only [List.getElem?_toArray, List.getElem?_cons_succ, List.getElem?_cons_zero]; rfl) (by kernel_rfl) (by kernel_rfl) (by kernel_rfl) (by rfl) ?_ hHeld ?_; rotate_left; · (intro w hSw; (try dsimp only at hSw); go_simp; (try with_reducible rfl))
        try simp only [Act.put, List.setIfInBounds_toArray, List.set_cons_zero, List.set_cons_succ]
        refine wpAnyH_takeQ 38 (v := ?_) (fun _ _ _ _ _ h => h) (by simp only [List.getElem?_toArray, List.getElem?_cons_succ, List.getElem?_cons_zero]; rfl) (by kernel_rfl) (by kernel_rfl) (by kernel_rfl) (by rfl) ?_ hHeld ?_; rotate_left; · (intro w hSw; (try dsimp only at hSw); go_simp; (try with_reducible rfl))
        try simp only [Act.put, List.setIfInBounds_toArray, List.set_cons_zero, List.set_cons_succ]
        refine wpAnyH_takeQ 39 (v := ?_) (fun _ _ _ _ _ h => h) (by simp only [List.getElem?_toArray, List.getElem?_cons_succ, List.getElem?_cons_zero]; rfl) (by kernel_rfl) (by kernel_rfl) (by kernel_rfl) (by rfl) ?_ hHeld ?_; rotate_left; · (intro w hSw; (try dsimp only at hSw); go_simp; (try with_reducible rfl))
        try simp only [Act.put, List.setIfInBounds_toArray, List.set_cons_zero, List.set_cons_succ]
        refine wpAnyH_takeQ 40 (v := ?_) (fun _ _ _ _ _ h => h) (by simp only [List.getElem?_toArray, List.getElem?_cons_succ, List.getElem?_cons_zero]; rfl) (by kernel_rfl) (by kernel_rfl) (by kernel_rfl) (by rfl) ?_ hHeld ?_; rotate_left; · (intro w hSw; (try dsimp only at hSw); go_simp; (try with_reducible rfl))
        try simp only [Act.put, List.setIfInBounds_toArray, List.set_cons_zero, List.set_cons_succ]
        refine wpAnyH_takeQ 41 (v := ?_) (fun _ _ _ _ _ h => h) (by simp only [List.getElem?_toArray, List.getElem?_cons_succ, List.getElem?_cons_zero]; rfl) (by kernel_rfl) (by kernel_rfl) (by kernel_rfl) (by rfl) ?_ hHeld ?_; rotate_left; · (intro w hSw; (try dsimp only at hSw); go_simp; (try with_reducible rfl))
        try simp only [Act.put, List.setIfInBounds_toArray, List.set_cons_zero, List.set_cons_succ]
        refine wpAnyH_takeQ 42 (v := ?_) (fun _ _ _ _ _ h => h) (by simp only [List.getElem?_toArray, List.getElem?_cons_succ, List.getElem?_cons_zero]; rfl) (by kernel_rfl) (by kernel_rfl) (by kernel_rfl) (by rfl) ?_ hHeld ?_; rotate_left; · (intro w hSw; (try dsimp only at hSw); go_simp; (try with_reducible rfl))
        try simp only [Act.put, List.setIfInBounds_toArray, List.set_cons_zero, List.set_cons_succ]
        refine wpAnyH_takeQ 43 (v := ?_) (fun _ _ _ _ _ h => h) (by simp only [List.getElem?_toArray, List.getElem?_cons_succ, List.getElem?_cons_zero]; rfl) (by kernel_rfl) (by kernel_rfl) (by kernel_rfl) (by rfl) ?_ hHeld ?_; rotate_left; · (intro w hSw; (try dsimp only at hSw); go_simp; (try with_reducible rfl))
        try simp only [Act.put, List.setIfInBounds_toArray, List.set_cons_zero, List.set_cons_succ]
        refine wpAnyH_takeQ 44 (v := ?_) (fun _ _ _ _ _ h => h) (by simp only [List.getElem?_toArray, List.getElem?_cons_succ, List.getElem?_cons_zero]; rfl) (by kernel_rfl) (by kernel_rfl) (by kernel_rfl) (by rfl) ?_ hHeld ?_; rotate_left; · (intro w hSw; (try dsimp only at hSw); go_simp; (try with_reducible rfl))
        try simp only [Act.put, List.setIfInBounds_toArray, List.set_cons_zero, List.set_cons_succ]
        refine wpAnyH_takeQ 45 (v := ?_) (fun _ _ _ _ _ h => h) (by simp only [List.getElem?_toArray, List.getElem?_cons_succ, List.getElem?_cons_zero]; rfl) (by kernel_rfl) (by kernel_rfl) (by kernel_rfl) (by rfl) ?_ hHeld ?_; rotate_left; · (intro w hSw; (try dsimp only at hSw); go_simp; (try with_reducible rfl))
        try simp only [Act.put, List.setIfInBounds_toArray, List.set_cons_zero, List.set_cons_succ]
        refine wpAnyH_takeQ 46 (v := ?_) (fun _ _ _ _ _ h => h) (by simp only [List.getElem?_toArray, List.getElem?_cons_succ, List.getElem?_cons_zero]; rfl) (by kernel_rfl) (by kernel_rfl) (by kernel_rfl) (by rfl) ?_ hHeld ?_; rotate_left; · (intro w hSw; (try dsimp only at hSw); go_simp; (try with_reducible rfl))
        try simp only [Act.put, List.setIfInBounds_toArray, List.set_cons_zero, List.set_cons_succ]
        refine wpAnyH_takeQ 47 (v := ?_) (fun _ _ _ _ _ h => h) (by simp only [List.getElem?_toArray, List.getElem?_cons_succ, List.getElem?_cons_zero]; rfl) (by kernel_rfl) (by kernel_rfl) (by kernel_rfl) (by rfl) ?_ hHeld ?_; rotate_left; · (intro w hSw; (try dsimp only at hSw); go_simp; (try with_reducible rfl))
        try simp only [Act.put, List.setIfInBounds_toArray, List.set_cons_zero, List.set_cons_succ]
        refine wpAnyH_takeQ 49 (v := ?_) (fun _ _ _ _ _ h => h) (by simp only [List.getElem?_toArray, List.getElem?_cons_succ, List.getElem?_cons_zero]; rfl) (by kernel_rfl) (by kernel_rfl) (by kernel_rfl) (by rfl) ?_ hHeld ?_; rotate_left; · (intro w hSw; (try dsimp only at hSw); go_simp; (try with_reducible rfl))
        try simp only [Act.put, List.setIfInBounds_toArray, List.set_cons_zero, List.set_cons_succ]
        refine wpAnyH_ready (rs := [48]) (by kernel_rfl) (by simp) ?_
        refine AllReadyH.cons (by simp only [List.getElem?_toArray, List.getElem?_cons_succ, List.getElem?_cons_zero]; rfl) (fun K hK => ?_) AllReadyH.nil
        go_simp
        clear hHeld
        refine (qtext_str2 (k := 6) (by exact R_a.out) (by omega) (by omega) (by exact HT.out)).mono ?_
        rintro e w30 ⟨t1, rfl, ht1, hb⟩
        replace HT := Lib.hid (HT.out.below hb)
        replace R_a := Lib.hid (R_a.out.below hb)
        replace R_b := Lib.hid (R_b.out.below hb)
        replace R_c := Lib.hid (R_c.out.below hb)
        replace Q_z := Lib.hid (Q_z.out.below hb)
        replace Q_h := Lib.hid (Q_h.out.below hb)
        replace B_a := Lib.hid (B_a.out.below hb)
        replace B_b := Lib.hid (B_b.out.below hb)
        replace B_c := Lib.hid (B_c.out.below hb)
        replace B_z := Lib.hid (B_z.out.below hb)
        replace B_h := Lib.hid (B_h.out.below hb)
        replace hB := below_next hB hb
        clear hb
        have Ht1 := Lib.hid ht1
        clear ht1
        go_wp2_with fail
        refine hK.out _ _ (by exact ⟨B_a.out.c3, B_b.out.c3⟩) (fun hHeld => ?_)
        clear hK K
        try simp only [Act.put, List.setIfInBounds_toArray, List.set_cons_zero, List.set_cons_succ]
        refine wpAnyH_ready (rs := [50]) (by kernel_rfl) (by simp) ?_
        refine AllReadyH.cons (by simp only [List.getElem?_toArray, List.getElem?_cons_succ, List.getElem?_cons_zero]; rfl) (fun K hK => ?_) AllReadyH.nil
        go_simp
        clear hHeld
        refine (qtext_str2 (k := 6) (by exact R_b.out) (by omega) (by omega) (by exact HT.out)).mono ?_
        rintro e w31 ⟨t2, rfl, ht2, hb⟩
        replace HT := Lib.hid (HT.out.below hb)
        replace R_a := Lib.hid (R_a.out.below hb)
        replace R_b := Lib.hid (R_b.out.below hb)
        replace R_c := Lib.hid (R_c.out.below hb)
        replace Q_z := Lib.hid (Q_z.out.below hb)
        replace Q_h := Lib.hid (Q_h.out.below hb)
        replace B_a := Lib.hid (B_a.out.below hb)
        replace B_b := Lib.hid (B_b.out.below hb)
        replace B_c := Lib.hid (B_c.out.below hb)
        replace B_z := Lib.hid (B_z.out.below hb)
        replace B_h := Lib.hid (B_h.out.below hb)
        replace hB := below_next hB hb
        clear hb
        have Ht2 := Lib.hid ht2
        clear ht2
        obtain rfl : t1 = t2 := bytes_ext (by rw [Ht1.out, Ht2.out, H1.out])
        clear Ht2
        go_wp2_with fail
        refine hK.out _ _ (by exact ⟨B_a.out.c3, B_b.out.c3⟩) (fun hHeld => ?_)
        clear hK K
        try simp only [Act.put, List.setIfInBounds_toArray, List.set_cons_zero, List.set_cons_succ]
        refine wpAnyH_takeQ 51 (v := ?_) (fun _ _ _ _ _ h => h) (by simp only [List.getElem?_toArray, List.getElem?_cons_succ, List.getElem?_cons_zero]; rfl) (by kernel_rfl) (by kernel_rfl) (by kernel_rfl) (by rfl) ?_ hHeld ?_; rotate_left; · (intro w hSw; (try dsimp only at hSw); go_simp; (try with_reducible rfl))
        try simp only [Act.put, List.setIfInBounds_toArray, List.set_cons_zero, List.set_cons_succ]
        refine wpAnyH_takeQ 52 (v := ?_) (fun _ _ _ _ _ h => h) (by simp only [List.getElem?_toArray, List.getElem?_cons_succ, List.getElem?_cons_zero]; rfl) (by kernel_rfl) (by kernel_rfl) (by kernel_rfl) (by rfl) ?_ hHeld ?_; rotate_left; · (intro w hSw; (try dsimp only at hSw); go_simp; (try with_reducible rfl))
        try simp only [Act.put, List.setIfInBounds_toArray, List.set_cons_zero, List.set_cons_succ]
        refine wpAnyH_takeQ 53 (v := ?_) (fun _ _ _ _ _ h => h) (by simp only [List.getElem?_toArray, List.getElem?_cons_succ, List.getElem?_cons_zero]; rfl) (by kernel_rfl) (by kernel_rfl) (by kernel_rfl) (by rfl) ?_ hHeld ?_; rotate_left; · (intro w hSw; (try dsimp only at hSw); go_simp; (try with_reducible rfl))
        try simp only [Act.put, List.setIfInBounds_toArray, List.set_cons_zero, List.set_cons_succ]
        refine wpAnyH_done (by kernel_rfl) (NoPanic.normal ?_) _
        clear hHeld
        go_wp2_with fail
        go_meet
        exact ⟨rfl, HT.out, R_a.out, R_b.out, R_c.out, Q_z.out, Q_h.out, B_a.out, B_b.out, B_c.out, B_z.out, B_h.out, hB⟩
      · skip
        obtain rfl : y = 1 := HY.out.symm.trans e2
        have z2 : decide (z < 0) = false := by rw [← HZ.out]; have := qord_ge (Rat.le_trans (Rat.le_of_lt h2) (qle_eq h1.symm)); simp; omega
        clear e2
        have H1 := Lib.hid h1
        clear h1 h2 e1
        refine wp_region_named (S := (fun w' => (w'.cell? ⟨w.heap.size, 0, none⟩ = some (.bool b_a) ∧ w'.cell? ⟨w.heap.size, 1, none⟩ = some m_a ∧ w'.cell? ⟨w.heap.size, 2, none⟩ = some d_a) ∧ (w'.cell? ⟨w.heap.size + 1, 0, none⟩ = some (.bool b_b) ∧ w'.cell? ⟨w.heap.size + 1, 1, none⟩ = some m_b ∧ w'.cell? ⟨w.heap.size + 1, 2, none⟩ = some d_b))) (by kernel_rfl) (by exact ⟨B_a.out.c3, B_b.out.c3⟩) (fun V32 hb hHeld => ?_)
        replace HT := Lib.hid (HT.out.below hb)
        replace R_a := Lib.hid (R_a.out.below hb)
        replace R_b := Lib.hid (R_b.out.below hb)
        replace R_c := Lib.hid (R_c.out.below hb)
        replace Q_z := Lib.hid (Q_z.out.below hb)
        replace Q_h := Lib.hid (Q_h.out.below hb)
        replace B_a := Lib.hid (B_a.out.below hb)
        replace B_b := Lib.hid (B_b.out.below hb)
        replace B_c := Lib.hid (B_c.out.below hb)
        replace B_z := Lib.hid (B_z.out.below hb)
        replace B_h := Lib.hid (B_h.out.below hb)
        replace hB := below_next hB hb
        clear hb
        refine wpAnyH_takeQ 0 (v := ?_) (fun _ _ _ _ _ h => h) (by simp only [List.getElem?_toArray, List.getElem?_cons_zero]; rfl) (by kernel_rfl) (by kernel_rfl) (by kernel_rfl) (by rfl) ?_ hHeld ?_; rotate_left; · (intro w hSw; (try dsimp only at hSw); go_simp; (try with_reducible rfl))
        try simp only [Act.put, List.setIfInBounds_toArray, List.set_cons_zero, List.set_cons_succ]
        refine wpAnyH_takeQ 1 (v := ?_) (fun _ _ _ _ _ h => h) (by simp only [List.getElem?_toArray, List.getElem?_cons_succ, List.getElem?_cons_zero]; rfl) (by kernel_rfl) (by kernel_rfl) (by kernel_rfl) (by rfl) ?_ hHeld ?_; rotate_left; · (intro w hSw; (try dsimp only at hSw); go_simp; (try with_reducible rfl))
        try simp only [Act.put, List.setIfInBounds_toArray, List.set_cons_zero, List.set_cons_succ]
        refine wpAnyH_takeQ 2 (v := ?_) (fun _ _ _ _ _ h => h) (by simp only [List.getElem?_toArray, List.getElem?_cons_succ, List.getElem?_cons_zero]; rfl) (by kernel_rfl) (by kernel_rfl) (by kernel_rfl) (by rfl) ?_ hHeld ?_; rotate_left; · (intro w hSw; (try dsimp only at hSw); go_simp; (try with_reducible rfl))
        try simp only [Act.put, List.setIfInBounds_toArray, List.set_cons_zero, List.set_cons_succ]
        refine wpAnyH_takeQ 3 (v := ?_) (fun _ _ _ _ _ h => h) (by simp only [List.getElem?_toArray, List.getElem?_cons_succ, List.getElem?_cons_zero]; rfl) (by kernel_rfl) (by kernel_rfl) (by kernel_rfl) (by rfl) ?_ hHeld ?_; rotate_left; · (intro w hSw; (try dsimp only at hSw); go_simp; (try with_reducible rfl))
        try simp only [Act.put, List.setIfInBounds_toArray, List.set_cons_zero, List.set_cons_succ]
        refine wpAnyH_takeQ 4 (v := ?_) (fun _ _ _ _ _ h => h) (by simp only [List.getElem?_toArray, List.getElem?_cons_succ, List.getElem?_cons_zero]; rfl) (by kernel_rfl) (by kernel_rfl) (by kernel_rfl) (by rfl) ?_ hHeld ?_; rotate_left; · (intro w hSw; (try dsimp only at hSw); go_simp; (try with_reducible rfl))
        try simp only [Act.put, List.setIfInBounds_toArray, List.set_cons_zero, List.set_cons_succ]
        refine wpAnyH_takeQ 5 (v := ?_) (fun _ _ _ _ _ h => h) (by simp only [List.getElem?_toArray, List.getElem?_cons_succ, List.getElem?_cons_zero]; rfl) (by kernel_rfl) (by kernel_rfl) (by kernel_rfl) (by rfl) ?_ hHeld ?_; rotate_left; · (intro w hSw; (try dsimp only at hSw); go_simp; (try with_reducible rfl))
        try simp only [Act.put, List.setIfInBounds_toArray, List.set_cons_zero, List.set_cons_succ]
        refine wpAnyH_takeQ 6 (v := ?_) (fun _ _ _ _ _ h => h) (by simp only [List.getElem?_toArray, List.getElem?_cons_succ, List.getElem?_cons_zero]; rfl) (by kernel_rfl) (by kernel_rfl) (by kernel_rfl) (by rfl) ?_ hHeld ?_; rotate_left; · (intro w hSw; (try dsimp only at hSw); go_simp; (try with_reducible rfl))
        try simp only [Act.put, List.setIfInBounds_toArray, List.set_cons_zero, List.set_cons_succ]
        refine wpAnyH_takeQ 7 (v := ?_) (fun _ _ _ _ _ h => h) (by simp only [List.getElem?_toArray, List.getElem?_cons_succ, List.getElem?_cons_zero]; rfl) (by kernel_rfl) (by kernel_rfl) (by kernel_rfl) (by rfl) ?_ hHeld ?_; rotate_left; · (intro w hSw; (try dsimp only at hSw); go_simp; (try with_reducible rfl))
        try simp only [Act.put, List.setIfInBounds_toArray, List.set_cons_zero, List.set_cons_succ]
        refine wpAnyH_takeQ 8 (v := ?_) (fun _ _ _ _ _ h => h) (by simp only [List.getElem?_toArray, List.getElem?_cons_succ, List.getElem?_cons_zero]; rfl) (by kernel_rfl) (by kernel_rfl) (by kernel_rfl) (by rfl) ?_ hHeld ?_; rotate_left; · (intro w hSw; (try dsimp only at hSw); go_simp; (try with_reducible rfl))
        try simp only [Act.put, List.setIfInBounds_toArray, List.set_cons_zero, List.set_cons_succ]
        refine wpAnyH_takeQ 10 (v := ?_) (fun _ _ _ _ _ h => h) (by simp only [List.getElem?_toArray, List.getElem?_cons_succ, List.getElem?_cons_zero]; rfl) (by kernel_rfl) (by kernel_rfl) (by kernel_rfl) (by rfl) ?_ hHeld ?_; rotate_left; · (intro w hSw; (try dsimp only at hSw); go_simp; (try with_reducible rfl))
        try simp only [Act.put, List.setIfInBounds_toArray, List.set_cons_zero, List.set_cons_succ]
        refine wpAnyH_takeQ 11 (v := ?_) (fun _ _ _ _ _ h => h) (by simp only [List.getElem?_toArray, List.getElem?_cons_succ, List.getElem?_cons_zero]; rfl) (by kernel_rfl) (by kernel_rfl) (by kernel_rfl) (by rfl) ?_ hHeld ?_; rotate_left; · (intro w hSw; (try dsimp only at hSw); go_simp; (try with_reducible rfl))
        try simp only [Act.put, List.setIfInBounds_toArray, List.set_cons_zero, List.set_cons_succ]
        refine wpAnyH_ready (rs := [9]) (by kernel_rfl) (by simp) ?_
        refine AllReadyH.cons (by simp only [List.getElem?_toArray, List.getElem?_cons_succ, List.getElem?_cons_zero]; rfl) (fun K hK => ?_) AllReadyH.nil
        go_simp
        clear hHeld
        refine (qcmp_is (k := 6) (j := 6) (v := 0) (by exact R_b.out) (by exact R_a.out) (by omega) (by omega) (by omega) (by omega) (by have h := H1.out; exact qord_eq h.symm)).mono ?_
        rintro e w33 ⟨rfl, hb⟩
        replace HT := Lib.hid (HT.out.below hb)
        replace R_a := Lib.hid (R_a.out.below hb)
        replace R_b := Lib.hid (R_b.out.below hb)
        replace R_c := Lib.hid (R_c.out.below hb)
        replace Q_z := Lib.hid (Q_z.out.below hb)
        replace Q_h := Lib.hid (Q_h.out.below hb)
        replace B_a := Lib.hid (B_a.out.below hb)
        replace B_b := Lib.hid (B_b.out.below hb)
        replace B_c := Lib.hid (B_c.out.below hb)
        replace B_z := Lib.hid (B_z.out.below hb)
        replace B_h := Lib.hid (B_h.out.below hb)
        replace hB := below_next hB hb
        clear hb
        go_wp2_with fail
        refine hK.out _ _ (by exact ⟨B_a.out.c3, B_b.out.c3⟩) (fun hHeld => ?_)
        clear hK K
        try simp only [Act.put, List.setIfInBounds_toArray, List.set_cons_zero, List.set_cons_succ]
        refine wpAnyH_takeQ 12 (v := ?_) (fun _ _ _ _ _ h => h) (by simp only [List.getElem?_toArray, List.getElem?_cons_succ, List.getElem?_cons_zero]; rfl) (by kernel_rfl) (by kernel_rfl) (by kernel_rfl) (by rfl) ?_ hHeld ?_; rotate_left; · (intro w hSw; (try dsimp only at hSw); go_simp; (try with_reducible rfl))
        try simp only [Act.put, List.setIfInBounds_toArray, List.set_cons_zero, List.set_cons_succ]
        refine wpAnyH_takeQ 13 (v := ?_) (fun _ _ _ _ _ h => h) (by simp only [List.getElem?_toArray, List.getElem?_cons_succ, List.getElem?_cons_zero]; rfl) (by kernel_rfl) (by kernel_rfl) (by kernel_rfl) (by rfl) ?_ hHeld ?_; rotate_left; · (intro w hSw; (try dsimp only at hSw); go_simp; (try with_reducible rfl))
        try simp only [Act.put, List.setIfInBounds_toArray, List.set_cons_zero, List.set_cons_succ]
        refine wpAnyH_takeQ 14 (v := ?_) (fun _ _ _ _ _ h => h) (by simp only [List.getElem?_toArray, List.getElem?_cons_succ, List.getElem?_cons_zero]; rfl) (by kernel_rfl) (by kernel_rfl) (by kernel_rfl) (by rfl) ?_ hHeld ?_; rotate_left; · (intro w hSw; (try dsimp only at hSw); go_simp; (try with_reducible rfl))
        try simp only [Act.put, List.setIfInBounds_toArray, List.set_cons_zero, List.set_cons_succ]
        refine wpAnyH_takeQ 15 (v := ?_) (fun _ _ _ _ _ h => h) (by simp only [List.getElem?_toArray, List.getElem?_cons_succ, List.getElem?_cons_zero]; rfl) (by kernel_rfl) (by kernel_rfl) (by kernel_rfl) (by rfl) ?_ hHeld ?_; rotate_left; · (intro w hSw; (try dsimp only at hSw); go_simp; (try with_reducible rfl))
        try simp only [Act.put, List.setIfInBounds_toArray, List.set_cons_zero, List.set_cons_succ]
        refine wpAnyH_takeQ 16 (v := ?_) (fun _ _ _ _ _ h => h) (by simp only [List.getElem?_toArray, List.getElem?_cons_succ, List.getElem?_cons_zero]; rfl) (by kernel_rfl) (by kernel_rfl) (by kernel_rfl) (by rfl) ?_ hHeld ?_; rotate_left; · (intro w hSw; (try dsimp only at hSw); go_simp; (try with_reducible rfl))
        try simp only [Act.put, List.setIfInBounds_toArray, List.set_cons_zero, List.set_cons_succ]
        refine wpAnyH_ready (rs := [17]) (by kernel_rfl) (by simp) ?_
        refine AllReadyH.cons (by simp only [List.getElem?_toArray, List.getElem?_cons_succ, List.getElem?_cons_zero]; rfl) (fun K hK => ?_) AllReadyH.nil
        go_simp
        clear hHeld
        refine (qcmp_is (k := 6) (j := 6) (v := 0) (by exact R_a.out) (by exact R_a.out) (by omega) (by omega) (by omega) (by omega) (by exact qord_self _)).mono ?_
        rintro e w34 ⟨rfl, hb⟩
        replace HT := Lib.hid (HT.out.below hb)
        replace R_a := Lib.hid (R_a.out.below hb)
        replace R_b := Lib.hid (R_b.out.below hb)
        replace R_c := Lib.hid (R_c.out.below hb)
        replace Q_z := Lib.hid (Q_z.out.below hb)
        replace Q_h := Lib.hid (Q_h.out.below hb)
        replace B_a := Lib.hid (B_a.out.below hb)
        replace B_b := Lib.hid (B_b.out.below hb)
        replace B_c := Lib.hid (B_c.out.below hb)
        replace B_z := Lib.hid (B_z.out.below hb)
        replace B_h := Lib.hid (B_h.out.below hb)
        replace hB := below_next hB hb
        clear hb
        go_wp2_with fail
        refine hK.out _ _ (by exact ⟨B_a.out.c3, B_b.out.c3⟩) (fun hHeld => ?_)
        clear hK K
        try simp only [Act.put, List.setIfInBounds_toArray, List.set_cons_zero, List.set_cons_succ]
        refine wpAnyH_takeQ 18 (v := ?_) (fun _ _ _ _ _ h => h) (by simp only [List.getElem?_toArray, List.getElem?_cons_succ, List.getElem?_cons_zero]; rfl) (by kernel_rfl) (by kernel_rfl) (by kernel_rfl) (by rfl) ?_ hHeld ?_; rotate_left; · (intro w hSw; (try dsimp only at hSw); go_simp; (try with_reducible rfl))
        try simp only [Act.put, List.setIfInBounds_toArray, List.set_cons_zero, List.set_cons_succ]
        refine wpAnyH_takeQ 19 (v := ?_) (fun _ _ _ _ _ h => h) (by simp only [List.getElem?_toArray, List.getElem?_cons_succ, List.getElem?_cons_zero]; rfl) (by kernel_rfl) (by kernel_rfl) (by kernel_rfl) (by rfl) ?_ hHeld ?_; rotate_left; · (intro w hSw; (try dsimp only at hSw); go_simp; (try with_reducible rfl))
        try simp only [Act.put, List.setIfInBounds_toArray, List.set_cons_zero, List.set_cons_succ]
        refine wpAnyH_takeQ 20 (v := ?_) (fun _ _ _ _ _ h => h) (by simp only [List.getElem?_toArray, List.getElem?_cons_succ, List.getElem?_cons_zero]; rfl) (by kernel_rfl) (by kernel_rfl) (by kernel_rfl) (by rfl) ?_ hHeld ?_; rotate_left; · (intro w hSw; (try dsimp only at hSw); go_simp; (try with_reducible rfl))
        try simp only [Act.put, List.setIfInBounds_toArray, List.set_cons_zero, List.set_cons_succ]
        refine wpAnyH_takeQ 21 (v := ?_) (fun _ _ _ _ _ h => h) (by simp only [List.getElem?_toArray, List.getElem?_cons_succ, List.getElem?_cons_zero]; rfl) (by kernel_rfl) (by kernel_rfl) (by kernel_rfl) (by rfl) ?_ hHeld ?_; rotate_left; · (intro w hSw; (try dsimp only at hSw); go_simp; (try with_reducible rfl))
        try simp only [Act.put, List.setIfInBounds_toArray, List.set_cons_zero, List.set_cons_succ]
        refine wpAnyH_takeQ 22 (v := ?_) (fun _ _ _ _ _ h => h) (by simp only [List.getElem?_toArray, List.getElem?_cons_succ, List.getElem?_cons_zero]; rfl) (by kernel_rfl) (by kernel_rfl) (by kernel_rfl) (by rfl) ?_ hHeld ?_; rotate_left; · (intro w hSw; (try dsimp only at hSw); go_simp; (try with_reducible rfl))
        try simp only [Act.put, List.setIfInBounds_toArray, List.set_cons_zero, List.set_cons_succ]
        refine wpAnyH_takeQ 23 (v := ?_) (fun _ _ _ _ _ h => h) (by simp only [List.getElem?_toArray, List.getElem?_cons_succ, List.getElem?_cons_zero]; rfl) (by kernel_rfl) (by kernel_rfl) (by kernel_rfl) (by rfl) ?_ hHeld ?_; rotate_left; · (intro w hSw; (try dsimp only at hSw); go_simp; (try with_reducible rfl))
        try simp only [Act.put, List.setIfInBounds_toArray, List.set_cons_zero, List.set_cons_succ]
        refine wpAnyH_takeQ 24 (v := ?_) (fun _ _ _ _ _ h => h) (by simp only [List.getElem?_toArray, List.getElem?_cons_succ, List.getElem?_cons_zero]; rfl) (by kernel_rfl) (by kernel_rfl) (by kernel_rfl) (by rfl) ?_ hHeld ?_; rotate_left; · (intro w hSw; (try dsimp only at hSw); go_simp; (try with_reducible rfl))
        try simp only [Act.put, List.setIfInBounds_toArray, List.set_cons_zero, List.set_cons_succ]
        refine wpAnyH_takeQ 25 (v := ?_) (fun _ _ _ _ _ h => h) (by simp only [List.getElem?_toArray, List.getElem?_cons_succ, List.getElem?_cons_zero]; rfl) (by kernel_rfl) (by kernel_rfl) (by kernel_rfl) (by rfl) ?_ hHeld ?_; rotate_left; · (intro w hSw; (try dsimp only at hSw); go_simp; (try with_reducible rfl))
        try simp only [Act.put, List.setIfInBounds_toArray, List.set_cons_zero, List.set_cons_succ]
        refine wpAnyH_takeQ 26 (v := ?_) (fun _ _ _ _ _ h => h) (by simp only [List.getElem?_toArray, List.getElem?_cons_succ, List.getElem?_cons_zero]; rfl) (by kernel_rfl) (by kernel_rfl) (by kernel_rfl) (by rfl) ?_ hHeld ?_; rotate_left; · (intro w hSw; (try dsimp only at hSw); go_simp; (try with_reducible rfl))
        try simp only [Act.put, List.setIfInBounds_toArray, List.set_cons_zero, List.set_cons_succ]
        refine wpAnyH_takeQ 27 (v := ?_) (fun _ _ _ _ _ h => h) (by simp only [List.getElem?_toArray, List.getElem?_cons_succ, List.getElem?_cons_zero]; rfl) (by kernel_rfl) (by kernel_rfl) (by kernel_rfl) (by rfl) ?_ hHeld ?_; rotate_left; · (intro w hSw; (try dsimp only at hSw); go_simp; (try with_reducible rfl))
        try simp only [Act.put, List.setIfInBounds_toArray, List.set_cons_zero, List.set_cons_succ]
        refine wpAnyH_skipQ 28 (fun _ _ _ _ _ h => h) (by simp only [List.getElem?_toArray, List.getElem?_cons_succ, List.getElem?_cons_zero]; rfl) (by kernel_rfl) (by kernel_rfl) (by kernel_rfl) (by rfl) hHeld ?_
        try simp only [Act.put, List.setIfInBounds_toArray, List.set_cons_zero, List.set_cons_succ]
        refine wpAnyH_skipQ 29 (fun _ _ _ _ _ h => h) (by simp only [List.getElem?_toArray, List.getElem?_cons_succ, List.getElem?_cons_zero]; rfl) (by kernel_rfl) (by kernel_rfl) (by kernel_rfl) (by rfl) hHeld ?_
        try simp only [Act.put, List.setIfInBounds_toArray, List.set_cons_zero, List.set_cons_succ]
        refine wpAnyH_takeQ 30 (v := ?_) (fun _ _ _ _ _ h => h) (by simp only [List.getElem?_toArray, List.getElem?_cons_succ, List.getElem?_cons_zero]; rfl) (by kernel_rfl) (by kernel_rfl) (by kernel_rfl) (by rfl) ?_ hHeld ?_; rotate_left; · (intro w hSw; (try dsimp only at hSw); go_simp; (try with_reducible rfl))
        try simp only [Act.put, List.setIfInBounds_toArray, List.set_cons_zero, List.set_cons_succ]
        refine wpAnyH_takeQ 31 (v := ?_) (fun _ _ _ _ _ h => h) (by simp only [List.getElem?_toArray, List.getElem?_cons_succ, List.getElem?_cons_zero]; rfl) (by kernel_rfl) (by kernel_rfl) (by kernel_rfl) (by rfl) ?_ hHeld ?_; rotate_left; · (intro w hSw; (try dsimp only at hSw); go_simp; (try with_reducible rfl))
        try simp only [Act.put, List.setIfInBounds_toArray, List.set_cons_zero, List.set_cons_succ]
        refine wpAnyH_takeQ 32 (v := ?_) (fun _ _ _ _ _ h => h) (by simp only [List.getElem?_toArray, List.getElem?_cons_succ, List.getElem?_cons_zero]; rfl) (by kernel_rfl) (by kernel_rfl) (by kernel_rfl) (by rfl) ?_ hHeld ?_; rotate_left; · (intro w hSw; (try dsimp only at hSw); go_simp; (try with_reducible rfl))
        try simp only [Act.put, List.setIfInBounds_toArray, List.set_cons_zero, List.set_cons_succ]
        refine wpAnyH_takeQ 33 (v := ?_) (fun _ _ _ _ _ h => h) (by simp only [List.getElem?_toArray, List.getElem?_cons_succ, List.getElem?_cons_zero]; rfl) (by kernel_rfl) (by kernel_rfl) (by kernel_rfl) (by rfl) ?_ hHeld ?_; rotate_left; · (intro w hSw; (try dsimp only at hSw); go_simp; (try with_reducible rfl))
        try simp only [Act.put, List.setIfInBounds_toArray, List.set_cons_zero, List.set_cons_succ]
        refine wpAnyH_takeQ 34 (v := ?_) (fun _ _ _ _ _ h => h) (by simp only [List.getElem?_toArray, List.getElem?_cons_succ, List.getElem?_cons_zero]; rfl) (by kernel_rfl) (by kernel_rfl) (by kernel_rfl) (by rfl) ?_ hHeld ?_; rotate_left; · (intro w hSw; (try dsimp only at hSw); go_simp; (try with_reducible rfl))
        try simp only [Act.put, List.setIfInBounds_toArray, List.set_cons_zero, List.set_cons_succ]
        refine wpAnyH_takeQ 35 (v := ?_) (fun _ _ _ _ _ h => h) (by simp only [List.getElem?_toArray, List.getElem?_cons_succ, List.getElem?_cons_zero]; rfl) (by kernel_rfl) (by kernel_rfl) (by kernel_rfl) (by rfl) ?_ hHeld ?_; rotate_left; · (intro w hSw; (try dsimp only at hSw); go_simp; (try with_reducible rfl))
        try simp only [Act.put, List.setIfInBounds_toArray, List.set_cons_zero, List.set_cons_succ]
        refine wpAnyH_takeQ 36 (v := ?_) (fun _ _ _ _ _ h => h) (by simp only [List.getElem?_toArray, List.getElem?_cons_succ, List.getElem?_cons_zero]; rfl) (by kernel_rfl) (by kernel_rfl) (by kernel_rfl) (by rfl) ?_ hHeld ?_; rotate_left; · (intro w hSw; (try dsimp only at hSw); go_simp; (try with_reducible rfl))
        try simp only [Act.put, List.setIfInBounds_toArray, List.set_cons_zero, List.set_cons_succ]
        refine wpAnyH_takeQ 37 (v := ?_) (fun _ _ _ _ _ h => h) (by simp only [List.getElem?_toArray, List.getElem?_cons_succ, List.getElem?_cons_zero]; rfl) (by kernel_rfl) (by kernel_rfl) (by kernel_rfl) (by rfl) ?_ hHeld ?_; rotate_left; · (intro w hSw; (try dsimp only at hSw); go_simp; (try with_reducible rfl))
        try simp only [Act.put, List.setIfInBounds_toArray, List.set_cons_zero, List.set_cons_succ]
        refine wpAnyH_takeQ 38 (v := ?_) (fun _ _ _ _ _ h => h) (by simp only [List.getElem?_toArray, List.getElem?_cons_succ, List.getElem?_cons_zero]; rfl) (by kernel_rfl) (by kernel_rfl) (by kernel_rfl) (by rfl) ?_ hHeld ?_; rotate_left; · (intro w hSw; (try dsimp only at hSw); go_simp; (try with_reducible rfl))
        try simp only [Act.put, List.setIfInBounds_toArray, List.set_cons_zero, List.set_cons_succ]
        refine wpAnyH_takeQ 39 (v := ?_) (fun _ _ _ _ _ h => h) (by simp only [List.getElem?_toArray, List.getElem?_cons_succ, List.getElem?_cons_zero]; rfl) (by kernel_rfl) (by kernel_rfl) (by kernel_rfl) (by rfl) ?_ hHeld ?_; rotate_left; · (intro w hSw; (try dsimp only at hSw); go_simp; (try with_reducible rfl))
        try simp only [Act.put, List.setIfInBounds_toArray, List.set_cons_zero, List.set_cons_succ]
        refine wpAnyH_takeQ 40 (v := ?_) (fun _ _ _ _ _ h => h) (by simp only [List.getElem?_toArray, List.getElem?_cons_succ, List.getElem?_cons_zero]; rfl) (by kernel_rfl) (by kernel_rfl) (by kernel_rfl) (by rfl) ?_ hHeld ?_; rotate_left; · (intro w hSw; (try dsimp only at hSw); go_simp; (try with_reducible rfl))
        try simp only [Act.put, List.setIfInBounds_toArray, List.set_cons_zero, List.set_cons_succ]
        refine wpAnyH_takeQ 41 (v := ?_) (fun _ _ _ _ _ h => h) (by simp only [List.getElem?_toArray, List.getElem?_cons_succ, List.getElem?_cons_zero]; rfl) (by kernel_rfl) (by kernel_rfl) (by kernel_rfl) (by rfl) ?_ hHeld ?_; rotate_left; · (intro w hSw; (try dsimp only at hSw); go_simp; (try with_reducible rfl))
        try simp only [Act.put, List.setIfInBounds_toArray, List.set_cons_zero, List.set_cons_succ]
        refine wpAnyH_takeQ 42 (v := ?_) (fun _ _ _ _ _ h => h) (by simp only [List.getElem?_toArray, List.getElem?_cons_succ, List.getElem?_cons_zero]; rfl) (by kernel_rfl) (by kernel_rfl) (by kernel_rfl) (by rfl) ?_ hHeld ?_; rotate_left; · (intro w hSw; (try dsimp only at hSw); go_simp; (try with_reducible rfl))
        try simp only [Act.put, List.setIfInBounds_toArray, List.set_cons_zero, List.set_cons_succ]
        refine wpAnyH_takeQ 43 (v := ?_) (fun _ _ _ _ _ h => h) (by simp only [List.getElem?_toArray, List.getElem?_cons_succ, List.getElem?_cons_zero]; rfl) (by kernel_rfl) (by kernel_rfl) (by kernel_rfl) (by rfl) ?_ hHeld ?_; rotate_left; · (intro w hSw; (try dsimp only at hSw); go_simp; (try with_reducible rfl))
        try simp only [Act.put, List.setIfInBounds_toArray, List.set_cons_zero, List.set_cons_succ]
        refine wpAnyH_takeQ 44 (v := ?_) (fun _ _ _ _ _ h => h) (by simp only [List.getElem?_toArray, List.getElem?_cons_succ, List.getElem?_cons_zero]; rfl) (by kernel_rfl) (by kernel_rfl) (by kernel_rfl) (by rfl) ?_ hHeld ?_; rotate_left; · (intro w hSw; (try dsimp only at hSw); go_simp; (try with_reducible rfl))
        try simp only [Act.put, List.setIfInBounds_toArray, List.set_cons_zero, List.set_cons_succ]
        refine wpAnyH_takeQ 45 (v := ?_) (fun _ _ _ _ _ h => h) (by simp only [List.getElem?_toArray, List.getElem?_cons_succ, List.getElem?_cons_zero]; rfl) (by kernel_rfl) (by kernel_rfl) (by kernel_rfl) (by rfl) ?_ hHeld ?_; rotate_left; · (intro w hSw; (try dsimp only at hSw); go_simp; (try with_reducible rfl))
        try simp only [Act.put, List.setIfInBounds_toArray, List.set_cons_zero, List.set_cons_succ]
        refine wpAnyH_takeQ 46 (v := ?_) (fun _ _ _ _ _ h => h) (by simp only [List.getElem?_toArray, List.getElem?_cons_succ, List.getElem?_cons_zero]; rfl) (by kernel_rfl) (by kernel_rfl) (by kernel_rfl) (by rfl) ?_ hHeld ?_; rotate_left; · (intro w hSw; (try dsimp only at hSw); go_simp; (try with_reducible rfl))
        try simp only [Act.put, List.setIfInBounds_toArray, List.set_cons_zero, List.set_cons_succ]
        refine wpAnyH_takeQ 47 (v := ?_) (fun _ _ _ _ _ h => h) (by simp only [List.getElem?_toArray, List.getElem?_cons_succ, List.getElem?_cons_zero]; rfl) (by kernel_rfl) (by kernel_rfl) (by kernel_rfl) (by rfl) ?_ hHeld ?_; rotate_left; · (intro w hSw; (try dsimp only at hSw); go_simp; (try with_reducible rfl))
        try simp only [Act.put, List.setIfInBounds_toArray, List.set_cons_zero, List.set_cons_succ]
        refine wpAnyH_takeQ 49 (v := ?_) (fun _ _ _ _ _ h => h) (by simp only [List.getElem?_toArray, List.getElem?_cons_succ, List.getElem?_cons_zero]; rfl) (by kernel_rfl) (by kernel_rfl) (by kernel_rfl) (by rfl) ?_ hHeld ?_; rotate_left; · (intro w hSw; (try dsimp only at hSw); go_simp; (try with_reducible rfl))
        try simp only [Act.put, List.setIfInBounds_toArray, List.set_cons_zero, List.set_cons_succ]
        refine wpAnyH_ready (rs := [48]) (by kernel_rfl) (by simp) ?_
        refine AllReadyH.cons (by simp only [List.getElem?_toArray, List.getElem?_cons_succ, List.getElem?_cons_zero]; rfl) (fun K hK => ?_) AllReadyH.nil
        go_simp
        clear hHeld
        refine (qtext_str2 (k := 6) (by exact R_a.out) (by omega) (by omega) (by exact HT.out)).mono ?_
        rintro e w35 ⟨t1, rfl, ht1, hb⟩
        replace HT := Lib.hid (HT.out.below hb)
        replace R_a := Lib.hid (R_a.out.below hb)
        replace R_b := Lib.hid (R_b.out.below hb)
        replace R_c := Lib.hid (R_c.out.below hb)
        replace Q_z := Lib.hid (Q_z.out.below hb)
        replace Q_h := Lib.hid (Q_h.out.below hb)
        replace B_a := Lib.hid (B_a.out.below hb)
        replace B_b := Lib.hid (B_b.out.below hb)
        replace B_c := Lib.hid (B_c.out.below hb)
        replace B_z := Lib.hid (B_z.out.below hb)
        replace B_h := Lib.hid (B_h.out.below hb)
        replace hB := below_next hB hb
        clear hb
        have Ht1 := Lib.hid ht1
        clear ht1
        go_wp2_with fail
        refine hK.out _ _ (by exact ⟨B_a.out.c3, B_b.out.c3⟩) (fun hHeld => ?_)
        clear hK K
        try simp only [Act.put, List.setIfInBounds_toArray, List.set_cons_zero, List.set_cons_succ]
        refine wpAnyH_ready (rs := [50]) (by kernel_rfl) (by simp) ?_
        refine AllReadyH.cons (by simp only [List.getElem?_toArray, List.getElem?_cons_succ, List.getElem?_cons_zero]; rfl) (fun K hK => ?_) AllReadyH.nil
        go_simp
        clear hHeld
        refine (qtext_str2 (k := 6) (by exact R_b.out) (by omega) (by omega) (by exact HT.out)).mono ?_
        rintro e w36 ⟨t2, rfl, ht2, hb⟩
        replace HT := Lib.hid (HT.out.below hb)
        replace R_a := Lib.hid (R_a.out.below hb)
        replace R_b := Lib.hid (R_b.out.below hb)
        replace R_c := Lib.hid (R_c.out.below hb)
        replace Q_z := Lib.hid (Q_z.out.below hb)
        replace Q_h := Lib.hid (Q_h.out.below hb)
        replace B_a := Lib.hid (B_a.out.below hb)
        replace B_b := Lib.hid (B_b.out.below hb)
        replace B_c := Lib.hid (B_c.out.below hb)
        replace B_z := Lib.hid (B_z.out.below hb)
        replace B_h := Lib.hid (B_h.out.below hb)
        replace hB := below_next hB hb
        clear hb
        have Ht2 := Lib.hid ht2
        clear ht2
        obtain rfl : t1 = t2 := bytes_ext (by rw [Ht1.out, Ht2.out, H1.out])
        clear Ht2
        go_wp2_with fail
        refine hK.out _ _ (by exact ⟨B_a.out.c3, B_b.out.c3⟩) (fun hHeld => ?_)
        clear hK K
        try simp only [Act.put, List.setIfInBounds_toArray, List.set_cons_zero, List.set_cons_succ]
        refine wpAnyH_takeQ 51 (v := ?_) (fun _ _ _ _ _ h => h) (by simp only [List.getElem?_toArray, List.getElem?_cons_succ, List.getElem?_cons_zero]; rfl) (by kernel_rfl) (by kernel_rfl) (by kernel_rfl) (by rfl) ?_ hHeld ?_; rotate_left; · (intro w hSw; (try dsimp only at hSw); go_simp; (try with_reducible rfl))
        try simp only [Act.put, List.setIfInBounds_toArray, List.set_cons_zero, List.set_cons_succ]
        refine wpAnyH_takeQ 52 (v := ?_) (fun _ _ _ _ _ h => h) (by simp only [List.getElem?_toArray, List.getElem?_cons_succ, List.getElem?_cons_zero]; rfl) (by kernel_rfl) (by kernel_rfl) (by kernel_rfl) (by rfl) ?_ hHeld ?_; rotate_left; · (intro w hSw; (try dsimp only at hSw); go_simp; (try with_reducible rfl))
        try simp only [Act.put, List.setIfInBounds_toArray, List.set_cons_zero, List.set_cons_succ]
        refine wpAnyH_takeQ 53 (v := ?_) (fun _ _ _ _ _ h => h) (by simp only [List.getElem?_toArray, List.getElem?_cons_succ, List.getElem?_cons_zero]; rfl) (by kernel_rfl) (by kernel_rfl) (by kernel_rfl) (by rfl) ?_ hHeld ?_; rotate_left; · (intro w hSw; (try dsimp only at hSw); go_simp; (try with_reducible rfl))
        try simp only [Act.put, List.setIfInBounds_toArray, List.set_cons_zero, List.set_cons_succ]
        refine wpAnyH_done (by kernel_rfl) (NoPanic.normal ?_) _
        clear hHeld
        go_wp2_with fail
        go_meet
        exact ⟨rfl, HT.out, R_a.out, R_b.out, R_c.out, Q_z.out, Q_h.out, B_a.out, B_b.out, B_c.out, B_z.out, B_h.out, hB⟩
    · obtain rfl : x = 1 := HX.out.symm.trans e1
      by_cases h2 : q_c ≤ q_b
      · skip
        have y1 : decide (0 ≤ y) = true := by rw [← HY.out]; exact decide_eq_true (qord_ge h2)
        have z2 : decide (z < 0) = false := by rw [← HZ.out]; have := qord_ge (Rat.le_trans h2 (Rat.le_of_lt h1)); simp; omega
        have H1 := Lib.hid h1
        clear h1 h2 e1
        refine wp_region_named (S := (fun w' => (w'.cell? ⟨w.heap.size, 0, none⟩ = some (.bool b_a) ∧ w'.cell? ⟨w.heap.size, 1, none⟩ = some m_a ∧ w'.cell? ⟨w.heap.size, 2, none⟩ = some d_a) ∧ (w'.cell? ⟨w.heap.size + 1, 0, none⟩ = some (.bool b_b) ∧ w'.cell? ⟨w.heap.size + 1, 1, none⟩ = some m_b ∧ w'.cell? ⟨w.heap.size + 1, 2, none⟩ = some d_b))) (by kernel_rfl) (by exact ⟨B_a.out.c3, B_b.out.c3⟩) (fun V37 hb hHeld => ?_)
        replace HT := Lib.hid (HT.out.below hb)
        replace R_a := Lib.hid (R_a.out.below hb)
        replace R_b := Lib.hid (R_b.out.below hb)
        replace R_c := Lib.hid (R_c.out.below hb)
        replace Q_z := Lib.hid (Q_z.out.below hb)
        replace Q_h := Lib.hid (Q_h.out.below hb)
        replace B_a := Lib.hid (B_a.out.below hb)
        replace B_b := Lib.hid (B_b.out.below hb)
        replace B_c := Lib.hid (B_c.out.below hb)
        replace B_z := Lib.hid (B_z.out.below hb)
        replace B_h := Lib.hid (B_h.out.below hb)
        replace hB := below_next hB hb
        clear hb
        refine wpAnyH_takeQ 0 (v := ?_) (fun _ _ _ _ _ h => h) (by simp only [List.getElem?_toArray, List.getElem?_cons_zero]; rfl) (by kernel_rfl) (by kernel_rfl) (by kernel_rfl) (by rfl) ?_ hHeld ?_; rotate_left; · (intro w hSw; (try dsimp only at hSw); go_simp; (try with_reducible rfl))
        try simp only [Act.put, List.setIfInBounds_toArray, List.set_cons_zero, List.set_cons_succ]
        refine wpAnyH_takeQ 1 (v := ?_) (fun _ _ _ _ _ h => h) (by simp only [List.getElem?_toArray, List.getElem?_cons_succ, List.getElem?_cons_zero]; rfl) (by kernel_rfl) (by kernel_rfl) (by kernel_rfl) (by rfl) ?_ hHeld ?_; rotate_left; · (intro w hSw; (try dsimp only at hSw); go_simp; (try with_reducible rfl))
        try simp only [Act.put, List.setIfInBounds_toArray, List.set_cons_zero, List.set_cons_succ]
        refine wpAnyH_takeQ 2 (v := ?_) (fun _ _ _ _ _ h => h) (by simp only [List.getElem?_toArray, List.getElem?_cons_succ, List.getElem?_cons_zero]; rfl) (by kernel_rfl) (by kernel_rfl) (by kernel_rfl) (by rfl) ?_ hHeld ?_; rotate_left; · (intro w hSw; (try dsimp only at hSw); go_simp; (try with_reducible rfl))
        try simp only [Act.put, List.setIfInBounds_toArray, List.set_cons_zero, List.set_cons_succ]
        refine wpAnyH_takeQ 3 (v := ?_) (fun _ _ _ _ _ h => h) (by simp only [List.getElem?_toArray, List.getElem?_cons_succ, List.getElem?_cons_zero]; rfl) (by kernel_rfl) (by kernel_rfl) (by kernel_rfl) (by rfl) ?_ hHeld ?_; rotate_left; · (intro w hSw; (try dsimp only at hSw); go_simp; (try with_reducible rfl))
        try simp only [Act.put, List.setIfInBounds_toArray, List.set_cons_zero, List.set_cons_succ]
        refine wpAnyH_takeQ 4 (v := ?_) (fun _ _ _ _ _ h => h) (by simp only [List.getElem?_toArray, List.getElem?_cons_succ, List.getElem?_cons_zero]; rfl) (by kernel_rfl) (by kernel_rfl) (by kernel_rfl) (by rfl) ?_ hHeld ?_; rotate_left; · (intro w hSw; (try dsimp only at hSw); go_simp; (try with_reducible rfl))
        try simp only [Act.put, List.setIfInBounds_toArray, List.set_cons_zero, List.set_cons_succ]
        refine wpAnyH_takeQ 5 (v := ?_) (fun _ _ _ _ _ h => h) (by simp only [List.getElem?_toArray, List.getElem?_cons_succ, List.getElem?_cons_zero]; rfl) (by kernel_rfl) (by kernel_rfl) (by kernel_rfl) (by rfl) ?_ hHeld ?_; rotate_left; · (intro w hSw; (try dsimp only at hSw); go_simp; (try with_reducible rfl))
        try simp only [Act.put, List.setIfInBounds_toArray, List.set_cons_zero, List.set_cons_succ]
        refine wpAnyH_takeQ 6 (v := ?_) (fun _ _ _ _ _ h => h) (by simp only [List.getElem?_toArray, List.getElem?_cons_succ, List.getElem?_cons_zero]; rfl) (by kernel_rfl) (by kernel_rfl) (by kernel_rfl) (by rfl) ?_ hHeld ?_; rotate_left; · (intro w hSw; (try dsimp only at hSw); go_simp; (try with_reducible rfl))
        try simp only [Act.put, List.setIfInBounds_toArray, List.set_cons_zero, List.set_cons_succ]
        refine wpAnyH_takeQ 7 (v := ?_) (fun _ _ _ _ _ h => h) (by simp only [List.getElem?_toArray, List.getElem?_cons_succ, List.getElem?_cons_zero]; rfl) (by kernel_rfl) (by kernel_rfl) (by kernel_rfl) (by rfl) ?_ hHeld ?_; rotate_left; · (intro w hSw; (try dsimp only at hSw); go_simp; (try with_reducible rfl))
        try simp only [Act.put, List.setIfInBounds_toArray, List.set_cons_zero, List.set_cons_succ]
        refine wpAnyH_takeQ 8 (v := ?_) (fun _ _ _ _ _ h => h) (by simp only [List.getElem?_toArray, List.getElem?_cons_succ, List.getElem?_cons_zero]; rfl) (by kernel_rfl) (by kernel_rfl) (by kernel_rfl) (by rfl) ?_ hHeld ?_; rotate_left; · (intro w hSw; (try dsimp only at hSw); go_simp; (try with_reducible rfl))
        try simp only [Act.put, List.setIfInBounds_toArray, List.set_cons_zero, List.set_cons_succ]
        refine wpAnyH_takeQ 10 (v := ?_) (fun _ _ _ _ _ h => h) (by simp only [List.getElem?_toArray, List.getElem?_cons_succ, List.getElem?_cons_zero]; rfl) (by kernel_rfl) (by kernel_rfl) (by kernel_rfl) (by rfl) ?_ hHeld ?_; rotate_left; · (intro w hSw; (try dsimp only at hSw); go_simp; (try with_reducible rfl))
        try simp only [Act.put, List.setIfInBounds_toArray, List.set_cons_zero, List.set_cons_succ]
        refine wpAnyH_takeQ 11 (v := ?_) (fun _ _ _ _ _ h => h) (by simp only [List.getElem?_toArray, List.getElem?_cons_succ, List.getElem?_cons_zero]; rfl) (by kernel_rfl) (by kernel_rfl) (by kernel_rfl) (by rfl) ?_ hHeld ?_; rotate_left; · (intro w hSw; (try dsimp only at hSw); go_simp; (try with_reducible rfl))
        try simp only [Act.put, List.setIfInBounds_toArray, List.set_cons_zero, List.set_cons_succ]
        refine wpAnyH_ready (rs := [9]) (by kernel_rfl) (by simp) ?_
        refine AllReadyH.cons (by simp only [List.getElem?_toArray, List.getElem?_cons_succ, List.getElem?_cons_zero]; rfl) (fun K hK => ?_) AllReadyH.nil
        go_simp
        clear hHeld
        refine (qcmp_is (k := 6) (j := 6) (v := -1) (by exact R_b.out) (by exact R_a.out) (by omega) (by omega) (by omega) (by omega) (by have h := H1.out; exact qord_lt h)).mono ?_
        rintro e w38 ⟨rfl, hb⟩
        replace HT := Lib.hid (HT.out.below hb)
        replace R_a := Lib.hid (R_a.out.below hb)
        replace R_b := Lib.hid (R_b.out.below hb)
        replace R_c := Lib.hid (R_c.out.below hb)
        replace Q_z := Lib.hid (Q_z.out.below hb)
        replace Q_h := Lib.hid (Q_h.out.below hb)
        replace B_a := Lib.hid (B_a.out.below hb)
        replace B_b := Lib.hid (B_b.out.below hb)
        replace B_c := Lib.hid (B_c.out.below hb)
        replace B_z := Lib.hid (B_z.out.below hb)
        replace B_h := Lib.hid (B_h.out.below hb)
        replace hB := below_next hB hb
        clear hb
        go_wp2_with fail
        refine hK.out _ _ (by exact ⟨B_a.out.c3, B_b.out.c3⟩) (fun hHeld => ?_)
        clear hK K
        try simp only [Act.put, List.setIfInBounds_toArray, List.set_cons_zero, List.set_cons_succ]
        refine wpAnyH_takeQ 12 (v := ?_) (fun _ _ _ _ _ h => h) (by simp only [List.getElem?_toArray, List.getElem?_cons_succ, List.getElem?_cons_zero]; rfl) (by kernel_rfl) (by kernel_rfl) (by kernel_rfl) (by rfl) ?_ hHeld ?_; rotate_left; · (intro w hSw; (try dsimp only at hSw); go_simp; (try with_reducible rfl))
        try simp only [Act.put, List.setIfInBounds_toArray, List.set_cons_zero, List.set_cons_succ]
        refine wpAnyH_takeQ 13 (v := ?_) (fun _ _ _ _ _ h => h) (by simp only [List.getElem?_toArray, List.getElem?_cons_succ, List.getElem?_cons_zero]; rfl) (by kernel_rfl) (by kernel_rfl) (by kernel_rfl) (by rfl) ?_ hHeld ?_; rotate_left; · (intro w hSw; (try dsimp only at hSw); go_simp; (try with_reducible rfl))
        try simp only [Act.put, List.setIfInBounds_toArray, List.set_cons_zero, List.set_cons_succ]
        refine wpAnyH_takeQ 14 (v := ?_) (fun _ _ _ _ _ h => h) (by simp only [List.getElem?_toArray, List.getElem?_cons_succ, List.getElem?_cons_zero]; rfl) (by kernel_rfl) (by kernel_rfl) (by kernel_rfl) (by rfl) ?_ hHeld ?_; rotate_left; · (intro w hSw; (try dsimp only at hSw); go_simp; (try with_reducible rfl))
        try simp only [Act.put, List.setIfInBounds_toArray, List.set_cons_zero, List.set_cons_succ]
        refine wpAnyH_takeQ 15 (v := ?_) (fun _ _ _ _ _ h => h) (by simp only [List.getElem?_toArray, List.getElem?_cons_succ, List.getElem?_cons_zero]; rfl) (by kernel_rfl) (by kernel_rfl) (by kernel_rfl) (by rfl) ?_ hHeld ?_; rotate_left; · (intro w hSw; (try dsimp only at hSw); go_simp; (try with_reducible rfl))
        try simp only [Act.put, List.setIfInBounds_toArray, List.set_cons_zero, List.set_cons_succ]
        refine wpAnyH_takeQ 16 (v := ?_) (fun _ _ _ _ _ h => h) (by simp only [List.getElem?_toArray, List.getElem?_cons_succ, List.getElem?_cons_zero]; rfl) (by kernel_rfl) (by kernel_rfl) (by kernel_rfl) (by rfl) ?_ hHeld ?_; rotate_left; · (intro w hSw; (try dsimp only at hSw); go_simp; (try with_reducible rfl))
        try simp only [Act.put, List.setIfInBounds_toArray, List.set_cons_zero, List.set_cons_succ]
        refine wpAnyH_ready (rs := [17]) (by kernel_rfl) (by simp) ?_
        refine AllReadyH.cons (by simp only [List.getElem?_toArray, List.getElem?_cons_succ, List.getElem?_cons_zero]; rfl) (fun K hK => ?_) AllReadyH.nil
        go_simp
        clear hHeld
        refine (qcmp_is (k := 6) (j := 6) (v := 0) (by exact R_a.out) (by exact R_a.out) (by omega) (by omega) (by omega) (by omega) (by exact qord_self _)).mono ?_
        rintro e w39 ⟨rfl, hb⟩
        replace HT := Lib.hid (HT.out.below hb)
        replace R_a := Lib.hid (R_a.out.below hb)
        replace R_b := Lib.hid (R_b.out.below hb)
        replace R_c := Lib.hid (R_c.out.below hb)
        replace Q_z := Lib.hid (Q_z.out.below hb)
        replace Q_h := Lib.hid (Q_h.out.below hb)
        replace B_a := Lib.hid (B_a.out.below hb)
        replace B_b := Lib.hid (B_b.out.below hb)
        replace B_c := Lib.hid (B_c.out.below hb)
        replace B_z := Lib.hid (B_z.out.below hb)
        replace B_h := Lib.hid (B_h.out.below hb)
        replace hB := below_next hB hb
        clear hb
        go_wp2_with fail
        refine hK.out _ _ (by exact ⟨B_a.out.c3, B_b.out.c3⟩) (fun hHeld => ?_)
        clear hK K
        try simp only [Act.put, List.setIfInBounds_toArray, List.set_cons_zero, List.set_cons_succ]
        refine wpAnyH_takeQ 18 (v := ?_) (fun _ _ _ _ _ h => h) (by simp only [List.getElem?_toArray, List.getElem?_cons_succ, List.getElem?_cons_zero]; rfl) (by kernel_rfl) (by kernel_rfl) (by kernel_rfl) (by rfl) ?_ hHeld ?_; rotate_left; · (intro w hSw; (try dsimp only at hSw); go_simp; (try with_reducible rfl))
        try simp only [Act.put, List.setIfInBounds_toArray, List.set_cons_zero, List.set_cons_succ]
        refine wpAnyH_takeQ 19 (v := ?_) (fun _ _ _ _ _ h => h) (by simp only [List.getElem?_toArray, List.getElem?_cons_succ, List.getElem?_cons_zero]; rfl) (by kernel_rfl) (by kernel_rfl) (by kernel_rfl) (by rfl) ?_ hHeld ?_; rotate_left; · (intro w hSw; (try dsimp only at hSw); go_simp; (try with_reducible rfl))
        try simp only [Act.put, List.setIfInBounds_toArray, List.set_cons_zero, List.set_cons_succ]
        refine wpAnyH_takeQ 20 (v := ?_) (fun _ _ _ _ _ h => h) (by simp only [List.getElem?_toArray, List.getElem?_cons_succ, List.getElem?_cons_zero]; rfl) (by kernel_rfl) (by kernel_rfl) (by kernel_rfl) (by rfl) ?_ hHeld ?_; rotate_left; · (intro w hSw; (try dsimp only at hSw); go_simp; (try with_reducible rfl))
        try simp only [Act.put, List.setIfInBounds_toArray, List.set_cons_zero, List.set_cons_succ]
        refine wpAnyH_takeQ 21 (v := ?_) (fun _ _ _ _ _ h => h) (by simp only [List.getElem?_toArray, List.getElem?_cons_succ, List.getElem?_cons_zero]; rfl) (by kernel_rfl) (by kernel_rfl) (by kernel_rfl) (by rfl) ?_ hHeld ?_; rotate_left; · (intro w hSw; (try dsimp only at hSw); go_simp; (try with_reducible rfl))
        try simp only [Act.put, List.setIfInBounds_toArray, List.set_cons_zero, List.set_cons_succ]
        refine wpAnyH_takeQ 22 (v := ?_) (fun _ _ _ _ _ h => h) (by simp only [List.getElem?_toArray, List.getElem?_cons_succ, List.getElem?_cons_zero]; rfl) (by kernel_rfl) (by kernel_rfl) (by kernel_rfl) (by rfl) ?_ hHeld ?_; rotate_left; · (intro w hSw; (try dsimp only at hSw); go_simp; (try with_reducible rfl))
        try simp only [Act.put, List.setIfInBounds_toArray, List.set_cons_zero, List.set_cons_succ]
        refine wpAnyH_takeQ 23 (v := ?_) (fun _ _ _ _ _ h => h) (by simp only [List.getElem?_toArray, List.getElem?_cons_succ, List.getElem?_cons_zero]; rfl) (by kernel_rfl) (by kernel_rfl) (by kernel_rfl) (by rfl) ?_ hHeld ?_; rotate_left; · (intro w hSw; (try dsimp only at hSw); go_simp; (try with_reducible rfl))
        try simp only [Act.put, List.setIfInBounds_toArray, List.set_cons_zero, List.set_cons_succ]
        refine wpAnyH_skipQ 24 (fun _ _ _ _ _ h => h) (by simp only [List.getElem?_toArray, List.getElem?_cons_succ, List.getElem?_cons_zero]; rfl) (by kernel_rfl) (by kernel_rfl) (by kernel_rfl) (by rfl) hHeld ?_
        try simp only [Act.put, List.setIfInBounds_toArray, List.set_cons_zero, List.set_cons_succ]
        refine wpAnyH_skipQ 25 (fun _ _ _ _ _ h => h) (by simp only [List.getElem?_toArray, List.getElem?_cons_succ, List.getElem?_cons_zero]; rfl) (by kernel_rfl) (by kernel_rfl) (by kernel_rfl) (by rfl) hHeld ?_
        try simp only [Act.put, List.setIfInBounds_toArray, List.set_cons_zero, List.set_cons_succ]
        refine wpAnyH_takeQ 26 (v := ?_) (fun _ _ _ _ _ h => h) (by simp only [List.getElem?_toArray, List.getElem?_cons_succ, List.getElem?_cons_zero]; rfl) (by kernel_rfl) (by kernel_rfl) (by kernel_rfl) (by rfl) ?_ hHeld ?_; rotate_left; · (intro w hSw; (try dsimp only at hSw); go_simp; (try with_reducible rfl))
        try simp only [Act.put, List.setIfInBounds_toArray, List.set_cons_zero, List.set_cons_succ]
        refine wpAnyH_takeQ 27 (v := ?_) (fun _ _ _ _ _ h => h) (by simp only [List.getElem?_toArray, List.getElem?_cons_succ, List.getElem?_cons_zero]; rfl) (by kernel_rfl) (by kernel_rfl) (by kernel_rfl) (by rfl) ?_ hHeld ?_; rotate_left; · (intro w hSw; (try dsimp only at hSw); go_simp; (try with_reducible rfl))
        try simp only [Act.put, List.setIfInBounds_toArray, List.set_cons_zero, List.set_cons_succ]
        refine wpAnyH_skipQ 28 (fun _ _ _ _ _ h => h) (by simp only [List.getElem?_toArray, List.getElem?_cons_succ, List.getElem?_cons_zero]; rfl) (by kernel_rfl) (by kernel_rfl) (by kernel_rfl) (by rfl) hHeld ?_
        try simp only [Act.put, List.setIfInBounds_toArray, List.set_cons_zero, List.set_cons_succ]
        refine wpAnyH_skipQ 29 (fun _ _ _ _ _ h => h) (by simp only [List.getElem?_toArray, List.getElem?_cons_succ, List.getElem?_cons_zero]; rfl) (by kernel_rfl) (by kernel_rfl) (by kernel_rfl) (by rfl) hHeld ?_
        try simp only [Act.put, List.setIfInBounds_toArray, List.set_cons_zero, List.set_cons_succ]
        refine wpAnyH_takeQ 30 (v := ?_) (fun _ _ _ _ _ h => h) (by simp only [List.getElem?_toArray, List.getElem?_cons_succ, List.getElem?_cons_zero]; rfl) (by kernel_rfl) (by kernel_rfl) (by kernel_rfl) (by rfl) ?_ hHeld ?_; rotate_left; · (intro w hSw; (try dsimp only at hSw); go_simp; (try with_reducible rfl))
        try simp only [Act.put, List.setIfInBounds_toArray, List.set_cons_zero, List.set_cons_succ]
        refine wpAnyH_takeQ 31 (v := ?_) (fun _ _ _ _ _ h => h) (by simp only [List.getElem?_toArray, List.getElem?_cons_succ, List.getElem?_cons_zero]; rfl) (by kernel_rfl) (by kernel_rfl) (by kernel_rfl) (by rfl) ?_ hHeld ?_; rotate_left; · (intro w hSw; (try dsimp only at hSw); go_simp; (try with_reducible rfl))
        try simp only [Act.put, List.setIfInBounds_toArray, List.set_cons_zero, List.set_cons_succ]
        refine wpAnyH_takeQ 32 (v := ?_) (fun _ _ _ _ _ h => h) (by simp only [List.getElem?_toArray, List.getElem?_cons_succ, List.getElem?_cons_zero]; rfl) (by kernel_rfl) (by kernel_rfl) (by kernel_rfl) (by rfl) ?_ hHeld ?_; rotate_left; · (intro w hSw; (try dsimp only at hSw); go_simp; (try with_reducible rfl))
        try simp only [Act.put, List.setIfInBounds_toArray, List.set_cons_zero, List.set_cons_succ]
        refine wpAnyH_takeQ 33 (v := ?_) (fun _ _ _ _ _ h => h) (by simp only [List.getElem?_toArray, List.getElem?_cons_succ, List.getElem?_cons_zero]; rfl) (by kernel_rfl) (by kernel_rfl) (by kernel_rfl) (by rfl) ?_ hHeld ?_; rotate_left; · (intro w hSw; (try dsimp only at hSw); go_simp; (try with_reducible rfl))
        try simp only [Act.put, List.setIfInBounds_toArray, List.set_cons_zero, List.set_cons_succ]
        refine wpAnyH_takeQ 34 (v := ?_) (fun _ _ _ _ _ h => h) (by simp only [List.getElem?_toArray, List.getElem?_cons_succ, List.getElem?_cons_zero]; rfl) (by kernel_rfl) (by kernel_rfl) (by kernel_rfl) (by rfl) ?_ hHeld ?_; rotate_left; · (intro w hSw; (try dsimp only at hSw); go_simp; (try with_reducible rfl))
        try simp only [Act.put, List.setIfInBounds_toArray, List.set_cons_zero, List.set_cons_succ]
        refine wpAnyH_takeQ 35 (v := ?_) (fun _ _ _ _ _ h => h) (by simp only [List.getElem?_toArray, List.getElem?_cons_succ, List.getElem?_cons_zero]; rfl) (by kernel_rfl) (by kernel_rfl) (by kernel_rfl) (by rfl) ?_ hHeld ?_; rotate_left; · (intro w hSw; (try dsimp only at hSw); go_simp; (try with_reducible rfl))
        try simp only [Act.put, List.setIfInBounds_toArray, List.set_cons_zero, List.set_cons_succ]
        refine wpAnyH_takeQ 36 (v := ?_) (fun _ _ _ _ _ h => h) (by simp only [List.getElem?_toArray, List.getElem?_cons_succ, List.getElem?_cons_zero]; rfl) (by kernel_rfl) (by kernel_rfl) (by kernel_rfl) (by rfl) ?_ hHeld ?_; rotate_left; · (intro w hSw; (try dsimp only at hSw); go_simp; (try with_reducible rfl))
        try simp only [Act.put, List.setIfInBounds_toArray, List.set_cons_zero, List.set_cons_succ]
        refine wpAnyH_takeQ 37 (v := ?_) (fun _ _ _ _ _ h => h) (by simp only [List.getElem?_toArray, List.getElem?_cons_succ, List.getElem?_cons_zero]; rfl) (by kernel_rfl) (by kernel_rfl) (by kernel_rfl) (by rfl) ?_ hHeld ?_; rotate_left; · (intro w hSw; (try dsimp only at hSw); go_simp; (try with_reducible rfl))
        try simp only [Act.put, List.setIfInBounds_toArray, List.set_cons_zero, List.set_cons_succ]
        refine wpAnyH_takeQ 38 (v := ?_) (fun _ _ _ _ _ h => h) (by simp only [List.getElem?_toArray, List.getElem?_cons_succ, List.getElem?_cons_zero]; rfl) (by kernel_rfl) (by kernel_rfl) (by kernel_rfl) (by rfl) ?_ hHeld ?_; rotate_left; · (intro w hSw; (try dsimp only at hSw); go_simp; (try with_reducible rfl))
        try simp only [Act.put, List.setIfInBounds_toArray, List.set_cons_zero, List.set_cons_succ]
        refine wpAnyH_takeQ 39 (v := ?_) (fun _ _ _ _ _ h => h) (by simp only [List.getElem?_toArray, List.getElem?_cons_succ, List.getElem?_cons_zero]; rfl) (by kernel_rfl) (by kernel_rfl) (by kernel_rfl) (by rfl) ?_ hHeld ?_; rotate_left; · (intro w hSw; (try dsimp only at hSw); go_simp; (try with_reducible rfl))
        try simp only [Act.put, List.setIfInBounds_toArray, List.set_cons_zero, List.set_cons_succ]
        refine wpAnyH_takeQ 40 (v := ?_) (fun _ _ _ _ _ h => h) (by simp only [List.getElem?_toArray, List.getElem?_cons_succ, List.getElem?_cons_zero]; rfl) (by kernel_rfl) (by kernel_rfl) (by kernel_rfl) (by rfl) ?_ hHeld ?_; rotate_left; · (intro w hSw; (try dsimp only at hSw); go_simp; (try with_reducible rfl))
        try simp only [Act.put, List.setIfInBounds_toArray, List.set_cons_zero, List.set_cons_succ]
        refine wpAnyH_takeQ 41 (v := ?_) (fun _ _ _ _ _ h => h) (by simp only [List.getElem?_toArray, List.getElem?_cons_succ, List.getElem?_cons_zero]; rfl) (by kernel_rfl) (by kernel_rfl) (by kernel_rfl) (by rfl) ?_ hHeld ?_; rotate_left; · (intro w hSw; (try dsimp only at hSw); go_simp; (try with_reducible rfl))
        try simp only [Act.put, List.setIfInBounds_toArray, List.set_cons_zero, List.set_cons_succ]
        refine wpAnyH_takeQ 42 (v := ?_) (fun _ _ _ _ _ h => h) (by simp only [List.getElem?_toArray, List.getElem?_cons_succ, List.getElem?_cons_zero]; rfl) (by kernel_rfl) (by kernel_rfl) (by kernel_rfl) (by rfl) ?_ hHeld ?_; rotate_left; · (intro w hSw; (try dsimp only at hSw); go_simp; (try with_reducible rfl))
        try simp only [Act.put, List.setIfInBounds_toArray, List.set_cons_zero, List.set_cons_succ]
        refine wpAnyH_takeQ 43 (v := ?_) (fun _ _ _ _ _ h => h) (by simp only [List.getElem?_toArray, List.getElem?_cons_succ, List.getElem?_cons_zero]; rfl) (by kernel_rfl) (by kernel_rfl) (by kernel_rfl) (by rfl) ?_ hHeld ?_; rotate_left; · (intro w hSw; (try dsimp only at hSw); go_simp; (try with_reducible rfl))
        try simp only [Act.put, List.setIfInBounds_toArray, List.set_cons_zero, List.set_cons_succ]
        refine wpAnyH_takeQ 44 (v := ?_) (fun _ _ _ _ _ h => h) (by simp only [List.getElem?_toArray, List.getElem?_cons_succ, List.getElem?_cons_zero]; rfl) (by kernel_rfl) (by kernel_rfl) (by kernel_rfl) (by rfl) ?_ hHeld ?_; rotate_left; · (intro w hSw; (try dsimp only at hSw); go_simp; (try with_reducible rfl))
        try simp only [Act.put, List.setIfInBounds_toArray, List.set_cons_zero, List.set_cons_succ]
        refine wpAnyH_takeQ 45 (v := ?_) (fun _ _ _ _ _ h => h) (by simp only [List.getElem?_toArray, List.getElem?_cons_succ, List.getElem?_cons_zero]; rfl) (by kernel_rfl) (by kernel_rfl) (by kernel_rfl) (by rfl) ?_ hHeld ?_; rotate_left; · (intro w hSw; (try dsimp only at hSw); go_simp; (try with_reducible rfl))
        try simp only [Act.put, List.setIfInBounds_toArray, List.set_cons_zero, List.set_cons_succ]
        refine wpAnyH_takeQ 46 (v := ?_) (fun _ _ _ _ _ h => h) (by simp only [List.getElem?_toArray, List.getElem?_cons_succ, List.getElem?_cons_zero]; rfl) (by kernel_rfl) (by kernel_rfl) (by kernel_rfl) (by rfl) ?_ hHeld ?_; rotate_left; · (intro w hSw; (try dsimp only at hSw); go_simp; (try with_reducible rfl))
        try simp only [Act.put, List.setIfInBounds_toArray, List.set_cons_zero, List.set_cons_succ]
        refine wpAnyH_takeQ 47 (v := ?_) (fun _ _ _ _ _ h => h) (by simp only [List.getElem?_toArray, List.getElem?_cons_succ, List.getElem?_cons_zero]; rfl) (by kernel_rfl) (by kernel_rfl) (by kernel_rfl) (by rfl) ?_ hHeld ?_; rotate_left; · (intro w hSw; (try dsimp only at hSw); go_simp; (try with_reducible rfl))
        try simp only [Act.put, List.setIfInBounds_toArray, List.set_cons_zero, List.set_cons_succ]
        refine wpAnyH_takeQ 49 (v := ?_) (fun _ _ _ _ _ h => h) (by simp only [List.getElem?_toArray, List.getElem?_cons_succ, List.getElem?_cons_zero]; rfl) (by kernel_rfl) (by kernel_rfl) (by kernel_rfl) (by rfl) ?_ hHeld ?_; rotate_left; · (intro w hSw; (try dsimp only at hSw); go_simp; (try with_reducible rfl))
        try simp only [Act.put, List.setIfInBounds_toArray, List.set_cons_zero, List.set_cons_succ]
        refine wpAnyH_ready (rs := [48]) (by kernel_rfl) (by simp) ?_
        refine AllReadyH.cons (by simp only [List.getElem?_toArray, List.getElem?_cons_succ, List.getElem?_cons_zero]; rfl) (fun K hK => ?_) AllReadyH.nil
        go_simp
        clear hHeld
        refine (qtext_str2 (k := 6) (by exact R_a.out) (by omega) (by omega) (by exact HT.out)).mono ?_
        rintro e w40 ⟨t1, rfl, ht1, hb⟩
        replace HT := Lib.hid (HT.out.below hb)
        replace R_a := Lib.hid (R_a.out.below hb)
        replace R_b := Lib.hid (R_b.out.below hb)
        replace R_c := Lib.hid (R_c.out.below hb)
        replace Q_z := Lib.hid (Q_z.out.below hb)
        replace Q_h := Lib.hid (Q_h.out.below hb)
        replace B_a := Lib.hid (B_a.out.below hb)
        replace B_b := Lib.hid (B_b.out.below hb)
        replace B_c := Lib.hid (B_c.out.below hb)
        replace B_z := Lib.hid (B_z.out.below hb)
        replace B_h := Lib.hid (B_h.out.below hb)
        replace hB := below_next hB hb
        clear hb
        have Ht1 := Lib.hid ht1
        clear ht1
        go_wp2_with fail
        refine hK.out _ _ (by exact ⟨B_a.out.c3, B_b.out.c3⟩) (fun hHeld => ?_)
        clear hK K
        try simp only [Act.put, List.setIfInBounds_toArray, List.set_cons_zero, List.set_cons_succ]
        refine wpAnyH_ready (rs := [50]) (by kernel_rfl) (by simp) ?_
        refine AllReadyH.cons (by simp only [List.getElem?_toArray, List.getElem?_cons_succ, List.getElem?_cons_zero]; rfl) (fun K hK => ?_) AllReadyH.nil
        go_simp
        clear hHeld
        refine (qtext_str2 (k := 6) (by exact R_b.out) (by omega) (by omega) (by exact HT.out)).mono ?_
        rintro e w41 ⟨t2, rfl, ht2, hb⟩
        replace HT := Lib.hid (HT.out.below hb)
        replace R_a := Lib.hid (R_a.out.below hb)
        replace R_b := Lib.hid (R_b.out.below hb)
        replace R_c := Lib.hid (R_c.out.below hb)
        replace Q_z := Lib.hid (Q_z.out.below hb)
        replace Q_h := Lib.hid (Q_h.out.below hb)
        replace B_a := Lib.hid (B_a.out.below hb)
        replace B_b := Lib.hid (B_b.out.below hb)
        replace B_c := Lib.hid (B_c.out.below hb)
        replace B_z := Lib.hid (B_z.out.below hb)
        replace B_h := Lib.hid (B_h.out.below hb)
        replace hB := below_next hB hb
        clear hb
        have Ht2 := Lib.hid ht2
        clear ht2
        have tb : (t1.toList == t2.toList) = false := by rw [beq_eq_false_iff_ne, Go.ByteArray.toList_eq, Go.ByteArray.toList_eq, Ht1.out, Ht2.out]; intro e; have h4 := H1.out; rw [qtext_inj e] at h4; exact Rat.lt_irrefl h4
        go_wp2_with fail
        refine hK.out _ _ (by exact ⟨B_a.out.c3, B_b.out.c3⟩) (fun hHeld => ?_)
        clear hK K
        try simp only [Act.put, List.setIfInBounds_toArray, List.set_cons_zero, List.set_cons_succ]
        refine wpAnyH_takeQ 51 (v := ?_) (fun _ _ _ _ _ h => h) (by simp only [List.getElem?_toArray, List.getElem?_cons_succ, List.getElem?_cons_zero]; rfl) (by kernel_rfl) (by kernel_rfl) (by kernel_rfl) (by rfl) ?_ hHeld ?_; rotate_left; · (intro w hSw; (try dsimp only at hSw); go_simp; (try with_reducible rfl))
        try simp only [Act.put, List.setIfInBounds_toArray, List.set_cons_zero, List.set_cons_succ]
        refine wpAnyH_takeQ 52 (v := ?_) (fun _ _ _ _ _ h => h) (by simp only [List.getElem?_toArray, List.getElem?_cons_succ, List.getElem?_cons_zero]; rfl) (by kernel_rfl) (by kernel_rfl) (by kernel_rfl) (by rfl) ?_ hHeld ?_; rotate_left; · (intro w hSw; (try dsimp only at hSw); go_simp; (try with_reducible rfl))
        try simp only [Act.put, List.setIfInBounds_toArray, List.set_cons_zero, List.set_cons_succ]
        refine wpAnyH_takeQ 53 (v := ?_) (fun _ _ _ _ _ h => h) (by simp only [List.getElem?_toArray, List.getElem?_cons_succ, List.getElem?_cons_zero]; rfl) (by kernel_rfl) (by kernel_rfl) (by kernel_rfl) (by rfl) ?_ hHeld ?_; rotate_left; · (intro w hSw; (try dsimp only at hSw); go_simp; (try with_reducible rfl))
        try simp only [Act.put, List.setIfInBounds_toArray, List.set_cons_zero, List.set_cons_succ]
        refine wpAnyH_done (by kernel_rfl) (NoPanic.normal ?_) _
        clear hHeld
        go_wp2_with fail
        go_meet
        exact ⟨rfl, HT.out, R_a.out, R_b.out, R_c.out, Q_z.out, Q_h.out, B_a.out, B_b.out, B_c.out, B_z.out, B_h.out, hB⟩
      · skip
        have y1 : decide (0 ≤ y) = false := by rw [← HY.out, qord_lt (Rat.not_le.1 h2)]; rfl
        have H1 := Lib.hid h1
        clear h1 h2 e1
        refine wp_region_named (S := (fun w' => (w'.cell? ⟨w.heap.size, 0, none⟩ = some (.bool b_a) ∧ w'.cell? ⟨w.heap.size, 1, none⟩ = some m_a ∧ w'.cell? ⟨w.heap.size, 2, none⟩ = some d_a) ∧ (w'.cell? ⟨w.heap.size + 1, 0, none⟩ = some (.bool b_b) ∧ w'.cell? ⟨w.heap.size + 1, 1, none⟩ = some m_b ∧ w'.cell? ⟨w.heap.size + 1, 2, none⟩ = some d_b))) (by kernel_rfl) (by exact ⟨B_a.out.c3, B_b.out.c3⟩) (fun V42 hb hHeld => ?_)
        replace HT := Lib.hid (HT.out.below hb)
        replace R_a := Lib.hid (R_a.out.below hb)
        replace R_b := Lib.hid (R_b.out.below hb)
        replace R_c := Lib.hid (R_c.out.below hb)
        replace Q_z := Lib.hid (Q_z.out.below hb)
        replace Q_h := Lib.hid (Q_h.out.below hb)
        replace B_a := Lib.hid (B_a.out.below hb)
        replace B_b := Lib.hid (B_b.out.below hb)
        replace B_c := Lib.hid (B_c.out.below hb)
        replace B_z := Lib.hid (B_z.out.below hb)
        replace B_h := Lib.hid (B_h.out.below hb)
        replace hB := below_next hB hb
        clear hb
        refine wpAnyH_takeQ 0 (v := ?_) (fun _ _ _ _ _ h => h) (by simp only [List.getElem?_toArray, List.getElem?_cons_zero]; rfl) (by kernel_rfl) (by kernel_rfl) (by kernel_rfl) (by rfl) ?_ hHeld ?_; rotate_left; · (intro w hSw; (try dsimp only at hSw); go_simp; (try with_reducible rfl))
        try simp only [Act.put, List.setIfInBounds_toArray, List.set_cons_zero, List.set_cons_succ]
        refine wpAnyH_takeQ 1 (v := ?_) (fun _ _ _ _ _ h => h) (by simp only [List.getElem?_toArray, List.getElem?_cons_succ, List.getElem?_cons_zero]; rfl) (by kernel_rfl) (by kernel_rfl) (by kernel_rfl) (by rfl) ?_ hHeld ?_; rotate_left; · (intro w hSw; (try dsimp only at hSw); go_simp; (try with_reducible rfl))
        try simp only [Act.put, List.setIfInBounds_toArray, List.set_cons_zero, List.set_cons_succ]
        refine wpAnyH_takeQ 2 (v := ?_) (fun _ _ _ _ _ h => h) (by simp only [List.getElem?_toArray, List.getElem?_cons_succ, List.getElem?_cons_zero]; rfl) (by kernel_rfl) (by kernel_rfl) (by kernel_rfl) (by rfl) ?_ hHeld ?_; rotate_left; · (intro w hSw; (try dsimp only at hSw); go_simp; (try with_reducible rfl))
        try simp only [Act.put, List.setIfInBounds_toArray, List.set_cons_zero, List.set_cons_succ]
        refine wpAnyH_takeQ 3 (v := ?_) (fun _ _ _ _ _ h => h) (by simp only [List.getElem?_toArray, List.getElem?_cons_succ, List.getElem?_cons_zero]; rfl) (by kernel_rfl) (by kernel_rfl) (by kernel_rfl) (by rfl) ?_ hHeld ?_; rotate_left; · (intro w hSw; (try dsimp only at hSw); go_simp; (try with_reducible rfl))
        try simp only [Act.put, List.setIfInBounds_toArray, List.set_cons_zero, List.set_cons_succ]
        refine wpAnyH_takeQ 4 (v := ?_) (fun _ _ _ _ _ h => h) (by simp only [List.getElem?_toArray, List.getElem?_cons_succ, List.getElem?_cons_zero]; rfl) (by kernel_rfl) (by kernel_rfl) (by kernel_rfl) (by rfl) ?_ hHeld ?_; rotate_left; · (intro w hSw; (try dsimp only at hSw); go_simp; (try with_reducible rfl))
        try simp only [Act.put, List.setIfInBounds_toArray, List.set_cons_zero, List.set_cons_succ]
        refine wpAnyH_takeQ 5 (v := ?_) (fun _ _ _ _ _ h => h) (by simp only [List.getElem?_toArray, List.getElem?_cons_succ, List.getElem?_cons_zero]; rfl) (by kernel_rfl) (by kernel_rfl) (by kernel_rfl) (by rfl) ?_ hHeld ?_; rotate_left; · (intro w hSw; (try dsimp only at hSw); go_simp; (try with_reducible rfl))
        try simp only [Act.put, List.setIfInBounds_toArray, List.set_cons_zero, List.set_cons_succ]
        refine wpAnyH_takeQ 6 (v := ?_) (fun _ _ _ _ _ h => h) (by simp only [List.getElem?_toArray, List.getElem?_cons_succ, List.getElem?_cons_zero]; rfl) (by kernel_rfl) (by kernel_rfl) (by kernel_rfl) (by rfl) ?_ hHeld ?_; rotate_left; · (intro w hSw; (try dsimp only at hSw); go_simp; (try with_reducible rfl))
        try simp only [Act.put, List.setIfInBounds_toArray, List.set_cons_zero, List.set_cons_succ]
        refine wpAnyH_takeQ 7 (v := ?_) (fun _ _ _ _ _ h => h) (by simp only [List.getElem?_toArray, List.getElem?_cons_succ, List.getElem?_cons_zero]; rfl) (by kernel_rfl) (by kernel_rfl) (by kernel_rfl) (by rfl) ?_ hHeld ?_; rotate_left; · (intro w hSw; (try dsimp only at hSw); go_simp; (try with_reducible rfl))
        try simp only [Act.put, List.setIfInBounds_toArray, List.set_cons_zero, List.set_cons_succ]
        refine wpAnyH_takeQ 8 (v := ?_) (fun _ _ _ _ _ h => h) (by simp only [List.getElem?_toArray, List.getElem?_cons_succ, List.getElem?_cons_zero]; rfl) (by kernel_rfl) (by kernel_rfl) (by kernel_rfl) (by rfl) ?_ hHeld ?_; rotate_left; · (intro w hSw; (try dsimp only at hSw); go_simp; (try with_reducible rfl))
        try simp only [Act.put, List.setIfInBounds_toArray, List.set_cons_zero, List.set_cons_succ]
        refine wpAnyH_takeQ 10 (v := ?_) (fun _ _ _ _ _ h => h) (by simp only [List.getElem?_toArray, List.getElem?_cons_succ, List.getElem?_cons_zero]; rfl) (by kernel_rfl) (by kernel_rfl) (by kernel_rfl) (by rfl) ?_ hHeld ?_; rotate_left; · (intro w hSw; (try dsimp only at hSw); go_simp; (try with_reducible rfl))
        try simp only [Act.put, List.setIfInBounds_toArray, List.set_cons_zero, List.set_cons_succ]
        refine wpAnyH_takeQ 11 (v := ?_) (fun _ _ _ _ _ h => h) (by simp only [List.getElem?_toArray, List.getElem?_cons_succ, List.getElem?_cons_zero]; rfl) (by kernel_rfl) (by kernel_rfl) (by kernel_rfl) (by rfl) ?_ hHeld ?_; rotate_left; · (intro w hSw; (try dsimp only at hSw); go_simp; (try with_reducible rfl))
        try simp only [Act.put, List.setIfInBounds_toArray, List.set_cons_zero, List.set_cons_succ]
        refine wpAnyH_ready (rs := [9]) (by kernel_rfl) (by simp) ?_
        refine AllReadyH.cons (by simp only [List.getElem?_toArray, List.getElem?_cons_succ, List.getElem?_cons_zero]; rfl) (fun K hK => ?_) AllReadyH.nil
        go_simp
        clear hHeld
        refine (qcmp_is (k := 6) (j := 6) (v := -1) (by exact R_b.out) (by exact R_a.out) (by omega) (by omega) (by omega) (by omega) (by have h := H1.out; exact qord_lt h)).mono ?_
        rintro e w43 ⟨rfl, hb⟩
        replace HT := Lib.hid (HT.out.below hb)
        replace R_a := Lib.hid (R_a.out.below hb)
        replace R_b := Lib.hid (R_b.out.below hb)
        replace R_c := Lib.hid (R_c.out.below hb)
        replace Q_z := Lib.hid (Q_z.out.below hb)
        replace Q_h := Lib.hid (Q_h.out.below hb)
        replace B_a := Lib.hid (B_a.out.below hb)
        replace B_b := Lib.hid (B_b.out.below hb)
        replace B_c := Lib.hid (B_c.out.below hb)
        replace B_z := Lib.hid (B_z.out.below hb)
        replace B_h := Lib.hid (B_h.out.below hb)
        replace hB := below_next hB hb
        clear hb
        go_wp2_with fail
        refine hK.out _ _ (by exact ⟨B_a.out.c3, B_b.out.c3⟩) (fun hHeld => ?_)
        clear hK K
        try simp only [Act.put, List.setIfInBounds_toArray, List.set_cons_zero, List.set_cons_succ]
        refine wpAnyH_takeQ 12 (v := ?_) (fun _ _ _ _ _ h => h) (by simp only [List.getElem?_toArray, List.getElem?_cons_succ, List.getElem?_cons_zero]; rfl) (by kernel_rfl) (by kernel_rfl) (by kernel_rfl) (by rfl) ?_ hHeld ?_; rotate_left; · (intro w hSw; (try dsimp only at hSw); go_simp; (try with_reducible rfl))
        try simp only [Act.put, List.setIfInBounds_toArray, List.set_cons_zero, List.set_cons_succ]
        refine wpAnyH_takeQ 13 (v := ?_) (fun _ _ _ _ _ h => h) (by simp only [List.getElem?_toArray, List.getElem?_cons_succ, List.getElem?_cons_zero]; rfl) (by kernel_rfl) (by kernel_rfl) (by kernel_rfl) (by rfl) ?_ hHeld ?_; rotate_left; · (intro w hSw; (try dsimp only at hSw); go_simp; (try with_reducible rfl))
        try simp only [Act.put, List.setIfInBounds_toArray, List.set_cons_zero, List.set_cons_succ]
        refine wpAnyH_takeQ 14 (v := ?_) (fun _ _ _ _ _ h => h) (by simp only [List.getElem?_toArray, List.getElem?_cons_succ, List.getElem?_cons_zero]; rfl) (by kernel_rfl) (by kernel_rfl) (by kernel_rfl) (by rfl) ?_ hHeld ?_; rotate_left; · (intro w hSw; (try dsimp only at hSw); go_simp; (try with_reducible rfl))
        try simp only [Act.put, List.setIfInBounds_toArray, List.set_cons_zero, List.set_cons_succ]
        refine wpAnyH_takeQ 15 (v := ?_) (fun _ _ _ _ _ h => h) (by simp only [List.getElem?_toArray, List.getElem?_cons_succ, List.getElem?_cons_zero]; rfl) (by kernel_rfl) (by kernel_rfl) (by kernel_rfl) (by rfl) ?_ hHeld ?_; rotate_left; · (intro w hSw; (try dsimp only at hSw); go_simp; (try with_reducible rfl))
        try simp only [Act.put, List.setIfInBounds_toArray, List.set_cons_zero, List.set_cons_succ]
        refine wpAnyH_takeQ 16 (v := ?_) (fun _ _ _ _ _ h => h) (by simp only [List.getElem?_toArray, List.getElem?_cons_succ, List.getElem?_cons_zero]; rfl) (by kernel_rfl) (by kernel_rfl) (by kernel_rfl) (by rfl) ?_ hHeld ?_; rotate_left; · (intro w hSw; (try dsimp only at hSw); go_simp; (try with_reducible rfl))
        try simp only [Act.put, List.setIfInBounds_toArray, List.set_cons_zero, List.set_cons_succ]
        refine wpAnyH_ready (rs := [17]) (by kernel_rfl) (by simp) ?_
        refine AllReadyH.cons (by simp only [List.getElem?_toArray, List.getElem?_cons_succ, List.getElem?_cons_zero]; rfl) (fun K hK => ?_) AllReadyH.nil
        go_simp
        clear hHeld
        refine (qcmp_is (k := 6) (j := 6) (v := 0) (by exact R_a.out) (by exact R_a.out) (by omega) (by omega) (by omega) (by omega) (by exact qord_self _)).mono ?_
        rintro e w44 ⟨rfl, hb⟩
        replace HT := Lib.hid (HT.out.below hb)
        replace R_a := Lib.hid (R_a.out.below hb)
        replace R_b := Lib.hid (R_b.out.below hb)
        replace R_c := Lib.hid (R_c.out.below hb)
        replace Q_z := Lib.hid (Q_z.out.below hb)
        replace Q_h := Lib.hid (Q_h.out.below hb)
        replace B_a := Lib.hid (B_a.out.below hb)
        replace B_b := Lib.hid (B_b.out.below hb)
        replace B_c := Lib.hid (B_c.out.below hb)
        replace B_z := Lib.hid (B_z.out.below hb)
        replace B_h := Lib.hid (B_h.out.below hb)
        replace hB := below_next hB hb
        clear hb
        go_wp2_with fail
        refine hK.out _ _ (by exact ⟨B_a.out.c3, B_b.out.c3⟩) (fun hHeld => ?_)
        clear hK K
        try simp only [Act.put, List.setIfInBounds_toArray, List.set_cons_zero, List.set_cons_succ]
        refine wpAnyH_takeQ 18 (v := ?_) (fun _ _ _ _ _ h => h) (by simp only [List.getElem?_toArray, List.getElem?_cons_succ, List.getElem?_cons_zero]; rfl) (by kernel_rfl) (by kernel_rfl) (by kernel_rfl) (by rfl) ?_ hHeld ?_; rotate_left; · (intro w hSw; (try dsimp only at hSw); go_simp; (try with_reducible rfl))
        try simp only [Act.put, List.setIfInBounds_toArray, List.set_cons_zero, List.set_cons_succ]
        refine wpAnyH_takeQ 19 (v := ?_) (fun _ _ _ _ _ h => h) (by simp only [List.getElem?_toArray, List.getElem?_cons_succ, List.getElem?_cons_zero]; rfl) (by kernel_rfl) (by kernel_rfl) (by kernel_rfl) (by rfl) ?_ hHeld ?_; rotate_left; · (intro w hSw; (try dsimp only at hSw); go_simp; (try with_reducible rfl))
        try simp only [Act.put, List.setIfInBounds_toArray, List.set_cons_zero, List.set_cons_succ]
        refine wpAnyH_takeQ 20 (v := ?_) (fun _ _ _ _ _ h => h) (by simp only [List.getElem?_toArray, List.getElem?_cons_succ, List.getElem?_cons_zero]; rfl) (by kernel_rfl) (by kernel_rfl) (by kernel_rfl) (by rfl) ?_ hHeld ?_; rotate_left; · (intro w hSw; (try dsimp only at hSw); go_simp; (try with_reducible rfl))
        try simp only [Act.put, List.setIfInBounds_toArray, List.set_cons_zero, List.set_cons_succ]
        refine wpAnyH_takeQ 21 (v := ?_) (fun _ _ _ _ _ h => h) (by simp only [List.getElem?_toArray, List.getElem?_cons_succ, List.getElem?_cons_zero]; rfl) (by kernel_rfl) (by kernel_rfl) (by kernel_rfl) (by rfl) ?_ hHeld ?_; rotate_left; · (intro w hSw; (try dsimp only at hSw); go_simp; (try with_reducible rfl))
        try simp only [Act.put, List.setIfInBounds_toArray, List.set_cons_zero, List.set_cons_succ]
        refine wpAnyH_takeQ 22 (v := ?_) (fun _ _ _ _ _ h => h) (by simp only [List.getElem?_toArray, List.getElem?_cons_succ, List.getElem?_cons_zero]; rfl) (by kernel_rfl) (by kernel_rfl) (by kernel_rfl) (by rfl) ?_ hHeld ?_; rotate_left; · (intro w hSw; (try dsimp only at hSw); go_simp; (try with_reducible rfl))
        try simp only [Act.put, List.setIfInBounds_toArray, List.set_cons_zero, List.set_cons_succ]
        refine wpAnyH_takeQ 23 (v := ?_) (fun _ _ _ _ _ h => h) (by simp only [List.getElem?_toArray, List.getElem?_cons_succ, List.getElem?_cons_zero]; rfl) (by kernel_rfl) (by kernel_rfl) (by kernel_rfl) (by rfl) ?_ hHeld ?_; rotate_left; · (intro w hSw; (try dsimp only at hSw); go_simp; (try with_reducible rfl))
        try simp only [Act.put, List.setIfInBounds_toArray, List.set_cons_zero, List.set_cons_succ]
        refine wpAnyH_skipQ 24 (fun _ _ _ _ _ h => h) (by simp only [List.getElem?_toArray, List.getElem?_cons_succ, List.getElem?_cons_zero]; rfl) (by kernel_rfl) (by kernel_rfl) (by kernel_rfl) (by rfl) hHeld ?_
        try simp only [Act.put, List.setIfInBounds_toArray, List.set_cons_zero, List.set_cons_succ]
        refine wpAnyH_skipQ 25 (fun _ _ _ _ _ h => h) (by simp only [List.getElem?_toArray, List.getElem?_cons_succ, List.getElem?_cons_zero]; rfl) (by kernel_rfl) (by kernel_rfl) (by kernel_rfl) (by rfl) hHeld ?_
        try simp only [Act.put, List.setIfInBounds_toArray, List.set_cons_zero, List.set_cons_succ]
        refine wpAnyH_takeQ 26 (v := ?_) (fun _ _ _ _ _ h => h) (by simp only [List.getElem?_toArray, List.getElem?_cons_succ, List.getElem?_cons_zero]; rfl) (by kernel_rfl) (by kernel_rfl) (by kernel_rfl) (by rfl) ?_ hHeld ?_; rotate_left; · (intro w hSw; (try dsimp only at hSw); go_simp; (try with_reducible rfl))
        try simp only [Act.put, List.setIfInBounds_toArray, List.set_cons_zero, List.set_cons_succ]
        refine wpAnyH_takeQ 27 (v := ?_) (fun _ _ _ _ _ h => h) (by simp only [List.getElem?_toArray, List.getElem?_cons_succ, List.getElem?_cons_zero]; rfl) (by kernel_rfl) (by kernel_rfl) (by kernel_rfl) (by rfl) ?_ hHeld ?_; rotate_left; · (intro w hSw; (try dsimp only at hSw); go_simp; (try with_reducible rfl))
        try simp only [Act.put, List.setIfInBounds_toArray, List.set_cons_zero, List.set_cons_succ]
        refine wpAnyH_skipQ 28 (fun _ _ _ _ _ h => h) (by simp only [List.getElem?_toArray, List.getElem?_cons_succ, List.getElem?_cons_zero]; rfl) (by kernel_rfl) (by kernel_rfl) (by kernel_rfl) (by rfl) hHeld ?_
        try simp only [Act.put, List.setIfInBounds_toArray, List.set_cons_zero, List.set_cons_succ]
        refine wpAnyH_skipQ 29 (fun _ _ _ _ _ h => h) (by simp only [List.getElem?_toArray, List.getElem?_cons_succ, List.getElem?_cons_zero]; rfl) (by kernel_rfl) (by kernel_rfl) (by kernel_rfl) (by rfl) hHeld ?_
        try simp only [Act.put, List.setIfInBounds_toArray, List.set_cons_zero, List.set_cons_succ]
        refine wpAnyH_takeQ 30 (v := ?_) (fun _ _ _ _ _ h => h) (by simp only [List.getElem?_toArray, List.getElem?_cons_succ, List.getElem?_cons_zero]; rfl) (by kernel_rfl) (by kernel_rfl) (by kernel_rfl) (by rfl) ?_ hHeld ?_; rotate_left; · (intro w hSw; (try dsimp only at hSw); go_simp; (try with_reducible rfl))
        try simp only [Act.put, List.setIfInBounds_toArray, List.set_cons_zero, List.set_cons_succ]
        refine wpAnyH_takeQ 31 (v := ?_) (fun _ _ _ _ _ h => h) (by simp only [List.getElem?_toArray, List.getElem?_cons_succ, List.getElem?_cons_zero]; rfl) (by kernel_rfl) (by kernel_rfl) (by kernel_rfl) (by rfl) ?_ hHeld ?_; rotate_left; · (intro w hSw; (try dsimp only at hSw); go_simp; (try with_reducible rfl))
        try simp only [Act.put, List.setIfInBounds_toArray, List.set_cons_zero, List.set_cons_succ]
        refine wpAnyH_takeQ 32 (v := ?_) (fun _ _ _ _ _ h => h) (by simp only [List.getElem?_toArray, List.getElem?_cons_succ, List.getElem?_cons_zero]; rfl) (by kernel_rfl) (by kernel_rfl) (by kernel_rfl) (by rfl) ?_ hHeld ?_; rotate_left; · (intro w hSw; (try dsimp only at hSw); go_simp; (try with_reducible rfl))
        try simp only [Act.put, List.setIfInBounds_toArray, List.set_cons_zero, List.set_cons_succ]
        refine wpAnyH_takeQ 33 (v := ?_) (fun _ _ _ _ _ h => h) (by simp only [List.getElem?_toArray, List.getElem?_cons_succ, List.getElem?_cons_zero]; rfl) (by kernel_rfl) (by kernel_rfl) (by kernel_rfl) (by rfl) ?_ hHeld ?_; rotate_left; · (intro w hSw; (try dsimp only at hSw); go_simp; (try with_reducible rfl))
        try simp only [Act.put, List.setIfInBounds_toArray, List.set_cons_zero, List.set_cons_succ]
        refine wpAnyH_takeQ 34 (v := ?_) (fun _ _ _ _ _ h => h) (by simp only [List.getElem?_toArray, List.getElem?_cons_succ, List.getElem?_cons_zero]; rfl) (by kernel_rfl) (by kernel_rfl) (by kernel_rfl) (by rfl) ?_ hHeld ?_; rotate_left; · (intro w hSw; (try dsimp only at hSw); go_simp; (try with_reducible rfl))
        try simp only [Act.put, List.setIfInBounds_toArray, List.set_cons_zero, List.set_cons_succ]
        refine wpAnyH_takeQ 35 (v := ?_) (fun _ _ _ _ _ h => h) (by simp only [List.getElem?_toArray, List.getElem?_cons_succ, List.getElem?_cons_zero]; rfl) (by kernel_rfl) (by kernel_rfl) (by kernel_rfl) (by rfl) ?_ hHeld ?_; rotate_left; · (intro w hSw; (try dsimp only at hSw); go_simp; (try with_reducible rfl))
        try simp only [Act.put, List.setIfInBounds_toArray, List.set_cons_zero, List.set_cons_succ]
        refine wpAnyH_takeQ 36 (v := ?_) (fun _ _ _ _ _ h => h) (by simp only [List.getElem?_toArray, List.getElem?_cons_succ, List.getElem?_cons_zero]; rfl) (by kernel_rfl) (by kernel_rfl) (by kernel_rfl) (by rfl) ?_ hHeld ?_; rotate_left; · (intro w hSw; (try dsimp only at hSw); go_simp; (try with_reducible rfl))
        try simp only [Act.put, List.setIfInBounds_toArray, List.set_cons_zero, List.set_cons_succ]
        refine wpAnyH_takeQ 37 (v := ?_) (fun _ _ _ _ _ h => h) (by simp only [List.getElem?_toArray, List.getElem?_cons_succ, List.getElem?_cons_zero]; rfl) (by kernel_rfl) (by kernel_rfl) (by kernel_rfl) (by rfl) ?_ hHeld ?_; rotate_left; · (intro w hSw; (try dsimp only at hSw); go_simp; (try with_reducible rfl))
        try simp only [Act.put, List.setIfInBounds_toArray, List.set_cons_zero, List.set_cons_succ]
        refine wpAnyH_takeQ 38 (v := ?_) (fun _ _ _ _ _ h => h) (by simp only [List.getElem?_toArray, List.getElem?_cons_succ, List.getElem?_cons_zero]; rfl) (by kernel_rfl) (by kernel_rfl) (by kernel_rfl) (by rfl) ?_ hHeld ?_; rotate_left; · (intro w hSw; (try dsimp only at hSw); go_simp; (try with_reducible rfl))
        try simp only [Act.put, List.setIfInBounds_toArray, List.set_cons_zero, List.set_cons_succ]
        refine wpAnyH_takeQ 39 (v := ?_) (fun _ _ _ _ _ h => h) (by simp only [List.getElem?_toArray, List.getElem?_cons_succ, List.getElem?_cons_zero]; rfl) (by kernel_rfl) (by kernel_rfl) (by kernel_rfl) (by rfl) ?_ hHeld ?_; rotate_left; · (intro w hSw; (try dsimp only at hSw); go_simp; (try with_reducible rfl))
        try simp only [Act.put, List.setIfInBounds_toArray, List.set_cons_zero, List.set_cons_succ]
        refine wpAnyH_skipQ 40 (fun _ _ _ _ _ h => h) (by simp only [List.getElem?_toArray, List.getElem?_cons_succ, List.getElem?_cons_zero]; rfl) (by kernel_rfl) (by kernel_rfl) (by kernel_rfl) (by rfl) hHeld ?_
        try simp only [Act.put, List.setIfInBounds_toArray, List.set_cons_zero, List.set_cons_succ]
        refine wpAnyH_skipQ 41 (fun _ _ _ _ _ h => h) (by simp only [List.getElem?_toArray, List.getElem?_cons_succ, List.getElem?_cons_zero]; rfl) (by kernel_rfl) (by kernel_rfl) (by kernel_rfl) (by rfl) hHeld ?_
        try simp only [Act.put, List.setIfInBounds_toArray, List.set_cons_zero, List.set_cons_succ]
        refine wpAnyH_takeQ 42 (v := ?_) (fun _ _ _ _ _ h => h) (by simp only [List.getElem?_toArray, List.getElem?_cons_succ, List.getElem?_cons_zero]; rfl) (by kernel_rfl) (by kernel_rfl) (by kernel_rfl) (by rfl) ?_ hHeld ?_; rotate_left; · (intro w hSw; (try dsimp only at hSw); go_simp; (try with_reducible rfl))
        try simp only [Act.put, List.setIfInBounds_toArray, List.set_cons_zero, List.set_cons_succ]
        refine wpAnyH_takeQ 43 (v := ?_) (fun _ _ _ _ _ h => h) (by simp only [List.getElem?_toArray, List.getElem?_cons_succ, List.getElem?_cons_zero]; rfl) (by kernel_rfl) (by kernel_rfl) (by kernel_rfl) (by rfl) ?_ hHeld ?_; rotate_left; · (intro w hSw; (try dsimp only at hSw); go_simp; (try with_reducible rfl))
        try simp only [Act.put, List.setIfInBounds_toArray, List.set_cons_zero, List.set_cons_succ]
        refine wpAnyH_takeQ 44 (v := ?_) (fun _ _ _ _ _ h => h) (by simp only [List.getElem?_toArray, List.getElem?_cons_succ, List.getElem?_cons_zero]; rfl) (by kernel_rfl) (by kernel_rfl) (by kernel_rfl) (by rfl) ?_ hHeld ?_; rotate_left; · (intro w hSw; (try dsimp only at hSw); go_simp; (try with_reducible rfl))
        try simp only [Act.put, List.setIfInBounds_toArray, List.set_cons_zero, List.set_cons_succ]
        refine wpAnyH_takeQ 45 (v := ?_) (fun _ _ _ _ _ h => h) (by simp only [List.getElem?_toArray, List.getElem?_cons_succ, List.getElem?_cons_zero]; rfl) (by kernel_rfl) (by kernel_rfl) (by kernel_rfl) (by rfl) ?_ hHeld ?_; rotate_left; · (intro w hSw; (try dsimp only at hSw); go_simp; (try with_reducible rfl))
        try simp only [Act.put, List.setIfInBounds_toArray, List.set_cons_zero, List.set_cons_succ]
        refine wpAnyH_takeQ 46 (v := ?_) (fun _ _ _ _ _ h => h) (by simp only [List.getElem?_toArray, List.getElem?_cons_succ, List.getElem?_cons_zero]; rfl) (by kernel_rfl) (by kernel_rfl) (by kernel_rfl) (by rfl) ?_ hHeld ?_; rotate_left; · (intro w hSw; (try dsimp only at hSw); go_simp; (try with_reducible rfl))
        try simp only [Act.put, List.setIfInBounds_toArray, List.set_cons_zero, List.set_cons_succ]
        refine wpAnyH_takeQ 47 (v := ?_) (fun _ _ _ _ _ h => h) (by simp only [List.getElem?_toArray, List.getElem?_cons_succ, List.getElem?_cons_zero]; rfl) (by kernel_rfl) (by kernel_rfl) (by kernel_rfl) (by rfl) ?_ hHeld ?_; rotate_left; · (intro w hSw; (try dsimp only at hSw); go_simp; (try with_reducible rfl))
        try simp only [Act.put, List.setIfInBounds_toArray, List.set_cons_zero, List.set_cons_succ]
        refine wpAnyH_takeQ 49 (v := ?_) (fun _ _ _ _ _ h => h) (by simp only [List.getElem?_toArray, List.getElem?_cons_succ, List.getElem?_cons_zero]; rfl) (by kernel_rfl) (by kernel_rfl) (by kernel_rfl) (by rfl) ?_ hHeld ?_; rotate_left; · (intro w hSw; (try dsimp only at hSw); go_simp; (try with_reducible rfl))
        try simp only [Act.put, List.setIfInBounds_toArray, List.set_cons_zero, List.set_cons_succ]
        refine wpAnyH_ready (rs := [48]) (by kernel_rfl) (by simp) ?_
        refine AllReadyH.cons (by simp only [List.getElem?_toArray, List.getElem?_cons_succ, List.getElem?_cons_zero]; rfl) (fun K hK => ?_) AllReadyH.nil
        go_simp
        clear hHeld
        refine (qtext_str2 (k := 6) (by exact R_a.out) (by omega) (by omega) (by exact HT.out)).mono ?_
        rintro e w45 ⟨t1, rfl, ht1, hb⟩
        replace HT := Lib.hid (HT.out.below hb)
        replace R_a := Lib.hid (R_a.out.below hb)
        replace R_b := Lib.hid (R_b.out.below hb)
        replace R_c := Lib.hid (R_c.out.below hb)
        replace Q_z := Lib.hid (Q_z.out.below hb)
        replace Q_h := Lib.hid (Q_h.out.below hb)
        replace B_a := Lib.hid (B_a.out.below hb)
        replace B_b := Lib.hid (B_b.out.below hb)
        replace B_c := Lib.hid (B_c.out.below hb)
        replace B_z := Lib.hid (B_z.out.below hb)
        replace B_h := Lib.hid (B_h.out.below hb)
        replace hB := below_next hB hb
        clear hb
        have Ht1 := Lib.hid ht1
        clear ht1
        go_wp2_with fail
        refine hK.out _ _ (by exact ⟨B_a.out.c3, B_b.out.c3⟩) (fun hHeld => ?_)
        clear hK K
        try simp only [Act.put, List.setIfInBounds_toArray, List.set_cons_zero, List.set_cons_succ]
        refine wpAnyH_ready (rs := [50]) (by kernel_rfl) (by simp) ?_
        refine AllReadyH.cons (by simp only [List.getElem?_toArray, List.getElem?_cons_succ, List.getElem?_cons_zero]; rfl) (fun K hK => ?_) AllReadyH.nil
        go_simp
        clear hHeld
        refine (qtext_str2 (k := 6) (by exact R_b.out) (by omega) (by omega) (by exact HT.out)).mono ?_
        rintro e w46 ⟨t2, rfl, ht2, hb⟩
        replace HT := Lib.hid (HT.out.below hb)
        replace R_a := Lib.hid (R_a.out.below hb)
        replace R_b := Lib.hid (R_b.out.below hb)
        replace R_c := Lib.hid (R_c.out.below hb)
        replace Q_z := Lib.hid (Q_z.out.below hb)
        replace Q_h := Lib.hid (Q_h.out.below hb)
        replace B_a := Lib.hid (B_a.out.below hb)
        replace B_b := Lib.hid (B_b.out.below hb)
        replace B_c := Lib.hid (B_c.out.below hb)
        replace B_z := Lib.hid (B_z.out.below hb)
        replace B_h := Lib.hid (B_h.out.below hb)
        replace hB := below_next hB hb
        clear hb
        have Ht2 := Lib.hid ht2
        clear ht2
        have tb : (t1.toList == t2.toList) = false := by rw [beq_eq_false_iff_ne, Go.ByteArray.toList_eq, Go.ByteArray.toList_eq, Ht1.out, Ht2.out]; intro e; have h4 := H1.out; rw [qtext_inj e] at h4; exact Rat.lt_irrefl h4
        go_wp2_with fail
        refine hK.out _ _ (by exact ⟨B_a.out.c3, B_b.out.c3⟩) (fun hHeld => ?_)
        clear hK K
        try simp only [Act.put, List.setIfInBounds_toArray, List.set_cons_zero, List.set_cons_succ]
        refine wpAnyH_takeQ 51 (v := ?_) (fun _ _ _ _ _ h => h) (by simp only [List.getElem?_toArray, List.getElem?_cons_succ, List.getElem?_cons_zero]; rfl) (by kernel_rfl) (by kernel_rfl) (by kernel_rfl) (by rfl) ?_ hHeld ?_; rotate_left; · (intro w hSw; (try dsimp only at hSw); go_simp; (try with_reducible rfl))
        try simp only [Act.put, List.setIfInBounds_toArray, List.set_cons_zero, List.set_cons_succ]
        refine wpAnyH_takeQ 52 (v := ?_) (fun _ _ _ _ _ h => h) (by simp only [List.getElem?_toArray, List.getElem?_cons_succ, List.getElem?_cons_zero]; rfl) (by kernel_rfl) (by kernel_rfl) (by kernel_rfl) (by rfl) ?_ hHeld ?_; rotate_left; · (intro w hSw; (try dsimp only at hSw); go_simp; (try with_reducible rfl))
        try simp only [Act.put, List.setIfInBounds_toArray, List.set_cons_zero, List.set_cons_succ]
        refine wpAnyH_takeQ 53 (v := ?_) (fun _ _ _ _ _ h => h) (by simp only [List.getElem?_toArray, List.getElem?_cons_succ, List.getElem?_cons_zero]; rfl) (by kernel_rfl) (by kernel_rfl) (by kernel_rfl) (by rfl) ?_ hHeld ?_; rotate_left; · (intro w hSw; (try dsimp only at hSw); go_simp; (try with_reducible rfl))
        try simp only [Act.put, List.setIfInBounds_toArray, List.set_cons_zero, List.set_cons_succ]
        refine wpAnyH_done (by kernel_rfl) (NoPanic.normal ?_) _
        clear hHeld
        go_wp2_with fail
        go_meet
        exact ⟨rfl, HT.out, R_a.out, R_b.out, R_c.out, Q_z.out, Q_h.out, B_a.out, B_b.out, B_c.out, B_z.out, B_h.out, hB⟩
  case rest =>
    obtain ⟨rfl, xHT, xR_a, xR_b, xR_c, xQ_z, xQ_h, ya, yb, yc, yz, yh, hB9⟩ := hcut
    clear HT R_a R_b R_c Q_z Q_h B_a B_b B_c B_z B_h hB
    have hB := hB9
    have HT := Lib.hid xHT
    have R_a := Lib.hid xR_a
    have R_b := Lib.hid xR_b
    have R_c := Lib.hid xR_c
    have Q_z := Lib.hid xQ_z
    have Q_h := Lib.hid xQ_h
    have B_a := Lib.hid ya
    have B_b := Lib.hid yb
    have B_c := Lib.hid yc
    have B_z := Lib.hid yz
    have B_h := Lib.hid yh
    clear hB9 xHT xR_a xR_b xR_c xQ_z xQ_h ya yb yc yz yh
    have c_a0 := B_a.out.cell0
    have c_a1 := B_a.out.cell1
    have c_a2 := B_a.out.cell2
    have c_b0 := B_b.out.cell0
    have c_b1 := B_b.out.cell1
    have c_b2 := B_b.out.cell2
    have c_c0 := B_c.out.cell0
    have c_c1 := B_c.out.cell1
    have c_c2 := B_c.out.cell2
    have c_z0 := B_z.out.cell0
    have c_z1 := B_z.out.cell1
    have c_z2 := B_z.out.cell2
    have c_h0 := B_h.out.cell0
    have c_h1 := B_h.out.cell1
    have c_h2 := B_h.out.cell2
    go_wp2_with fail
    clear c_a0 c_a1 c_a2 c_b0 c_b1 c_b2 c_c0 c_c1 c_c2 c_z0 c_z1 c_z2 c_h0 c_h1 c_h2
    obtain ⟨v, hv⟩ : ∃ v, qord q_c 0 = v := ⟨_, rfl⟩
    have ew : IntKind.i64.wrap (x * v) = x * v := by rcases qord_cases q_a q_b with ⟨e1, -⟩ | ⟨e1, -⟩ | ⟨e1, -⟩ <;> rcases qord_cases q_c 0 with ⟨e2, -⟩ | ⟨e2, -⟩ | ⟨e2, -⟩ <;> rw [← HX.out, ← hv, e1, e2, IntKind.wrap_i64] <;> rfl
    have HV := Lib.hid hv
    clear hv
    refine wp_region_named (S := (fun w' => (w'.cell? ⟨w.heap.size, 0, none⟩ = some (.bool b_a) ∧ w'.cell? ⟨w.heap.size, 1, none⟩ = some m_a ∧ w'.cell? ⟨w.heap.size, 2, none⟩ = some d_a) ∧ (w'.cell? ⟨w.heap.size + 1, 0, none⟩ = some (.bool b_b) ∧ w'.cell? ⟨w.heap.size + 1, 1, none⟩ = some m_b ∧ w'.cell? ⟨w.heap.size + 1, 2, none⟩ = some d_b) ∧ (w'.cell? ⟨w.heap.size + 1 + 1, 0, none⟩ = some (.bool b_c) ∧ w'.cell? ⟨w.heap.size + 1 + 1, 1, none⟩ = some m_c ∧ w'.cell? ⟨w.heap.size + 1 + 1, 2, none⟩ = some d_c) ∧ (w'.cell? ⟨g_z, 0, none⟩ = some (.bool b_z) ∧ w'.cell? ⟨g_z, 1, none⟩ = some (.slice A_z n_z c_z) ∧ w'.cell? ⟨g_z, 2, none⟩ = some (.slice D_z e_z f_z)))) (by kernel_rfl) (by exact ⟨B_a.out.c3, B_b.out.c3, B_c.out.c3, B_z.out.c3⟩) (fun V47 hb hHeld => ?_)
    replace HT := Lib.hid (HT.out.below hb)
    replace R_a := Lib.hid (R_a.out.below hb)
    replace R_b := Lib.hid (R_b.out.below hb)
    replace R_c := Lib.hid (R_c.out.below hb)
    replace Q_z := Lib.hid (Q_z.out.below hb)
    replace Q_h := Lib.hid (Q_h.out.below hb)
    replace B_a := Lib.hid (B_a.out.below hb)
    replace B_b := Lib.hid (B_b.out.below hb)
    replace B_c := Lib.hid (B_c.out.below hb)
    replace B_z := Lib.hid (B_z.out.below hb)
    replace B_h := Lib.hid (B_h.out.below hb)
    replace hB := below_next hB hb
    clear hb
    refine wpAnyH_takeQ 0 (v := ?_) (fun _ _ _ _ _ h => h) (by simp only [List.getElem?_toArray, List.getElem?_cons_zero]; rfl) (by kernel_rfl) (by kernel_rfl) (by kernel_rfl) (by rfl) ?_ hHeld ?_; rotate_left; · (intro w hSw; (try dsimp only at hSw); go_simp; (try with_reducible rfl))
    try simp only [Act.put, List.setIfInBounds_toArray, List.set_cons_zero, List.set_cons_succ]
    refine wpAnyH_takeQ 1 (v := ?_) (fun _ _ _ _ _ h => h) (by simp only [List.getElem?_toArray, List.getElem?_cons_succ, List.getElem?_cons_zero]; rfl) (by kernel_rfl) (by kernel_rfl) (by kernel_rfl) (by rfl) ?_ hHeld ?_; rotate_left; · (intro w hSw; (try dsimp only at hSw); go_simp; (try with_reducible rfl))
    try simp only [Act.put, List.setIfInBounds_toArray, List.set_cons_zero, List.set_cons_succ]
    refine wpAnyH_takeQ 3 (v := ?_) (fun _ _ _ _ _ h => h) (by simp only [List.getElem?_toArray, List.getElem?_cons_succ, List.getElem?_cons_zero]; rfl) (by kernel_rfl) (by kernel_rfl) (by kernel_rfl) (by rfl) ?_ hHeld ?_; rotate_left; · (intro w hSw; (try dsimp only at hSw); go_simp; (try with_reducible rfl))
    try simp only [Act.put, List.setIfInBounds_toArray, List.set_cons_zero, List.set_cons_succ]
    refine wpAnyH_takeQ 4 (v := ?_) (fun _ _ _ _ _ h => h) (by simp only [List.getElem?_toArray, List.getElem?_cons_succ, List.getElem?_cons_zero]; rfl) (by kernel_rfl) (by kernel_rfl) (by kernel_rfl) (by rfl) ?_ hHeld ?_; rotate_left; · (intro w hSw; (try dsimp only at hSw); go_simp; (try with_reducible rfl))
    try simp only [Act.put, List.setIfInBounds_toArray, List.set_cons_zero, List.set_cons_succ]
    refine wpAnyH_takeQ 7 (v := ?_) (fun _ _ _ _ _ h => h) (by simp only [List.getElem?_toArray, List.getElem?_cons_succ, List.getElem?_cons_zero]; rfl) (by kernel_rfl) (by kernel_rfl) (by kernel_rfl) (by rfl) ?_ hHeld ?_; rotate_left; · (intro w hSw; (try dsimp only at hSw); go_simp; (try with_reducible rfl))
    try simp only [Act.put, List.setIfInBounds_toArray, List.set_cons_zero, List.set_cons_succ]
    refine wpAnyH_ready (rs := [2]) (by kernel_rfl) (by simp) ?_
    refine AllReadyH.cons (by simp only [List.getElem?_toArray, List.getElem?_cons_succ, List.getElem?_cons_zero]; rfl) (fun K hK => ?_) AllReadyH.nil
    go_simp
    clear hHeld
    refine (qadd_any _ _ _ _ 6 _ _ _ _ 6 _ (by exact R_a.out) (by exact R_c.out) (by omega) (by omega) (by omega) (by omega)).mono ?_
    rintro e w48 ⟨b_p1, A_p1, n_p1, c_p1, D_p1, e_p1, f_p1, rfl, h_p1, hb⟩
    replace HT := Lib.hid (HT.out.below hb)
    replace R_a := Lib.hid (R_a.out.below hb)
    replace R_b := Lib.hid (R_b.out.below hb)
    replace R_c := Lib.hid (R_c.out.below hb)
    replace Q_z := Lib.hid (Q_z.out.below hb)
    replace Q_h := Lib.hid (Q_h.out.below hb)
    replace B_a := Lib.hid (B_a.out.below hb)
    replace B_b := Lib.hid (B_b.out.below hb)
    replace B_c := Lib.hid (B_c.out.below hb)
    replace B_z := Lib.hid (B_z.out.below hb)
    replace B_h := Lib.hid (B_h.out.below hb)
    replace hB := below_next hB hb
    clear hb
    have Q_p1 := Lib.hid h_p1
    clear h_p1
    go_wp2_with fail
    refine hK.out _ _ (by exact ⟨B_a.out.c3, B_b.out.c3, B_c.out.c3, B_z.out.c3⟩) (fun hHeld => ?_)
    clear hK K
    try simp only [Act.put, List.setIfInBounds_toArray, List.set_cons_zero, List.set_cons_succ]
    refine wpAnyH_ready (rs := [5]) (by kernel_rfl) (by simp) ?_
    refine AllReadyH.cons (by simp only [List.getElem?_toArray, List.getElem?_cons_succ, List.getElem?_cons_zero]; rfl) (fun K hK => ?_) AllReadyH.nil
    go_simp
    clear hHeld
    refine (qadd_any _ _ _ _ 6 _ _ _ _ 6 _ (by exact R_b.out) (by exact R_c.out) (by omega) (by omega) (by omega) (by omega)).mono ?_
    rintro e w49 ⟨b_p2, A_p2, n_p2, c_p2, D_p2, e_p2, f_p2, rfl, h_p2, hb⟩
    replace HT := Lib.hid (HT.out.below hb)
    replace R_a := Lib.hid (R_a.out.below hb)
    replace R_b := Lib.hid (R_b.out.below hb)
    replace R_c := Lib.hid (R_c.out.below hb)
    replace Q_z := Lib.hid (Q_z.out.below hb)
    replace Q_h := Lib.hid (Q_h.out.below hb)
    replace Q_p1 := Lib.hid (Q_p1.out.below hb)
    replace B_a := Lib.hid (B_a.out.below hb)
    replace B_b := Lib.hid (B_b.out.below hb)
    replace B_c := Lib.hid (B_c.out.below hb)
    replace B_z := Lib.hid (B_z.out.below hb)
    replace B_h := Lib.hid (B_h.out.below hb)
    replace hB := below_next hB hb
    clear hb
    have Q_p2 := Lib.hid h_p2
    clear h_p2
    go_wp2_with fail
    refine hK.out _ _ (by exact ⟨B_a.out.c3, B_b.out.c3, B_c.out.c3, B_z.out.c3⟩) (fun hHeld => ?_)
    clear hK K
    try simp only [Act.put, List.setIfInBounds_toArray, List.set_cons_zero, List.set_cons_succ]
    refine wpAnyH_ready (rs := [6]) (by kernel_rfl) (by simp) ?_
    refine AllReadyH.cons (by simp only [List.getElem?_toArray, List.getElem?_cons_succ, List.getElem?_cons_zero]; rfl) (fun K hK => ?_) AllReadyH.nil
    go_simp
    clear hHeld
    refine (qcmp_is (k := 13) (j := 13) (v := x) (by exact Q_p1.out.rat ((S_a.add S_c).more (by omega))) (by exact Q_p2.out.rat ((S_b.add S_c).more (by omega))) (by omega) (by omega) (by omega) (by omega) (by rw [qord_add]; exact HX.out)).mono ?_
    rintro e w50 ⟨rfl, hb⟩
    replace HT := Lib.hid (HT.out.below hb)
    replace R_a := Lib.hid (R_a.out.below hb)
    replace R_b := Lib.hid (R_b.out.below hb)
    replace R_c := Lib.hid (R_c.out.below hb)
    replace Q_z := Lib.hid (Q_z.out.below hb)
    replace Q_h := Lib.hid (Q_h.out.below hb)
    replace Q_p1 := Lib.hid (Q_p1.out.below hb)
    replace Q_p2 := Lib.hid (Q_p2.out.below hb)
    replace B_a := Lib.hid (B_a.out.below hb)
    replace B_b := Lib.hid (B_b.out.below hb)
    replace B_c := Lib.hid (B_c.out.below hb)
    replace B_z := Lib.hid (B_z.out.below hb)
    replace B_h := Lib.hid (B_h.out.below hb)
    replace hB := below_next hB hb
    clear hb
    go_wp2_with fail
    refine hK.out _ _ (by exact ⟨B_a.out.c3, B_b.out.c3, B_c.out.c3, B_z.out.c3⟩) (fun hHeld => ?_)
    clear hK K
    try simp only [Act.put, List.setIfInBounds_toArray, List.set_cons_zero, List.set_cons_succ]
    refine wpAnyH_takeQ 8 (v := ?_) (fun _ _ _ _ _ h => h) (by simp only [List.getElem?_toArray, List.getElem?_cons_succ, List.getElem?_cons_zero]; rfl) (by kernel_rfl) (by kernel_rfl) (by kernel_rfl) (by rfl) ?_ hHeld ?_; rotate_left; · (intro w hSw; (try dsimp only at hSw); go_simp; (try with_reducible rfl))
    try simp only [Act.put, List.setIfInBounds_toArray, List.set_cons_zero, List.set_cons_succ]
    refine wpAnyH_takeQ 9 (v := ?_) (fun _ _ _ _ _ h => h) (by simp only [List.getElem?_toArray, List.getElem?_cons_succ, List.getElem?_cons_zero]; rfl) (by kernel_rfl) (by kernel_rfl) (by kernel_rfl) (by rfl) ?_ hHeld ?_; rotate_left; · (intro w hSw; (try dsimp only at hSw); go_simp; (try with_reducible rfl))
    try simp only [Act.put, List.setIfInBounds_toArray, List.set_cons_zero, List.set_cons_succ]
    refine wpAnyH_takeQ 10 (v := ?_) (fun _ _ _ _ _ h => h) (by simp only [List.getElem?_toArray, List.getElem?_cons_succ, List.getElem?_cons_zero]; rfl) (by kernel_rfl) (by kernel_rfl) (by kernel_rfl) (by rfl) ?_ hHeld ?_; rotate_left; · (intro w hSw; (try dsimp only at hSw); go_simp; (try with_reducible rfl))
    try simp only [Act.put, List.setIfInBounds_toArray, List.set_cons_zero, List.set_cons_succ]
    refine wpAnyH_takeQ 11 (v := ?_) (fun _ _ _ _ _ h => h) (by simp only [List.getElem?_toArray, List.getElem?_cons_succ, List.getElem?_cons_zero]; rfl) (by kernel_rfl) (by kernel_rfl) (by kernel_rfl) (by rfl) ?_ hHeld ?_; rotate_left; · (intro w hSw; (try dsimp only at hSw); go_simp; (try with_reducible rfl))
    try simp only [Act.put, List.setIfInBounds_toArray, List.set_cons_zero, List.set_cons_succ]
    refine wpAnyH_takeQ 13 (v := ?_) (fun _ _ _ _ _ h => h) (by simp only [List.getElem?_toArray, List.getElem?_cons_succ, List.getElem?_cons_zero]; rfl) (by kernel_rfl) (by kernel_rfl) (by kernel_rfl) (by rfl) ?_ hHeld ?_; rotate_left; · (intro w hSw; (try dsimp only at hSw); go_simp; (try with_reducible rfl))
    try simp only [Act.put, List.setIfInBounds_toArray, List.set_cons_zero, List.set_cons_succ]
    refine wpAnyH_takeQ 14 (v := ?_) (fun _ _ _ _ _ h => h) (by simp only [List.getElem?_toArray, List.getElem?_cons_succ, List.getElem?_cons_zero]; rfl) (by kernel_rfl) (by kernel_rfl) (by kernel_rfl) (by rfl) ?_ hHeld ?_; rotate_left; · (intro w hSw; (try dsimp only at hSw); go_simp; (try with_reducible rfl))
    try simp only [Act.put, List.setIfInBounds_toArray, List.set_cons_zero, List.set_cons_succ]
    refine wpAnyH_takeQ 17 (v := ?_) (fun _ _ _ _ _ h => h) (by simp only [List.getElem?_toArray, List.getElem?_cons_succ, List.getElem?_cons_zero]; rfl) (by kernel_rfl) (by kernel_rfl) (by kernel_rfl) (by rfl) ?_ hHeld ?_; rotate_left; · (intro w hSw; (try dsimp only at hSw); go_simp; (try with_reducible rfl))
    try simp only [Act.put, List.setIfInBounds_toArray, List.set_cons_zero, List.set_cons_succ]
    refine wpAnyH_takeQ 18 (v := ?_) (fun _ _ _ _ _ h => h) (by simp only [List.getElem?_toArray, List.getElem?_cons_succ, List.getElem?_cons_zero]; rfl) (by kernel_rfl) (by kernel_rfl) (by kernel_rfl) (by rfl) ?_ hHeld ?_; rotate_left; · (intro w hSw; (try dsimp only at hSw); go_simp; (try with_reducible rfl))
    try simp only [Act.put, List.setIfInBounds_toArray, List.set_cons_zero, List.set_cons_succ]
    refine wpAnyH_takeQ 19 (v := ?_) (fun _ _ _ _ _ h => h) (by simp only [List.getElem?_toArray, List.getElem?_cons_succ, List.getElem?_cons_zero]; rfl) (by kernel_rfl) (by kernel_rfl) (by kernel_rfl) (by rfl) ?_ hHeld ?_; rotate_left; · (intro w hSw; (try dsimp only at hSw); go_simp; (try with_reducible rfl))
    try simp only [Act.put, List.setIfInBounds_toArray, List.set_cons_zero, List.set_cons_succ]
    refine wpAnyH_ready (rs := [12]) (by kernel_rfl) (by simp) ?_
    refine AllReadyH.cons (by simp only [List.getElem?_toArray, List.getElem?_cons_succ, List.getElem?_cons_zero]; rfl) (fun K hK => ?_) AllReadyH.nil
    go_simp
    clear hHeld
    refine (qmul_any _ _ _ _ 6 _ _ _ _ 6 _ (by exact R_a.out) (by exact R_c.out) (by omega) (by omega) (by omega) (by omega)).mono ?_
    rintro e w51 ⟨b_p3, A_p3, n_p3, c_p3, D_p3, e_p3, f_p3, rfl, h_p3, hb⟩
    replace HT := Lib.hid (HT.out.below hb)
    replace R_a := Lib.hid (R_a.out.below hb)
    replace R_b := Lib.hid (R_b.out.below hb)
    replace R_c := Lib.hid (R_c.out.below hb)
    replace Q_z := Lib.hid (Q_z.out.below hb)
    replace Q_h := Lib.hid (Q_h.out.below hb)
    replace Q_p1 := Lib.hid (Q_p1.out.below hb)
    replace Q_p2 := Lib.hid (Q_p2.out.below hb)
    replace B_a := Lib.hid (B_a.out.below hb)
    replace B_b := Lib.hid (B_b.out.below hb)
    replace B_c := Lib.hid (B_c.out.below hb)
    replace B_z := Lib.hid (B_z.out.below hb)
    replace B_h := Lib.hid (B_h.out.below hb)
    replace hB := below_next hB hb
    clear hb
    have Q_p3 := Lib.hid h_p3
    clear h_p3
    go_wp2_with fail
    refine hK.out _ _ (by exact ⟨B_a.out.c3, B_b.out.c3, B_c.out.c3, B_z.out.c3⟩) (fun hHeld => ?_)
    clear hK K
    try simp only [Act.put, List.setIfInBounds_toArray, List.set_cons_zero, List.set_cons_succ]
    refine wpAnyH_ready (rs := [15]) (by kernel_rfl) (by simp) ?_
    refine AllReadyH.cons (by simp only [List.getElem?_toArray, List.getElem?_cons_succ, List.getElem?_cons_zero]; rfl) (fun K hK => ?_) AllReadyH.nil
    go_simp
    clear hHeld
    refine (qmul_any _ _ _ _ 6 _ _ _ _ 6 _ (by exact R_b.out) (by exact R_c.out) (by omega) (by omega) (by omega) (by omega)).mono ?_
    rintro e w52 ⟨b_p4, A_p4, n_p4, c_p4, D_p4, e_p4, f_p4, rfl, h_p4, hb⟩
    replace HT := Lib.hid (HT.out.below hb)
    replace R_a := Lib.hid (R_a.out.below hb)
    replace R_b := Lib.hid (R_b.out.below hb)
    replace R_c := Lib.hid (R_c.out.below hb)
    replace Q_z := Lib.hid (Q_z.out.below hb)
    replace Q_h := Lib.hid (Q_h.out.below hb)
    replace Q_p1 := Lib.hid (Q_p1.out.below hb)
    replace Q_p2 := Lib.hid (Q_p2.out.below hb)
    replace Q_p3 := Lib.hid (Q_p3.out.below hb)
    replace B_a := Lib.hid (B_a.out.below hb)
    replace B_b := Lib.hid (B_b.out.below hb)
    replace B_c := Lib.hid (B_c.out.below hb)
    replace B_z := Lib.hid (B_z.out.below hb)
    replace B_h := Lib.hid (B_h.out.below hb)
    replace hB := below_next hB hb
    clear hb
    have Q_p4 := Lib.hid h_p4
    clear h_p4
    go_wp2_with fail
    refine hK.out _ _ (by exact ⟨B_a.out.c3, B_b.out.c3, B_c.out.c3, B_z.out.c3⟩) (fun hHeld => ?_)
    clear hK K
    try simp only [Act.put, List.setIfInBounds_toArray, List.set_cons_zero, List.set_cons_succ]
    refine wpAnyH_ready (rs := [16]) (by kernel_rfl) (by simp) ?_
    refine AllReadyH.cons (by simp only [List.getElem?_toArray, List.getElem?_cons_succ, List.getElem?_cons_zero]; rfl) (fun K hK => ?_) AllReadyH.nil
    go_simp
    clear hHeld
    refine (qcmp_is (k := 12) (j := 12) (v := (x * v)) (by exact Q_p3.out.rat ((S_a.mul S_c).more (by omega))) (by exact Q_p4.out.rat ((S_b.mul S_c).more (by omega))) (by omega) (by omega) (by omega) (by omega) (by rw [qord_mul, HX.out, HV.out])).mono ?_
    rintro e w53 ⟨rfl, hb⟩
    replace HT := Lib.hid (HT.out.below hb)
    replace R_a := Lib.hid (R_a.out.below hb)
    replace R_b := Lib.hid (R_b.out.below hb)
    replace R_c := Lib.hid (R_c.out.below hb)
    replace Q_z := Lib.hid (Q_z.out.below hb)
    replace Q_h := Lib.hid (Q_h.out.below hb)
    replace Q_p1 := Lib.hid (Q_p1.out.below hb)
    replace Q_p2 := Lib.hid (Q_p2.out.below hb)
    replace Q_p3 := Lib.hid (Q_p3.out.below hb)
    replace Q_p4 := Lib.hid (Q_p4.out.below hb)
    replace B_a := Lib.hid (B_a.out.below hb)
    replace B_b := Lib.hid (B_b.out.below hb)
    replace B_c := Lib.hid (B_c.out.below hb)
    replace B_z := Lib.hid (B_z.out.below hb)
    replace B_h := Lib.hid (B_h.out.below hb)
    replace hB := below_next hB hb
    clear hb
    go_wp2_with fail
    refine hK.out _ _ (by exact ⟨B_a.out.c3, B_b.out.c3, B_c.out.c3, B_z.out.c3⟩) (fun hHeld => ?_)
    clear hK K
    try simp only [Act.put, List.setIfInBounds_toArray, List.set_cons_zero, List.set_cons_succ]
    refine wpAnyH_ready (rs := [20]) (by kernel_rfl) (by simp) ?_
    refine AllReadyH.cons (by simp only [List.getElem?_toArray, List.getElem?_cons_succ, List.getElem?_cons_zero]; rfl) (fun K hK => ?_) AllReadyH.nil
    go_simp
    clear hHeld
    refine (qcmp_is (k := 6) (j := 1) (v := v) (by exact R_c.out) (by exact Q_z.out.rat qsz0) (by omega) (by omega) (by omega) (by omega) (by exact HV.out)).mono ?_
    rintro e w54 ⟨rfl, hb⟩
    replace HT := Lib.hid (HT.out.below hb)
    replace R_a := Lib.hid (R_a.out.below hb)
    replace R_b := Lib.hid (R_b.out.below hb)
    replace R_c := Lib.hid (R_c.out.below hb)
    replace Q_z := Lib.hid (Q_z.out.below hb)
    replace Q_h := Lib.hid (Q_h.out.below hb)
    replace Q_p1 := Lib.hid (Q_p1.out.below hb)
    replace Q_p2 := Lib.hid (Q_p2.out.below hb)
    replace Q_p3 := Lib.hid (Q_p3.out.below hb)
    replace Q_p4 := Lib.hid (Q_p4.out.below hb)
    replace B_a := Lib.hid (B_a.out.below hb)
    replace B_b := Lib.hid (B_b.out.below hb)
    replace B_c := Lib.hid (B_c.out.below hb)
    replace B_z := Lib.hid (B_z.out.below hb)
    replace B_h := Lib.hid (B_h.out.below hb)
    replace hB := below_next hB hb
    clear hb
    go_wp2_with fail
    refine hK.out _ _ (by exact ⟨B_a.out.c3, B_b.out.c3, B_c.out.c3, B_z.out.c3⟩) (fun hHeld => ?_)
    clear hK K
    try simp only [Act.put, List.setIfInBounds_toArray, List.set_cons_zero, List.set_cons_succ]
    refine wpAnyH_takeQ 21 (v := ?_) (fun _ _ _ _ _ h => h) (by simp only [List.getElem?_toArray, List.getElem?_cons_succ, List.getElem?_cons_zero]; rfl) (by kernel_rfl) (by kernel_rfl) (by kernel_rfl) (by rfl) ?_ hHeld ?_; rotate_left; · (intro w hSw; (try dsimp only at hSw); go_simp; (try with_reducible rfl))
    try simp only [Act.put, List.setIfInBounds_toArray, List.set_cons_zero, List.set_cons_succ]
    refine wpAnyH_takeQ 22 (v := ?_) (fun _ _ _ _ _ h => h) (by simp only [List.getElem?_toArray, List.getElem?_cons_succ, List.getElem?_cons_zero]; rfl) (by kernel_rfl) (by kernel_rfl) (by kernel_rfl) (by rfl) ?_ hHeld ?_; rotate_left; · (intro w hSw; (try dsimp only at hSw); go_simp; (try with_reducible rfl))
    try simp only [Act.put, List.setIfInBounds_toArray, List.set_cons_zero, List.set_cons_succ]
    refine wpAnyH_takeQ 23 (v := ?_) (fun _ _ _ _ _ h => h) (by simp only [List.getElem?_toArray, List.getElem?_cons_succ, List.getElem?_cons_zero]; rfl) (by kernel_rfl) (by kernel_rfl) (by kernel_rfl) (by rfl) ?_ hHeld ?_; rotate_left; · (intro w hSw; (try dsimp only at hSw); go_simp; (try with_reducible rfl))
    try simp only [Act.put, List.setIfInBounds_toArray, List.set_cons_zero, List.set_cons_succ]
    refine wpAnyH_done (by kernel_rfl) (NoPanic.normal ?_) _
    clear hHeld
    clear Q_p1 Q_p2 Q_p3 Q_p4
    have c_a0 := B_a.out.cell0
    have c_a1 := B_a.out.cell1
    have c_a2 := B_a.out.cell2
    have c_b0 := B_b.out.cell0
    have c_b1 := B_b.out.cell1
    have c_b2 := B_b.out.cell2
    have c_c0 := B_c.out.cell0
    have c_c1 := B_c.out.cell1
    have c_c2 := B_c.out.cell2
    have c_z0 := B_z.out.cell0
    have c_z1 := B_z.out.cell1
    have c_z2 := B_z.out.cell2
    have c_h0 := B_h.out.cell0
    have c_h1 := B_h.out.cell1
    have c_h2 := B_h.out.cell2
    go_wp2
    clear c_a0 c_a1 c_a2 c_b0 c_b1 c_b2 c_c0 c_c1 c_c2 c_z0 c_z1 c_z2 c_h0 c_h1 c_h2
    go_cut [14] (fun sv wx => ∃ (b_m : Bool) (A_m : Option Addr) (n_m c_m : Nat) (D_m : Option Addr) (e_m f_m g_m : Nat), sv = .pointer (some ⟨g_m, 0, none⟩) ∧ RBox wx g_m (.bool b_m) (.slice A_m n_m c_m) (.slice D_m e_m f_m) ∧ QAt wx b_m (.slice A_m n_m c_m) (.slice D_m e_m f_m) (qof 1 2 * (q_a + q_b)) ∧ Tab wx ∧ RAt wx b_a m_a d_a q_a 6 ∧ RAt wx b_b m_b d_b q_b 6 ∧ RAt wx b_c m_c d_c q_c 6 ∧ QAt wx b_z (.slice A_z n_z c_z) (.slice D_z e_z f_z) 0 ∧ QAt wx b_h (.slice A_h n_h c_h) (.slice D_h e_h f_h) (qof 1 2) ∧ RBox wx (w.heap.size) (.bool b_a) m_a d_a ∧ RBox wx (w.heap.size + 1) (.bool b_b) m_b d_b ∧ RBox wx (w.heap.size + 1 + 1) (.bool b_c) m_c d_c ∧ RBox wx (g_z) (.bool b_z) (.slice A_z n_z c_z) (.slice D_z e_z f_z) ∧ RBox wx (g_h) (.bool b_h) (.slice A_h n_h c_h) (.slice D_h e_h f_h) ∧ Below w.heap.size w wx)
    case first =>
      refine wp_region_named (S := (fun w' => (w'.cell? ⟨w.heap.size, 0, none⟩ = some (.bool b_a) ∧ w'.cell? ⟨w.heap.size, 1, none⟩ = some m_a ∧ w'.cell? ⟨w.heap.size, 2, none⟩ = some d_a) ∧ (w'.cell? ⟨w.heap.size + 1, 0, none⟩ = some (.bool b_b) ∧ w'.cell? ⟨w.heap.size + 1, 1, none⟩ = some m_b ∧ w'.cell? ⟨w.heap.size + 1, 2, none⟩ = some d_b) ∧ (w'.cell? ⟨g_h, 0, none⟩ = some (.bool b_h) ∧ w'.cell? ⟨g_h, 1, none⟩ = some (.slice A_h n_h c_h) ∧ w'.cell? ⟨g_h, 2, none⟩ = some (.slice D_h e_h f_h)))) (by kernel_rfl) (by exact ⟨B_a.out.c3, B_b.out.c3, B_h.out.c3⟩) (fun V55 hb hHeld => ?_)
      replace HT := Lib.hid (HT.out.below hb)
      replace R_a := Lib.hid (R_a.out.below hb)
      replace R_b := Lib.hid (R_b.out.below hb)
      replace R_c := Lib.hid (R_c.out.below hb)
      replace Q_z := Lib.hid (Q_z.out.below hb)
      replace Q_h := Lib.hid (Q_h.out.below hb)
      replace B_a := Lib.hid (B_a.out.below hb)
      replace B_b := Lib.hid (B_b.out.below hb)
      replace B_c := Lib.hid (B_c.out.below hb)
      replace B_z := Lib.hid (B_z.out.below hb)
      replace B_h := Lib.hid (B_h.out.below hb)
      replace hB := below_next hB hb
      clear hb
      refine wpAnyH_takeQ 0 (v := ?_) (fun _ _ _ _ _ h => h) (by simp only [List.getElem?_toArray, List.getElem?_cons_zero]; rfl) (by kernel_rfl) (by kernel_rfl) (by kernel_rfl) (by rfl) ?_ hHeld ?_; rotate_left; · (intro w hSw; (try dsimp only at hSw); go_simp; (try with_reducible rfl))
      try simp only [Act.put, List.setIfInBounds_toArray, List.set_cons_zero, List.set_cons_succ]
      refine wpAnyH_takeQ 1 (v := ?_) (fun _ _ _ _ _ h => h) (by simp only [List.getElem?_toArray, List.getElem?_cons_succ, List.getElem?_cons_zero]; rfl) (by kernel_rfl) (by kernel_rfl) (by kernel_rfl) (by rfl) ?_ hHeld ?_; rotate_left; · (intro w hSw; (try dsimp only at hSw); go_simp; (try with_reducible rfl))
      try simp only [Act.put, List.setIfInBounds_toArray, List.set_cons_zero, List.set_cons_succ]
      refine wpAnyH_takeQ 2 (v := ?_) (fun _ _ _ _ _ h => h) (by simp only [List.getElem?_toArray, List.getElem?_cons_succ, List.getElem?_cons_zero]; rfl) (by kernel_rfl) (by kernel_rfl) (by kernel_rfl) (by rfl) ?_ hHeld ?_; rotate_left; · (intro w hSw; (try dsimp only at hSw); go_simp; (try with_reducible rfl))
      try simp only [Act.put, List.setIfInBounds_toArray, List.set_cons_zero, List.set_cons_succ]
      refine wpAnyH_ready (rs := [3, 5]) (by kernel_rfl) (by simp) ?_
      refine AllReadyH.cons (by simp only [List.getElem?_toArray, List.getElem?_cons_succ, List.getElem?_cons_zero]; rfl) (fun K hK => ?_) ?_
      go_simp
      clear hHeld
      refine (qadd_any _ _ _ _ 6 _ _ _ _ 6 _ (by exact R_a.out) (by exact R_b.out) (by omega) (by omega) (by omega) (by omega)).mono ?_
      rintro e w56 ⟨b_s, A_s, n_s, c_s, D_s, e_s, f_s, rfl, h_s, hb⟩
      replace HT := Lib.hid (HT.out.below hb)
      replace R_a := Lib.hid (R_a.out.below hb)
      replace R_b := Lib.hid (R_b.out.below hb)
      replace R_c := Lib.hid (R_c.out.below hb)
      replace Q_z := Lib.hid (Q_z.out.below hb)
      replace Q_h := Lib.hid (Q_h.out.below hb)
      replace B_a := Lib.hid (B_a.out.below hb)
      replace B_b := Lib.hid (B_b.out.below hb)
      replace B_c := Lib.hid (B_c.out.below hb)
      replace B_z := Lib.hid (B_z.out.below hb)
      replace B_h := Lib.hid (B_h.out.below hb)
      replace hB := below_next hB hb
      clear hb
      have Q_s := Lib.hid h_s
      clear h_s
      go_wp2_with fail
      refine hK.out _ _ (by exact ⟨B_a.out.c3, B_b.out.c3, B_h.out.c3⟩) (fun hHeld => ?_)
      clear hK K
      try simp only [Act.put, List.setIfInBounds_toArray, List.set_cons_zero, List.set_cons_succ]
      refine wpAnyH_ready (rs := [4, 5]) (by kernel_rfl) (by simp) ?_
      refine AllReadyH.cons (by simp only [List.getElem?_toArray, List.getElem?_cons_succ, List.getElem?_cons_zero]; rfl) (fun K hK => ?_) ?_
      go_simp
      clear hHeld
      refine (qmul_any _ _ _ _ 1 _ _ _ _ 13 _ (by exact Q_h.out.rat S_h) (by exact Q_s.out.rat ((S_a.add S_b).more (by omega))) (by omega) (by omega) (by omega) (by omega)).mono ?_
      rintro e w57 ⟨b_m, A_m, n_m, c_m, D_m, e_m, f_m, rfl, h_m, hb⟩
      replace HT := Lib.hid (HT.out.below hb)
      replace R_a := Lib.hid (R_a.out.below hb)
      replace R_b := Lib.hid (R_b.out.below hb)
      replace R_c := Lib.hid (R_c.out.below hb)
      replace Q_z := Lib.hid (Q_z.out.below hb)
      replace Q_h := Lib.hid (Q_h.out.below hb)
      replace Q_s := Lib.hid (Q_s.out.below hb)
      replace B_a := Lib.hid (B_a.out.below hb)
      replace B_b := Lib.hid (B_b.out.below hb)
      replace B_c := Lib.hid (B_c.out.below hb)
      replace B_z := Lib.hid (B_z.out.below hb)
      replace B_h := Lib.hid (B_h.out.below hb)
      replace hB := below_next hB hb
      clear hb
      have Q_m := Lib.hid h_m
      clear h_m
      go_wp2_with fail
      refine hK.out _ _ (by exact ⟨B_a.out.c3, B_b.out.c3, B_h.out.c3⟩) (fun hHeld => ?_)
      clear hK K
      try simp only [Act.put, List.setIfInBounds_toArray, List.set_cons_zero, List.set_cons_succ]
      refine wpAnyH_ready (rs := [5]) (by kernel_rfl) (by simp) ?_
      refine AllReadyH.cons (by simp only [List.getElem?_toArray, List.getElem?_cons_succ, List.getElem?_cons_zero]; rfl) (fun K hK => ?_) AllReadyH.nil
      go_simp
      clear hHeld
      obtain ⟨A58, g_m, hV, hg, NB, hb⟩ := newR w57 (.bool false) (.slice none 0 0) (.slice none 0 0)
      rw [hV, hg]
      clear hV
      have l_m_a : w.heap.size < g_m := hg ▸ B_a.out.lt
      have l_m_b : w.heap.size + 1 < g_m := hg ▸ B_b.out.lt
      have l_m_c : w.heap.size + 1 + 1 < g_m := hg ▸ B_c.out.lt
      have l_m_z : g_z < g_m := hg ▸ B_z.out.lt
      have l_m_h : g_h < g_m := hg ▸ B_h.out.lt
      replace HT := Lib.hid (HT.out.below hb)
      replace R_a := Lib.hid (R_a.out.below hb)
      replace R_b := Lib.hid (R_b.out.below hb)
      replace R_c := Lib.hid (R_c.out.below hb)
      replace Q_z := Lib.hid (Q_z.out.below hb)
      replace Q_h := Lib.hid (Q_h.out.below hb)
      replace Q_s := Lib.hid (Q_s.out.below hb)
      replace Q_m := Lib.hid (Q_m.out.below hb)
      replace B_a := Lib.hid (B_a.out.below hb)
      replace B_b := Lib.hid (B_b.out.below hb)
      replace B_c := Lib.hid (B_c.out.below hb)
      replace B_z := Lib.hid (B_z.out.below hb)
      replace B_h := Lib.hid (B_h.out.below hb)
      replace hB := below_next hB hb
      have B_m := NB
      clear NB hb hg
      refine hK.out _ _ (by exact ⟨B_a.out.c3, B_b.out.c3, B_h.out.c3⟩) (fun hHeld => ?_)
      clear hK K
      try simp only [Act.put, List.setIfInBounds_toArray, List.set_cons_zero, List.set_cons_succ]
      refine wpAnyH_ready (rs := [6]) (by kernel_rfl) (by simp) ?_
      refine AllReadyH.cons (by simp only [List.getElem?_toArray, List.getElem?_cons_succ, List.getElem?_cons_zero]; rfl) (fun K hK => ?_) AllReadyH.nil
      have c_a0 := B_a.out.cell0
      have c_a1 := B_a.out.cell1
      have c_a2 := B_a.out.cell2
      have c_b0 := B_b.out.cell0
      have c_b1 := B_b.out.cell1
      have c_b2 := B_b.out.cell2
      have c_c0 := B_c.out.cell0
      have c_c1 := B_c.out.cell1
      have c_c2 := B_c.out.cell2
      have c_z0 := B_z.out.cell0
      have c_z1 := B_z.out.cell1
      have c_z2 := B_z.out.cell2
      have c_h0 := B_h.out.cell0
      have c_h1 := B_h.out.cell1
      have c_h2 := B_h.out.cell2
      have c_m0 := B_m.out.cell0
      have c_m1 := B_m.out.cell1
      have c_m2 := B_m.out.cell2
      have f_m0 := B_m.out.fro 0
      have f_m1 := B_m.out.fro 1
      have f_m2 := B_m.out.fro 2
      go_simp
      clear c_a0 c_a1 c_a2 c_b0 c_b1 c_b2 c_c0 c_c1 c_c2 c_z0 c_z1 c_z2 c_h0 c_h1 c_h2 c_m0 c_m1 c_m2 f_m0 f_m1 f_m2
      clear hHeld
      obtain ⟨V59, hV, NB, KP⟩ := storeR B_m.out (.bool b_m) (.slice A_m n_m c_m) (.slice D_m e_m f_m)
      rw [hV]
      clear hV
      replace HT := Lib.hid (HT.out.keeps KP.out)
      replace R_a := Lib.hid (R_a.out.keeps KP.out)
      replace R_b := Lib.hid (R_b.out.keeps KP.out)
      replace R_c := Lib.hid (R_c.out.keeps KP.out)
      replace Q_z := Lib.hid (Q_z.out.keeps KP.out)
      replace Q_h := Lib.hid (Q_h.out.keeps KP.out)
      replace Q_s := Lib.hid (Q_s.out.keeps KP.out)
      replace Q_m := Lib.hid (Q_m.out.keeps KP.out)
      replace B_a := Lib.hid (B_a.out.keeps KP.out (by first | exact Nat.ne_of_lt l_m_a | exact Nat.ne_of_gt l_a_m | omega))
      replace B_b := Lib.hid (B_b.out.keeps KP.out (by first | exact Nat.ne_of_lt l_m_b | exact Nat.ne_of_gt l_b_m | omega))
      replace B_c := Lib.hid (B_c.out.keeps KP.out (by first | exact Nat.ne_of_lt l_m_c | exact Nat.ne_of_gt l_c_m | omega))
      replace B_z := Lib.hid (B_z.out.keeps KP.out (by first | exact Nat.ne_of_lt l_m_z | exact Nat.ne_of_gt l_z_m | omega))
      replace B_h := Lib.hid (B_h.out.keeps KP.out (by first | exact Nat.ne_of_lt l_m_h | exact Nat.ne_of_gt l_h_m | omega))
      replace hB := below_keeps hB KP.out (by first | exact Nat.le_of_lt l_m_a | omega)
      have B_m := NB
      clear NB KP
      refine hK.out _ _ (by exact ⟨B_a.out.c3, B_b.out.c3, B_h.out.c3⟩) (fun hHeld => ?_)
      clear hK K
      try simp only [Act.put, List.setIfInBounds_toArray, List.set_cons_zero, List.set_cons_succ]
      refine wpAnyH_done (by kernel_rfl) (NoPanic.normal ?_) _
      clear hHeld
      go_wp2_with fail
      go_meet
      exact ⟨b_m, A_m, n_m, c_m, D_m, e_m, f_m, g_m, rfl, B_m.out, Q_m.out, HT.out, R_a.out, R_b.out, R_c.out, Q_z.out, Q_h.out, B_a.out, B_b.out, B_c.out, B_z.out, B_h.out, hB⟩
      refine AllReadyH.cons (by simp only [List.getElem?_toArray, List.getElem?_cons_succ, List.getElem?_cons_zero]; rfl) (fun K hK => ?_) ?_
      go_simp
      clear hHeld
      obtain ⟨A60, g_m, hV, hg, NB, hb⟩ := newR w56 (.bool false) (.slice none 0 0) (.slice none 0 0)
      rw [hV, hg]
      clear hV
      have l_m_a : w.heap.size < g_m := hg ▸ B_a.out.lt
      have l_m_b : w.heap.size + 1 < g_m := hg ▸ B_b.out.lt
      have l_m_c : w.heap.size + 1 + 1 < g_m := hg ▸ B_c.out.lt
      have l_m_z : g_z < g_m := hg ▸ B_z.out.lt
      have l_m_h : g_h < g_m := hg ▸ B_h.out.lt
      replace HT := Lib.hid (HT.out.below hb)
      replace R_a := Lib.hid (R_a.out.below hb)
      replace R_b := Lib.hid (R_b.out.below hb)
      replace R_c := Lib.hid (R_c.out.below hb)
      replace Q_z := Lib.hid (Q_z.out.below hb)
      replace Q_h := Lib.hid (Q_h.out.below hb)
      replace Q_s := Lib.hid (Q_s.out.below hb)
      replace B_a := Lib.hid (B_a.out.below hb)
      replace B_b := Lib.hid (B_b.out.below hb)
      replace B_c := Lib.hid (B_c.out.below hb)
      replace B_z := Lib.hid (B_z.out.below hb)
      replace B_h := Lib.hid (B_h.out.below hb)
      replace hB := below_next hB hb
      have B_m := NB
      clear NB hb hg
      refine hK.out _ _ (by exact ⟨B_a.out.c3, B_b.out.c3, B_h.out.c3⟩) (fun hHeld => ?_)
      clear hK K
      try simp only [Act.put, List.setIfInBounds_toArray, List.set_cons_zero, List.set_cons_succ]
      refine wpAnyH_ready (rs := [4]) (by kernel_rfl) (by simp) ?_
      refine AllReadyH.cons (by simp only [List.getElem?_toArray, List.getElem?_cons_succ, List.getElem?_cons_zero]; rfl) (fun K hK => ?_) AllReadyH.nil
      go_simp
      clear hHeld
      refine (qmul_any _ _ _ _ 1 _ _ _ _ 13 _ (by exact Q_h.out.rat S_h) (by exact Q_s.out.rat ((S_a.add S_b).more (by omega))) (by omega) (by omega) (by omega) (by omega)).mono ?_
      rintro e w61 ⟨b_m, A_m, n_m, c_m, D_m, e_m, f_m, rfl, h_m, hb⟩
      replace HT := Lib.hid (HT.out.below hb)
      replace R_a := Lib.hid (R_a.out.below hb)
      replace R_b := Lib.hid (R_b.out.below hb)
      replace R_c := Lib.hid (R_c.out.below hb)
      replace Q_z := Lib.hid (Q_z.out.below hb)
      replace Q_h := Lib.hid (Q_h.out.below hb)
      replace Q_s := Lib.hid (Q_s.out.below hb)
      replace B_a := Lib.hid (B_a.out.below hb)
      replace B_b := Lib.hid (B_b.out.below hb)
      replace B_c := Lib.hid (B_c.out.below hb)
      replace B_z := Lib.hid (B_z.out.below hb)
      replace B_h := Lib.hid (B_h.out.below hb)
      replace B_m := Lib.hid (B_m.out.below hb)
      replace hB := below_next hB hb
      clear hb
      have Q_m := Lib.hid h_m
      clear h_m
      go_wp2_with fail
      refine hK.out _ _ (by exact ⟨B_a.out.c3, B_b.out.c3, B_h.out.c3⟩) (fun hHeld => ?_)
      clear hK K
      try simp only [Act.put, List.setIfInBounds_toArray, List.set_cons_zero, List.set_cons_succ]
      refine wpAnyH_ready (rs := [6]) (by kernel_rfl) (by simp) ?_
      refine AllReadyH.cons (by simp only [List.getElem?_toArray, List.getElem?_cons_succ, List.getElem?_cons_zero]; rfl) (fun K hK => ?_) AllReadyH.nil
      have c_a0 := B_a.out.cell0
      have c_a1 := B_a.out.cell1
      have c_a2 := B_a.out.cell2
      have c_b0 := B_b.out.cell0
      have c_b1 := B_b.out.cell1
      have c_b2 := B_b.out.cell2
      have c_c0 := B_c.out.cell0
      have c_c1 := B_c.out.cell1
      have c_c2 := B_c.out.cell2
      have c_z0 := B_z.out.cell0
      have c_z1 := B_z.out.cell1
      have c_z2 := B_z.out.cell2
      have c_h0 := B_h.out.cell0
      have c_h1 := B_h.out.cell1
      have c_h2 := B_h.out.cell2
      have c_m0 := B_m.out.cell0
      have c_m1 := B_m.out.cell1
      have c_m2 := B_m.out.cell2
      have f_m0 := B_m.out.fro 0
      have f_m1 := B_m.out.fro 1
      have f_m2 := B_m.out.fro 2
      go_simp
      clear c_a0 c_a1 c_a2 c_b0 c_b1 c_b2 c_c0 c_c1 c_c2 c_z0 c_z1 c_z2 c_h0 c_h1 c_h2 c_m0 c_m1 c_m2 f_m0 f_m1 f_m2
      clear hHeld
      obtain ⟨V62, hV, NB, KP⟩ := storeR B_m.out (.bool b_m) (.slice A_m n_m c_m) (.slice D_m e_m f_m)
      rw [hV]
      clear hV
      replace HT := Lib.hid (HT.out.keeps KP.out)
      replace R_a := Lib.hid (R_a.out.keeps KP.out)
      replace R_b := Lib.hid (R_b.out.keeps KP.out)
      replace R_c := Lib.hid (R_c.out.keeps KP.out)
      replace Q_z := Lib.hid (Q_z.out.keeps KP.out)
      replace Q_h := Lib.hid (Q_h.out.keeps KP.out)
      replace Q_s := Lib.hid (Q_s.out.keeps KP.out)
      replace Q_m := Lib.hid (Q_m.out.keeps KP.out)
      replace B_a := Lib.hid (B_a.out.keeps KP.out (by first | exact Nat.ne_of_lt l_m_a | exact Nat.ne_of_gt l_a_m | omega))
      replace B_b := Lib.hid (B_b.out.keeps KP.out (by first | exact Nat.ne_of_lt l_m_b | exact Nat.ne_of_gt l_b_m | omega))
      replace B_c := Lib.hid (B_c.out.keeps KP.out (by first | exact Nat.ne_of_lt l_m_c | exact Nat.ne_of_gt l_c_m | omega))
      replace B_z := Lib.hid (B_z.out.keeps KP.out (by first | exact Nat.ne_of_lt l_m_z | exact Nat.ne_of_gt l_z_m | omega))
      replace B_h := Lib.hid (B_h.out.keeps KP.out (by first | exact Nat.ne_of_lt l_m_h | exact Nat.ne_of_gt l_h_m | omega))
      replace hB := below_keeps hB KP.out (by first | exact Nat.le_of_lt l_m_a | omega)
      have B_m := NB
      clear NB KP
      refine hK.out _ _ (by exact ⟨B_a.out.c3, B_b.out.c3, B_h.out.c3⟩) (fun hHeld => ?_)
      clear hK K
      try simp only [Act.put, List.setIfInBounds_toArray, List.set_cons_zero, List.set_cons_succ]
      refine wpAnyH_done (by kernel_rfl) (NoPanic.normal ?_) _
      clear hHeld
      go_wp2_with fail
      go_meet
      exact ⟨b_m, A_m, n_m, c_m, D_m, e_m, f_m, g_m, rfl, B_m.out, Q_m.out, HT.out, R_a.out, R_b.out, R_c.out, Q_z.out, Q_h.out, B_a.out, B_b.out, B_c.out, B_z.out, B_h.out, hB⟩
      exact AllReadyH.nil
      refine AllReadyH.cons (by simp only [List.getElem?_toArray, List.getElem?_cons_succ, List.getElem?_cons_zero]; rfl) (fun K hK => ?_) ?_
      go_simp
      clear hHeld
      obtain ⟨A63, g_m, hV, hg, NB, hb⟩ := newR V55 (.bool false) (.slice none 0 0) (.slice none 0 0)
      rw [hV, hg]
      clear hV
      have l_m_a : w.heap.size < g_m := hg ▸ B_a.out.lt
      have l_m_b : w.heap.size + 1 < g_m := hg ▸ B_b.out.lt
      have l_m_c : w.heap.size + 1 + 1 < g_m := hg ▸ B_c.out.lt
      have l_m_z : g_z < g_m := hg ▸ B_z.out.lt
      have l_m_h : g_h < g_m := hg ▸ B_h.out.lt
      replace HT := Lib.hid (HT.out.below hb)
      replace R_a := Lib.hid (R_a.out.below hb)
      replace R_b := Lib.hid (R_b.out.below hb)
      replace R_c := Lib.hid (R_c.out.below hb)
      replace Q_z := Lib.hid (Q_z.out.below hb)
      replace Q_h := Lib.hid (Q_h.out.below hb)
      replace B_a := Lib.hid (B_a.out.below hb)
      replace B_b := Lib.hid (B_b.out.below hb)
      replace B_c := Lib.hid (B_c.out.below hb)
      replace B_z := Lib.hid (B_z.out.below hb)
      replace B_h := Lib.hid (B_h.out.below hb)
      replace hB := below_next hB hb
      have B_m := NB
      clear NB hb hg
      refine hK.out _ _ (by exact ⟨B_a.out.c3, B_b.out.c3, B_h.out.c3⟩) (fun hHeld => ?_)
      clear hK K
      try simp only [Act.put, List.setIfInBounds_toArray, List.set_cons_zero, List.set_cons_succ]
      refine wpAnyH_ready (rs := [3]) (by kernel_rfl) (by simp) ?_
      refine AllReadyH.cons (by simp only [List.getElem?_toArray, List.getElem?_cons_succ, List.getElem?_cons_zero]; rfl) (fun K hK => ?_) AllReadyH.nil
      go_simp
      clear hHeld
      refine (qadd_any _ _ _ _ 6 _ _ _ _ 6 _ (by exact R_a.out) (by exact R_b.out) (by omega) (by omega) (by omega) (by omega)).mono ?_
      rintro e w64 ⟨b_s, A_s, n_s, c_s, D_s, e_s, f_s, rfl, h_s, hb⟩
      replace HT := Lib.hid (HT.out.below hb)
      replace R_a := Lib.hid (R_a.out.below hb)
      replace R_b := Lib.hid (R_b.out.below hb)
      replace R_c := Lib.hid (R_c.out.below hb)
      replace Q_z := Lib.hid (Q_z.out.below hb)
      replace Q_h := Lib.hid (Q_h.out.below hb)
      replace B_a := Lib.hid (B_a.out.below hb)
      replace B_b := Lib.hid (B_b.out.below hb)
      replace B_c := Lib.hid (B_c.out.below hb)
      replace B_z := Lib.hid (B_z.out.below hb)
      replace B_h := Lib.hid (B_h.out.below hb)
      replace B_m := Lib.hid (B_m.out.below hb)
      replace hB := below_next hB hb
      clear hb
      have Q_s := Lib.hid h_s
      clear h_s
      go_wp2_with fail
      refine hK.out _ _ (by exact ⟨B_a.out.c3, B_b.out.c3, B_h.out.c3⟩) (fun hHeld => ?_)
      clear hK K
      try simp only [Act.put, List.setIfInBounds_toArray, List.set_cons_zero, List.set_cons_succ]
      refine wpAnyH_ready (rs := [4]) (by kernel_rfl) (by simp) ?_
      refine AllReadyH.cons (by simp only [List.getElem?_toArray, List.getElem?_cons_succ, List.getElem?_cons_zero]; rfl) (fun K hK => ?_) AllReadyH.nil
      go_simp
      clear hHeld
      refine (qmul_any _ _ _ _ 1 _ _ _ _ 13 _ (by exact Q_h.out.rat S_h) (by exact Q_s.out.rat ((S_a.add S_b).more (by omega))) (by omega) (by omega) (by omega) (by omega)).mono ?_
      rintro e w65 ⟨b_m, A_m, n_m, c_m, D_m, e_m, f_m, rfl, h_m, hb⟩
      replace HT := Lib.hid (HT.out.below hb)
      replace R_a := Lib.hid (R_a.out.below hb)
      replace R_b := Lib.hid (R_b.out.below hb)
      replace R_c := Lib.hid (R_c.out.below hb)
      replace Q_z := Lib.hid (Q_z.out.below hb)
      replace Q_h := Lib.hid (Q_h.out.below hb)
      replace Q_s := Lib.hid (Q_s.out.below hb)
      replace B_a := Lib.hid (B_a.out.below hb)
      replace B_b := Lib.hid (B_b.out.below hb)
      replace B_c := Lib.hid (B_c.out.below hb)
      replace B_z := Lib.hid (B_z.out.below hb)
      replace B_h := Lib.hid (B_h.out.below hb)
      replace B_m := Lib.hid (B_m.out.below hb)
      replace hB := below_next hB hb
      clear hb
      have Q_m := Lib.hid h_m
      clear h_m
      go_wp2_with fail
      refine hK.out _ _ (by exact ⟨B_a.out.c3, B_b.out.c3, B_h.out.c3⟩) (fun hHeld => ?_)
      clear hK K
      try simp only [Act.put, List.setIfInBounds_toArray, List.set_cons_zero, List.set_cons_succ]
      refine wpAnyH_ready (rs := [6]) (by kernel_rfl) (by simp) ?_
      refine AllReadyH.cons (by simp only [List.getElem?_toArray, List.getElem?_cons_succ, List.getElem?_cons_zero]; rfl) (fun K hK => ?_) AllReadyH.nil
      have c_a0 := B_a.out.cell0
      have c_a1 := B_a.out.cell1
      have c_a2 := B_a.out.cell2
      have c_b0 := B_b.out.cell0
      have c_b1 := B_b.out.cell1
      have c_b2 := B_b.out.cell2
      have c_c0 := B_c.out.cell0
      have c_c1 := B_c.out.cell1
      have c_c2 := B_c.out.cell2
      have c_z0 := B_z.out.cell0
      have c_z1 := B_z.out.cell1
      have c_z2 := B_z.out.cell2
      have c_h0 := B_h.out.cell0
      have c_h1 := B_h.out.cell1
      have c_h2 := B_h.out.cell2
      have c_m0 := B_m.out.cell0
      have c_m1 := B_m.out.cell1
      have c_m2 := B_m.out.cell2
      have f_m0 := B_m.out.fro 0
      have f_m1 := B_m.out.fro 1
      have f_m2 := B_m.out.fro 2
      go_simp
      clear c_a0 c_a1 c_a2 c_b0 c_b1 c_b2 c_c0 c_c1 c_c2 c_z0 c_z1 c_z2 c_h0 c_h1 c_h2 c_m0 c_m1 c_m2 f_m0 f_m1 f_m2
      clear hHeld
      obtain ⟨V66, hV, NB, KP⟩ := storeR B_m.out (.bool b_m) (.slice A_m n_m c_m) (.slice D_m e_m f_m)
      rw [hV]
      clear hV
      replace HT := Lib.hid (HT.out.keeps KP.out)
      replace R_a := Lib.hid (R_a.out.keeps KP.out)
      replace R_b := Lib.hid (R_b.out.keeps KP.out)
      replace R_c := Lib.hid (R_c.out.keeps KP.out)
      replace Q_z := Lib.hid (Q_z.out.keeps KP.out)
      replace Q_h := Lib.hid (Q_h.out.keeps KP.out)
      replace Q_s := Lib.hid (Q_s.out.keeps KP.out)
      replace Q_m := Lib.hid (Q_m.out.keeps KP.out)
      replace B_a := Lib.hid (B_a.out.keeps KP.out (by first | exact Nat.ne_of_lt l_m_a | exact Nat.ne_of_gt l_a_m | omega))
      replace B_b := Lib.hid (B_b.out.keeps KP.out (by first | exact Nat.ne_of_lt l_m_b | exact Nat.ne_of_gt l_b_m | omega))
      replace B_c := Lib.hid (B_c.out.keeps KP.out (by first | exact Nat.ne_of_lt l_m_c | exact Nat.ne_of_gt l_c_m | omega))
      replace B_z := Lib.hid (B_z.out.keeps KP.out (by first | exact Nat.ne_of_lt l_m_z | exact Nat.ne_of_gt l_z_m | omega))
      replace B_h := Lib.hid (B_h.out.keeps KP.out (by first | exact Nat.ne_of_lt l_m_h | exact Nat.ne_of_gt l_h_m | omega))
      replace hB := below_keeps hB KP.out (by first | exact Nat.le_of_lt l_m_a | omega)
      have B_m := NB
      clear NB KP
      refine hK.out _ _ (by exact ⟨B_a.out.c3, B_b.out.c3, B_h.out.c3⟩) (fun hHeld => ?_)
      clear hK K
      try simp only [Act.put, List.setIfInBounds_toArray, List.set_cons_zero, List.set_cons_succ]
      refine wpAnyH_done (by kernel_rfl) (NoPanic.normal ?_) _
      clear hHeld
      go_wp2_with fail
      go_meet
      exact ⟨b_m, A_m, n_m, c_m, D_m, e_m, f_m, g_m, rfl, B_m.out, Q_m.out, HT.out, R_a.out, R_b.out, R_c.out, Q_z.out, Q_h.out, B_a.out, B_b.out, B_c.out, B_z.out, B_h.out, hB⟩
      exact AllReadyH.nil
    case rest =>
      obtain ⟨b_m, A_m, n_m, c_m, D_m, e_m, f_m, g_m, rfl, ym, qm, xHT, xR_a, xR_b, xR_c, xQ_z, xQ_h, ya, yb, yc, yz, yh, hB9⟩ := hcut
      clear HT R_a R_b R_c Q_z Q_h B_a B_b B_c B_z B_h hB
      have hB := hB9
      have HT := Lib.hid xHT
      have R_a := Lib.hid xR_a
      have R_b := Lib.hid xR_b
      have R_c := Lib.hid xR_c
      have Q_z := Lib.hid xQ_z
      have Q_h := Lib.hid xQ_h
      have B_a := Lib.hid ya
      have B_b := Lib.hid yb
      have B_c := Lib.hid yc
      have B_z := Lib.hid yz
      have B_h := Lib.hid yh
      clear hB9 xHT xR_a xR_b xR_c xQ_z xQ_h ya yb yc yz yh
      have B_m := Lib.hid ym
      have Q_m := Lib.hid qm
      clear ym qm
      have c_a0 := B_a.out.cell0
      have c_a1 := B_a.out.cell1
      have c_a2 := B_a.out.cell2
      have c_b0 := B_b.out.cell0
      have c_b1 := B_b.out.cell1
      have c_b2 := B_b.out.cell2
      have c_c0 := B_c.out.cell0
      have c_c1 := B_c.out.cell1
      have c_c2 := B_c.out.cell2
      have c_z0 := B_z.out.cell0
      have c_z1 := B_z.out.cell1
      have c_z2 := B_z.out.cell2
      have c_h0 := B_h.out.cell0
      have c_h1 := B_h.out.cell1
      have c_h2 := B_h.out.cell2
      have c_m0 := B_m.out.cell0
      have c_m1 := B_m.out.cell1
      have c_m2 := B_m.out.cell2
      go_wp2_with fail
      clear c_a0 c_a1 c_a2 c_b0 c_b1 c_b2 c_c0 c_c1 c_c2 c_z0 c_z1 c_z2 c_h0 c_h1 c_h2 c_m0 c_m1 c_m2
      refine (qcmp_is (k := 6) (j := 14) (v := x) (by exact R_a.out) (by exact Q_m.out.rat ((S_h.mul (S_a.add S_b)).more (by omega))) (by omega) (by omega) (by omega) (by omega) (by rw [(qord_mid q_a q_b).1]; exact HX.out)).mono ?_
      rintro e w67 ⟨rfl, hb⟩
      replace HT := Lib.hid (HT.out.below hb)
      replace R_a := Lib.hid (R_a.out.below hb)
      replace R_b := Lib.hid (R_b.out.below hb)
      replace R_c := Lib.hid (R_c.out.below hb)
      replace Q_z := Lib.hid (Q_z.out.below hb)
      replace Q_h := Lib.hid (Q_h.out.below hb)
      replace Q_m := Lib.hid (Q_m.out.below hb)
      replace B_a := Lib.hid (B_a.out.below hb)
      replace B_b := Lib.hid (B_b.out.below hb)
      replace B_c := Lib.hid (B_c.out.below hb)
      replace B_z := Lib.hid (B_z.out.below hb)
      replace B_h := Lib.hid (B_h.out.below hb)
      replace B_m := Lib.hid (B_m.out.below hb)
      replace hB := below_next hB hb
      clear hb
      have c_a0 := B_a.out.cell0
      have c_a1 := B_a.out.cell1
      have c_a2 := B_a.out.cell2
      have c_b0 := B_b.out.cell0
      have c_b1 := B_b.out.cell1
      have c_b2 := B_b.out.cell2
      have c_c0 := B_c.out.cell0
      have c_c1 := B_c.out.cell1
      have c_c2 := B_c.out.cell2
      have c_z0 := B_z.out.cell0
      have c_z1 := B_z.out.cell1
      have c_z2 := B_z.out.cell2
      have c_h0 := B_h.out.cell0
      have c_h1 := B_h.out.cell1
      have c_h2 := B_h.out.cell2
      have c_m0 := B_m.out.cell0
      have c_m1 := B_m.out.cell1
      have c_m2 := B_m.out.cell2
      go_wp2_with fail
      clear c_a0 c_a1 c_a2 c_b0 c_b1 c_b2 c_c0 c_c1 c_c2 c_z0 c_z1 c_z2 c_h0 c_h1 c_h2 c_m0 c_m1 c_m2
      refine (qcmp_is (k := 14) (j := 6) (v := x) (by exact Q_m.out.rat ((S_h.mul (S_a.add S_b)).more (by omega))) (by exact R_b.out) (by omega) (by omega) (by omega) (by omega) (by rw [(qord_mid q_a q_b).2]; exact HX.out)).mono ?_
      rintro e w68 ⟨rfl, hb⟩
      replace HT := Lib.hid (HT.out.below hb)
      replace R_a := Lib.hid (R_a.out.below hb)
      replace R_b := Lib.hid (R_b.out.below hb)
      replace R_c := Lib.hid (R_c.out.below hb)
      replace Q_z := Lib.hid (Q_z.out.below hb)
      replace Q_h := Lib.hid (Q_h.out.below hb)
      replace Q_m := Lib.hid (Q_m.out.below hb)
      replace B_a := Lib.hid (B_a.out.below hb)
      replace B_b := Lib.hid (B_b.out.below hb)
      replace B_c := Lib.hid (B_c.out.below hb)
      replace B_z := Lib.hid (B_z.out.below hb)
      replace B_h := Lib.hid (B_h.out.below hb)
      replace B_m := Lib.hid (B_m.out.below hb)
      replace hB := below_next hB hb
      clear hb
      have c_a0 := B_a.out.cell0
      have c_a1 := B_a.out.cell1
      have c_a2 := B_a.out.cell2
      have c_b0 := B_b.out.cell0
      have c_b1 := B_b.out.cell1
      have c_b2 := B_b.out.cell2
      have c_c0 := B_c.out.cell0
      have c_c1 := B_c.out.cell1
      have c_c2 := B_c.out.cell2
      have c_z0 := B_z.out.cell0
      have c_z1 := B_z.out.cell1
      have c_z2 := B_z.out.cell2
      have c_h0 := B_h.out.cell0
      have c_h1 := B_h.out.cell1
      have c_h2 := B_h.out.cell2
      have c_m0 := B_m.out.cell0
      have c_m1 := B_m.out.cell1
      have c_m2 := B_m.out.cell2
      go_wp2_with fail
      clear c_a0 c_a1 c_a2 c_b0 c_b1 c_b2 c_c0 c_c1 c_c2 c_z0 c_z1 c_z2 c_h0 c_h1 c_h2 c_m0 c_m1 c_m2
      refine (holds_any _ (by exact HT.out)).mono ?_
      rintro e w69 ⟨rfl, hb⟩
      replace HT := Lib.hid (HT.out.below hb)
      replace R_a := Lib.hid (R_a.out.below hb)
      replace R_b := Lib.hid (R_b.out.below hb)
      replace R_c := Lib.hid (R_c.out.below hb)
      replace Q_z := Lib.hid (Q_z.out.below hb)
      replace Q_h := Lib.hid (Q_h.out.below hb)
      replace Q_m := Lib.hid (Q_m.out.below hb)
      replace B_a := Lib.hid (B_a.out.below hb)
      replace B_b := Lib.hid (B_b.out.below hb)
      replace B_c := Lib.hid (B_c.out.below hb)
      replace B_z := Lib.hid (B_z.out.below hb)
      replace B_h := Lib.hid (B_h.out.below hb)
      replace B_m := Lib.hid (B_m.out.below hb)
      replace hB := below_next hB hb
      clear hb
      have c_a0 := B_a.out.cell0
      have c_a1 := B_a.out.cell1
      have c_a2 := B_a.out.cell2
      have c_b0 := B_b.out.cell0
      have c_b1 := B_b.out.cell1
      have c_b2 := B_b.out.cell2
      have c_c0 := B_c.out.cell0
      have c_c1 := B_c.out.cell1
      have c_c2 := B_c.out.cell2
      have c_z0 := B_z.out.cell0
      have c_z1 := B_z.out.cell1
      have c_z2 := B_z.out.cell2
      have c_h0 := B_h.out.cell0
      have c_h1 := B_h.out.cell1
      have c_h2 := B_h.out.cell2
      have c_m0 := B_m.out.cell0
      have c_m1 := B_m.out.cell1
      have c_m2 := B_m.out.cell2
      go_wp2
      go_ret
      exact ⟨rfl, hB⟩
end Go.Proofs.YtoflndeonegkpaaDoor
