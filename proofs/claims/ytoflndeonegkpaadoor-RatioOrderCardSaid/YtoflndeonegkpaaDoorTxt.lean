/- strconv.FormatUint at base 10. -/
import Derived.Test.YtoflndeonegkpaaDoorPar
import Derived.Test.YtoflndeonegkpaaDoorShelf
import Derived.Lib.Walk
import Derived.Lib.ItoaMem
import Derived.BigCall
import Derived.BigGuard
import Derived.WalkSmall
import Derived.Sort.OwnSorted
namespace Go.Proofs.YtoflndeonegkpaaDoor
open Go.RowKit Go.Sort Go.Lib

/-- The library's table of powers of ten holds what its text lays. -/
def Tab (w : World) : Prop := Lib.TabIs Tryd.prog w "internal/strconv.uint64pow10" .u64 Lib.pow10Tab
theorem Tab.below {w w' : World} (h : Tab w) (hb : Below w.heap.size w w') : Tab w' := by
  unfold Tab Lib.TabIs at *
  have hg : Tryd.prog.globalNamed "internal/strconv.uint64pow10" = some 1 := by kernel_rfl
  refine var?_below hb hg ?_ h
  rcases Nat.lt_or_ge 1 w.heap.size with h' | h'
  · exact h'
  · unfold World.var? at h
    simp only [hg, Option.bind_some] at h
    rw [Array.getElem?_eq_none h'] at h; simp at h
/-- A function's result: a string; nothing that was there has turned. -/
def GivesStr (w : World) (l : List UInt8) (e : Ending) (w' : World) : Prop := e = .returned (.string ⟨l.toArray⟩) ∧ Below w.heap.size w w'

theorem holds_zero0 (w : World) (T : TypeId) (nd : Nat) (hs : nd ≤ 24) : Holds (fun (b : UInt8) => Value.int .u8 (b.toNat : Int)) (w.alloc (.cells zeros24 T)) w.heap.size 0 (Array.replicate nd (0 : UInt8)) := fun j hj => by
  have hj' : j < nd := by simpa using hj
  refine ⟨?_, World.frozen?_alloc_new _ _ _ _⟩
  rw [World.cell?_alloc_new, zeros24_at _ (by omega), getElem!_pos _ j hj]
  simp

theorem below_putRow {α : Type} [Inhabited α] (enc : α → Value) {B : Nat} (w : World) (blk off : Nat) (d : Array α) (h : B ≤ blk) : Below B w (putRow enc w blk off d) :=
  ⟨rfl, rfl, rfl, by simp, fun k hk => by
    unfold putRow mapBlock
    simp only [Array.getElem?_modify]
    rw [if_neg (by omega)]⟩
set_option maxHeartbeats 2000000 in
set_option maxRecDepth 100000 in
theorem ifmt_any (u : Nat) (w : World) (hu : u < 18446744073709551616) (htab : Tab w) : Calls Tryd.prog 77 #[.int .u64 u, .int .i64 10] w (GivesStr w (decDigits u)) := by
  have HT := Lib.hid htab
  clear htab
  by_cases hs : u < 100
  · go_enter Tryd.func77, Tryd.ntmps77
    go_wp2_with (go_at_call 86; refine (Tryd.internal_strconv_small u hs _).mono ?_; rintro e w' ⟨rfl, rfl⟩)
    go_ret
    exact ⟨rfl, Below.refl _ _⟩
  · have hu1 : 1 ≤ u := by omega
    have hnd20 : Lib.nDigits u ≤ 20 := by have := Lib.numDigits_eq u hu1 hu; split at this <;> omega
    have hal : Tryd.prog.arrayLen 113 = 24 := by kernel_rfl
    have hund : Tryd.prog.underlying 113 = some (.array 24 5) := by kernel_rfl
    have hsl : ∀ W, (Instr.sliceAt 113 (.pointer (some ⟨w.heap.size, 0, none⟩)) none (some (.int .i64 (Lib.nDigits u : Int))) none).run Tryd.prog W = .ok (.slice (some ⟨w.heap.size, 0, none⟩) (Lib.nDigits u) 24) W := fun W => by
      rw [run_sliceAt_array_h W 113 ⟨w.heap.size, 0, none⟩ (by simp [Program.arrayLen, Program.elem, hund]) .i64 (Lib.nDigits u : Int) (by omega) (by rw [hal]; omega)]
      go_simp
    have hdc : decide ((u : Int) < 100) = false := by simp; omega
    have hH0 := holds_zero0 w 113 (Lib.nDigits u) (by omega)
    have hfmt := Tryd.internal_strconv_formatBase10 w.heap.size 0 24 u (Array.replicate (Lib.nDigits u) 0) (w.alloc (.cells Lib.zeros24 113)) hH0 (by rw [Array.size_replicate]; exact Lib.lt_pow_nDigits u) hu (by rw [Array.size_replicate]; omega)
    rw [Array.size_replicate] at hfmt
    have HH0 := Lib.hid hH0
    have HF := Lib.hid hfmt
    clear hH0 hfmt hal hund
    go_enter Tryd.func77, Tryd.ntmps77
    go_wp2_with (go_at_call 87; refine (Tryd.internal_strconv_numDigits u hu1 hu _ (Lib.tabIs_alloc HT.out _)).mono ?_; rintro e w' ⟨rfl, rfl⟩)
    go_at_call 88
    refine HF.out.mono ?_
    rintro e w' ⟨rfl, k, v', dk, hw, hF⟩
    have hcv : (convert 70 9 (.slice (some ⟨w.heap.size, 0, none⟩) (Lib.nDigits u) 24)).run Tryd.prog w' = .ok (.string ⟨(Lib.decDigits u).toArray⟩) w' := by
      have h := run_convert_bytes_back (P := Tryd.prog) w' 70 9 5 ⟨w.heap.size, 0, none⟩ 24 (Lib.decDigits u) (by kernel_rfl) (by kernel_rfl) (by kernel_rfl) (fun j hj => by
        rw [Lib.row_is_numeral hF j hj, Lib.add_plain, hw, World.cell?_drewN]
        exact cell?_putRow (fun (b : UInt8) => Value.int .u8 (b.toNat : Int)) _ w.heap.size 0 _ dk HH0.out (by rw [hF.size, Array.size_replicate]) j (by rw [hF.size]; rw [Lib.decDigits_length] at hj; exact hj))
      rw [Lib.decDigits_length] at h
      exact h
    have hB : Below w.heap.size w w' := by
      rw [hw]
      refine below_drewN ?_ k
      exact ((Below.refl _ _).alloc (Nat.le_refl _) (.cells Lib.zeros24 113)).trans (below_putRow _ _ _ _ _ (Nat.le_refl _))
    have HB := Lib.hid hB
    clear hw hF hB
    go_wp2
    go_ret
    exact ⟨rfl, HB.out⟩

set_option maxHeartbeats 400000 in
theorem fmt_any (u : Nat) (w : World) (hu : u < 18446744073709551616) (htab : Tab w) : Calls Tryd.prog 68 #[.int .u64 u, .int .i64 10] w (GivesStr w (decDigits u)) := by
  have HT := Lib.hid htab
  clear htab
  go_enter Tryd.func68, Tryd.ntmps68
  go_wp2_with fail
  refine (ifmt_any u _ hu HT.out).mono ?_
  rintro e w1 ⟨rfl, hb⟩
  go_wp2
  go_ret
  exact ⟨rfl, hb⟩
end Go.Proofs.YtoflndeonegkpaaDoor

/- natural.Text. -/
namespace Go.Proofs.YtoflndeonegkpaaDoor
open Go.RowKit Go.Sort Go.Lib

theorem Tryd.infoS : (Tryd.prog.info? 9).map (fun i => (i.zero, i.size, i.bytes)) = some (some (.string ⟨#[]⟩), 1, 16) := by kernel_rfl
theorem Tryd.undS : Tryd.prog.underlying 89 = some (.slice 9) := by kernel_rfl

/-- The slice value v, of the call's own making, owns the strings gs. -/
def SRow (w : World) (base : Nat) (v : Value) (gs : List (List UInt8)) : Prop := w.ownsRow base 9 1 v gs.length (gs.map encStr)
theorem SRow.alloc {w : World} {base : Nat} {v : Value} {gs : List (List UInt8)} (h : SRow w base v gs) (o : Obj) : SRow (w.alloc o) base v gs := World.ownsRow.alloc h o
theorem SRow.below {w w' : World} {base : Nat} {v : Value} {gs : List (List UInt8)} (h : SRow w base v gs) (hb : Below w.heap.size w w') : SRow w' base v gs := by
  obtain ⟨h1, h2⟩ := h
  refine ⟨h1, ?_⟩
  rcases h2 with h2 | ⟨g, cap, cur, hv, hg, hh, r⟩
  · exact .inl h2
  · refine .inr ⟨g, cap, cur, hv, hg, ?_, r⟩
    rw [hb.block g ?_]; exact hh
    rcases Nat.lt_or_ge g w.heap.size with hlt | hge
    · exact hlt
    · rw [Array.getElem?_eq_none hge] at hh; cases hh
/-- append(v, s). -/
theorem wpList_appendS {w : World} {ops : Array Oper} {rest : List Oper} {o : Oper} {a : Act} {Q : Exit → Act → World → Prop} (hgd : o.guard = none) (s x : Operand) (t : TypeId)
    (ht : Tryd.prog.underlying t = some (.slice 9)) (ho : o.op = .call { callee := .builtin .append, args := #[s, x], argTypes := #[t, t] })
    (base : Nat) (v : Value) (gs : List (List UInt8)) (hs : a.eval s = v) (hown : SRow w base v gs) (ad : Nat) (l : List UInt8) (hx : a.eval x = .slice (some ⟨ad, 0, none⟩) 1 1)
    (hc : w.cell? ⟨ad, 0, none⟩ = some (encStr l)) (hlen : gs.length ≤ 1099511627776) (hbase : base ≤ w.heap.size)
    (h : ∀ v' w', Hid (SRow w' base v' (gs ++ [l])) → Below base w w' → (∀ g zs, Own w g zs → Own w' g zs) → wpList Tryd.prog ops Q rest (a.put o.dst v') w') : wpList Tryd.prog ops Q (o :: rest) a w := by
  obtain ⟨i, h2, h3, h4, h5⟩ := info_parts Tryd.infoS
  refine wpList_append_own (P := Tryd.prog) w hgd s x t ho base _ i _ 1 16 ht h2 h3 h4 h5 rfl (by omega) v gs.length (gs.map encStr) hs hown ⟨ad, 0, none⟩ 1 1 [encStr l] hx rfl ?_ ?_ (by unfold maxLen; omega) (by omega) hbase ?_
  · intro j u hj
    match j, hj with
    | 0, hj =>
      simp at hj; subst hj
      exact hc
  · intro u hu; simp at hu; subst hu; rfl
  · intro v' w' hr hg _
    refine h v' w' ?_ ?_ ?_
    · show SRow _ _ _ _
      unfold SRow
      rw [List.length_append, List.map_append]; exact hr
    · exact (Below.refl _ _).grown hg hbase (fun k hk => (World.ownsRow.lt hown k hk).1)
    · intro g zs hO
      refine (hg.block g hO.lt ?_).trans hO
      intro he
      rcases hown.2 with ⟨rfl, _⟩ | ⟨g', cap, cur, rfl, _, hh, _⟩
      · simp [Value.ownBlock] at he
      · have : g = g' := by simpa [Value.ownBlock] using he
        subst this
        unfold Own at hO
        rw [hh] at hO
        injection hO with hO
        injection hO with _ ht2
        exact absurd ht2 (by decide)
theorem join_flatten (xs : List (List UInt8)) : Lib.join xs [] = xs.flatten := by
  match xs with
  | [] => rfl
  | x :: r => rw [Lib.join_cons]; simp [Lib.joinTail]
theorem map_bytes (L : List (List UInt8)) : (L.map (fun l => ByteArray.mk l.toArray)).map (·.data.toList) = L := by
  induction L with
  | nil => rfl
  | cons x L ih => rw [List.map_cons, List.map_cons, ih]
theorem repeat_zeros (k : Nat) : Lib.repeatL [48] k = List.replicate k 48 := by
  induction k with
  | zero => rfl
  | succ k ih => rw [Lib.repeatL, ih, List.replicate_succ]; rfl

theorem steps_le {k n V m : Nat} (hk : k ≠ 0) (h : k * 1000000000 ^ n ≤ V) (hV : V < 4294967296 ^ m) : n ≤ 32 * m := by
  have h1 : 2 ^ n ≤ 1000000000 ^ n := Nat.pow_le_pow_left (by omega) n
  have h2 : 1 * 1000000000 ^ n ≤ k * 1000000000 ^ n := Nat.mul_le_mul_right _ (by omega)
  rw [show (4294967296 : Nat) = 2 ^ 32 from rfl, ← Nat.pow_mul] at hV
  exact Nat.le_of_lt ((Nat.pow_lt_pow_iff_right (by omega : 1 < 2)).1 (by omega))
theorem steps_next {k n V : Nat} (h : k * 1000000000 ^ n ≤ V) : k / 1000000000 * 1000000000 ^ (n + 1) ≤ V := by
  rw [Nat.pow_succ, Nat.mul_comm (1000000000 ^ n), ← Nat.mul_assoc]
  exact Nat.le_trans (Nat.mul_le_mul_right _ (Nat.div_mul_le_self _ _)) h
theorem dec_len_le (n : Nat) : (decDigits n).length ≤ 10 * (limbs n).length + 1 := by
  have h1 := lt_pow_limbs n
  refine dec_length_le (Nat.lt_of_lt_of_le h1 ?_) (by omega)
  rw [Nat.pow_succ, Nat.pow_mul]
  have : 4294967296 ^ (limbs n).length ≤ (10 ^ 10) ^ (limbs n).length := Nat.pow_le_pow_left (by omega) _
  omega
/-- What is written so far: the groups, the last of them first. -/
def TextRel (N X : Nat) (gs : List (List UInt8)) : Prop := decDigits N = (if X = 0 then [] else decDigits X) ++ gs.reverse.flatten
theorem TextRel.last {N X : Nat} {gs : List (List UInt8)} (h : TextRel N X gs) (h0 : X ≠ 0) (hz : X / 1000000000 = 0) : TextRel N (X / 1000000000) (gs ++ [decDigits (X % 1000000000)]) := by
  unfold TextRel at *
  rw [if_neg h0] at h
  rw [h, hz, if_pos rfl, Nat.mod_eq_of_lt (by omega)]; simp
theorem TextRel.more {N X : Nat} {gs : List (List UInt8)} (h : TextRel N X gs) (hz : X / 1000000000 ≠ 0) :
    TextRel N (X / 1000000000) (gs ++ [List.replicate (9 - (decDigits (X % 1000000000)).length) 48 ++ decDigits (X % 1000000000)]) := by
  unfold TextRel at *
  have hs := dec_split 9 X (by omega)
  have hp := padDec_eq 9 (X % 10 ^ 9) (Nat.mod_lt _ (by omega)) (by omega)
  rw [hp] at hs
  rw [if_neg (by intro e; subst e; simp at hz)] at h
  rw [h, hs, if_neg hz]; simp

set_option maxHeartbeats 2000000 in
theorem text_any (va : Value) (xs : List Nat) (w : World) (ha : NatAt w va xs) (hxl : xs.length ≤ 100000) (htab : Tab w) : Calls Tryd.prog 49 #[va] w (GivesStr w (decDigits (val xs))) := by
  have HA := Lib.hid ha
  have HT := Lib.hid htab
  have hl1 := limbs_val_length ha.lim
  clear ha htab
  go_enter Tryd.func49, Tryd.ntmps49
  go_wp2_with fail
  refine (trim_any _ _ _ HA.out).mono ?_
  rintro e w' ⟨v1, rfl, rfl, h1⟩
  by_cases h0 : val xs = 0
  · have H0 := Lib.hid h0
    rw [h0, limbs_zero] at h1
    obtain ⟨A, c, rfl, g1, g2⟩ := h1.form
    clear h0 h1 g1 g2
    go_wp2
    go_ret
    rw [H0.out, dec_lt (by omega)]
    exact ⟨rfl, Below.refl _ _⟩
  · have H1 := Lib.hid h1
    have hp : 0 < (limbs (val xs)).length := List.length_pos_iff.2 (limbs_ne_nil h0)
    obtain ⟨A, c, rfl, g1, g2⟩ := h1.form
    have hpb : (((limbs (val xs)).length : Int) == 0) = false := by rw [beq_eq_false_iff_ne]; omega
    have H0 := Lib.hid h0
    clear h1 h0
    go_wp2
    go_loopg [0, 3] (val xs) (fun k sa sg wr => ∃ gs, (NatAt w sa (limbs k) ∨ OwnNat wr sa (limbs k)) ∧ (limbs k).length ≤ 100000 ∧ SRow wr w.heap.size sg gs ∧ (gs.length ≤ 3200001 ∧ k * 1000000000 ^ gs.length ≤ val xs) ∧ TextRel (val xs) k gs ∧ Below w.heap.size w wr)
    case atStart => exact ⟨[], .inl H1.out, by omega, World.ownsRow_nil .., ⟨by simp, by simp⟩, by unfold TextRel; rw [if_neg H0.out]; simp, Below.refl _ _⟩
    case round =>
      obtain ⟨gs, hN0, hNl, hS, hgl, hR, hbw⟩ := hrel
      have hN : NatAt _ _ _ := hN0.elim (fun h => h.below hbw) (fun h => h.natAt)
      clear hN0
      have HN := Lib.hid hN
      have HS := Lib.hid hS
      have HR := Lib.hid hR
      have HGL := Lib.hid hgl
      have HTw := Lib.hid (HT.out.below hbw)
      obtain ⟨A, c, rfl, k1, k2⟩ := hN.form
      clear hN hS hR hgl
      by_cases hk0 : gk = 0
      · subst hk0
        have hz : (limbs 0).length = 0 := rfl
        have hrel := HR.out
        unfold TextRel at hrel
        rw [if_pos rfl, List.nil_append] at hrel
        have hne : gs ≠ [] := fun e => by rw [e] at hrel; exact dec_ne_nil _ hrel
        have hgp : 0 < gs.length := List.length_pos_iff.2 hne
        have hlen2 : gs.reverse.flatten.length ≤ 2000000 := by
          rw [← hrel]; exact Nat.le_trans (dec_len_le _) (by omega)
        have HREL := Lib.hid hrel
        obtain ⟨hS1, hS2⟩ := HS.out
        rcases hS2 with ⟨_, h0'⟩ | ⟨g, cap, cur, hv, hgb, hh, hn1, hm1, hs1, ht1⟩
        · omega
        rw [Nat.mul_one] at ht1
        have hHo := holds_of_block hh ht1
        have hglt : g < wr.heap.size := (Array.getElem?_eq_some_iff.1 hh).1
        have HHO := Lib.hid hHo
        have hgl5 := HGL.out.1
        clear hrel hne hHo hh ht1 hS1 hs1
        subst hv
        go_wp2_with fail
        refine (Tryd.slices_Reverse_string g 0 cap gs _ (by exact HHO.out) (by omega)).mono ?_
        rintro e w2 ⟨rfl, n2, hw2⟩
        have hH2 : Holds encStr w2 g 0 gs.reverse.toArray := by
          rw [hw2]
          exact holds_putRow encStr _ g 0 gs.toArray _ HHO.out (by simp)
        have hb2 : Below w.heap.size wr w2 := by
          rw [hw2]
          exact (⟨rfl, rfl, rfl, Nat.le_refl _, fun _ _ => rfl⟩ : Below w.heap.size wr (Sort.ahead wr n2)).trans (below_putRow _ _ _ _ _ hgb)
        have hsz2 : w2.heap.size = wr.heap.size := by rw [hw2]; simp [Sort.ahead]
        have HH2 := Lib.hid hH2
        have HSZ2 := Lib.hid hsz2
        clear hw2 hH2 hsz2
        go_wp2_with fail
        have hxl2 : (gs.reverse.map (fun l => ByteArray.mk l.toArray)).length = gs.length := by simp
        have hjl : (gs.reverse.map (fun l => ByteArray.mk l.toArray)).map (·.data.toList) = gs.reverse := map_bytes _
        have hJ := Tryd.strings_Join g 0 cap (gs.reverse.map (fun l => ByteArray.mk l.toArray)) ⟨#[]⟩ w2 (fun j x hx => by
          have hj : j < gs.reverse.length := by have := (List.getElem?_eq_some_iff.1 hx).1; simpa using this
          rw [(HH2.out j (by simpa using hj)).1]
          rw [List.getElem?_map, List.getElem?_eq_getElem hj] at hx
          simp at hx
          subst hx
          have hj2 : j < gs.reverse.toArray.size := by simpa using hj
          rw [getElem!_pos _ j hj2]
          simp [encStr]) (by rw [HSZ2.out]; exact hglt) (by omega) (by omega) (by rw [hjl]; show (Lib.join gs.reverse []).length ≤ _; rw [join_flatten]; omega)
        rw [hxl2, hjl] at hJ
        refine hJ.mono ?_
        rintro e w3 ⟨rfl, hb3⟩
        have hjf : Lib.join gs.reverse (ByteArray.mk #[]).data.toList = decDigits (val xs) := by
          show Lib.join gs.reverse [] = _
          rw [join_flatten, ← HREL.out]
        rw [hjf]
        clear hJ hjf hjl hxl2
        go_wp2
        go_ret
        exact ⟨rfl, hbw.trans (hb2.trans (hb3.mono (by rw [HSZ2.out]; exact hbw.size)))⟩
      · have hkp : 0 < (limbs gk).length := List.length_pos_iff.2 (limbs_ne_nil hk0)
        go_wp2_with fail
        refine (short_any _ _ 1000000000 _ HN.out (by omega) (by omega) (by omega)).mono ?_
        rintro e w2 ⟨v2, rfl, h2o, hb2⟩
        rw [val_limbs] at h2o ⊢
        have H2 := Lib.hid h2o
        have h2 := h2o.natAt
        clear h2o
        obtain ⟨A2, c2, rfl, m1, m2⟩ := h2.form
        have hrl : gk % 1000000000 < 1000000000 := Nat.mod_lt _ (by omega)
        obtain ⟨r, hr⟩ : ∃ r : Nat, r = gk % 1000000000 := ⟨_, rfl⟩
        rw [← hr] at hrl ⊢
        have HRR := Lib.hid hr
        clear h2 hr
        go_wp2_with fail
        refine (fmt_any r _ (by omega) (HTw.out.below hb2)).mono ?_
        rintro e w3 ⟨rfl, hb3⟩
        by_cases hz : gk / 1000000000 = 0
        · have HQ := Lib.hid (HR.out.last hk0 hz)
          have hzl : (limbs (gk / 1000000000)).length = 0 := by rw [hz]; rfl
          have HZ := Lib.hid hz
          have HZL := Lib.hid hzl
          have hzi : decide (0 < (limbs (gk / 1000000000)).length) = false := by rw [hzl]; rfl
          clear hz hzl
          have HS3 := Lib.hid ((HS.out.below hb2).below hb3)
          have hgl3 : gs.length ≤ 3200000 := Nat.le_trans (steps_le hk0 HGL.out.2 (lt_pow_limbs _)) (by omega)
          have hw3 : w.heap.size ≤ w3.heap.size := Nat.le_trans hbw.size (Nat.le_trans hb2.size hb3.size)
          go_wp2_with (at_builtin; (refine wpList_appendS rfl (.tmp 31) (.tmp 33) _ Tryd.undS rfl w.heap.size _ gs rfl (HS3.out.alloc _) w3.heap.size (decDigits r) rfl (cell_new1 _ _ _) (by omega) (by simp; omega) ?_); intro v' w4 HRow hb4 hkeep; have HK := Lib.hid hkeep; clear hkeep)
          go_roundg (gk / 1000000000)
          case measure => omega
          case rel =>
            have h4 := HRow.out
            have hbx : Below w.heap.size w3 w4 := ((Below.refl _ _).alloc hw3 _).trans hb4
            have hbb : Below w.heap.size w w4 := hbw.trans (((below_next hb2 hb3).mono hbw.size).trans hbx)
            rw [HRR.out] at h4
            exact ⟨_, .inr ((H2.out.keep fun g zs h => h.next hb3).keep fun g zs h => HK.out g zs (h.alloc _)), limbs_len_of_lt (Nat.div_le_self _ _) hNl, h4, ⟨by simp; omega, by rw [List.length_append, List.length_singleton]; exact steps_next HGL.out.2⟩, HQ.out, hbb⟩
        · have HQ := Lib.hid (HR.out.more hz)
          have hzp : 0 < (limbs (gk / 1000000000)).length := List.length_pos_iff.2 (limbs_ne_nil hz)
          have hzi : decide (0 < (limbs (gk / 1000000000)).length) = true := by simp; omega
          have hd9 : (decDigits r).length ≤ 9 := dec_length_le (k := 9) hrl (by omega)
          clear hz
          have HS3 := Lib.hid ((HS.out.below hb2).below hb3)
          have hgl3 : gs.length ≤ 3200000 := Nat.le_trans (steps_le hk0 HGL.out.2 (lt_pow_limbs _)) (by omega)
          have hw3 : w.heap.size ≤ w3.heap.size := Nat.le_trans hbw.size (Nat.le_trans hb2.size hb3.size)
          go_wp2_with fail
          rw [show (9 : Int) - ((decDigits r).length : Int) = ((9 - (decDigits r).length : Nat) : Int) from by omega]
          refine (Tryd.strings_Repeat ⟨#[48]⟩ (9 - (decDigits r).length) _ (by omega) (by show 1 * _ ≤ _; omega)).mono ?_
          rintro e w3b ⟨rfl, hb3b⟩
          have hz2 : Lib.repeatL (ByteArray.mk #[48]).data.toList (9 - (decDigits r).length) = List.replicate (9 - (decDigits r).length) 48 := repeat_zeros _
          rw [hz2]
          clear hz2
          rw [← HRR.out] at HQ
          obtain ⟨dd, hdd⟩ : ∃ dd, dd = decDigits r := ⟨_, rfl⟩
          rw [← hdd] at HQ hd9 ⊢
          clear hdd
          obtain ⟨zz, hzz⟩ : ∃ zz, zz = List.replicate (9 - dd.length) (48 : UInt8) := ⟨_, rfl⟩
          have hz9 : zz.length ≤ 9 := by rw [hzz, List.length_replicate]; omega
          rw [← hzz] at HQ ⊢
          clear hzz
          have HS4 := Lib.hid (HS3.out.below hb3b)
          have hw4 : w.heap.size ≤ w3b.heap.size := Nat.le_trans hw3 hb3b.size
          go_wp2_with (at_builtin; (refine wpList_appendS rfl (.tmp 31) (.tmp 33) _ Tryd.undS rfl w.heap.size _ gs rfl (HS4.out.alloc _) w3b.heap.size (zz ++ dd) rfl (cell_new1 _ _ _) (by omega) (by simp; omega) ?_); intro v' w4 HRow hb4 hkeep; have HK := Lib.hid hkeep; clear hkeep)
          go_roundg (gk / 1000000000)
          case measure => omega
          case rel =>
            have h4 := HRow.out
            have hbx : Below w.heap.size w3 w4 := (hb3b.mono hw3).trans (((Below.refl _ _).alloc hw4 _).trans hb4)
            have hbb : Below w.heap.size w w4 := hbw.trans (((below_next hb2 hb3).mono hbw.size).trans hbx)
            exact ⟨_, .inr (((H2.out.keep fun g zs h => h.next hb3).keep fun g zs h => h.next hb3b).keep fun g zs h => HK.out g zs (h.alloc _)), limbs_len_of_lt (Nat.div_le_self _ _) hNl, h4, ⟨by simp; omega, by rw [List.length_append, List.length_singleton]; exact steps_next HGL.out.2⟩, HQ.out, hbb⟩
end Go.Proofs.YtoflndeonegkpaaDoor

/- Slices of one or two words that the text spells out; what a law returns. -/
namespace Go.Proofs.YtoflndeonegkpaaDoor
open Go.RowKit Go.Lib

theorem lit1 (W : World) (g x : Nat) (hg : W.heap.size = g) (hx : x < 4294967296) : NatAt (W.alloc (.cells #[.int .u32 (x : Int)] 40)) (.slice (some ⟨g, 0, none⟩) 1 1) [x] := by
  subst hg
  have h : Own (W.alloc (.cells #[.int .u32 (x : Int)] 40)) W.heap.size [x] := heap_alloc_new W _
  exact h.natAt (Lim.cons hx lim_nil) (Nat.le_refl _) (by simp)
theorem lit2 (W : World) (g x y : Nat) (hg : W.heap.size = g) (hx : x < 4294967296) (hy : y < 4294967296) : NatAt (W.alloc (.cells #[.int .u32 (x : Int), .int .u32 (y : Int)] 40)) (.slice (some ⟨g, 0, none⟩) 2 2) [x, y] := by
  subst hg
  have h : Own (W.alloc (.cells #[.int .u32 (x : Int), .int .u32 (y : Int)] 40)) W.heap.size [x, y] := heap_alloc_new W _
  exact h.natAt (Lim.cons hx (Lim.cons hy lim_nil)) (Nat.le_refl _) (by simp)
/-- The law's function returns true; nothing that was there has turned. -/
def GivesTrue (w : World) (e : Ending) (w' : World) : Prop := e = .returned (.bool true) ∧ Below w.heap.size w w'
theorem limbs_big : limbs 4294967296 = [0, 1] := by rw [limbs_pos (by omega), limbs_pos (by omega)]; rfl
theorem limbs_small {n : Nat} (h : n < 4294967296) (h0 : n ≠ 0) : limbs n = [n] := by
  rw [limbs_pos h0, Nat.mod_eq_of_lt h, Nat.div_eq_of_lt h, limbs_zero]

end Go.Proofs.YtoflndeonegkpaaDoor

/- Sizes of numbers; comparisons with a known outcome. -/
namespace Go.Proofs.YtoflndeonegkpaaDoor
open Go.RowKit

/-- The number fits into k limbs. -/
def Sz (n k : Nat) : Prop := n < 4294967296 ^ k
section
variable {a b k j : Nat}
theorem Sz.more (h : Sz a j) (hk : j ≤ k) : Sz a k := Nat.lt_of_lt_of_le h (Nat.pow_le_pow_right (by omega) hk)
theorem Sz.le (h : Sz b k) (hab : a ≤ b) : Sz a k := Nat.lt_of_le_of_lt hab h
theorem Sz.len (h : Sz a k) (n : Nat) (hn : k ≤ n) : (limbs a).length ≤ n := Nat.le_trans (limbs_length_le h) hn
theorem Sz.add (h : Sz a k) (g : Sz b k) : Sz (a + b) (k + 1) := by
  unfold Sz at *
  rw [pow_step]
  omega
theorem Sz.mul (h : Sz a k) (g : Sz b j) : Sz (a * b) (k + j) := by
  unfold Sz at *
  rw [Nat.pow_add]
  rcases Nat.eq_zero_or_pos b with e | e
  · subst e; rw [Nat.mul_zero]; exact Nat.mul_pos (Nat.pow_pos (by omega)) (Nat.pow_pos (by omega))
  · exact Nat.mul_lt_mul_of_lt_of_le h (Nat.le_of_lt g) (by omega)
theorem Sz.sub (h : Sz a k) (b : Nat) : Sz (a - b) k := h.le (Nat.sub_le _ _)
theorem Sz.div (h : Sz a k) (b : Nat) : Sz (a / b) k := h.le (Nat.div_le_self _ _)
theorem Sz.mod (h : Sz a k) (b : Nat) : Sz (a % b) k := h.le (Nat.mod_le _ _)
theorem Sz.gcd (h : Sz a k) (g : Sz b k) : Sz (Nat.gcd a b) k := by
  rcases Nat.eq_zero_or_pos a with e | e
  · subst e; rw [Nat.gcd_zero_left]; exact g
  · exact h.le (Nat.gcd_le_left _ e)
theorem isqrt_self_le (n : Nat) : isqrt n ≤ n := by
  have h := isqrt_le n
  rcases Nat.eq_zero_or_pos (isqrt n) with e | e
  · omega
  · exact Nat.le_trans (Nat.le_mul_of_pos_right _ e) h
theorem Sz.sqrt (h : Sz a k) : Sz (isqrt a) k := h.le (isqrt_self_le a)
theorem Sz.one : Sz 1 1 := by unfold Sz; omega
end
theorem NatAt.sz {w : World} {v : Value} {xs : List Nat} (h : NatAt w v xs) {k : Nat} (hk : xs.length ≤ k) : Sz (val xs) k := (show Sz (val xs) xs.length from val_lt h.lim).more hk

/-- A comparison's outcome. -/
def GivesInt (w : World) (k : Int) (e : Ending) (w' : World) : Prop := e = .returned (.int .i64 k) ∧ Below w.heap.size w w'
section
variable {va vb : Value} {xs ys : List Nat} {w : World}
theorem cmp_eq (ha : NatAt w va xs) (hb : NatAt w vb ys) (h : val xs = val ys) : Calls Tryd.prog 46 #[va, vb] w (GivesInt w 0) :=
  (cmp_below va vb xs ys w ha hb).mono fun _ _ ⟨he, hB, _⟩ => ⟨by rw [he, ord_eq h], hB⟩
theorem cmp_lt (ha : NatAt w va xs) (hb : NatAt w vb ys) (h : val xs < val ys) : Calls Tryd.prog 46 #[va, vb] w (GivesInt w (-1)) :=
  (cmp_below va vb xs ys w ha hb).mono fun _ _ ⟨he, hB, _⟩ => ⟨by rw [he, ord_lt h], hB⟩
theorem cmp_ge (ha : NatAt w va xs) (hb : NatAt w vb ys) (h : val ys ≤ val xs) : Calls Tryd.prog 46 #[va, vb] w fun e w' => ∃ oc : Int, e = .returned (.int .i64 oc) ∧ 0 ≤ oc ∧ Below w.heap.size w w' :=
  (cmp_below va vb xs ys w ha hb).mono fun _ _ ⟨he, hB, _⟩ => ⟨_, he, by unfold ord; rw [if_neg (by omega)]; split <;> omega, hB⟩
theorem cmp_gt (ha : NatAt w va xs) (hb : NatAt w vb ys) (h : val ys < val xs) : Calls Tryd.prog 46 #[va, vb] w (GivesInt w 1) :=
  (cmp_below va vb xs ys w ha hb).mono fun _ _ ⟨he, hB, _⟩ => ⟨by rw [he, ord_gt h], hB⟩
end

end Go.Proofs.YtoflndeonegkpaaDoor

/- Texts and numbers: what Text and Parse give, for the laws. -/
namespace Go.Proofs.YtoflndeonegkpaaDoor
open Go.RowKit Go.Lib

theorem text_str (va : Value) (xs : List Nat) (w : World) (ha : NatAt w va xs) (hxl : xs.length ≤ 100000) (htab : Tab w) : Calls Tryd.prog 49 #[va] w fun e w' => ∃ t : ByteArray, e = .returned (.string t) ∧ t.data.toList = decDigits (val xs) ∧ Below w.heap.size w w' :=
  (text_any va xs w ha hxl htab).mono fun _ _ ⟨he, hb⟩ => ⟨_, he, by simp, hb⟩
theorem pe_ok {n : Nat} (h : (decDigits n).length ≤ 200) : parseErr (decDigits n) = 0 := by rw [parseErr, if_pos h, if_pos (dec_isNum n)]
theorem pn_ok {n : Nat} (h : (decDigits n).length ≤ 200) : parseNum (decDigits n) = limbs n := by rw [parseNum, if_pos ⟨h, dec_isNum n⟩, decVal_dec]
theorem pe_long {l : List UInt8} (h : ¬ l.length ≤ 200) : parseErr l = 5 := by rw [parseErr, if_neg h]
theorem pe_num {l : List UInt8} (h : l.length ≤ 200 ∧ isNum l) : parseErr l = 0 := by rw [parseErr, if_pos h.1, if_pos h.2]
theorem pn_num {l : List UInt8} (h : l.length ≤ 200 ∧ isNum l) : parseNum l = limbs (decVal l) := by rw [parseNum, if_pos h]
theorem pe_no {l : List UInt8} (h : ¬ (l.length ≤ 200 ∧ isNum l)) : parseErr l = 2 ∨ parseErr l = 5 := by
  unfold parseErr
  split
  · rw [if_neg (fun e => h ⟨by assumption, e⟩)]; exact .inl rfl
  · exact .inr rfl
theorem bytes_ext {s t : ByteArray} (h : s.data.toList = t.data.toList) : s = t := by
  cases s; cases t
  simp at h
  simp [h]

end Go.Proofs.YtoflndeonegkpaaDoor
