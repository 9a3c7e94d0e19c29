/- garmentref01: limb, Norm, Of. -/
import Derived.Test.YtelcjcgalkcadaaDoorCmp2
import Derived.Laws.OwnMore
namespace Go.Proofs.YtelcjcgalkcadaaDoor
open Go.RowKit

theorem run_append_none {w : World} (base : Nat) (t ty e : TypeId) (i : TypeInfo) (size c : Nat) (ht : Tryd.prog.underlying t = some (.slice e)) (hi : Tryd.prog.info? e = some i)
    (v : Value) (n : Nat) (xs : List Value) (hown : w.ownsRow base e size v n xs) :
    (Builtin.append_ #[t, t] ty #[v, .slice none 0 c]).run Tryd.prog w = .ok v w := by
  rcases hown.2 with ⟨rfl, rfl⟩ | ⟨g, cap, cur, rfl, _, _, hnc, _⟩
  · simp [Builtin.append_, run_underlying ht, sizeOf, typeInfo, hi, Builtin.lenOf, Builtin.firstCells]
  · simp [Builtin.append_, run_underlying ht, sizeOf, typeInfo, hi, Builtin.lenOf, Builtin.firstCells, hnc, storeCells]
/-- append(v, y...), v of the call's own. -/
theorem wpList_appendN {w : World} {ops : Array Oper} {rest : List Oper} {o : Oper} {a : Act} {Q : Exit → Act → World → Prop} (hgd : o.guard = none) (s x : Operand) (t : TypeId)
    (ht : Tryd.prog.underlying t = some (.slice 42)) (ho : o.op = .call { callee := .builtin .append, args := #[s, x], argTypes := #[t, t] })
    (base : Nat) (v : Value) (xs : List Nat) (hs : a.eval s = v) (hown : Row w base v xs) (y : Value) (ys : List Nat) (hx : a.eval x = y) (hy : NatAt w y ys)
    (hlen : xs.length + ys.length ≤ 1099511627776) (hbase : base ≤ w.heap.size)
    (h : ∀ v' w', Hid (Row w' base v' (xs ++ ys)) → Below base w w' → wpList Tryd.prog ops Q rest (a.put o.dst v') w') : wpList Tryd.prog ops Q (o :: rest) a w := by
  obtain ⟨i, h2, h3, h4, h5⟩ := info_parts Tryd.infoU
  obtain ⟨A, c, rfl, g1, g2, g3, g4⟩ := hy
  cases A with
  | none =>
    have e0 : ys = [] := by
      rcases Nat.eq_zero_or_pos ys.length with e | e
      · exact List.eq_nil_of_length_eq_zero e
      · obtain ⟨b, o, hh, _⟩ := g4 e; cases hh
    subst e0
    refine wpList_plain hgd fun K hK => ?_
    have hrun := run_append_none (w := w) base t o.type _ i 1 c ht h2 v xs.length (xs.map U) hown
    have hx' : a.eval x = .slice none 0 c := hx
    unfold Oper.wp
    simp [execOp, ho, resolve, invoke, builtin, hs, hx', hrun, Result.andThen]
    exact hK _ _ (h v w (by rw [List.append_nil]; exact hown) (Below.refl _ _))
  | some ad =>
    refine wpList_append_own (P := Tryd.prog) w hgd s x t ho base _ i _ 1 4 ht h2 h3 h4 h5 rfl (by omega) v xs.length (xs.map U) hs hown ad ys.length c (ys.map U) hx (by simp) ?_ ?_ (by unfold maxLen; omega) (by omega) hbase ?_
    · intro j u hj
      have hj' : j < ys.length := by have := (List.getElem?_eq_some_iff.1 hj).1; simpa using this
      obtain ⟨b, o, ha, hb, hc⟩ := g4 (by omega)
      injection ha with ha
      subst ha
      rw [Addr.add_lit, hc j hj']
      rw [List.getElem?_map, List.getElem?_eq_getElem hj'] at hj
      simpa [U, hj'] using hj
    · intro u hu
      obtain ⟨_, _, rfl⟩ := List.mem_map.1 hu
      rfl
    · intro v' w' hr hg _
      refine h v' w' ?_ ?_
      · show Row _ _ _ _
        unfold Row
        rw [List.length_append, List.map_append]; exact hr
      · exact (Below.refl _ _).grown hg hbase (fun k hk => (World.ownsRow.lt hown k hk).1)

/-- limb returns the limb, 0 behind the end; the world is as it was. -/
def LimbIs (w : World) (xs : List Nat) (k : Nat) (e : Ending) (w' : World) : Prop := e = .returned (.int .u64 (xs.getD k 0 : Nat)) ∧ w = w'
set_option maxHeartbeats 400000 in
theorem limb_any (va : Value) (xs : List Nat) (k : Nat) (w : World) (ha : NatAt w va xs) (hk : k ≤ 9223372036854775807) : Calls Tryd.prog 41 #[va, .int .i64 k] w (LimbIs w xs k) := by
  have HA := Lib.hid ha
  obtain ⟨A, c, rfl, g1, g2⟩ := ha.form
  clear ha
  have t0 : decide ((k : Int) < 0) = false := by simp
  by_cases hlt : k < xs.length
  · obtain ⟨b, o, rfl, hb, hc⟩ := HA.out.at_ (by omega)
    have hcj := hc k hlt
    clear hc
    have hxl := HA.out.lim.get k
    have t1 : decide (xs.length ≤ k) = false := by simp; omega
    unfold LimbIs
    obtain ⟨x, hx⟩ : ∃ x : Nat, x = xs.getD k 0 := ⟨_, rfl⟩
    rw [← hx] at hcj hxl
    have HX := Lib.hid hx
    clear hx
    go_enter Tryd.func41, Tryd.ntmps41
    go_wp2
    go_ret
    exact ⟨by rw [← HX.out]; go_num, rfl⟩
  · have t1 : decide (xs.length ≤ k) = true := by simp; omega
    have hx : xs.getD k 0 = 0 := by rw [List.getD_eq_getElem?_getD, List.getElem?_eq_none (by omega)]; rfl
    have HX := Lib.hid hx
    clear hx
    unfold LimbIs
    go_enter Tryd.func41, Tryd.ntmps41
    go_wp2
    go_ret
    exact ⟨by rw [HX.out]; rfl, rfl⟩

theorem limb_at {va : Value} {xs : List Nat} {k x : Nat} {w : World} (ha : NatAt w va xs) (hk : k ≤ 9223372036854775807) (hx : x = xs.getD k 0) : Calls Tryd.prog 41 #[va, .int .i64 k] w fun e w' => e = .returned (.int .u64 (x : Nat)) ∧ w = w' := by
  rw [hx]; exact limb_any va xs k w ha hk
/-- A function's result: a row that the call has made. -/
def GivesRow (w : World) (xs : List Nat) (e : Ending) (w' : World) : Prop :=
  ∃ v, e = .returned v ∧ Row w' w.heap.size v xs ∧ Below w.heap.size w w'
theorem Row.lower {w : World} {base base' : Nat} {v : Value} {xs : List Nat} (h : Row w base v xs) (hb : base' ≤ base) : Row w base' v xs := by
  obtain ⟨h1, h2⟩ := h
  refine ⟨h1, ?_⟩
  rcases h2 with h2 | ⟨g, cap, cur, hv, hg, r⟩
  · exact .inl h2
  · exact .inr ⟨g, cap, cur, hv, Nat.le_trans hb hg, r⟩
theorem GivesRow.nat {w w' : World} {n : Nat} {e : Ending} (h : GivesRow w (limbs n) e w') : GivesNat w (limbs n) e w' := by
  obtain ⟨v, he, hr, hb⟩ := h
  exact ⟨v, he, hr.natAt (lim_limbs n), hb⟩
set_option maxHeartbeats 400000 in
theorem rnorm_row (va : Value) (xs : List Nat) (w : World) (ha : NatAt w va xs) (hxl : xs.length ≤ 10000000) : Calls Tryd.prog 19 #[va] w (GivesRow w (limbs (val xs))) := by
  have HA := Lib.hid ha
  obtain ⟨A, c, rfl, g1, g2⟩ := ha.form
  clear ha
  go_enter Tryd.func19, Tryd.ntmps19
  go_wp2
  go_loop [3] (fun s => ∃ k : Nat, k ≤ xs.length ∧ s = .int .i64 k ∧ trimL (xs.take k) = trimL xs) (fun s => (intOf s).toNat)
  case atStart => exact ⟨xs.length, Nat.le_refl _, rfl, by rw [List.take_of_length_le (Nat.le_refl _)]⟩
  case round =>
    obtain ⟨k, hk, rfl, ht⟩ := hrel
    have HT := Lib.hid ht
    clear ht
    rcases Nat.eq_zero_or_pos k with hk0 | hk0
    · subst hk0
      go_wp2_with (at_builtin; refine wpList_appendN rfl (.tmp 19) (.tmp 22) _ Tryd.undN rfl w.heap.size _ [] rfl (Row.nil _ _) _ [] rfl (by exact HA.out.pre (Nat.zero_le _)) (by simp) (Nat.le_refl _) ?_; intro v' w2 HRow hb2)
      go_ret
      refine ⟨_, rfl, ?_, hb2⟩
      rw [← trimL_eq HA.out.lim, ← HT.out]
      exact HRow.out
    · obtain ⟨m, rfl⟩ : ∃ m, k = m + 1 := ⟨k - 1, by omega⟩
      obtain ⟨b, o, rfl, hb, hc⟩ := HA.out.at_ (by omega)
      have hcm := hc m (by omega)
      clear hc
      have hlt : m < xs.length := by omega
      obtain ⟨x, hx⟩ : ∃ x : Nat, x = xs.getD m 0 := ⟨_, rfl⟩
      rw [← hx] at hcm
      have HX := Lib.hid hx
      clear hx
      by_cases hx0 : x = 0
      · have t0 : ((x : Int) == 0) = true := by simp [hx0]
        go_wp2
        go_round
        case rel => exact ⟨m, by omega, by go_num, by rw [← HT.out, trimL_take_zero hlt (by rw [← HX.out, hx0])]⟩
        case measure => simp [intOf]
      · have t0 : ((x : Int) == 0) = false := by simp; omega
        have hle : (xs.take (m + 1)).length ≤ 10000000 := by rw [List.length_take]; omega
        go_wp2_with (at_builtin; refine wpList_appendN rfl (.tmp 19) (.tmp 22) _ Tryd.undN rfl w.heap.size _ [] rfl (Row.nil _ _) _ (xs.take (m + 1)) rfl (by exact HA.out.pre hk) (by simp; omega) (Nat.le_refl _) ?_; intro v' w2 HRow hb2)
        go_ret
        refine ⟨_, rfl, ?_, hb2⟩
        rw [← trimL_eq HA.out.lim, ← HT.out, trimL_take_pos hlt (by rw [← HX.out]; exact hx0)]
        exact HRow.out
theorem rnorm_any (va : Value) (xs : List Nat) (w : World) (ha : NatAt w va xs) (hxl : xs.length ≤ 10000000) : Calls Tryd.prog 19 #[va] w (GivesNat w (limbs (val xs))) :=
  (rnorm_row va xs w ha hxl).mono fun _ _ h => h.nat

set_option maxHeartbeats 400000 in
theorem rof_any (n : Nat) (w : World) (hn : n < 18446744073709551616) : Calls Tryd.prog 17 #[.int .u64 n] w (GivesNat w (limbs n)) := by
  have hl : (limbs n).length ≤ 2 := limbs_length_le (by simpa using hn)
  go_enter Tryd.func17, Tryd.ntmps17
  go_wp2
  go_loopw [0, 3] (fun s r wr => ∃ (m : Nat) (rs : List Nat), m ≤ n ∧ s = .int .u64 m ∧ Row wr w.heap.size r rs ∧ Lim rs ∧ limbs n = rs ++ limbs m ∧ Below w.heap.size w wr) (fun s _ _ => (intOf s).toNat)
  case atStart => exact ⟨n, [], Nat.le_refl _, rfl, Row.nil _ _, lim_nil, rfl, Below.refl _ _⟩
  case round =>
    obtain ⟨m, rs, hm, rfl, h1, h2, h3, h4⟩ := hrel
    have hsz := h4.size
    have hrs : rs.length ≤ 2 := by rw [h3, List.length_append] at hl; omega
    have H1 := Lib.hid h1
    have H2 := Lib.hid h2
    have H3 := Lib.hid h3
    have H4 := Lib.hid h4
    clear h1 h2 h3 h4
    rcases Nat.eq_zero_or_pos m with h0 | h0
    · subst h0
      go_wp2
      go_ret
      refine ⟨_, rfl, ?_, H4.out⟩
      rw [H3.out, limbs_zero, List.append_nil]
      exact H1.out.natAt H2.out
    · go_wp2_with (at_builtin; refine wpList_append1 rfl (.tmp 6) (.tmp 10) _ Tryd.undN rfl w.heap.size _ rs rfl (H1.out.alloc _) wr.heap.size _ (m % 4294967296) rfl (by omega) (cell_new1 _ _ _) (by omega) (by simp; omega) ?_; intro v' w2 HRow hb2)
      go_roundw
      case rel => exact ⟨m / 4294967296, rs ++ [m % 4294967296], by omega, by go_num, HRow.out, H2.out.append (Lim.cons (by omega) lim_nil), by rw [H3.out, limbs_pos (by omega : m ≠ 0), List.append_assoc]; rfl, H4.out.trans ((Below.refl _ _).alloc hsz _ |>.trans hb2)⟩
      case measure => simp [intOf]; omega
end Go.Proofs.YtelcjcgalkcadaaDoor
