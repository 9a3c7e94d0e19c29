/- append of a slice, and of zeros, onto a row of the call's own, where the region draws its order. -/
import Derived.Test.YtcdfhiocglibfaaDoorTwo
namespace Go.Proofs.YtcdfhiocglibfaaDoor
open Go.RowKit

section
variable {P : Program} {md : Region.Mode} {ops : Array Oper} {Q : Exit → Act → World → Prop} {S : World → Prop}
theorem wpAnyH_key5 {f0 : Nat} {L0 : Array Bool} {a0 : Act} {w0 : World} (f : Nat) (L : Array Bool) (d1 d2 d3 d4 d5 : Nat) (J : Value → Value → Value → Value → Value → World → Prop)
    (hkey : ∀ v1 v2 v3 v4 v5 wx, J v1 v2 v3 v4 v5 wx → wpAnyH P md ops Q S f L (((((a0.put (some d1) v1).put (some d2) v2).put (some d3) v3).put (some d4) v4).put (some d5) v5) wx)
    (h : (∀ v1 v2 v3 v4 v5 wx, J v1 v2 v3 v4 v5 wx → wpAnyH P md ops Q S f L (((((a0.put (some d1) v1).put (some d2) v2).put (some d3) v3).put (some d4) v4).put (some d5) v5) wx) → wpAnyH P md ops Q S f0 L0 a0 w0) : wpAnyH P md ops Q S f0 L0 a0 w0 := h hkey
end
theorem zeroCells_one (n : Nat) : Builtin.zeroCells (Value.int .u32 0).cells n = ((List.replicate n 0).map U).toArray := by
  unfold Builtin.zeroCells
  apply Array.ext
  · simp [Value.cells]
  · intro i h1 h2
    simp [Value.cells, U, Nat.mod_one]
section
variable {P : Program} (w : World)
theorem run_append_empty (base : Nat) (t ty e : TypeId) (i : TypeInfo) (size : Nat) (ht : P.underlying t = some (.slice e)) (hi : P.info? e = some i)
    (v : Value) (n : Nat) (xs : List Value) (hown : w.ownsRow base e size v n xs) (A : Option Addr) (c : Nat) :
    (Builtin.append_ #[t, t] ty #[v, .slice A 0 c]).run P w = .ok v w := by
  rcases hown.2 with ⟨rfl, rfl⟩ | ⟨g, cap, cur, rfl, _, _, hnc, _⟩ <;> cases A <;>
    simp [Builtin.append_, run_underlying ht, sizeOf, typeInfo, Builtin.lenOf, Builtin.firstCells, loadCells, loadCellsFrom, storeCells, *]
theorem run_append_zeros (base : Nat) (t tx ty e : TypeId) (i : TypeInfo) (ht : P.underlying t = some (.slice e)) (htx : P.underlying tx = some (.int .i64)) (hi : P.info? e = some i) (hz : i.zero = some (.int .u32 0)) (hsize : i.size = 1) (hby : i.bytes = 4)
    (v : Value) (n : Nat) (xs : List Value) (hown : w.ownsRow base e 1 v n xs) (m : Nat) (hm : m ≤ 1000) (hn : n ≤ 1000000) (hbase : base ≤ w.heap.size) :
    ∃ v' w', (Builtin.append_ #[t, tx] ty #[v, .int .i64 (m : Int)]).run P w = .ok v' w' ∧ w'.ownsRow base e 1 v' (n + m) (xs ++ (List.replicate m 0).map U) ∧ w.grownBy w' v.ownBlock := by
  have hw : IntKind.i64.wrap (m : Int) = m := by rw [IntKind.wrap_i64]; omega
  have hw0 : IntKind.i64.wrap 0 = 0 := by rw [IntKind.wrap_i64]; rfl
  have h0 : ¬ ((m : Int) < 0) := by omega
  have h48 : ¬ (281474976710656 < (m : Int) * 4) := by omega
  have hl : ((List.replicate m 0).map U).length = m * 1 := by simp
  have hlen : (xs ++ (List.replicate m 0).map U).length = (n + m) * 1 := by rw [List.length_append, hown.1, hl, Nat.add_mul]
  have hmx : n + m ≤ maxLen := by unfold maxLen; omega
  have grown : ∀ (old : Nat), old < n + m → ∀ (row : Option Nat),
      (w.drew.alloc (.cells ((xs ++ (List.replicate m 0).map U).toArray ++ Builtin.zeroCells (Value.int .u32 0).cells (grownCap w (n + m) old e - (n + m))) e)).ownsRow base e 1
        (.slice (some ⟨w.heap.size, 0, none⟩) (n + m) (grownCap w (n + m) old e)) (n + m) (xs ++ (List.replicate m 0).map U) ∧
      w.grownBy (w.drew.alloc (.cells ((xs ++ (List.replicate m 0).map U).toArray ++ Builtin.zeroCells (Value.int .u32 0).cells (grownCap w (n + m) old e - (n + m))) e)) row := by
    intro old _ row
    have hge := grownCap_ge w (n + m) old e
    have hcm : grownCap w (n + m) old e ≤ maxLen := grownCap_le_maxLen w (n + m) old e hmx
    refine ⟨⟨hlen, .inr ⟨w.heap.size, _, _, rfl, hbase, heap_alloc_new w.drew _, hge, hcm, ?_, ?_⟩⟩, ⟨rfl, rfl, rfl, by simp, fun k hk _ => Below.heap_alloc w.drew _ k hk⟩⟩
    · rw [zeroCells_one]
      simp only [Array.size_append, List.size_toArray, hlen, List.length_map, List.length_replicate]
      omega
    · rw [Array.toList_append, ← hlen]
      exact List.take_left
  have hgrow : ∀ (A : Option Addr) (cap : Nat), v = .slice A n cap → m ≠ 0 → cap < n + m → (Builtin.firstCells 1 n (.slice A n cap)).run P w.drew = .ok xs.toArray w.drew →
      ∃ v' w', (Builtin.append_ #[t, tx] ty #[v, .int .i64 (m : Int)]).run P w = .ok v' w' ∧ w'.ownsRow base e 1 v' (n + m) (xs ++ (List.replicate m 0).map U) ∧ w.grownBy w' v.ownBlock := by
    intro A cap hv hm0 hg hold
    have hns : Builtin.nextslicecap (n + m) cap * 4 ≤ 281474976710656 := growslice_fits (by omega) (by omega)
    have hn' : ¬ (n + m ≤ cap) := by omega
    have h63' : ¬ (9223372036854775807 < ((n : Int) + (m : Int))) := by omega
    have h48' : ¬ (281474976710656 < Builtin.nextslicecap (n + m) cap * 4) := by omega
    obtain ⟨g1, g2⟩ := grown cap hg v.ownBlock
    refine ⟨_, _, ?_, g1, g2⟩
    subst hv
    simp [Builtin.append_, run_underlying ht, run_underlying htx, sizeOf, typeInfo, zeroValue, hi, hz, hsize, hby, asInt, asIntOf, hw, h0, h48, hn', h63', h48', hm0, Question.forced, hold, newRow, grownCap, zeroCells_one]
    congr 2
    apply Array.ext'
    simp [List.append_assoc, List.replicate_append_replicate]
  rcases hown.2 with ⟨hv, rfl⟩ | ⟨g, cap, cur, hv, hbg, hg, hnc, hcm, hcs, htake⟩
  · have hx : xs = [] := List.eq_nil_of_length_eq_zero (by simpa using hown.1)
    subst hx
    by_cases hm0 : m = 0
    · subst hm0
      refine ⟨v, w, ?_, ⟨by simp, .inl ⟨hv, rfl⟩⟩, ⟨rfl, rfl, rfl, Nat.le_refl _, fun _ _ _ => rfl⟩⟩
      subst hv
      simp [Builtin.append_, run_underlying ht, run_underlying htx, sizeOf, typeInfo, hi, hby, asInt, asIntOf, hw0]
    · exact hgrow none 0 hv hm0 (by omega) (by simp [Builtin.firstCells])
  · by_cases hroom : n + m ≤ cap
    · have hfit : n * 1 + ((List.replicate m 0).map U).length ≤ cur.size := by rw [hl, hcs]; omega
      have hst := run_storeCells_at P g (n * 1) e ((List.replicate m 0).map U) 0 cur w hg (by simpa using hfit) (by intro u hu; obtain ⟨_, _, rfl⟩ := List.mem_map.1 hu; rfl)
      simp only [Nat.add_zero] at hst
      refine ⟨.slice (some ⟨g, 0, none⟩) (n + m) cap, w.setRow g (cur.toList.take (n * 1) ++ (List.replicate m 0).map U ++ cur.toList.drop (n * 1 + ((List.replicate m 0).map U).length)).toArray, ?_, ⟨hlen, .inr ⟨g, cap, _, rfl, hbg, setRow_heap w g cur _ e _ hg, hroom, hcm, ?_, ?_⟩⟩, ⟨rfl, rfl, rfl, by simp, fun k _ hk => setRow_other w g k _ (fun e => hk (by simp [hv, Value.ownBlock, e]))⟩⟩
      · subst hv
        by_cases hm0 : m = 0
        · subst hm0
          simp [Builtin.append_, run_underlying ht, run_underlying htx, sizeOf, typeInfo, hi, hsize, hby, asInt, asIntOf, hw0, Addr.add_lit] at hst ⊢
          rw [if_pos hnc, hst]
          rfl
        · simp [Builtin.append_, run_underlying ht, run_underlying htx, sizeOf, typeInfo, zeroValue, hi, hz, hsize, hby, asInt, asIntOf, hw, h0, h48, hroom, hm0, Addr.add_lit, zeroCells_one] at hst ⊢
          rw [hst]
          rfl
      · simp only [List.size_toArray, List.length_append, List.length_take, List.length_drop, Array.length_toList]
        omega
      · rw [htake, ← hlen]
        exact List.take_left
    · refine hgrow _ cap hv (by omega) (by omega) ?_
      exact run_firstCells_some (P := P) w.drew 1 n ⟨g, 0, none⟩ n cap xs hown.1 (by simpa using hown.cells (g := g) (by rw [hv]; rfl))
end
theorem below_base {B : Nat} {a b c : World} (h : Below B a b) (k : Below B b c) : Below B a c := h.trans k
/-- append(v, y...). -/
theorem wp_appendN {w : World} {o : Oper} {a : Act} {K : Act → World → Prop} {Q : Exit → Act → World → Prop} (s x : Operand) (t : TypeId)
    (ht : Tryd.prog.underlying t = some (.slice 46)) (ho : o.op = .call { callee := .builtin .append, args := #[s, x], argTypes := #[t, t] })
    (base : Nat) (v : Value) (xs : List Nat) (hs : a.eval s = v) (hown : Row w base v xs) (y : Value) (ys : List Nat) (hx : a.eval x = y) (hy : NatAt w y ys) (hlen : xs.length + ys.length ≤ 1099511627776) (hbase : base ≤ w.heap.size)
    (h : ∀ v' w', Hid (Row w' base v' (xs ++ ys)) → Hid (w.grownBy w' v.ownBlock) → Below base w w' → K (a.put o.dst v') w') : o.wp Tryd.prog a w K Q := by
  obtain ⟨i, h2, h3, h4, h5⟩ := info_parts Tryd.infoU
  obtain ⟨A, c, rfl, g1, g2, g3, g4⟩ := hy
  by_cases h0 : 0 < ys.length
  · obtain ⟨b, o', rfl, hb, hc⟩ := g4 h0
    refine wp_append_own (P := Tryd.prog) w s x t ho base _ i _ 1 4 ht h2 h3 h4 h5 rfl (by omega) v xs.length (xs.map U) hs hown ⟨b, o', none⟩ ys.length c (ys.map U) hx (by simp) ?_ ?_ (by unfold maxLen; omega) (by omega) hbase ?_
    · intro j u hj
      have hj' : j < ys.length := by have := (List.getElem?_eq_some_iff.1 hj).1; simpa using this
      rw [Addr.add_lit, hc j hj']
      rw [List.getElem?_map, List.getElem?_eq_getElem hj'] at hj
      simpa [U, hj'] using hj
    · intro u hu
      obtain ⟨_, _, rfl⟩ := List.mem_map.1 hu
      rfl
    · intro v' w' hr hg _
      refine h v' w' ?_ hg ?_
      · show Row _ _ _ _
        unfold Row
        rw [List.length_append, List.map_append]; exact hr
      · exact (Below.refl _ _).grown hg hbase (fun k hk => (World.ownsRow.lt hown k hk).1)
  · obtain rfl : ys = [] := List.eq_nil_of_length_eq_zero (by omega)
    have hr := run_append_empty (P := Tryd.prog) w base t o.type _ i 1 ht h2 v _ _ hown A c
    unfold Oper.wp execOp
    simp only [List.length_nil] at hx
    simp only [ho, resolve, invoke, builtin, Sem.run_bind, Sem.run_pure, Result.andThen_ok, List.map_toArray, List.map_cons, List.map_nil, hs, hx, hr]
    refine h v w ?_ ⟨rfl, rfl, rfl, Nat.le_refl _, fun _ _ _ => rfl⟩ (Below.refl _ _)
    show Row _ _ _ _
    rw [List.append_nil]
    exact hown
/-- append(v, make([]uint32, m)...). -/
theorem wp_append0 {w : World} {o : Oper} {a : Act} {K : Act → World → Prop} {Q : Exit → Act → World → Prop} (s x : Operand) (t tx : TypeId)
    (ht : Tryd.prog.underlying t = some (.slice 46)) (htx : Tryd.prog.underlying tx = some (.int .i64)) (ho : o.op = .call { callee := .builtin .append, args := #[s, x], argTypes := #[t, tx] })
    (base : Nat) (v : Value) (xs : List Nat) (hs : a.eval s = v) (hown : Row w base v xs) (m : Nat) (hx : a.eval x = .int .i64 (m : Int)) (hm : m ≤ 1000) (hlen : xs.length ≤ 1000000) (hbase : base ≤ w.heap.size)
    (h : ∀ v' w', Hid (Row w' base v' (xs ++ List.replicate m 0)) → Hid (w.grownBy w' v.ownBlock) → Below base w w' → K (a.put o.dst v') w') : o.wp Tryd.prog a w K Q := by
  obtain ⟨i, h2, h3, h4, h5⟩ := info_parts Tryd.infoU
  obtain ⟨v', w', hr, hro, hg⟩ := run_append_zeros (P := Tryd.prog) w base t tx o.type _ i ht htx h2 h3 h4 h5 v _ _ hown m hm hlen hbase
  unfold Oper.wp execOp
  simp only [ho, resolve, invoke, builtin, Sem.run_bind, Sem.run_pure, Result.andThen_ok, List.map_toArray, List.map_cons, List.map_nil, hs, hx, hr]
  refine h v' w' ?_ hg ((Below.refl _ _).grown hg hbase (fun k hk => (World.ownsRow.lt hown k hk).1))
  show Row _ _ _ _
  unfold Row
  rw [List.length_append, List.map_append, List.length_replicate]
  exact hro
theorem Box.grown {w w' : World} {g base : Nat} {x y v : Value} {xs : List Nat} (h : Box w g x y) (hown : Row w base v xs) (hg : w.grownBy w' v.ownBlock) : Box w' g x y := by
  unfold Box at h ⊢
  rw [hg.block g (Array.getElem?_eq_some_iff.1 h).1 ?_]; exact h
  intro e
  rcases hown.2 with ⟨rfl, _⟩ | ⟨g', cap, cur, rfl, _, hh, _⟩
  · cases e
  · simp only [Value.ownBlock, Option.some.injEq] at e
    subst e
    rw [h] at hh
    simp at hh
theorem Row.natAt_form {w : World} {base : Nat} {v : Value} {xs : List Nat} (h : Row w base v xs) : ∃ A n c, v = .slice A n c := by
  rcases h.2 with ⟨rfl, _⟩ | ⟨g, cap, cur, rfl, _⟩
  · exact ⟨none, 0, 0, rfl⟩
  · exact ⟨_, _, cap, rfl⟩
theorem newRow0 {base : Nat} (w : World) (hb : base ≤ w.heap.size) : ∃ W v, w.alloc (.cells #[] 46) = W ∧ .slice (some ⟨w.heap.size, 0, none⟩) 0 0 = v ∧ Hid (Row W base v []) ∧ Below w.heap.size w W :=
  ⟨_, _, rfl, rfl, World.ownsRow_made w #[] 0 hb (by unfold maxLen; omega) rfl, below_alloc0 w _⟩
theorem storeBoxN {w : World} {g n c : Nat} {b : Bool} {A : Option Addr} (hB : Box w g (.bool b) (.slice A n c)) (u v : Value) : ∃ V, (w.setCell ⟨g, 0, none⟩ u).setCell ⟨g, 1, none⟩ v = V ∧ Hid (Box V g u v) ∧ Hid (∀ m xs, NatAt w m xs → NatAt V m xs) ∧ Hid (∀ (a : World), Below a.heap.size a w → a.heap.size ≤ g → Below a.heap.size a V) :=
  ⟨stored w g u v, rfl, hB.store u v, fun _ _ h => h.store hB slice_noInt u v, fun _ h hg => below_stored h hg u v⟩
/-- A number with zeros behind it, a box made. -/
def FormJ (W : World) (xs : List Nat) (b : Bool) (_v1 _v2 v3 v4 v5 : Value) (wx : World) : Prop := ∃ (A : Option Addr) (n c g : Nat), v3 = .slice A n c ∧ v4 = .agg #[.bool b, .slice A n c] ∧ v5 = .pointer (some ⟨g, 0, none⟩) ∧ NatAt wx (.slice A n c) xs ∧ Box wx g (.bool false) (.slice none 0 0) ∧ W.heap.size ≤ g ∧ Below W.heap.size W wx
theorem val_zeros (xs : List Nat) (k : Nat) : val (xs ++ List.replicate k 0) = val xs := by
  induction xs with
  | nil => induction k with
    | zero => rfl
    | succ k ih => simp only [List.nil_append] at ih ⊢; rw [List.replicate_succ]; simp only [val, ih]
  | cons x xs ih => simp only [List.cons_append, val, ih]
theorem lim_zeros {xs : List Nat} (h : Lim xs) (k : Nat) : Lim (xs ++ List.replicate k 0) := by
  intro x hx
  rcases List.mem_append.1 hx with hx | hx
  · exact h x hx
  · rw [List.eq_of_mem_replicate hx]; omega
end Go.Proofs.YtcdfhiocglibfaaDoor
