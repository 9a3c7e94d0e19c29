/- The words for memory: a slice of 32-bit words that reads as a list of numbers; a row of such words that the call has made itself; make, append and copy on them. -/
import Derived.Test.YtelcjcgalkcadaaDoorChecked
import Derived.Test.YtelcjcgalkcadaaDoorKnuth
import Derived.WalkKit
import Derived.WalkLawsBesides
import Derived.WalkSpells
import Derived.Lib.Hide
import Derived.Deep.Draws
import Derived.Laws.CopyOwn
namespace Go.Proofs.YtelcjcgalkcadaaDoor
open Go.RowKit

/-- The slice value v reads, in the world w, as the limbs xs. -/
def NatAt (w : World) (v : Value) (xs : List Nat) : Prop :=
  ∃ A c, v = .slice A xs.length c ∧ xs.length ≤ c ∧ xs.length ≤ 9223372036854775807 ∧ Lim xs ∧
    (0 < xs.length → ∃ b o, A = some ⟨b, o, none⟩ ∧ b < w.heap.size ∧ ∀ j, j < xs.length → w.cell? ⟨b, o + j, none⟩ = some (.int .u32 (xs.getD j 0 : Nat)))

theorem NatAt.keep {w w' : World} {v : Value} {xs : List Nat} (h : NatAt w v xs) (hz : w.heap.size ≤ w'.heap.size)
    (hk : ∀ p : Addr, p.block < w.heap.size → w'.cell? p = w.cell? p) : NatAt w' v xs := by
  obtain ⟨A, c, hv, h1, h2, h3, h4⟩ := h
  refine ⟨A, c, hv, h1, h2, h3, fun hn => ?_⟩
  obtain ⟨b, o, ha, hb, hc⟩ := h4 hn
  exact ⟨b, o, ha, by omega, fun j hj => (hk ⟨b, o + j, none⟩ hb).trans (hc j hj)⟩
theorem NatAt.below {w w' : World} {v : Value} {xs : List Nat} (h : NatAt w v xs) (hb : Below w.heap.size w w') : NatAt w' v xs :=
  h.keep hb.size fun _ hp => hb.cell hp
theorem NatAt.drewN {w : World} {v : Value} {xs : List Nat} (h : NatAt w v xs) (k : Nat) : NatAt (w.drewN k) v xs := h
theorem NatAt.alloc {w : World} {v : Value} {xs : List Nat} (h : NatAt w v xs) (o : Obj) : NatAt (w.alloc o) v xs :=
  h.keep (by simp) fun p hp => World.cell?_alloc_lt w o p hp
theorem NatAt.lim {w : World} {v : Value} {xs : List Nat} (h : NatAt w v xs) : Lim xs := by
  obtain ⟨_, _, _, _, _, h3, _⟩ := h; exact h3
theorem NatAt.len {w : World} {v : Value} {xs : List Nat} (h : NatAt w v xs) : xs.length ≤ 9223372036854775807 := by
  obtain ⟨_, _, _, h1, h2, _, _⟩ := h; omega
theorem NatAt.nil (w : World) : NatAt w (.slice none 0 0) [] := ⟨none, 0, rfl, by simp, by simp, lim_nil, fun h => by simp at h⟩
theorem below_drewN {B : Nat} {a w : World} (h : Below B a w) (n : Nat) : Below B a (w.drewN n) := ⟨h.os, h.tape, h.output, h.size, h.block⟩
/-- From world to world: the frames of two calls in a row. -/
theorem below_next {a b c : World} (h : Below a.heap.size a b) (k : Below b.heap.size b c) : Below a.heap.size a c := h.trans (k.mono h.size)
theorem below_drew0 (w : World) (n : Nat) : Below w.heap.size w (w.drewN n) := below_drewN (Below.refl _ _) n
theorem below_alloc0 (w : World) (o : Obj) : Below w.heap.size w (w.alloc o) := (Below.refl _ _).alloc (Nat.le_refl _) o

/-- A function's result: it returns a slice that reads as xs, and nothing that was there has turned. -/
def GivesNat (w : World) (xs : List Nat) (e : Ending) (w' : World) : Prop :=
  ∃ v, e = .returned v ∧ NatAt w' v xs ∧ Below w.heap.size w w'
/-- The same where the world is as it was. -/
def SameNat (w : World) (xs : List Nat) (e : Ending) (w' : World) : Prop := ∃ v, e = .returned v ∧ w = w' ∧ NatAt w v xs

/-! ### Rows of the call's own -/
def U (x : Nat) : Value := .int .u32 (x : Int)
/-- Block g is a row of 32-bit words, known whole. -/
def Own (w : World) (g : Nat) (xs : List Nat) : Prop := w.heap[g]? = some (.cells (xs.map U).toArray 42 (0, 0))
section
variable {w w' : World} {g : Nat} {xs : List Nat}
theorem Own.lt (h : Own w g xs) : g < w.heap.size := by
  rcases Nat.lt_or_ge g w.heap.size with hlt | hge
  · exact hlt
  · unfold Own at h; rw [Array.getElem?_eq_none hge] at h; cases h
theorem Own.cell (h : Own w g xs) {j : Nat} (hj : j < xs.length) : w.cell? ⟨g, j, none⟩ = some (.int .u32 (xs.getD j 0 : Nat)) := by
  rw [cell_of_row w g j _ _ _ h]
  simp [hj, U]
theorem Own.frozen (h : Own w g xs) (i : Nat) : w.frozen? ⟨g, i, none⟩ = false := by
  unfold Own at h
  simp [World.frozen?, h]
theorem Own.below {B : Nat} (h : Own w g xs) (hb : Below B w w') (hg : g < B) : Own w' g xs := (hb.block g hg).trans h
theorem Own.next (h : Own w g xs) (hb : Below w.heap.size w w') : Own w' g xs := h.below hb h.lt
theorem Own.drewN (h : Own w g xs) (n : Nat) : Own (w.drewN n) g xs := h
theorem Own.alloc (h : Own w g xs) (o : Obj) : Own (w.alloc o) g xs := (Below.heap_alloc w o g h.lt).trans h
theorem Own.set (h : Own w g xs) (i x : Nat) : Own (w.setCell ⟨g, i, none⟩ (.int .u32 (x : Int))) g (xs.set i x) := by
  unfold Own at h ⊢
  simp only [World.setCell, Array.getElem?_modify, h]
  simp only [if_true, Option.map_some, List.map_set]
  simp [U]
theorem Own.far (h : Own w g xs) {p : Addr} (hp : g ≠ p.block) (u : Value) : Own (w.setCell p u) g xs := (Below.heap_setCell w p u g hp).trans h
/-- A part of the row, as a slice. -/
theorem Own.part (h : Own w g xs) (hl : Lim xs) {o n c : Nat} (hn : o + n ≤ xs.length) (hc : n ≤ c) (hm : n ≤ 9223372036854775807) : NatAt w (.slice (some ⟨g, o, none⟩) n c) ((xs.drop o).take n) := by
  have e : ((xs.drop o).take n).length = n := by rw [List.length_take, List.length_drop]; omega
  refine ⟨_, c, by rw [e], by omega, by omega, (hl.drop o).take n, fun _ => ⟨g, o, rfl, h.lt, fun j hj => ?_⟩⟩
  rw [h.cell (by omega)]
  congr 3
  rw [List.getD_eq_getElem?_getD, List.getD_eq_getElem?_getD, List.getElem?_take_of_lt (by omega), List.getElem?_drop]
theorem Own.natAt (h : Own w g xs) (hl : Lim xs) {c : Nat} (hc : xs.length ≤ c) (hm : xs.length ≤ 9223372036854775807) : NatAt w (.slice (some ⟨g, 0, none⟩) xs.length c) xs := by
  have := h.part hl (o := 0) (n := xs.length) (by omega) hc hm
  rwa [List.drop_zero, List.take_of_length_le (Nat.le_refl _)] at this
end

/-- The slice value v reads as xs and lies at the head of a row of the call's own. -/
def OwnNat (w : World) (v : Value) (xs : List Nat) : Prop :=
  ∃ g zs c, v = .slice (some ⟨g, 0, none⟩) xs.length c ∧ xs.length ≤ c ∧ xs.length ≤ 9223372036854775807 ∧ Own w g zs ∧ Lim zs ∧ xs.length ≤ zs.length ∧ zs.take xs.length = xs
theorem OwnNat.natAt {w : World} {v : Value} {xs : List Nat} (h : OwnNat w v xs) : NatAt w v xs := by
  obtain ⟨g, zs, c, rfl, h1, h2, h3, h4, h5, h6⟩ := h
  have := h3.part h4 (o := 0) (n := xs.length) (c := c) (by omega) h1 h2
  rwa [List.drop_zero, h6] at this
theorem OwnNat.keep {w w' : World} {v : Value} {xs : List Nat} (h : OwnNat w v xs) (hk : ∀ g zs, Own w g zs → Own w' g zs) : OwnNat w' v xs := by
  obtain ⟨g, zs, c, hv, h1, h2, h3, h4⟩ := h
  exact ⟨g, zs, c, hv, h1, h2, hk g zs h3, h4⟩
theorem Tryd.infoU : (Tryd.prog.info? 42).map (fun i => (i.zero, i.size, i.bytes)) = some (some (.int .u32 0), 1, 4) := by kernel_rfl
theorem Tryd.sizeU : (Tryd.prog.info? 42).map (·.size) = some 1 := by kernel_rfl
theorem Tryd.undN : Tryd.prog.underlying 24 = some (.slice 42) := by kernel_rfl
theorem made_any (z : Array Value) (v : Value) (hz : z = #[v]) (n : Nat) : madeCells z (n * 1) = Array.replicate n v := by
  subst hz
  unfold madeCells
  apply Array.ext
  · simp
  · intro i h1 h2
    simp [Nat.mod_one]
theorem made_zero (n : Nat) : madeCells (Value.int .u32 0).cells (n * 1) = ((List.replicate n 0).map U).toArray := by
  refine (made_any _ (U 0) rfl n).trans ?_
  simp
/-- make([]uint32, n, c). -/
theorem wpList_make {w : World} {ops : Array Oper} {rest : List Oper} {o : Oper} {a : Act} {Q : Exit → Act → World → Prop}
    (hg : o.guard = none) (t : TypeId) (ht : Tryd.prog.underlying t = some (.slice 42)) (l c : Operand) (hop : o.op = Op.makeSlice t l c)
    (kl kc : IntKind) (L C : Int) (n m : Nat) (hl : a.eval l = .int kl L) (hc : a.eval c = .int kc C) (hL : L = (n : Int)) (hC : C = (m : Int)) (hnm : n ≤ m) (hb : m ≤ 1099511627776)
    (hK : ∀ w', Hid (Own w' w.heap.size (List.replicate m 0)) → Below w.heap.size w w' → w'.heap.size = w.heap.size + 1 → wpList Tryd.prog ops Q rest (a.put o.dst (.slice (some ⟨w.heap.size, 0, none⟩) n m)) w') :
    wpList Tryd.prog ops Q (o :: rest) a w := by
  refine wpList_plain hg fun K hK' => ?_
  obtain ⟨i, h2, h3, h4, h5⟩ := info_parts Tryd.infoU
  subst hL hC
  have hr := run_make (P := Tryd.prog) w t _ i _ ht h2 h3 kl kc n m (by omega) (by omega) (by rw [h5]; omega) (by omega)
  simp only [Int.toNat_natCast, h4, made_zero] at hr
  unfold Oper.wp
  simp only [execOp, hop, hl, hc, hr, Result.andThen, Sem.run_bind, Sem.run_pure]
  exact hK' _ _ (hK _ (heap_alloc_new w _) (below_alloc0 w _) (by simp))

/-- The slice value v, of the call's own making (blocks from base on), owns the limbs xs. -/
def Row (w : World) (base : Nat) (v : Value) (xs : List Nat) : Prop := w.ownsRow base 42 1 v xs.length (xs.map U)
theorem Row.nil (w : World) (base : Nat) : Row w base (.slice none 0 0) [] := World.ownsRow_nil ..
theorem Row.alloc {w : World} {base : Nat} {v : Value} {xs : List Nat} (h : Row w base v xs) (o : Obj) : Row (w.alloc o) base v xs := World.ownsRow.alloc h o
theorem Row.natAt {w : World} {base : Nat} {v : Value} {xs : List Nat} (h : Row w base v xs) (hl : Lim xs) : NatAt w v xs := by
  obtain ⟨_, h2⟩ := h
  rcases h2 with ⟨rfl, h0⟩ | ⟨g, cap, cur, rfl, _, hh, hn, hm, hs, ht⟩
  · have e : xs = [] := List.eq_nil_of_length_eq_zero h0
    subst e
    exact NatAt.nil w
  · refine ⟨_, cap, rfl, hn, by unfold maxLen at hm; omega, hl, fun _ => ⟨g, 0, rfl, ?_, fun j hj => ?_⟩⟩
    · rcases Nat.lt_or_ge g w.heap.size with hlt | hge
      · exact hlt
      · rw [Array.getElem?_eq_none hge] at hh; cases hh
    · rw [Nat.zero_add, cell_of_row w g j _ _ _ hh]
      rw [Nat.mul_one] at ht
      have h3 : (cur.toList.take xs.length)[j]? = (xs.map U)[j]? := by rw [ht]
      rw [List.getElem?_take_of_lt hj, List.getElem?_map, List.getElem?_eq_getElem hj] at h3
      rw [← Array.getElem?_toList, h3]
      simp [U, hj]
/-- A made row, cut to length 0, takes what is appended. -/
theorem Row.made {w : World} {base g m : Nat} (h : Own w g (List.replicate m 0)) (hb : base ≤ g) (hm : m ≤ 9223372036854775807) : Row w base (.slice (some ⟨g, 0, none⟩) 0 m) [] := by
  refine ⟨rfl, .inr ⟨g, m, _, rfl, hb, h, Nat.zero_le _, by unfold maxLen; omega, by simp, by simp⟩⟩
theorem Row.below {w w' : World} {base : Nat} {v : Value} {xs : List Nat} (h : Row w base v xs) (hb : Below w.heap.size w w') : Row w' base v xs := by
  obtain ⟨h1, h2⟩ := h
  refine ⟨h1, ?_⟩
  rcases h2 with h2 | ⟨g, cap, cur, hv, hg, hh, r⟩
  · exact .inl h2
  · refine .inr ⟨g, cap, cur, hv, hg, ?_, r⟩
    rw [hb.block g ?_]; exact hh
    rcases Nat.lt_or_ge g w.heap.size with hlt | hge
    · exact hlt
    · rw [Array.getElem?_eq_none hge] at hh; cases hh

theorem cell_new1 (w : World) (v : Value) (t : TypeId) : (w.alloc (.cells #[v] t)).cell? ⟨w.heap.size, 0, none⟩ = some v := by
  rw [World.cell?_alloc_at _ _ _ _ rfl]; rfl

/-- append(v, x). -/
theorem wpList_append1 {w : World} {ops : Array Oper} {rest : List Oper} {o : Oper} {a : Act} {Q : Exit → Act → World → Prop} (hgd : o.guard = none) (s x : Operand) (t : TypeId)
    (ht : Tryd.prog.underlying t = some (.slice 42)) (ho : o.op = .call { callee := .builtin .append, args := #[s, x], argTypes := #[t, t] })
    (base : Nat) (v : Value) (xs : List Nat) (hs : a.eval s = v) (hown : Row w base v xs) (ad : Nat) (X : Int) (n : Nat) (hx : a.eval x = .slice (some ⟨ad, 0, none⟩) 1 1) (hX : X = (n : Int))
    (hc : w.cell? ⟨ad, 0, none⟩ = some (.int .u32 X)) (hlen : xs.length ≤ 1099511627776) (hbase : base ≤ w.heap.size)
    (h : ∀ v' w', Hid (Row w' base v' (xs ++ [n])) → Below base w w' → wpList Tryd.prog ops Q rest (a.put o.dst v') w') : wpList Tryd.prog ops Q (o :: rest) a w := by
  obtain ⟨i, h2, h3, h4, h5⟩ := info_parts Tryd.infoU
  refine wpList_append_own (P := Tryd.prog) w hgd s x t ho base _ i _ 1 4 ht h2 h3 h4 h5 rfl (by omega) v xs.length (xs.map U) hs hown ⟨ad, 0, none⟩ 1 1 [U n] hx rfl ?_ ?_ (by unfold maxLen; omega) (by omega) hbase ?_
  · intro j u hj
    match j, hj with
    | 0, hj =>
      simp at hj; subst hj
      show w.cell? ⟨ad, 0, none⟩ = _
      rw [hc, hX]; rfl
  · intro u hu; simp at hu; subst hu; rfl
  · intro v' w' hr hg _
    refine h v' w' ?_ ?_
    · show Row _ _ _ _
      unfold Row
      rw [List.length_append, List.map_append]; exact hr
    · exact (Below.refl _ _).grown hg hbase (fun k hk => (World.ownsRow.lt hown k hk).1)

theorem splice_whole {α : Type} (L cs : List α) (h : L.length = cs.length) : splice L 0 cs = cs := by
  unfold splice
  rw [List.take_zero, Nat.zero_add, ← h, List.drop_length]; simp
/-- copy(r, v), r a row of the call's own that is as long as v. -/
theorem wpList_copyN {w : World} {ops : Array Oper} {rest : List Oper} {o : Oper} {a : Act} {Q : Exit → Act → World → Prop} (hgd : o.guard = none) (d s : Operand) (t : TypeId)
    (ht : Tryd.prog.underlying t = some (.slice 42)) (ho : o.op = .call { callee := .builtin .copy, args := #[d, s], argTypes := #[t, t] })
    (g n m : Nat) (v : Value) (zs ys : List Nat) (hd : a.eval d = .slice (some ⟨g, 0, none⟩) n m) (hs : a.eval s = v) (hv : NatAt w v ys) (hn : n = ys.length) (hO : Own w g zs) (hz : zs.length = ys.length)
    (B : Nat) (w0 : World) (hb : Below B w0 w) (hBg : B ≤ g)
    (h : ∀ w', Hid (Own w' g ys) → Below B w0 w' → wpList Tryd.prog ops Q rest (a.put o.dst (goInt ys.length)) w') : wpList Tryd.prog ops Q (o :: rest) a w := by
  obtain ⟨A, c, rfl, g1, g2, g3, g4⟩ := hv
  subst hn
  have e : (ys.map U).length = ys.length := by simp
  refine wpList_copy_splice hgd d s _ _ ho _ ht Tryd.sizeU _ _ _ _ _ _ hd hs g 0 (zs.map U) _ hO (ys.map U) (by rw [e]; exact (Nat.min_self _).symm) ?_ (by simp [hz]) ?_ B w0 hb hBg ?_
  · intro hp
    obtain ⟨b, o, ha, hb, hc⟩ := g4 (by simpa using hp)
    refine ⟨rfl, _, ha, fun j u hj => ?_⟩
    have hj' : j < ys.length := by have := (List.getElem?_eq_some_iff.1 hj).1; simpa using this
    rw [Addr.add_lit, hc j hj']
    rw [List.getElem?_map, List.getElem?_eq_getElem hj'] at hj
    simpa [U, hj'] using hj
  · intro u hu
    obtain ⟨_, _, rfl⟩ := List.mem_map.1 hu
    rfl
  · intro w2 HG hb2
    rw [e]
    refine h w2 ?_ hb2
    have := HG.out
    rw [splice_whole _ _ (by simp [hz])] at this
    exact this
end Go.Proofs.YtelcjcgalkcadaaDoor
