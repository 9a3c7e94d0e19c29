/- The words for memory: a slice of 32-bit words that reads as a list of numbers; a row of such words that the call has made itself; make, append and copy on them. -/
import Derived.Test.YtoflndeonegkpaaDoorChecked
import Derived.Test.YtoflndeonegkpaaDoorNum
import Derived.WalkKit
import Derived.WalkLawsBesides
import Derived.WalkSpells
import Derived.Lib.Hide
import Derived.Deep.Draws
import Derived.Laws.CopyOwn
import Derived.Deep.QuietTactic
import Derived.BigQuiet
namespace Go.Proofs.YtoflndeonegkpaaDoor
open Go.RowKit

/-- The slice value v reads, in the world w, as the limbs xs. -/
def NatAt (w : World) (v : Value) (xs : List Nat) : Prop :=
  ∃ A c, v = .slice A xs.length c ∧ xs.length ≤ c ∧ xs.length ≤ 9223372036854775807 ∧ Lim xs ∧
    (0 < xs.length → ∃ b o, A = some ⟨b, o, none⟩ ∧ b < w.heap.size ∧ ∀ j, j < xs.length → w.cell? ⟨b, o + j, none⟩ = some (.int .u32 (xs.getD j 0 : Nat)))

theorem NatAt.keep {w w' : World} {v : Value} {xs : List Nat} (h : NatAt w v xs) (hz : w.heap.size ≤ w'.heap.size)
    (hk : ∀ p : Addr, p.block < w.heap.size → w'.cell? p = w.cell? p) : NatAt w' v xs := by
  obtain ⟨A, c, hv, h1, h2, h3, h4⟩ := h
  refine ⟨A, c, hv, h1, h2, h3, fun hn => ?_⟩
  obtain ⟨b, o, ha, hb, hc⟩ := h4 hn
  exact ⟨b, o, ha, by omega, fun j hj => (hk ⟨b, o + j, none⟩ hb).trans (hc j hj)⟩
theorem NatAt.below {w w' : World} {v : Value} {xs : List Nat} (h : NatAt w v xs) (hb : Below w.heap.size w w') : NatAt w' v xs :=
  h.keep hb.size fun _ hp => hb.cell hp
theorem NatAt.drewN {w : World} {v : Value} {xs : List Nat} (h : NatAt w v xs) (k : Nat) : NatAt (w.drewN k) v xs := h
theorem NatAt.alloc {w : World} {v : Value} {xs : List Nat} (h : NatAt w v xs) (o : Obj) : NatAt (w.alloc o) v xs :=
  h.keep (by simp) fun p hp => World.cell?_alloc_lt w o p hp
theorem NatAt.lim {w : World} {v : Value} {xs : List Nat} (h : NatAt w v xs) : Lim xs := by
  obtain ⟨_, _, _, _, _, h3, _⟩ := h; exact h3
theorem NatAt.len {w : World} {v : Value} {xs : List Nat} (h : NatAt w v xs) : xs.length ≤ 9223372036854775807 := by
  obtain ⟨_, _, _, h1, h2, _, _⟩ := h; omega
theorem NatAt.nil (w : World) : NatAt w (.slice none 0 0) [] := ⟨none, 0, rfl, by simp, by simp, lim_nil, fun h => by simp at h⟩
theorem below_drewN {B : Nat} {a w : World} (h : Below B a w) (n : Nat) : Below B a (w.drewN n) := ⟨h.os, h.tape, h.output, h.size, h.block⟩
/-- From world to world: the frames of two calls in a row. -/
theorem below_next {a b c : World} (h : Below a.heap.size a b) (k : Below b.heap.size b c) : Below a.heap.size a c := h.trans (k.mono h.size)
theorem below_drew0 (w : World) (n : Nat) : Below w.heap.size w (w.drewN n) := below_drewN (Below.refl _ _) n
theorem below_alloc0 (w : World) (o : Obj) : Below w.heap.size w (w.alloc o) := (Below.refl _ _).alloc (Nat.le_refl _) o

theorem below_two (w : World) (a b : Obj) : Below w.heap.size w ((w.alloc a).alloc b) := below_next (below_alloc0 w a) (below_alloc0 _ b)
/-- A function's result: it returns a slice that reads as xs, and nothing that was there has turned. -/
def GivesNat (w : World) (xs : List Nat) (e : Ending) (w' : World) : Prop :=
  ∃ v, e = .returned v ∧ NatAt w' v xs ∧ Below w.heap.size w w'
/-- The same where the world is as it was. -/
def SameNat (w : World) (xs : List Nat) (e : Ending) (w' : World) : Prop := ∃ v, e = .returned v ∧ w = w' ∧ NatAt w v xs

/-! ### Rows of the call's own -/
def U (x : Nat) : Value := .int .u32 (x : Int)
/-- Block g is a row of 32-bit words, known whole. -/
def Own (w : World) (g : Nat) (xs : List Nat) : Prop := w.heap[g]? = some (.cells (xs.map U).toArray 40 (0, 0))
section
variable {w w' : World} {g : Nat} {xs : List Nat}
theorem Own.lt (h : Own w g xs) : g < w.heap.size := by
  rcases Nat.lt_or_ge g w.heap.size with hlt | hge
  · exact hlt
  · unfold Own at h; rw [Array.getElem?_eq_none hge] at h; cases h
theorem Own.cell (h : Own w g xs) {j : Nat} (hj : j < xs.length) : w.cell? ⟨g, j, none⟩ = some (.int .u32 (xs.getD j 0 : Nat)) := by
  rw [cell_of_row w g j _ _ _ h]
  simp [hj, U]
theorem Own.frozen (h : Own w g xs) (i : Nat) : w.frozen? ⟨g, i, none⟩ = false := by
  unfold Own at h
  simp [World.frozen?, h]
theorem Own.below {B : Nat} (h : Own w g xs) (hb : Below B w w') (hg : g < B) : Own w' g xs := (hb.block g hg).trans h
theorem Own.next (h : Own w g xs) (hb : Below w.heap.size w w') : Own w' g xs := h.below hb h.lt
theorem Own.drewN (h : Own w g xs) (n : Nat) : Own (w.drewN n) g xs := h
theorem Own.alloc (h : Own w g xs) (o : Obj) : Own (w.alloc o) g xs := (Below.heap_alloc w o g h.lt).trans h
theorem Own.set (h : Own w g xs) (i x : Nat) : Own (w.setCell ⟨g, i, none⟩ (.int .u32 (x : Int))) g (xs.set i x) := by
  unfold Own at h ⊢
  simp only [World.setCell, Array.getElem?_modify, h]
  simp only [if_true, Option.map_some, List.map_set]
  simp [U]
theorem Own.far (h : Own w g xs) {p : Addr} (hp : g ≠ p.block) (u : Value) : Own (w.setCell p u) g xs := (Below.heap_setCell w p u g hp).trans h
/-- A part of the row, as a slice. -/
theorem Own.part (h : Own w g xs) (hl : Lim xs) {o n c : Nat} (hn : o + n ≤ xs.length) (hc : n ≤ c) (hm : n ≤ 9223372036854775807) : NatAt w (.slice (some ⟨g, o, none⟩) n c) ((xs.drop o).take n) := by
  have e : ((xs.drop o).take n).length = n := by rw [List.length_take, List.length_drop]; omega
  refine ⟨_, c, by rw [e], by omega, by omega, (hl.drop o).take n, fun _ => ⟨g, o, rfl, h.lt, fun j hj => ?_⟩⟩
  rw [h.cell (by omega)]
  congr 3
  rw [List.getD_eq_getElem?_getD, List.getD_eq_getElem?_getD, List.getElem?_take_of_lt (by omega), List.getElem?_drop]
theorem Own.natAt (h : Own w g xs) (hl : Lim xs) {c : Nat} (hc : xs.length ≤ c) (hm : xs.length ≤ 9223372036854775807) : NatAt w (.slice (some ⟨g, 0, none⟩) xs.length c) xs := by
  have := h.part hl (o := 0) (n := xs.length) (by omega) hc hm
  rwa [List.drop_zero, List.take_of_length_le (Nat.le_refl _)] at this
end

/-- The slice value v reads as xs and lies at the head of a row of the call's own. -/
def OwnNat (w : World) (v : Value) (xs : List Nat) : Prop :=
  ∃ g zs c, v = .slice (some ⟨g, 0, none⟩) xs.length c ∧ xs.length ≤ c ∧ xs.length ≤ 9223372036854775807 ∧ Own w g zs ∧ Lim zs ∧ xs.length ≤ zs.length ∧ zs.take xs.length = xs
theorem OwnNat.natAt {w : World} {v : Value} {xs : List Nat} (h : OwnNat w v xs) : NatAt w v xs := by
  obtain ⟨g, zs, c, rfl, h1, h2, h3, h4, h5, h6⟩ := h
  have := h3.part h4 (o := 0) (n := xs.length) (c := c) (by omega) h1 h2
  rwa [List.drop_zero, h6] at this
theorem OwnNat.keep {w w' : World} {v : Value} {xs : List Nat} (h : OwnNat w v xs) (hk : ∀ g zs, Own w g zs → Own w' g zs) : OwnNat w' v xs := by
  obtain ⟨g, zs, c, hv, h1, h2, h3, h4⟩ := h
  exact ⟨g, zs, c, hv, h1, h2, hk g zs h3, h4⟩
theorem Tryd.infoU : (Tryd.prog.info? 40).map (fun i => (i.zero, i.size, i.bytes)) = some (some (.int .u32 0), 1, 4) := by kernel_rfl
theorem Tryd.sizeU : (Tryd.prog.info? 40).map (·.size) = some 1 := by kernel_rfl
theorem Tryd.undN : Tryd.prog.underlying 23 = some (.slice 40) := by kernel_rfl
theorem made_any (z : Array Value) (v : Value) (hz : z = #[v]) (n : Nat) : madeCells z (n * 1) = Array.replicate n v := by
  subst hz
  unfold madeCells
  apply Array.ext
  · simp
  · intro i h1 h2
    simp [Nat.mod_one]
theorem made_zero (n : Nat) : madeCells (Value.int .u32 0).cells (n * 1) = ((List.replicate n 0).map U).toArray := by
  refine (made_any _ (U 0) rfl n).trans ?_
  simp
/-- make([]uint32, n, c). -/
theorem wpList_make {w : World} {ops : Array Oper} {rest : List Oper} {o : Oper} {a : Act} {Q : Exit → Act → World → Prop}
    (hg : o.guard = none) (t : TypeId) (ht : Tryd.prog.underlying t = some (.slice 40)) (l c : Operand) (hop : o.op = Op.makeSlice t l c)
    (kl kc : IntKind) (L C : Int) (n m : Nat) (hl : a.eval l = .int kl L) (hc : a.eval c = .int kc C) (hL : L = (n : Int)) (hC : C = (m : Int)) (hnm : n ≤ m) (hb : m ≤ 1099511627776)
    (hK : ∀ w', Hid (Own w' w.heap.size (List.replicate m 0)) → Below w.heap.size w w' → w'.heap.size = w.heap.size + 1 → wpList Tryd.prog ops Q rest (a.put o.dst (.slice (some ⟨w.heap.size, 0, none⟩) n m)) w') :
    wpList Tryd.prog ops Q (o :: rest) a w := by
  refine wpList_plain hg fun K hK' => ?_
  obtain ⟨i, h2, h3, h4, h5⟩ := info_parts Tryd.infoU
  subst hL hC
  have hr := run_make (P := Tryd.prog) w t _ i _ ht h2 h3 kl kc n m (by omega) (by omega) (by rw [h5]; omega) (by omega)
  simp only [Int.toNat_natCast, h4, made_zero] at hr
  unfold Oper.wp
  simp only [execOp, hop, hl, hc, hr, Result.andThen, Sem.run_bind, Sem.run_pure]
  exact hK' _ _ (hK _ (heap_alloc_new w _) (below_alloc0 w _) (by simp))

/-- The slice value v, of the call's own making (blocks from base on), owns the limbs xs. -/
def Row (w : World) (base : Nat) (v : Value) (xs : List Nat) : Prop := w.ownsRow base 40 1 v xs.length (xs.map U)
theorem Row.nil (w : World) (base : Nat) : Row w base (.slice none 0 0) [] := World.ownsRow_nil ..
theorem Row.alloc {w : World} {base : Nat} {v : Value} {xs : List Nat} (h : Row w base v xs) (o : Obj) : Row (w.alloc o) base v xs := World.ownsRow.alloc h o
theorem Row.natAt {w : World} {base : Nat} {v : Value} {xs : List Nat} (h : Row w base v xs) (hl : Lim xs) : NatAt w v xs := by
  obtain ⟨_, h2⟩ := h
  rcases h2 with ⟨rfl, h0⟩ | ⟨g, cap, cur, rfl, _, hh, hn, hm, hs, ht⟩
  · have e : xs = [] := List.eq_nil_of_length_eq_zero h0
    subst e
    exact NatAt.nil w
  · refine ⟨_, cap, rfl, hn, by unfold maxLen at hm; omega, hl, fun _ => ⟨g, 0, rfl, ?_, fun j hj => ?_⟩⟩
    · rcases Nat.lt_or_ge g w.heap.size with hlt | hge
      · exact hlt
      · rw [Array.getElem?_eq_none hge] at hh; cases hh
    · rw [Nat.zero_add, cell_of_row w g j _ _ _ hh]
      rw [Nat.mul_one] at ht
      have h3 : (cur.toList.take xs.length)[j]? = (xs.map U)[j]? := by rw [ht]
      rw [List.getElem?_take_of_lt hj, List.getElem?_map, List.getElem?_eq_getElem hj] at h3
      rw [← Array.getElem?_toList, h3]
      simp [U, hj]
/-- A made row, cut to length 0, takes what is appended. -/
theorem Row.made {w : World} {base g m : Nat} (h : Own w g (List.replicate m 0)) (hb : base ≤ g) (hm : m ≤ 9223372036854775807) : Row w base (.slice (some ⟨g, 0, none⟩) 0 m) [] := by
  refine ⟨rfl, .inr ⟨g, m, _, rfl, hb, h, Nat.zero_le _, by unfold maxLen; omega, by simp, by simp⟩⟩
theorem Row.below {w w' : World} {base : Nat} {v : Value} {xs : List Nat} (h : Row w base v xs) (hb : Below w.heap.size w w') : Row w' base v xs := by
  obtain ⟨h1, h2⟩ := h
  refine ⟨h1, ?_⟩
  rcases h2 with h2 | ⟨g, cap, cur, hv, hg, hh, r⟩
  · exact .inl h2
  · refine .inr ⟨g, cap, cur, hv, hg, ?_, r⟩
    rw [hb.block g ?_]; exact hh
    rcases Nat.lt_or_ge g w.heap.size with hlt | hge
    · exact hlt
    · rw [Array.getElem?_eq_none hge] at hh; cases hh

theorem cell_new1 (w : World) (v : Value) (t : TypeId) : (w.alloc (.cells #[v] t)).cell? ⟨w.heap.size, 0, none⟩ = some v := by
  rw [World.cell?_alloc_at _ _ _ _ rfl]; rfl

/-- append(v, x). -/
theorem wpList_append1 {w : World} {ops : Array Oper} {rest : List Oper} {o : Oper} {a : Act} {Q : Exit → Act → World → Prop} (hgd : o.guard = none) (s x : Operand) (t : TypeId)
    (ht : Tryd.prog.underlying t = some (.slice 40)) (ho : o.op = .call { callee := .builtin .append, args := #[s, x], argTypes := #[t, t] })
    (base : Nat) (v : Value) (xs : List Nat) (hs : a.eval s = v) (hown : Row w base v xs) (ad : Nat) (X : Int) (n : Nat) (hx : a.eval x = .slice (some ⟨ad, 0, none⟩) 1 1) (hX : X = (n : Int))
    (hc : w.cell? ⟨ad, 0, none⟩ = some (.int .u32 X)) (hlen : xs.length ≤ 1099511627776) (hbase : base ≤ w.heap.size)
    (h : ∀ v' w', Hid (Row w' base v' (xs ++ [n])) → Below base w w' → wpList Tryd.prog ops Q rest (a.put o.dst v') w') : wpList Tryd.prog ops Q (o :: rest) a w := by
  obtain ⟨i, h2, h3, h4, h5⟩ := info_parts Tryd.infoU
  refine wpList_append_own (P := Tryd.prog) w hgd s x t ho base _ i _ 1 4 ht h2 h3 h4 h5 rfl (by omega) v xs.length (xs.map U) hs hown ⟨ad, 0, none⟩ 1 1 [U n] hx rfl ?_ ?_ (by unfold maxLen; omega) (by omega) hbase ?_
  · intro j u hj
    match j, hj with
    | 0, hj =>
      simp at hj; subst hj
      show w.cell? ⟨ad, 0, none⟩ = _
      rw [hc, hX]; rfl
  · intro u hu; simp at hu; subst hu; rfl
  · intro v' w' hr hg _
    refine h v' w' ?_ ?_
    · show Row _ _ _ _
      unfold Row
      rw [List.length_append, List.map_append]; exact hr
    · exact (Below.refl _ _).grown hg hbase (fun k hk => (World.ownsRow.lt hown k hk).1)

theorem splice_whole {α : Type} (L cs : List α) (h : L.length = cs.length) : splice L 0 cs = cs := by
  unfold splice
  rw [List.take_zero, Nat.zero_add, ← h, List.drop_length]; simp
/-- copy(r, v), r a row of the call's own that is as long as v. -/
theorem wpList_copyN {w : World} {ops : Array Oper} {rest : List Oper} {o : Oper} {a : Act} {Q : Exit → Act → World → Prop} (hgd : o.guard = none) (d s : Operand) (t : TypeId)
    (ht : Tryd.prog.underlying t = some (.slice 40)) (ho : o.op = .call { callee := .builtin .copy, args := #[d, s], argTypes := #[t, t] })
    (g n m : Nat) (v : Value) (zs ys : List Nat) (hd : a.eval d = .slice (some ⟨g, 0, none⟩) n m) (hs : a.eval s = v) (hv : NatAt w v ys) (hn : n = ys.length) (hO : Own w g zs) (hz : zs.length = ys.length)
    (B : Nat) (w0 : World) (hb : Below B w0 w) (hBg : B ≤ g)
    (h : ∀ w', Hid (Own w' g ys) → Below B w0 w' → wpList Tryd.prog ops Q rest (a.put o.dst (goInt ys.length)) w') : wpList Tryd.prog ops Q (o :: rest) a w := by
  obtain ⟨A, c, rfl, g1, g2, g3, g4⟩ := hv
  subst hn
  have e : (ys.map U).length = ys.length := by simp
  refine wpList_copy_splice hgd d s _ _ ho _ ht Tryd.sizeU _ _ _ _ _ _ hd hs g 0 (zs.map U) _ hO (ys.map U) (by rw [e]; exact (Nat.min_self _).symm) ?_ (by simp [hz]) ?_ B w0 hb hBg ?_
  · intro hp
    obtain ⟨b, o, ha, hb, hc⟩ := g4 (by simpa using hp)
    refine ⟨rfl, _, ha, fun j u hj => ?_⟩
    have hj' : j < ys.length := by have := (List.getElem?_eq_some_iff.1 hj).1; simpa using this
    rw [Addr.add_lit, hc j hj']
    rw [List.getElem?_map, List.getElem?_eq_getElem hj'] at hj
    simpa [U, hj'] using hj
  · intro u hu
    obtain ⟨_, _, rfl⟩ := List.mem_map.1 hu
    rfl
  · intro w2 HG hb2
    rw [e]
    refine h w2 ?_ hb2
    have := HG.out
    rw [splice_whole _ _ (by simp [hz])] at this
    exact this
end Go.Proofs.YtoflndeonegkpaaDoor

/- natural.trim: what is left of a slice without its high zero limbs. -/
namespace Go.Proofs.YtoflndeonegkpaaDoor
open Go.RowKit

theorem trimL_snoc_zero (xs : List Nat) : trimL (xs ++ [0]) = trimL xs := by
  induction xs with
  | nil => rfl
  | cons x xs ih => simp only [List.cons_append, trimL, ih]
theorem trimL_snoc (xs : List Nat) {x : Nat} (h : x ≠ 0) : trimL (xs ++ [x]) = xs ++ [x] := by
  induction xs with
  | nil => simp [trimL, h]
  | cons y ys ih => simp only [List.cons_append, trimL, ih]; simp
theorem trimL_take_zero {xs : List Nat} {k : Nat} (hk : k < xs.length) (h0 : xs.getD k 0 = 0) : trimL (xs.take (k + 1)) = trimL (xs.take k) := by
  rw [List.take_succ_eq_append_getElem hk]
  rw [List.getD_eq_getElem?_getD, List.getElem?_eq_getElem hk, Option.getD_some] at h0
  rw [h0, trimL_snoc_zero]
theorem trimL_take_pos {xs : List Nat} {k : Nat} (hk : k < xs.length) (h0 : xs.getD k 0 ≠ 0) : trimL (xs.take (k + 1)) = xs.take (k + 1) := by
  rw [List.take_succ_eq_append_getElem hk]
  rw [List.getD_eq_getElem?_getD, List.getElem?_eq_getElem hk, Option.getD_some] at h0
  rw [trimL_snoc _ h0]

theorem getD_take {xs : List Nat} {k j : Nat} (h : j < k) : (xs.take k).getD j 0 = xs.getD j 0 := by
  rw [List.getD_eq_getElem?_getD, List.getD_eq_getElem?_getD, List.getElem?_take_of_lt h]
/-- A slice up to k reads as the first k limbs. -/
theorem NatAt.pre {w : World} {A : Option Addr} {n c k : Nat} {xs : List Nat} (h : NatAt w (.slice A n c) xs) (hk : k ≤ n) : NatAt w (.slice A k c) (xs.take k) := by
  obtain ⟨A', c', hv, h1, h2, h3, h4⟩ := h
  injection hv with e1 e2 e3
  subst e1 e2 e3
  have hl : (xs.take k).length = k := by rw [List.length_take]; omega
  refine ⟨A, c, by rw [hl], by omega, by omega, h3.take k, fun hn => ?_⟩
  obtain ⟨b, o, ha, hb, hc⟩ := h4 (by omega)
  exact ⟨b, o, ha, hb, fun j hj => by rw [getD_take (by omega)]; exact hc j (by omega)⟩


set_option maxHeartbeats 400000 in
theorem trim_form (A : Option Addr) (c : Nat) (xs : List Nat) (w : World) (h : NatAt w (.slice A xs.length c) xs) : Calls Tryd.prog 58 #[.slice A xs.length c] w fun e w' => e = .returned (.slice A (limbs (val xs)).length c) ∧ w = w' := by
  obtain ⟨A', c', hv, h1, h2, h3, h4⟩ := h
  injection hv with e1 e2 e3
  subst e1 e3
  clear e2
  have H4 := Lib.hid h4
  have H3 := Lib.hid h3
  have h2' : xs.length ≤ 9223372036854775807 := by omega
  clear h4 h3
  go_enter Tryd.func58, Tryd.ntmps58
  go_wp2
  go_loop [3] (fun s => ∃ k : Nat, k ≤ xs.length ∧ s = .int .i64 k ∧ trimL (xs.take k) = trimL xs) (fun s => (intOf s).toNat)
  case atStart => exact ⟨xs.length, Nat.le_refl _, rfl, by rw [List.take_of_length_le (Nat.le_refl _)]⟩
  case round =>
    obtain ⟨k, hk, rfl, ht⟩ := hrel
    have HT := Lib.hid ht
    clear ht
    rcases Nat.eq_zero_or_pos k with hk0 | hk0
    · subst hk0
      go_wp2
      go_ret
      refine ⟨?_, rfl⟩
      rw [← trimL_eq H3.out, ← HT.out]
      rfl
    · obtain ⟨m, rfl⟩ : ∃ m, k = m + 1 := ⟨k - 1, by omega⟩
      obtain ⟨b, o, rfl, hb, hc⟩ := H4.out (by omega)
      have hcm := hc m (by omega)
      clear hc
      have hlt : m < xs.length := by omega
      obtain ⟨x, hx⟩ : ∃ x : Nat, x = xs.getD m 0 := ⟨_, rfl⟩
      rw [← hx] at hcm
      have HX := Lib.hid hx
      clear hx
      go_wp2
      · have hx0 : x = 0 := by simpa using (by assumption : ((x : Int) == 0) = true)
        go_round
        case rel => exact ⟨m, by omega, by go_num, by rw [← HT.out, trimL_take_zero hlt (by rw [← HX.out, hx0])]⟩
        case measure => simp [intOf]
      · have hx0 : x ≠ 0 := by simpa using (by assumption : ((x : Int) == 0) = false)
        go_ret
        refine ⟨?_, rfl⟩
        rw [← trimL_eq H3.out, ← HT.out, trimL_take_pos hlt (by rw [← HX.out]; exact hx0), List.length_take, Nat.min_eq_left hk]
        rfl
theorem trimL_take (xs : List Nat) : trimL xs = xs.take (trimL xs).length := by
  induction xs with
  | nil => rfl
  | cons x xs ih =>
    unfold trimL
    by_cases h1 : trimL xs = []
    · rw [if_pos h1]
      by_cases h2 : x = 0
      · rw [if_pos h2]; rfl
      · rw [if_neg h2]; simp
    · rw [if_neg h1, List.length_cons, List.take_succ_cons, ← ih]
theorem trim_any (v : Value) (xs : List Nat) (w : World) (h : NatAt w v xs) : Calls Tryd.prog 58 #[v] w (SameNat w (limbs (val xs))) := by
  have hl := h.lim
  have hle := limbs_val_length hl
  obtain ⟨A, c, rfl, h1, h2, h3, h4⟩ := id h
  refine (trim_form A c xs w h).mono fun e w' ⟨he, hw⟩ => ⟨_, he, hw, ?_⟩
  have h5 := h.pre hle
  have h6 := trimL_take xs
  rw [trimL_eq hl] at h6
  rw [← h6] at h5
  exact h5
end Go.Proofs.YtoflndeonegkpaaDoor

/- natural.Of, Norm, Cmp and cmp.Compare at uint32 and int. -/
namespace Go.Proofs.YtoflndeonegkpaaDoor
open Go.RowKit

/-- -1, 0 or 1. -/
def ord (a b : Nat) : Int := if a < b then -1 else if b < a then 1 else 0
theorem ord_lt {a b : Nat} (h : a < b) : ord a b = -1 := if_pos h
theorem ord_gt {a b : Nat} (h : b < a) : ord a b = 1 := by unfold ord; rw [if_neg (by omega), if_pos h]
theorem ord_eq {a b : Nat} (h : a = b) : ord a b = 0 := by unfold ord; rw [if_neg (by omega), if_neg (by omega)]

theorem limbs_length_mono {a b : Nat} (h : b ≤ a) : (limbs b).length ≤ (limbs a).length := by
  induction a using Nat.strongRecOn generalizing b with
  | ind a ih =>
    by_cases hb : b = 0
    · subst hb; simp [limbs_zero]
    · rw [limbs_pos hb, limbs_pos (by omega : a ≠ 0), List.length_cons, List.length_cons]
      have := ih (a / 4294967296) (by omega) (b := b / 4294967296) (by omega)
      omega
theorem lt_of_length {a b : Nat} (h : (limbs a).length < (limbs b).length) : a < b := by
  rcases Nat.lt_or_ge a b with h1 | h1
  · exact h1
  · have := limbs_length_mono h1; omega
theorem lt_of_limb {xs ys : List Nat} {k : Nat} (hx : Lim xs) (hl : xs.length = ys.length) (hk : k < xs.length) (hd : xs.drop (k + 1) = ys.drop (k + 1)) (h : xs.getD k 0 < ys.getD k 0) : val xs < val ys := by
  rw [val_take_drop xs (k + 1) (by omega), val_take_drop ys (k + 1) (by omega), hd, val_take_next, val_take_next]
  have h1 := val_lt (hx.take k)
  rw [List.length_take, Nat.min_eq_left (by omega)] at h1
  have h2 : 4294967296 ^ k * (xs.getD k 0 + 1) ≤ 4294967296 ^ k * ys.getD k 0 := Nat.mul_le_mul_left _ h
  rw [Nat.mul_add] at h2
  omega
theorem drop_step {xs ys : List Nat} {k : Nat} (hl : xs.length = ys.length) (hk : k < xs.length) (hd : xs.drop (k + 1) = ys.drop (k + 1)) (h : xs.getD k 0 = ys.getD k 0) : xs.drop k = ys.drop k := by
  rw [List.drop_eq_getElem_cons hk, List.drop_eq_getElem_cons (by omega : k < ys.length), hd]
  rw [List.getD_eq_getElem?_getD, List.getD_eq_getElem?_getD, List.getElem?_eq_getElem hk, List.getElem?_eq_getElem (by omega : k < ys.length), Option.getD_some, Option.getD_some] at h
  rw [h]

/-- A function's result: the value v; the world is as it was but for draws. -/
def Says (w : World) (v : Value) (e : Ending) (w' : World) : Prop := e = .returned v ∧ ∃ m, w' = w.drewN m
theorem Says.quiet {P : Program} {f : FuncId} {args : Array Value} {w : World} {n : Nat} {v : Value} (h : Calls P f args (w.drewN n) (Says (w.drewN n) v)) :
    Calls P f args (w.drewN n) fun e w'' => e = .returned v ∧ ∃ m, w'' = w.drewN m := Calls.quiet_of h
/-- The same behind a quiet region. -/
theorem Says.quiet2 {P : Program} {f : FuncId} {args : Array Value} {w : World} {a n : Nat} {v : Value} (h : Calls P f args (w.drewN (a + n)) (Says (w.drewN (a + n)) v)) :
    Calls P f args (w.drewN (a + n)) fun e w'' => e = .returned v ∧ ∃ m, w'' = w.drewN (a + m) :=
  h.mono fun _ _ ⟨he, m, hm⟩ => ⟨he, n + m, by rw [hm, World.drewN_drewN, Nat.add_assoc]⟩

theorem two_limbs (n : Nat) : val [n % 4294967296, n / 4294967296] = n := by simp only [val]; omega

set_option maxHeartbeats 400000 in
theorem of_any (n : Nat) (w : World) (hn : n < 18446744073709551616) : Calls Tryd.prog 47 #[.int .u64 n] w (GivesNat w (limbs n)) := by
  go_enter Tryd.func47, Tryd.ntmps47
  go_wp2_with fail
  have hN : NatAt (w.alloc (.cells #[.int .u32 ((n : Int) % 4294967296), .int .u32 ((n : Int) / 4294967296)] 40)) (.slice (some ⟨w.heap.size, 0, none⟩) 2 2) [n % 4294967296, n / 4294967296] := by
    have ho : Own (w.alloc (.cells #[.int .u32 ((n : Int) % 4294967296), .int .u32 ((n : Int) / 4294967296)] 40)) w.heap.size [n % 4294967296, n / 4294967296] := heap_alloc_new w _
    exact ho.natAt (Lim.cons (by omega) (Lim.cons (by omega) lim_nil)) (by simp) (by simp)
  refine (trim_any _ _ _ hN).mono ?_
  rintro e w' ⟨v, rfl, rfl, h1⟩
  rw [two_limbs n] at h1
  go_wp2
  go_ret
  exact ⟨v, rfl, h1, below_alloc0 w _⟩

set_option maxHeartbeats 400000 in
theorem norm_any (v : Value) (xs : List Nat) (w : World) (h : NatAt w v xs) (hl : xs.length ≤ 1000000) : Calls Tryd.prog 59 #[v] w (GivesNat w (limbs (val xs))) := by
  have H := Lib.hid h
  have hll := limbs_val_length h.lim
  clear h
  go_enter Tryd.func59, Tryd.ntmps59
  go_wp2_with fail
  refine (trim_any _ _ _ H.out).mono ?_
  rintro e w' ⟨v1, rfl, rfl, h1⟩
  obtain ⟨ys, hys⟩ : ∃ ys, ys = limbs (val xs) := ⟨_, rfl⟩
  rw [← hys] at h1 hll
  have HY := Lib.hid hys
  clear hys
  have H1 := Lib.hid h1
  obtain ⟨A, c, rfl, g1, g2, g3, g4⟩ := h1
  clear g3 g4
  go_wp2_with (first
    | (at_make; refine wpList_make rfl _ Tryd.undN _ _ rfl _ _ _ _ ys.length ys.length rfl rfl rfl rfl (Nat.le_refl _) (by omega) ?_; intro w1 HO hb1 hz1; have HZ := Lib.hid hz1; clear hz1)
    | (refine wpList_copyN (o := ⟨some 11, _, _, _, _, _⟩) rfl (.tmp 9) (.tmp 10) _ Tryd.undN rfl w.heap.size _ _ _ _ ys rfl rfl (H1.out.below hb1) rfl HO.out (by rw [List.length_replicate]) w.heap.size w hb1 (Nat.le_refl _) ?_; intro w2 HG hb2))
  go_ret
  rw [← HY.out]
  exact ⟨_, rfl, HG.out.natAt H1.out.lim (Nat.le_refl _) (by omega), hb2⟩

set_option maxHeartbeats 400000 in
theorem compareU_any (a b : Nat) (w : World) : Calls Tryd.prog 67 #[.int .u32 a, .int .u32 b] w (Says w (.int .i64 (ord a b))) := by
  go_enter Tryd.func67, Tryd.ntmps67
  go_wp2
  · rename_i h
    go_ret
    rw [ord_lt h]; exact ⟨rfl, 0, rfl⟩
  · rename_i h
    go_ret
    rw [ord_gt h]; exact ⟨rfl, 0, rfl⟩
  · rename_i h1 h2
    go_ret
    rw [ord_eq (by omega)]; exact ⟨rfl, 0, rfl⟩
set_option maxHeartbeats 400000 in
theorem compareI_any (a b : Nat) (w : World) : Calls Tryd.prog 66 #[.int .i64 a, .int .i64 b] w (Says w (.int .i64 (ord a b))) := by
  go_enter Tryd.func66, Tryd.ntmps66
  go_wp2
  · rename_i h
    go_ret
    rw [ord_lt h]; exact ⟨rfl, 0, rfl⟩
  · rename_i h
    go_ret
    rw [ord_gt h]; exact ⟨rfl, 0, rfl⟩
  · rename_i h1 h2
    go_ret
    rw [ord_eq (by omega)]; exact ⟨rfl, 0, rfl⟩
end Go.Proofs.YtoflndeonegkpaaDoor

/- natural.Cmp. -/
namespace Go.Proofs.YtoflndeonegkpaaDoor
open Go.RowKit

/-- Limbs at an index, for the walk. -/
theorem NatAt.at_ {w : World} {A : Option Addr} {n c : Nat} {xs : List Nat} (h : NatAt w (.slice A n c) xs) (h0 : 0 < xs.length) :
    ∃ b o, A = some ⟨b, o, none⟩ ∧ b < w.heap.size ∧ ∀ j, j < xs.length → w.cell? ⟨b, o + j, none⟩ = some (.int .u32 (xs.getD j 0 : Nat)) := by
  obtain ⟨A', c', hv, h1, h2, h3, h4⟩ := h
  injection hv with e1 e2 e3
  subst e1
  exact h4 h0
theorem NatAt.form {w : World} {v : Value} {xs : List Nat} (h : NatAt w v xs) : ∃ A c, v = .slice A xs.length c ∧ xs.length ≤ c ∧ xs.length ≤ 9223372036854775807 := by
  obtain ⟨A', c', hv, h1, h2, h3, h4⟩ := h
  exact ⟨A', c', hv, h1, h2⟩

set_option maxHeartbeats 1000000 in
theorem cmp_any (va vb : Value) (xs ys : List Nat) (w : World) (ha : NatAt w va xs) (hb : NatAt w vb ys) : Calls Tryd.prog 46 #[va, vb] w (Says w (.int .i64 (ord (val xs) (val ys)))) := by
  have HA := Lib.hid ha
  have HB := Lib.hid hb
  clear ha hb
  go_enter Tryd.func46, Tryd.ntmps46
  go_wp2_with fail
  refine (trim_any _ _ _ HA.out).mono ?_
  rintro e w' ⟨v1, rfl, rfl, h1⟩
  have H1 := Lib.hid h1
  clear h1
  go_wp2_with fail
  refine (trim_any _ _ _ HB.out).mono ?_
  rintro e w' ⟨v2, rfl, rfl, h2⟩
  have h1 := H1.out
  have e1 : val (limbs (val xs)) = val xs := val_limbs _
  have e2 : val (limbs (val ys)) = val ys := val_limbs _
  have hlt := @lt_of_length (val xs) (val ys)
  have hgt := @lt_of_length (val ys) (val xs)
  generalize limbs (val xs) = us at *
  generalize limbs (val ys) = vs at *
  rw [← e1, ← e2] at hlt hgt
  have E1 := Lib.hid e1
  have E2 := Lib.hid e2
  have HL := Lib.hid hlt
  have HG := Lib.hid hgt
  have Hu := Lib.hid h1
  have Hv := Lib.hid h2
  clear H1 HA HB e1 e2 hlt hgt
  obtain ⟨A, c, rfl, g1, g2⟩ := h1.form
  obtain ⟨A2, c2, rfl, k1, k2⟩ := h2.form
  clear h1 h2
  go_wp2_with fail
  refine (compareI_any _ _ _).mono ?_
  rintro e w' ⟨rfl, n0, rfl⟩
  rcases Nat.lt_trichotomy us.length vs.length with hl | hl | hl
  · rw [ord_lt hl]
    go_wp2
    go_ret
    rw [← E1.out, ← E2.out, ord_lt (HL.out hl)]
    exact ⟨rfl, n0, rfl⟩
  · rw [ord_eq hl]
    have HE := Lib.hid hl
    have hll : us.length ≤ vs.length := by omega
    have hll2 : vs.length ≤ us.length := by omega
    clear hl
    go_wp2
    go_loopw [6] (fun s wr => ∃ (k m : Nat), k ≤ us.length ∧ s = .int .i64 ((k : Int) - 1) ∧ wr = w.drewN m ∧ us.drop k = vs.drop k) (fun s _ => (intOf s + 1).toNat)
    case atStart => exact ⟨us.length, n0, Nat.le_refl _, rfl, rfl, by rw [List.drop_length, HE.out, List.drop_length]⟩
    case round =>
      obtain ⟨k, m, hk, rfl, hw, hd⟩ := hrel
      have HD := Lib.hid hd
      clear hd
      have HW := Lib.hid hw
      clear hw
      rcases Nat.eq_zero_or_pos k with hk0 | hk0
      · subst hk0
        go_wp2
        go_ret
        have := HD.out
        rw [List.drop_zero, List.drop_zero] at this
        rw [← E1.out, ← E2.out, this, ord_eq rfl]
        exact ⟨rfl, m, HW.out⟩
      · obtain ⟨j, rfl⟩ : ∃ j, k = j + 1 := ⟨k - 1, by omega⟩
        obtain ⟨b, o, rfl, hb, hc⟩ := Hu.out.at_ (by omega)
        obtain ⟨b2, o2, rfl, hb2, hc2⟩ := Hv.out.at_ (by omega)
        have hcj : wr.cell? ⟨b, o + j, none⟩ = some (.int .u32 (us.getD j 0 : Nat)) := by rw [HW.out]; exact hc j (by omega)
        have hcj2 : wr.cell? ⟨b2, o2 + j, none⟩ = some (.int .u32 (vs.getD j 0 : Nat)) := by rw [HW.out]; exact hc2 j (by omega)
        clear hc hc2
        obtain ⟨x, hx⟩ : ∃ x : Nat, x = us.getD j 0 := ⟨_, rfl⟩
        obtain ⟨y, hy⟩ : ∃ x : Nat, x = vs.getD j 0 := ⟨_, rfl⟩
        rw [← hx] at hcj
        rw [← hy] at hcj2
        have HX := Lib.hid hx
        have HY := Lib.hid hy
        clear hx hy
        rw [show ((j + 1 : Nat) : Int) - 1 = (j : Int) from by omega]
        have hj1 : j < us.length := by omega
        have hj2 : j < vs.length := by omega
        go_wp2
        go_quiet ((go_at_call 67; exact Says.quiet (compareU_any _ _ _)))
        rcases Nat.lt_trichotomy x y with hl | hl | hl
        · rw [ord_lt hl]
          go_wp2
          go_ret
          rw [← E1.out, ← E2.out, ord_lt (lt_of_limb Hu.out.lim HE.out hj1 HD.out (by rw [← HX.out, ← HY.out]; exact hl))]
          exact ⟨rfl, m + nq, by rw [HW.out, World.drewN_drewN]⟩
        · rw [ord_eq hl]
          have hxy : us.getD j 0 = vs.getD j 0 := by rw [← HX.out, ← HY.out]; exact hl
          have HXY := Lib.hid hxy
          clear hl hxy
          go_wp2
          go_roundw
          case rel => exact ⟨j, m + nq, by omega, rfl, by rw [HW.out, World.drewN_drewN], drop_step HE.out hj1 HD.out HXY.out⟩
          case measure => simp [intOf]
        · rw [ord_gt hl]
          go_wp2
          go_ret
          rw [← E1.out, ← E2.out, ord_gt (lt_of_limb Hv.out.lim HE.out.symm hj2 HD.out.symm (by rw [← HX.out, ← HY.out]; exact hl))]
          exact ⟨rfl, m + nq, by rw [HW.out, World.drewN_drewN]⟩
  · rw [ord_gt hl]
    go_wp2
    go_ret
    rw [← E1.out, ← E2.out, ord_gt (HG.out hl)]
    exact ⟨rfl, n0, rfl⟩
end Go.Proofs.YtoflndeonegkpaaDoor
