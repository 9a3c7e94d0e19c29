/- append of a slice onto a row of the call's own; garmentlaw03.scaled. -/
import Derived.Test.YtoflndeonegkpaaDoorQ8
import Derived.Test.YtoflndeonegkpaaDoorRef2
namespace Go.Proofs.YtoflndeonegkpaaDoor
open Go.RowKit

section
variable {P : Program} (w : World)
theorem run_append_empty (base : Nat) (t ty e : TypeId) (i : TypeInfo) (size : Nat) (ht : P.underlying t = some (.slice e)) (hi : P.info? e = some i)
    (v : Value) (n : Nat) (xs : List Value) (hown : w.ownsRow base e size v n xs) (A : Option Addr) (c : Nat) :
    (Builtin.append_ #[t, t] ty #[v, .slice A 0 c]).run P w = .ok v w := by
  rcases hown.2 with ⟨rfl, rfl⟩ | ⟨g, cap, cur, rfl, _, _, hnc, _⟩ <;> cases A <;>
    simp [Builtin.append_, run_underlying ht, sizeOf, typeInfo, Builtin.lenOf, Builtin.firstCells, loadCells, loadCellsFrom, storeCells, *]
end
theorem below_base {B : Nat} {a b c : World} (h : Below B a b) (k : Below B b c) : Below B a c := h.trans k
/-- append(v, y...). -/
theorem wp_appendN {w : World} {o : Oper} {a : Act} {K : Act → World → Prop} {Q : Exit → Act → World → Prop} (s x : Operand) (t : TypeId)
    (ht : Tryd.prog.underlying t = some (.slice 40)) (ho : o.op = .call { callee := .builtin .append, args := #[s, x], argTypes := #[t, t] })
    (base : Nat) (v : Value) (xs : List Nat) (hs : a.eval s = v) (hown : Row w base v xs) (y : Value) (ys : List Nat) (hx : a.eval x = y) (hy : NatAt w y ys) (hlen : xs.length + ys.length ≤ 1099511627776) (hbase : base ≤ w.heap.size)
    (h : ∀ v' w', Hid (Row w' base v' (xs ++ ys)) → Hid (w.grownBy w' v.ownBlock) → Below base w w' → K (a.put o.dst v') w') : o.wp Tryd.prog a w K Q := by
  obtain ⟨i, h2, h3, h4, h5⟩ := info_parts Tryd.infoU
  obtain ⟨A, c, rfl, g1, g2, g3, g4⟩ := hy
  by_cases h0 : 0 < ys.length
  · obtain ⟨b, o', rfl, hb, hc⟩ := g4 h0
    refine wp_append_own (P := Tryd.prog) w s x t ho base _ i _ 1 4 ht h2 h3 h4 h5 rfl (by omega) v xs.length (xs.map U) hs hown ⟨b, o', none⟩ ys.length c (ys.map U) hx (by simp) ?_ ?_ (by unfold maxLen; omega) (by omega) hbase ?_
    · intro j u hj
      have hj' : j < ys.length := by have := (List.getElem?_eq_some_iff.1 hj).1; simpa using this
      rw [Addr.add_lit, hc j hj']
      rw [List.getElem?_map, List.getElem?_eq_getElem hj'] at hj
      simpa [U, hj'] using hj
    · intro u hu
      obtain ⟨_, _, rfl⟩ := List.mem_map.1 hu
      rfl
    · intro v' w' hr hg _
      refine h v' w' ?_ hg ?_
      · show Row _ _ _ _
        unfold Row
        rw [List.length_append, List.map_append]; exact hr
      · exact (Below.refl _ _).grown hg hbase (fun k hk => (World.ownsRow.lt hown k hk).1)
  · obtain rfl : ys = [] := List.eq_nil_of_length_eq_zero (by omega)
    have hr := run_append_empty (P := Tryd.prog) w base t o.type _ i 1 ht h2 v _ _ hown A c
    unfold Oper.wp execOp
    simp only [List.length_nil] at hx
    simp only [ho, resolve, invoke, builtin, Sem.run_bind, Sem.run_pure, Result.andThen_ok, List.map_toArray, List.map_cons, List.map_nil, hs, hx, hr]
    refine h v w ?_ ⟨rfl, rfl, rfl, Nat.le_refl _, fun _ _ _ => rfl⟩ (Below.refl _ _)
    show Row _ _ _ _
    rw [List.append_nil]
    exact hown
theorem Row.natAt_form {w : World} {base : Nat} {v : Value} {xs : List Nat} (h : Row w base v xs) : ∃ A n c, v = .slice A n c := by
  rcases h.2 with ⟨rfl, _⟩ | ⟨g, cap, cur, rfl, _⟩
  · exact ⟨none, 0, 0, rfl⟩
  · exact ⟨_, _, cap, rfl⟩
theorem newRow0 {base : Nat} (w : World) (hb : base ≤ w.heap.size) : ∃ W v, w.alloc (.cells #[] 40) = W ∧ .slice (some ⟨w.heap.size, 0, none⟩) 0 0 = v ∧ Hid (Row W base v []) ∧ Below w.heap.size w W :=
  ⟨_, _, rfl, rfl, World.ownsRow_made w #[] 0 hb (by unfold maxLen; omega) rfl, below_alloc0 w _⟩
theorem val_zeros (xs : List Nat) (k : Nat) : val (xs ++ List.replicate k 0) = val xs := by
  induction xs with
  | nil => induction k with
    | zero => rfl
    | succ k ih => simp only [List.nil_append] at ih ⊢; rw [List.replicate_succ]; simp only [val, ih]
  | cons x xs ih => simp only [List.cons_append, val, ih]
theorem lim_zeros {xs : List Nat} (h : Lim xs) (k : Nat) : Lim (xs ++ List.replicate k 0) := by
  intro x hx
  rcases List.mem_append.1 hx with hx | hx
  · exact h x hx
  · rw [List.eq_of_mem_replicate hx]; omega
theorem wpList_appendQ {w : World} {ops : Array Oper} {rest : List Oper} {o : Oper} {a : Act} {Q : Exit → Act → World → Prop} (hgd : o.guard = none) (s x : Operand) (t : TypeId)
    (ht : Tryd.prog.underlying t = some (.slice 40)) (ho : o.op = .call { callee := .builtin .append, args := #[s, x], argTypes := #[t, t] })
    (base : Nat) (v : Value) (xs : List Nat) (hs : a.eval s = v) (hown : Row w base v xs) (y : Value) (ys : List Nat) (hx : a.eval x = y) (hy : NatAt w y ys) (hlen : xs.length + ys.length ≤ 1099511627776) (hbase : base ≤ w.heap.size)
    (h : ∀ v' w', Hid (Row w' base v' (xs ++ ys)) → Below base w w' → wpList Tryd.prog ops Q rest (a.put o.dst v') w') : wpList Tryd.prog ops Q (o :: rest) a w :=
  wpList_plain hgd fun _ hK => wp_appendN s x t ht ho base v xs hs hown y ys hx hy hlen hbase fun v' w' h1 _ h3 => hK _ _ (h v' w' h1 h3)
theorem lit01 (w : World) : NatAt (w.alloc (.cells #[.int .u32 0] 40)) (.slice (some ⟨w.heap.size, 0, none⟩) 1 1) [0] := by
  have h : Own (w.alloc (.cells #[.int .u32 0] 40)) w.heap.size [0] := heap_alloc_new w _
  exact h.natAt (fun x hx => by rw [List.mem_singleton.1 hx]; omega) (Nat.le_refl _) (by simp)
theorem lit02 (w : World) : NatAt (w.alloc (.cells #[.int .u32 0, .int .u32 0] 40)) (.slice (some ⟨w.heap.size, 0, none⟩) 2 2) [0, 0] := by
  have h : Own (w.alloc (.cells #[.int .u32 0, .int .u32 0] 40)) w.heap.size [0, 0] := heap_alloc_new w _
  exact h.natAt (fun x hx => by simp at hx; omega) (Nat.le_refl _) (by simp)
theorem zval_times (b : Bool) (xs : List Nat) (f : Nat) (ys : List Nat) (h : val ys = val xs * f) : zval b ys = zval b xs * (f : Int) := by
  cases b
  · rw [zval_false, zval_false, h, Int.natCast_mul]
  · rw [zval_true, zval_true, h, Int.natCast_mul, Int.neg_mul]
set_option maxRecDepth 100000 in
set_option maxHeartbeats 8000000 in
theorem lscaled_any (b : Bool) (m d : Value) (xs ys : List Nat) (k : Nat) (w : World) (hx : NatAt w m xs) (hy : NatAt w d ys) (lx : xs.length ≤ 100) (ly : ys.length ≤ 100) (hk : k < 4294967296) : Calls Tryd.prog 23 #[.agg #[.bool b, m, d], .int .u32 (k : Int)] w fun e w' => ∃ A n c D n2 c2, e = .returned (.agg #[.bool b, .slice A n c, .slice D n2 c2]) ∧ RAt w' b (.slice A n c) (.slice D n2 c2) (mkRat (zval b xs) (val ys)) 110 ∧ Below w.heap.size w w' := by
  have X := Lib.hid hx
  have Y := Lib.hid hy
  have ek0 : IntKind.u64.wrap (k : Int) = (k : Int) := by rw [IntKind.wrap_u64]; omega
  have ek1 : IntKind.u64.wrap ((k : Int) + 1) = ((k + 1 : Nat) : Int) := by rw [IntKind.wrap_u64]; omega
  have lf : (limbs (k + 1)).length ≤ 2 := limbs_length_le (by omega)
  have szf : Sz (k + 1) 2 := by unfold Sz; omega
  have ln := limbs_length_le ((hx.sz lx).mul szf)
  have ld := limbs_length_le ((hy.sz ly).mul szf)
  clear hx hy
  go_enter Tryd.func23, Tryd.ntmps23
  go_upto_region 1 with fail
  obtain ⟨W0, hW, B_a, B_r, HW, HS⟩ := rbox2 w (.bool b) m d (.bool false) (.slice none 0 0) (.slice none 0 0)
  rw [hW]
  clear hW
  replace X := Lib.hid (X.out.below HW.out)
  replace Y := Lib.hid (Y.out.below HW.out)
  have hB := HW.out
  have hsz := HS.out
  clear HW HS
  have c_a0 := B_a.out.cell0
  have c_a1 := B_a.out.cell1
  have c_a2 := B_a.out.cell2
  have c_r0 := B_r.out.cell0
  have c_r1 := B_r.out.cell1
  have c_r2 := B_r.out.cell2
  go_wp2_with fail
  clear c_a0 c_a1 c_a2 c_r0 c_r1 c_r2
  refine (rof_any (k + 1) _ (by omega)).mono ?_
  rintro e w1 ⟨v_f, rfl, h_f, hb⟩
  replace X := Lib.hid (X.out.below hb)
  replace Y := Lib.hid (Y.out.below hb)
  replace B_a := Lib.hid (B_a.out.below hb)
  replace B_r := Lib.hid (B_r.out.below hb)
  replace hB := below_next hB hb
  clear hb
  have N_f := Lib.hid h_f
  clear h_f
  have c_a0 := B_a.out.cell0
  have c_a1 := B_a.out.cell1
  have c_a2 := B_a.out.cell2
  have c_r0 := B_r.out.cell0
  have c_r1 := B_r.out.cell1
  have c_r2 := B_r.out.cell2
  have k0 := fun o => (B_a.out.alloc o).cell0
  have k1 := fun o => (B_a.out.alloc o).cell1
  have k2 := fun o => (B_a.out.alloc o).cell2
  go_wp2_with fail
  clear k0 k1 k2
  clear c_a0 c_a1 c_a2 c_r0 c_r1 c_r2
  obtain ⟨P1, v12, hV, hv, R, hb⟩ := newRow0 (base := w1.heap.size) w1 (Nat.le_refl _)
  rw [hV, hv]
  clear hV hv
  have BW := Lib.hid hb
  clear hb
  refine (rmul_any _ _ _ _ _ (by exact X.out.below BW.out) (by exact N_f.out.below BW.out) (by omega) (by omega)).mono ?_
  rintro e P2 ⟨v17, rfl, h17, hb⟩
  rw [val_limbs] at h17
  replace R := Lib.hid (R.out.below hb)
  replace BW := Lib.hid (below_next BW.out hb)
  have M := Lib.hid h17
  clear h17 hb
  go_upto_region 3 with (first
    | (at_builtin; refine wpList_appendQ rfl (.tmp 12) (.tmp 17) _ Tryd.undN rfl w1.heap.size _ [] rfl R.out _ (limbs (val xs * (k + 1))) rfl M.out (by simp; omega) BW.out.size ?_; intro v18 P3 R2 hb2; rw [List.nil_append] at R2; have BW2 := Lib.hid (below_base BW.out hb2); have sz2 := BW2.out.size; clear hb2)
    | (at_builtin; refine wpList_appendQ rfl (.tmp 18) (.tmp 19) _ Tryd.undN rfl w1.heap.size _ (limbs (val xs * (k + 1))) rfl (R2.out.alloc _) _ [0] rfl (lit01 _) (by simp; omega) (by simp; omega) ?_; intro v20 P4 R3 hb3))
  have hbW : Below w1.heap.size w1 P4 := below_base (Below.alloc BW2.out sz2 _) hb3
  have h_n := R3.out.natAt (lim_zeros (k := 1) (lim_limbs _))
  obtain ⟨A_n, n_n, c_n, rfl⟩ := R3.out.natAt_form
  replace X := Lib.hid (X.out.below hbW)
  replace Y := Lib.hid (Y.out.below hbW)
  replace N_f := Lib.hid (N_f.out.below hbW)
  replace B_a := Lib.hid (B_a.out.below hbW)
  replace B_r := Lib.hid (B_r.out.below hbW)
  replace hB := below_next hB hbW
  have N_n := Lib.hid h_n
  clear R R2 R3 BW BW2 sz2 M hb3 hbW h_n
  clear X
  have c_a0 := B_a.out.cell0
  have c_a1 := B_a.out.cell1
  have c_a2 := B_a.out.cell2
  have c_r0 := B_r.out.cell0
  have c_r1 := B_r.out.cell1
  have c_r2 := B_r.out.cell2
  have k0 := fun o => (B_a.out.alloc o).cell0
  have k1 := fun o => (B_a.out.alloc o).cell1
  have k2 := fun o => (B_a.out.alloc o).cell2
  go_wp2_with fail
  clear k0 k1 k2
  clear c_a0 c_a1 c_a2 c_r0 c_r1 c_r2
  obtain ⟨T1, v12, hV, hv, R, hb⟩ := newRow0 (base := P4.heap.size) P4 (Nat.le_refl _)
  rw [hV, hv]
  clear hV hv
  have BW := Lib.hid hb
  clear hb
  refine (rmul_any _ _ _ _ _ (by exact Y.out.below BW.out) (by exact N_f.out.below BW.out) (by omega) (by omega)).mono ?_
  rintro e T2 ⟨v17, rfl, h17, hb⟩
  rw [val_limbs] at h17
  replace R := Lib.hid (R.out.below hb)
  replace BW := Lib.hid (below_next BW.out hb)
  have M := Lib.hid h17
  clear h17 hb
  go_upto_region 4 with (first
    | (at_builtin; refine wpList_appendQ rfl (.tmp 21) (.tmp 25) _ Tryd.undN rfl P4.heap.size _ [] rfl R.out _ (limbs (val ys * (k + 1))) rfl M.out (by simp; omega) BW.out.size ?_; intro v18 T3 R2 hb2; rw [List.nil_append] at R2; have BW2 := Lib.hid (below_base BW.out hb2); have sz2 := BW2.out.size; clear hb2)
    | (at_builtin; refine wpList_appendQ rfl (.tmp 26) (.tmp 27) _ Tryd.undN rfl P4.heap.size _ (limbs (val ys * (k + 1))) rfl (R2.out.alloc _) _ [0, 0] rfl (lit02 _) (by simp; omega) (by simp; omega) ?_; intro v20 T4 R3 hb3))
  have hbW : Below P4.heap.size P4 T4 := below_base (Below.alloc BW2.out sz2 _) hb3
  have h_d := R3.out.natAt (lim_zeros (k := 2) (lim_limbs _))
  obtain ⟨A_d, n_d, c_d, rfl⟩ := R3.out.natAt_form
  replace Y := Lib.hid (Y.out.below hbW)
  replace N_f := Lib.hid (N_f.out.below hbW)
  replace N_n := Lib.hid (N_n.out.below hbW)
  replace B_a := Lib.hid (B_a.out.below hbW)
  replace B_r := Lib.hid (B_r.out.below hbW)
  replace hB := below_next hB hbW
  have N_d := Lib.hid h_d
  clear R R2 R3 BW BW2 sz2 M hb3 hbW h_d
  have c_a0 := B_a.out.cell0
  have c_a1 := B_a.out.cell1
  have c_a2 := B_a.out.cell2
  have c_r0 := B_r.out.cell0
  have c_r1 := B_r.out.cell1
  have c_r2 := B_r.out.cell2
  have f_r0 := B_r.out.fro 0
  have f_r1 := B_r.out.fro 1
  have f_r2 := B_r.out.fro 2
  go_wp2
  clear c_a0 c_a1 c_a2 c_r0 c_r1 c_r2 f_r0 f_r1 f_r2
  obtain ⟨V2, hV, NB, KP⟩ := storeR B_r.out (.bool b) (.slice A_n n_n c_n) (.slice A_d n_d c_d)
  rw [hV]
  clear hV
  replace Y := Lib.hid (Y.out.keeps KP.out)
  replace N_f := Lib.hid (N_f.out.keeps KP.out)
  replace N_n := Lib.hid (N_n.out.keeps KP.out)
  replace N_d := Lib.hid (N_d.out.keeps KP.out)
  replace B_a := Lib.hid (B_a.out.keeps KP.out (by omega))
  replace hB := below_keeps hB KP.out (by omega)
  have B_r := NB
  clear NB KP
  have c_r0 := B_r.out.cell0
  have c_r1 := B_r.out.cell1
  have c_r2 := B_r.out.cell2
  refine bodyPost_ret (v := .agg #[.bool b, .slice A_n n_n c_n, .slice A_d n_d c_d]) (by simp [results, Tryd.results23, go_sem, c_r0, c_r1, c_r2]) rfl ?_
  refine ⟨_, _, _, _, _, _, rfl, ⟨_, _, N_n.out, N_d.out, by simp; omega, by simp; omega, ?_⟩, hB⟩
  have e1 : val (limbs (val xs * (k + 1)) ++ List.replicate 1 0) = val xs * (k + 1) := by rw [val_zeros, val_limbs]
  have e2 : val (limbs (val ys * (k + 1)) ++ List.replicate 2 0) = val ys * (k + 1) := by rw [val_zeros, val_limbs]
  show mkRat (zval b xs) (val ys) = mkRat (zval b (limbs (val xs * (k + 1)) ++ List.replicate 1 0)) (val (limbs (val ys * (k + 1)) ++ List.replicate 2 0))
  rw [zval_times b xs (k + 1) _ e1, e2, Rat.mkRat_mul_right (by omega)]
end Go.Proofs.YtoflndeonegkpaaDoor
