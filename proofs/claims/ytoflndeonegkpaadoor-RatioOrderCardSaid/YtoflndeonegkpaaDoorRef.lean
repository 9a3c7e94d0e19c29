/- garmentref01: limb, Norm, Of. -/
import Derived.Test.YtoflndeonegkpaaDoorCore
import Derived.Laws.OwnMore
import Derived.Test.YtoflndeonegkpaaDoorOps
import Derived.Test.YtoflndeonegkpaaDoorNum
import Derived.Test.YtoflndeonegkpaaDoorDiv
import Derived.Deep.RegionHeld
namespace Go.Proofs.YtoflndeonegkpaaDoor
open Go.RowKit

theorem run_append_none {w : World} (base : Nat) (t ty e : TypeId) (i : TypeInfo) (size c : Nat) (ht : Tryd.prog.underlying t = some (.slice e)) (hi : Tryd.prog.info? e = some i)
    (v : Value) (n : Nat) (xs : List Value) (hown : w.ownsRow base e size v n xs) :
    (Builtin.append_ #[t, t] ty #[v, .slice none 0 c]).run Tryd.prog w = .ok v w := by
  rcases hown.2 with ⟨rfl, rfl⟩ | ⟨g, cap, cur, rfl, _, _, hnc, _⟩
  · simp [Builtin.append_, run_underlying ht, sizeOf, typeInfo, hi, Builtin.lenOf, Builtin.firstCells]
  · simp [Builtin.append_, run_underlying ht, sizeOf, typeInfo, hi, Builtin.lenOf, Builtin.firstCells, hnc, storeCells]
set_option maxRecDepth 100000 in
/-- append(v, y...), v of the call's own. -/
theorem wpList_appendN {w : World} {ops : Array Oper} {rest : List Oper} {o : Oper} {a : Act} {Q : Exit → Act → World → Prop} (hgd : o.guard = none) (s x : Operand) (t : TypeId)
    (ht : Tryd.prog.underlying t = some (.slice 40)) (ho : o.op = .call { callee := .builtin .append, args := #[s, x], argTypes := #[t, t] })
    (base : Nat) (v : Value) (xs : List Nat) (hs : a.eval s = v) (hown : Row w base v xs) (y : Value) (ys : List Nat) (hx : a.eval x = y) (hy : NatAt w y ys)
    (hlen : xs.length + ys.length ≤ 1099511627776) (hbase : base ≤ w.heap.size)
    (h : ∀ v' w', Hid (Row w' base v' (xs ++ ys)) → Below base w w' → wpList Tryd.prog ops Q rest (a.put o.dst v') w') : wpList Tryd.prog ops Q (o :: rest) a w := by
  obtain ⟨i, h2, h3, h4, h5⟩ := info_parts Tryd.infoU
  obtain ⟨A, c, rfl, g1, g2, g3, g4⟩ := hy
  cases A with
  | none =>
    have e0 : ys = [] := by
      rcases Nat.eq_zero_or_pos ys.length with e | e
      · exact List.eq_nil_of_length_eq_zero e
      · obtain ⟨b, o, hh, _⟩ := g4 e; cases hh
    subst e0
    refine wpList_plain hgd fun K hK => ?_
    have hrun := run_append_none (w := w) base t o.type _ i 1 c ht h2 v xs.length (xs.map U) hown
    have hx' : a.eval x = .slice none 0 c := hx
    unfold Oper.wp
    simp [execOp, ho, resolve, invoke, builtin, hs, hx', hrun, Result.andThen]
    exact hK _ _ (h v w (by rw [List.append_nil]; exact hown) (Below.refl _ _))
  | some ad =>
    refine wpList_append_own (P := Tryd.prog) w hgd s x t ho base _ i _ 1 4 ht h2 h3 h4 h5 rfl (by omega) v xs.length (xs.map U) hs hown ad ys.length c (ys.map U) hx (by simp) ?_ ?_ (by unfold maxLen; omega) (by omega) hbase ?_
    · intro j u hj
      have hj' : j < ys.length := by have := (List.getElem?_eq_some_iff.1 hj).1; simpa using this
      obtain ⟨b, o, ha, hb, hc⟩ := g4 (by omega)
      injection ha with ha
      subst ha
      rw [Addr.add_lit, hc j hj']
      rw [List.getElem?_map, List.getElem?_eq_getElem hj'] at hj
      simpa [U, hj'] using hj
    · intro u hu
      obtain ⟨_, _, rfl⟩ := List.mem_map.1 hu
      rfl
    · intro v' w' hr hg _
      refine h v' w' ?_ ?_
      · show Row _ _ _ _
        unfold Row
        rw [List.length_append, List.map_append]; exact hr
      · exact (Below.refl _ _).grown hg hbase (fun k hk => (World.ownsRow.lt hown k hk).1)

/-- limb returns the limb, 0 behind the end; the world is as it was. -/
def LimbIs (w : World) (xs : List Nat) (k : Nat) (e : Ending) (w' : World) : Prop := e = .returned (.int .u64 (xs.getD k 0 : Nat)) ∧ w = w'
set_option maxHeartbeats 400000 in
theorem limb_any (va : Value) (xs : List Nat) (k : Nat) (w : World) (ha : NatAt w va xs) (hk : k ≤ 9223372036854775807) : Calls Tryd.prog 65 #[va, .int .i64 k] w (LimbIs w xs k) := by
  have HA := Lib.hid ha
  obtain ⟨A, c, rfl, g1, g2⟩ := ha.form
  clear ha
  have t0 : decide ((k : Int) < 0) = false := by simp
  by_cases hlt : k < xs.length
  · obtain ⟨b, o, rfl, hb, hc⟩ := HA.out.at_ (by omega)
    have hcj := hc k hlt
    clear hc
    have hxl := HA.out.lim.get k
    have t1 : decide (xs.length ≤ k) = false := by simp; omega
    unfold LimbIs
    obtain ⟨x, hx⟩ : ∃ x : Nat, x = xs.getD k 0 := ⟨_, rfl⟩
    rw [← hx] at hcj hxl
    have HX := Lib.hid hx
    clear hx
    go_enter Tryd.func65, Tryd.ntmps65
    go_wp2
    go_ret
    exact ⟨by rw [← HX.out]; go_num, rfl⟩
  · have t1 : decide (xs.length ≤ k) = true := by simp; omega
    have hx : xs.getD k 0 = 0 := by rw [List.getD_eq_getElem?_getD, List.getElem?_eq_none (by omega)]; rfl
    have HX := Lib.hid hx
    clear hx
    unfold LimbIs
    go_enter Tryd.func65, Tryd.ntmps65
    go_wp2
    go_ret
    exact ⟨by rw [HX.out]; rfl, rfl⟩

theorem limb_at {va : Value} {xs : List Nat} {k x : Nat} {w : World} (ha : NatAt w va xs) (hk : k ≤ 9223372036854775807) (hx : x = xs.getD k 0) : Calls Tryd.prog 65 #[va, .int .i64 k] w fun e w' => e = .returned (.int .u64 (x : Nat)) ∧ w = w' := by
  rw [hx]; exact limb_any va xs k w ha hk
/-- A function's result: a row that the call has made. -/
def GivesRow (w : World) (xs : List Nat) (e : Ending) (w' : World) : Prop :=
  ∃ v, e = .returned v ∧ Row w' w.heap.size v xs ∧ Below w.heap.size w w'
theorem Row.lower {w : World} {base base' : Nat} {v : Value} {xs : List Nat} (h : Row w base v xs) (hb : base' ≤ base) : Row w base' v xs := by
  obtain ⟨h1, h2⟩ := h
  refine ⟨h1, ?_⟩
  rcases h2 with h2 | ⟨g, cap, cur, hv, hg, r⟩
  · exact .inl h2
  · exact .inr ⟨g, cap, cur, hv, Nat.le_trans hb hg, r⟩
theorem GivesRow.nat {w w' : World} {n : Nat} {e : Ending} (h : GivesRow w (limbs n) e w') : GivesNat w (limbs n) e w' := by
  obtain ⟨v, he, hr, hb⟩ := h
  exact ⟨v, he, hr.natAt (lim_limbs n), hb⟩
set_option maxHeartbeats 400000 in
theorem rnorm_row (va : Value) (xs : List Nat) (w : World) (ha : NatAt w va xs) (hxl : xs.length ≤ 10000000) : Calls Tryd.prog 50 #[va] w (GivesRow w (limbs (val xs))) := by
  have HA := Lib.hid ha
  obtain ⟨A, c, rfl, g1, g2⟩ := ha.form
  clear ha
  go_enter Tryd.func50, Tryd.ntmps50
  go_wp2
  go_loop [3] (fun s => ∃ k : Nat, k ≤ xs.length ∧ s = .int .i64 k ∧ trimL (xs.take k) = trimL xs) (fun s => (intOf s).toNat)
  case atStart => exact ⟨xs.length, Nat.le_refl _, rfl, by rw [List.take_of_length_le (Nat.le_refl _)]⟩
  case round =>
    obtain ⟨k, hk, rfl, ht⟩ := hrel
    have HT := Lib.hid ht
    clear ht
    rcases Nat.eq_zero_or_pos k with hk0 | hk0
    · subst hk0
      go_wp2_with (at_builtin; refine wpList_appendN rfl (.tmp 19) (.tmp 22) _ Tryd.undN rfl w.heap.size _ [] rfl (Row.nil _ _) _ [] rfl (by exact HA.out.pre (Nat.zero_le _)) (by simp) (Nat.le_refl _) ?_; intro v' w2 HRow hb2)
      go_ret
      refine ⟨_, rfl, ?_, hb2⟩
      rw [← trimL_eq HA.out.lim, ← HT.out]
      exact HRow.out
    · obtain ⟨m, rfl⟩ : ∃ m, k = m + 1 := ⟨k - 1, by omega⟩
      obtain ⟨b, o, rfl, hb, hc⟩ := HA.out.at_ (by omega)
      have hcm := hc m (by omega)
      clear hc
      have hlt : m < xs.length := by omega
      obtain ⟨x, hx⟩ : ∃ x : Nat, x = xs.getD m 0 := ⟨_, rfl⟩
      rw [← hx] at hcm
      have HX := Lib.hid hx
      clear hx
      by_cases hx0 : x = 0
      · have t0 : ((x : Int) == 0) = true := by simp [hx0]
        go_wp2
        go_round
        case rel => exact ⟨m, by omega, by go_num, by rw [← HT.out, trimL_take_zero hlt (by rw [← HX.out, hx0])]⟩
        case measure => simp [intOf]
      · have t0 : ((x : Int) == 0) = false := by simp; omega
        have hle : (xs.take (m + 1)).length ≤ 10000000 := by rw [List.length_take]; omega
        go_wp2_with (at_builtin; refine wpList_appendN rfl (.tmp 19) (.tmp 22) _ Tryd.undN rfl w.heap.size _ [] rfl (Row.nil _ _) _ (xs.take (m + 1)) rfl (by exact HA.out.pre hk) (by simp; omega) (Nat.le_refl _) ?_; intro v' w2 HRow hb2)
        go_ret
        refine ⟨_, rfl, ?_, hb2⟩
        rw [← trimL_eq HA.out.lim, ← HT.out, trimL_take_pos hlt (by rw [← HX.out]; exact hx0)]
        exact HRow.out
theorem rnorm_any (va : Value) (xs : List Nat) (w : World) (ha : NatAt w va xs) (hxl : xs.length ≤ 10000000) : Calls Tryd.prog 50 #[va] w (GivesNat w (limbs (val xs))) :=
  (rnorm_row va xs w ha hxl).mono fun _ _ h => h.nat

set_option maxHeartbeats 400000 in
theorem rof_any (n : Nat) (w : World) (hn : n < 18446744073709551616) : Calls Tryd.prog 44 #[.int .u64 n] w (GivesNat w (limbs n)) := by
  have hl : (limbs n).length ≤ 2 := limbs_length_le (by simpa using hn)
  go_enter Tryd.func44, Tryd.ntmps44
  go_wp2
  go_loopw [0, 3] (fun s r wr => ∃ (m : Nat) (rs : List Nat), m ≤ n ∧ s = .int .u64 m ∧ Row wr w.heap.size r rs ∧ Lim rs ∧ limbs n = rs ++ limbs m ∧ Below w.heap.size w wr) (fun s _ _ => (intOf s).toNat)
  case atStart => exact ⟨n, [], Nat.le_refl _, rfl, Row.nil _ _, lim_nil, rfl, Below.refl _ _⟩
  case round =>
    obtain ⟨m, rs, hm, rfl, h1, h2, h3, h4⟩ := hrel
    have hsz := h4.size
    have hrs : rs.length ≤ 2 := by rw [h3, List.length_append] at hl; omega
    have H1 := Lib.hid h1
    have H2 := Lib.hid h2
    have H3 := Lib.hid h3
    have H4 := Lib.hid h4
    clear h1 h2 h3 h4
    rcases Nat.eq_zero_or_pos m with h0 | h0
    · subst h0
      go_wp2
      go_ret
      refine ⟨_, rfl, ?_, H4.out⟩
      rw [H3.out, limbs_zero, List.append_nil]
      exact H1.out.natAt H2.out
    · go_wp2_with (at_builtin; refine wpList_append1 rfl (.tmp 6) (.tmp 10) _ Tryd.undN rfl w.heap.size _ rs rfl (H1.out.alloc _) wr.heap.size _ (m % 4294967296) rfl (by omega) (cell_new1 _ _ _) (by omega) (by simp; omega) ?_; intro v' w2 HRow hb2)
      go_roundw
      case rel => exact ⟨m / 4294967296, rs ++ [m % 4294967296], by omega, by go_num, HRow.out, H2.out.append (Lim.cons (by omega) lim_nil), by rw [H3.out, limbs_pos (by omega : m ≠ 0), List.append_assoc]; rfl, H4.out.trans ((Below.refl _ _).alloc hsz _ |>.trans hb2)⟩
      case measure => simp [intOf]; omega
end Go.Proofs.YtoflndeonegkpaaDoor

/- garmentref01.Cmp. -/
namespace Go.Proofs.YtoflndeonegkpaaDoor
open Go.RowKit

theorem val_drop (xs : List Nat) (k : Nat) : val (xs.drop k) = xs.getD k 0 + 4294967296 * val (xs.drop (k + 1)) := by
  rcases Nat.lt_or_ge k xs.length with h | h
  · rw [List.drop_eq_getElem_cons h]
    simp [val, h]
  · rw [List.drop_eq_nil_of_le h, List.drop_eq_nil_of_le (by omega), List.getD_eq_getElem?_getD, List.getElem?_eq_none h]
    rfl
theorem val_split (xs : List Nat) (k : Nat) : val xs = val (xs.take k) + 4294967296 ^ k * val (xs.drop k) := by
  rcases Nat.lt_or_ge k xs.length with h | h
  · exact val_take_drop xs k (by omega)
  · rw [List.drop_eq_nil_of_le h, List.take_of_length_le h]; simp [val]
theorem val_take_lt {xs : List Nat} (h : Lim xs) (k : Nat) : val (xs.take k) < 4294967296 ^ k :=
  Nat.lt_of_lt_of_le (val_lt (h.take k)) (Nat.pow_le_pow_right (by omega) (by rw [List.length_take]; omega))
theorem getD_zero {xs : List Nat} {k : Nat} (h : xs.length ≤ k) : xs.getD k 0 = 0 := by rw [List.getD_eq_getElem?_getD, List.getElem?_eq_none h]; rfl
theorem drop_eq_from (n : Nat) : ∀ (xs ys : List Nat) (k : Nat), xs.length + ys.length ≤ k + n → (∀ j, k ≤ j → xs.getD j 0 = ys.getD j 0) → val (xs.drop k) = val (ys.drop k) := by
  induction n with
  | zero => intro xs ys k h _; rw [List.drop_eq_nil_of_le (by omega), List.drop_eq_nil_of_le (by omega)]
  | succ n ih =>
    intro xs ys k h he
    rw [val_drop xs, val_drop ys, he k (Nat.le_refl _), ih xs ys (k + 1) (by omega) (fun j hj => he j (by omega))]
theorem lt_of_getD {xs ys : List Nat} {k : Nat} (hx : Lim xs) (he : ∀ j, k + 1 ≤ j → xs.getD j 0 = ys.getD j 0) (h : xs.getD k 0 < ys.getD k 0) : val xs < val ys := by
  rw [val_split xs k, val_split ys k, val_drop xs, val_drop ys, drop_eq_from _ xs ys (k + 1) (Nat.le_add_left _ _) he]
  have h1 := val_take_lt hx k
  have h2 : 4294967296 ^ k * (xs.getD k 0 + 4294967296 * val (ys.drop (k + 1))) + 4294967296 ^ k ≤ 4294967296 ^ k * (ys.getD k 0 + 4294967296 * val (ys.drop (k + 1))) := by
    rw [← Nat.mul_succ]; exact Nat.mul_le_mul_left _ (by omega)
  omega
theorem val_eq_of_getD {xs ys : List Nat} (he : ∀ j, 0 ≤ j → xs.getD j 0 = ys.getD j 0) : val xs = val ys := by
  have := drop_eq_from _ xs ys 0 (Nat.le_add_left _ _) he
  simpa using this

end Go.Proofs.YtoflndeonegkpaaDoor

/- garmentref01.Add. -/
namespace Go.Proofs.YtoflndeonegkpaaDoor
open Go.RowKit

end Go.Proofs.YtoflndeonegkpaaDoor

/- garmentref01.Sub. -/
namespace Go.Proofs.YtoflndeonegkpaaDoor
open Go.RowKit

/-- What holds at the head of each round. -/
structure RSubRel (w wr : World) (us vs : List Nat) (r : Value) (rs : List Nat) (k b : Nat) : Prop where
  row : Row wr w.heap.size r rs
  len : rs.length = k
  lim : Lim rs
  sum : val rs + val (vs.take k) = val (us.take k) + 4294967296 ^ k * b
  below : Below w.heap.size w wr
theorem RSubRel.step {w wr : World} {us vs rs : List Nat} {r : Value} {k b d c : Nat} (R : RSubRel w wr us vs r rs k b) (hd : d + b + vs.getD k 0 = us.getD k 0 + 4294967296 * c) (hdl : d < 4294967296) (v' : Value) (w2 : World)
    (hr : Row w2 w.heap.size v' (rs ++ [d])) (hb : Below w.heap.size wr w2) : RSubRel w w2 us vs v' (rs ++ [d]) (k + 1) c :=
  ⟨hr, by simp [R.len], R.lim.append (Lim.cons hdl lim_nil), sub_step R.len R.sum hd, R.below.trans hb⟩
theorem RSubRel.fin {w wr : World} {us vs rs : List Nat} {r : Value} {k b : Nat} (R : RSubRel w wr us vs r rs k b) (hu : us.length ≤ k) (hv : vs.length ≤ k) (hle : val vs ≤ val us) : val rs = val us - val vs := by
  have h := R.sum
  have h2 := val_lt R.lim
  rw [List.take_of_length_le hu, List.take_of_length_le hv] at h
  rw [R.len] at h2
  rcases Nat.eq_zero_or_pos b with e | e
  · subst e; omega
  · have : 4294967296 ^ k * 1 ≤ 4294967296 ^ k * b := Nat.mul_le_mul_left _ e
    omega
theorem rsub_words {b x y : Nat} (hb : b ≤ 1) (_hx : x < 4294967296) (hy : y < 4294967296) : ∃ d c t : Nat, (4294967296 : Int) + x - y - b = (t : Int) ∧ t < 18446744073709551616 ∧ t / 4294967296 ≤ 1 ∧ t % 4294967296 = d ∧ 1 - t / 4294967296 = c ∧ c ≤ 1 ∧ d < 4294967296 ∧ d + b + y = x + 4294967296 * c := by
  exact ⟨_, _, 4294967296 + x - y - b, by omega, by omega, by omega, rfl, rfl, by omega, by omega, by omega⟩
/-- A row that the call has made, and a bool. -/
def GivesRowB (w : World) (xs : List Nat) (b : Bool) (e : Ending) (w' : World) : Prop :=
  ∃ v, e = .returned (.tuple #[v, .bool b]) ∧ Row w' w.heap.size v xs ∧ Below w.heap.size w w'
end Go.Proofs.YtoflndeonegkpaaDoor

/- garmentref01.Mul. -/
namespace Go.Proofs.YtoflndeonegkpaaDoor
open Go.RowKit

theorem MulIn.natAt {w wr : World} {g : Nat} {us vs R : List Nat} {i k c : Nat} (h : MulIn w wr g us vs R i k c) (hl : us.length + vs.length ≤ 9223372036854775807) : NatAt wr (.slice (some ⟨g, 0, none⟩) (us.length + vs.length) (us.length + vs.length)) R := by
  have := h.own.natAt h.lim (c := us.length + vs.length) (by rw [h.len]; omega) (by rw [h.len]; omega)
  rw [h.len] at this
  exact this

set_option maxHeartbeats 2000000 in
theorem rmul_any (va vb : Value) (us vs : List Nat) (w : World) (ha : NatAt w va us) (hb : NatAt w vb vs) (hul : us.length ≤ 1000000) (hvl : vs.length ≤ 1000000) : Calls Tryd.prog 45 #[va, vb] w (GivesNat w (limbs (val us * val vs))) := by
  have HA := Lib.hid ha
  have HB := Lib.hid hb
  obtain ⟨A, c, rfl, g1, g2⟩ := ha.form
  obtain ⟨A2, c2, rfl, k1, k2⟩ := hb.form
  clear ha hb
  go_enter Tryd.func45, Tryd.ntmps45
  go_wp2_with (at_make; refine wpList_make rfl _ Tryd.undN _ _ rfl _ _ _ _ (us.length + vs.length) (us.length + vs.length) rfl rfl (by omega) (by omega) (by omega) (by omega) ?_; intro w1 HO hb1 hz1; have HZ := Lib.hid hz1; clear hz1)
  go_loopw [6] (fun si wr => ∃ (i : Nat) (R : List Nat), i ≤ us.length ∧ si = .int .i64 i ∧ MulRel w wr w.heap.size us vs R i) (fun si _ => us.length - (intOf si).toNat)
  case atStart => exact ⟨0, _, Nat.zero_le _, rfl, HO.out, by simp, Lim.replicate _, by simp [val_replicate, val], hb1⟩
  case round =>
    obtain ⟨i, R, hi, rfl, M⟩ := hrel
    by_cases hlt : i < us.length
    · have hxl := HA.out.lim.get i
      have HM := Lib.hid (M.enter HA.out.lim HB.out.lim hlt)
      clear M
      obtain ⟨x, hx⟩ : ∃ x : Nat, x = us.getD i 0 := ⟨_, rfl⟩
      rw [← hx] at hxl
      have HX := Lib.hid hx
      clear hx
      obtain ⟨wo, rfl⟩ : ∃ wo : World, wo = wr := ⟨_, rfl⟩
      go_wp2
      go_loopw [7, 8] (fun cy sk wr => ∃ (k c : Nat) (R : List Nat), k ≤ vs.length ∧ sk = .int .i64 k ∧ cy = .int .u64 c ∧ c < 4294967296 ∧ MulIn w wr w.heap.size us vs R i k c) (fun _ sk _ => vs.length - (intOf sk).toNat)
      case atStart => exact ⟨0, 0, R, Nat.zero_le _, rfl, rfl, by omega, HM.out⟩
      case round =>
        obtain ⟨k, c, R, hk, rfl, rfl, hc, M⟩ := hrel
        by_cases hlt2 : k < vs.length
        · have HAr := Lib.hid (HA.out.below M.below)
          have HBr := Lib.hid (HB.out.below M.below)
          have HRr := Lib.hid (M.natAt (by omega))
          have hcr := M.own.cell (j := i + k) (by rw [M.len]; omega)
          have hfr := M.own.frozen (i + k)
          have hyl := HB.out.lim.get k
          have hrl := M.lim.get (i + k)
          have HS := Lib.hid (M.step hlt hlt2 (Nat.le_refl _))
          clear M
          rw [← HX.out] at HS
          obtain ⟨y, hy⟩ : ∃ x : Nat, x = vs.getD k 0 := ⟨_, rfl⟩
          obtain ⟨r, hr⟩ : ∃ x : Nat, x = R.getD (i + k) 0 := ⟨_, rfl⟩
          rw [← hy] at hyl HS
          rw [← hr] at hcr hrl HS
          have HY := Lib.hid hy
          have HR := Lib.hid hr
          clear hy hr
          obtain ⟨p, hp⟩ : ∃ p : Nat, p = x * y := ⟨_, rfl⟩
          have hpl := mul_le hxl hyl
          rw [← hp] at hpl HS
          have hpi : (x : Int) * (y : Int) = (p : Int) := by rw [hp]; push_cast; rfl
          clear hp
          go_wp2_with fail
          refine (limb_at (by exact HAr.out) (by omega) HX.out).mono ?_
          rintro e w' ⟨rfl, rfl⟩
          go_wp2_with fail
          refine (limb_at (by exact HBr.out) (by omega) HY.out).mono ?_
          rintro e w' ⟨rfl, rfl⟩
          go_wp2_with fail
          refine (limb_at (by exact HRr.out) (by omega) HR.out).mono ?_
          rintro e w' ⟨rfl, rfl⟩
          go_wp2
          have e1 : (((c + p + r) % 4294967296 : Nat) : Int) = ((p : Int) + (r : Int) + (c : Int)) % 4294967296 := by omega
          go_roundw
          case rel => exact ⟨k + 1, (c + p + r) / 4294967296, _, by omega, by go_num, congrArg (Value.int .u64) (by omega), by omega, by rw [← e1]; exact HS.out⟩
          case measure => simp [intOf]; omega
        · have hkv : k = vs.length := by omega
          have hcr := M.own.cell (j := i + vs.length) (by rw [M.len]; omega)
          have hfr := M.own.frozen (i + vs.length)
          have hrl := M.lim.get (i + vs.length)
          rw [hkv] at M
          have HS := Lib.hid (M.leave hlt hc (Nat.le_refl _))
          obtain ⟨r, hr⟩ : ∃ x : Nat, x = R.getD (i + vs.length) 0 := ⟨_, rfl⟩
          rw [← hr] at hcr hrl
          clear hr M hkv
          go_wp2
          have e1 : (c : Int) % 4294967296 = (c : Int) := by omega
          go_roundw
          case rel => exact ⟨i + 1, _, by omega, by go_num, HS.out⟩
          case measure => simp [intOf]; omega
    · have hkl : i = us.length := by omega
      have HM := Lib.hid M
      have HN := Lib.hid (M.own.natAt M.lim (c := us.length + vs.length) (by rw [M.len]; omega) (by rw [M.len]; omega))
      have hRl := M.len
      rw [M.len] at HN
      have hkL : Hid (i = us.length) := hkl
      have HRl := Lib.hid hRl
      clear M hkl hRl
      go_wp2_with fail
      refine (rnorm_any _ _ _ (by exact HN.out) (by rw [HRl.out]; omega)).mono ?_
      rintro e w' ⟨v3, rfl, h3, hb3⟩
      have H3 := Lib.hid h3
      clear h3
      go_wp2
      go_ret
      have hp := HM.out.prod
      rw [hkL.out, List.take_of_length_le (Nat.le_refl _)] at hp
      rw [← hp]
      exact ⟨_, rfl, H3.out, below_next HM.out.below hb3⟩
end Go.Proofs.YtoflndeonegkpaaDoor

/- garmentref01: Shift, Half. -/
namespace Go.Proofs.YtoflndeonegkpaaDoor
open Go.RowKit

theorem Row.own {w : World} {base g : Nat} {xs : List Nat} (h : Own w g xs) (hb : base ≤ g) (hm : xs.length ≤ 9223372036854775807) : Row w base (.slice (some ⟨g, 0, none⟩) xs.length xs.length) xs := by
  refine ⟨by simp, .inr ⟨g, xs.length, _, rfl, hb, h, Nat.le_refl _, by unfold maxLen; omega, by simp, by simp [List.take_of_length_le]⟩⟩
theorem Row.zeros {w : World} {base g m : Nat} (h : Own w g (List.replicate m 0)) (hb : base ≤ g) (hm : m ≤ 9223372036854775807) : Row w base (.slice (some ⟨g, 0, none⟩) m m) (List.replicate m 0) := by
  have := Row.own h hb (by simpa using hm)
  rw [List.length_replicate] at this
  exact this

structure RShRel (w wr : World) (us : List Nat) (r : Value) (ts : List Nat) (d s k c : Nat) : Prop where
  row : Row wr w.heap.size r (List.replicate d 0 ++ ts)
  len : ts.length = k
  lim : Lim ts
  low : c < 2 ^ s
  sum : val ts + 4294967296 ^ k * c = 2 ^ s * val (us.take k)
  below : Below w.heap.size w wr
theorem rsh_fits {x c s : Nat} (hx : x < 4294967296) (hs : s < 32) (hc : c < 2 ^ s) : 2 ^ s * x + c < 18446744073709551616 ∧ (2 ^ s * x + c) / 4294967296 < 2 ^ s := by
  have h1 := shl_le hx hs
  have h2s : 2 ^ s ≤ 2 ^ 31 := Nat.pow_le_pow_right (by omega) (by omega)
  refine ⟨by omega, Nat.div_lt_of_lt_mul ?_⟩
  have : 2 ^ s * x + 2 ^ s ≤ 2 ^ s * 4294967296 := by rw [← Nat.mul_succ]; exact Nat.mul_le_mul_left _ hx
  rw [Nat.mul_comm 4294967296]
  omega
theorem RShRel.step {w wr : World} {us ts : List Nat} {r : Value} {d s k c : Nat} (h : RShRel w wr us r ts d s k c) (hu : Lim us) (hs : s < 32) (v' : Value) (w2 : World)
    (hr : Row w2 w.heap.size v' (List.replicate d 0 ++ ts ++ [(2 ^ s * us.getD k 0 + c) % 4294967296])) (hb : Below w.heap.size wr w2) :
    RShRel w w2 us v' (ts ++ [(2 ^ s * us.getD k 0 + c) % 4294967296]) d s (k + 1) ((2 ^ s * us.getD k 0 + c) / 4294967296) := by
  refine ⟨by rw [← List.append_assoc]; exact hr, by simp [h.len], h.lim.append (Lim.cons (by omega) lim_nil), (rsh_fits (hu.get k) hs h.low).2, ?_, h.below.trans hb⟩
  have h1 := h.sum
  have h2 := Nat.div_add_mod (2 ^ s * us.getD k 0 + c) 4294967296
  generalize (2 ^ s * us.getD k 0 + c) / 4294967296 = q at *
  generalize (2 ^ s * us.getD k 0 + c) % 4294967296 = m at *
  rw [val_snoc, h.len, val_take_next, Nat.mul_add, ← h1, pow_step, Nat.add_assoc, Nat.add_assoc, Nat.mul_assoc, ← Nat.mul_add, show m + 4294967296 * q = 2 ^ s * us.getD k 0 + c by omega, Nat.mul_add, Nat.add_comm (4294967296 ^ k * _), Nat.mul_left_comm]
theorem RShRel.fin {w wr : World} {us ts : List Nat} {r : Value} {d s k c : Nat} (h : RShRel w wr us r ts d s k c) (hu : Lim us) (hk : k = us.length + 1) (hs : s < 32) : val (List.replicate d 0 ++ ts) = val us * 2 ^ (32 * d + s) := by
  have h1 := h.sum
  have h2 : 2 ^ s * val us < 4294967296 ^ k := by
    rw [hk, pow_step, Nat.mul_comm]
    have : 2 ^ s ≤ 2 ^ 32 := Nat.pow_le_pow_right (by omega) (by omega)
    exact Nat.mul_lt_mul_of_lt_of_le (val_lt hu) this (by omega)
  rw [List.take_of_length_le (by omega)] at h1
  have hc : c = 0 := by
    rcases Nat.eq_zero_or_pos c with e | e
    · exact e
    · have : 4294967296 ^ k * 1 ≤ 4294967296 ^ k * c := Nat.mul_le_mul_left _ e
      omega
  rw [hc, Nat.mul_zero, Nat.add_zero] at h1
  rw [val_append, val_replicate, List.length_replicate, h1, Nat.zero_add, Nat.pow_add, Nat.pow_mul, show (2 ^ 32 : Nat) = 4294967296 from rfl, ← Nat.mul_assoc, Nat.mul_comm]

structure HalfRel (w wr : World) (us : List Nat) (r : Value) (rs : List Nat) (k : Nat) : Prop where
  row : Row wr w.heap.size r rs
  len : rs.length = k
  lim : Lim rs
  sum : 2 * val rs + val us % 2 = val (us.take k) + 4294967296 ^ k * (us.getD k 0 % 2)
  below : Below w.heap.size w wr
theorem HalfRel.step {w wr : World} {us rs : List Nat} {r : Value} {k : Nat} (h : HalfRel w wr us r rs k) (hu : Lim us) (v' : Value) (w2 : World)
    (hr : Row w2 w.heap.size v' (rs ++ [us.getD k 0 / 2 + us.getD (k + 1) 0 % 2 * 2147483648])) (hb : Below w.heap.size wr w2) :
    HalfRel w w2 us v' (rs ++ [us.getD k 0 / 2 + us.getD (k + 1) 0 % 2 * 2147483648]) (k + 1) := by
  have hx := hu.get k
  refine ⟨hr, by simp [h.len], h.lim.append (Lim.cons (by omega) lim_nil), ?_, h.below.trans hb⟩
  have h1 := h.sum
  have e1 : us.getD k 0 = 2 * (us.getD k 0 / 2) + us.getD k 0 % 2 := by omega
  rw [val_take_next, val_snoc, h.len, pow_step]
  generalize us.getD k 0 / 2 = a at *
  generalize us.getD k 0 % 2 = b at *
  generalize us.getD (k + 1) 0 % 2 = c at *
  generalize us.getD k 0 = x at *
  subst e1
  generalize 4294967296 ^ k = B at *
  have e2 : B * (a + c * 2147483648) = B * a + B * c * 2147483648 := by rw [Nat.mul_add, Nat.mul_assoc]
  have e3 : B * (2 * a + b) = 2 * (B * a) + B * b := by rw [Nat.mul_add, Nat.mul_left_comm]
  have e4 : B * 4294967296 * c = B * c * 4294967296 := Nat.mul_right_comm _ _ _
  omega
theorem val_mod_two (us : List Nat) : val us % 2 = us.getD 0 0 % 2 := by
  cases us with
  | nil => rfl
  | cons x xs => simp only [val, List.getD_cons_zero]; omega

end Go.Proofs.YtoflndeonegkpaaDoor

/- garmentref01.Bits. -/
namespace Go.Proofs.YtoflndeonegkpaaDoor
open Go.RowKit

/-- The number of binary digits. -/
def GivesBits (w : World) (n L : Nat) (e : Ending) (w' : World) : Prop := ∃ k : Nat, BitsOf n k ∧ k ≤ 32 * L ∧ e = .returned (.int .i64 k) ∧ Below w.heap.size w w'
/-- What holds at the head of each round. -/
def BitsRel (n x : Nat) (sn st : Value) : Prop := ∃ m t : Nat, t ≤ x ∧ sn = .int .i64 ((32 * n + m : Nat) : Int) ∧ st = .int .u32 (t : Int) ∧ TopRel x t m

end Go.Proofs.YtoflndeonegkpaaDoor

/- garmentref01.DivMod. -/
namespace Go.Proofs.YtoflndeonegkpaaDoor
open Go.RowKit

theorem Row.far {w : World} {base : Nat} {v : Value} {xs : List Nat} (h : Row w base v xs) {p : Addr} (hp : p.block < base) (u : Value) : Row (w.setCell p u) base v xs := by
  obtain ⟨h1, h2⟩ := h
  refine ⟨h1, ?_⟩
  rcases h2 with h2 | ⟨g, cap, cur, hv, hg, hh, r⟩
  · exact .inl h2
  · refine .inr ⟨g, cap, cur, hv, hg, ?_, r⟩
    rw [Below.heap_setCell w p u g (by omega)]; exact hh
/-- The slice reads as xs and does not lie in block g. -/
def NatOff (w : World) (v : Value) (xs : List Nat) (g : Nat) : Prop := NatAt w v xs ∧ ∀ b o n c, v = .slice (some ⟨b, o, none⟩) n c → 0 < n → b ≠ g
theorem NatAt.off {w : World} {v : Value} {xs : List Nat} {g : Nat} (h : NatAt w v xs) (hg : w.heap.size ≤ g) : NatOff w v xs g := by
  refine ⟨h, fun b o n c hv hn => ?_⟩
  obtain ⟨A, c', hv', _, _, _, h4⟩ := h
  rw [hv] at hv'
  injection hv' with e1 e2 e3
  obtain ⟨b', o', ha, hb, _⟩ := h4 (by omega)
  rw [ha] at e1
  injection e1 with e1
  injection e1 with e1
  omega
theorem Row.off {w : World} {base : Nat} {v : Value} {xs : List Nat} {g : Nat} (h : Row w base v xs) (hl : Lim xs) (hg : g < base) : NatOff w v xs g := by
  refine ⟨h.natAt hl, fun b o n c hv hn => ?_⟩
  obtain ⟨_, h2⟩ := h
  rcases h2 with ⟨rfl, _⟩ | ⟨g', cap, cur, rfl, hg', _⟩
  · cases hv
  · injection hv with e1
    injection e1 with e1
    injection e1 with e1
    omega
theorem NatOff.below {w w' : World} {v : Value} {xs : List Nat} {g : Nat} (h : NatOff w v xs g) (hb : Below w.heap.size w w') : NatOff w' v xs g := ⟨h.1.below hb, h.2⟩
theorem NatOff.set {w : World} {v : Value} {xs : List Nat} {g i : Nat} (h : NatOff w v xs g) (u : Value) : NatOff (w.setCell ⟨g, i, none⟩ u) v xs g := by
  obtain ⟨⟨A, c, hv, h1, h2, h3, h4⟩, h5⟩ := h
  refine ⟨⟨A, c, hv, h1, h2, h3, fun hn => ?_⟩, h5⟩
  obtain ⟨b, o, ha, hb, hc⟩ := h4 hn
  have hbg : b ≠ g := h5 b o xs.length c (by rw [hv, ha]) hn
  refine ⟨b, o, ha, by simpa using hb, fun j hj => ?_⟩
  rw [World.cell?_setCell_far _ _ _ _ (by exact fun e => hbg e.symm)]
  exact hc j hj

structure RDM (w wr : World) (g A B n j Q R : Nat) (qs : List Nat) (sr sp : Value) : Prop where
  own : Own wr g qs
  len : qs.length = n / 32 + 1
  lim : Lim qs
  quo : val qs = Q
  rel : RDivRel A B Q R j n
  rest : NatOff wr sr (limbs R) g
  part : NatOff wr sp (limbs (B * 2 ^ j / 2)) g
  below : Below w.heap.size w wr
theorem part_now (B k : Nat) : B * 2 ^ (k + 1) / 2 = B * 2 ^ k := by rw [Nat.pow_succ, ← Nat.mul_assoc, Nat.mul_div_cancel _ (by omega)]

theorem RDivRel.restLe {A B Q R j n : Nat} (h : RDivRel A B Q R j n) : R ≤ A := by have := h.eq; have := Nat.zero_le (Q * B); omega
theorem shift_len {b n k m : Nat} (hb : b < 4294967296 ^ k) (hn : n ≤ 32 * m) : (limbs (b * 2 ^ n)).length ≤ k + m := by
  apply limbs_length_le
  rw [Nat.pow_add]
  refine Nat.mul_lt_mul_of_lt_of_le hb ?_ (Nat.pow_pos (by omega))
  rw [show (4294967296 : Nat) = 2 ^ 32 from rfl, ← Nat.pow_mul]
  exact Nat.pow_le_pow_right (by omega) hn

end Go.Proofs.YtoflndeonegkpaaDoor
