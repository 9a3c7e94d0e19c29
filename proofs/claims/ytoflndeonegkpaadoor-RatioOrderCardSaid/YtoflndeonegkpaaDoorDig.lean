/- natural.digit. -/
import Derived.Test.YtoflndeonegkpaaDoorOps
import Derived.Test.YtoflndeonegkpaaDoorNum
namespace Go.Proofs.YtoflndeonegkpaaDoor
open Go.RowKit

section
variable {w : World} {g off j : Nat} {L R : List Nat}
theorem splice_getD (hl : off + R.length ≤ L.length) (hj : j < R.length) : (splice L off R).getD (off + j) 0 = R.getD j 0 := by
  unfold splice
  have e : (L.take off).length = off := by rw [List.length_take]; omega
  rw [List.getD_eq_getElem?_getD, List.getElem?_append_right (by omega), e, show off + j - off = j by omega, List.getElem?_append_left hj, ← List.getD_eq_getElem?_getD]
theorem splice_set (x : Nat) (hl : off + R.length ≤ L.length) (hj : j < R.length) : (splice L off R).set (off + j) x = splice L off (R.set j x) := by
  unfold splice
  have e : (L.take off).length = off := by rw [List.length_take]; omega
  rw [List.set_append_right _ _ (by omega), e, show off + j - off = j by omega, List.set_append_left _ _ hj, List.length_set]
theorem splice_self {n : Nat} (_hl : off + n ≤ L.length) : splice L off ((L.drop off).take n) = L := by
  unfold splice
  have e : ((L.drop off).take n).length = n := by rw [List.length_take, List.length_drop]; omega
  rw [e, ← List.drop_drop, List.take_append_drop, List.take_append_drop]
theorem Lim.splice (hL : Lim L) (hR : Lim R) : Lim (splice L off R) := (hL.take _).append (hR.append (hL.drop _))
end

/-- The row gu bears R from off on; nothing else has turned since w. -/
structure InRow (w wr : World) (gu : Nat) (L : List Nat) (off : Nat) (R : List Nat) : Prop where
  own : Own wr gu (splice L off R)
  grown : w.grownBy wr (some gu)
  size : wr.heap.size = w.heap.size
theorem InRow.cell {w wr : World} {gu off j : Nat} {L R : List Nat} (h : InRow w wr gu L off R) (hl : off + R.length ≤ L.length) (hj : j < R.length) : wr.cell? ⟨gu, off + j, none⟩ = some (.int .u32 (R.getD j 0 : Nat)) := by
  rw [h.own.cell (by rw [length_splice _ _ _ hl]; omega), splice_getD hl hj]
theorem InRow.set {w wr : World} {gu off j : Nat} {L R : List Nat} (h : InRow w wr gu L off R) (hl : off + R.length ≤ L.length) (hj : j < R.length) (x : Nat) : InRow w (wr.setCell ⟨gu, off + j, none⟩ (.int .u32 (x : Int))) gu L off (R.set j x) :=
  ⟨by rw [← splice_set x hl hj]; exact h.own.set _ _, ⟨h.grown.os, h.grown.tape, h.grown.output, by simpa [World.setCell] using h.grown.size, fun k hk hne => (Below.heap_setCell wr ⟨gu, off + j, none⟩ _ k (fun e => hne (by rw [e]))).trans (h.grown.block k hk hne)⟩, by simpa [World.setCell] using h.size⟩
theorem InRow.drewN {w wr : World} {gu off : Nat} {L R : List Nat} (h : InRow w wr gu L off R) (n : Nat) : InRow w (wr.drewN n) gu L off R :=
  ⟨h.own, ⟨h.grown.os, h.grown.tape, h.grown.output, h.grown.size, h.grown.block⟩, h.size⟩
theorem InRow.far {w wr : World} {gu off : Nat} {L R : List Nat} (h : InRow w wr gu L off R) {p : Addr} (hp : p.block ≠ gu) (hz : p.block < w.heap.size) : wr.cell? p = w.cell? p :=
  World.cell?_of_block (h.grown.block p.block hz (fun e => hp (by injection e)))

theorem sub_words2 {a t b : Nat} (ha : a < 4294967296) (hb : b ≤ 1) : ∃ d c : Nat, IntKind.u64.wrap (IntKind.u64.wrap ((a : Int) - ((t : Nat) : Int) % 4294967296) - b) / 9223372036854775808 = (c : Int) ∧
    IntKind.u64.wrap (IntKind.u64.wrap ((a : Int) - ((t : Nat) : Int) % 4294967296) - b) % 4294967296 = (d : Int) ∧ c ≤ 1 ∧ d < 4294967296 ∧ d + t % 4294967296 + b = a + 4294967296 * c := by
  rw [IntKind.wrap_u64, IntKind.wrap_u64]
  by_cases h : t % 4294967296 + b ≤ a
  · exact ⟨a - t % 4294967296 - b, 0, by omega, by omega, by omega, by omega, by omega⟩
  · exact ⟨a + 4294967296 - t % 4294967296 - b, 1, by omega, by omega, by omega, by omega, by omega⟩
theorem sub_words3 {a c b : Nat} (ha : a < 4294967296) (hc : c < 4294967296) (hb : b ≤ 1) (h : ¬ c + b ≤ a) : ∃ Z : Nat, IntKind.u64.wrap (IntKind.u64.wrap ((a : Int) - c) - b) = (Z : Int) ∧
    Z < 18446744073709551616 ∧ ((Z : Int) / 9223372036854775808 == 0) = false ∧ Z % 4294967296 + c + b = a + 4294967296 := by
  rw [IntKind.wrap_u64, IntKind.wrap_u64]
  refine ⟨a + 18446744073709551616 - c - b, by omega, by omega, ?_, by omega⟩
  rw [beq_eq_false_iff_ne]
  omega
/-- digit's result. -/
def GivesDigit (w : World) (gu : Nat) (L : List Nat) (off n : Nat) (us vs : List Nat) (e : Ending) (w' : World) : Prop :=
  ∃ R : List Nat, e = .returned (.int .u32 (val us / val vs : Nat)) ∧ InRow w w' gu L off R ∧ R.length = n + 1 ∧ Lim R ∧ val R = val us % val vs

set_option maxRecDepth 100000 in
set_option maxHeartbeats 4000000 in
theorem digit_any (gu gv off cu cv m : Nat) (L us vs : List Nat) (w : World) (hO : Own w gu (splice L off us)) (hoff : off + (m + 3) ≤ L.length) (hm : m ≤ 1000000) (hne : gv ≠ gu) (hgv : gv < w.heap.size)
    (hvc : ∀ j, j < m + 2 → w.cell? ⟨gv, j, none⟩ = some (.int .u32 (vs.getD j 0 : Nat))) (hin : DigIn us vs (m + 2)) :
    Calls Tryd.prog 63 #[.slice (some ⟨gu, off, none⟩) (m + 3) cu, .slice (some ⟨gv, 0, none⟩) (m + 2) cv] w (GivesDigit w gu L off (m + 2) us vs) := by
  have HIN := Lib.hid hin
  have HO := Lib.hid hO
  have hul := hin.ul
  have hI : InRow w w gu L off us := ⟨hO, World.grownBy.refl _ _, rfl⟩
  have hc0 := hI.cell (j := m + 2) (by omega) (by omega)
  have hc1 := hI.cell (j := m + 1) (by omega) (by omega)
  have hd1 := hvc (m + 1) (by omega)
  have HI := Lib.hid hI
  have HVC := Lib.hid hvc
  have l0 := hin.limU.get (m + 2)
  have l1 := hin.limU.get (m + 1)
  have k1 := hin.limV.get (m + 1)
  have hhi := hin.high
  rw [show m + 2 - 1 = m + 1 from by omega] at hhi
  have HST := Lib.hid (Est.start hin)
  rw [show m + 2 - 1 = m + 1 from by omega] at HST
  have HUL := Lib.hid hul
  have HHH := Lib.hid hhi
  have hor := or_u64 (a := us.getD (m + 2) 0) l1 l0
  rw [show us.getD (m + 2) 0 * 4294967296 + us.getD (m + 1) 0 = dtop us (m + 2) from rfl] at hor
  clear hin hO hI hvc hul
  obtain ⟨u0, e0⟩ : ∃ x : Nat, x = us.getD (m + 2) 0 := ⟨_, rfl⟩
  obtain ⟨u1, e1⟩ : ∃ x : Nat, x = us.getD (m + 1) 0 := ⟨_, rfl⟩
  obtain ⟨v1, f1⟩ : ∃ x : Nat, x = vs.getD (m + 1) 0 := ⟨_, rfl⟩
  obtain ⟨top, et⟩ : ∃ x : Nat, x = dtop us (m + 2) := ⟨_, rfl⟩
  have htl : top < 18446744073709551616 := by rw [et]; unfold dtop; rw [show m + 2 - 1 = m + 1 from by omega]; omega
  rw [← e0] at hc0 l0 hor
  rw [← e1] at hc1 l1 hor
  rw [← f1] at hd1 k1 hhi HST
  rw [← et] at hor HST
  have E0 := Lib.hid e0
  have E1 := Lib.hid e1
  have F1 := Lib.hid f1
  have ET := Lib.hid et
  clear e0 e1 f1 et
  have hq0 : (top : Int) / (v1 : Int) = ((top / v1 : Nat) : Int) := (Int.natCast_ediv ..).symm
  have hr0 : (top : Int) % (v1 : Int) = ((top % v1 : Nat) : Int) := (Int.natCast_emod ..).symm
  have q33 := HST.out.q33
  have r33 := HST.out.r33
  obtain ⟨q0, eq0⟩ : ∃ x : Nat, x = top / v1 := ⟨_, rfl⟩
  obtain ⟨r0, er0⟩ : ∃ x : Nat, x = top % v1 := ⟨_, rfl⟩
  rw [← eq0] at hq0 q33 HST
  rw [← er0] at hr0 r33 HST
  clear eq0 er0
  go_enter Tryd.func63, Tryd.ntmps63
  go_wp2
  go_quiet (fail)
  go_wp2
  go_quiet (fail)
  go_wp2
  go_loopw [8, 9] (fun sq sr wr => ∃ (q r k : Nat), sq = .int .u64 q ∧ sr = .int .u64 r ∧ wr = w.drewN k ∧ Est us vs (m + 2) q r) (fun _ sr _ => (4294967296 - intOf sr).toNat)
  case atStart => exact ⟨q0, r0, _, rfl, congrArg (Value.int .u64) hr0, World.drewN_drewN .., by have := HST.out; rw [ET.out, F1.out] at *; exact this⟩
  case round =>
    clear hc0 hc1 hd1 l0 l1 hor htl hq0 hr0 q33 r33
    obtain ⟨q, r, k, rfl, rfl, hw, hE⟩ := hrel
    have HW := Lib.hid hw
    have HE := Lib.hid hE
    have q33 := hE.q33
    have r33 := hE.r33
    have hc2 : wr.cell? ⟨gu, off + m, none⟩ = some (.int .u32 (us.getD m 0 : Nat)) := by rw [hw]; exact HI.out.cell (by have := HUL.out; omega) (by have := HUL.out; omega)
    have hd2 : wr.cell? ⟨gv, m, none⟩ = some (.int .u32 (vs.getD m 0 : Nat)) := by rw [hw]; exact HVC.out m (by omega)
    have l2 := HIN.out.limU.get m
    have k2 := HIN.out.limV.get m
    clear hw hE
    obtain ⟨u2, e2⟩ : ∃ x : Nat, x = us.getD m 0 := ⟨_, rfl⟩
    obtain ⟨v2, f2⟩ : ∃ x : Nat, x = vs.getD m 0 := ⟨_, rfl⟩
    rw [← e2] at hc2 l2
    rw [← f2] at hd2 k2
    have E2 := Lib.hid e2
    have F2 := Lib.hid f2
    clear e2 f2
    have hv1 : v1 < 4294967296 := k1
    by_cases hr : r < 4294967296
    · by_cases hq : 4294967296 ≤ q
      · have t1 : decide ((r : Int) < 4294967296) = true := by simp; omega
        have t2 : decide ((4294967296 : Int) ≤ (q : Int)) = true := by simp; omega
        go_wp2
        go_quiet (fail)
        go_wp2
        have hn := HE.out.lower1 HIN.out hq hr
        rw [show m + 2 - 1 = m + 1 from by omega, ← F1.out] at hn
        go_roundw
        case rel => exact ⟨q - 1, r + v1, k + nq, congrArg (Value.int .u64) (by omega), by go_num, by rw [HW.out, World.drewN_drewN], hn⟩
        case measure => simp [intOf]; omega
      · have t1 : decide ((r : Int) < 4294967296) = true := by simp; omega
        have t2 : decide ((4294967296 : Int) ≤ (q : Int)) = false := by simp; omega
        have hql : q < 4294967296 := by omega
        have hor := or_u64 (a := r) l2 hr
        obtain ⟨T, hT⟩ : ∃ T : Nat, T = r * 4294967296 + u2 := ⟨_, rfl⟩
        obtain ⟨p, hp⟩ : ∃ p : Nat, p = q * v2 := ⟨_, rfl⟩
        have hpl := mul_le hql k2
        have hTl : T < 18446744073709551616 := by omega
        rw [← hp] at hpl
        have hpi : (q : Int) * (v2 : Int) = (p : Int) := by rw [hp]; push_cast; rfl
        rw [← hT] at hor
        have HT := Lib.hid hT
        have HP := Lib.hid hp
        clear hT hp
        by_cases htp : T < p
        · have t3 : decide ((T : Int) < (p : Int)) = true := by simp; omega
          go_wp2
          go_quiet (fail)
          go_wp2
          have hq1 : 1 ≤ q := by
            rcases Nat.eq_zero_or_pos q with h0 | h0
            · have := HP.out; rw [h0, Nat.zero_mul] at this; omega
            · exact h0
          have hn := HE.out.lower2 HIN.out hr (by rw [show m + 2 - 2 = m from by omega, ← E2.out, ← F2.out, ← HT.out, ← HP.out]; exact htp)
          rw [show m + 2 - 1 = m + 1 from by omega, ← F1.out] at hn
          go_roundw
          case rel => exact ⟨q - 1, r + v1, k + nq, congrArg (Value.int .u64) (by rw [IntKind.wrap_u64]; omega), by go_num, by rw [HW.out, World.drewN_drewN], hn⟩
          case measure => simp [intOf]; omega
        · have t3 : decide ((T : Int) < (p : Int)) = false := by simp; omega
          go_wp2
          go_quiet (fail)
          go_wp2
          have hfin := HE.out.fin HIN.out (.inr ⟨hql, by rw [show m + 2 - 2 = m from by omega, ← E2.out, ← F2.out, ← HT.out, ← HP.out]; omega⟩)
          have hql2 := hfin.1
          have HQ := Lib.hid hfin.2
          clear hfin hql hor hpi hpl hTl HT HP t1 t2 t3 htp hq hr hc2 hd2 l2 k2 E2 F2 q33 r33 HE
          go_loopw [10, 11, 78] (fun sc sb si wr => ∃ (i c b : Nat) (R : List Nat), i ≤ m + 2 ∧ si = .int .i64 i ∧ sc = .int .u64 c ∧ sb = .int .u64 b ∧ c < 4294967296 ∧ b ≤ 1 ∧ InRow w wr gu L off R ∧ MSub us vs R (m + 2) q i c b) (fun _ _ si _ => m + 2 - (intOf si).toNat)
          case atStart => exact ⟨0, 0, 0, us, Nat.zero_le _, rfl, rfl, rfl, by omega, by omega, by rw [HW.out]; exact (HI.out.drewN _).drewN _, HUL.out, HIN.out.limU, rfl, by simp [val]⟩
          case round =>
            clear HW
            obtain ⟨i, c, b, R, hi, rfl, rfl, rfl, hcl, hbl, hR, hM⟩ := hrel
            have hRl := hM.len
            by_cases hlt : i < m + 2
            · have hcu2 := hR.cell (j := i) (by omega) (by omega)
              have hfr := hR.own.frozen (off + i)
              have hcv2 : wr.cell? ⟨gv, i, none⟩ = some (.int .u32 (vs.getD i 0 : Nat)) := (hR.far (p := ⟨gv, i, none⟩) hne hgv).trans (HVC.out i hlt)
              have la := hM.lim.get i
              have ly := HIN.out.limV.get i
              have HR := Lib.hid (fun d : Nat => hR.set (j := i) (by omega) (by omega) d)
              have HM := Lib.hid hM
              clear hR hM hRl
              obtain ⟨a, ea⟩ : ∃ x : Nat, x = R.getD i 0 := ⟨_, rfl⟩
              obtain ⟨y, ey⟩ : ∃ x : Nat, x = vs.getD i 0 := ⟨_, rfl⟩
              rw [← ea] at hcu2 la
              rw [← ey] at hcv2 ly
              have EA := Lib.hid ea
              have EY := Lib.hid ey
              clear ea ey
              obtain ⟨p2, hp2⟩ : ∃ p : Nat, p = q * y := ⟨_, rfl⟩
              have hpl2 := mul_le hql2 ly
              rw [← hp2] at hpl2
              have hpi2 : (q : Int) * (y : Int) = (p2 : Int) := by rw [hp2]; push_cast; rfl
              have HP2 := Lib.hid hp2
              clear hp2
              go_wp2
              obtain ⟨d, nb, x1, x2, x3, x4, x5⟩ := sub_words2 (a := a) (t := c + p2) la hbl
              have hcast : (((c + p2 : Nat) : Int)) = (c : Int) + (p2 : Int) := by omega
              rw [hcast] at x1 x2
              go_roundw
              case rel => exact ⟨i + 1, (c + p2) / 4294967296, nb, R.set i d, by omega, by go_num, congrArg (Value.int .u64) (by omega), congrArg (Value.int .u64) x1, by omega, x3, by rw [x2]; exact HR.out d, HM.out.step hlt x4 (by rw [← EY.out, ← HP2.out]) (by rw [← EA.out]; exact x5)⟩
              case measure => simp [intOf]; omega
            · have him : i = m + 2 := by omega
              subst him
              have hcu2 := hR.cell (j := m + 2) (by omega) (by omega)
              have hfr := hR.own.frozen (off + (m + 2))
              have la := hM.lim.get (m + 2)
              have HR := Lib.hid (fun d : Nat => hR.set (j := m + 2) (by omega) (by omega) d)
              have HM := Lib.hid hM
              have HRL := Lib.hid hRl
              clear hR hM hRl
              obtain ⟨a, ea⟩ : ∃ x : Nat, x = R.getD (m + 2) 0 := ⟨_, rfl⟩
              rw [← ea] at hcu2 la
              have EA := Lib.hid ea
              clear ea
              by_cases hcb : c + b ≤ a
              · go_wp2
                go_ret
                obtain ⟨y1, y2⟩ := HM.out.right (d := a - c - b) HIN.out HQ.out (by rw [← EA.out]; omega)
                have h3 := HR.out (a - c - b)
                rw [show ((a - c - b : Nat) : Int) = (a : Int) - c - b from by omega] at h3
                exact ⟨R.set (m + 2) (a - c - b), congrArg (fun n : Nat => Ending.returned (Value.int .u32 (n : Int))) y1, h3, by rw [List.length_set]; exact HRL.out, HM.out.lim.set _ (by omega), y2⟩
              · obtain ⟨Z, hZ, hZ1, hZ2, hZ3⟩ := sub_words3 (a := a) (c := c) (b := b) la hcl hbl hcb
                have HZ3 := Lib.hid hZ3
                have hdm := HZ3.out
                clear hZ3
                obtain ⟨d, ed⟩ : ∃ d : Nat, d = Z % 4294967296 := ⟨_, rfl⟩
                have hdi : (Z : Int) % 4294967296 = (d : Int) := by omega
                have hdl : d < 4294967296 := by omega
                have HDS : Hid (d + c + b = a + 4294967296) := by show d + c + b = a + 4294967296; omega
                clear ed hdm
                have HR3 := Lib.hid (HR.out d)
                have HA0 : Hid (MAdd vs (R.set (m + 2) d) (R.set (m + 2) d) (m + 2) 0 0) := ⟨by rw [List.length_set]; exact HRL.out, HM.out.lim.set _ hdl, rfl, by simp [val]⟩
                go_wp2
                go_loopw [10, 131] (fun sc si wr => ∃ (i c2 : Nat) (R2 : List Nat), i ≤ m + 2 ∧ si = .int .i64 i ∧ sc = .int .u64 c2 ∧ c2 ≤ 1 ∧ InRow w wr gu L off R2 ∧ MAdd vs (R.set (m + 2) d) R2 (m + 2) i c2) (fun _ si _ => m + 2 - (intOf si).toNat)
                case atStart => exact ⟨0, 0, R.set (m + 2) d, Nat.zero_le _, rfl, rfl, by omega, HR3.out, HA0.out⟩
                case round =>
                  clear hcu2 hfr
                  obtain ⟨i, c2, R2, hi, rfl, rfl, hc2l, hR, hM⟩ := hrel
                  have hRl := hM.len
                  by_cases hlt : i < m + 2
                  · have hcu2 := hR.cell (j := i) (by omega) (by omega)
                    have hfr := hR.own.frozen (off + i)
                    have hcv2 : wr.cell? ⟨gv, i, none⟩ = some (.int .u32 (vs.getD i 0 : Nat)) := (hR.far (p := ⟨gv, i, none⟩) hne hgv).trans (HVC.out i hlt)
                    have la2 := hM.lim.get i
                    have ly := HIN.out.limV.get i
                    have HR4 := Lib.hid (fun d : Nat => hR.set (j := i) (by omega) (by omega) d)
                    have HM4 := Lib.hid hM
                    clear hR hM hRl
                    obtain ⟨a2, ea⟩ : ∃ x : Nat, x = R2.getD i 0 := ⟨_, rfl⟩
                    obtain ⟨y, ey⟩ : ∃ x : Nat, x = vs.getD i 0 := ⟨_, rfl⟩
                    rw [← ea] at hcu2 la2
                    rw [← ey] at hcv2 ly
                    have EA2 := Lib.hid ea
                    have EY := Lib.hid ey
                    clear ea ey
                    go_wp2
                    have e1 : (((c2 + (a2 + y)) % 4294967296 : Nat) : Int) = ((c2 : Int) + ((a2 : Int) + (y : Int))) % 4294967296 := by omega
                    go_roundw
                    case rel => exact ⟨i + 1, (c2 + (a2 + y)) / 4294967296, _, by omega, by go_num, congrArg (Value.int .u64) (by omega), by omega, by rw [← e1]; exact HR4.out _, HM4.out.step hlt (by rw [← EA2.out, ← EY.out])⟩
                    case measure => simp [intOf]; omega
                  · have him : i = m + 2 := by omega
                    subst him
                    have hcu2 := hR.cell (j := m + 2) (by omega) (by omega)
                    have hfr := hR.own.frozen (off + (m + 2))
                    have la2 := hM.lim.get (m + 2)
                    have HR4 := Lib.hid (fun d : Nat => hR.set (j := m + 2) (by omega) (by omega) d)
                    have HM4 := Lib.hid hM
                    have HRL4 := Lib.hid hRl
                    clear hR hM hRl
                    obtain ⟨a2, ea⟩ : ∃ x : Nat, x = R2.getD (m + 2) 0 := ⟨_, rfl⟩
                    rw [← ea] at hcu2 la2
                    have EA2 := Lib.hid ea
                    clear ea
                    have hbk := HM.out.back HIN.out HQ.out (by rw [← EA.out]; exact HDS.out) (by rw [← EA.out]; omega) HM4.out
                    have hq1 : 1 ≤ q := by rw [hbk.1]; exact Nat.le_add_left _ _
                    have HBK := Lib.hid hbk
                    clear hbk
                    go_wp2
                    go_ret
                    have e1 : (((a2 + c2) % 4294967296 : Nat) : Int) = ((a2 : Int) + (c2 : Int)) % 4294967296 := by omega
                    have h5 := HR4.out ((a2 + c2) % 4294967296)
                    rw [e1] at h5
                    have h6 := HBK.out.2
                    rw [← EA2.out] at h6
                    have h7 : q - 1 = val us / val vs := by rw [HBK.out.1]; rfl
                    have h8 : (q : Int) - 1 = ((q - 1 : Nat) : Int) := by omega
                    refine ⟨R2.set (m + 2) ((a2 + c2) % 4294967296), ?_, h5, by rw [List.length_set]; exact HRL4.out, HM4.out.lim.set _ (by omega), h6⟩
                    rw [← h7, ← h8]
                    rfl
    · have t1 : decide ((r : Int) < 4294967296) = false := by simp; omega
      go_wp2
      go_quiet (fail)
      go_wp2
      have hfin := HE.out.fin HIN.out (.inl (by omega))
      have hql2 := hfin.1
      have HQ := Lib.hid hfin.2
      clear hfin t1 hr hc2 hd2 l2 k2 E2 F2 q33 r33 HE
      go_loopw [10, 11, 78] (fun sc sb si wr => ∃ (i c b : Nat) (R : List Nat), i ≤ m + 2 ∧ si = .int .i64 i ∧ sc = .int .u64 c ∧ sb = .int .u64 b ∧ c < 4294967296 ∧ b ≤ 1 ∧ InRow w wr gu L off R ∧ MSub us vs R (m + 2) q i c b) (fun _ _ si _ => m + 2 - (intOf si).toNat)
      case atStart => exact ⟨0, 0, 0, us, Nat.zero_le _, rfl, rfl, rfl, by omega, by omega, by rw [HW.out]; exact (HI.out.drewN _).drewN _, HUL.out, HIN.out.limU, rfl, by simp [val]⟩
      case round =>
        clear HW
        obtain ⟨i, c, b, R, hi, rfl, rfl, rfl, hcl, hbl, hR, hM⟩ := hrel
        have hRl := hM.len
        by_cases hlt : i < m + 2
        · have hcu2 := hR.cell (j := i) (by omega) (by omega)
          have hfr := hR.own.frozen (off + i)
          have hcv2 : wr.cell? ⟨gv, i, none⟩ = some (.int .u32 (vs.getD i 0 : Nat)) := (hR.far (p := ⟨gv, i, none⟩) hne hgv).trans (HVC.out i hlt)
          have la := hM.lim.get i
          have ly := HIN.out.limV.get i
          have HR := Lib.hid (fun d : Nat => hR.set (j := i) (by omega) (by omega) d)
          have HM := Lib.hid hM
          clear hR hM hRl
          obtain ⟨a, ea⟩ : ∃ x : Nat, x = R.getD i 0 := ⟨_, rfl⟩
          obtain ⟨y, ey⟩ : ∃ x : Nat, x = vs.getD i 0 := ⟨_, rfl⟩
          rw [← ea] at hcu2 la
          rw [← ey] at hcv2 ly
          have EA := Lib.hid ea
          have EY := Lib.hid ey
          clear ea ey
          obtain ⟨p2, hp2⟩ : ∃ p : Nat, p = q * y := ⟨_, rfl⟩
          have hpl2 := mul_le hql2 ly
          rw [← hp2] at hpl2
          have hpi2 : (q : Int) * (y : Int) = (p2 : Int) := by rw [hp2]; push_cast; rfl
          have HP2 := Lib.hid hp2
          clear hp2
          go_wp2
          obtain ⟨d, nb, x1, x2, x3, x4, x5⟩ := sub_words2 (a := a) (t := c + p2) la hbl
          have hcast : (((c + p2 : Nat) : Int)) = (c : Int) + (p2 : Int) := by omega
          rw [hcast] at x1 x2
          go_roundw
          case rel => exact ⟨i + 1, (c + p2) / 4294967296, nb, R.set i d, by omega, by go_num, congrArg (Value.int .u64) (by omega), congrArg (Value.int .u64) x1, by omega, x3, by rw [x2]; exact HR.out d, HM.out.step hlt x4 (by rw [← EY.out, ← HP2.out]) (by rw [← EA.out]; exact x5)⟩
          case measure => simp [intOf]; omega
        · have him : i = m + 2 := by omega
          subst him
          have hcu2 := hR.cell (j := m + 2) (by omega) (by omega)
          have hfr := hR.own.frozen (off + (m + 2))
          have la := hM.lim.get (m + 2)
          have HR := Lib.hid (fun d : Nat => hR.set (j := m + 2) (by omega) (by omega) d)
          have HM := Lib.hid hM
          have HRL := Lib.hid hRl
          clear hR hM hRl
          obtain ⟨a, ea⟩ : ∃ x : Nat, x = R.getD (m + 2) 0 := ⟨_, rfl⟩
          rw [← ea] at hcu2 la
          have EA := Lib.hid ea
          clear ea
          by_cases hcb : c + b ≤ a
          · go_wp2
            go_ret
            obtain ⟨y1, y2⟩ := HM.out.right (d := a - c - b) HIN.out HQ.out (by rw [← EA.out]; omega)
            have h3 := HR.out (a - c - b)
            rw [show ((a - c - b : Nat) : Int) = (a : Int) - c - b from by omega] at h3
            exact ⟨R.set (m + 2) (a - c - b), congrArg (fun n : Nat => Ending.returned (Value.int .u32 (n : Int))) y1, h3, by rw [List.length_set]; exact HRL.out, HM.out.lim.set _ (by omega), y2⟩
          · obtain ⟨Z, hZ, hZ1, hZ2, hZ3⟩ := sub_words3 (a := a) (c := c) (b := b) la hcl hbl hcb
            have HZ3 := Lib.hid hZ3
            have hdm := HZ3.out
            clear hZ3
            obtain ⟨d, ed⟩ : ∃ d : Nat, d = Z % 4294967296 := ⟨_, rfl⟩
            have hdi : (Z : Int) % 4294967296 = (d : Int) := by omega
            have hdl : d < 4294967296 := by omega
            have HDS : Hid (d + c + b = a + 4294967296) := by show d + c + b = a + 4294967296; omega
            clear ed hdm
            have HR3 := Lib.hid (HR.out d)
            have HA0 : Hid (MAdd vs (R.set (m + 2) d) (R.set (m + 2) d) (m + 2) 0 0) := ⟨by rw [List.length_set]; exact HRL.out, HM.out.lim.set _ hdl, rfl, by simp [val]⟩
            go_wp2
            go_loopw [10, 131] (fun sc si wr => ∃ (i c2 : Nat) (R2 : List Nat), i ≤ m + 2 ∧ si = .int .i64 i ∧ sc = .int .u64 c2 ∧ c2 ≤ 1 ∧ InRow w wr gu L off R2 ∧ MAdd vs (R.set (m + 2) d) R2 (m + 2) i c2) (fun _ si _ => m + 2 - (intOf si).toNat)
            case atStart => exact ⟨0, 0, R.set (m + 2) d, Nat.zero_le _, rfl, rfl, by omega, HR3.out, HA0.out⟩
            case round =>
              clear hcu2 hfr
              obtain ⟨i, c2, R2, hi, rfl, rfl, hc2l, hR, hM⟩ := hrel
              have hRl := hM.len
              by_cases hlt : i < m + 2
              · have hcu2 := hR.cell (j := i) (by omega) (by omega)
                have hfr := hR.own.frozen (off + i)
                have hcv2 : wr.cell? ⟨gv, i, none⟩ = some (.int .u32 (vs.getD i 0 : Nat)) := (hR.far (p := ⟨gv, i, none⟩) hne hgv).trans (HVC.out i hlt)
                have la2 := hM.lim.get i
                have ly := HIN.out.limV.get i
                have HR4 := Lib.hid (fun d : Nat => hR.set (j := i) (by omega) (by omega) d)
                have HM4 := Lib.hid hM
                clear hR hM hRl
                obtain ⟨a2, ea⟩ : ∃ x : Nat, x = R2.getD i 0 := ⟨_, rfl⟩
                obtain ⟨y, ey⟩ : ∃ x : Nat, x = vs.getD i 0 := ⟨_, rfl⟩
                rw [← ea] at hcu2 la2
                rw [← ey] at hcv2 ly
                have EA2 := Lib.hid ea
                have EY := Lib.hid ey
                clear ea ey
                go_wp2
                have e1 : (((c2 + (a2 + y)) % 4294967296 : Nat) : Int) = ((c2 : Int) + ((a2 : Int) + (y : Int))) % 4294967296 := by omega
                go_roundw
                case rel => exact ⟨i + 1, (c2 + (a2 + y)) / 4294967296, _, by omega, by go_num, congrArg (Value.int .u64) (by omega), by omega, by rw [← e1]; exact HR4.out _, HM4.out.step hlt (by rw [← EA2.out, ← EY.out])⟩
                case measure => simp [intOf]; omega
              · have him : i = m + 2 := by omega
                subst him
                have hcu2 := hR.cell (j := m + 2) (by omega) (by omega)
                have hfr := hR.own.frozen (off + (m + 2))
                have la2 := hM.lim.get (m + 2)
                have HR4 := Lib.hid (fun d : Nat => hR.set (j := m + 2) (by omega) (by omega) d)
                have HM4 := Lib.hid hM
                have HRL4 := Lib.hid hRl
                clear hR hM hRl
                obtain ⟨a2, ea⟩ : ∃ x : Nat, x = R2.getD (m + 2) 0 := ⟨_, rfl⟩
                rw [← ea] at hcu2 la2
                have EA2 := Lib.hid ea
                clear ea
                have hbk := HM.out.back HIN.out HQ.out (by rw [← EA.out]; exact HDS.out) (by rw [← EA.out]; omega) HM4.out
                have hq1 : 1 ≤ q := by rw [hbk.1]; exact Nat.le_add_left _ _
                have HBK := Lib.hid hbk
                clear hbk
                go_wp2
                go_ret
                have e1 : (((a2 + c2) % 4294967296 : Nat) : Int) = ((a2 : Int) + (c2 : Int)) % 4294967296 := by omega
                have h5 := HR4.out ((a2 + c2) % 4294967296)
                rw [e1] at h5
                have h6 := HBK.out.2
                rw [← EA2.out] at h6
                have h7 : q - 1 = val us / val vs := by rw [HBK.out.1]; rfl
                have h8 : (q : Int) - 1 = ((q - 1 : Nat) : Int) := by omega
                refine ⟨R2.set (m + 2) ((a2 + c2) % 4294967296), ?_, h5, by rw [List.length_set]; exact HRL4.out, HM4.out.lim.set _ (by omega), h6⟩
                rw [← h7, ← h8]
                rfl
end Go.Proofs.YtoflndeonegkpaaDoor
