/- strconv.FormatUint at base 10. -/
import Derived.Test.YtelcjcgalkcadaaDoorParse
import Derived.Test.YtelcjcgalkcadaaDoorShelf
import Derived.Lib.Walk
import Derived.Lib.ItoaMem
import Derived.BigCall
import Derived.BigGuard
import Derived.WalkSmall
namespace Go.Proofs.YtelcjcgalkcadaaDoor
open Go.RowKit Go.Sort Go.Lib

/-- The library's table of powers of ten holds what its text lays. -/
def Tab (w : World) : Prop := Lib.TabIs Tryd.prog w "internal/strconv.uint64pow10" .u64 Lib.pow10Tab
theorem Tab.below {w w' : World} (h : Tab w) (hb : Below w.heap.size w w') : Tab w' := by
  unfold Tab Lib.TabIs at *
  have hg : Tryd.prog.globalNamed "internal/strconv.uint64pow10" = some 0 := by kernel_rfl
  refine var?_below hb hg ?_ h
  rcases Nat.lt_or_ge 0 w.heap.size with h' | h'
  · exact h'
  · unfold World.var? at h
    simp only [hg, Option.bind_some] at h
    rw [Array.getElem?_eq_none h'] at h; simp at h
/-- A function's result: a string; nothing that was there has turned. -/
def GivesStr (w : World) (l : List UInt8) (e : Ending) (w' : World) : Prop := e = .returned (.string ⟨l.toArray⟩) ∧ Below w.heap.size w w'

theorem holds_zero0 (w : World) (T : TypeId) (nd : Nat) (hs : nd ≤ 24) : Holds (fun (b : UInt8) => Value.int .u8 (b.toNat : Int)) (w.alloc (.cells zeros24 T)) w.heap.size 0 (Array.replicate nd (0 : UInt8)) := fun j hj => by
  have hj' : j < nd := by simpa using hj
  refine ⟨?_, World.frozen?_alloc_new _ _ _ _⟩
  rw [World.cell?_alloc_new, zeros24_at _ (by omega), getElem!_pos _ j hj]
  simp

theorem below_putRow {α : Type} [Inhabited α] (enc : α → Value) {B : Nat} (w : World) (blk off : Nat) (d : Array α) (h : B ≤ blk) : Below B w (putRow enc w blk off d) :=
  ⟨rfl, rfl, rfl, by simp, fun k hk => by
    unfold putRow mapBlock
    simp only [Array.getElem?_modify]
    rw [if_neg (by omega)]⟩
set_option maxHeartbeats 2000000 in
set_option maxRecDepth 100000 in
theorem ifmt_any (u : Nat) (w : World) (hu : u < 18446744073709551616) (htab : Tab w) : Calls Tryd.prog 60 #[.int .u64 u, .int .i64 10] w (GivesStr w (decDigits u)) := by
  have HT := Lib.hid htab
  clear htab
  by_cases hs : u < 100
  · go_enter Tryd.func60, Tryd.ntmps60
    go_wp2_with (go_at_call 67; refine (Tryd.internal_strconv_small u hs _).mono ?_; rintro e w' ⟨rfl, rfl⟩)
    go_ret
    exact ⟨rfl, Below.refl _ _⟩
  · have hu1 : 1 ≤ u := by omega
    have hnd20 : Lib.nDigits u ≤ 20 := by have := Lib.numDigits_eq u hu1 hu; split at this <;> omega
    have hal : Tryd.prog.arrayLen 80 = 24 := by kernel_rfl
    have hund : Tryd.prog.underlying 80 = some (.array 24 5) := by kernel_rfl
    have hsl : ∀ W, (Instr.sliceAt 80 (.pointer (some ⟨w.heap.size, 0, none⟩)) none (some (.int .i64 (Lib.nDigits u : Int))) none).run Tryd.prog W = .ok (.slice (some ⟨w.heap.size, 0, none⟩) (Lib.nDigits u) 24) W := fun W => by
      rw [run_sliceAt_array_h W 80 ⟨w.heap.size, 0, none⟩ (by simp [Program.arrayLen, Program.elem, hund]) .i64 (Lib.nDigits u : Int) (by omega) (by rw [hal]; omega)]
      go_simp
    have hdc : decide ((u : Int) < 100) = false := by simp; omega
    have hH0 := holds_zero0 w 80 (Lib.nDigits u) (by omega)
    have hfmt := Tryd.internal_strconv_formatBase10 w.heap.size 0 24 u (Array.replicate (Lib.nDigits u) 0) (w.alloc (.cells Lib.zeros24 80)) hH0 (by rw [Array.size_replicate]; exact Lib.lt_pow_nDigits u) hu (by rw [Array.size_replicate]; omega)
    rw [Array.size_replicate] at hfmt
    have HH0 := Lib.hid hH0
    have HF := Lib.hid hfmt
    clear hH0 hfmt hal hund
    go_enter Tryd.func60, Tryd.ntmps60
    go_wp2_with (go_at_call 68; refine (Tryd.internal_strconv_numDigits u hu1 hu _ (Lib.tabIs_alloc HT.out _)).mono ?_; rintro e w' ⟨rfl, rfl⟩)
    go_at_call 69
    refine HF.out.mono ?_
    rintro e w' ⟨rfl, k, v', dk, hw, hF⟩
    have hcv : (convert 63 9 (.slice (some ⟨w.heap.size, 0, none⟩) (Lib.nDigits u) 24)).run Tryd.prog w' = .ok (.string ⟨(Lib.decDigits u).toArray⟩) w' := by
      have h := run_convert_bytes_back (P := Tryd.prog) w' 63 9 5 ⟨w.heap.size, 0, none⟩ 24 (Lib.decDigits u) (by kernel_rfl) (by kernel_rfl) (by kernel_rfl) (fun j hj => by
        rw [Lib.row_is_numeral hF j hj, Lib.add_plain, hw, World.cell?_drewN]
        exact cell?_putRow (fun (b : UInt8) => Value.int .u8 (b.toNat : Int)) _ w.heap.size 0 _ dk HH0.out (by rw [hF.size, Array.size_replicate]) j (by rw [hF.size]; rw [Lib.decDigits_length] at hj; exact hj))
      rw [Lib.decDigits_length] at h
      exact h
    have hB : Below w.heap.size w w' := by
      rw [hw]
      refine below_drewN ?_ k
      exact ((Below.refl _ _).alloc (Nat.le_refl _) (.cells Lib.zeros24 80)).trans (below_putRow _ _ _ _ _ (Nat.le_refl _))
    have HB := Lib.hid hB
    clear hw hF hB
    go_wp2
    go_ret
    exact ⟨rfl, HB.out⟩

set_option maxHeartbeats 400000 in
theorem fmt_any (u : Nat) (w : World) (hu : u < 18446744073709551616) (htab : Tab w) : Calls Tryd.prog 53 #[.int .u64 u, .int .i64 10] w (GivesStr w (decDigits u)) := by
  have HT := Lib.hid htab
  clear htab
  go_enter Tryd.func53, Tryd.ntmps53
  go_wp2_with fail
  refine (ifmt_any u _ hu HT.out).mono ?_
  rintro e w1 ⟨rfl, hb⟩
  go_wp2
  go_ret
  exact ⟨rfl, hb⟩
end Go.Proofs.YtelcjcgalkcadaaDoor
