/- What the laws of the ratios share: an argument of type api.Ratio, opened. -/
import Derived.Test.YtoflndeonegkpaaDoorLawBase
import Derived.Test.YtoflndeonegkpaaDoorQ
import Derived.Lib.SmallJoins
import Derived.Deep.Fields
namespace Go.Proofs.YtoflndeonegkpaaDoor
open Go.ChangeShapes Go.WideShapes Go.ChangeAt Go.RowKit Go.Joins

def fNeg : Field := { name := "Neg", type := 4, offset := 0, embedded := false, tag := "", pkgPath := "", byteOffset := 0 }
def fMag : Field := { name := "Mag", type := 23, offset := 1, embedded := false, tag := "", pkgPath := "", byteOffset := 8 }
def fNum : Field := { name := "Num", type := 25, offset := 0, embedded := false, tag := "", pkgPath := "", byteOffset := 0 }
def fDen : Field := { name := "Den", type := 23, offset := 2, embedded := false, tag := "", pkgPath := "", byteOffset := 32 }
theorem zUnd : Tryd.prog.underlying 25 = some (.struct #[fNeg, fMag]) := by kernel_rfl
theorem rUnd : Tryd.prog.underlying 27 = some (.struct #[fNum, fDen]) := by kernel_rfl
theorem zCells : Tryd.prog.cellsOf 25 = 2 := by kernel_rfl
theorem rCells : Tryd.prog.cellsOf 27 = 3 := by kernel_rfl
theorem bCells : Tryd.prog.cellsOf 4 = 1 := by kernel_rfl
theorem nCells : Tryd.prog.cellsOf 23 = 1 := by kernel_rfl
set_option maxRecDepth 100000 in
theorem open_ratio {H : Type} {enc : TypeId × Value → H} {W : World} {r : Reach} {b0 : Nat} {v : Value} {d : DataW H} {p : List MemPlace} (hv : Value.okWide Tryd.prog W r b0 27 v)
    (h : DataW.Trod enc Tryd.prog W 0 (fun _ => true) true 27 v d p) : ∃ b m dd xs ys, v = .agg #[.bool b, m, dd] ∧ NatAt W m xs ∧ NatAt W dd ys := by
  obtain ⟨cs, rfl, hsz⟩ := okWide_struct rUnd hv
  obtain ⟨c0, c1, c2, rfl⟩ := array3 (hsz.trans rCells)
  obtain ⟨fuel, hf⟩ := h
  obtain ⟨y0, y1, n, _, _, h0, h1⟩ := trod_struct2 rUnd hf
  simp [Value.cells, fNum, fDen, zCells, nCells] at h0 h1
  obtain ⟨z0, z1, n2, _, _, g0, g1⟩ := trod_struct2 zUnd h0
  simp [fNeg, fMag, bCells, nCells] at g0 g1
  obtain ⟨b, hb, _⟩ := DataW.trod_bool uBool g0
  simp at hb
  subst hb
  have nat : ∀ {c : Value} {n : Nat} {y : DataW H × List MemPlace}, DataW.trod enc Tryd.prog W 0 (fun _ => true) true n 23 [c] = some y → ∃ xs, NatAt W c xs := by
    intro c n y h
    rcases open_ints Tryd.undN uU32 cU32 h with ⟨hcs, _⟩ | ⟨x, l, c, zs, hcs, _, hl, hm, hz, _, hcell, hwz⟩
    · simp at hcs
      subst hcs
      exact ⟨[], NatAt.nil _⟩
    · simp at hcs
      subst hcs
      exact ⟨_, natAt_of_ints hl hm (by simpa using hz) hcell hwz⟩
  obtain ⟨xs, hxs⟩ := nat g1
  obtain ⟨ys, hys⟩ := nat h1
  exact ⟨b, _, _, xs, ys, rfl, hxs, hys⟩
end Go.Proofs.YtoflndeonegkpaaDoor
