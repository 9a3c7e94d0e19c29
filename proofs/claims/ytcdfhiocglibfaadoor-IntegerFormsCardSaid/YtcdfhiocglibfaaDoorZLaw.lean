/- What the laws of the integers share: an argument of type api.Int, opened; one box. -/
import Derived.Test.YtcdfhiocglibfaaDoorLawBase
import Derived.Test.YtcdfhiocglibfaaDoorInt
import Derived.Lib.SmallJoins
import Derived.Deep.Fields
namespace Go.Proofs.YtcdfhiocglibfaaDoor
open Go.ChangeShapes Go.WideShapes Go.ChangeAt Go.RowKit Go.Joins

/-- The fields of api.Int. -/
def fNeg : Field := { name := "Neg", type := 4, offset := 0, embedded := false, tag := "", pkgPath := "", byteOffset := 0 }
def fMag : Field := { name := "Mag", type := 23, offset := 1, embedded := false, tag := "", pkgPath := "", byteOffset := 8 }
theorem zUnd : Tryd.prog.underlying 25 = some (.struct #[fNeg, fMag]) := by kernel_rfl
theorem zOne : Go.Deep.oneCellFields Tryd.prog #[fNeg, fMag] = true := by kernel_rfl
theorem zCells : Tryd.prog.cellsOf 25 = 2 := by kernel_rfl
set_option maxRecDepth 100000 in
theorem open_zint {H : Type} {enc : TypeId × Value → H} {W : World} {r : Reach} {b0 : Nat} {v : Value} {d : DataW H} {p : List MemPlace} (hv : Value.okWide Tryd.prog W r b0 25 v)
    (h : DataW.Trod enc Tryd.prog W 0 (fun _ => true) true 25 v d p) : ∃ b m xs, v = .agg #[.bool b, m] ∧ NatAt W m xs := by
  obtain ⟨v0, v1, y0, y1, n, rfl, _, _, h0, h1⟩ := open_agg2 zUnd zOne zCells hv h
  obtain ⟨b, hb, _⟩ := DataW.trod_bool uBool h0
  simp at hb
  subst hb
  rcases open_ints Tryd.undN uU32 cU32 h1 with ⟨hcs, _⟩ | ⟨x, l, c, zs, hcs, _, hl, hm, hz, _, hcell, hwz⟩
  · simp at hcs
    subst hcs
    exact ⟨b, _, [], rfl, NatAt.nil _⟩
  · simp at hcs
    subst hcs
    exact ⟨b, _, _, rfl, natAt_of_ints hl hm (by simpa using hz) hcell hwz⟩
end Go.Proofs.YtcdfhiocglibfaaDoor
