/-
  DERIVED. GIVEN WITH THE SEED: THE CARDS: each row of YtelcjcgalkcadaaDoorRows.lean that lists a variable, with what it lists TIED to the program's text (the seventh form; the later family's looks); each row that meets fmt, with fmt's text TOLD by the authors' own Lean function (tested against real Go, not proved from fmt's source: count such statements apart). THE CARD IS WHAT COUNTS. Prove the row's statement (the work); the ties are given (YtelcjcgalkcadaaDoorTie.lean); close each card by the builder's one call (the guide's Derived/Test/ToyasCard.lean, 'card_holds'). Laid BY PROGRAM, IN A SANDBOX (cutbox-door.mjs). By AI agents, Wed Nov 11 2026. No macro, syntax, notation, axiom, sorry.
-/
import Derived.Test.YtelcjcgalkcadaaDoorRows
import GoSem.ClaimSeven
namespace Go.Proofs.YtelcjcgalkcadaaDoor
namespace Rows

/-- THE TIED CARD OF 'garmentlaw01.NaturalOrders'. -/
def naturalOrdersCard : Claim7 := { stood := { row := naturalOrdersRow, standIns := [], harness := (true, "3bbefbe6cbb8ebc7c1993f54e988895a358fe2d3f713c3cabfd6e993cc62ef20"), looks := false }, kinds := [], alts := [], laidByText := true, laidKinds := [.data, .data, .data], laidTests := true, laidLooks := .later }
def NaturalOrdersCardSaid : Prop := Claim7.holds Tryd.pinned (.plain (OpenSpec.ofChange naturalOrdersSpec)) naturalOrdersCard

/-- THE TIED CARD OF 'garmentlaw01.NaturalSums'. -/
def naturalSumsCard : Claim7 := { stood := { row := naturalSumsRow, standIns := [], harness := (true, "3bbefbe6cbb8ebc7c1993f54e988895a358fe2d3f713c3cabfd6e993cc62ef20"), looks := false }, kinds := [], alts := [], laidByText := true, laidKinds := [.data, .data, .data], laidTests := true, laidLooks := .later }
def NaturalSumsCardSaid : Prop := Claim7.holds Tryd.pinned (.plain (OpenSpec.ofChange naturalSumsSpec)) naturalSumsCard

/-- THE TIED CARD OF 'garmentlaw01.NaturalProducts'. -/
def naturalProductsCard : Claim7 := { stood := { row := naturalProductsRow, standIns := [], harness := (true, "3bbefbe6cbb8ebc7c1993f54e988895a358fe2d3f713c3cabfd6e993cc62ef20"), looks := false }, kinds := [], alts := [], laidByText := true, laidKinds := [.data, .data, .data], laidTests := true, laidLooks := .later }
def NaturalProductsCardSaid : Prop := Claim7.holds Tryd.pinned (.plain (OpenSpec.ofChange naturalProductsSpec)) naturalProductsCard

/-- THE TIED CARD OF 'garmentlaw01.NaturalRoots'. -/
def naturalRootsCard : Claim7 := { stood := { row := naturalRootsRow, standIns := [], harness := (true, "3bbefbe6cbb8ebc7c1993f54e988895a358fe2d3f713c3cabfd6e993cc62ef20"), looks := false }, kinds := [], alts := [], laidByText := true, laidKinds := [.data, .data, .data], laidTests := true, laidLooks := .later }
def NaturalRootsCardSaid : Prop := Claim7.holds Tryd.pinned (.plain (OpenSpec.ofChange naturalRootsSpec)) naturalRootsCard

/-- THE TIED CARD OF 'garmentlaw01.NaturalTexts'. -/
def naturalTextsCard : Claim7 := { stood := { row := naturalTextsRow, standIns := [], harness := (true, "3bbefbe6cbb8ebc7c1993f54e988895a358fe2d3f713c3cabfd6e993cc62ef20"), looks := false }, kinds := [], alts := [], laidByText := true, laidKinds := [.data, .data, .data], laidTests := true, laidLooks := .later }
def NaturalTextsCardSaid : Prop := Claim7.holds Tryd.pinned (.plain (OpenSpec.ofChange naturalTextsSpec)) naturalTextsCard

/-- THE TIED CARD OF 'garmentlaw01.NaturalRing'. -/
def naturalRingCard : Claim7 := { stood := { row := naturalRingRow, standIns := [], harness := (true, "3bbefbe6cbb8ebc7c1993f54e988895a358fe2d3f713c3cabfd6e993cc62ef20"), looks := false }, kinds := [], alts := [], laidByText := true, laidKinds := [.data, .data, .data], laidTests := true, laidLooks := .later }
def NaturalRingCardSaid : Prop := Claim7.holds Tryd.pinned (.plain (OpenSpec.ofChange naturalRingSpec)) naturalRingCard

/-- THE TIED CARD OF 'garmentlaw01.NaturalDivides'. -/
def naturalDividesCard : Claim7 := { stood := { row := naturalDividesRow, standIns := [], harness := (true, "3bbefbe6cbb8ebc7c1993f54e988895a358fe2d3f713c3cabfd6e993cc62ef20"), looks := false }, kinds := [], alts := [], laidByText := true, laidKinds := [.data, .data, .data], laidTests := true, laidLooks := .later }
def NaturalDividesCardSaid : Prop := Claim7.holds Tryd.pinned (.plain (OpenSpec.ofChange naturalDividesSpec)) naturalDividesCard

/-- THE TIED CARD OF 'garmentlaw01.NaturalGcds'. -/
def naturalGcdsCard : Claim7 := { stood := { row := naturalGcdsRow, standIns := [], harness := (true, "3bbefbe6cbb8ebc7c1993f54e988895a358fe2d3f713c3cabfd6e993cc62ef20"), looks := false }, kinds := [], alts := [], laidByText := true, laidKinds := [.data, .data, .data], laidTests := true, laidLooks := .later }
def NaturalGcdsCardSaid : Prop := Claim7.holds Tryd.pinned (.plain (OpenSpec.ofChange naturalGcdsSpec)) naturalGcdsCard

/-- THE TIED CARD OF 'garmentlaw01.NaturalSquares'. -/
def naturalSquaresCard : Claim7 := { stood := { row := naturalSquaresRow, standIns := [], harness := (true, "3bbefbe6cbb8ebc7c1993f54e988895a358fe2d3f713c3cabfd6e993cc62ef20"), looks := false }, kinds := [], alts := [], laidByText := true, laidKinds := [.data, .data, .data], laidTests := true, laidLooks := .later }
def NaturalSquaresCardSaid : Prop := Claim7.holds Tryd.pinned (.plain (OpenSpec.ofChange naturalSquaresSpec)) naturalSquaresCard

/-- THE TIED CARD OF 'garmentlaw01.NaturalReads'. -/
def naturalReadsCard : Claim7 := { stood := { row := naturalReadsRow, standIns := [], harness := (true, "3bbefbe6cbb8ebc7c1993f54e988895a358fe2d3f713c3cabfd6e993cc62ef20"), looks := false }, kinds := [], alts := [], laidByText := true, laidKinds := [.data, .data, .data], laidTests := true, laidLooks := .later }
def NaturalReadsCardSaid : Prop := Claim7.holds Tryd.pinned (.plain (OpenSpec.ofChange naturalReadsSpec)) naturalReadsCard

/-- THE SECOND FORM's CARD OF 'garmentlaw01.NaturalOrders'. -/
def naturalOrdersUptoCard : Claim7 := { stood := { row := naturalOrdersUptoRow, standIns := [], harness := (true, "3bbefbe6cbb8ebc7c1993f54e988895a358fe2d3f713c3cabfd6e993cc62ef20"), looks := false }, kinds := [], alts := [], laidByText := true, laidKinds := [.data, .data, .data], laidTests := true, laidLooks := .later }
def NaturalOrdersUptoCardSaid : Prop := Claim7.holds Tryd.pinned (.plain (OpenSpec.upto naturalOrdersSpec)) naturalOrdersUptoCard

/-- THE SECOND FORM's CARD OF 'garmentlaw01.NaturalSums'. -/
def naturalSumsUptoCard : Claim7 := { stood := { row := naturalSumsUptoRow, standIns := [], harness := (true, "3bbefbe6cbb8ebc7c1993f54e988895a358fe2d3f713c3cabfd6e993cc62ef20"), looks := false }, kinds := [], alts := [], laidByText := true, laidKinds := [.data, .data, .data], laidTests := true, laidLooks := .later }
def NaturalSumsUptoCardSaid : Prop := Claim7.holds Tryd.pinned (.plain (OpenSpec.upto naturalSumsSpec)) naturalSumsUptoCard

/-- THE SECOND FORM's CARD OF 'garmentlaw01.NaturalProducts'. -/
def naturalProductsUptoCard : Claim7 := { stood := { row := naturalProductsUptoRow, standIns := [], harness := (true, "3bbefbe6cbb8ebc7c1993f54e988895a358fe2d3f713c3cabfd6e993cc62ef20"), looks := false }, kinds := [], alts := [], laidByText := true, laidKinds := [.data, .data, .data], laidTests := true, laidLooks := .later }
def NaturalProductsUptoCardSaid : Prop := Claim7.holds Tryd.pinned (.plain (OpenSpec.upto naturalProductsSpec)) naturalProductsUptoCard

/-- THE SECOND FORM's CARD OF 'garmentlaw01.NaturalRoots'. -/
def naturalRootsUptoCard : Claim7 := { stood := { row := naturalRootsUptoRow, standIns := [], harness := (true, "3bbefbe6cbb8ebc7c1993f54e988895a358fe2d3f713c3cabfd6e993cc62ef20"), looks := false }, kinds := [], alts := [], laidByText := true, laidKinds := [.data, .data, .data], laidTests := true, laidLooks := .later }
def NaturalRootsUptoCardSaid : Prop := Claim7.holds Tryd.pinned (.plain (OpenSpec.upto naturalRootsSpec)) naturalRootsUptoCard

/-- THE SECOND FORM's CARD OF 'garmentlaw01.NaturalTexts'. -/
def naturalTextsUptoCard : Claim7 := { stood := { row := naturalTextsUptoRow, standIns := [], harness := (true, "3bbefbe6cbb8ebc7c1993f54e988895a358fe2d3f713c3cabfd6e993cc62ef20"), looks := false }, kinds := [], alts := [], laidByText := true, laidKinds := [.data, .data, .data], laidTests := true, laidLooks := .later }
def NaturalTextsUptoCardSaid : Prop := Claim7.holds Tryd.pinned (.plain (OpenSpec.upto naturalTextsSpec)) naturalTextsUptoCard

/-- THE SECOND FORM's CARD OF 'garmentlaw01.NaturalRing'. -/
def naturalRingUptoCard : Claim7 := { stood := { row := naturalRingUptoRow, standIns := [], harness := (true, "3bbefbe6cbb8ebc7c1993f54e988895a358fe2d3f713c3cabfd6e993cc62ef20"), looks := false }, kinds := [], alts := [], laidByText := true, laidKinds := [.data, .data, .data], laidTests := true, laidLooks := .later }
def NaturalRingUptoCardSaid : Prop := Claim7.holds Tryd.pinned (.plain (OpenSpec.upto naturalRingSpec)) naturalRingUptoCard

/-- THE SECOND FORM's CARD OF 'garmentlaw01.NaturalDivides'. -/
def naturalDividesUptoCard : Claim7 := { stood := { row := naturalDividesUptoRow, standIns := [], harness := (true, "3bbefbe6cbb8ebc7c1993f54e988895a358fe2d3f713c3cabfd6e993cc62ef20"), looks := false }, kinds := [], alts := [], laidByText := true, laidKinds := [.data, .data, .data], laidTests := true, laidLooks := .later }
def NaturalDividesUptoCardSaid : Prop := Claim7.holds Tryd.pinned (.plain (OpenSpec.upto naturalDividesSpec)) naturalDividesUptoCard

/-- THE SECOND FORM's CARD OF 'garmentlaw01.NaturalGcds'. -/
def naturalGcdsUptoCard : Claim7 := { stood := { row := naturalGcdsUptoRow, standIns := [], harness := (true, "3bbefbe6cbb8ebc7c1993f54e988895a358fe2d3f713c3cabfd6e993cc62ef20"), looks := false }, kinds := [], alts := [], laidByText := true, laidKinds := [.data, .data, .data], laidTests := true, laidLooks := .later }
def NaturalGcdsUptoCardSaid : Prop := Claim7.holds Tryd.pinned (.plain (OpenSpec.upto naturalGcdsSpec)) naturalGcdsUptoCard

/-- THE SECOND FORM's CARD OF 'garmentlaw01.NaturalSquares'. -/
def naturalSquaresUptoCard : Claim7 := { stood := { row := naturalSquaresUptoRow, standIns := [], harness := (true, "3bbefbe6cbb8ebc7c1993f54e988895a358fe2d3f713c3cabfd6e993cc62ef20"), looks := false }, kinds := [], alts := [], laidByText := true, laidKinds := [.data, .data, .data], laidTests := true, laidLooks := .later }
def NaturalSquaresUptoCardSaid : Prop := Claim7.holds Tryd.pinned (.plain (OpenSpec.upto naturalSquaresSpec)) naturalSquaresUptoCard

/-- THE SECOND FORM's CARD OF 'garmentlaw01.NaturalReads'. -/
def naturalReadsUptoCard : Claim7 := { stood := { row := naturalReadsUptoRow, standIns := [], harness := (true, "3bbefbe6cbb8ebc7c1993f54e988895a358fe2d3f713c3cabfd6e993cc62ef20"), looks := false }, kinds := [], alts := [], laidByText := true, laidKinds := [.data, .data, .data], laidTests := true, laidLooks := .later }
def NaturalReadsUptoCardSaid : Prop := Claim7.holds Tryd.pinned (.plain (OpenSpec.upto naturalReadsSpec)) naturalReadsUptoCard
end Rows
end Go.Proofs.YtelcjcgalkcadaaDoor
