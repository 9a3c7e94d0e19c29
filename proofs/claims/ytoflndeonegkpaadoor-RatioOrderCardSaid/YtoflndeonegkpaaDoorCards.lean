/-
  DERIVED. GIVEN WITH THE SEED: THE CARDS: each row of YtoflndeonegkpaaDoorRows.lean that lists a variable, with what it lists TIED to the program's text (the seventh form; the later family's looks); each row that meets fmt, with fmt's text TOLD by the authors' own Lean function (tested against real Go, not proved from fmt's source: count such statements apart). THE CARD IS WHAT COUNTS. Prove the row's statement (the work); the ties are given (YtoflndeonegkpaaDoorTie.lean); close each card by the builder's one call (the guide's Derived/Test/ToyasCard.lean, 'card_holds'). Laid BY PROGRAM, IN A SANDBOX (cutbox-door.mjs). By AI agents, Wed Nov 11 2026. No macro, syntax, notation, axiom, sorry.
-/
import Derived.Test.YtoflndeonegkpaaDoorRows
import GoSem.ClaimSeven
namespace Go.Proofs.YtoflndeonegkpaaDoor
namespace Rows

/-- THE TIED CARD OF 'garmentlaw03.RatioField'. -/
def ratioFieldCard : Claim7 := { stood := { row := ratioFieldRow, standIns := [], harness := (true, "a088ae88fc4e769d94982cac662a9a1940d90c845eb7745cd6f2a6324b8f5eb7"), looks := false }, kinds := [], alts := [], laidByText := true, laidKinds := [.data, .data, .data], laidTests := true, laidLooks := .later }
def RatioFieldCardSaid : Prop := Claim7.holds Tryd.pinned (.plain (OpenSpec.ofChange ratioFieldSpec)) ratioFieldCard

/-- THE TIED CARD OF 'garmentlaw03.RatioRounds'. -/
def ratioRoundsCard : Claim7 := { stood := { row := ratioRoundsRow, standIns := [], harness := (true, "a088ae88fc4e769d94982cac662a9a1940d90c845eb7745cd6f2a6324b8f5eb7"), looks := false }, kinds := [], alts := [], laidByText := true, laidKinds := [.data, .data, .data], laidTests := true, laidLooks := .later }
def RatioRoundsCardSaid : Prop := Claim7.holds Tryd.pinned (.plain (OpenSpec.ofChange ratioRoundsSpec)) ratioRoundsCard

/-- THE TIED CARD OF 'garmentlaw03.RatioForms'. -/
def ratioFormsCard : Claim7 := { stood := { row := ratioFormsRow, standIns := [], harness := (true, "a088ae88fc4e769d94982cac662a9a1940d90c845eb7745cd6f2a6324b8f5eb7"), looks := false }, kinds := [], alts := [], laidByText := true, laidKinds := [.data, .data, .data], laidTests := true, laidLooks := .later }
def RatioFormsCardSaid : Prop := Claim7.holds Tryd.pinned (.plain (OpenSpec.ofChange ratioFormsSpec)) ratioFormsCard

/-- THE TIED CARD OF 'garmentlaw03.RatioOrder'. -/
def ratioOrderCard : Claim7 := { stood := { row := ratioOrderRow, standIns := [], harness := (true, "a088ae88fc4e769d94982cac662a9a1940d90c845eb7745cd6f2a6324b8f5eb7"), looks := false }, kinds := [], alts := [], laidByText := true, laidKinds := [.data, .data, .data], laidTests := true, laidLooks := .later }
def RatioOrderCardSaid : Prop := Claim7.holds Tryd.pinned (.plain (OpenSpec.ofChange ratioOrderSpec)) ratioOrderCard

/-- THE TIED CARD OF 'garmentlaw03.RatioRoundTrip'. -/
def ratioRoundTripCard : Claim7 := { stood := { row := ratioRoundTripRow, standIns := [], harness := (true, "a088ae88fc4e769d94982cac662a9a1940d90c845eb7745cd6f2a6324b8f5eb7"), looks := false }, kinds := [], alts := [], laidByText := true, laidKinds := [.data, .data, .data], laidTests := true, laidLooks := .later }
def RatioRoundTripCardSaid : Prop := Claim7.holds Tryd.pinned (.plain (OpenSpec.ofChange ratioRoundTripSpec)) ratioRoundTripCard

/-- THE SECOND FORM's CARD OF 'garmentlaw03.RatioField'. -/
def ratioFieldUptoCard : Claim7 := { stood := { row := ratioFieldUptoRow, standIns := [], harness := (true, "a088ae88fc4e769d94982cac662a9a1940d90c845eb7745cd6f2a6324b8f5eb7"), looks := false }, kinds := [], alts := [], laidByText := true, laidKinds := [.data, .data, .data], laidTests := true, laidLooks := .later }
def RatioFieldUptoCardSaid : Prop := Claim7.holds Tryd.pinned (.plain (OpenSpec.upto ratioFieldSpec)) ratioFieldUptoCard

/-- THE SECOND FORM's CARD OF 'garmentlaw03.RatioRounds'. -/
def ratioRoundsUptoCard : Claim7 := { stood := { row := ratioRoundsUptoRow, standIns := [], harness := (true, "a088ae88fc4e769d94982cac662a9a1940d90c845eb7745cd6f2a6324b8f5eb7"), looks := false }, kinds := [], alts := [], laidByText := true, laidKinds := [.data, .data, .data], laidTests := true, laidLooks := .later }
def RatioRoundsUptoCardSaid : Prop := Claim7.holds Tryd.pinned (.plain (OpenSpec.upto ratioRoundsSpec)) ratioRoundsUptoCard

/-- THE SECOND FORM's CARD OF 'garmentlaw03.RatioForms'. -/
def ratioFormsUptoCard : Claim7 := { stood := { row := ratioFormsUptoRow, standIns := [], harness := (true, "a088ae88fc4e769d94982cac662a9a1940d90c845eb7745cd6f2a6324b8f5eb7"), looks := false }, kinds := [], alts := [], laidByText := true, laidKinds := [.data, .data, .data], laidTests := true, laidLooks := .later }
def RatioFormsUptoCardSaid : Prop := Claim7.holds Tryd.pinned (.plain (OpenSpec.upto ratioFormsSpec)) ratioFormsUptoCard

/-- THE SECOND FORM's CARD OF 'garmentlaw03.RatioOrder'. -/
def ratioOrderUptoCard : Claim7 := { stood := { row := ratioOrderUptoRow, standIns := [], harness := (true, "a088ae88fc4e769d94982cac662a9a1940d90c845eb7745cd6f2a6324b8f5eb7"), looks := false }, kinds := [], alts := [], laidByText := true, laidKinds := [.data, .data, .data], laidTests := true, laidLooks := .later }
def RatioOrderUptoCardSaid : Prop := Claim7.holds Tryd.pinned (.plain (OpenSpec.upto ratioOrderSpec)) ratioOrderUptoCard

/-- THE SECOND FORM's CARD OF 'garmentlaw03.RatioRoundTrip'. -/
def ratioRoundTripUptoCard : Claim7 := { stood := { row := ratioRoundTripUptoRow, standIns := [], harness := (true, "a088ae88fc4e769d94982cac662a9a1940d90c845eb7745cd6f2a6324b8f5eb7"), looks := false }, kinds := [], alts := [], laidByText := true, laidKinds := [.data, .data, .data], laidTests := true, laidLooks := .later }
def RatioRoundTripUptoCardSaid : Prop := Claim7.holds Tryd.pinned (.plain (OpenSpec.upto ratioRoundTripSpec)) ratioRoundTripUptoCard
end Rows
end Go.Proofs.YtoflndeonegkpaaDoor
