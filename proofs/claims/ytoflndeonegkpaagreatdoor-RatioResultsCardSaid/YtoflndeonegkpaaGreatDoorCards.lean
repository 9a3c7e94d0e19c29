/-
  DERIVED. GIVEN WITH THE SEED: THE CARDS: each row of YtoflndeonegkpaaGreatDoorRows.lean that lists a variable, with what it lists TIED to the program's text (the seventh form; the later family's looks); each row that meets fmt, with fmt's text TOLD by the authors' own Lean function (tested against real Go, not proved from fmt's source: count such statements apart). THE CARD IS WHAT COUNTS. Prove the row's statement (the work); the ties are given (YtoflndeonegkpaaGreatDoorTie.lean); close each card by the builder's one call (the guide's Derived/Test/ToyasCard.lean, 'card_holds'). Laid BY PROGRAM, IN A SANDBOX (cutbox-door.mjs). By AI agents, Wed Nov 11 2026. No macro, syntax, notation, axiom, sorry.
-/
import Derived.Test.YtoflndeonegkpaaGreatDoorRows
import GoSem.ClaimSeven
namespace Go.Proofs.YtoflndeonegkpaaGreatDoor
namespace Rows

/-- THE TIED CARD OF 'garmentlaw03.RatioOfs'. -/
def ratioOfsCard : Claim7 := { stood := { row := ratioOfsRow, standIns := [], harness := (true, "da539f708cd02f62eb26b54033d964a6d0e2834c6ad163b316c24ac5748d196d"), looks := false }, kinds := [], alts := [], laidByText := true, laidKinds := [.data, .data, .data], laidTests := true, laidLooks := .later }
def RatioOfsCardSaid : Prop := Claim7.holds Tryz.pinned (.plain (OpenSpec.ofChange ratioOfsSpec)) ratioOfsCard

/-- THE TIED CARD OF 'garmentlaw03.RatioIntegers'. -/
def ratioIntegersCard : Claim7 := { stood := { row := ratioIntegersRow, standIns := [], harness := (true, "da539f708cd02f62eb26b54033d964a6d0e2834c6ad163b316c24ac5748d196d"), looks := false }, kinds := [], alts := [], laidByText := true, laidKinds := [.data, .data, .data], laidTests := true, laidLooks := .later }
def RatioIntegersCardSaid : Prop := Claim7.holds Tryz.pinned (.plain (OpenSpec.ofChange ratioIntegersSpec)) ratioIntegersCard

/-- THE TIED CARD OF 'garmentlaw03.RatioParses'. -/
def ratioParsesCard : Claim7 := { stood := { row := ratioParsesRow, standIns := [], harness := (true, "da539f708cd02f62eb26b54033d964a6d0e2834c6ad163b316c24ac5748d196d"), looks := false }, kinds := [], alts := [], laidByText := true, laidKinds := [.data, .data, .data], laidTests := true, laidLooks := .later }
def RatioParsesCardSaid : Prop := Claim7.holds Tryz.pinned (.plain (OpenSpec.ofChange ratioParsesSpec)) ratioParsesCard

/-- THE TIED CARD OF 'garmentlaw03.RatioResults'. -/
def ratioResultsCard : Claim7 := { stood := { row := ratioResultsRow, standIns := [], harness := (true, "da539f708cd02f62eb26b54033d964a6d0e2834c6ad163b316c24ac5748d196d"), looks := false }, kinds := [], alts := [], laidByText := true, laidKinds := [.data, .data, .data], laidTests := true, laidLooks := .later }
def RatioResultsCardSaid : Prop := Claim7.holds Tryz.pinned (.plain (OpenSpec.ofChange ratioResultsSpec)) ratioResultsCard

/-- THE SECOND FORM's CARD OF 'garmentlaw03.RatioOfs'. -/
def ratioOfsUptoCard : Claim7 := { stood := { row := ratioOfsUptoRow, standIns := [], harness := (true, "da539f708cd02f62eb26b54033d964a6d0e2834c6ad163b316c24ac5748d196d"), looks := false }, kinds := [], alts := [], laidByText := true, laidKinds := [.data, .data, .data], laidTests := true, laidLooks := .later }
def RatioOfsUptoCardSaid : Prop := Claim7.holds Tryz.pinned (.plain (OpenSpec.upto ratioOfsSpec)) ratioOfsUptoCard

/-- THE SECOND FORM's CARD OF 'garmentlaw03.RatioIntegers'. -/
def ratioIntegersUptoCard : Claim7 := { stood := { row := ratioIntegersUptoRow, standIns := [], harness := (true, "da539f708cd02f62eb26b54033d964a6d0e2834c6ad163b316c24ac5748d196d"), looks := false }, kinds := [], alts := [], laidByText := true, laidKinds := [.data, .data, .data], laidTests := true, laidLooks := .later }
def RatioIntegersUptoCardSaid : Prop := Claim7.holds Tryz.pinned (.plain (OpenSpec.upto ratioIntegersSpec)) ratioIntegersUptoCard

/-- THE SECOND FORM's CARD OF 'garmentlaw03.RatioParses'. -/
def ratioParsesUptoCard : Claim7 := { stood := { row := ratioParsesUptoRow, standIns := [], harness := (true, "da539f708cd02f62eb26b54033d964a6d0e2834c6ad163b316c24ac5748d196d"), looks := false }, kinds := [], alts := [], laidByText := true, laidKinds := [.data, .data, .data], laidTests := true, laidLooks := .later }
def RatioParsesUptoCardSaid : Prop := Claim7.holds Tryz.pinned (.plain (OpenSpec.upto ratioParsesSpec)) ratioParsesUptoCard

/-- THE SECOND FORM's CARD OF 'garmentlaw03.RatioResults'. -/
def ratioResultsUptoCard : Claim7 := { stood := { row := ratioResultsUptoRow, standIns := [], harness := (true, "da539f708cd02f62eb26b54033d964a6d0e2834c6ad163b316c24ac5748d196d"), looks := false }, kinds := [], alts := [], laidByText := true, laidKinds := [.data, .data, .data], laidTests := true, laidLooks := .later }
def RatioResultsUptoCardSaid : Prop := Claim7.holds Tryz.pinned (.plain (OpenSpec.upto ratioResultsSpec)) ratioResultsUptoCard
end Rows
end Go.Proofs.YtoflndeonegkpaaGreatDoor
