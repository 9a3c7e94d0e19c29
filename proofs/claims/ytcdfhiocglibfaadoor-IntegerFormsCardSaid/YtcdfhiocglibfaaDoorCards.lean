/-
  DERIVED. GIVEN WITH THE SEED: THE CARDS: each row of YtcdfhiocglibfaaDoorRows.lean that lists a variable, with what it lists TIED to the program's text (the seventh form; the later family's looks); each row that meets fmt, with fmt's text TOLD by the authors' own Lean function (tested against real Go, not proved from fmt's source: count such statements apart). THE CARD IS WHAT COUNTS. Prove the row's statement (the work); the ties are given (YtcdfhiocglibfaaDoorTie.lean); close each card by the builder's one call (the guide's Derived/Test/ToyasCard.lean, 'card_holds'). Laid BY PROGRAM, IN A SANDBOX (cutbox-door.mjs). By AI agents, Wed Nov 11 2026. No macro, syntax, notation, axiom, sorry.
-/
import Derived.Test.YtcdfhiocglibfaaDoorRows
import GoSem.ClaimSeven
namespace Go.Proofs.YtcdfhiocglibfaaDoor
namespace Rows

/-- THE TIED CARD OF 'garmentlaw02.IntegerProducts'. -/
def integerProductsCard : Claim7 := { stood := { row := integerProductsRow, standIns := [], harness := (true, "59d8d63bb67b8c381710378027817e237e1a737544f65a39b4bca070de9aee0f"), looks := false }, kinds := [], alts := [], laidByText := true, laidKinds := [.data, .data, .data], laidTests := true, laidLooks := .later }
def IntegerProductsCardSaid : Prop := Claim7.holds Tryd.pinned (.plain (OpenSpec.ofChange integerProductsSpec)) integerProductsCard

/-- THE TIED CARD OF 'garmentlaw02.IntegerTexts'. -/
def integerTextsCard : Claim7 := { stood := { row := integerTextsRow, standIns := [], harness := (true, "59d8d63bb67b8c381710378027817e237e1a737544f65a39b4bca070de9aee0f"), looks := false }, kinds := [], alts := [], laidByText := true, laidKinds := [.data, .data, .data], laidTests := true, laidLooks := .later }
def IntegerTextsCardSaid : Prop := Claim7.holds Tryd.pinned (.plain (OpenSpec.ofChange integerTextsSpec)) integerTextsCard

/-- THE TIED CARD OF 'garmentlaw02.IntegerInts'. -/
def integerIntsCard : Claim7 := { stood := { row := integerIntsRow, standIns := [], harness := (true, "59d8d63bb67b8c381710378027817e237e1a737544f65a39b4bca070de9aee0f"), looks := false }, kinds := [], alts := [], laidByText := true, laidKinds := [.data, .data, .data], laidTests := true, laidLooks := .later }
def IntegerIntsCardSaid : Prop := Claim7.holds Tryd.pinned (.plain (OpenSpec.ofChange integerIntsSpec)) integerIntsCard

/-- THE TIED CARD OF 'garmentlaw02.IntegerRoundTrip'. -/
def integerRoundTripCard : Claim7 := { stood := { row := integerRoundTripRow, standIns := [], harness := (true, "59d8d63bb67b8c381710378027817e237e1a737544f65a39b4bca070de9aee0f"), looks := false }, kinds := [], alts := [], laidByText := true, laidKinds := [.data, .data, .data], laidTests := true, laidLooks := .later }
def IntegerRoundTripCardSaid : Prop := Claim7.holds Tryd.pinned (.plain (OpenSpec.ofChange integerRoundTripSpec)) integerRoundTripCard

/-- THE TIED CARD OF 'garmentlaw02.IntegerDivides'. -/
def integerDividesCard : Claim7 := { stood := { row := integerDividesRow, standIns := [], harness := (true, "59d8d63bb67b8c381710378027817e237e1a737544f65a39b4bca070de9aee0f"), looks := false }, kinds := [], alts := [], laidByText := true, laidKinds := [.data, .data, .data], laidTests := true, laidLooks := .later }
def IntegerDividesCardSaid : Prop := Claim7.holds Tryd.pinned (.plain (OpenSpec.ofChange integerDividesSpec)) integerDividesCard

/-- THE TIED CARD OF 'garmentlaw02.IntegerForms'. -/
def integerFormsCard : Claim7 := { stood := { row := integerFormsRow, standIns := [], harness := (true, "59d8d63bb67b8c381710378027817e237e1a737544f65a39b4bca070de9aee0f"), looks := false }, kinds := [], alts := [], laidByText := true, laidKinds := [.data, .data, .data], laidTests := true, laidLooks := .later }
def IntegerFormsCardSaid : Prop := Claim7.holds Tryd.pinned (.plain (OpenSpec.ofChange integerFormsSpec)) integerFormsCard

/-- THE TIED CARD OF 'garmentlaw02.IntegerSums'. -/
def integerSumsCard : Claim7 := { stood := { row := integerSumsRow, standIns := [], harness := (true, "59d8d63bb67b8c381710378027817e237e1a737544f65a39b4bca070de9aee0f"), looks := false }, kinds := [], alts := [], laidByText := true, laidKinds := [.data, .data, .data], laidTests := true, laidLooks := .later }
def IntegerSumsCardSaid : Prop := Claim7.holds Tryd.pinned (.plain (OpenSpec.ofChange integerSumsSpec)) integerSumsCard

/-- THE TIED CARD OF 'garmentlaw02.IntegerRing'. -/
def integerRingCard : Claim7 := { stood := { row := integerRingRow, standIns := [], harness := (true, "59d8d63bb67b8c381710378027817e237e1a737544f65a39b4bca070de9aee0f"), looks := false }, kinds := [], alts := [], laidByText := true, laidKinds := [.data, .data, .data], laidTests := true, laidLooks := .later }
def IntegerRingCardSaid : Prop := Claim7.holds Tryd.pinned (.plain (OpenSpec.ofChange integerRingSpec)) integerRingCard

/-- THE TIED CARD OF 'garmentlaw02.IntegerOrders'. -/
def integerOrdersCard : Claim7 := { stood := { row := integerOrdersRow, standIns := [], harness := (true, "59d8d63bb67b8c381710378027817e237e1a737544f65a39b4bca070de9aee0f"), looks := false }, kinds := [], alts := [], laidByText := true, laidKinds := [.data, .data, .data], laidTests := true, laidLooks := .later }
def IntegerOrdersCardSaid : Prop := Claim7.holds Tryd.pinned (.plain (OpenSpec.ofChange integerOrdersSpec)) integerOrdersCard

/-- THE SECOND FORM's CARD OF 'garmentlaw02.IntegerProducts'. -/
def integerProductsUptoCard : Claim7 := { stood := { row := integerProductsUptoRow, standIns := [], harness := (true, "59d8d63bb67b8c381710378027817e237e1a737544f65a39b4bca070de9aee0f"), looks := false }, kinds := [], alts := [], laidByText := true, laidKinds := [.data, .data, .data], laidTests := true, laidLooks := .later }
def IntegerProductsUptoCardSaid : Prop := Claim7.holds Tryd.pinned (.plain (OpenSpec.upto integerProductsSpec)) integerProductsUptoCard

/-- THE SECOND FORM's CARD OF 'garmentlaw02.IntegerTexts'. -/
def integerTextsUptoCard : Claim7 := { stood := { row := integerTextsUptoRow, standIns := [], harness := (true, "59d8d63bb67b8c381710378027817e237e1a737544f65a39b4bca070de9aee0f"), looks := false }, kinds := [], alts := [], laidByText := true, laidKinds := [.data, .data, .data], laidTests := true, laidLooks := .later }
def IntegerTextsUptoCardSaid : Prop := Claim7.holds Tryd.pinned (.plain (OpenSpec.upto integerTextsSpec)) integerTextsUptoCard

/-- THE SECOND FORM's CARD OF 'garmentlaw02.IntegerInts'. -/
def integerIntsUptoCard : Claim7 := { stood := { row := integerIntsUptoRow, standIns := [], harness := (true, "59d8d63bb67b8c381710378027817e237e1a737544f65a39b4bca070de9aee0f"), looks := false }, kinds := [], alts := [], laidByText := true, laidKinds := [.data, .data, .data], laidTests := true, laidLooks := .later }
def IntegerIntsUptoCardSaid : Prop := Claim7.holds Tryd.pinned (.plain (OpenSpec.upto integerIntsSpec)) integerIntsUptoCard

/-- THE SECOND FORM's CARD OF 'garmentlaw02.IntegerRoundTrip'. -/
def integerRoundTripUptoCard : Claim7 := { stood := { row := integerRoundTripUptoRow, standIns := [], harness := (true, "59d8d63bb67b8c381710378027817e237e1a737544f65a39b4bca070de9aee0f"), looks := false }, kinds := [], alts := [], laidByText := true, laidKinds := [.data, .data, .data], laidTests := true, laidLooks := .later }
def IntegerRoundTripUptoCardSaid : Prop := Claim7.holds Tryd.pinned (.plain (OpenSpec.upto integerRoundTripSpec)) integerRoundTripUptoCard

/-- THE SECOND FORM's CARD OF 'garmentlaw02.IntegerDivides'. -/
def integerDividesUptoCard : Claim7 := { stood := { row := integerDividesUptoRow, standIns := [], harness := (true, "59d8d63bb67b8c381710378027817e237e1a737544f65a39b4bca070de9aee0f"), looks := false }, kinds := [], alts := [], laidByText := true, laidKinds := [.data, .data, .data], laidTests := true, laidLooks := .later }
def IntegerDividesUptoCardSaid : Prop := Claim7.holds Tryd.pinned (.plain (OpenSpec.upto integerDividesSpec)) integerDividesUptoCard

/-- THE SECOND FORM's CARD OF 'garmentlaw02.IntegerForms'. -/
def integerFormsUptoCard : Claim7 := { stood := { row := integerFormsUptoRow, standIns := [], harness := (true, "59d8d63bb67b8c381710378027817e237e1a737544f65a39b4bca070de9aee0f"), looks := false }, kinds := [], alts := [], laidByText := true, laidKinds := [.data, .data, .data], laidTests := true, laidLooks := .later }
def IntegerFormsUptoCardSaid : Prop := Claim7.holds Tryd.pinned (.plain (OpenSpec.upto integerFormsSpec)) integerFormsUptoCard

/-- THE SECOND FORM's CARD OF 'garmentlaw02.IntegerSums'. -/
def integerSumsUptoCard : Claim7 := { stood := { row := integerSumsUptoRow, standIns := [], harness := (true, "59d8d63bb67b8c381710378027817e237e1a737544f65a39b4bca070de9aee0f"), looks := false }, kinds := [], alts := [], laidByText := true, laidKinds := [.data, .data, .data], laidTests := true, laidLooks := .later }
def IntegerSumsUptoCardSaid : Prop := Claim7.holds Tryd.pinned (.plain (OpenSpec.upto integerSumsSpec)) integerSumsUptoCard

/-- THE SECOND FORM's CARD OF 'garmentlaw02.IntegerRing'. -/
def integerRingUptoCard : Claim7 := { stood := { row := integerRingUptoRow, standIns := [], harness := (true, "59d8d63bb67b8c381710378027817e237e1a737544f65a39b4bca070de9aee0f"), looks := false }, kinds := [], alts := [], laidByText := true, laidKinds := [.data, .data, .data], laidTests := true, laidLooks := .later }
def IntegerRingUptoCardSaid : Prop := Claim7.holds Tryd.pinned (.plain (OpenSpec.upto integerRingSpec)) integerRingUptoCard

/-- THE SECOND FORM's CARD OF 'garmentlaw02.IntegerOrders'. -/
def integerOrdersUptoCard : Claim7 := { stood := { row := integerOrdersUptoRow, standIns := [], harness := (true, "59d8d63bb67b8c381710378027817e237e1a737544f65a39b4bca070de9aee0f"), looks := false }, kinds := [], alts := [], laidByText := true, laidKinds := [.data, .data, .data], laidTests := true, laidLooks := .later }
def IntegerOrdersUptoCardSaid : Prop := Claim7.holds Tryd.pinned (.plain (OpenSpec.upto integerOrdersSpec)) integerOrdersUptoCard
end Rows
end Go.Proofs.YtcdfhiocglibfaaDoor
