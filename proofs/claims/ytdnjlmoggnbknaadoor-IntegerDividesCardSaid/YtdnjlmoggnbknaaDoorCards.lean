/-
  DERIVED. GIVEN WITH THE SEED: THE CARDS: each row of YtdnjlmoggnbknaaDoorRows.lean that lists a variable, with what it lists TIED to the program's text (the seventh form; the later family's looks); each row that meets fmt, with fmt's text TOLD by the authors' own Lean function (tested against real Go, not proved from fmt's source: count such statements apart). THE CARD IS WHAT COUNTS. Prove the row's statement (the work); the ties are given (YtdnjlmoggnbknaaDoorTie.lean); close each card by the builder's one call (the guide's Derived/Test/ToyasCard.lean, 'card_holds'). Laid BY PROGRAM, IN A SANDBOX (cutbox-door.mjs). By AI agents, Wed Nov 11 2026. No macro, syntax, notation, axiom, sorry.
-/
import Derived.Test.YtdnjlmoggnbknaaDoorRows
import GoSem.ClaimSeven
namespace Go.Proofs.YtdnjlmoggnbknaaDoor
namespace Rows

/-- THE TIED CARD OF 'cellarerlaw02.IntegerDivides'. -/
def integerDividesCard : Claim7 := { stood := { row := integerDividesRow, standIns := [], harness := (true, "e83ce02cdbe4e1f43f1d7bdc01a769946f8ff733fc466fc3176a59a97d37b909"), looks := true }, kinds := [], alts := [], laidByText := true, laidKinds := [.data, .data, .data, .sentinel, .sentinel], laidTests := true, laidLooks := .later }
def IntegerDividesCardSaid : Prop := Claim7.holds Tryd.pinned (.plain (OpenSpec.ofChange integerDividesSpec)) integerDividesCard

/-- THE TIED CARD OF 'cellarerlaw02.IntegerAdds'. -/
def integerAddsCard : Claim7 := { stood := { row := integerAddsRow, standIns := [], harness := (true, "e83ce02cdbe4e1f43f1d7bdc01a769946f8ff733fc466fc3176a59a97d37b909"), looks := true }, kinds := [], alts := [], laidByText := true, laidKinds := [.data, .data, .data, .sentinel, .sentinel], laidTests := true, laidLooks := .later }
def IntegerAddsCardSaid : Prop := Claim7.holds Tryd.pinned (.plain (OpenSpec.ofChange integerAddsSpec)) integerAddsCard

/-- THE TIED CARD OF 'cellarerlaw02.IntegerMultiplies'. -/
def integerMultipliesCard : Claim7 := { stood := { row := integerMultipliesRow, standIns := [], harness := (true, "e83ce02cdbe4e1f43f1d7bdc01a769946f8ff733fc466fc3176a59a97d37b909"), looks := true }, kinds := [], alts := [], laidByText := true, laidKinds := [.data, .data, .data, .sentinel, .sentinel], laidTests := true, laidLooks := .later }
def IntegerMultipliesCardSaid : Prop := Claim7.holds Tryd.pinned (.plain (OpenSpec.ofChange integerMultipliesSpec)) integerMultipliesCard

/-- THE TIED CARD OF 'cellarerlaw02.IntegerRings'. -/
def integerRingsCard : Claim7 := { stood := { row := integerRingsRow, standIns := [], harness := (true, "e83ce02cdbe4e1f43f1d7bdc01a769946f8ff733fc466fc3176a59a97d37b909"), looks := true }, kinds := [], alts := [], laidByText := true, laidKinds := [.data, .data, .data, .sentinel, .sentinel], laidTests := true, laidLooks := .later }
def IntegerRingsCardSaid : Prop := Claim7.holds Tryd.pinned (.plain (OpenSpec.ofChange integerRingsSpec)) integerRingsCard

/-- THE TIED CARD OF 'cellarerlaw02.IntegerQuotients'. -/
def integerQuotientsCard : Claim7 := { stood := { row := integerQuotientsRow, standIns := [], harness := (true, "e83ce02cdbe4e1f43f1d7bdc01a769946f8ff733fc466fc3176a59a97d37b909"), looks := true }, kinds := [], alts := [], laidByText := true, laidKinds := [.data, .data, .data, .sentinel, .sentinel], laidTests := true, laidLooks := .later }
def IntegerQuotientsCardSaid : Prop := Claim7.holds Tryd.pinned (.plain (OpenSpec.ofChange integerQuotientsSpec)) integerQuotientsCard

/-- THE TIED CARD OF 'cellarerlaw02.IntegerDivisors'. -/
def integerDivisorsCard : Claim7 := { stood := { row := integerDivisorsRow, standIns := [], harness := (true, "e83ce02cdbe4e1f43f1d7bdc01a769946f8ff733fc466fc3176a59a97d37b909"), looks := true }, kinds := [], alts := [], laidByText := true, laidKinds := [.data, .data, .data, .sentinel, .sentinel], laidTests := true, laidLooks := .later }
def IntegerDivisorsCardSaid : Prop := Claim7.holds Tryd.pinned (.plain (OpenSpec.ofChange integerDivisorsSpec)) integerDivisorsCard

/-- THE TIED CARD OF 'cellarerlaw02.IntegerSmalls'. -/
def integerSmallsCard : Claim7 := { stood := { row := integerSmallsRow, standIns := [], harness := (true, "e83ce02cdbe4e1f43f1d7bdc01a769946f8ff733fc466fc3176a59a97d37b909"), looks := true }, kinds := [], alts := [], laidByText := true, laidKinds := [.data, .data, .data, .sentinel, .sentinel], laidTests := true, laidLooks := .later }
def IntegerSmallsCardSaid : Prop := Claim7.holds Tryd.pinned (.plain (OpenSpec.ofChange integerSmallsSpec)) integerSmallsCard

/-- THE TIED CARD OF 'cellarerlaw02.IntegerOrders'. -/
def integerOrdersCard : Claim7 := { stood := { row := integerOrdersRow, standIns := [], harness := (true, "e83ce02cdbe4e1f43f1d7bdc01a769946f8ff733fc466fc3176a59a97d37b909"), looks := true }, kinds := [], alts := [], laidByText := true, laidKinds := [.data, .data, .data, .sentinel, .sentinel], laidTests := true, laidLooks := .later }
def IntegerOrdersCardSaid : Prop := Claim7.holds Tryd.pinned (.plain (OpenSpec.ofChange integerOrdersSpec)) integerOrdersCard

/-- THE SECOND FORM's CARD OF 'cellarerlaw02.IntegerDivides'. -/
def integerDividesUptoCard : Claim7 := { stood := { row := integerDividesUptoRow, standIns := [], harness := (true, "e83ce02cdbe4e1f43f1d7bdc01a769946f8ff733fc466fc3176a59a97d37b909"), looks := true }, kinds := [], alts := [], laidByText := true, laidKinds := [.data, .data, .data, .sentinel, .sentinel], laidTests := true, laidLooks := .later }
def IntegerDividesUptoCardSaid : Prop := Claim7.holds Tryd.pinned (.plain (OpenSpec.upto integerDividesSpec)) integerDividesUptoCard

/-- THE SECOND FORM's CARD OF 'cellarerlaw02.IntegerAdds'. -/
def integerAddsUptoCard : Claim7 := { stood := { row := integerAddsUptoRow, standIns := [], harness := (true, "e83ce02cdbe4e1f43f1d7bdc01a769946f8ff733fc466fc3176a59a97d37b909"), looks := true }, kinds := [], alts := [], laidByText := true, laidKinds := [.data, .data, .data, .sentinel, .sentinel], laidTests := true, laidLooks := .later }
def IntegerAddsUptoCardSaid : Prop := Claim7.holds Tryd.pinned (.plain (OpenSpec.upto integerAddsSpec)) integerAddsUptoCard

/-- THE SECOND FORM's CARD OF 'cellarerlaw02.IntegerMultiplies'. -/
def integerMultipliesUptoCard : Claim7 := { stood := { row := integerMultipliesUptoRow, standIns := [], harness := (true, "e83ce02cdbe4e1f43f1d7bdc01a769946f8ff733fc466fc3176a59a97d37b909"), looks := true }, kinds := [], alts := [], laidByText := true, laidKinds := [.data, .data, .data, .sentinel, .sentinel], laidTests := true, laidLooks := .later }
def IntegerMultipliesUptoCardSaid : Prop := Claim7.holds Tryd.pinned (.plain (OpenSpec.upto integerMultipliesSpec)) integerMultipliesUptoCard

/-- THE SECOND FORM's CARD OF 'cellarerlaw02.IntegerRings'. -/
def integerRingsUptoCard : Claim7 := { stood := { row := integerRingsUptoRow, standIns := [], harness := (true, "e83ce02cdbe4e1f43f1d7bdc01a769946f8ff733fc466fc3176a59a97d37b909"), looks := true }, kinds := [], alts := [], laidByText := true, laidKinds := [.data, .data, .data, .sentinel, .sentinel], laidTests := true, laidLooks := .later }
def IntegerRingsUptoCardSaid : Prop := Claim7.holds Tryd.pinned (.plain (OpenSpec.upto integerRingsSpec)) integerRingsUptoCard

/-- THE SECOND FORM's CARD OF 'cellarerlaw02.IntegerQuotients'. -/
def integerQuotientsUptoCard : Claim7 := { stood := { row := integerQuotientsUptoRow, standIns := [], harness := (true, "e83ce02cdbe4e1f43f1d7bdc01a769946f8ff733fc466fc3176a59a97d37b909"), looks := true }, kinds := [], alts := [], laidByText := true, laidKinds := [.data, .data, .data, .sentinel, .sentinel], laidTests := true, laidLooks := .later }
def IntegerQuotientsUptoCardSaid : Prop := Claim7.holds Tryd.pinned (.plain (OpenSpec.upto integerQuotientsSpec)) integerQuotientsUptoCard

/-- THE SECOND FORM's CARD OF 'cellarerlaw02.IntegerDivisors'. -/
def integerDivisorsUptoCard : Claim7 := { stood := { row := integerDivisorsUptoRow, standIns := [], harness := (true, "e83ce02cdbe4e1f43f1d7bdc01a769946f8ff733fc466fc3176a59a97d37b909"), looks := true }, kinds := [], alts := [], laidByText := true, laidKinds := [.data, .data, .data, .sentinel, .sentinel], laidTests := true, laidLooks := .later }
def IntegerDivisorsUptoCardSaid : Prop := Claim7.holds Tryd.pinned (.plain (OpenSpec.upto integerDivisorsSpec)) integerDivisorsUptoCard

/-- THE SECOND FORM's CARD OF 'cellarerlaw02.IntegerSmalls'. -/
def integerSmallsUptoCard : Claim7 := { stood := { row := integerSmallsUptoRow, standIns := [], harness := (true, "e83ce02cdbe4e1f43f1d7bdc01a769946f8ff733fc466fc3176a59a97d37b909"), looks := true }, kinds := [], alts := [], laidByText := true, laidKinds := [.data, .data, .data, .sentinel, .sentinel], laidTests := true, laidLooks := .later }
def IntegerSmallsUptoCardSaid : Prop := Claim7.holds Tryd.pinned (.plain (OpenSpec.upto integerSmallsSpec)) integerSmallsUptoCard

/-- THE SECOND FORM's CARD OF 'cellarerlaw02.IntegerOrders'. -/
def integerOrdersUptoCard : Claim7 := { stood := { row := integerOrdersUptoRow, standIns := [], harness := (true, "e83ce02cdbe4e1f43f1d7bdc01a769946f8ff733fc466fc3176a59a97d37b909"), looks := true }, kinds := [], alts := [], laidByText := true, laidKinds := [.data, .data, .data, .sentinel, .sentinel], laidTests := true, laidLooks := .later }
def IntegerOrdersUptoCardSaid : Prop := Claim7.holds Tryd.pinned (.plain (OpenSpec.upto integerOrdersSpec)) integerOrdersUptoCard
end Rows
end Go.Proofs.YtdnjlmoggnbknaaDoor
