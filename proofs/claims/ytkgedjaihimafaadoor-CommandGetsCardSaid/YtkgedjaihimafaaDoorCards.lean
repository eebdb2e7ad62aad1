/-
  DERIVED. GIVEN WITH THE SEED: THE CARDS: each row of YtkgedjaihimafaaDoorRows.lean that lists a variable, with what it lists TIED to the program's text (the seventh form; the later family's looks); each row that meets fmt, with fmt's text TOLD by the authors' own Lean function (tested against real Go, not proved from fmt's source: count such statements apart). THE CARD IS WHAT COUNTS. Prove the row's statement (the work); the ties are given (YtkgedjaihimafaaDoorTie.lean); close each card by the builder's one call (the guide's Derived/Test/ToyasCard.lean, 'card_holds'). Laid BY PROGRAM, IN A SANDBOX (cutbox-door.mjs). By AI agents, Wed Nov 11 2026. No macro, syntax, notation, axiom, sorry.
-/
import Derived.Test.YtkgedjaihimafaaDoorRows
import GoSem.ClaimSeven
namespace Go.Proofs.YtkgedjaihimafaaDoor
namespace Rows

/-- THE TIED CARD OF 'louverlaw22.CommandApart'. -/
def commandApartCard : Claim7 := { stood := { row := commandApartRow, standIns := [], harness := (true, "d794906ef4cdb448a7948c637b3424ad43f43dd011a37232dc6166c46aee89ea"), looks := false }, kinds := [], alts := [], laidByText := true, laidKinds := [.data, .pinned], laidTests := true, laidLooks := .later }
def CommandApartCardSaid : Prop := Claim7.holds Tryd.pinned (.plain (OpenSpec.ofChange commandApartSpec)) commandApartCard

/-- THE TIED CARD OF 'louverlaw22.CommandGets'. -/
def commandGetsCard : Claim7 := { stood := { row := commandGetsRow, standIns := [], harness := (true, "d794906ef4cdb448a7948c637b3424ad43f43dd011a37232dc6166c46aee89ea"), looks := false }, kinds := [], alts := [], laidByText := true, laidKinds := [.data, .pinned], laidTests := true, laidLooks := .later }
def CommandGetsCardSaid : Prop := Claim7.holds Tryd.pinned (.plain (OpenSpec.ofChange commandGetsSpec)) commandGetsCard

/-- THE TIED CARD OF 'louverlaw22.CommandWhy'. -/
def commandWhyCard : Claim7 := { stood := { row := commandWhyRow, standIns := [], harness := (true, "d794906ef4cdb448a7948c637b3424ad43f43dd011a37232dc6166c46aee89ea"), looks := false }, kinds := [], alts := [], laidByText := true, laidKinds := [.data, .pinned], laidTests := true, laidLooks := .later }
def CommandWhyCardSaid : Prop := Claim7.holds Tryd.pinned (.plain (OpenSpec.ofChange commandWhySpec)) commandWhyCard

/-- THE TIED CARD OF 'louverlaw22.CommandPuts'. -/
def commandPutsCard : Claim7 := { stood := { row := commandPutsRow, standIns := [], harness := (true, "d794906ef4cdb448a7948c637b3424ad43f43dd011a37232dc6166c46aee89ea"), looks := false }, kinds := [], alts := [], laidByText := true, laidKinds := [.data, .pinned], laidTests := true, laidLooks := .later }
def CommandPutsCardSaid : Prop := Claim7.holds Tryd.pinned (.plain (OpenSpec.ofChange commandPutsSpec)) commandPutsCard

/-- THE TIED CARD OF 'louverlaw25.BrokerOthers'. -/
def brokerOthersCard : Claim7 := { stood := { row := brokerOthersRow, standIns := [], harness := (true, "d794906ef4cdb448a7948c637b3424ad43f43dd011a37232dc6166c46aee89ea"), looks := false }, kinds := [], alts := [], laidByText := true, laidKinds := [.data, .pinned], laidTests := true, laidLooks := .later }
def BrokerOthersCardSaid : Prop := Claim7.holds Tryd.pinned (.plain (OpenSpec.ofChange brokerOthersSpec)) brokerOthersCard

/-- THE TIED CARD OF 'louverlaw25.BrokerNil'. -/
def brokerNilCard : Claim7 := { stood := { row := brokerNilRow, standIns := [], harness := (true, "d794906ef4cdb448a7948c637b3424ad43f43dd011a37232dc6166c46aee89ea"), looks := false }, kinds := [], alts := [], laidByText := true, laidKinds := [.data, .pinned], laidTests := true, laidLooks := .later }
def BrokerNilCardSaid : Prop := Claim7.holds Tryd.pinned (.plain (OpenSpec.ofChange brokerNilSpec)) brokerNilCard

/-- THE SECOND FORM's CARD OF 'louverlaw22.CommandApart'. -/
def commandApartUptoCard : Claim7 := { stood := { row := commandApartUptoRow, standIns := [], harness := (true, "d794906ef4cdb448a7948c637b3424ad43f43dd011a37232dc6166c46aee89ea"), looks := false }, kinds := [], alts := [], laidByText := true, laidKinds := [.data, .pinned], laidTests := true, laidLooks := .later }
def CommandApartUptoCardSaid : Prop := Claim7.holds Tryd.pinned (.plain (OpenSpec.upto commandApartSpec)) commandApartUptoCard

/-- THE SECOND FORM's CARD OF 'louverlaw22.CommandGets'. -/
def commandGetsUptoCard : Claim7 := { stood := { row := commandGetsUptoRow, standIns := [], harness := (true, "d794906ef4cdb448a7948c637b3424ad43f43dd011a37232dc6166c46aee89ea"), looks := false }, kinds := [], alts := [], laidByText := true, laidKinds := [.data, .pinned], laidTests := true, laidLooks := .later }
def CommandGetsUptoCardSaid : Prop := Claim7.holds Tryd.pinned (.plain (OpenSpec.upto commandGetsSpec)) commandGetsUptoCard

/-- THE SECOND FORM's CARD OF 'louverlaw22.CommandWhy'. -/
def commandWhyUptoCard : Claim7 := { stood := { row := commandWhyUptoRow, standIns := [], harness := (true, "d794906ef4cdb448a7948c637b3424ad43f43dd011a37232dc6166c46aee89ea"), looks := false }, kinds := [], alts := [], laidByText := true, laidKinds := [.data, .pinned], laidTests := true, laidLooks := .later }
def CommandWhyUptoCardSaid : Prop := Claim7.holds Tryd.pinned (.plain (OpenSpec.upto commandWhySpec)) commandWhyUptoCard

/-- THE SECOND FORM's CARD OF 'louverlaw22.CommandPuts'. -/
def commandPutsUptoCard : Claim7 := { stood := { row := commandPutsUptoRow, standIns := [], harness := (true, "d794906ef4cdb448a7948c637b3424ad43f43dd011a37232dc6166c46aee89ea"), looks := false }, kinds := [], alts := [], laidByText := true, laidKinds := [.data, .pinned], laidTests := true, laidLooks := .later }
def CommandPutsUptoCardSaid : Prop := Claim7.holds Tryd.pinned (.plain (OpenSpec.upto commandPutsSpec)) commandPutsUptoCard

/-- THE SECOND FORM's CARD OF 'louverlaw25.BrokerOthers'. -/
def brokerOthersUptoCard : Claim7 := { stood := { row := brokerOthersUptoRow, standIns := [], harness := (true, "d794906ef4cdb448a7948c637b3424ad43f43dd011a37232dc6166c46aee89ea"), looks := false }, kinds := [], alts := [], laidByText := true, laidKinds := [.data, .pinned], laidTests := true, laidLooks := .later }
def BrokerOthersUptoCardSaid : Prop := Claim7.holds Tryd.pinned (.plain (OpenSpec.upto brokerOthersSpec)) brokerOthersUptoCard

/-- THE SECOND FORM's CARD OF 'louverlaw25.BrokerNil'. -/
def brokerNilUptoCard : Claim7 := { stood := { row := brokerNilUptoRow, standIns := [], harness := (true, "d794906ef4cdb448a7948c637b3424ad43f43dd011a37232dc6166c46aee89ea"), looks := false }, kinds := [], alts := [], laidByText := true, laidKinds := [.data, .pinned], laidTests := true, laidLooks := .later }
def BrokerNilUptoCardSaid : Prop := Claim7.holds Tryd.pinned (.plain (OpenSpec.upto brokerNilSpec)) brokerNilUptoCard
end Rows
end Go.Proofs.YtkgedjaihimafaaDoor
