/-
  DERIVED. GIVEN WITH THE SEED: THE CARDS: each row of YtjjfkmniffbgkaaDoorRows.lean that lists a variable, with what it lists TIED to the program's text (the seventh form; the later family's looks); each row that meets fmt, with fmt's text TOLD by the authors' own Lean function (tested against real Go, not proved from fmt's source: count such statements apart). THE CARD IS WHAT COUNTS. Prove the row's statement (the work); the ties are given (YtjjfkmniffbgkaaDoorTie.lean); close each card by the builder's one call (the guide's Derived/Test/ToyasCard.lean, 'card_holds'). Laid BY PROGRAM, IN A SANDBOX (cutbox-door.mjs). By AI agents, Wed Nov 11 2026. No macro, syntax, notation, axiom, sorry.
-/
import Derived.Test.YtjjfkmniffbgkaaDoorRows
import GoSem.ClaimSeven
namespace Go.Proofs.YtjjfkmniffbgkaaDoor
namespace Rows

/-- THE TIED CARD OF 'louverlaw01.FaultOf'. -/
def faultOfCard : Claim7 := { stood := { row := faultOfRow, standIns := [], harness := (true, "b397d9265b0c7b45635a679f6eafd5d4344da0750b1abefce7e0ef31d27deb15"), looks := true }, kinds := [], alts := [], laidByText := true, laidKinds := [.data, .data, .data, .handle, .data], laidTests := true, laidLooks := .later }
def FaultOfCardSaid : Prop := Claim7.holds Tryd.pinned (.plain (OpenSpec.ofChange faultOfSpec)) faultOfCard

/-- THE TIED CARD OF 'louverlaw07.FramePuts'. -/
def framePutsCard : Claim7 := { stood := { row := framePutsRow, standIns := [], harness := (true, "b397d9265b0c7b45635a679f6eafd5d4344da0750b1abefce7e0ef31d27deb15"), looks := true }, kinds := [], alts := [], laidByText := true, laidKinds := [.handle], laidTests := true, laidLooks := .later }
def FramePutsCardSaid : Prop := Claim7.holds Tryd.pinned (.plain (OpenSpec.ofChange framePutsSpec)) framePutsCard

/-- THE TIED CARD OF 'louverlaw07.FrameGets'. -/
def frameGetsCard : Claim7 := { stood := { row := frameGetsRow, standIns := [], harness := (true, "b397d9265b0c7b45635a679f6eafd5d4344da0750b1abefce7e0ef31d27deb15"), looks := true }, kinds := [], alts := [], laidByText := true, laidKinds := [.handle], laidTests := true, laidLooks := .later }
def FrameGetsCardSaid : Prop := Claim7.holds Tryd.pinned (.plain (OpenSpec.ofChange frameGetsSpec)) frameGetsCard

/-- THE TIED CARD OF 'louverlaw07.FrameWrong'. -/
def frameWrongCard : Claim7 := { stood := { row := frameWrongRow, standIns := [], harness := (true, "b397d9265b0c7b45635a679f6eafd5d4344da0750b1abefce7e0ef31d27deb15"), looks := true }, kinds := [], alts := [], laidByText := true, laidKinds := [.handle], laidTests := true, laidLooks := .later }
def FrameWrongCardSaid : Prop := Claim7.holds Tryd.pinned (.plain (OpenSpec.ofChange frameWrongSpec)) frameWrongCard

/-- THE TIED CARD OF 'louverlaw07.FrameBack'. -/
def frameBackCard : Claim7 := { stood := { row := frameBackRow, standIns := [], harness := (true, "b397d9265b0c7b45635a679f6eafd5d4344da0750b1abefce7e0ef31d27deb15"), looks := true }, kinds := [], alts := [], laidByText := true, laidKinds := [.handle], laidTests := true, laidLooks := .later }
def FrameBackCardSaid : Prop := Claim7.holds Tryd.pinned (.plain (OpenSpec.ofChange frameBackSpec)) frameBackCard

/-- THE TIED CARD OF 'louverlaw01.FaultRow'. -/
def faultRowCard : Claim7 := { stood := { row := faultRowRow, standIns := [], harness := (true, "b397d9265b0c7b45635a679f6eafd5d4344da0750b1abefce7e0ef31d27deb15"), looks := true }, kinds := [], alts := [], laidByText := true, laidKinds := [.data, .data, .data, .handle, .data], laidTests := true, laidLooks := .later }
def FaultRowCardSaid : Prop := Claim7.holds Tryd.pinned (.plain (OpenSpec.ofChange faultRowSpec)) faultRowCard

/-- THE TIED CARD OF 'louverlaw08.SplitPlays'. -/
def splitPlaysCard : Claim7 := { stood := { row := splitPlaysRow, standIns := [], harness := (true, "b397d9265b0c7b45635a679f6eafd5d4344da0750b1abefce7e0ef31d27deb15"), looks := true }, kinds := [], alts := [], laidByText := true, laidKinds := [.handle], laidTests := true, laidLooks := .later }
def SplitPlaysCardSaid : Prop := Claim7.holds Tryd.pinned (.plain (OpenSpec.ofChange splitPlaysSpec)) splitPlaysCard

/-- THE TIED CARD OF 'louverlaw08.SplitFrames'. -/
def splitFramesCard : Claim7 := { stood := { row := splitFramesRow, standIns := [], harness := (true, "b397d9265b0c7b45635a679f6eafd5d4344da0750b1abefce7e0ef31d27deb15"), looks := true }, kinds := [], alts := [], laidByText := true, laidKinds := [.handle], laidTests := true, laidLooks := .later }
def SplitFramesCardSaid : Prop := Claim7.holds Tryd.pinned (.plain (OpenSpec.ofChange splitFramesSpec)) splitFramesCard

/-- THE TIED CARD OF 'louverlaw08.SplitNil'. -/
def splitNilCard : Claim7 := { stood := { row := splitNilRow, standIns := [], harness := (true, "b397d9265b0c7b45635a679f6eafd5d4344da0750b1abefce7e0ef31d27deb15"), looks := true }, kinds := [], alts := [], laidByText := true, laidKinds := [.handle], laidTests := true, laidLooks := .later }
def SplitNilCardSaid : Prop := Claim7.holds Tryd.pinned (.plain (OpenSpec.ofChange splitNilSpec)) splitNilCard

/-- THE TIED CARD OF 'louverlaw08.SplitGreat'. -/
def splitGreatCard : Claim7 := { stood := { row := splitGreatRow, standIns := [], harness := (true, "b397d9265b0c7b45635a679f6eafd5d4344da0750b1abefce7e0ef31d27deb15"), looks := true }, kinds := [], alts := [], laidByText := true, laidKinds := [.handle], laidTests := true, laidLooks := .later }
def SplitGreatCardSaid : Prop := Claim7.holds Tryd.pinned (.plain (OpenSpec.ofChange splitGreatSpec)) splitGreatCard

/-- THE SECOND FORM's CARD OF 'louverlaw01.FaultOf'. -/
def faultOfUptoCard : Claim7 := { stood := { row := faultOfUptoRow, standIns := [], harness := (true, "b397d9265b0c7b45635a679f6eafd5d4344da0750b1abefce7e0ef31d27deb15"), looks := true }, kinds := [], alts := [], laidByText := true, laidKinds := [.data, .data, .data, .handle, .data], laidTests := true, laidLooks := .later }
def FaultOfUptoCardSaid : Prop := Claim7.holds Tryd.pinned (.plain (OpenSpec.upto faultOfSpec)) faultOfUptoCard

/-- THE SECOND FORM's CARD OF 'louverlaw07.FramePuts'. -/
def framePutsUptoCard : Claim7 := { stood := { row := framePutsUptoRow, standIns := [], harness := (true, "b397d9265b0c7b45635a679f6eafd5d4344da0750b1abefce7e0ef31d27deb15"), looks := true }, kinds := [], alts := [], laidByText := true, laidKinds := [.handle], laidTests := true, laidLooks := .later }
def FramePutsUptoCardSaid : Prop := Claim7.holds Tryd.pinned (.plain (OpenSpec.upto framePutsSpec)) framePutsUptoCard

/-- THE SECOND FORM's CARD OF 'louverlaw07.FrameGets'. -/
def frameGetsUptoCard : Claim7 := { stood := { row := frameGetsUptoRow, standIns := [], harness := (true, "b397d9265b0c7b45635a679f6eafd5d4344da0750b1abefce7e0ef31d27deb15"), looks := true }, kinds := [], alts := [], laidByText := true, laidKinds := [.handle], laidTests := true, laidLooks := .later }
def FrameGetsUptoCardSaid : Prop := Claim7.holds Tryd.pinned (.plain (OpenSpec.upto frameGetsSpec)) frameGetsUptoCard

/-- THE SECOND FORM's CARD OF 'louverlaw07.FrameWrong'. -/
def frameWrongUptoCard : Claim7 := { stood := { row := frameWrongUptoRow, standIns := [], harness := (true, "b397d9265b0c7b45635a679f6eafd5d4344da0750b1abefce7e0ef31d27deb15"), looks := true }, kinds := [], alts := [], laidByText := true, laidKinds := [.handle], laidTests := true, laidLooks := .later }
def FrameWrongUptoCardSaid : Prop := Claim7.holds Tryd.pinned (.plain (OpenSpec.upto frameWrongSpec)) frameWrongUptoCard

/-- THE SECOND FORM's CARD OF 'louverlaw07.FrameBack'. -/
def frameBackUptoCard : Claim7 := { stood := { row := frameBackUptoRow, standIns := [], harness := (true, "b397d9265b0c7b45635a679f6eafd5d4344da0750b1abefce7e0ef31d27deb15"), looks := true }, kinds := [], alts := [], laidByText := true, laidKinds := [.handle], laidTests := true, laidLooks := .later }
def FrameBackUptoCardSaid : Prop := Claim7.holds Tryd.pinned (.plain (OpenSpec.upto frameBackSpec)) frameBackUptoCard

/-- THE SECOND FORM's CARD OF 'louverlaw01.FaultRow'. -/
def faultRowUptoCard : Claim7 := { stood := { row := faultRowUptoRow, standIns := [], harness := (true, "b397d9265b0c7b45635a679f6eafd5d4344da0750b1abefce7e0ef31d27deb15"), looks := true }, kinds := [], alts := [], laidByText := true, laidKinds := [.data, .data, .data, .handle, .data], laidTests := true, laidLooks := .later }
def FaultRowUptoCardSaid : Prop := Claim7.holds Tryd.pinned (.plain (OpenSpec.upto faultRowSpec)) faultRowUptoCard

/-- THE SECOND FORM's CARD OF 'louverlaw08.SplitPlays'. -/
def splitPlaysUptoCard : Claim7 := { stood := { row := splitPlaysUptoRow, standIns := [], harness := (true, "b397d9265b0c7b45635a679f6eafd5d4344da0750b1abefce7e0ef31d27deb15"), looks := true }, kinds := [], alts := [], laidByText := true, laidKinds := [.handle], laidTests := true, laidLooks := .later }
def SplitPlaysUptoCardSaid : Prop := Claim7.holds Tryd.pinned (.plain (OpenSpec.upto splitPlaysSpec)) splitPlaysUptoCard

/-- THE SECOND FORM's CARD OF 'louverlaw08.SplitFrames'. -/
def splitFramesUptoCard : Claim7 := { stood := { row := splitFramesUptoRow, standIns := [], harness := (true, "b397d9265b0c7b45635a679f6eafd5d4344da0750b1abefce7e0ef31d27deb15"), looks := true }, kinds := [], alts := [], laidByText := true, laidKinds := [.handle], laidTests := true, laidLooks := .later }
def SplitFramesUptoCardSaid : Prop := Claim7.holds Tryd.pinned (.plain (OpenSpec.upto splitFramesSpec)) splitFramesUptoCard

/-- THE SECOND FORM's CARD OF 'louverlaw08.SplitNil'. -/
def splitNilUptoCard : Claim7 := { stood := { row := splitNilUptoRow, standIns := [], harness := (true, "b397d9265b0c7b45635a679f6eafd5d4344da0750b1abefce7e0ef31d27deb15"), looks := true }, kinds := [], alts := [], laidByText := true, laidKinds := [.handle], laidTests := true, laidLooks := .later }
def SplitNilUptoCardSaid : Prop := Claim7.holds Tryd.pinned (.plain (OpenSpec.upto splitNilSpec)) splitNilUptoCard

/-- THE SECOND FORM's CARD OF 'louverlaw08.SplitGreat'. -/
def splitGreatUptoCard : Claim7 := { stood := { row := splitGreatUptoRow, standIns := [], harness := (true, "b397d9265b0c7b45635a679f6eafd5d4344da0750b1abefce7e0ef31d27deb15"), looks := true }, kinds := [], alts := [], laidByText := true, laidKinds := [.handle], laidTests := true, laidLooks := .later }
def SplitGreatUptoCardSaid : Prop := Claim7.holds Tryd.pinned (.plain (OpenSpec.upto splitGreatSpec)) splitGreatUptoCard
end Rows
end Go.Proofs.YtjjfkmniffbgkaaDoor
