/-
  DERIVED. GIVEN WITH THE SEED: THE CARDS: each row of YtodfahcmgmleeaaDoorRows.lean that lists a variable, with what it lists TIED to the program's text (the seventh form; the later family's looks); each row that meets fmt, with fmt's text TOLD by the authors' own Lean function (tested against real Go, not proved from fmt's source: count such statements apart). THE CARD IS WHAT COUNTS. Prove the row's statement (the work); the ties are given (YtodfahcmgmleeaaDoorTie.lean); close each card by the builder's one call (the guide's Derived/Test/ToyasCard.lean, 'card_holds'). Laid BY PROGRAM, IN A SANDBOX (cutbox-door.mjs). By AI agents, Wed Nov 11 2026. No macro, syntax, notation, axiom, sorry.
-/
import Derived.Test.YtodfahcmgmleeaaDoorRows
import GoSem.ClaimSeven
namespace Go.Proofs.YtodfahcmgmleeaaDoor
namespace Rows

/-- THE TIED CARD OF 'louverlaw12.BlockPlays'. -/
def blockPlaysCard : Claim7 := { stood := { row := blockPlaysRow, standIns := [], harness := (true, "b1b04dc060b011ede986d2aa575e24ea77737fb640d8cf7f149dcaf2883042a8"), looks := true }, kinds := [], alts := [], laidByText := true, laidKinds := [.handle], laidTests := true, laidLooks := .later }
def BlockPlaysCardSaid : Prop := Claim7.holds Tryd.pinned (.plain (OpenSpec.ofChange blockPlaysSpec)) blockPlaysCard

/-- THE TIED CARD OF 'louverlaw12.BlockNil'. -/
def blockNilCard : Claim7 := { stood := { row := blockNilRow, standIns := [], harness := (true, "b1b04dc060b011ede986d2aa575e24ea77737fb640d8cf7f149dcaf2883042a8"), looks := true }, kinds := [], alts := [], laidByText := true, laidKinds := [.handle], laidTests := true, laidLooks := .later }
def BlockNilCardSaid : Prop := Claim7.holds Tryd.pinned (.plain (OpenSpec.ofChange blockNilSpec)) blockNilCard

/-- THE TIED CARD OF 'louverlaw11.StreamNumber'. -/
def streamNumberCard : Claim7 := { stood := { row := streamNumberRow, standIns := [], harness := (true, "b1b04dc060b011ede986d2aa575e24ea77737fb640d8cf7f149dcaf2883042a8"), looks := true }, kinds := [], alts := [], laidByText := true, laidKinds := [.handle], laidTests := true, laidLooks := .later }
def StreamNumberCardSaid : Prop := Claim7.holds Tryd.pinned (.plain (OpenSpec.ofChange streamNumberSpec)) streamNumberCard

/-- THE TIED CARD OF 'louverlaw12.BlockGoes'. -/
def blockGoesCard : Claim7 := { stood := { row := blockGoesRow, standIns := [], harness := (true, "b1b04dc060b011ede986d2aa575e24ea77737fb640d8cf7f149dcaf2883042a8"), looks := true }, kinds := [], alts := [], laidByText := true, laidKinds := [.handle], laidTests := true, laidLooks := .later }
def BlockGoesCardSaid : Prop := Claim7.holds Tryd.pinned (.plain (OpenSpec.ofChange blockGoesSpec)) blockGoesCard

/-- THE TIED CARD OF 'louverlaw11.StreamSend'. -/
def streamSendCard : Claim7 := { stood := { row := streamSendRow, standIns := [], harness := (true, "b1b04dc060b011ede986d2aa575e24ea77737fb640d8cf7f149dcaf2883042a8"), looks := true }, kinds := [], alts := [], laidByText := true, laidKinds := [.handle], laidTests := true, laidLooks := .later }
def StreamSendCardSaid : Prop := Claim7.holds Tryd.pinned (.plain (OpenSpec.ofChange streamSendSpec)) streamSendCard

/-- THE TIED CARD OF 'louverlaw11.StreamOn'. -/
def streamOnCard : Claim7 := { stood := { row := streamOnRow, standIns := [], harness := (true, "b1b04dc060b011ede986d2aa575e24ea77737fb640d8cf7f149dcaf2883042a8"), looks := true }, kinds := [], alts := [], laidByText := true, laidKinds := [.handle], laidTests := true, laidLooks := .later }
def StreamOnCardSaid : Prop := Claim7.holds Tryd.pinned (.plain (OpenSpec.ofChange streamOnSpec)) streamOnCard

/-- THE TIED CARD OF 'louverlaw11.StreamEnds'. -/
def streamEndsCard : Claim7 := { stood := { row := streamEndsRow, standIns := [], harness := (true, "b1b04dc060b011ede986d2aa575e24ea77737fb640d8cf7f149dcaf2883042a8"), looks := true }, kinds := [], alts := [], laidByText := true, laidKinds := [.handle], laidTests := true, laidLooks := .later }
def StreamEndsCardSaid : Prop := Claim7.holds Tryd.pinned (.plain (OpenSpec.ofChange streamEndsSpec)) streamEndsCard

/-- THE TIED CARD OF 'louverlaw11.StreamIgnored'. -/
def streamIgnoredCard : Claim7 := { stood := { row := streamIgnoredRow, standIns := [], harness := (true, "b1b04dc060b011ede986d2aa575e24ea77737fb640d8cf7f149dcaf2883042a8"), looks := true }, kinds := [], alts := [], laidByText := true, laidKinds := [.handle], laidTests := true, laidLooks := .later }
def StreamIgnoredCardSaid : Prop := Claim7.holds Tryd.pinned (.plain (OpenSpec.ofChange streamIgnoredSpec)) streamIgnoredCard

/-- THE TIED CARD OF 'louverlaw21.TopicUnder'. -/
def topicUnderCard : Claim7 := { stood := { row := topicUnderRow, standIns := [], harness := (true, "b1b04dc060b011ede986d2aa575e24ea77737fb640d8cf7f149dcaf2883042a8"), looks := true }, kinds := [], alts := [], laidByText := true, laidKinds := [.data, .pinned], laidTests := true, laidLooks := .later }
def TopicUnderCardSaid : Prop := Claim7.holds Tryd.pinned (.plain (OpenSpec.ofChange topicUnderSpec)) topicUnderCard

/-- THE TIED CARD OF 'louverlaw21.TopicNests'. -/
def topicNestsCard : Claim7 := { stood := { row := topicNestsRow, standIns := [], harness := (true, "b1b04dc060b011ede986d2aa575e24ea77737fb640d8cf7f149dcaf2883042a8"), looks := true }, kinds := [], alts := [], laidByText := true, laidKinds := [.data, .pinned], laidTests := true, laidLooks := .later }
def TopicNestsCardSaid : Prop := Claim7.holds Tryd.pinned (.plain (OpenSpec.ofChange topicNestsSpec)) topicNestsCard

/-- THE TIED CARD OF 'louverlaw21.TopicMay'. -/
def topicMayCard : Claim7 := { stood := { row := topicMayRow, standIns := [], harness := (true, "b1b04dc060b011ede986d2aa575e24ea77737fb640d8cf7f149dcaf2883042a8"), looks := true }, kinds := [], alts := [], laidByText := true, laidKinds := [.data, .pinned], laidTests := true, laidLooks := .later }
def TopicMayCardSaid : Prop := Claim7.holds Tryd.pinned (.plain (OpenSpec.ofChange topicMaySpec)) topicMayCard

/-- THE TIED CARD OF 'louverlaw21.TopicJoin'. -/
def topicJoinCard : Claim7 := { stood := { row := topicJoinRow, standIns := [], harness := (true, "b1b04dc060b011ede986d2aa575e24ea77737fb640d8cf7f149dcaf2883042a8"), looks := true }, kinds := [], alts := [], laidByText := true, laidKinds := [.data, .pinned], laidTests := true, laidLooks := .later }
def TopicJoinCardSaid : Prop := Claim7.holds Tryd.pinned (.plain (OpenSpec.ofChange topicJoinSpec)) topicJoinCard

/-- THE SECOND FORM's CARD OF 'louverlaw12.BlockPlays'. -/
def blockPlaysUptoCard : Claim7 := { stood := { row := blockPlaysUptoRow, standIns := [], harness := (true, "b1b04dc060b011ede986d2aa575e24ea77737fb640d8cf7f149dcaf2883042a8"), looks := true }, kinds := [], alts := [], laidByText := true, laidKinds := [.handle], laidTests := true, laidLooks := .later }
def BlockPlaysUptoCardSaid : Prop := Claim7.holds Tryd.pinned (.plain (OpenSpec.upto blockPlaysSpec)) blockPlaysUptoCard

/-- THE SECOND FORM's CARD OF 'louverlaw12.BlockNil'. -/
def blockNilUptoCard : Claim7 := { stood := { row := blockNilUptoRow, standIns := [], harness := (true, "b1b04dc060b011ede986d2aa575e24ea77737fb640d8cf7f149dcaf2883042a8"), looks := true }, kinds := [], alts := [], laidByText := true, laidKinds := [.handle], laidTests := true, laidLooks := .later }
def BlockNilUptoCardSaid : Prop := Claim7.holds Tryd.pinned (.plain (OpenSpec.upto blockNilSpec)) blockNilUptoCard

/-- THE SECOND FORM's CARD OF 'louverlaw11.StreamNumber'. -/
def streamNumberUptoCard : Claim7 := { stood := { row := streamNumberUptoRow, standIns := [], harness := (true, "b1b04dc060b011ede986d2aa575e24ea77737fb640d8cf7f149dcaf2883042a8"), looks := true }, kinds := [], alts := [], laidByText := true, laidKinds := [.handle], laidTests := true, laidLooks := .later }
def StreamNumberUptoCardSaid : Prop := Claim7.holds Tryd.pinned (.plain (OpenSpec.upto streamNumberSpec)) streamNumberUptoCard

/-- THE SECOND FORM's CARD OF 'louverlaw12.BlockGoes'. -/
def blockGoesUptoCard : Claim7 := { stood := { row := blockGoesUptoRow, standIns := [], harness := (true, "b1b04dc060b011ede986d2aa575e24ea77737fb640d8cf7f149dcaf2883042a8"), looks := true }, kinds := [], alts := [], laidByText := true, laidKinds := [.handle], laidTests := true, laidLooks := .later }
def BlockGoesUptoCardSaid : Prop := Claim7.holds Tryd.pinned (.plain (OpenSpec.upto blockGoesSpec)) blockGoesUptoCard

/-- THE SECOND FORM's CARD OF 'louverlaw11.StreamSend'. -/
def streamSendUptoCard : Claim7 := { stood := { row := streamSendUptoRow, standIns := [], harness := (true, "b1b04dc060b011ede986d2aa575e24ea77737fb640d8cf7f149dcaf2883042a8"), looks := true }, kinds := [], alts := [], laidByText := true, laidKinds := [.handle], laidTests := true, laidLooks := .later }
def StreamSendUptoCardSaid : Prop := Claim7.holds Tryd.pinned (.plain (OpenSpec.upto streamSendSpec)) streamSendUptoCard

/-- THE SECOND FORM's CARD OF 'louverlaw11.StreamOn'. -/
def streamOnUptoCard : Claim7 := { stood := { row := streamOnUptoRow, standIns := [], harness := (true, "b1b04dc060b011ede986d2aa575e24ea77737fb640d8cf7f149dcaf2883042a8"), looks := true }, kinds := [], alts := [], laidByText := true, laidKinds := [.handle], laidTests := true, laidLooks := .later }
def StreamOnUptoCardSaid : Prop := Claim7.holds Tryd.pinned (.plain (OpenSpec.upto streamOnSpec)) streamOnUptoCard

/-- THE SECOND FORM's CARD OF 'louverlaw11.StreamEnds'. -/
def streamEndsUptoCard : Claim7 := { stood := { row := streamEndsUptoRow, standIns := [], harness := (true, "b1b04dc060b011ede986d2aa575e24ea77737fb640d8cf7f149dcaf2883042a8"), looks := true }, kinds := [], alts := [], laidByText := true, laidKinds := [.handle], laidTests := true, laidLooks := .later }
def StreamEndsUptoCardSaid : Prop := Claim7.holds Tryd.pinned (.plain (OpenSpec.upto streamEndsSpec)) streamEndsUptoCard

/-- THE SECOND FORM's CARD OF 'louverlaw11.StreamIgnored'. -/
def streamIgnoredUptoCard : Claim7 := { stood := { row := streamIgnoredUptoRow, standIns := [], harness := (true, "b1b04dc060b011ede986d2aa575e24ea77737fb640d8cf7f149dcaf2883042a8"), looks := true }, kinds := [], alts := [], laidByText := true, laidKinds := [.handle], laidTests := true, laidLooks := .later }
def StreamIgnoredUptoCardSaid : Prop := Claim7.holds Tryd.pinned (.plain (OpenSpec.upto streamIgnoredSpec)) streamIgnoredUptoCard

/-- THE SECOND FORM's CARD OF 'louverlaw21.TopicUnder'. -/
def topicUnderUptoCard : Claim7 := { stood := { row := topicUnderUptoRow, standIns := [], harness := (true, "b1b04dc060b011ede986d2aa575e24ea77737fb640d8cf7f149dcaf2883042a8"), looks := true }, kinds := [], alts := [], laidByText := true, laidKinds := [.data, .pinned], laidTests := true, laidLooks := .later }
def TopicUnderUptoCardSaid : Prop := Claim7.holds Tryd.pinned (.plain (OpenSpec.upto topicUnderSpec)) topicUnderUptoCard

/-- THE SECOND FORM's CARD OF 'louverlaw21.TopicNests'. -/
def topicNestsUptoCard : Claim7 := { stood := { row := topicNestsUptoRow, standIns := [], harness := (true, "b1b04dc060b011ede986d2aa575e24ea77737fb640d8cf7f149dcaf2883042a8"), looks := true }, kinds := [], alts := [], laidByText := true, laidKinds := [.data, .pinned], laidTests := true, laidLooks := .later }
def TopicNestsUptoCardSaid : Prop := Claim7.holds Tryd.pinned (.plain (OpenSpec.upto topicNestsSpec)) topicNestsUptoCard

/-- THE SECOND FORM's CARD OF 'louverlaw21.TopicMay'. -/
def topicMayUptoCard : Claim7 := { stood := { row := topicMayUptoRow, standIns := [], harness := (true, "b1b04dc060b011ede986d2aa575e24ea77737fb640d8cf7f149dcaf2883042a8"), looks := true }, kinds := [], alts := [], laidByText := true, laidKinds := [.data, .pinned], laidTests := true, laidLooks := .later }
def TopicMayUptoCardSaid : Prop := Claim7.holds Tryd.pinned (.plain (OpenSpec.upto topicMaySpec)) topicMayUptoCard

/-- THE SECOND FORM's CARD OF 'louverlaw21.TopicJoin'. -/
def topicJoinUptoCard : Claim7 := { stood := { row := topicJoinUptoRow, standIns := [], harness := (true, "b1b04dc060b011ede986d2aa575e24ea77737fb640d8cf7f149dcaf2883042a8"), looks := true }, kinds := [], alts := [], laidByText := true, laidKinds := [.data, .pinned], laidTests := true, laidLooks := .later }
def TopicJoinUptoCardSaid : Prop := Claim7.holds Tryd.pinned (.plain (OpenSpec.upto topicJoinSpec)) topicJoinUptoCard
end Rows
end Go.Proofs.YtodfahcmgmleeaaDoor
