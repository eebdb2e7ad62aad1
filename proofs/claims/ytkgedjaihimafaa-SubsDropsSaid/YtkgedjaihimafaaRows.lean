/-
  No cell of these rows narrows 'for every input' (looked for: loops, veiled, ifaces, maps, wideKeys, modest, calm, conditions, laid).
  DERIVED. THE GIVEN ROWS OF THIS SEAT. 3 by the template 'for every input the law returns true; each argument reads behind the call as it read before'; 0 by the template 'total and deterministic' (their statements: YtkgedjaihimafaaTotals.lean).
  GIVEN WITH THE SEED: the statements are not yours to turn. If you find one false, say at which input.
  Laid BY PROGRAM, IN A SANDBOX (cutbox-rows.mjs): the forced cells as the released guide's own fill.sh prints them over the translation 28d93c8bd9425ce7… (all of the seat's roots in one cut). By AI agents, Wed Nov 11 2026. No macro, syntax, notation, axiom, sorry.
-/
import Derived.Test.YtkgedjaihimafaaChecked
import GoSem.Claim
import GoSem.ClaimJoined
import GoSem.ClaimMapViews
import Derived.JoinedTies
import Derived.KernelRfl
namespace Go.Proofs.Ytkgedjaihimafaa
/- THE CELL 'sum', in the pinned program and in every row, IS THE sha256 OF THE DUMP (.gsa) THAT YtkgedjaihimafaaProg.lean LOADS. Nothing in Lean hashes anything: it is a label: what it is worth is what the hold of that sum in a sandbox is worth. -/
noncomputable def Try.pinned : Pinned := { name := "ytkgedjaihimafaa", sum := "28d93c8bd9425ce70d97f0769969b826545255b34158e89fed93f7f537aec412", checked := Try.checked }
namespace Rows
def none {H : Type} : Left H := { results := [], args := [] }

/-- 'louverlaw24.SubsDrops': WHATEVER THE INPUT: true; the input reads as it did. -/
def subsDropsSpec : ChangeSpec := { name := "subsDrops", fn := fun _ => fun
  | [d1, d2] => { results := [.lit (.bool true)], args := [d1, d2] }
  | _ => none }
def subsDropsRow : OpenClaim := { program := "ytkgedjaihimafaa", sum := "28d93c8bd9425ce70d97f0769969b826545255b34158e89fed93f7f537aec412", func := "louver/louverlaw24.SubsDrops", spec := "subsDrops", unfollowed := true, recurses := true, plainKeys := false, apart := false }
def SubsDropsSaid : Prop := subsDropsRow.holds Try.pinned (OpenSpec.ofChange subsDropsSpec)

/-- ITS FALSE NEIGHBOUR: 'it returns false'. Refute it at one input. -/
def subsDropsWrong : ChangeSpec := { name := "subsDrops", fn := fun _ => fun
  | [d1, d2] => { results := [.lit (.bool false)], args := [d1, d2] }
  | _ => none }
def SubsDropsWrongFalsely : Prop := subsDropsRow.holds Try.pinned (OpenSpec.ofChange subsDropsWrong)

/-- 'louverlaw24.SubsPlays': WHATEVER THE INPUT: true; the input reads as it did. -/
def subsPlaysSpec : ChangeSpec := { name := "subsPlays", fn := fun _ => fun
  | [d] => { results := [.lit (.bool true)], args := [d] }
  | _ => none }
def subsPlaysRow : OpenClaim := { program := "ytkgedjaihimafaa", sum := "28d93c8bd9425ce70d97f0769969b826545255b34158e89fed93f7f537aec412", func := "louver/louverlaw24.SubsPlays", spec := "subsPlays", unfollowed := true, recurses := true, plainKeys := false, apart := false }
def SubsPlaysSaid : Prop := subsPlaysRow.holds Try.pinned (OpenSpec.ofChange subsPlaysSpec)

/-- ITS FALSE NEIGHBOUR: 'it returns false'. Refute it at one input. -/
def subsPlaysWrong : ChangeSpec := { name := "subsPlays", fn := fun _ => fun
  | [d] => { results := [.lit (.bool false)], args := [d] }
  | _ => none }
def SubsPlaysWrongFalsely : Prop := subsPlaysRow.holds Try.pinned (OpenSpec.ofChange subsPlaysWrong)

/-- 'louverlaw24.SubsNil': WHATEVER THE INPUT: true; the input reads as it did. -/
def subsNilSpec : ChangeSpec := { name := "subsNil", fn := fun _ => fun
  | [d] => { results := [.lit (.bool true)], args := [d] }
  | _ => none }
def subsNilRow : OpenClaim := { program := "ytkgedjaihimafaa", sum := "28d93c8bd9425ce70d97f0769969b826545255b34158e89fed93f7f537aec412", func := "louver/louverlaw24.SubsNil", spec := "subsNil", unfollowed := true, recurses := true, plainKeys := false, apart := false }
def SubsNilSaid : Prop := subsNilRow.holds Try.pinned (OpenSpec.ofChange subsNilSpec)

/-- ITS FALSE NEIGHBOUR: 'it returns false'. Refute it at one input. -/
def subsNilWrong : ChangeSpec := { name := "subsNil", fn := fun _ => fun
  | [d] => { results := [.lit (.bool false)], args := [d] }
  | _ => none }
def SubsNilWrongFalsely : Prop := subsNilRow.holds Try.pinned (OpenSpec.ofChange subsNilWrong)

/- THE SECOND FORM. 'bulk': how many values and letters a reading holds, each counted each time it is reached (what is shared counts as often as it is met; a slice's spare places count too). A statement '..UptoSaid' is the law's where the arguments, and the package variables that the reading takes, are together of bulk at most 1048576: NARROWER than '..Said'. Prove '..Said' where nothing that the law and all that it calls make is longer than what came in: it says more and counts as full. Else prove '..UptoSaid'. A law counts once. -/
mutual
def uptoBulk {H : Type} : DataW H → Nat
  | .lit (.string bytes) => bytes.length + 1
  | .lit _ => 1
  | .nil => 1
  | .ptr d => uptoBulk d + 1
  | .slice elems spare => uptoBulkAll elems + uptoBulkAll spare + 1
  | .agg parts => uptoBulkAll parts + 1
  | .iface _ d => uptoBulk d + 1
  | .map entries => uptoBulkEntries entries + 1
  | .held _ => 1
def uptoBulkAll {H : Type} : List (DataW H) → Nat
  | [] => 0
  | d :: r => uptoBulk d + uptoBulkAll r
def uptoBulkEntries {H : Type} : List (Lit × DataW H) → Nat
  | [] => 0
  | x :: r => uptoBulkEntry x + uptoBulkEntries r
def uptoBulkEntry {H : Type} : Lit × DataW H → Nat
  | (.string bytes, d) => bytes.length + uptoBulk d + 1
  | (_, d) => uptoBulk d + 1
 end
def uptoSmall : (H : Type) → List (DataW H) → Bool := fun _ ds => decide (uptoBulkAll ds ≤ 1048576)
def OpenSpec.upto (s : _root_.Go.ChangeSpec) : _root_.Go.OpenSpec := { _root_.Go.OpenSpec.ofChange s with cond := some uptoSmall }

/-- 'louverlaw24.SubsDrops', WHERE WHAT IT READS IS OF BULK AT MOST 1048576: true; the input reads as it did. -/
def subsDropsUptoRow : OpenClaim := { program := "ytkgedjaihimafaa", sum := "28d93c8bd9425ce70d97f0769969b826545255b34158e89fed93f7f537aec412", func := "louver/louverlaw24.SubsDrops", spec := "subsDrops", unfollowed := true, recurses := true, plainKeys := false, apart := false, narrowed := true }
def SubsDropsUptoSaid : Prop := subsDropsUptoRow.holds Try.pinned (OpenSpec.upto subsDropsSpec)

/-- 'louverlaw24.SubsPlays', WHERE WHAT IT READS IS OF BULK AT MOST 1048576: true; the input reads as it did. -/
def subsPlaysUptoRow : OpenClaim := { program := "ytkgedjaihimafaa", sum := "28d93c8bd9425ce70d97f0769969b826545255b34158e89fed93f7f537aec412", func := "louver/louverlaw24.SubsPlays", spec := "subsPlays", unfollowed := true, recurses := true, plainKeys := false, apart := false, narrowed := true }
def SubsPlaysUptoSaid : Prop := subsPlaysUptoRow.holds Try.pinned (OpenSpec.upto subsPlaysSpec)

/-- 'louverlaw24.SubsNil', WHERE WHAT IT READS IS OF BULK AT MOST 1048576: true; the input reads as it did. -/
def subsNilUptoRow : OpenClaim := { program := "ytkgedjaihimafaa", sum := "28d93c8bd9425ce70d97f0769969b826545255b34158e89fed93f7f537aec412", func := "louver/louverlaw24.SubsNil", spec := "subsNil", unfollowed := true, recurses := true, plainKeys := false, apart := false, narrowed := true }
def SubsNilUptoSaid : Prop := subsNilUptoRow.holds Try.pinned (OpenSpec.upto subsNilSpec)

end Rows
end Go.Proofs.Ytkgedjaihimafaa
