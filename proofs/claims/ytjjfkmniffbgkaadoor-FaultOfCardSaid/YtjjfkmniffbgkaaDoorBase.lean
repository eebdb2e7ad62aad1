/- Small words that all texts of this claim use. -/
import Derived.Test.YtjjfkmniffbgkaaDoorWWords
import Derived.Lib.Hide
import Derived.Test.YtjjfkmniffbgkaaDoorProg
import Derived.WalkKit
import Derived.Below
import Derived.RowKit
import Derived.KernelRfl
import Derived.Deep.DeepCutAuto
import Derived.Deep.RegionHeld3
import Derived.Deep.QuietTactic
import Derived.BigQuiet
import Derived.Outline
import Derived.Deep.LoopGhost
import Derived.WalkSpells
namespace Go.Proofs.YtjjfkmniffbgkaaDoor
set_option linter.unusedVariables false
set_option linter.unusedSimpArgs false
open Go.RowKit
/-- The post behind a letter. -/
theorem of_post0 {P : Program} {f : FuncId} {args : Array Value} {w : World} {T : Ending → World → Prop} (h : ∀ R : Ending → World → Prop, (∀ e w', T e w' → R e w') → Calls P f args w R) : Calls P f args w T := h T fun _ _ h => h
end Go.Proofs.YtjjfkmniffbgkaaDoor
