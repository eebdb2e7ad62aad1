/- What the reference of package stream answers for a frame that came, and the chapter's examples. -/
import Derived.Test.YtodfahcmgmleeaaDoorStream
namespace Go.Proofs.YtodfahcmgmleeaaDoor
open Go.RowKit Go.Proofs.YtodfahcmgmleeaaDoorW.PrintWords

def RefOut (r : Int × Int × Int) (w : World) (ev : Ending) (w' : World) : Prop :=
  ev = .returned (.tuple #[.int .u8 r.1, .int .i64 r.2.1, .int .i64 r.2.2]) ∧ Below w.heap.size w w'

set_option maxHeartbeats 4000000 in
set_option maxRecDepth 100000 in
theorem refCome_known (s k : Int) (e : Bool) (hs : s = 0 ∨ s = 1 ∨ s = 2 ∨ s = 3 ∨ s = 4 ∨ s = 5 ∨ s = 6) (hk : k = 1 ∨ k = 0 ∨ k = 3 ∨ k = 8 ∨ k = 2) (w : World) :
    Calls Tryd.prog 28 #[.int .u8 s, .int .u8 k, .bool e] w (RefOut (comeF s k e) w) := by
  rcases hk with rfl | rfl | rfl | rfl | rfl <;> rcases hs with rfl | rfl | rfl | rfl | rfl | rfl | rfl <;> cases e <;>
  (go_enter Tryd.func28, Tryd.ntmps28
   go_wp2
   go_ret3
   first
     | exact ⟨rfl, Below.refl _ _⟩
     | exact ⟨rfl, (Below.refl _ _).alloc (Nat.le_refl _) _⟩)
end Go.Proofs.YtodfahcmgmleeaaDoor
