/- The chapter's example of package fault, walked; what it asks of the world. -/
import Derived.Test.YtjjfkmniffbgkaaDoorBase
import Derived.Test.YtjjfkmniffbgkaaDoorFault
import Derived.Test.YtjjfkmniffbgkaaDoorEq
namespace Go.Proofs.YtjjfkmniffbgkaaDoor
set_option linter.unusedVariables false
set_option linter.unusedSimpArgs false
open Go.RowKit Go.Proofs.YtjjfkmniffbgkaaDoorW.PrintWords
attribute [local go_sem high] eqFault

/-- What the world must hold: the type that errors.As looks for, and a code's name. -/
def WFact (w : World) : Prop := GV w ∧ w.cell? ⟨0, 6, none⟩ = some (.string ⟨#[70, 82, 65, 77, 69, 95, 83, 73, 90, 69, 95, 69, 82, 82, 79, 82]⟩)
theorem WFact.below {w w' : World} (h : WFact w) (hb : Below w.heap.size w w') : WFact w' := ⟨h.1.below hb, (hb.cell (World.block_lt_of_cell? w _ h.2)).trans h.2⟩

theorem name6_calls (w : World) (h : WFact w) : Calls Tryd.prog 44 #[.agg #[.int .u8 1, .int .u32 6]] w fun e w' => e = .returned (.string ⟨#[70, 82, 65, 77, 69, 95, 83, 73, 90, 69, 95, 69, 82, 82, 79, 82]⟩) ∧ Below w.heap.size w w' := by
  have h2 := h.2
  have hlt := World.block_lt_of_cell? w _ h2
  go_enter Tryd.func44, Tryd.ntmps44
  go_wp2_with fail
  go_ret
  exact ⟨rfl, (Below.refl _ _).alloc (Nat.le_refl _) _⟩

set_option maxHeartbeats 1000000 in
theorem fixed01 (w : World) (h : WFact w) : Calls Tryd.prog 13 #[] w fun e w' => e = .returned (.bool true) ∧ Below w.heap.size w w' := by
  refine of_post0 fun R hRR => ?_
  have HP := Lib.hid hRR
  have HW := Lib.hid h
  clear hRR h
  go_enter Tryd.func13, Tryd.ntmps13
  go_wp2_with fail
  refine (conn_calls _ _).mono ?_
  rintro e w1 ⟨v, rfl, hb1, hE1⟩
  have H1 := Lib.hid (And.intro hb1 hE1)
  clear hb1 hE1
  obtain ⟨T, p, rfl⟩ := H1.out.2.form
  go_wp2_with fail
  refine (wrap_err 0 _ _ 1 6 _ H1.out.2).mono ?_
  rintro e w2 ⟨v, rfl, hb2, hE2⟩
  have H2 := Lib.hid (And.intro (H1.out.1.trans (hb2.mono H1.out.1.size)) hE2)
  clear hb2 hE2
  obtain ⟨T2, p2, rfl⟩ := H2.out.2.form
  go_wp2_with fail
  refine (of_err 1 _ 1 6 _ (HW.out.below H2.out.1).1 H2.out.2).mono ?_
  rintro e w3 ⟨rfl, hb3⟩
  have H3 := Lib.hid (H2.out.1.trans (hb3.mono H2.out.1.size))
  have hs3 := H3.out.size
  clear hb3
  go_wp2_with fail
  refine (name6_calls _ (HW.out.below (H3.out.alloc (by omega) _))).mono ?_
  rintro e w4 ⟨rfl, hb4⟩
  have H4 := Lib.hid ((H3.out.alloc hs3 (.cells #[.int .u8 1, .int .u32 6] 24)).trans (hb4.mono (by simp; omega)))
  have q := blk2 (blk_below (blk_new w3 (.cells #[.int .u8 1, .int .u32 6] 24)) hb4)
  have hz := blk_lt (blk_below (blk_new w3 (.cells #[.int .u8 1, .int .u32 6] 24)) hb4)
  obtain ⟨q0, q1, -, -⟩ := q
  clear hb4
  go_wp2_with fail
  refine (of_nil _).mono ?_
  rintro e w5 ⟨rfl, hb5⟩
  have H5 := Lib.hid (H4.out.trans (hb5.mono H4.out.size))
  clear hb5
  go_wp2_with fail
  exact HP.out _ _ ⟨rfl, H5.out⟩

namespace Given
def louverlaw01_fixed.f : Option Bool := some true
theorem louverlaw01_fixed.calls (r : Bool) (w : World) (hGV : Aside0 (WFact w)) (h : louverlaw01_fixed.f = some r) :
    Calls Tryd.prog 13 #[] w fun e w' => e = .returned (.bool r) ∧ Below w.heap.size w w' := by
  obtain rfl := Option.some.inj h
  exact fixed01 w hGV.out
end Given
end Go.Proofs.YtjjfkmniffbgkaaDoor
