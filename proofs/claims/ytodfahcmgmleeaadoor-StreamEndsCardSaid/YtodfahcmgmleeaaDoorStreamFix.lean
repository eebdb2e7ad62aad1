/- The reference of package stream at every state and frame; the chapter's examples. -/
import Derived.Test.YtodfahcmgmleeaaDoorStreamRef
namespace Go.Proofs.YtodfahcmgmleeaaDoor
open Go.RowKit Go.Proofs.YtodfahcmgmleeaaDoorW.PrintWords

set_option maxRecDepth 100000 in
theorem refCome_calls (s k : Int) (e : Bool) (h0 : 0 ≤ s) (hk0 : 0 ≤ k) (w : World) :
    Calls Tryd.prog 28 #[.int .u8 s, .int .u8 k, .bool e] w (RefOut (comeF s k e) w) := by
  by_cases h1 : 6 < s
  · rw [show comeF s k e = (s, 1, 2) by simp [comeF, h1]]
    have a1 : decide (6 < s) = true := by simpa using h1
    clear h1
    go_enter Tryd.func28, Tryd.ntmps28
    go_wp2
    go_ret3
    exact ⟨rfl, Below.refl _ _⟩
  by_cases h2 : k = 1 ∨ k = 0 ∨ k = 3 ∨ k = 8 ∨ k = 2
  · exact refCome_known s k e (by omega) h2 w
  · rw [show comeF s k e = (s, 1, 1) by simp [comeF, h1, h2]]
    have a1 : decide (6 < s) = false := by simpa using h1
    have a2 : decide (3 < k) = true := by rw [decide_eq_true_iff]; omega
    have a3 : (k != 8) = true := by rw [bne_iff_ne]; omega
    clear h1 h2
    go_enter Tryd.func28, Tryd.ntmps28
    go_wp2
    go_ret3
    exact ⟨rfl, Below.refl _ _⟩

theorem fixed11_calls (w : World) (hg : GV w) : Calls Tryd.prog 22 #[] w fun ev w' => ev = .returned (.bool true) ∧ Below w.heap.size w w' := by
  have C1 := fun W (h : GV W) => Come_calls 0 0 false (by decide) W h
  have C2 := fun W (h : GV W) => Come_calls 0 1 true (by decide) W h
  rw [show comeF 0 0 false = (0, 1, 1) by decide] at C1
  rw [show comeF 0 1 true = (3, 0, 0) by decide] at C2
  have HC1 := Lib.hid C1
  have HC2 := Lib.hid C2
  have HG := Lib.hid hg
  clear C1 C2 hg
  go_enter Tryd.func22, Tryd.ntmps22
  go_wp2_with fail
  refine (HC1.out _ HG.out).mono ?_
  rintro e w1 ⟨rfl, hb1⟩
  have HB1 := Lib.hid hb1
  clear hb1
  go_wp2_with fail
  refine (HC2.out _ ((HG.out.below HB1.out).below ((Below.refl _ _).alloc (Nat.le_refl _) _))).mono ?_
  rintro e w2 ⟨rfl, hb2⟩
  have hk := blk_below (blk_new w1 _) hb2
  obtain ⟨c0, c1, f0, f1⟩ := blk2 hk
  have HB2 := Lib.hid hb2
  have hz : w1.heap.size < w2.heap.size := by have := hb2.size; simp at this; omega
  clear hb2 hk
  go_wp2_with fail
  go_ret
  refine ⟨rfl, ?_⟩
  have z1 := HB1.out.size
  have z2 := HB2.out.size
  exact ((HB1.out.alloc z1 _).trans (HB2.out.mono (by simp; omega))).alloc (by simp at z2; omega) _
end Go.Proofs.YtodfahcmgmleeaaDoor
