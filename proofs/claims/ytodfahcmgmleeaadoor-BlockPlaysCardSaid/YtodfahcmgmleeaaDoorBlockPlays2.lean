/- A row of frames that came in, opened to its cells. -/
import Derived.Test.YtodfahcmgmleeaaDoorBlockPlays
import Derived.Test.YtodfahcmgmleeaaDoorLaid
import Derived.Deep.Slices
import Derived.ChangeArms
import Derived.ChangeSame
import Derived.Deep.Strs
namespace Go.Proofs.YtodfahcmgmleeaaDoor
set_option linter.unusedVariables false
set_option linter.unusedSimpArgs false
open Go.RowKit Go.ChangeShapes Go.WideShapes Go.Deep
set_option maxRecDepth 100000 in
theorem open_frames {H : Type} {enc : TypeId × Value → H} {W : World} {b0 : Nat} {v : Value} {d : DataW H} {p : List MemPlace} (hv : Value.okWide Tryd.prog W .any b0 22 v)
    (h : DataW.Trod enc Tryd.prog W 0 (fun _ => true) true 22 v d p) : ∃ A n cap, v = .slice A n cap ∧ n ≤ 9223372036854775807 ∧ FramesRead W A n := by
  obtain ⟨A, n, cap, rfl⟩ := okWide_slice Tryd.underlying22 hv
  refine ⟨A, n, cap, rfl, ?_⟩
  obtain ⟨fuel, hf⟩ := h
  rcases open_slice Tryd.underlying22 hf with ⟨hcs, _⟩ | ⟨a, len, cap', m, k, D, Pl, hcs, hb, hl, hm, hmm, hx, hi⟩
  · simp [Value.cells] at hcs
    obtain ⟨rfl, rfl, rfl⟩ := hcs
    exact ⟨by omega, fun i hi => absurd hi (by omega)⟩
  · simp [Value.cells] at hcs
    obtain ⟨rfl, rfl, rfl⟩ := hcs
    unfold maxLen at hm
    refine ⟨by omega, fun i hin => ?_⟩
    obtain ⟨cs', hc, ht⟩ := hi i (by simp at hmm; omega)
    have hC : Tryd.prog.cellsOf 32 = 11 := by kernel_rfl
    rw [hC] at hc
    obtain ⟨_, hcl, hat⟩ := World.cells?_some hc
    obtain ⟨ty, fl, st, A1, n1, c1, pad, code, oth, wgt, al, win, S, data, rfl, hF⟩ := open_frame ht
    refine ⟨a, ty, fl, st, A1, n1, c1, pad, code, oth, wgt, al, win, S, data, rfl, hF, fun j v hj => ?_⟩
    rw [← add_add]
    have hlt : j < 11 := by
      have := (List.getElem?_eq_some_iff.1 hj).1
      simpa using this
    rw [hat j hlt]
    exact hj
end Go.Proofs.YtodfahcmgmleeaaDoor
