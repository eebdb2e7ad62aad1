/- The statement TopicJoin: a row of texts that came in, opened; its walk. -/
import Derived.Test.YtodfahcmgmleeaaDoorTopicLaws
import Derived.ChangeShapes
import Derived.SliceStrings
import Derived.WideLaws
import Derived.OpenShut
namespace Go.Proofs.YtodfahcmgmleeaaDoor
set_option linter.unusedVariables false
set_option linter.unusedSimpArgs false
open Go.RowKit Go.ChangeShapes Go.WideShapes Go.Proofs.YtodfahcmgmleeaaDoorW.PrintWords Go.Proofs.YtodfahcmgmleeaaDoor.QTopic Go.Proofs.YtodfahcmgmleeaaDoor.Given

set_option maxRecDepth 100000 in
theorem open_texts {H : Type} {enc : TypeId × Value → H} {W : World} {b0 : Nat} {v : Value} {d : DataW H} {p : List MemPlace} (hv : Value.okWide Tryd.prog W .any b0 62 v)
    (h : DataW.Trod enc Tryd.prog W 0 (fun _ => true) true 62 v d p) : ∃ (A : Option Addr) (l : List ByteArray) (c : Nat), v = .slice A l.length c ∧ Kd.C Kd.string W A l.length l ∧ l.length ≤ c := by
  obtain ⟨A, n, cap, rfl⟩ := okWide_slice Tryd.underlying62 hv
  obtain ⟨fuel, hf⟩ := h
  have hC : Tryd.prog.cellsOf 9 = 1 := by kernel_rfl
  rcases open_strings Tryd.underlying62 Tryd.underlying9 hC hf with ⟨hcs, _⟩ | ⟨a, len, cap', ss, hcs, _, hl, hm, hlen, _, hc, hs⟩
  · simp [Value.cells] at hcs
    obtain ⟨rfl, rfl, rfl⟩ := hcs
    exact ⟨none, [], 0, rfl, ⟨rfl, by decide, fun h => absurd h (Nat.lt_irrefl 0)⟩, Nat.le_refl _⟩
  · simp [Value.cells] at hcs
    obtain ⟨rfl, rfl, rfl⟩ := hcs
    have hlen' : ss.length = cap := by simpa using hlen
    have htl : (ss.take n).length = n := by rw [List.length_take]; omega
    refine ⟨some a, ss.take n, cap, by rw [htl], ?_, by rw [htl]; exact hl⟩
    rw [htl]
    refine ⟨htl, by unfold maxLen at hm; omega, fun hn => ⟨a, rfl, fun j x hj => ⟨[.string x], rfl, rfl, fun i u hu => ?_⟩⟩⟩
    have hi : i = 0 := by
      have := (List.getElem?_eq_some_iff.1 hu).1
      simpa using this
    subst hi
    have hu' : u = Value.string x := by simpa using hu.symm
    subst hu'
    have hjn : j < n := by
      have := (List.getElem?_eq_some_iff.1 hj).1
      omega
    have hx : ss[j]? = some x := by
      rw [List.getElem?_take] at hj
      simpa [hjn] using hj
    have := hc j (by omega)
    rw [List.getD_eq_getElem?_getD, hx] at this
    simpa [show (Kd.string).sz = 1 from rfl] using this

theorem topicJoin_walk (A0 : Option Addr) (l0 : List ByteArray) (c0 : Nat) (W : World) (hR : Kd.C Kd.string W A0 l0.length l0) (hc : l0.length ≤ c0) :
    Calls Tryd.prog 14 #[.slice A0 l0.length c0] W fun e w' => e = .returned (.bool true) ∧ Below W.heap.size W w' := by
  obtain ⟨k, h⟩ := topicJoin_pure l0
  exact louverlaw21_TopicJoin.calls k A0 c0 l0 true W hR hc h
end Go.Proofs.YtodfahcmgmleeaaDoor
