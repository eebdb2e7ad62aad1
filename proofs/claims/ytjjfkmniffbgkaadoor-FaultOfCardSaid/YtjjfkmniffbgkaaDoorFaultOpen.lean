/- A fault and a row of texts that came in, opened. -/
import Derived.Test.YtjjfkmniffbgkaaDoorFaultOf2
import Derived.ChangeShapes
import Derived.ChangeSlices
import Derived.Deep.Slices
import Derived.ChangeArms
import Derived.ChangeSame
import Derived.SliceStrings
import Derived.WideLaws
import Derived.OpenShut
import Derived.Lib.SmallJoins
namespace Go.Proofs.YtjjfkmniffbgkaaDoor
set_option linter.unusedVariables false
set_option linter.unusedSimpArgs false
open Go.RowKit Go.ChangeShapes Go.WideShapes Go.Deep Go.Joins Go.Proofs.YtjjfkmniffbgkaaDoorW.PrintWords
theorem list2 {α : Type} {l : List α} (h : l.length = 2) : ∃ c0 c1, l = [c0, c1] := by
  match l, h with
  | [c0, c1], _ => exact ⟨c0, c1, rfl⟩
theorem agg_of2 {cs : Array Value} {l : List Value} (h : cs.toList = l) : cs = l.toArray := by subst h; simp

set_option maxRecDepth 100000 in
theorem open_fault {H : Type} {enc : TypeId × Value → H} {W : World} {fuel : Nat} {cs : List Value} {x : DataW H × List MemPlace}
    (h : DataW.trod enc Tryd.prog W 0 (fun _ => true) true fuel 24 cs = some x) : ∃ s c : Int, cs = [.int .u8 s, .int .u32 c] ∧ 0 ≤ s := by
  obtain ⟨xs, m, _, rfl, hl, hlen, hf⟩ := DataW.trod_struct Tryd.underlying24 h
  have hC : Tryd.prog.cellsOf 24 = 2 := by kernel_rfl
  rw [hC] at hl
  have e1 : Tryd.prog.cellsOf 5 = 1 := by kernel_rfl
  have e2 : Tryd.prog.cellsOf 22 = 1 := by kernel_rfl
  obtain ⟨c0, c1, rfl⟩ := list2 hl
  obtain ⟨y0, y1, rfl⟩ := list2 (show xs.length = 2 from hlen)
  have h0 := hf 0 _ rfl
  have h1 := hf 1 _ rfl
  clear hf h hl
  simp [e1, e2] at h0 h1
  obtain ⟨n0, k0, _, w0⟩ := DataW.trod_int Tryd.underlying5 h0
  obtain ⟨n1, k1, _, w1⟩ := DataW.trod_int Tryd.underlying22 h1
  simp at k0 k1
  subst k0 k1
  exact ⟨n0, n1, rfl, by simp [Lit.wf, IntKind.min, IntKind.max, IntKind.signed, IntKind.bits] at w0; omega⟩

set_option maxRecDepth 100000 in
theorem open_fault_arg {H : Type} {enc : TypeId × Value → H} {W : World} {b0 : Nat} {v : Value} {d : DataW H} {p : List MemPlace} (hv : Value.okWide Tryd.prog W .any b0 24 v)
    (h : DataW.Trod enc Tryd.prog W 0 (fun _ => true) true 24 v d p) : ∃ s c : Int, v = .agg #[.int .u8 s, .int .u32 c] ∧ 0 ≤ s := by
  obtain ⟨cs, rfl, -⟩ := Go.WideShapes.okWide_struct Tryd.underlying24 hv
  obtain ⟨fuel, hf⟩ := h
  obtain ⟨s, c, hc, h1⟩ := open_fault hf
  exact ⟨s, c, congrArg Value.agg (agg_of2 hc), h1⟩

set_option maxRecDepth 100000 in
theorem open_texts {H : Type} {enc : TypeId × Value → H} {W : World} {b0 : Nat} {v : Value} {d : DataW H} {p : List MemPlace} (hv : Value.okWide Tryd.prog W .any b0 25 v)
    (h : DataW.Trod enc Tryd.prog W 0 (fun _ => true) true 25 v d p) : ∃ (A : Option Addr) (l : List ByteArray) (c : Nat), v = .slice A l.length c ∧ Kd.C Kd.string W A l.length l ∧ l.length ≤ c := by
  obtain ⟨A, n, cap, rfl⟩ := okWide_slice Tryd.underlying25 hv
  obtain ⟨fuel, hf⟩ := h
  have hC : Tryd.prog.cellsOf 9 = 1 := by kernel_rfl
  rcases open_strings Tryd.underlying25 Tryd.underlying9 hC hf with ⟨hcs, _⟩ | ⟨a, len, cap', ss, hcs, _, hl, hm, hlen, _, hc, hs⟩
  · simp [Value.cells] at hcs
    obtain ⟨rfl, rfl, rfl⟩ := hcs
    exact ⟨none, [], 0, rfl, ⟨rfl, by decide, fun h => absurd h (Nat.lt_irrefl 0)⟩, Nat.le_refl _⟩
  · simp [Value.cells] at hcs
    obtain ⟨rfl, rfl, rfl⟩ := hcs
    have hlen' : ss.length = cap := by simpa using hlen
    have htl : (ss.take n).length = n := by rw [List.length_take]; omega
    refine ⟨some a, ss.take n, cap, by rw [htl], ?_, by rw [htl]; exact hl⟩
    rw [htl]
    refine ⟨htl, by unfold maxLen at hm; omega, fun hn => ⟨a, rfl, fun j x hj => ⟨[.string x], rfl, rfl, fun i u hu => ?_⟩⟩⟩
    have hi : i = 0 := by
      have := (List.getElem?_eq_some_iff.1 hu).1
      simpa using this
    subst hi
    have hu' : u = Value.string x := by simpa using hu.symm
    subst hu'
    have hjn : j < n := by
      have := (List.getElem?_eq_some_iff.1 hj).1
      omega
    have hx : ss[j]? = some x := by
      rw [List.getElem?_take] at hj
      simpa [hjn] using hj
    have := hc j (by omega)
    rw [List.getD_eq_getElem?_getD, hx] at this
    simpa [show (Kd.string).sz = 1 from rfl] using this

end Go.Proofs.YtjjfkmniffbgkaaDoor
