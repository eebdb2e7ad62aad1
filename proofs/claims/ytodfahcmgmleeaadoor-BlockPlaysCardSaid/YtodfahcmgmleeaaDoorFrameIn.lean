/- A frame that came in, opened to its cells. -/
import Derived.Test.YtodfahcmgmleeaaDoorBlockTakes
import Derived.Test.YtodfahcmgmleeaaDoorLaid
import Derived.ChangeSlices
import Derived.Deep.Slices
import Derived.ChangeArms
import Derived.ChangeSame
import Derived.Lib.SmallJoins
namespace Go.Proofs.YtodfahcmgmleeaaDoor
set_option linter.unusedVariables false
set_option linter.unusedSimpArgs false
open Go.RowKit Go.ChangeShapes Go.WideShapes Go.Deep Go.Joins Go.Proofs.YtodfahcmgmleeaaDoorW.PrintWords
theorem list11 {α : Type} {l : List α} (h : l.length = 11) : ∃ c0 c1 c2 c3 c4 c5 c6 c7 c8 c9 c10, l = [c0, c1, c2, c3, c4, c5, c6, c7, c8, c9, c10] := by
  match l, h with
  | [c0, c1, c2, c3, c4, c5, c6, c7, c8, c9, c10], _ => exact ⟨c0, c1, c2, c3, c4, c5, c6, c7, c8, c9, c10, rfl⟩

/-- A frame's cells, and what they are. -/
structure FrIs (W : World) (ty fl st : Int) (A : Option Addr) (n : Nat) (pad code oth wgt win : Int) (data : List Int) (S : Value) : Prop where
  ty : (Lit.int .u8 ty).wf = true
  fl : (Lit.int .u8 fl).wf = true
  st : (Lit.int .u32 st).wf = true
  pad : (Lit.int .i64 pad).wf = true
  code : (Lit.int .u32 code).wf = true
  oth : (Lit.int .u32 oth).wf = true
  wgt : (Lit.int .u8 wgt).wf = true
  win : (Lit.int .u32 win).wf = true
  reads : ReadsInt W .u8 A n data
  max : n ≤ maxLen
  bytes : ∀ x ∈ data, (Lit.int .u8 x).wf = true
  sets : ∃ a l c, S = .slice a l c

def ReadsIn (W : World) (A : Option Addr) (n : Nat) : Prop := ∃ l : List Int, n = l.length ∧ ReadsInt W .u8 A l.length l ∧ l.length ≤ maxLen ∧ ∀ x ∈ l, (Lit.int .u8 x).wf = true

set_option maxRecDepth 100000 in
theorem open_frame {H : Type} {enc : TypeId × Value → H} {W : World} {fuel : Nat} {cs : List Value} {x : DataW H × List MemPlace}
    (h : DataW.trod enc Tryd.prog W 0 (fun _ => true) true fuel 32 cs = some x) :
    ∃ ty fl st A n c pad code oth wgt al win S data, cs = [.int .u8 ty, .int .u8 fl, .int .u32 st, .slice A n c, .int .i64 pad, .int .u32 code, .int .u32 oth, .int .u8 wgt, .bool al, .int .u32 win, S] ∧
      FrIs W ty fl st A n pad code oth wgt win data S := by
  obtain ⟨xs, m, _, rfl, hl, hlen, hf⟩ := DataW.trod_struct Tryd.underlying32 h
  have hC : Tryd.prog.cellsOf 32 = 11 := by kernel_rfl
  rw [hC] at hl
  have e1 : Tryd.prog.cellsOf 5 = 1 := by kernel_rfl
  have e2 : Tryd.prog.cellsOf 26 = 1 := by kernel_rfl
  have e3 : Tryd.prog.cellsOf 29 = 1 := by kernel_rfl
  have e4 : Tryd.prog.cellsOf 3 = 1 := by kernel_rfl
  have e5 : Tryd.prog.cellsOf 4 = 1 := by kernel_rfl
  have e6 : Tryd.prog.cellsOf 30 = 1 := by kernel_rfl
  obtain ⟨c0, c1, c2, c3, c4, c5, c6, c7, c8, c9, c10, rfl⟩ := list11 hl
  obtain ⟨y0, y1, y2, y3, y4, y5, y6, y7, y8, y9, y10, rfl⟩ := list11 (show xs.length = 11 from hlen)
  have h0 := hf 0 _ rfl
  have h1 := hf 1 _ rfl
  have h2 := hf 2 _ rfl
  have h3 := hf 3 _ rfl
  have h4 := hf 4 _ rfl
  have h5 := hf 5 _ rfl
  have h6 := hf 6 _ rfl
  have h7 := hf 7 _ rfl
  have h8 := hf 8 _ rfl
  have h9 := hf 9 _ rfl
  have h10 := hf 10 _ rfl
  clear hf h hl
  simp [e1, e2, e3, e4, e5, e6] at h0 h1 h2 h3 h4 h5 h6 h7 h8 h9 h10
  obtain ⟨n0, k0, _, w0⟩ := DataW.trod_int Tryd.underlying5 h0
  obtain ⟨n1, k1, _, w1⟩ := DataW.trod_int Tryd.underlying5 h1
  obtain ⟨n2, k2, _, w2⟩ := DataW.trod_int Tryd.underlying26 h2
  obtain ⟨A, n3, cp, k3⟩ := slice_form Tryd.underlying29 h3
  obtain ⟨n4, k4, _, w4⟩ := DataW.trod_int Tryd.underlying3 h4
  obtain ⟨n5, k5, _, w5⟩ := DataW.trod_int Tryd.underlying26 h5
  obtain ⟨n6, k6, _, w6⟩ := DataW.trod_int Tryd.underlying26 h6
  obtain ⟨n7, k7, _, w7⟩ := DataW.trod_int Tryd.underlying5 h7
  obtain ⟨n8, k8, _⟩ := DataW.trod_bool Tryd.underlying4 h8
  obtain ⟨n9, k9, _, w9⟩ := DataW.trod_int Tryd.underlying26 h9
  obtain ⟨A10, n10, cp10, k10⟩ := slice_form Tryd.underlying30 h10
  simp at k0 k1 k2 k3 k4 k5 k6 k7 k8 k9 k10
  subst k0 k1 k2 k3 k4 k5 k6 k7 k8 k9 k10
  have z := open_ints Tryd.underlying29 Tryd.underlying5 e1 h3
  have hz : ReadsIn W A n3 := by
    rcases z with ⟨hc, _⟩ | ⟨a, len, cap, zs, hc, _, h1, h2, h3, _, h4, h5⟩
    · injection hc with hc _
      injection hc with q1 q2 q3
      subst q1 q2 q3
      exact ReadsInt.ofRow (zs := []) (cap := 0) (.inl ⟨rfl, rfl, rfl, rfl⟩)
    · injection hc with hc _
      injection hc with q1 q2 q3
      subst q1 q2 q3
      exact ReadsInt.ofRow (.inr ⟨a, rfl, h1, h2, by simpa using h3, h4, h5⟩)
  obtain ⟨l, rfl, r1, r2, r3⟩ := hz
  exact ⟨n0, n1, n2, A, _, cp, n4, n5, n6, n7, n8, n9, _, l, rfl, ⟨w0, w1, w2, w4, w5, w6, w7, w9, r1, r2, r3, _, _, _, rfl⟩⟩
end Go.Proofs.YtodfahcmgmleeaaDoor
