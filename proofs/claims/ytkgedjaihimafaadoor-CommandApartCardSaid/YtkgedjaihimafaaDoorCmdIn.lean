/- A command that came in by value, opened; the walk of CommandApart. -/
import Derived.Test.YtkgedjaihimafaaDoorCmdApart
import Derived.ChangeSlices
import Derived.Deep.Slices
import Derived.ChangeArms
import Derived.ChangeSame
import Derived.WideLaws
import Derived.OpenShut
import Derived.Lib.SmallJoins
namespace Go.Proofs.YtkgedjaihimafaaDoor
set_option linter.unusedVariables false
set_option linter.unusedSimpArgs false
open Go.RowKit Go.ChangeShapes Go.WideShapes Go.Deep Go.Joins Go.Proofs.YtkgedjaihimafaaDoorW.PrintWords Go.Proofs.YtkgedjaihimafaaDoor.QCmd Go.Proofs.YtkgedjaihimafaaDoor.Given
theorem list6 {α : Type} {l : List α} (h : l.length = 6) : ∃ c0 c1 c2 c3 c4 c5, l = [c0, c1, c2, c3, c4, c5] := by
  match l, h with
  | [c0, c1, c2, c3, c4, c5], _ => exact ⟨c0, c1, c2, c3, c4, c5, rfl⟩
theorem agg_of6 {cs : Array Value} {l : List Value} (h : cs.toList = l) : cs = l.toArray := by subst h; simp

set_option maxRecDepth 100000 in
theorem open_command {H : Type} {enc : TypeId × Value → H} {W : World} {fuel : Nat} {cs : List Value} {x : DataW H × List MemPlace}
    (h : DataW.trod enc Tryd.prog W 0 (fun _ => true) true fuel 26 cs = some x) :
    ∃ kind id topic seq code A c pay, cs = [.int .u8 kind, .int .u32 id, .string topic, .int .u64 seq, .int .u8 code, .slice A (List.length pay) c] ∧ CmdIn kind id seq code topic pay ∧ Kd.C (Kd.int .u8) W A pay.length pay ∧ pay.length ≤ c := by
  obtain ⟨xs, m, _, rfl, hl, hlen, hf⟩ := DataW.trod_struct Tryd.underlying26 h
  have hC : Tryd.prog.cellsOf 26 = 6 := by kernel_rfl
  rw [hC] at hl
  have e1 : Tryd.prog.cellsOf 5 = 1 := by kernel_rfl
  have e2 : Tryd.prog.cellsOf 22 = 1 := by kernel_rfl
  have e3 : Tryd.prog.cellsOf 24 = 1 := by kernel_rfl
  have e4 : Tryd.prog.cellsOf 9 = 1 := by kernel_rfl
  have e5 : Tryd.prog.cellsOf 23 = 1 := by kernel_rfl
  obtain ⟨c0, c1, c2, c3, c4, c5, rfl⟩ := list6 hl
  obtain ⟨y0, y1, y2, y3, y4, y5, rfl⟩ := list6 (show xs.length = 6 from hlen)
  have h0 := hf 0 _ rfl
  have h1 := hf 1 _ rfl
  have h2 := hf 2 _ rfl
  have h3 := hf 3 _ rfl
  have h4 := hf 4 _ rfl
  have h5 := hf 5 _ rfl
  clear hf h hl
  simp [e1, e2, e3, e4, e5] at h0 h1 h2 h3 h4 h5
  obtain ⟨n0, k0, _, w0⟩ := DataW.trod_int Tryd.underlying5 h0
  obtain ⟨n1, k1, _, w1⟩ := DataW.trod_int Tryd.underlying22 h1
  obtain ⟨s2, k2, _, _⟩ := DataW.trod_string Tryd.underlying9 h2
  obtain ⟨n3, k3, _, w3⟩ := DataW.trod_int Tryd.underlying23 h3
  obtain ⟨n4, k4, _, w4⟩ := DataW.trod_int Tryd.underlying5 h4
  obtain ⟨A, n5, cp, k5⟩ := slice_form Tryd.underlying24 h5
  simp at k0 k1 k2 k3 k4 k5
  subst k0 k1 k2 k3 k4 k5
  have z := open_ints Tryd.underlying24 Tryd.underlying5 e1 h5
  have hz : ∃ l : List Int, n5 = l.length ∧ ReadsInt W .u8 A l.length l ∧ (∀ x ∈ l, (Lit.int .u8 x).wf = true) ∧ l.length ≤ cp := by
    rcases z with ⟨hc, _⟩ | ⟨a, len, cap, zs, hc, _, g1, g2, g3, _, g4, g5⟩
    · injection hc with hc _
      injection hc with q1 q2 q3
      subst q1 q2 q3
      obtain ⟨l, hl1, hr, hm, hw, hcc⟩ := ReadsInt.ofRowC (w := W) (k := .u8) (a := none) (len := 0) (cap := 0) (zs := []) (.inl ⟨rfl, rfl, rfl, rfl⟩)
      exact ⟨l, hl1, hr, hw, hcc⟩
    · injection hc with hc _
      injection hc with q1 q2 q3
      subst q1 q2 q3
      obtain ⟨l, hl1, hr, hm, hw, hcc⟩ := ReadsInt.ofRowC (.inr ⟨a, rfl, g1, g2, by simpa using g3, g4, g5⟩)
      exact ⟨l, hl1, hr, hw, hcc⟩
  obtain ⟨l, rfl, r1, r3, r4⟩ := hz
  have wf8 : ∀ {n : Int}, (Lit.int .u8 n).wf = true → 0 ≤ n ∧ n ≤ 255 := fun h => by simp [Lit.wf, IntKind.min, IntKind.max, IntKind.signed, IntKind.bits] at h; omega
  have wf32 : ∀ {n : Int}, (Lit.int .u32 n).wf = true → 0 ≤ n ∧ n ≤ 4294967295 := fun h => by simp [Lit.wf, IntKind.min, IntKind.max, IntKind.signed, IntKind.bits] at h; omega
  have wf64 : ∀ {n : Int}, (Lit.int .u64 n).wf = true → 0 ≤ n ∧ n ≤ 18446744073709551615 := fun h => by simp [Lit.wf, IntKind.min, IntKind.max, IntKind.signed, IntKind.bits] at h; omega
  exact ⟨n0, n1, s2, n3, n4, A, cp, l, rfl, ⟨wf8 w0, wf32 w1, wf64 w3, wf8 w4, fun x hx => wf8 (r3 x hx)⟩, Kd.C_of_reads (d := (0 : Int)) (h1 := fun _ => rfl) r1, r4⟩

set_option maxRecDepth 100000 in
theorem open_command_arg {H : Type} {enc : TypeId × Value → H} {W : World} {b0 : Nat} {v : Value} {d : DataW H} {p : List MemPlace} (hv : Value.okWide Tryd.prog W .any b0 26 v)
    (h : DataW.Trod enc Tryd.prog W 0 (fun _ => true) true 26 v d p) : ∃ kind id topic seq code A c pay, v = .agg #[.int .u8 kind, .int .u32 id, .string topic, .int .u64 seq, .int .u8 code, .slice A (List.length pay) c] ∧ CmdIn kind id seq code topic pay ∧ Kd.C (Kd.int .u8) W A pay.length pay ∧ pay.length ≤ c := by
  obtain ⟨cs, rfl, -⟩ := Go.WideShapes.okWide_struct Tryd.underlying26 hv
  obtain ⟨fuel, hf⟩ := h
  obtain ⟨kind, id, topic, seq, code, A, c, pay, hc, h1⟩ := open_command hf
  exact ⟨kind, id, topic, seq, code, A, c, pay, congrArg Value.agg (agg_of6 hc), h1⟩

theorem commandApart_walk (k i q c k' i' q' c' : Int) (t t' : ByteArray) (A A' : Option Addr) (n n' : Nat) (p p' : List Int) (W : World) (h : CmdIn k i q c t p) (h' : CmdIn k' i' q' c' t' p')
    (hr : Kd.C (Kd.int .u8) W A p.length p) (hc : p.length ≤ n) (hr' : Kd.C (Kd.int .u8) W A' p'.length p') (hc' : p'.length ≤ n') :
    Calls Tryd.prog 3 #[.agg #[.int .u8 k, .int .u32 i, .string t, .int .u64 q, .int .u8 c, .slice A p.length n], .agg #[.int .u8 k', .int .u32 i', .string t', .int .u64 q', .int .u8 c', .slice A' p'.length n']] W fun e w' => e = .returned (.bool true) ∧ Below W.heap.size W w' := by
  obtain ⟨m, hm⟩ := commandApart_pure k i q c k' i' q' c' t t' p p' h h'
  exact louverlaw22_CommandApart.calls m k i t q c A n p k' i' t' q' c' A' n' p' true W hr hc hr' hc' hm
end Go.Proofs.YtkgedjaihimafaaDoor
