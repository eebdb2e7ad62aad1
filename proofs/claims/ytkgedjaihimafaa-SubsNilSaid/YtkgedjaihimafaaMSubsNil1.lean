/- The statement of louver/louverlaw24.SubsNil: for every input it returns true, and each argument reads behind the call as it read before; no other condition than the row's own. -/
import Derived.Test.YtkgedjaihimafaaMSubsNilW1
import Derived.Deep.MidRow
import Derived.Lib.ConvBytes
import Derived.Laws.AppendOwn
import Derived.Laws.CopyOwn
import Derived.Maps.AppendAt
import Derived.Maps.OwnSet
import Derived.Maps.RangeWalk
import Derived.Maps.Views
import Derived.Maps.Own
import Derived.Test.YtkgedjaihimafaaChecked
import Derived.DeepKeys4
import Derived.MapViews
import Derived.Lib.Hide
import Derived.Deep.DeepCutAuto
import Derived.Deep.LoopGhost
import Derived.Shelf.SlSortCmp.WholeK
import Derived.Shelf.Lay
import Derived.Shelf.SlGeneric
import Derived.Ground.SlsfProg
import Derived.Shelf.SlSortCmp.NoneTotal
import Derived.ChangeSlices
import Derived.Deep.Slices
import Derived.Deep.Strs
import Derived.ChangeArms
import Derived.ChangeSame
import Derived.Lib.SmallJoins
import Derived.Test.YtkgedjaihimafaaRows
import Derived.WalkKit
import Derived.ProofKit
import Derived.OpenShut
import Derived.ShutString
import Derived.ChangeOld
import Derived.Below
import Derived.SizedLaws
import Derived.Carry
import Derived.Deep.DeepHandedRow
import Derived.LaidHandle
import Derived.LaidLaws
import Derived.Test.YtkgedjaihimafaaMSubsNil0
/- Small laws on memory: append of a row that is read, as a run and as a step of a region that draws its order; blocks kept. No program. -/
namespace Go.Proofs.Ytkgedjaihimafaa
set_option linter.unusedVariables false
set_option linter.unusedSimpArgs false
open Go.RowKit Go.Proofs.YtkgedjaihimafaaW.PrintWords
theorem add_block (a : Addr) (j : Nat) : (a.add j).block = a.block := by unfold Addr.add; split <;> rfl

structure Only (g : Nat) (W w1 : World) : Prop where
 os : w1.os = W.os
 tape : w1.tape = W.tape
 output : w1.output = W.output
 size : w1.heap.size = W.heap.size
 block : ∀ k, k ≠ g → w1.heap[k]? = W.heap[k]?
theorem Only.below {g base : Nat} {w0 W w1 : World} (h : Only g W w1) (hb : Below base w0 W) (hg : base ≤ g) : Below base w0 w1 :=
 ⟨h.os.trans hb.os, h.tape.trans hb.tape, h.output.trans hb.output, by rw [h.size]; exact hb.size, fun k hk => (h.block k (by omega)).trans (hb.block k hk)⟩
theorem Only.blk {g k : Nat} {W w1 : World} {o : Obj} (h : Only g W w1) (hk : W.heap[k]? = some o) (hne : k ≠ g) : w1.heap[k]? = some o := (h.block k hne).trans hk
theorem Only.reads {g : Nat} {W w1 : World} {k : IntKind} {A : Option Addr} {n : Nat} {xs : List Int} (h : Only g W w1) (hR : ReadsInt W k A n xs) (hne : ∀ a, A = some a → a.block ≠ g) : ReadsInt w1 k A n xs := by
 refine ⟨hR.1, hR.2.1, fun hn => ?_⟩
 obtain ⟨ad, e, hc⟩ := hR.2.2 hn
 refine ⟨ad, e, fun j hj => ?_⟩
 rw [← hc j hj]
 have := h.block (ad.add j).block (by rw [add_block]; exact hne ad e)
 simp [World.cell?, this]
section
variable {P : Program} {ops : Array Oper} {rest : List Oper} {o : Oper} {a : Act} {Q : Exit → Act → World → Prop}
theorem load_ev {W : World} (hgd : o.guard = none) {t : TypeId} {x : Operand} (ho : o.op = .load t x) {g : Nat} {cs : Array Value} {ty : TypeId} {d : TypeDesc}
  (hx : a.eval x = .pointer (some ⟨g, 0, none⟩)) (hb : W.heap[g]? = some (.cells cs ty (0, 0))) (hu : P.underlying t = some d) (hd : d.isRow = true) (hi : (P.info? t).map (·.size) = some cs.size)
  (h : wpList P ops Q rest (a.put o.dst (.agg cs)) W) : wpList P ops Q (o :: rest) a W := by
 refine wpList_load_mid hgd t x ho g 0 hx cs.toList d (fun j v hv => ?_) hu hd (by simpa using hi) (by simpa using h)
 rw [Nat.zero_add, blk_cell hb]
 simpa using hv
theorem store_ev {W : World} (hgd : o.guard = none) (hN : o.dst = none) {t : TypeId} {p x : Operand} (ho : o.op = .store t p x) {g k : Nat} {cs cs' : Array Value} {ty : TypeId} {u : Value}
  (hp : a.eval p = .pointer (some ⟨g, k, none⟩)) (hx : a.eval x = u) (hb : W.heap[g]? = some (.cells cs ty (0, 0))) (ht : (P.info? t).map (·.size) = some u.cells.toList.length)
  (hk : k + u.cells.toList.length ≤ cs.size) (h1 : u.cells.toList.all (·.oneCell') = true) (e : cs.toList.take k ++ u.cells.toList ++ cs.toList.drop (k + u.cells.toList.length) = cs'.toList)
  (h : ∀ w1, w1.heap[g]? = some (.cells cs' ty (0, 0)) → Only g W w1 → wpList P ops Q rest a w1) : wpList P ops Q (o :: rest) a W := by
 refine wpList_plain hgd fun K hK => ?_
 have hrun := run_store_run (P := P) t u u.cells.toList hb rfl ht hk (List.all_eq_true.1 h1)
 unfold Oper.wp execOp
 simp only [ho, hp, hx, Sem.run_bind, Sem.run_pure, Result.andThen_ok, hrun]
 show K (a.put o.dst undef) _
 rw [hN]
 obtain ⟨s1, s2, s3, s4⟩ := setCells_same g u.cells.toList k W
 refine hK _ _ (h _ ?_ ⟨s1, s2, s3, s4, fun i hi => setCells_far _ _ i hi⟩)
 obtain ⟨cur, q1, _, q3⟩ := setCells_row u.cells.toList k W cs hb hk
 rw [q1, Array.toList_inj.1 (q3.trans e)]
theorem make_ev {W : World} (hgd : o.guard = none) {cs : Array Value} {t : TypeId}
  (hrun : (execOp a.eval o).run P W = .ok (.value (.pointer (some ⟨W.heap.size, 0, none⟩))) (W.alloc (.cells cs t (0, 0))))
  (h : ∀ g, g = W.heap.size → ∀ w1, w1.heap[g]? = some (.cells cs t (0, 0)) → w1.heap.size = W.heap.size + 1 → Below W.heap.size W w1 → wpList P ops Q rest (a.put o.dst (.pointer (some ⟨g, 0, none⟩))) w1) : wpList P ops Q (o :: rest) a W := by
 refine wpList_plain hgd fun K hK => ?_
 unfold Oper.wp
 rw [hrun]
 exact hK _ _ (h _ rfl _ (blk_new W _) (by simp) (below_alloc (Below.refl _ _) _))
theorem loadf_ev {W : World} (hgd : o.guard = none) {t : TypeId} {x : Operand} (ho : o.op = .load t x) {g k : Nat} {cs : Array Value} {ty : TypeId} {d : TypeDesc} {v : Value}
  (hx : a.eval x = .pointer (some ⟨g, k, none⟩)) (hb : W.heap[g]? = some (.cells cs ty (0, 0))) (hv : cs[k]? = some v) (hu : P.underlying t = some d) (hd : d.isRow = false)
  (h : wpList P ops Q rest (a.put o.dst v) W) : wpList P ops Q (o :: rest) a W := by
 refine wpList_plain hgd fun K hK => ?_
 have hc : W.cell? ⟨g, k, none⟩ = some v := (blk_cell hb k).trans hv
 have hagg : (isAgg t).run P W = .ok false W := by
  unfold isAgg
  rw [Sem.run_bind, run_underlying hu W]
  cases d <;> simp_all
 unfold Oper.wp execOp
 simp [ho, hx, Instr.loadAt, Instr.sureAddr, loadVar, Sem.run_bind, hagg, hc]
 exact hK _ _ h
end

inductive Own where
 | obj (g : Nat) (o : Obj)
 | row (e : TypeId) (size : Nat) (v : Value) (n : Nat) (xs : List Value)
 | rd (k : IntKind) (A : Option Addr) (n : Nat) (xs : List Int)
 | thing (bs : List Nat) (p : World → Prop) (st : ∀ W W1 : World, p W → (∀ k ∈ bs, W1.heap[k]? = W.heap[k]?) → p W1) (lt : ∀ (W : World) (k : Nat), p W → k ∈ bs → k < W.heap.size)
abbrev cl (g : Nat) (cs : List Value) (ty : TypeId) : Own := .obj g (.cells cs.toArray ty (0, 0))
abbrev nrow (e : TypeId) (v : Value) (k : IntKind) (xs : List Int) : Own := .row e 1 v xs.length (nums k xs)
def Own.at_ : Own → List Nat
 | .obj g _ => [g]
 | .row _ _ v _ _ => v.ownBlock.toList
 | .rd _ A n _ => if n = 0 then [] else (A.map (·.block)).toList
 | .thing bs _ _ _ => bs
def Own.ok (W : World) : Own → Prop
 | .obj g o => W.heap[g]? = some o
 | .row e size v n xs => W.ownsRow 0 e size v n xs
 | .rd k A n xs => ReadsInt W k A n xs
 | .thing _ p _ _ => p W
def ats (l : List Own) : List Nat := l.flatMap Own.at_
structure Kept (W W1 : World) (ts : List Nat) : Prop where
 os : W1.os = W.os
 tape : W1.tape = W.tape
 output : W1.output = W.output
 size : W.heap.size ≤ W1.heap.size
 block : ∀ k, k < W.heap.size → k ∉ ts → W1.heap[k]? = W.heap[k]?
structure Hold (w W : World) (t : List Nat) (l : List Own) : Prop where
 kept : Kept w W t
 ok : ∀ o ∈ l, o.ok W
 apart : l.Pairwise fun a b => ∀ k ∈ a.at_, k ∉ b.at_
 mine : ∀ o ∈ l, ∀ k ∈ o.at_, w.heap.size ≤ k ∨ k ∈ t
theorem Kept.refl (W : World) (ts : List Nat) : Kept W W ts := ⟨rfl, rfl, rfl, Nat.le_refl _, fun _ _ _ => rfl⟩
theorem Kept.below {W W1 : World} (h : Kept W W1 []) : Below W.heap.size W W1 := ⟨h.os, h.tape, h.output, h.size, fun k hk => h.block k hk (by simp)⟩
theorem Kept.of_below {W W1 : World} (h : Below W.heap.size W W1) : Kept W W1 [] := ⟨h.os, h.tape, h.output, h.size, fun k hk _ => h.block k hk⟩
theorem Own.ok.lt {W : World} {o : Own} (h : o.ok W) {k : Nat} (hk : k ∈ o.at_) : k < W.heap.size := by
 cases o with
 | obj g o => obtain rfl := List.mem_singleton.1 hk; exact (Array.getElem?_eq_some_iff.1 h).1
 | row e size v n xs => exact own_lt h k (Option.mem_toList.1 hk)
 | rd kk A n xs =>
  have hk' : k ∈ (if n = 0 then [] else (A.map (·.block)).toList) := hk
  split at hk'
  ·cases hk'
  ·obtain ⟨ad, rfl, hc⟩ := h.2.2 (by omega)
   simp only [Option.map_some, Option.mem_toList, Option.mem_def, Option.some.injEq] at hk'
   have := World.block_lt_of_cell? W _ (hc 0 (by omega))
   rw [add_block] at this
   omega
 | thing b p st lt => exact lt W k h hk
theorem Own.ok.kept {W W1 : World} {o : Own} (h : o.ok W) (hb : ∀ k ∈ o.at_, W1.heap[k]? = W.heap[k]?) : o.ok W1 := by
 cases o with
 | obj g o => exact (hb g (List.mem_singleton.2 rfl)).trans h
 | row e size v n xs =>
  refine ⟨h.1, ?_⟩
  rcases h.2 with h2 | ⟨g, cap, cur, rfl, h3, h4, h5⟩
  ·exact .inl h2
  ·exact .inr ⟨g, cap, cur, rfl, h3, (hb g (Option.mem_toList.2 rfl)).trans h4, h5⟩
 | rd kk A n xs =>
  refine ⟨h.1, h.2.1, fun hn => ?_⟩
  obtain ⟨ad, rfl, hc⟩ := h.2.2 hn
  refine ⟨ad, rfl, fun j hj => ?_⟩
  rw [← hc j hj]
  refine World.cell?_of_block ?_
  rw [add_block]
  refine hb _ ?_
  show ad.block ∈ (if n = 0 then [] else ((some ad).map (·.block)).toList)
  rw [if_neg (by omega)]
  exact Option.mem_toList.2 rfl
 | thing b p st lt => exact st W W1 h hb
theorem Hold.start {W : World} {l : List Own} (ok : ∀ o ∈ l, o.ok W) (ap : l.Pairwise fun a b => ∀ k ∈ a.at_, k ∉ b.at_) : Hold W W (ats l) l :=
 ⟨Kept.refl _ _, ok, ap, fun o ho k hk => .inr (List.mem_flatMap.2 ⟨o, ho, hk⟩)⟩
theorem no_own {p : Own → Prop} : ∀ o ∈ ([] : List Own), p o := fun _ h => by cases h
theorem Hold.nothing {W W1 : World} (h : Kept W W1 []) : Hold W W1 [] [] := ⟨h, no_own, List.Pairwise.nil, no_own⟩
theorem Hold.call {w W W1 : World} {t : List Nat} {l0 l1 r : List Own} (H : Hold w W t (l0 ++ r)) (C : Hold W W1 (ats l0) l1) : Hold w W1 t (l1 ++ r) := by
 have hr : ∀ o ∈ r, ∀ k ∈ o.at_, k ∉ ats l0 ∧ k < W.heap.size := fun o ho k hk => by
  refine ⟨fun hm => ?_, (H.ok o (List.mem_append_right _ ho)).lt hk⟩
  obtain ⟨o0, h0, hk0⟩ := List.mem_flatMap.1 hm
  exact (List.pairwise_append.1 H.apart).2.2 o0 h0 o ho k hk0 hk
 refine ⟨⟨C.kept.os.trans H.kept.os, C.kept.tape.trans H.kept.tape, C.kept.output.trans H.kept.output, Nat.le_trans H.kept.size C.kept.size, fun k hk hn => ?_⟩, fun o ho => ?_, List.pairwise_append.2 ⟨C.apart, (List.pairwise_append.1 H.apart).2.1, fun a ha b hb k hka hkb => ?_⟩, fun o ho k hk => ?_⟩
 ·refine (C.kept.block k (Nat.lt_of_lt_of_le hk H.kept.size) fun hm => ?_).trans (H.kept.block k hk hn)
  obtain ⟨o0, h0, hk0⟩ := List.mem_flatMap.1 hm
  rcases H.mine o0 (List.mem_append_left _ h0) k hk0 with h | h
  ·omega
  ·exact hn h
 ·rcases List.mem_append.1 ho with h | h
  ·exact C.ok o h
  ·exact (H.ok o (List.mem_append_right _ h)).kept fun k hk => C.kept.block k (hr o h k hk).2 (hr o h k hk).1
 ·have := hr b hb k hkb
  rcases C.mine a ha k hka with h | h
  ·omega
  ·exact this.1 h
 ·rcases List.mem_append.1 ho with h | h
  ·rcases C.mine o h k hk with h' | h'
   ·exact .inl (Nat.le_trans H.kept.size h')
   ·obtain ⟨o0, h0, hk0⟩ := List.mem_flatMap.1 h'
    exact H.mine o0 (List.mem_append_left _ h0) k hk0
  ·exact H.mine o (List.mem_append_right _ h) k hk
theorem Hold.below {w W W1 : World} {t : List Nat} {l : List Own} (H : Hold w W t l) (h : Below W.heap.size W W1) : Hold w W1 t l :=
 Hold.call (l0 := []) (l1 := []) H (Hold.nothing (Kept.of_below h))
theorem Hold.perm {w W : World} {t : List Nat} {l l' : List Own} (H : Hold w W t l) (h : l.Perm l') : Hold w W t l' :=
 ⟨H.kept, fun o ho => H.ok o (h.mem_iff.2 ho), (h.pairwise_iff (R := fun a b : Own => ∀ k ∈ a.at_, k ∉ b.at_) fun hab k hb ha => hab k ha hb).1 H.apart, fun o ho => H.mine o (h.mem_iff.2 ho)⟩
theorem Hold.sub {w W : World} {t : List Nat} {l l' : List Own} (H : Hold w W t l) (h : l'.Sublist l) : Hold w W t l' :=
 ⟨H.kept, fun o ho => H.ok o (h.subset ho), H.apart.sublist h, fun o ho => H.mine o (h.subset ho)⟩
inductive Put : List Own → Own → Own → List Own → Prop
 | head {x y : Own} {r : List Own} : Put (x :: r) x y (y :: r)
 | tail {x y z : Own} {r r' : List Own} (h : Put r x y r') : Put (z :: r) x y (z :: r')
theorem Put.perm {l l' : List Own} {x y : Own} (h : Put l x y l') : ∃ r, l.Perm (x :: r) ∧ l'.Perm (y :: r) := by
 induction h with
 | head => exact ⟨_, List.Perm.refl _, List.Perm.refl _⟩
 | tail _ ih =>
  obtain ⟨r, h1, h2⟩ := ih
  exact ⟨_, (h1.cons _).trans (List.Perm.swap _ _ _), (h2.cons _).trans (List.Perm.swap _ _ _)⟩
theorem Hold.put {w W W1 : World} {t : List Nat} {l l' : List Own} {x y : Own} (H : Hold w W t l) (hp : Put l x y l') (C : Hold W W1 (ats [x]) [y]) : Hold w W1 t l' := by
 obtain ⟨r, h1, h2⟩ := hp.perm
 exact (Hold.call (l0 := [x]) (l1 := [y]) (H.perm h1) C).perm h2.symm
theorem Hold.push {w W W1 : World} {t : List Nat} {l l1 : List Own} (H : Hold w W t l) (C : Hold W W1 [] l1) : Hold w W1 t (l1 ++ l) := Hold.call (l0 := []) H C
theorem Hold.at_ {w W : World} {t : List Nat} {l : List Own} (H : Hold w W t l) {x : Own} (h : x ∈ l) : x.ok W := H.ok x h
theorem Hold.blk {w W : World} {t : List Nat} {l : List Own} (H : Hold w W t l) {g : Nat} {cs : List Value} {ty : TypeId} (h : cl g cs ty ∈ l) : W.heap[g]? = some (.cells cs.toArray ty (0, 0)) := H.ok _ h
theorem Hold.cell {w W : World} {t : List Nat} {l : List Own} (H : Hold w W t l) {g : Nat} {cs : List Value} {ty : TypeId} (h : cl g cs ty ∈ l) (k : Nat) : W.cell? ⟨g, k, Option.none⟩ = cs[k]? := by
 rw [blk_cell (H.blk h) k, List.getElem?_toArray]
theorem Hold.row {w W : World} {t : List Nat} {l : List Own} (H : Hold w W t l) {e : TypeId} {v : Value} {k : IntKind} {xs : List Int} (h : nrow e v k xs ∈ l) : W.ownsRow 0 e 1 v xs.length (nums k xs) := H.ok _ h
theorem Hold.grow {w W : World} {t : List Nat} {l : List Own} (H : Hold w W t l) (h : ∀ k ∈ t, w.heap.size ≤ k) : Below w.heap.size w W := ⟨H.kept.os, H.kept.tape, H.kept.output, H.kept.size, fun k hk => H.kept.block k hk fun hm => by have := h k hm; omega⟩
theorem Hold.rd {w W : World} {t : List Nat} {l : List Own} (H : Hold w W t l) {k : IntKind} {A : Option Addr} {n : Nat} {xs : List Int} (h : Own.rd k A n xs ∈ l) : ReadsInt W k A n xs := H.ok _ h
theorem Hold.all {w W : World} {l : List Own} (H : Hold w W [] l) : Below w.heap.size w W := H.kept.below
theorem Hold.reads {w W : World} {t : List Nat} {l : List Own} (H : Hold w W t l) {k : IntKind} {A : Option Addr} {n : Nat} {xs : List Int} (h : ReadsInt w k A n xs) (hn : ∀ a, A = some a → a.block ∉ t) : ReadsInt W k A n xs := by
 refine ⟨h.1, h.2.1, fun h0 => ?_⟩
 obtain ⟨ad, rfl, hc⟩ := h.2.2 h0
 refine ⟨ad, rfl, fun j hj => ?_⟩
 have hcell := hc j hj
 have hb := World.block_lt_of_cell? w _ hcell
 rw [add_block] at hb
 rw [← hcell]
 exact World.cell?_of_block (by rw [add_block]; exact H.kept.block _ hb (hn ad rfl))
theorem pair1 {R : Own → Own → Prop} (x : Own) : [x].Pairwise R := List.pairwise_singleton _ _
theorem ok1 {W : World} {x : Own} (h : x.ok W) : ∀ o ∈ [x], o.ok W := fun o ho => by rw [List.mem_singleton.1 ho]; exact h
theorem Hold.made {W W1 : World} {y : Own} (h : Below W.heap.size W W1) (ok : y.ok W1) (hn : ∀ k ∈ y.at_, W.heap.size ≤ k) : Hold W W1 [] [y] :=
 ⟨Kept.of_below h, ok1 ok, pair1 _, fun o ho k hk => .inl (hn k (by rw [List.mem_singleton.1 ho] at hk; exact hk))⟩
theorem Hold.turned {W W1 : World} {x y : Own} (os : W1.os = W.os) (tape : W1.tape = W.tape) (output : W1.output = W.output) (size : W.heap.size ≤ W1.heap.size) (block : ∀ k, k < W.heap.size → k ∉ x.at_ → W1.heap[k]? = W.heap[k]?)
  (ok : y.ok W1) (hn : ∀ k ∈ y.at_, W.heap.size ≤ k ∨ k ∈ x.at_) : Hold W W1 (ats [x]) [y] := by
 have hm : ∀ k, k ∈ ats [x] ↔ k ∈ x.at_ := fun k => by
  unfold ats
  rw [List.mem_flatMap]
  exact ⟨fun ⟨a, ha, hk⟩ => by rw [List.mem_singleton.1 ha] at hk; exact hk, fun h => ⟨x, by simp, h⟩⟩
 refine ⟨⟨os, tape, output, size, fun k hk hn => block k hk fun h => hn ((hm k).2 h)⟩, ok1 ok, pair1 _, fun o ho k hk => ?_⟩
 rw [List.mem_singleton.1 ho] at hk
 rcases hn k hk with h | h
 ·exact .inl h
 ·exact .inr ((hm k).2 h)
def setC : List Value → Nat → List Value → List Value
 | cs, _, [] => cs
 | [], _, _ :: _ => []
 | _ :: cs, 0, u :: us => u :: setC cs 0 us
 | c :: cs, k + 1, u :: us => c :: setC cs k (u :: us)
theorem setC_eq : ∀ (cs : List Value) (k : Nat) (us : List Value), k + us.length ≤ cs.length → setC cs k us = cs.take k ++ us ++ cs.drop (k + us.length)
 | cs, k, [], _ => by cases cs <;> simp [setC]
 | [], k, u :: us, h => by simp at h
 | c :: cs, 0, u :: us, h => by
  have := setC_eq cs 0 us (by simpa using h)
  simp only [setC, this]
  simp
 | c :: cs, k + 1, u :: us, h => by
  have := setC_eq cs k (u :: us) (by simp at h ⊢; omega)
  simp only [setC, this]
  simp only [List.take_succ_cons, List.cons_append]
  congr 2
  rw [show k + 1 + (u :: us).length = (k + (u :: us).length) + 1 by omega, List.drop_succ_cons]
section
variable {P : Program} {ops : Array Oper} {rest : List Oper} {o : Oper} {a : Act} {Q : Exit → Act → World → Prop} {w W : World} {t : List Nat} {l : List Own}
theorem load_h (H : Hold w W t l) (hgd : o.guard = none) {ty : TypeId} {x : Operand} (ho : o.op = .load ty x) {g : Nat} {cs : List Value} {bt : TypeId} (hx : a.eval x = .pointer (some ⟨g, 0, none⟩)) (hm : cl g cs bt ∈ l)
  (hd : (P.underlying ty).map (·.isRow) = some true) (hi : (P.info? ty).map (·.size) = some cs.length) (h : wpList P ops Q rest (a.put o.dst (.agg cs.toArray)) W) : wpList P ops Q (o :: rest) a W := by
 obtain ⟨d, hu, hr⟩ := Option.map_eq_some_iff.1 hd
 exact load_ev hgd ho hx (H.blk hm) hu hr (by simpa using hi) h
theorem loadf_h (H : Hold w W t l) (hgd : o.guard = none) {ty : TypeId} {x : Operand} (ho : o.op = .load ty x) {g k : Nat} {cs : List Value} {bt : TypeId} {v : Value} (hx : a.eval x = .pointer (some ⟨g, k, none⟩)) (hm : cl g cs bt ∈ l)
  (hv : cs[k]? = some v) (hd : (P.underlying ty).map (·.isRow) = some false) (h : wpList P ops Q rest (a.put o.dst v) W) : wpList P ops Q (o :: rest) a W := by
 obtain ⟨d, hu, hr⟩ := Option.map_eq_some_iff.1 hd
 exact loadf_ev hgd ho hx (H.blk hm) (by simpa using hv) hu hr h
theorem Hold.store {W w1 : World} {g : Nat} {cs cs' : List Value} {bt : TypeId} (o : Only g W w1) (h : w1.heap[g]? = some (.cells cs'.toArray bt (0, 0))) : Hold W w1 (ats [cl g cs bt]) [cl g cs' bt] :=
 Hold.turned o.os o.tape o.output (by rw [o.size]; exact Nat.le_refl _) (fun k _ hne => o.block k fun e => hne (by rw [e]; exact List.mem_singleton.2 rfl)) h fun k hk => .inr hk
theorem store_h (H : Hold w W t l) (hgd : o.guard = none) (hN : o.dst = none) {ty : TypeId} {p x : Operand} (ho : o.op = .store ty p x) {g k : Nat} {cs : List Value} {bt : TypeId} {u : Value} {l' : List Own}
  (hp : a.eval p = .pointer (some ⟨g, k, none⟩)) (hx : a.eval x = u) (hm : Put l (cl g cs bt) (cl g (setC cs k u.cells.toList) bt) l') (ht : (P.info? ty).map (·.size) = some u.cells.toList.length)
  (hk : k + u.cells.toList.length ≤ cs.length) (h1 : u.cells.toList.all (·.oneCell') = true)
  (h : ∀ w1, Hold w w1 t l' → wpList P ops Q rest a w1) : wpList P ops Q (o :: rest) a W := by
 obtain ⟨r, hp1, _⟩ := hm.perm
 refine store_ev hgd hN ho hp hx (H.blk (cs := cs) (hp1.mem_iff.2 (List.Mem.head _))) ht (by simpa using hk) h1 (cs' := (setC cs k u.cells.toList).toArray) (by rw [setC_eq _ _ _ hk]) fun w1 hb ho1 => h w1 (H.put hm (Hold.store ho1 hb))
theorem alloc_h (H : Hold w W t l) (hgd : o.guard = none) {ty : TypeId} (_ho : o.op = .alloc ty) {cs : List Value}
  (hrun : (execOp a.eval o).run P W = .ok (.value (.pointer (some ⟨W.heap.size, 0, none⟩))) (W.alloc (.cells cs.toArray ty (0, 0))))
  (h : ∀ g w1, Hold w w1 t (cl g cs ty :: l) → wpList P ops Q rest (a.put o.dst (.pointer (some ⟨g, 0, none⟩))) w1) : wpList P ops Q (o :: rest) a W :=
 make_ev hgd hrun fun g hg w1 hb hz hbel => h g w1 (Hold.push (l1 := [cl g cs ty]) H (Hold.made hbel hb fun k hk => by have : k = g := List.mem_singleton.1 hk; omega))
theorem box_h (H : Hold w W t l) (hgd : o.guard = none) {ty : TypeId} {x : Operand} (ho : o.op = .box ty x) {u : Value} {cs : List Value} (hx : a.eval x = u) (hu : u.cells = cs.toArray)
  (h : ∀ g w1, Hold w w1 t (cl g cs ty :: l) → wpList P ops Q rest (a.put o.dst (.pointer (some ⟨g, 0, none⟩))) w1) : wpList P ops Q (o :: rest) a W := by
 refine make_ev hgd (cs := cs.toArray) (t := ty) ?_ fun g hg w1 hb hz hbel => h g w1 (Hold.push (l1 := [cl g cs ty]) H (Hold.made hbel hb fun k hk => by have : k = g := List.mem_singleton.1 hk; omega))
 unfold execOp
 simp only [ho, hx]
 simp [Instr.box, newVar, newRow, Sem.run_bind, hu]
end

section
variable {P : Program} {ops : Array Oper} {rest : List Oper} {o : Oper} {a : Act} {Q : Exit → Act → World → Prop} {w W : World} {t : List Nat} {l : List Own}
theorem is_alloc {ty : TypeId} (_ho : o.op = .alloc ty) (h : wpList P ops Q (o :: rest) a W) : wpList P ops Q (o :: rest) a W := h
theorem is_box {ty : TypeId} {x : Operand} (_ho : o.op = .box ty x) (h : wpList P ops Q (o :: rest) a W) : wpList P ops Q (o :: rest) a W := h
theorem is_load {ty : TypeId} {x : Operand} (_ho : o.op = .load ty x) (h : wpList P ops Q (o :: rest) a W) : wpList P ops Q (o :: rest) a W := h
theorem is_store {ty : TypeId} {p x : Operand} (_ho : o.op = .store ty p x) (h : wpList P ops Q (o :: rest) a W) : wpList P ops Q (o :: rest) a W := h
theorem loadf_g (H : Hold w W t l) {ty : TypeId} {x : Operand} (ho : o.op = .load ty x) {g k : Nat} {cs : List Value} {bt : TypeId} {v : Value} (hx : a.eval x = .pointer (some ⟨g, k, none⟩)) (hm : cl g cs bt ∈ l)
  (hv : cs[k]? = some v) (hd : (P.underlying ty).map (·.isRow) = some false) (hw : Region.wanted o (yielded ops a.tmps) = true) (h : wpList P ops Q rest (a.put o.dst v) W) : wpList P ops Q (o :: rest) a W :=
 gate_guard hw (loadf_h H rfl ho hx hm hv hd h)
theorem load_g (H : Hold w W t l) {ty : TypeId} {x : Operand} (ho : o.op = .load ty x) {g : Nat} {cs : List Value} {bt : TypeId} (hx : a.eval x = .pointer (some ⟨g, 0, none⟩)) (hm : cl g cs bt ∈ l)
  (hd : (P.underlying ty).map (·.isRow) = some true) (hi : (P.info? ty).map (·.size) = some cs.length) (hw : Region.wanted o (yielded ops a.tmps) = true) (h : wpList P ops Q rest (a.put o.dst (.agg cs.toArray)) W) : wpList P ops Q (o :: rest) a W :=
 gate_guard hw (load_h H rfl ho hx hm hd hi h)
end

inductive Pull : List Own → Own → List Own → Prop
 | head {x : Own} {r : List Own} : Pull (x :: r) x r
 | tail {x z : Own} {r r' : List Own} (h : Pull r x r') : Pull (z :: r) x (z :: r')
theorem Pull.perm {l r : List Own} {x : Own} (h : Pull l x r) : l.Perm (x :: r) := by
 induction h with
 | head => exact List.Perm.refl _
 | tail _ ih => exact (ih.cons _).trans (List.Perm.swap _ _ _)
theorem Hold.pull2 {w W : World} {t : List Nat} {l l1 r : List Own} {x y : Own} (H : Hold w W t l) (h1 : Pull l x l1) (h2 : Pull l1 y r) : Hold w W t ([x, y] ++ r) := H.perm (h1.perm.trans (h2.perm.cons _))
theorem Hold.only2 {w W : World} {t : List Nat} {l l1 r : List Own} {x y : Own} (H : Hold w W t l) (h1 : Pull l x l1) (h2 : Pull l1 y r) : Hold w W t [x, y] := (H.pull2 h1 h2).sub (List.sublist_append_left _ _)
inductive Suf : List Own → List Own → Prop
 | refl {l : List Own} : Suf l l
 | cons {x : Own} {l s : List Own} (h : Suf l s) : Suf (x :: l) s
theorem Suf.sub {l s : List Own} (h : Suf l s) : s.Sublist l := by
 induction h with
 | refl => exact List.Sublist.refl _
 | cons _ ih => exact ih.cons _
inductive Want : List Own → List Own → Prop
 | done {l s : List Own} (h : Suf l s) : Want l s
 | take {x : Own} {l r l' : List Own} (h : Pull l x r) (h' : Want r l') : Want l (x :: l')
theorem Hold.want {w W : World} {t : List Nat} {l l' : List Own} (H : Hold w W t l) (h : Want l l') : Hold w W t l' := by
 induction h generalizing w W t with
 | done h => exact H.sub h.sub
 | take h h' ih =>
  have H2 := H.perm h.perm
  have H3 := H2.sub (List.Sublist.cons _ (List.Sublist.refl _))
  have H4 := ih H3
  refine ⟨H4.kept, fun o ho => ?_, List.Pairwise.cons (fun b hb => ?_) H4.apart, fun o ho => ?_⟩
  ·rcases List.mem_cons.1 ho with rfl | ho
   ·exact H2.ok _ (List.Mem.head _)
   ·exact H4.ok o ho
  ·exact (List.pairwise_cons.1 H2.apart).1 b (Want.mem h' b hb)
  ·rcases List.mem_cons.1 ho with rfl | ho
   ·exact H2.mine _ (List.Mem.head _)
   ·exact H4.mine o ho
where
 Want.mem {l l' : List Own} (h : Want l l') : ∀ b ∈ l', b ∈ l := by
  induction h with
  | done h => exact fun b hb => h.sub.subset hb
  | take h _ ih =>
   intro b hb
   rcases List.mem_cons.1 hb with rfl | hb
   ·exact h.perm.mem_iff.2 (List.Mem.head _)
   ·exact h.perm.mem_iff.2 (List.Mem.tail _ (ih b hb))
end Go.Proofs.Ytkgedjaihimafaa

/- A map that the program made, over what is held: a function from keys to values, and how many there are. No program. -/
namespace Go.Proofs.Ytkgedjaihimafaa
set_option linter.unusedVariables false
set_option linter.unusedSimpArgs false
open Go.RowKit Go.Maps Go.ChangeMaps Go.Proofs.YtkgedjaihimafaaW.PrintWords
def selfR (v : Value) : Option (DataW Value × List MemPlace) := some (.held v, [])
structure MapK (P : Program) (α β : Type) where
 k : TypeId
 e : TypeId
 t : TypeId
 keyed : Keyed P k
 ht : P.underlying t = some (.map k e)
 mkK : α → Value
 mkV : β → Value
 z : β
 hz : ∀ W, (zeroValue e).run P W = .ok (mkV z) W
 okK : α → Prop
 kl : α → Lit
 key : ∀ a, okK a → keyOf P k (mkK a) = some (kl a)
 inj : ∀ a b, okK a → okK b → mkK a = mkK b → a = b
 invK : ∀ v l, keyOf P k v = some l → ∃ a, okK a ∧ v = mkK a
variable {P : Program} {α β : Type}
theorem MapK.kl_inj (M : MapK P α β) {a b : α} (ha : M.okK a) (hb : M.okK b) (h : M.kl a = M.kl b) : a = b := M.inj a b ha hb (M.keyed.inj (M.key a ha) (h ▸ M.key b hb))
theorem MapK.isKey (M : MapK P α β) {a : α} (ha : M.okK a) : WideAt.IsKeyLit (M.kl a) := M.keyed.key (M.key a ha)
structure MapK.Is (M : MapK P α β) (D : DataW Value) (f : α → Option β) (n : Nat) : Prop where
 tidy : Tidy D
 size : Maps.size D = n
 has : ∀ a, M.okK a → Maps.has D (M.kl a) = (f a).isSome
 at_ : ∀ a, M.okK a → ∀ zd, D.atKey (M.kl a) zd = match f a with | some v => .held (M.mkV v) | none => zd
def MapK.At (M : MapK P α β) (b N : Nat) (f : α → Option β) (n : Nat) (W : World) : Prop := ∃ D, W.ownsMap P M.k selfR b N D ∧ M.Is D f n
theorem owns_blk {W W1 : World} {k : TypeId} {b N : Nat} {D : DataW Value} (h : W.ownsMap P k selfR b N D) (e : W1.heap[b]? = W.heap[b]?) : W1.ownsMap P k selfR b N D := by
 obtain ⟨es, clock, hb, r⟩ := h
 exact ⟨es, clock, e.trans hb, r⟩
def MapK.own (M : MapK P α β) (b N : Nat) (f : α → Option β) (n : Nat) : Own :=
 .thing [b] (M.At b N f n) (fun W W1 ⟨D, h1, h2⟩ he => ⟨D, owns_blk h1 (he b (List.Mem.head _)), h2⟩) (fun W k ⟨D, h1, _⟩ hk => by rw [List.mem_singleton.1 hk]; exact h1.lt)
theorem MapK.Is.empty (M : MapK P α β) : M.Is (.map []) (fun _ => none) 0 := ⟨tidy_empty, rfl, fun _ _ => rfl, fun _ _ _ => rfl⟩
theorem MapK.Is.put {M : MapK P α β} {D : DataW Value} {f f' : α → Option β} {n n' : Nat} (h : M.Is D f n) {a : α} (ha : M.okK a) (v : β) (hf : ∀ b, M.okK b → b ≠ a → f' b = f b) (hfa : f' a = some v) (hn : n' = if (f a).isSome then n else n + 1) : M.Is (D.put (M.kl a) (.held (M.mkV v))) f' n' := by
 have hD := h.tidy.isMap
 refine ⟨h.tidy.put (M.isKey ha) _, ?_, fun b hb => ?_, fun b hb zd => ?_⟩
 ·rw [size_put h.tidy, h.size, h.has a ha, hn]
 ·rcases Classical.em (b = a) with rfl | hne
  ·rw [has_put_same hD (M.isKey ha), hfa]; rfl
  ·rw [has_put_other (fun e => hne (M.kl_inj hb ha e)), h.has b hb, hf b hb hne]
 ·rcases Classical.em (b = a) with rfl | hne
  ·rw [atKey_put_same hD (M.isKey ha), hfa]
  ·rw [atKey_put_other (fun e => hne (M.kl_inj hb ha e)), h.at_ b hb, hf b hb hne]
theorem MapK.Is.congr {M : MapK P α β} {D : DataW Value} {f f' : α → Option β} {n : Nat} (h : M.Is D f n) (hf : ∀ a, M.okK a → f' a = f a) : M.Is D f' n := ⟨h.tidy, h.size, fun a ha => by rw [hf a ha]; exact h.has a ha, fun a ha zd => by rw [hf a ha]; exact h.at_ a ha zd⟩
section
variable {ops : Array Oper} {rest : List Oper} {o : Oper} {a : Act} {Q : Exit → Act → World → Prop} {w W : World} {t : List Nat} {l : List Own}
theorem is_makeMap {ty : TypeId} {x : Option Operand} (_ho : o.op = .makeMap ty x) (h : wpList P ops Q (o :: rest) a W) : wpList P ops Q (o :: rest) a W := h
theorem is_lookup {ty : TypeId} {x y : Operand} {c : Bool} (_ho : o.op = .lookup ty x y c) (h : wpList P ops Q (o :: rest) a W) : wpList P ops Q (o :: rest) a W := h
theorem is_call {c : Go.Call} (_ho : o.op = .call c) (h : wpList P ops Q (o :: rest) a W) : wpList P ops Q (o :: rest) a W := h
theorem Hold.map {M : MapK P α β} (H : Hold w W t l) {b N n : Nat} {f : α → Option β} (h : M.own b N f n ∈ l) : M.At b N f n W := H.ok _ h
theorem makemap_h (M : MapK P α β) (H : Hold w W t l) (hgd : o.guard = none) (hrun : (execOp a.eval o).run P W = .ok (.value (.map (some W.heap.size))) (W.alloc (.map #[] 0)))
  (h : ∀ b w1, Hold w w1 t (M.own b 0 (fun _ => none) 0 :: l) → wpList P ops Q rest (a.put o.dst (.map (some b))) w1) : wpList P ops Q (o :: rest) a W := by
 refine wpList_plain hgd fun K hK => ?_
 unfold Oper.wp
 rw [hrun]
 refine hK _ _ (h _ _ (Hold.push (l1 := [_]) H (Hold.made (below_alloc (Below.refl _ _) _) ⟨_, World.ownsMap_made W P M.k selfR, MapK.Is.empty M⟩ fun k hk => Nat.le_of_eq (List.mem_singleton.1 hk).symm)))
theorem turned_hold {M : MapK P α β} {b N N' n n' : Nat} {f f' : α → Option β} {w' : World} (ht : W.mapTurned w' b) (h' : M.At b N' f' n' w') : Hold W w' (ats [M.own b N f n]) [M.own b N' f' n'] := by
 have hg := ht.grown
 exact Hold.turned hg.os hg.tape hg.output hg.size (fun k hk hne => hg.block k hk fun e => hne (List.mem_singleton.2 (Option.some.inj e))) h' fun k hk => .inr hk
theorem look_h (M : MapK P α β) (H : Hold w W t l) (hgd : o.guard = none) {m x : Operand} (ho : o.op = .lookup M.t m x true) {b N n : Nat} {f : α → Option β} (hm : a.eval m = .map (some b)) {k : α} (hk : M.okK k) (hx : a.eval x = M.mkK k) (hmem : M.own b N f n ∈ l)
  (h : wpList P ops Q rest (a.put o.dst (.tuple #[M.mkV ((f k).getD M.z), .bool (f k).isSome])) W) : wpList P ops Q (o :: rest) a W := by
 obtain ⟨D, hD, hI⟩ := H.map hmem
 refine wpList_lookup_own_ok W hgd m x M.t ho M.k M.e M.keyed M.ht selfR (M.hz W) (.held (M.mkV M.z)) [] rfl b N D hm hD _ _ hx (M.key k hk) fun v ps hv => ?_
 have e := congrArg Prod.fst (Option.some.inj hv)
 rw [hI.at_ k hk] at e
 rw [hI.has k hk]
 cases hf : f k with
 | none =>
  rw [hf] at e h
  injection e with e
  subst e
  exact h
 | some u =>
  rw [hf] at e h
  injection e with e
  subst e
  exact h
theorem look_some (M : MapK P α β) (H : Hold w W t l) (hgd : o.guard = none) {m x : Operand} (ho : o.op = .lookup M.t m x true) {b N n : Nat} {f : α → Option β} (hm : a.eval m = .map (some b)) {k : α} (hk : M.okK k) (hx : a.eval x = M.mkK k) (hmem : M.own b N f n ∈ l) {v : β} (hf : f k = some v)
  (h : wpList P ops Q rest (a.put o.dst (.tuple #[M.mkV v, .bool true])) W) : wpList P ops Q (o :: rest) a W :=
 look_h M H hgd ho hm hk hx hmem (by rw [hf]; exact h)
theorem look_none (M : MapK P α β) (H : Hold w W t l) (hgd : o.guard = none) {m x : Operand} (ho : o.op = .lookup M.t m x true) {b N n : Nat} {f : α → Option β} (hm : a.eval m = .map (some b)) {k : α} (hk : M.okK k) (hx : a.eval x = M.mkK k) (hmem : M.own b N f n ∈ l) (hf : f k = none)
  (h : wpList P ops Q rest (a.put o.dst (.tuple #[M.mkV M.z, .bool false])) W) : wpList P ops Q (o :: rest) a W :=
 look_h M H hgd ho hm hk hx hmem (by rw [hf]; exact h)
theorem lenmap_h (M : MapK P α β) (H : Hold w W t l) (hgd : o.guard = none) {m : Operand} (ho : o.op = .call { callee := .builtin .len, args := #[m], argTypes := #[M.t] }) {b N n : Nat} {f : α → Option β} (hm : a.eval m = .map (some b)) (hmem : M.own b N f n ∈ l)
  (h : wpList P ops Q rest (a.put o.dst (.int .i64 n)) W) : wpList P ops Q (o :: rest) a W := by
 obtain ⟨D, hD, hI⟩ := H.map hmem
 refine wpList_len_own W hgd m M.t ho M.k M.e M.ht selfR b N D hm hD ?_
 rw [hI.size]
 exact h
variable {Kc : Act → World → Prop}
theorem load_o (H : Hold w W t l) (hw : Region.wanted o (yielded ops a.tmps) = true) {ty : TypeId} {x : Operand} (ho : o.op = .load ty x) {g : Nat} {cs : List Value} {bt : TypeId} (hx : a.eval x = .pointer (some ⟨g, 0, none⟩)) (hm : cl g cs bt ∈ l)
  (hd : (P.underlying ty).map (·.isRow) = some true) (hi : (P.info? ty).map (·.size) = some cs.length) (h : Kc (a.put o.dst (.agg cs.toArray)) W) : if Region.wanted o (yielded ops a.tmps) = true then Oper.wp P o a W Kc Q else Kc (a.put o.dst undef) W := by
 obtain ⟨d, hu, hr⟩ := Option.map_eq_some_iff.1 hd
 have hc : ∀ j v, cs[j]? = some v → W.cell? ((⟨g, 0, none⟩ : Addr).add j) = some v := fun j v hv => by
  rw [show (⟨g, 0, none⟩ : Addr).add j = ⟨g, j, none⟩ by simp [Addr.add, eq_comm], H.cell hm]; exact hv
 have hl : (loadCells ⟨g, 0, none⟩ cs.length).run P W = .ok cs.toArray W := run_loadCells_list (P := P) W _ cs hc
 have hv : (loadVar ty ⟨g, 0, none⟩).run P W = .ok (.agg cs.toArray) W := by
  cases hq : P.info? ty with
  | none => simp [hq] at hi
  | some i =>
   have hs : i.size = cs.length := by simpa [hq] using hi
   have hagg : (isAgg ty).run P W = .ok true W := by
    unfold isAgg
    rw [Sem.run_bind, run_underlying hu W]
    cases d <;> simp_all
   simp [loadVar, Sem.run_bind, hagg, sizeOf, typeInfo, hq, hs, hl]
 rw [if_pos hw]
 unfold Oper.wp execOp
 simp only [ho, hx, Instr.loadAt, Instr.sureAddr, Sem.run_bind, Sem.run_pure, Result.andThen_ok, hv]
 exact h
theorem update_o (M : MapK P α β) (H : Hold w W t l) (hw : Region.wanted o (yielded ops a.tmps) = true) {m x y : Operand} (ho : o.op = .mapUpdate M.t m x y) {b N n : Nat} {f : α → Option β} (hm : a.eval m = .map (some b)) {k : α} (hk : M.okK k) (hx : a.eval x = M.mkK k) {v : β} (hv : a.eval y = M.mkV v) (hN : N < maxLen)
  {f' : α → Option β} {n' : Nat} {l' : List Own} (hp : Put l (M.own b N f n) (M.own b (N + 1) f' n') l') (hf : ∀ b, M.okK b → b ≠ k → f' b = f b) (hfa : f' k = some v) (hn : n' = if (f k).isSome then n else n + 1)
  (h : ∀ w1, Hold w w1 t l' → Kc (a.put o.dst undef) w1) : if Region.wanted o (yielded ops a.tmps) = true then Oper.wp P o a W Kc Q else Kc (a.put o.dst undef) W := by
 obtain ⟨r, hp1, _⟩ := hp.perm
 obtain ⟨D, hD, hI⟩ : M.At b N f n W := H.ok _ (hp1.mem_iff.2 (List.Mem.head _))
 obtain ⟨w', hrun, h1, h2⟩ := hD.store M.keyed M.ht hN (M.key k hk) (R := selfR) (val := M.mkV v) rfl
 rw [if_pos hw]
 unfold Oper.wp
 simp [execOp, ho, hm, hx, hv, hrun, Result.andThen]
 exact h w' (H.put hp (turned_hold h2 ⟨_, h1, hI.put hk v hf hfa hn⟩))
end
end Go.Proofs.Ytkgedjaihimafaa

/- Subscriptions, in plain lists: the reference's sorted row; what a map holds, up to order. No program. -/
namespace Go.Proofs.Ytkgedjaihimafaa
set_option linter.unusedVariables false
set_option linter.unusedSimpArgs false
open Go.RowKit Go.Proofs.YtkgedjaihimafaaW.PrintWords
structure Sb where
 cl : Int
 id : Int
 tp : ByteArray
 fr : Int
 nx : Int
instance : Inhabited Sb := ⟨⟨0, 0, ⟨#[]⟩, 0, 0⟩⟩
abbrev noSb : Sb := ⟨0, 0, ⟨#[]⟩, 0, 0⟩
abbrev Sb.cells (s : Sb) : List Value := [.int .u32 s.cl, .int .u32 s.id, .string s.tp, .int .u64 s.fr, .int .u64 s.nx]
def Sb.is (c i : Int) (s : Sb) : Bool := s.cl == c && s.id == i
theorem Sb.is_iff {c i : Int} {s : Sb} : s.is c i = true ↔ s.cl = c ∧ s.id = i := by simp [Sb.is]
theorem Sb.is_self (s : Sb) : s.is s.cl s.id = true := by simp [Sb.is]
def beforeB (a b : Sb) : Bool := decide (a.cl < b.cl) || a.cl == b.cl && decide (a.id < b.id)
def fnd (m : List Sb) (c i : Int) : Option Sb := m.find? (Sb.is c i)
def ins (s : Sb) : List Sb → List Sb
 | [] => [s]
 | t :: r => if beforeB s t = true then s :: t :: r else t :: ins s r
theorem ins_perm (s : Sb) : ∀ m : List Sb, (ins s m).Perm (s :: m)
 | [] => List.Perm.refl _
 | t :: r => by
  unfold ins
  split
  ·exact List.Perm.refl _
  ·exact ((ins_perm s r).cons t).trans (List.Perm.swap _ _ _)
def Sb.on (s : Sb) : Sb := { s with nx := IntKind.u64.wrap (s.nx + 1) }
end Go.Proofs.Ytkgedjaihimafaa

/- The map of subscriptions. -/
namespace Go.Proofs.Ytkgedjaihimafaa
set_option linter.unusedVariables false
set_option linter.unusedSimpArgs false
open Go.RowKit Go.Maps Go.ChangeMaps Go.WideMaps Go.Proofs.YtkgedjaihimafaaW.PrintWords
theorem Try.keyRow : (54 : TypeId) < Try.prog.types.size := of_decide_eq_true (by kernel_rfl)
theorem Try.keyWide : (match Try.prog.underlying 54 with | some (.array _ _) | some (.struct _) => true | _ => false) = true := by rw [Try.underlying54]
theorem Try.keyIs : Try.prog.keyType 54 = true := by kernel_rfl
theorem Try.keyCells : Try.prog.cellsOf 54 = 2 := by kernel_rfl
theorem Try.u32Cells : Try.prog.cellsOf 23 = 1 := by kernel_rfl
theorem Try.laidOutS : laidOutB Try.prog = true := by kernel_rfl
theorem Try.keyLaw : KeyLaw Try.prog 54 := deep_law_laid Try.laidOutS (m := 2) (by omega) Try.keyRow (by kernel_rfl) Try.keyWide
def okKey (p : Int × Int) : Prop := (0 ≤ p.1 ∧ p.1 ≤ 4294967295) ∧ 0 ≤ p.2 ∧ p.2 ≤ 4294967295
theorem u32_wf {n : Int} : (Lit.int .u32 n).wf = true ↔ 0 ≤ n ∧ n ≤ 4294967295 := by
 simp [Lit.wf, IntKind.min, IntKind.max, IntKind.signed, IntKind.bits]
abbrev keyV (p : Int × Int) : Value := .agg #[.int .u32 p.1, .int .u32 p.2]
noncomputable def keyL (p : Int × Int) : Lit := (keyOf Try.prog 54 (keyV p)).getD (.bool false)
theorem key_depth : ∃ m, Try.prog.types.size + 1 = m + 2 := by
 have h : 0 < Try.prog.types.size := Nat.lt_of_le_of_lt (Nat.zero_le _) Try.keyRow
 generalize Try.prog.types.size = z at h
 exact ⟨z - 1, by omega⟩
theorem key_lits (m : Nat) (a b : Value) : Try.prog.keyLits (m + 2) 54 [a, b] = (Try.prog.keyLits (m + 1) 23 [a]).bind fun x => (Try.prog.keyLits (m + 1) 23 [b]).map fun y => x ++ y := by
 conv => lhs; unfold Program.keyLits
 rw [Try.underlying54]
 simp only [Try.keyCells, Try.u32Cells]
 cases h1 : Try.prog.keyLits (m + 1) 23 [a] <;> cases h2 : Try.prog.keyLits (m + 1) 23 [b] <;> simp [h1, h2, Try.u32Cells]
theorem u32_lits (m : Nat) (v : Value) : Try.prog.keyLits (m + 1) 23 [v] = match v with | .int q' n => if q' = .u32 ∧ (Lit.int .u32 n).wf = true then some [.int .u32 n] else none | _ => none := by
 unfold Program.keyLits
 rw [Try.underlying23]
 cases v <;> rfl
theorem key_some {p : Int × Int} (h : okKey p) : keyOf Try.prog 54 (keyV p) = some (keyL p) := by
 have h1 := u32_wf.2 h.1
 have h2 := u32_wf.2 h.2
 have e : (keyOf Try.prog 54 (keyV p)).isSome = true := by
  obtain ⟨m, hm⟩ := key_depth
  unfold keyOf
  rw [Try.underlying54]
  simp only [Try.keyIs, Value.formed, Try.underlying54, Try.keyCells, Value.cells, hm, List.size_toArray, key_lits, u32_lits, h1, h2]
  simp
 unfold keyL
 obtain ⟨l, hl⟩ := Option.isSome_iff_exists.1 e
 rw [hl]
 rfl
theorem key_inv {v : Value} {l : Lit} (h : keyOf Try.prog 54 v = some l) : ∃ p, okKey p ∧ v = keyV p := by
 unfold keyOf at h
 rw [Try.underlying54] at h
 simp only at h
 split at h
 ·next hc =>
  rw [Bool.and_eq_true] at hc
  have hf := hc.2
  unfold Value.formed at hf
  split at hf
  ·next cs =>
   rw [Try.underlying54] at hf
   simp only [Try.keyCells, beq_iff_eq] at hf
   obtain ⟨l⟩ := cs
   match l, hf with
   | [a, b], _ =>
    obtain ⟨m, hm⟩ := key_depth
    simp only [Value.cells, hm, key_lits, u32_lits] at h
    obtain ⟨ls, h, _⟩ := Option.map_eq_some_iff.1 h
    obtain ⟨x, hx, h⟩ := Option.bind_eq_some_iff.1 h
    obtain ⟨y, hy, _⟩ := Option.map_eq_some_iff.1 h
    cases a <;> simp only [reduceCtorEq] at hx
    cases b <;> simp only [reduceCtorEq] at hy
    split at hx
    ·next c1 =>
     split at hy
     ·next c2 =>
      obtain ⟨rfl, w1⟩ := c1
      obtain ⟨rfl, w2⟩ := c2
      exact ⟨(_, _), ⟨u32_wf.1 w1, u32_wf.1 w2⟩, rfl⟩
     ·cases hy
    ·cases hx
  ·cases hf
  ·rw [Try.underlying54] at hf
   cases hf
 ·cases h
noncomputable def subMap : MapK Try.prog (Int × Int) Sb where
 k := 54
 e := 29
 t := 49
 keyed := Keyed.of_law Try.keyLaw
 ht := Try.underlying49
 mkK := keyV
 mkV s := .agg s.cells.toArray
 z := noSb
 hz W := by kernel_rfl
 okK := okKey
 kl := keyL
 key _ h := key_some h
 inj a b _ _ h := by
  injection h with h
  have h1 := congrArg (·[0]?) h
  have h2 := congrArg (·[1]?) h
  simp at h1 h2
  exact Prod.ext h1 h2
 invK _ _ h := key_inv h
end Go.Proofs.Ytkgedjaihimafaa

/- Subscriptions, in plain lists: what is found behind each change. No program. -/
namespace Go.Proofs.Ytkgedjaihimafaa
set_option linter.unusedVariables false
set_option linter.unusedSimpArgs false
theorem is_other {c i : Int} {s : Sb} (h : (c, i) ≠ (s.cl, s.id)) : s.is c i = false := by
 cases hs : s.is c i
 ·rfl
 ·rw [Sb.is_iff] at hs
  exact absurd (by rw [hs.1, hs.2]) h
theorem fnd_ins_self (s : Sb) : ∀ {m : List Sb}, (∀ t ∈ m, t.is s.cl s.id = false) → fnd (ins s m) s.cl s.id = some s
 | [], _ => by simp [ins, fnd, Sb.is_self]
 | t :: r, h => by
  have ih := fnd_ins_self s (m := r) fun u hu => h u (List.mem_cons_of_mem _ hu)
  have ht := h t (List.mem_cons_self ..)
  unfold fnd at ih ⊢
  unfold ins
  split
  ·simp [List.find?_cons, Sb.is_self]
  ·rw [List.find?_cons, ht]
   exact ih
theorem fnd_ins_other {c i : Int} (s : Sb) (h : (c, i) ≠ (s.cl, s.id)) : ∀ m : List Sb, fnd (ins s m) c i = fnd m c i
 | [] => by simp [ins, fnd, is_other h]
 | t :: r => by
  have ih := fnd_ins_other s h r
  unfold fnd at ih ⊢
  unfold ins
  split
  ·rw [List.find?_cons, is_other h]
  ·rw [List.find?_cons, List.find?_cons]
   cases t.is c i
   ·exact ih
   ·rfl
theorem fnd_none_iff {m : List Sb} {c i : Int} : fnd m c i = none ↔ ∀ s ∈ m, s.is c i = false := by
 unfold fnd
 rw [List.find?_eq_none]
 exact ⟨fun h s hs => by cases hh : s.is c i <;> simp_all, fun h s hs => by rw [h s hs]; exact Bool.false_ne_true⟩
theorem ins_len (s : Sb) (m : List Sb) : (ins s m).length = m.length + 1 := (ins_perm s m).length_eq
end Go.Proofs.Ytkgedjaihimafaa

/- Package subs, over what is held: New, Len, Get, Add, Remove, Step. (This text is printed by wip/gen/sub1.py.) -/
namespace Go.Proofs.Ytkgedjaihimafaa
set_option linter.unusedVariables false
set_option linter.unusedSimpArgs false
open Go.RowKit Go.Maps Go.Proofs.YtkgedjaihimafaaW.PrintWords Go.Proofs.YtkgedjaihimafaaW.PrintLast Go.Proofs.YtkgedjaihimafaaW.PrintMore Go.Extern.Stop Go.Stop Go.Extern
abbrev nilS : Value := .slice none 0 0
theorem of_post0 {P : Program} {f : FuncId} {args : Array Value} {w : World} {T : Ending → World → Prop} (h : ∀ R : Ending → World → Prop, (∀ e w', T e w' → R e w') → Calls P f args w R) : Calls P f args w T := h T fun _ _ h => h
abbrev tbO (tb b : Nat) : Own := cl tb [.map (some b)] 51
noncomputable abbrev tbM (b N : Nat) (m : List Sb) : Own := subMap.own b N (fun p => fnd m p.1 p.2) m.length
structure IsT (W : World) (tb b N : Nat) (m : List Sb) : Prop where
 blk : (tbO tb b).ok W
 map : (tbM b N m).ok W
 ne : tb ≠ b
theorem IsT.hold {W : World} {tb b N : Nat} {m : List Sb} (h : IsT W tb b N m) : Hold W W (ats [tbO tb b, tbM b N m]) [tbO tb b, tbM b N m] :=
 Hold.start (fun o ho => by
  rcases List.mem_cons.1 ho with rfl | ho
  ·exact h.blk
  ·rw [List.mem_singleton.1 ho]; exact h.map)
  (List.Pairwise.cons (fun x hx k hk hk2 => by
   rw [List.mem_singleton.1 hx] at hk2
   obtain rfl : k = tb := List.mem_singleton.1 hk
   exact h.ne (List.mem_singleton.1 hk2)) (pair1 _))
theorem Hold.isT {w W : World} {t : List Nat} {l r1 r2 : List Own} (H : Hold w W t l) {tb b N : Nat} {m : List Sb} (h1 : Pull l (tbO tb b) r1) (h2 : Pull r1 (tbM b N m) r2) : IsT W tb b N m := by
 have H2 := H.only2 h1 h2
 refine ⟨H2.ok _ (List.Mem.head _), H2.ok _ (List.Mem.tail _ (List.Mem.head _)), fun e => ?_⟩
 exact (List.pairwise_cons.1 H2.apart).1 _ (List.Mem.head _) tb (List.mem_singleton.2 rfl) (by rw [e]; exact List.mem_singleton.2 rfl)
set_option maxHeartbeats 2000000 in
set_option maxRecDepth 100000 in
theorem newT_calls (w : World) : Calls Try.prog 7 #[] w fun e w' => ∃ tb b, e = .returned (.pointer (some ⟨tb, 0, none⟩)) ∧ Hold w w' [] [tbO tb b, tbM b 0 []] := by
 refine of_post0 fun R hRR => ?_
 have HP := Lib.hid hRR
 have H : Hold w w [] [] := Hold.nothing (Kept.refl _ _)
 clear hRR
 go_enter Try.func7, Try.ntmps7
 go_wp2_with (first
  | ((with_reducible refine is_makeMap rfl ?_); refine makemap_h subMap H rfl (by first | (go_simp; done) | (go_simp; rfl)) ?_; clear H; intro b w_ H)
  | ((with_reducible refine is_box rfl ?_); refine box_h H rfl rfl rfl rfl ?_; clear H; intro tb w_ H))
 exact HP.out _ _ ⟨_, _, rfl, H⟩
set_option maxHeartbeats 2000000 in
set_option maxRecDepth 100000 in
theorem lenT_calls (w : World) (tb b N : Nat) (m : List Sb) (h : IsT w tb b N m) : Calls Try.prog 14 #[.pointer (some ⟨tb, 0, none⟩)] w fun e w' => e = .returned (.int .i64 m.length) ∧ Hold w w' (ats [tbO tb b, tbM b N m]) [tbO tb b, tbM b N m] := by
 refine of_post0 fun R hRR => ?_
 have HP := Lib.hid hRR
 have H := h.hold
 clear hRR h
 go_enter Try.func14, Try.ntmps14
 go_wp2_with (first
  | ((with_reducible refine is_load rfl ?_); refine loadf_h H rfl rfl rfl (by repeat (first | exact List.Mem.head _ | apply List.Mem.tail)) rfl (by kernel_rfl) ?_)
  | ((with_reducible refine is_call rfl ?_); refine lenmap_h subMap H rfl rfl (b := b) rfl (by repeat (first | exact List.Mem.head _ | apply List.Mem.tail)) ?_))
 exact HP.out _ _ ⟨rfl, H⟩
set_option maxHeartbeats 2000000 in
set_option maxRecDepth 100000 in
theorem getT_some (w : World) (tb b N : Nat) (m : List Sb) (h : IsT w tb b N m) (c i : Int) (hok : okKey (c, i)) (s : Sb) (hf : fnd m c i = some s) : Calls Try.prog 15 #[.pointer (some ⟨tb, 0, none⟩), .int .u32 c, .int .u32 i] w fun e w' => e = .returned (.tuple #[.agg #[.int .u32 s.cl, .int .u32 s.id, .string s.tp, .int .u64 s.fr, .int .u64 s.nx], .bool true]) ∧ Hold w w' (ats [tbO tb b, tbM b N m]) [tbO tb b, tbM b N m] := by
 refine of_post0 fun R hRR => ?_
 have HP := Lib.hid hRR
 have H := h.hold
 clear hRR h
 have HOK := Lib.hid hok
 have HF := Lib.hid hf
 clear hok hf
 go_enter Try.func15, Try.ntmps15
 go_upto_region 3 with (first
  | ((with_reducible refine is_alloc (ty := 29) rfl ?_); refine alloc_h H rfl rfl (cs := [.int .u32 0, .int .u32 0, .string ⟨#[]⟩, .int .u64 0, .int .u64 0]) (by first | (go_simp; done) | (go_simp; rfl)) ?_; clear H; intro g6 w_ H))
 go_wp2_with (first
  | ((with_reducible refine is_alloc (ty := 29) rfl ?_); refine alloc_h H rfl rfl (cs := [.int .u32 0, .int .u32 0, .string ⟨#[]⟩, .int .u64 0, .int .u64 0]) (by first | (go_simp; done) | (go_simp; rfl)) ?_; clear H; intro g8 w_ H)
  | ((with_reducible refine is_load (ty := 29) rfl ?_); refine load_h H rfl rfl rfl (by repeat (first | exact List.Mem.head _ | apply List.Mem.tail)) (by kernel_rfl) (by kernel_rfl) ?_)
  | ((with_reducible refine is_load rfl ?_); refine loadf_h H rfl rfl rfl (by repeat (first | exact List.Mem.head _ | apply List.Mem.tail)) rfl (by kernel_rfl) ?_)
  | ((with_reducible refine is_lookup rfl ?_); refine look_some subMap H rfl rfl (b := b) (f := fun p => fnd m p.1 p.2) rfl (k := (c, i)) HOK.out rfl (by repeat (first | exact List.Mem.head _ | apply List.Mem.tail)) HF.out ?_; (try simp only [subMap]))
  | ((with_reducible refine is_store (ty := 29) rfl ?_); refine store_h H rfl rfl rfl rfl (u := .agg #[.int .u32 s.cl, .int .u32 s.id, .string s.tp, .int .u64 s.fr, .int .u64 s.nx]) rfl (by repeat (first | exact Put.head | apply Put.tail)) (by kernel_rfl) (Nat.le_of_ble_eq_true rfl) rfl ?_; clear H; intro w_ H; simp only [setC, Value.cells, List.toList_toArray] at H))
 refine bodyPost_ret (results_list (rs := [.cell 6 29, .tmp 7]) rfl (by simp) (.cell g6 29 ([.int .u32 s.cl, .int .u32 s.id, .string s.tp, .int .u64 s.fr, .int .u64 s.nx].toArray) (0, 0) _ rfl (H.blk (cs := [.int .u32 s.cl, .int .u32 s.id, .string s.tp, .int .u64 s.fr, .int .u64 s.nx]) (by repeat (first | exact List.Mem.head _ | apply List.Mem.tail))) Try.underlying29 rfl (by kernel_rfl) (.tmp .nil))) rfl ?_
 exact HP.out _ _ ⟨rfl, H.want (Want.take (by repeat (first | exact Pull.head | apply Pull.tail)) (Want.take (by repeat (first | exact Pull.head | apply Pull.tail)) (Want.done (s := []) (by repeat (first | exact Suf.refl | apply Suf.cons)))))⟩
set_option maxHeartbeats 2000000 in
set_option maxRecDepth 100000 in
theorem getT_none (w : World) (tb b N : Nat) (m : List Sb) (h : IsT w tb b N m) (c i : Int) (hok : okKey (c, i)) (hf : fnd m c i = none) : Calls Try.prog 15 #[.pointer (some ⟨tb, 0, none⟩), .int .u32 c, .int .u32 i] w fun e w' => e = .returned (.tuple #[.agg #[.int .u32 0, .int .u32 0, .string ⟨#[]⟩, .int .u64 0, .int .u64 0], .bool false]) ∧ Hold w w' (ats [tbO tb b, tbM b N m]) [tbO tb b, tbM b N m] := by
 refine of_post0 fun R hRR => ?_
 have HP := Lib.hid hRR
 have H := h.hold
 clear hRR h
 have HOK := Lib.hid hok
 have HF := Lib.hid hf
 clear hok hf
 go_enter Try.func15, Try.ntmps15
 go_upto_region 3 with (first
  | ((with_reducible refine is_alloc (ty := 29) rfl ?_); refine alloc_h H rfl rfl (cs := [.int .u32 0, .int .u32 0, .string ⟨#[]⟩, .int .u64 0, .int .u64 0]) (by first | (go_simp; done) | (go_simp; rfl)) ?_; clear H; intro g6 w_ H))
 go_wp2_with (first
  | ((with_reducible refine is_alloc (ty := 29) rfl ?_); refine alloc_h H rfl rfl (cs := [.int .u32 0, .int .u32 0, .string ⟨#[]⟩, .int .u64 0, .int .u64 0]) (by first | (go_simp; done) | (go_simp; rfl)) ?_; clear H; intro g8 w_ H)
  | ((with_reducible refine is_load (ty := 29) rfl ?_); refine load_h H rfl rfl rfl (by repeat (first | exact List.Mem.head _ | apply List.Mem.tail)) (by kernel_rfl) (by kernel_rfl) ?_)
  | ((with_reducible refine is_load rfl ?_); refine loadf_h H rfl rfl rfl (by repeat (first | exact List.Mem.head _ | apply List.Mem.tail)) rfl (by kernel_rfl) ?_)
  | ((with_reducible refine is_lookup rfl ?_); refine look_none subMap H rfl rfl (b := b) (f := fun p => fnd m p.1 p.2) rfl (k := (c, i)) HOK.out rfl (by repeat (first | exact List.Mem.head _ | apply List.Mem.tail)) HF.out ?_; (try simp only [subMap]))
  | ((with_reducible refine is_store (ty := 29) rfl ?_); refine store_h H rfl rfl rfl rfl (u := .agg #[.int .u32 0, .int .u32 0, .string ⟨#[]⟩, .int .u64 0, .int .u64 0]) rfl (by repeat (first | exact Put.head | apply Put.tail)) (by kernel_rfl) (Nat.le_of_ble_eq_true rfl) rfl ?_; clear H; intro w_ H; simp only [setC, Value.cells, List.toList_toArray] at H))
 refine bodyPost_ret (results_list (rs := [.cell 6 29, .tmp 7]) rfl (by simp) (.cell g6 29 ([.int .u32 0, .int .u32 0, .string ⟨#[]⟩, .int .u64 0, .int .u64 0].toArray) (0, 0) _ rfl (H.blk (cs := [.int .u32 0, .int .u32 0, .string ⟨#[]⟩, .int .u64 0, .int .u64 0]) (by repeat (first | exact List.Mem.head _ | apply List.Mem.tail))) Try.underlying29 rfl (by kernel_rfl) (.tmp .nil))) rfl ?_
 exact HP.out _ _ ⟨rfl, H.want (Want.take (by repeat (first | exact Pull.head | apply Pull.tail)) (Want.take (by repeat (first | exact Pull.head | apply Pull.tail)) (Want.done (s := []) (by repeat (first | exact Suf.refl | apply Suf.cons)))))⟩
theorem ins_upd {m : List Sb} {s : Sb} (h : fnd m s.cl s.id = none) : (∀ p : Int × Int, subMap.okK p → p ≠ (s.cl, s.id) → (fun p : Int × Int => fnd (ins s m) p.1 p.2) p = (fun p : Int × Int => fnd m p.1 p.2) p) ∧ (fun p : Int × Int => fnd (ins s m) p.1 p.2) (s.cl, s.id) = some s ∧ (ins s m).length = if ((fun p : Int × Int => fnd m p.1 p.2) (s.cl, s.id)).isSome then m.length else m.length + 1 :=
 ⟨fun p _ hne => fnd_ins_other s (fun e => hne (by rw [← e])) m, fnd_ins_self s (fnd_none_iff.1 h), by rw [show (fun p : Int × Int => fnd m p.1 p.2) (s.cl, s.id) = none from h, ins_len]; rfl⟩
set_option maxHeartbeats 2000000 in
set_option maxRecDepth 100000 in
theorem addT_old (w : World) (tb b N : Nat) (m : List Sb) (h : IsT w tb b N m) (s s0 : Sb) (hok : okKey (s.cl, s.id)) (hf : fnd m s.cl s.id = some s0) : Calls Try.prog 9 #[.pointer (some ⟨tb, 0, none⟩), .agg s.cells.toArray] w fun e w' => e = .returned (.bool false) ∧ Hold w w' (ats [tbO tb b, tbM b N m]) [tbO tb b, tbM b N m] := by
 refine of_post0 fun R hRR => ?_
 have HP := Lib.hid hRR
 have H := h.hold
 clear hRR h
 have HOK := Lib.hid hok
 have HF := Lib.hid hf
 clear hok hf
 go_enter Try.func9, Try.ntmps9
 go_wp2_with (first
  | ((with_reducible refine is_box rfl ?_); refine box_h H rfl rfl rfl rfl ?_; clear H; intro g3 w_ H)
  | ((with_reducible refine is_load rfl ?_); refine loadf_h H rfl rfl rfl (by repeat (first | exact List.Mem.head _ | apply List.Mem.tail)) rfl (by kernel_rfl) ?_)
  | (go_at_call 15; refine (getT_some _ tb b N m (H.isT (by repeat (first | exact Pull.head | apply Pull.tail)) (by repeat (first | exact Pull.head | apply Pull.tail))) s.cl s.id HOK.out s0 HF.out).mono ?_; rintro e_ w_ ⟨rfl, h_⟩; replace H := Hold.call (H.pull2 (by repeat (first | exact Pull.head | apply Pull.tail)) (by repeat (first | exact Pull.head | apply Pull.tail))) h_; clear h_)
  | ((with_reducible refine is_alloc (ty := 29) rfl ?_); refine alloc_h H rfl rfl (cs := [.int .u32 0, .int .u32 0, .string ⟨#[]⟩, .int .u64 0, .int .u64 0]) (by first | (go_simp; done) | (go_simp; rfl)) ?_; clear H; intro g5 w_ H)
  | ((with_reducible refine is_store (ty := 29) rfl ?_); refine store_h H rfl rfl rfl rfl (u := .agg #[.int .u32 s0.cl, .int .u32 s0.id, .string s0.tp, .int .u64 s0.fr, .int .u64 s0.nx]) rfl (by repeat (first | exact Put.head | apply Put.tail)) (by kernel_rfl) (Nat.le_of_ble_eq_true rfl) rfl ?_; clear H; intro w_ H; simp only [setC, Value.cells, List.toList_toArray] at H))
 exact HP.out _ _ ⟨rfl, H.want (Want.take (by repeat (first | exact Pull.head | apply Pull.tail)) (Want.take (by repeat (first | exact Pull.head | apply Pull.tail)) (Want.done (s := []) (by repeat (first | exact Suf.refl | apply Suf.cons)))))⟩
set_option maxHeartbeats 2000000 in
set_option maxRecDepth 100000 in
theorem addT_new (w : World) (tb b N : Nat) (m : List Sb) (h : IsT w tb b N m) (s : Sb) (hok : okKey (s.cl, s.id)) (hf : fnd m s.cl s.id = none) (hN : N < maxLen) : Calls Try.prog 9 #[.pointer (some ⟨tb, 0, none⟩), .agg s.cells.toArray] w fun e w' => e = .returned (.bool true) ∧ Hold w w' (ats [tbO tb b, tbM b N m]) [tbO tb b, tbM b (N + 1) (ins s m)] := by
 refine of_post0 fun R hRR => ?_
 have HP := Lib.hid hRR
 have H := h.hold
 clear hRR h
 have HOK := Lib.hid hok
 have HF := Lib.hid hf
 have HU := Lib.hid (ins_upd hf)
 have HN := Lib.hid hN
 clear hok hf hN
 go_enter Try.func9, Try.ntmps9
 go_upto_region 4 with (first
  | ((with_reducible refine is_box rfl ?_); refine box_h H rfl rfl rfl rfl ?_; clear H; intro g3 w_ H)
  | ((with_reducible refine is_load rfl ?_); refine loadf_h H rfl rfl rfl (by repeat (first | exact List.Mem.head _ | apply List.Mem.tail)) rfl (by kernel_rfl) ?_)
  | (go_at_call 15; refine (getT_none _ tb b N m (H.isT (by repeat (first | exact Pull.head | apply Pull.tail)) (by repeat (first | exact Pull.head | apply Pull.tail))) s.cl s.id HOK.out HF.out).mono ?_; rintro e_ w_ ⟨rfl, h_⟩; replace H := Hold.call (H.pull2 (by repeat (first | exact Pull.head | apply Pull.tail)) (by repeat (first | exact Pull.head | apply Pull.tail))) h_; clear h_)
  | ((with_reducible refine is_alloc (ty := 29) rfl ?_); refine alloc_h H rfl rfl (cs := [.int .u32 0, .int .u32 0, .string ⟨#[]⟩, .int .u64 0, .int .u64 0]) (by first | (go_simp; done) | (go_simp; rfl)) ?_; clear H; intro g5 w_ H)
  | ((with_reducible refine is_store (ty := 29) rfl ?_); refine store_h H rfl rfl rfl rfl (u := .agg #[.int .u32 0, .int .u32 0, .string ⟨#[]⟩, .int .u64 0, .int .u64 0]) rfl (by repeat (first | exact Put.head | apply Put.tail)) (by kernel_rfl) (Nat.le_of_ble_eq_true rfl) rfl ?_; clear H; intro w_ H; simp only [setC, Value.cells, List.toList_toArray] at H))
 replace H := H.below (below_drew (Below.refl _ _))
 refine start_ (n := 11) (S := fun w' => w'.cell? ⟨tb, 0, none⟩ = some (.map (some b)) ∧ w'.cell? ⟨g3, 0, none⟩ = some (.int .u32 s.cl) ∧ w'.cell? ⟨g3, 1, none⟩ = some (.int .u32 s.id)) (ds := []) #[false, false, false, false, false, false, false, false, false, false, false] (by kernel_rfl) rfl rfl ⟨((H.cell (by repeat (first | exact List.Mem.head _ | apply List.Mem.tail)) 0).trans rfl), ((H.cell (by repeat (first | exact List.Mem.head _ | apply List.Mem.tail)) 0).trans rfl), ((H.cell (by repeat (first | exact List.Mem.head _ | apply List.Mem.tail)) 1).trans rfl)⟩ (fun hHeld => ?_)
 generalize World.drew _ = wy at H hHeld ⊢
 refine pure_ (i := 0) (N := some 21) (v := ?_) (a' := ?_) #[true, false, false, false, false, false, false, false, false, false, false] rfl rfl (by kernel_rfl) (fun _ _ _ h => h) (Or.inl ⟨by rfl, ?_⟩) ?_ ?_
 rotate_left
 ·intro w'
  go_simp
  with_reducible rfl
 rotate_left
 ·simp only [Act.put, putA, putB, putC]
  rfl
 refine pure_ (i := 1) (N := some 22) (v := ?_) (a' := ?_) #[true, true, false, false, false, false, false, false, false, false, false] rfl rfl (by kernel_rfl) (fun _ _ _ h => h) (Or.inl ⟨by rfl, ?_⟩) ?_ ?_
 rotate_left
 ·intro w'
  go_simp
  with_reducible rfl
 rotate_left
 ·simp only [Act.put, putA, putB, putC]
  rfl
 refine pure_ (i := 2) (N := some 23) (v := ?_) (a' := ?_) #[true, true, true, false, false, false, false, false, false, false, false] rfl rfl (by kernel_rfl) (fun _ _ _ h => h) (Or.inl ⟨by rfl, ?_⟩) ?_ ?_
 rotate_left
 ·intro w'
  go_simp
  with_reducible rfl
 rotate_left
 ·simp only [Act.put, putA, putB, putC]
  rfl
 refine take_ (i := 3) (N := some 24) (v := ?_) (a' := ?_) #[true, true, true, true, false, false, false, false, false, false, false] rfl rfl (by kernel_rfl) (fun _ _ _ h => h) (Or.inl ⟨by rfl, ?_⟩) hHeld ?_ ?_
 rotate_left
 ·rintro w' ⟨s0, s1, s2⟩
  go_simp
  with_reducible rfl
 rotate_left
 ·simp only [Act.put, putA, putB, putC]
  rfl
 refine pure_ (i := 4) (N := some 25) (v := ?_) (a' := ?_) #[true, true, true, true, true, false, false, false, false, false, false] rfl rfl (by kernel_rfl) (fun _ _ _ h => h) (Or.inl ⟨by rfl, ?_⟩) ?_ ?_
 rotate_left
 ·intro w'
  go_simp
  with_reducible rfl
 rotate_left
 ·simp only [Act.put, putA, putB, putC]
  rfl
 refine take_ (i := 5) (N := some 26) (v := ?_) (a' := ?_) #[true, true, true, true, true, true, false, false, false, false, false] rfl rfl (by kernel_rfl) (fun _ _ _ h => h) (Or.inl ⟨by rfl, ?_⟩) hHeld ?_ ?_
 rotate_left
 ·rintro w' ⟨s0, s1, s2⟩
  go_simp
  with_reducible rfl
 rotate_left
 ·simp only [Act.put, putA, putB, putC]
  rfl
 refine pure_ (i := 6) (N := some 27) (v := ?_) (a' := ?_) #[true, true, true, true, true, true, true, false, false, false, false] rfl rfl (by kernel_rfl) (fun _ _ _ h => h) (Or.inl ⟨by rfl, ?_⟩) ?_ ?_
 rotate_left
 ·intro w'
  go_simp
  with_reducible rfl
 rotate_left
 ·simp only [Act.put, putA, putB, putC]
  rfl
 refine take_ (i := 7) (N := some 28) (v := ?_) (a' := ?_) #[true, true, true, true, true, true, true, true, false, false, false] rfl rfl (by kernel_rfl) (fun _ _ _ h => h) (Or.inl ⟨by rfl, ?_⟩) hHeld ?_ ?_
 rotate_left
 ·rintro w' ⟨s0, s1, s2⟩
  go_simp
  with_reducible rfl
 rotate_left
 ·simp only [Act.put, putA, putB, putC]
  rfl
 refine pure_ (i := 8) (N := some 29) (v := ?_) (a' := ?_) #[true, true, true, true, true, true, true, true, true, false, false] rfl rfl (by kernel_rfl) (fun _ _ _ h => h) (Or.inl ⟨by rfl, ?_⟩) ?_ ?_
 rotate_left
 ·intro w'
  go_simp
  with_reducible rfl
 rotate_left
 ·simp only [Act.put, putA, putB, putC]
  rfl
 refine one_ (i := 9) (N := some 30) #[true, true, true, true, true, true, true, true, true, true, false] rfl rfl (by kernel_rfl) (by decide) (fun K hK => ?_)
 refine load_o H (by rfl) rfl rfl (cs := [.int .u32 s.cl, .int .u32 s.id, .string s.tp, .int .u64 s.fr, .int .u64 s.nx]) (by repeat (first | exact List.Mem.head _ | apply List.Mem.tail)) (by kernel_rfl) (by kernel_rfl) ?_
 refine hK.out _ _ hHeld (fun hHeld => ?_)
 clear hK K
 refine norm_ (a' := ?_) ?_ ?_
 rotate_left
 ·show Act.put _ (some 30) _ = _
  simp only [Act.put, putA, putB, putC]
  rfl
 refine one_ (i := 10) (N := none) #[true, true, true, true, true, true, true, true, true, true, true] rfl rfl (by kernel_rfl) (by decide) (fun K hK => ?_)
 refine update_o subMap H (by rfl) rfl (b := b) rfl (k := (s.cl, s.id)) HOK.out rfl (v := s) rfl HN.out (N := N) (by repeat (first | exact Put.head | apply Put.tail)) HU.out.1 HU.out.2.1 HU.out.2.2 ?_
 clear H
 intro w_ H
 have hS := Lib.hid (show (fun w' : World => w'.cell? ⟨tb, 0, none⟩ = some (.map (some b)) ∧ w'.cell? ⟨g3, 0, none⟩ = some (.int .u32 s.cl) ∧ w'.cell? ⟨g3, 1, none⟩ = some (.int .u32 s.id)) _ from ⟨((H.cell (by repeat (first | exact List.Mem.head _ | apply List.Mem.tail)) 0).trans rfl), ((H.cell (by repeat (first | exact List.Mem.head _ | apply List.Mem.tail)) 0).trans rfl), ((H.cell (by repeat (first | exact List.Mem.head _ | apply List.Mem.tail)) 1).trans rfl)⟩)
 refine hK.out _ _ hS.out (fun hHeld => ?_)
 clear hK K
 clear hS
 refine done_ (by kernel_rfl) ?_
 clear hHeld
 go_wp2_with fail
 exact HP.out _ _ ⟨rfl, H.want (Want.take (by repeat (first | exact Pull.head | apply Pull.tail)) (Want.take (by repeat (first | exact Pull.head | apply Pull.tail)) (Want.done (s := []) (by repeat (first | exact Suf.refl | apply Suf.cons)))))⟩
end Go.Proofs.Ytkgedjaihimafaa

/- The order of subscriptions: cmp.Compare, cmp.Or, the function that is handed to slices.SortFunc. -/
namespace Go.Proofs.Ytkgedjaihimafaa
set_option linter.unusedVariables false
set_option linter.unusedSimpArgs false
open Go.Shelf Go.RowKit Go.Lib Go.Proofs.YtkgedjaihimafaaW.PrintWords Go.Proofs.YtkgedjaihimafaaW.PrintLast Go.Proofs.YtkgedjaihimafaaW.PrintMore
def Grown (W w' : World) : Prop := ∃ q os', w' = Go.Sort.grow (W.drewN q) os'
theorem Grown.refl (W : World) : Grown W W := ⟨0, #[], by simp [Go.Sort.grow, World.drewN]⟩
theorem Grown.alloc {W w' : World} (h : Grown W w') (o : Obj) : Grown W (w'.alloc o) := by
 obtain ⟨q, os, rfl⟩ := h
 exact ⟨q, _, by rw [Go.Sort.alloc_eq_grow, Go.Sort.grow_grow]⟩
theorem Grown.drew {W w' : World} (h : Grown W w') : Grown W w'.drew := by
 obtain ⟨q, os, rfl⟩ := h
 exact ⟨q + 1, os, rfl⟩
end Go.Proofs.Ytkgedjaihimafaa

/- The function that slices.SortFunc is handed; the sort. (This text is printed by wip/gen/sub2.py.) -/
namespace Go.Proofs.Ytkgedjaihimafaa
set_option linter.unusedVariables false
set_option linter.unusedSimpArgs false
open Go.Shelf Go.RowKit Go.Lib Go.Maps Go.Proofs.YtkgedjaihimafaaW.PrintWords Go.Proofs.YtkgedjaihimafaaW.PrintLast Go.Proofs.YtkgedjaihimafaaW.PrintMore Go.Extern.Stop Go.Stop Go.Extern
end Go.Proofs.Ytkgedjaihimafaa

/- slices.SortFunc over a row of subscriptions that is held. -/
namespace Go.Proofs.Ytkgedjaihimafaa
set_option linter.unusedVariables false
set_option linter.unusedSimpArgs false
open Go.Shelf Go.RowKit Go.Lib Go.Sort Go.Proofs.YtkgedjaihimafaaW.PrintWords
shelf_lay_g SlLaysF0.n6 Slsf 6 at Try 27 as Try.lSort
end Go.Proofs.Ytkgedjaihimafaa

/- Which subscriptions are picked: some, Of, Client, walked. (This text is printed by wip/gen/sub3.py.) -/
namespace Go.Proofs.Ytkgedjaihimafaa
set_option linter.unusedVariables false
set_option linter.unusedSimpArgs false
open Go.RowKit Go.Lib Go.Maps Go.Proofs.YtkgedjaihimafaaW.PrintWords Go.Proofs.YtkgedjaihimafaaW.PrintLast Go.Proofs.YtkgedjaihimafaaW.PrintMore Go.Extern.Stop Go.Stop Go.Extern

theorem Hold.ne {w W : World} {t : List Nat} {l r1 r2 : List Own} (H : Hold w W t l) {g g' : Nat} {o : Obj} {y : Own} (h1 : Pull l (.obj g o) r1) (h2 : Pull r1 y r2) (hy : g' ∈ y.at_) : g ≠ g' := fun e => by
 have H2 := H.only2 h1 h2
 exact (List.pairwise_cons.1 H2.apart).1 _ (List.Mem.head _) g (List.mem_singleton.2 rfl) (by rw [e]; exact hy)
def SbsIn (w : World) (v : Value) (es : List Sb) : Prop := ∃ A c, v = .slice A es.length c ∧ ∀ (i : Nat) (e : Sb), es[i]? = some e → ∃ a, A = some a ∧ ∀ (j : Nat) (u : Value), e.cells[j]? = some u → w.cell? ((a.add (i * 5)).add j) = some u
theorem SbsIn.below {w W : World} {v : Value} {es : List Sb} (h : SbsIn w v es) (hb : Below w.heap.size w W) : SbsIn W v es := by
 obtain ⟨A, c, rfl, h⟩ := h
 refine ⟨A, c, rfl, fun i e he => ?_⟩
 obtain ⟨a, rfl, hc⟩ := h i e he
 exact ⟨a, rfl, fun j u hu => pw_cell_below hb (hc j u hu)⟩

set_option maxHeartbeats 2000000 in
set_option maxRecDepth 100000 in
theorem lenN_calls (w : World)  : Calls Try.prog 14 #[.pointer none] w fun e w' => e = .returned (.int .i64 0) ∧ Below w.heap.size w w' := by
 refine of_post0 fun R hRR => ?_
 have HP := Lib.hid hRR
 have H : Hold w w [] [] := Hold.nothing (Kept.refl _ _)
 clear hRR
 go_enter Try.func14, Try.ntmps14
 go_wp2_with fail
 exact HP.out _ _ ⟨rfl, H.all⟩
set_option maxHeartbeats 2000000 in
set_option maxRecDepth 100000 in
theorem getN_calls (w : World) (c i : Int) : Calls Try.prog 15 #[.pointer none, .int .u32 c, .int .u32 i] w fun e w' => e = .returned (.tuple #[.agg #[.int .u32 0, .int .u32 0, .string ⟨#[]⟩, .int .u64 0, .int .u64 0], .bool false]) ∧ Below w.heap.size w w' := by
 refine of_post0 fun R hRR => ?_
 have HP := Lib.hid hRR
 have H : Hold w w [] [] := Hold.nothing (Kept.refl _ _)
 clear hRR
 go_enter Try.func15, Try.ntmps15
 go_upto_region 1 with (first
  | ((with_reducible refine is_alloc (ty := 29) rfl ?_); refine alloc_h H rfl rfl (cs := [.int .u32 0, .int .u32 0, .string ⟨#[]⟩, .int .u64 0, .int .u64 0]) (by first | (go_simp; done) | (go_simp; rfl)) ?_; clear H; intro g6 w_ H))
 go_wp2_with (first
  | ((with_reducible refine is_alloc (ty := 29) rfl ?_); refine alloc_h H rfl rfl (cs := [.int .u32 0, .int .u32 0, .string ⟨#[]⟩, .int .u64 0, .int .u64 0]) (by first | (go_simp; done) | (go_simp; rfl)) ?_; clear H; intro g8 w_ H)
  | ((with_reducible refine is_load (ty := 29) rfl ?_); refine load_h H rfl rfl rfl (by repeat (first | exact List.Mem.head _ | apply List.Mem.tail)) (by kernel_rfl) (by kernel_rfl) ?_)
  | ((with_reducible refine is_load rfl ?_); refine loadf_h H rfl rfl rfl (by repeat (first | exact List.Mem.head _ | apply List.Mem.tail)) rfl (by kernel_rfl) ?_)
  | ((with_reducible refine is_store (ty := 29) rfl ?_); refine store_h H rfl rfl rfl rfl (u := .agg #[.int .u32 0, .int .u32 0, .string ⟨#[]⟩, .int .u64 0, .int .u64 0]) rfl (by repeat (first | exact Put.head | apply Put.tail)) (by kernel_rfl) (Nat.le_of_ble_eq_true rfl) rfl ?_; clear H; intro w_ H; simp only [setC, Value.cells, List.toList_toArray] at H))
 refine bodyPost_ret (results_list (rs := [.cell 6 29, .tmp 7]) rfl (by simp) (.cell g6 29 ([.int .u32 0, .int .u32 0, .string ⟨#[]⟩, .int .u64 0, .int .u64 0].toArray) (0, 0) _ rfl (H.blk (cs := [.int .u32 0, .int .u32 0, .string ⟨#[]⟩, .int .u64 0, .int .u64 0]) (by repeat (first | exact List.Mem.head _ | apply List.Mem.tail))) Try.underlying29 rfl (by kernel_rfl) (.tmp .nil))) rfl ?_
 exact HP.out _ _ ⟨rfl, H.all⟩
set_option maxHeartbeats 2000000 in
set_option maxRecDepth 100000 in
theorem addN_calls (w : World) (s : Sb) : Calls Try.prog 9 #[.pointer none, .agg s.cells.toArray] w fun e w' => e = .returned (.bool false) ∧ Below w.heap.size w w' := by
 refine of_post0 fun R hRR => ?_
 have HP := Lib.hid hRR
 have H : Hold w w [] [] := Hold.nothing (Kept.refl _ _)
 clear hRR
 go_enter Try.func9, Try.ntmps9
 go_wp2_with (first
  | ((with_reducible refine is_box rfl ?_); refine box_h H rfl rfl rfl rfl ?_; clear H; intro g3 w_ H)
  | ((with_reducible refine is_load rfl ?_); refine loadf_h H rfl rfl rfl (by repeat (first | exact List.Mem.head _ | apply List.Mem.tail)) rfl (by kernel_rfl) ?_)
  | (go_at_call 15; refine (getN_calls _ _ _).mono ?_; rintro e_ w_ ⟨rfl, h_⟩; replace H := H.below h_; clear h_)
  | ((with_reducible refine is_alloc (ty := 29) rfl ?_); refine alloc_h H rfl rfl (cs := [.int .u32 0, .int .u32 0, .string ⟨#[]⟩, .int .u64 0, .int .u64 0]) (by first | (go_simp; done) | (go_simp; rfl)) ?_; clear H; intro g5 w_ H)
  | ((with_reducible refine is_store (ty := 29) rfl ?_); refine store_h H rfl rfl rfl rfl (u := .agg #[.int .u32 0, .int .u32 0, .string ⟨#[]⟩, .int .u64 0, .int .u64 0]) rfl (by repeat (first | exact Put.head | apply Put.tail)) (by kernel_rfl) (Nat.le_of_ble_eq_true rfl) rfl ?_; clear H; intro w_ H; simp only [setC, Value.cells, List.toList_toArray] at H))
 exact HP.out _ _ ⟨rfl, H.all⟩
set_option maxHeartbeats 2000000 in
set_option maxRecDepth 100000 in
theorem remN_calls (w : World) (c i : Int) : Calls Try.prog 17 #[.pointer none, .int .u32 c, .int .u32 i] w fun e w' => e = .returned (.tuple #[.agg #[.int .u32 0, .int .u32 0, .string ⟨#[]⟩, .int .u64 0, .int .u64 0], .bool false]) ∧ Below w.heap.size w w' := by
 refine of_post0 fun R hRR => ?_
 have HP := Lib.hid hRR
 have H : Hold w w [] [] := Hold.nothing (Kept.refl _ _)
 clear hRR
 go_enter Try.func17, Try.ntmps17
 go_upto_region 1 with (first
  | ((with_reducible refine is_alloc (ty := 29) rfl ?_); refine alloc_h H rfl rfl (cs := [.int .u32 0, .int .u32 0, .string ⟨#[]⟩, .int .u64 0, .int .u64 0]) (by first | (go_simp; done) | (go_simp; rfl)) ?_; clear H; intro g6 w_ H))
 go_wp2_with (first
  | (go_at_call 15; refine (getN_calls _ _ _).mono ?_; rintro e_ w_ ⟨rfl, h_⟩; replace H := H.below h_; clear h_)
  | ((with_reducible refine is_alloc (ty := 29) rfl ?_); refine alloc_h H rfl rfl (cs := [.int .u32 0, .int .u32 0, .string ⟨#[]⟩, .int .u64 0, .int .u64 0]) (by first | (go_simp; done) | (go_simp; rfl)) ?_; clear H; intro g8 w_ H)
  | ((with_reducible refine is_load (ty := 29) rfl ?_); refine load_h H rfl rfl rfl (by repeat (first | exact List.Mem.head _ | apply List.Mem.tail)) (by kernel_rfl) (by kernel_rfl) ?_)
  | ((with_reducible refine is_load rfl ?_); refine loadf_h H rfl rfl rfl (by repeat (first | exact List.Mem.head _ | apply List.Mem.tail)) rfl (by kernel_rfl) ?_)
  | ((with_reducible refine is_store (ty := 29) rfl ?_); refine store_h H rfl rfl rfl rfl (u := .agg #[.int .u32 0, .int .u32 0, .string ⟨#[]⟩, .int .u64 0, .int .u64 0]) rfl (by repeat (first | exact Put.head | apply Put.tail)) (by kernel_rfl) (Nat.le_of_ble_eq_true rfl) rfl ?_; clear H; intro w_ H; simp only [setC, Value.cells, List.toList_toArray] at H))
 refine bodyPost_ret (results_list (rs := [.cell 6 29, .tmp 7]) rfl (by simp) (.cell g6 29 ([.int .u32 0, .int .u32 0, .string ⟨#[]⟩, .int .u64 0, .int .u64 0].toArray) (0, 0) _ rfl (H.blk (cs := [.int .u32 0, .int .u32 0, .string ⟨#[]⟩, .int .u64 0, .int .u64 0]) (by repeat (first | exact List.Mem.head _ | apply List.Mem.tail))) Try.underlying29 rfl (by kernel_rfl) (.tmp .nil))) rfl ?_
 exact HP.out _ _ ⟨rfl, H.all⟩
set_option maxHeartbeats 2000000 in
set_option maxRecDepth 100000 in
theorem stepN_calls (w : World) (c i : Int) : Calls Try.prog 21 #[.pointer none, .int .u32 c, .int .u32 i] w fun e w' => e = .returned (.bool false) ∧ Below w.heap.size w w' := by
 refine of_post0 fun R hRR => ?_
 have HP := Lib.hid hRR
 have H : Hold w w [] [] := Hold.nothing (Kept.refl _ _)
 clear hRR
 go_enter Try.func21, Try.ntmps21
 go_wp2_with (first
  | (go_at_call 15; refine (getN_calls _ _ _).mono ?_; rintro e_ w_ ⟨rfl, h_⟩; replace H := H.below h_; clear h_)
  | ((with_reducible refine is_alloc (ty := 29) rfl ?_); refine alloc_h H rfl rfl (cs := [.int .u32 0, .int .u32 0, .string ⟨#[]⟩, .int .u64 0, .int .u64 0]) (by first | (go_simp; done) | (go_simp; rfl)) ?_; clear H; intro g7 w_ H)
  | ((with_reducible refine is_load rfl ?_); refine loadf_h H rfl rfl rfl (by repeat (first | exact List.Mem.head _ | apply List.Mem.tail)) rfl (by kernel_rfl) ?_)
  | ((with_reducible refine is_store (ty := 29) rfl ?_); refine store_h H rfl rfl rfl rfl (u := .agg #[.int .u32 0, .int .u32 0, .string ⟨#[]⟩, .int .u64 0, .int .u64 0]) rfl (by repeat (first | exact Put.head | apply Put.tail)) (by kernel_rfl) (Nat.le_of_ble_eq_true rfl) rfl ?_; clear H; intro w_ H; simp only [setC, Value.cells, List.toList_toArray] at H))
 exact HP.out _ _ ⟨rfl, H.all⟩
set_option maxHeartbeats 2000000 in
set_option maxRecDepth 100000 in
theorem someN_calls (w : World) (fv : Value) : Calls Try.prog 24 #[.pointer none, fv] w fun e w' => e = .returned (nilS) ∧ Below w.heap.size w w' := by
 refine of_post0 fun R hRR => ?_
 have HP := Lib.hid hRR
 have H : Hold w w [] [] := Hold.nothing (Kept.refl _ _)
 clear hRR
 go_enter Try.func24, Try.ntmps24
 go_wp2_with fail
 exact HP.out _ _ ⟨rfl, H.all⟩
set_option maxHeartbeats 2000000 in
set_option maxRecDepth 100000 in
theorem ofN_calls (w : World) (tp : ByteArray) : Calls Try.prog 19 #[.pointer none, .string tp] w fun e w' => e = .returned (nilS) ∧ Below w.heap.size w w' := by
 refine of_post0 fun R hRR => ?_
 have HP := Lib.hid hRR
 have H : Hold w w [] [] := Hold.nothing (Kept.refl _ _)
 clear hRR
 go_enter Try.func19, Try.ntmps19
 go_wp2_with (first
  | ((with_reducible refine is_box rfl ?_); refine box_h H rfl rfl rfl rfl ?_; clear H; intro pb w_ H)
  | (go_at_call 24; refine (someN_calls _ _).mono ?_; rintro e_ w_ ⟨rfl, h_⟩; replace H := H.below h_; clear h_))
 exact HP.out _ _ ⟨rfl, H.all⟩
set_option maxHeartbeats 2000000 in
set_option maxRecDepth 100000 in
theorem cliN_calls (w : World) (c : Int) : Calls Try.prog 13 #[.pointer none, .int .u32 c] w fun e w' => e = .returned (nilS) ∧ Below w.heap.size w w' := by
 refine of_post0 fun R hRR => ?_
 have HP := Lib.hid hRR
 have H : Hold w w [] [] := Hold.nothing (Kept.refl _ _)
 clear hRR
 go_enter Try.func13, Try.ntmps13
 go_wp2_with (first
  | ((with_reducible refine is_box rfl ?_); refine box_h H rfl rfl rfl rfl ?_; clear H; intro pb w_ H)
  | (go_at_call 24; refine (someN_calls _ _).mono ?_; rintro e_ w_ ⟨rfl, h_⟩; replace H := H.below h_; clear h_))
 exact HP.out _ _ ⟨rfl, H.all⟩
set_option maxHeartbeats 2000000 in
set_option maxRecDepth 100000 in
theorem dropN_calls (w : World) (c : Int) : Calls Try.prog 10 #[.pointer none, .int .u32 c] w fun e w' => e = .returned nilS ∧ Below w.heap.size w w' := by
 refine of_post0 fun R hRR => ?_
 have HP := Lib.hid hRR
 have H : Hold w w [] [] := Hold.nothing (Kept.refl _ _)
 clear hRR
 go_enter Try.func10, Try.ntmps10
 go_wp2_with (first
  | (go_at_call 13; refine (cliN_calls _ _).mono ?_; rintro e_ w_ ⟨rfl, h_⟩; replace H := H.below h_; clear h_))
 refine wp_loop_rounds 1 ?_
 rw [rounds_succ]
 go_wp2_with fail
 exact HP.out _ _ ⟨rfl, H.all⟩
abbrev exS : Sb := ⟨1, 2, ⟨#[97]⟩, 0, 0⟩
theorem exFound : fnd (ins exS []) exS.cl exS.id = some exS := fnd_ins_self exS (fun t h => by cases h)
theorem exLen : (ins exS []).length = 1 := by simp [ins]
set_option maxHeartbeats 4000000 in
set_option maxRecDepth 100000 in
theorem fixed24_calls (w : World)  : Calls Try.prog 6 #[] w fun e w' => e = .returned (.bool true) ∧ Below w.heap.size w w' := by
 refine of_post0 fun R hRR => ?_
 have HP := Lib.hid hRR
 have H : Hold w w [] [] := Hold.nothing (Kept.refl _ _)
 clear hRR
 go_enter Try.func6, Try.ntmps6
 go_wp2_with (first
  | (go_at_call 7; refine (newT_calls _).mono ?_; rintro e_ w_ ⟨tb, b, rfl, h_⟩; replace H := Hold.push H h_; clear h_)
  | ((with_reducible refine is_alloc (ty := 29) rfl ?_); refine alloc_h H rfl rfl (cs := [.int .u32 0, .int .u32 0, .string ⟨#[]⟩, .int .u64 0, .int .u64 0]) (by first | (go_simp; done) | (go_simp; rfl)) ?_; clear H; intro gs w_ H)
  | ((with_reducible refine is_store (ty := 29) rfl ?_); refine store_h H rfl rfl rfl rfl (u := .agg #[.int .u32 1, .int .u32 2, .string ⟨#[97]⟩, .int .u64 0, .int .u64 0]) rfl (by repeat (first | exact Put.head | apply Put.tail)) (by kernel_rfl) (Nat.le_of_ble_eq_true rfl) rfl ?_; clear H; intro w_ H; simp only [setC, Value.cells, List.toList_toArray] at H)
  | ((with_reducible refine is_load (ty := 29) rfl ?_); refine load_h H rfl rfl rfl (by repeat (first | exact List.Mem.head _ | apply List.Mem.tail)) (by kernel_rfl) (by kernel_rfl) ?_)
  | ((with_reducible refine is_load (ty := 29) rfl ?_); refine load_g H rfl rfl (by repeat (first | exact List.Mem.head _ | apply List.Mem.tail)) (by kernel_rfl) (by kernel_rfl) (by rfl) ?_)
  | (go_at_call 9; have hg_ : Hold _ _ _ (_ :: ([tbO tb b, tbM b 0 []] ++ [])) := H; clear hg_; refine (addT_new _ tb b 0 [] (H.isT (by repeat (first | exact Pull.head | apply Pull.tail)) (by repeat (first | exact Pull.head | apply Pull.tail))) exS (by constructor <;> constructor <;> decide) rfl (by unfold maxLen; omega)).mono ?_; rintro e_ w_ ⟨rfl, h_⟩; replace H := Hold.call (H.pull2 (by repeat (first | exact Pull.head | apply Pull.tail)) (by repeat (first | exact Pull.head | apply Pull.tail))) h_; clear h_)
  | (go_at_call 9; refine (addT_old _ tb b (0 + 1) (ins exS []) (H.isT (by repeat (first | exact Pull.head | apply Pull.tail)) (by repeat (first | exact Pull.head | apply Pull.tail))) exS exS (by constructor <;> constructor <;> decide) exFound).mono ?_; rintro e_ w_ ⟨rfl, h_⟩; replace H := Hold.call (H.pull2 (by repeat (first | exact Pull.head | apply Pull.tail)) (by repeat (first | exact Pull.head | apply Pull.tail))) h_; clear h_)
  | (go_at_call 14; refine (lenT_calls _ tb b (0 + 1) (ins exS []) (H.isT (by repeat (first | exact Pull.head | apply Pull.tail)) (by repeat (first | exact Pull.head | apply Pull.tail)))).mono ?_; rintro e_ w_ ⟨rfl, h_⟩; rw [show (ins exS []).length = 1 from exLen]; replace H := Hold.call (H.pull2 (by repeat (first | exact Pull.head | apply Pull.tail)) (by repeat (first | exact Pull.head | apply Pull.tail))) h_; clear h_))
 exact HP.out _ _ ⟨rfl, H.all⟩
set_option maxHeartbeats 4000000 in
set_option maxRecDepth 100000 in
theorem subsNil_walk (w : World) (s : Sb) : Calls Try.prog 5 #[.agg s.cells.toArray] w fun e w' => e = .returned (.bool true) ∧ Below w.heap.size w w' := by
 refine of_post0 fun R hRR => ?_
 have HP := Lib.hid hRR
 have H : Hold w w [] [] := Hold.nothing (Kept.refl _ _)
 clear hRR
 go_enter Try.func5, Try.ntmps5
 go_wp2_with (first
  | ((with_reducible refine is_box rfl ?_); refine box_h H rfl rfl rfl rfl ?_; clear H; intro g1 w_ H)
  | ((with_reducible refine is_load (ty := 29) rfl ?_); refine load_g H rfl rfl (by repeat (first | exact List.Mem.head _ | apply List.Mem.tail)) (by kernel_rfl) (by kernel_rfl) (by rfl) ?_)
  | ((with_reducible refine is_load (ty := 29) rfl ?_); refine load_h H rfl rfl rfl (by repeat (first | exact List.Mem.head _ | apply List.Mem.tail)) (by kernel_rfl) (by kernel_rfl) ?_)
  | ((with_reducible refine is_load rfl ?_); refine loadf_g H rfl rfl (by repeat (first | exact List.Mem.head _ | apply List.Mem.tail)) rfl (by kernel_rfl) (by rfl) ?_)
  | ((with_reducible refine is_load rfl ?_); refine loadf_h H rfl rfl rfl (by repeat (first | exact List.Mem.head _ | apply List.Mem.tail)) rfl (by kernel_rfl) ?_)
  | (go_at_call 15; refine (getN_calls _ _ _).mono ?_; rintro e_ w_ ⟨rfl, h_⟩; replace H := H.below h_; clear h_)
  | (go_at_call 17; refine (remN_calls _ _ _).mono ?_; rintro e_ w_ ⟨rfl, h_⟩; replace H := H.below h_; clear h_)
  | ((with_reducible refine is_alloc (ty := 29) rfl ?_); refine alloc_h H rfl rfl (cs := [.int .u32 0, .int .u32 0, .string ⟨#[]⟩, .int .u64 0, .int .u64 0]) (by first | (go_simp; done) | (go_simp; rfl)) ?_; clear H; intro gx w_ H)
  | ((with_reducible refine is_store (ty := 29) rfl ?_); refine store_h H rfl rfl rfl rfl (u := .agg #[.int .u32 0, .int .u32 0, .string ⟨#[]⟩, .int .u64 0, .int .u64 0]) rfl (by repeat (first | exact Put.head | apply Put.tail)) (by kernel_rfl) (Nat.le_of_ble_eq_true rfl) rfl ?_; clear H; intro w_ H; simp only [setC, Value.cells, List.toList_toArray] at H)
  | (go_at_call 6; refine (fixed24_calls _).mono ?_; rintro e_ w_ ⟨rfl, h_⟩; replace H := H.below h_; clear h_)
  | (go_at_call 9; refine (addN_calls _ s).mono ?_; rintro e_ w_ ⟨rfl, h_⟩; replace H := H.below h_; clear h_)
  | (go_at_call 19; refine (ofN_calls _ _).mono ?_; rintro e_ w_ ⟨rfl, h_⟩; replace H := H.below h_; clear h_)
  | (go_at_call 13; refine (cliN_calls _ _).mono ?_; rintro e_ w_ ⟨rfl, h_⟩; replace H := H.below h_; clear h_)
  | (go_at_call 10; refine (dropN_calls _ _).mono ?_; rintro e_ w_ ⟨rfl, h_⟩; replace H := H.below h_; clear h_)
  | (go_at_call 21; refine (stepN_calls _ _ _).mono ?_; rintro e_ w_ ⟨rfl, h_⟩; replace H := H.below h_; clear h_)
  | (go_at_call 14; refine (lenN_calls _).mono ?_; rintro e_ w_ ⟨rfl, h_⟩; replace H := H.below h_; clear h_))
 exact HP.out _ _ ⟨rfl, H.all⟩
end Go.Proofs.Ytkgedjaihimafaa

/- Subscriptions that came in, opened. -/
namespace Go.Proofs.Ytkgedjaihimafaa
set_option linter.unusedVariables false
set_option linter.unusedSimpArgs false
open Go.RowKit Go.ChangeShapes Go.WideShapes Go.Deep Go.Joins Go.Proofs.YtkgedjaihimafaaW.PrintWords
theorem list5 {α : Type} {l : List α} (h : l.length = 5) : ∃ c0 c1 c2 c3 c4, l = [c0, c1, c2, c3, c4] := by
 match l, h with
 | [c0, c1, c2, c3, c4], _ => exact ⟨c0, c1, c2, c3, c4, rfl⟩
set_option maxRecDepth 100000 in
theorem open_sub {H : Type} {enc : TypeId × Value → H} {W : World} {fuel : Nat} {cs : List Value} {x : DataW H × List MemPlace} (h : DataW.trod enc Try.prog W 0 (fun _ => true) true fuel 29 cs = some x) :
  ∃ s : Sb, cs = s.cells ∧ okKey (s.cl, s.id) ∧ s.tp.size ≤ maxLen := by
 obtain ⟨xs, m, _, rfl, hl, hlen, hf⟩ := DataW.trod_struct Try.underlying29 h
 have hC : Try.prog.cellsOf 29 = 5 := by kernel_rfl
 rw [hC] at hl
 have e2 : Try.prog.cellsOf 23 = 1 := by kernel_rfl
 have e3 : Try.prog.cellsOf 9 = 1 := by kernel_rfl
 have e4 : Try.prog.cellsOf 27 = 1 := by kernel_rfl
 obtain ⟨c0, c1, c2, c3, c4, rfl⟩ := list5 hl
 obtain ⟨y0, y1, y2, y3, y4, rfl⟩ := list5 (show xs.length = 5 from hlen)
 have h0 := hf 0 _ rfl
 have h1 := hf 1 _ rfl
 have h2 := hf 2 _ rfl
 have h3 := hf 3 _ rfl
 have h4 := hf 4 _ rfl
 clear hf h hl
 simp [e2, e3, e4] at h0 h1 h2 h3 h4
 obtain ⟨n0, k0, _, w0⟩ := DataW.trod_int Try.underlying23 h0
 obtain ⟨n1, k1, _, w1⟩ := DataW.trod_int Try.underlying23 h1
 obtain ⟨s2, k2, _, w2⟩ := DataW.trod_string Try.underlying9 h2
 obtain ⟨n3, k3, _, w3⟩ := DataW.trod_int Try.underlying27 h3
 obtain ⟨n4, k4, _, w4⟩ := DataW.trod_int Try.underlying27 h4
 simp at k0 k1 k2 k3 k4
 subst k0 k1 k2 k3 k4
 exact ⟨⟨n0, n1, s2, n3, n4⟩, rfl, ⟨u32_wf.1 w0, u32_wf.1 w1⟩, w2⟩
theorem agg_of {cs : Array Value} {l : List Value} (h : cs.toList = l) : cs = l.toArray := by subst h; simp
theorem open_sub_arg {H : Type} {enc : TypeId × Value → H} {W : World} {b0 : Nat} {v : Value} {d : DataW H} {p : List MemPlace} (hv : Value.okWide Try.prog W .any b0 29 v)
  (h : DataW.Trod enc Try.prog W 0 (fun _ => true) true 29 v d p) : ∃ s : Sb, v = .agg s.cells.toArray ∧ okKey (s.cl, s.id) ∧ s.tp.size ≤ maxLen := by
 obtain ⟨cs, rfl, -⟩ := Go.WideShapes.okWide_struct Try.underlying29 hv
 obtain ⟨fuel, hf⟩ := h
 obtain ⟨s, hc, h2, h3⟩ := open_sub hf
 exact ⟨s, congrArg Value.agg (agg_of hc), h2, h3⟩
end Go.Proofs.Ytkgedjaihimafaa

/- The statement of louver/louverlaw24.SubsNil: for every input it returns true, and each argument reads behind the call as it read before; no other condition than the row's own. -/
namespace Go.Proofs.Ytkgedjaihimafaa.subsNil
set_option linter.unusedVariables false
set_option linter.unusedSimpArgs false
open Go.ChangeShapes Go.WideShapes Go.ChangeAt Go.RowKit
open Go.ChangeMaps (open_string shut_string)
set_option linter.unusedVariables false
theorem own : ownKnob Try.prog.godebug = none := by kernel_rfl
theorem laidOut : laidOutB Try.prog = true := by kernel_rfl
set_option maxRecDepth 100000 in
theorem contract (H : Type) (enc : TypeId × Value → H) (W : World) (base : Nat) (args : Array Value) (ds gs : List (DataW H)) (before : List MemPlace)
  (hval : ∀ (j : Nat) t v, Try.f5.params[j]? = some t → args[j]? = some v → Value.okWide Try.prog W .any base t v)
  (hW : DataW.Whole enc Try.prog Try.f5.params.toList Rows.subsNilSpec.vars false W args.toList ds gs before)
  (hsz : (DataW.weightsEach Try.prog (Try.f5.params.toList ++ Rows.subsNilSpec.plain.varTypes Try.prog) (ds ++ gs)).all (· ≤ reachBytes) = true)
  (hL : laidMetH Try.prog Rows.subsNilRow.laid W) (hS : W.ShapedOpen Try.prog) :
  Calls Try.prog 5 args W fun e W' => ∃ v, e = .returned v ∧ Rows.subsNilSpec.post enc Try.prog Try.f5 false true false false W args v W' := by
 have hW' := hW
 obtain ⟨p, q, hA0, hV, rfl, hfz, hnd⟩ := hW
 have hA : DataW.TrodAll enc Try.prog W 0 (fun _ => true) true Try.f5.params.toList args.toList ds p := hA0
 rw [Try.params5] at hA hval hsz
 obtain ⟨v0, vs0, d0, ds0, p0, q0, hargs, rfl, rfl, h0, r0⟩ := trodAll_cons hA
 obtain ⟨rfl, rfl, rfl⟩ := trodAll_nil r0
 obtain rfl : args = #[v0] := by cases args; simp_all
 obtain ⟨rfl, rfl⟩ := trodVars_none hV
 have k0 := h0
 have ok0 := (hval 0 29 v0 rfl rfl)
 have lt0 : ∀ x ∈ p0, x.block < W.heap.size := by obtain ⟨m, hm⟩ := k0; exact DataW.trod_lt m _ _ _ hm
 obtain ⟨s0, rfl, hk0, hl0⟩ := open_sub_arg ok0 h0
 clear hA0 hval
 refine (subsNil_walk W s0).mono fun e W' ⟨he, bel⟩ => ?_
 subst he
 exact ⟨_, rfl, _, _, _, [], _, [], hW', trodAll_mk1 (shut_bool Try.underlying4 _), (trodAll_cons_mk (Below.trod laidOut (by kernel_rfl) (of_decide_eq_true (by kernel_rfl)) k0 bel lt0) trodAll_mk0), rfl, bel.frame _, fun h => by cases h⟩
noncomputable def laidWorld (os : Os) : World := World.holding Try.prog os ⟨#[], #[], []⟩
theorem laid_met (os : Os) (args : Array Value) : laidMetH Try.prog Rows.subsNilRow.laid ((laidWorld os).forCall (fun _ _ => 0) ⟨#[], args, []⟩).memory := laidMetH_nil _ _
set_option maxRecDepth 100000 in
theorem lifted (os : Os) (started : os.Started) (H : Type) (enc : TypeId × Value → H) (F : Stop.Interp) :
  ReturnsInHanded {} Try.checked os 5 .any ((OpenSpec.ofChange Rows.subsNilSpec).preRow enc Try.prog Try.f5 Rows.subsNilRow.domain false Rows.subsNilRow.laid) (((OpenSpec.ofChange Rows.subsNilSpec).at F).post enc Try.prog Try.f5 false true false false) := by
 refine returnsInHanded_of_row (C := Try.checked) (s := (OpenSpec.ofChange Rows.subsNilSpec)) own started (by kernel_rfl) Try.func5
  (witness_row_at (enc := enc) (C := Try.checked) false (laidWorld os) #[.agg #[.int .u32 0, .int .u32 0, .string ByteArray.empty, .int .u64 0, .int .u64 0]] rfl (by kernel_rfl) (by kernel_rfl) (by kernel_rfl)
   (OpenSpec.preRow_of_cond 8 (x := ([.agg [.lit (.int .u32 0), .lit (.int .u32 0), .lit (.string []), .lit (.int .u64 0), .lit (.int .u64 0)]], [], [])) (by kernel_rfl) (by kernel_rfl) (fun k hk => by cases hk) (by kernel_rfl) (laid_met os _))) ?_
 intro W base args ds gs before hval hW _ hcond hsz hL hS _
 exact contract H enc W base args ds gs before hval hW hsz hL hS
theorem said : Rows.SubsNilSaid :=
 OpenClaim.holds_of_cond 5 Try.f5 rfl rfl rfl rfl rfl rfl rfl ⟨rfl, rfl, rfl, rfl, rfl⟩ rfl rfl rfl rfl rfl (by kernel_rfl) Try.func5 (by kernel_rfl)
  (of_decide_eq_true (by kernel_rfl)) (by unfold Func.isWrapper; first | (rw [if_pos (by decide +kernel)]; kernel_rfl) | (rw [if_neg (by decide +kernel)]; exact ⟨rfl, rfl⟩))
  (fun os started H enc _ F => by rw [OpenClaim.pre_eq_preRow]; exact lifted os started H enc F)
#print axioms said
end Go.Proofs.Ytkgedjaihimafaa.subsNil
