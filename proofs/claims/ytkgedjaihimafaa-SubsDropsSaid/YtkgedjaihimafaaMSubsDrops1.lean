/- Texts of this claim, put together: Mem, Mem2, Ev, Ev2, Hold, Hold2, Hold3, Hold4, Hold5, MapH, SubL, SubM, SubL2, SubW, SubC, SubS, SubS2, SubP. -/
import Derived.Test.YtkgedjaihimafaaMSubsDropsW1
import Derived.Deep.MidRow
import Derived.Lib.ConvBytes
import Derived.Laws.AppendOwn
import Derived.Laws.CopyOwn
import Derived.Maps.AppendAt
import Derived.Maps.OwnSet
import Derived.Maps.RangeWalk
import Derived.Maps.Views
import Derived.Maps.Own
import Derived.Test.YtkgedjaihimafaaChecked
import Derived.DeepKeys4
import Derived.MapViews
import Derived.Lib.Hide
import Derived.Deep.DeepCutAuto
import Derived.Deep.LoopGhost
import Derived.Shelf.SlSortCmp.WholeK
import Derived.Shelf.Lay
import Derived.Shelf.SlGeneric
import Derived.Ground.SlsfProg
import Derived.Shelf.SlSortCmp.NoneTotal
import Derived.Test.YtkgedjaihimafaaMSubsDrops0
/- Small laws on memory: append of a row that is read, as a run and as a step of a region that draws its order; blocks kept. No program. -/
namespace Go.Proofs.Ytkgedjaihimafaa
set_option linter.unusedVariables false
set_option linter.unusedSimpArgs false
open Go.RowKit Go.Proofs.YtkgedjaihimafaaW.PrintWords
theorem add_block (a : Addr) (j : Nat) : (a.add j).block = a.block := by unfold Addr.add; split <;> rfl
theorem blk_at {w : World} {n : Nat} (o : Obj) (hn : n = w.heap.size) : (w.alloc o).heap[n]? = some o := by subst hn; exact blk_new w o
theorem blk_new1 (w : World) (o1 o2 : Obj) : ((w.alloc o1).alloc o2).heap[w.heap.size + 1]? = some o2 := blk_at o2 (by simp)

structure Only (g : Nat) (W w1 : World) : Prop where
 os : w1.os = W.os
 tape : w1.tape = W.tape
 output : w1.output = W.output
 size : w1.heap.size = W.heap.size
 block : ∀ k, k ≠ g → w1.heap[k]? = W.heap[k]?
theorem Only.below {g base : Nat} {w0 W w1 : World} (h : Only g W w1) (hb : Below base w0 W) (hg : base ≤ g) : Below base w0 w1 :=
 ⟨h.os.trans hb.os, h.tape.trans hb.tape, h.output.trans hb.output, by rw [h.size]; exact hb.size, fun k hk => (h.block k (by omega)).trans (hb.block k hk)⟩
theorem Only.blk {g k : Nat} {W w1 : World} {o : Obj} (h : Only g W w1) (hk : W.heap[k]? = some o) (hne : k ≠ g) : w1.heap[k]? = some o := (h.block k hne).trans hk
theorem Only.reads {g : Nat} {W w1 : World} {k : IntKind} {A : Option Addr} {n : Nat} {xs : List Int} (h : Only g W w1) (hR : ReadsInt W k A n xs) (hne : ∀ a, A = some a → a.block ≠ g) : ReadsInt w1 k A n xs := by
 refine ⟨hR.1, hR.2.1, fun hn => ?_⟩
 obtain ⟨ad, e, hc⟩ := hR.2.2 hn
 refine ⟨ad, e, fun j hj => ?_⟩
 rw [← hc j hj]
 have := h.block (ad.add j).block (by rw [add_block]; exact hne ad e)
 simp [World.cell?, this]
section
variable {P : Program} {ops : Array Oper} {rest : List Oper} {o : Oper} {a : Act} {Q : Exit → Act → World → Prop}
theorem load_ev {W : World} (hgd : o.guard = none) {t : TypeId} {x : Operand} (ho : o.op = .load t x) {g : Nat} {cs : Array Value} {ty : TypeId} {d : TypeDesc}
  (hx : a.eval x = .pointer (some ⟨g, 0, none⟩)) (hb : W.heap[g]? = some (.cells cs ty (0, 0))) (hu : P.underlying t = some d) (hd : d.isRow = true) (hi : (P.info? t).map (·.size) = some cs.size)
  (h : wpList P ops Q rest (a.put o.dst (.agg cs)) W) : wpList P ops Q (o :: rest) a W := by
 refine wpList_load_mid hgd t x ho g 0 hx cs.toList d (fun j v hv => ?_) hu hd (by simpa using hi) (by simpa using h)
 rw [Nat.zero_add, blk_cell hb]
 simpa using hv
theorem store_ev {W : World} (hgd : o.guard = none) (hN : o.dst = none) {t : TypeId} {p x : Operand} (ho : o.op = .store t p x) {g k : Nat} {cs cs' : Array Value} {ty : TypeId} {u : Value}
  (hp : a.eval p = .pointer (some ⟨g, k, none⟩)) (hx : a.eval x = u) (hb : W.heap[g]? = some (.cells cs ty (0, 0))) (ht : (P.info? t).map (·.size) = some u.cells.toList.length)
  (hk : k + u.cells.toList.length ≤ cs.size) (h1 : u.cells.toList.all (·.oneCell') = true) (e : cs.toList.take k ++ u.cells.toList ++ cs.toList.drop (k + u.cells.toList.length) = cs'.toList)
  (h : ∀ w1, w1.heap[g]? = some (.cells cs' ty (0, 0)) → Only g W w1 → wpList P ops Q rest a w1) : wpList P ops Q (o :: rest) a W := by
 refine wpList_plain hgd fun K hK => ?_
 have hrun := run_store_run (P := P) t u u.cells.toList hb rfl ht hk (List.all_eq_true.1 h1)
 unfold Oper.wp execOp
 simp only [ho, hp, hx, Sem.run_bind, Sem.run_pure, Result.andThen_ok, hrun]
 show K (a.put o.dst undef) _
 rw [hN]
 obtain ⟨s1, s2, s3, s4⟩ := setCells_same g u.cells.toList k W
 refine hK _ _ (h _ ?_ ⟨s1, s2, s3, s4, fun i hi => setCells_far _ _ i hi⟩)
 obtain ⟨cur, q1, _, q3⟩ := setCells_row u.cells.toList k W cs hb hk
 rw [q1, Array.toList_inj.1 (q3.trans e)]
theorem make_ev {W : World} (hgd : o.guard = none) {cs : Array Value} {t : TypeId}
  (hrun : (execOp a.eval o).run P W = .ok (.value (.pointer (some ⟨W.heap.size, 0, none⟩))) (W.alloc (.cells cs t (0, 0))))
  (h : ∀ g, g = W.heap.size → ∀ w1, w1.heap[g]? = some (.cells cs t (0, 0)) → w1.heap.size = W.heap.size + 1 → Below W.heap.size W w1 → wpList P ops Q rest (a.put o.dst (.pointer (some ⟨g, 0, none⟩))) w1) : wpList P ops Q (o :: rest) a W := by
 refine wpList_plain hgd fun K hK => ?_
 unfold Oper.wp
 rw [hrun]
 exact hK _ _ (h _ rfl _ (blk_new W _) (by simp) (below_alloc (Below.refl _ _) _))
theorem loadf_ev {W : World} (hgd : o.guard = none) {t : TypeId} {x : Operand} (ho : o.op = .load t x) {g k : Nat} {cs : Array Value} {ty : TypeId} {d : TypeDesc} {v : Value}
  (hx : a.eval x = .pointer (some ⟨g, k, none⟩)) (hb : W.heap[g]? = some (.cells cs ty (0, 0))) (hv : cs[k]? = some v) (hu : P.underlying t = some d) (hd : d.isRow = false)
  (h : wpList P ops Q rest (a.put o.dst v) W) : wpList P ops Q (o :: rest) a W := by
 refine wpList_plain hgd fun K hK => ?_
 have hc : W.cell? ⟨g, k, none⟩ = some v := (blk_cell hb k).trans hv
 have hagg : (isAgg t).run P W = .ok false W := by
  unfold isAgg
  rw [Sem.run_bind, run_underlying hu W]
  cases d <;> simp_all
 unfold Oper.wp execOp
 simp [ho, hx, Instr.loadAt, Instr.sureAddr, loadVar, Sem.run_bind, hagg, hc]
 exact hK _ _ h
end

inductive Own where
 | obj (g : Nat) (o : Obj)
 | row (e : TypeId) (size : Nat) (v : Value) (n : Nat) (xs : List Value)
 | rd (k : IntKind) (A : Option Addr) (n : Nat) (xs : List Int)
 | thing (bs : List Nat) (p : World → Prop) (st : ∀ W W1 : World, p W → (∀ k ∈ bs, W1.heap[k]? = W.heap[k]?) → p W1) (lt : ∀ (W : World) (k : Nat), p W → k ∈ bs → k < W.heap.size)
abbrev cl (g : Nat) (cs : List Value) (ty : TypeId) : Own := .obj g (.cells cs.toArray ty (0, 0))
abbrev nrow (e : TypeId) (v : Value) (k : IntKind) (xs : List Int) : Own := .row e 1 v xs.length (nums k xs)
def Own.at_ : Own → List Nat
 | .obj g _ => [g]
 | .row _ _ v _ _ => v.ownBlock.toList
 | .rd _ A n _ => if n = 0 then [] else (A.map (·.block)).toList
 | .thing bs _ _ _ => bs
def Own.ok (W : World) : Own → Prop
 | .obj g o => W.heap[g]? = some o
 | .row e size v n xs => W.ownsRow 0 e size v n xs
 | .rd k A n xs => ReadsInt W k A n xs
 | .thing _ p _ _ => p W
def ats (l : List Own) : List Nat := l.flatMap Own.at_
structure Kept (W W1 : World) (ts : List Nat) : Prop where
 os : W1.os = W.os
 tape : W1.tape = W.tape
 output : W1.output = W.output
 size : W.heap.size ≤ W1.heap.size
 block : ∀ k, k < W.heap.size → k ∉ ts → W1.heap[k]? = W.heap[k]?
structure Hold (w W : World) (t : List Nat) (l : List Own) : Prop where
 kept : Kept w W t
 ok : ∀ o ∈ l, o.ok W
 apart : l.Pairwise fun a b => ∀ k ∈ a.at_, k ∉ b.at_
 mine : ∀ o ∈ l, ∀ k ∈ o.at_, w.heap.size ≤ k ∨ k ∈ t
theorem Kept.refl (W : World) (ts : List Nat) : Kept W W ts := ⟨rfl, rfl, rfl, Nat.le_refl _, fun _ _ _ => rfl⟩
theorem Kept.below {W W1 : World} (h : Kept W W1 []) : Below W.heap.size W W1 := ⟨h.os, h.tape, h.output, h.size, fun k hk => h.block k hk (by simp)⟩
theorem Kept.of_below {W W1 : World} (h : Below W.heap.size W W1) : Kept W W1 [] := ⟨h.os, h.tape, h.output, h.size, fun k hk _ => h.block k hk⟩
theorem Own.ok.lt {W : World} {o : Own} (h : o.ok W) {k : Nat} (hk : k ∈ o.at_) : k < W.heap.size := by
 cases o with
 | obj g o => obtain rfl := List.mem_singleton.1 hk; exact (Array.getElem?_eq_some_iff.1 h).1
 | row e size v n xs => exact own_lt h k (Option.mem_toList.1 hk)
 | rd kk A n xs =>
  have hk' : k ∈ (if n = 0 then [] else (A.map (·.block)).toList) := hk
  split at hk'
  ·cases hk'
  ·obtain ⟨ad, rfl, hc⟩ := h.2.2 (by omega)
   simp only [Option.map_some, Option.mem_toList, Option.mem_def, Option.some.injEq] at hk'
   have := World.block_lt_of_cell? W _ (hc 0 (by omega))
   rw [add_block] at this
   omega
 | thing b p st lt => exact lt W k h hk
theorem Own.ok.kept {W W1 : World} {o : Own} (h : o.ok W) (hb : ∀ k ∈ o.at_, W1.heap[k]? = W.heap[k]?) : o.ok W1 := by
 cases o with
 | obj g o => exact (hb g (List.mem_singleton.2 rfl)).trans h
 | row e size v n xs =>
  refine ⟨h.1, ?_⟩
  rcases h.2 with h2 | ⟨g, cap, cur, rfl, h3, h4, h5⟩
  ·exact .inl h2
  ·exact .inr ⟨g, cap, cur, rfl, h3, (hb g (Option.mem_toList.2 rfl)).trans h4, h5⟩
 | rd kk A n xs =>
  refine ⟨h.1, h.2.1, fun hn => ?_⟩
  obtain ⟨ad, rfl, hc⟩ := h.2.2 hn
  refine ⟨ad, rfl, fun j hj => ?_⟩
  rw [← hc j hj]
  refine World.cell?_of_block ?_
  rw [add_block]
  refine hb _ ?_
  show ad.block ∈ (if n = 0 then [] else ((some ad).map (·.block)).toList)
  rw [if_neg (by omega)]
  exact Option.mem_toList.2 rfl
 | thing b p st lt => exact st W W1 h hb
theorem Hold.start {W : World} {l : List Own} (ok : ∀ o ∈ l, o.ok W) (ap : l.Pairwise fun a b => ∀ k ∈ a.at_, k ∉ b.at_) : Hold W W (ats l) l :=
 ⟨Kept.refl _ _, ok, ap, fun o ho k hk => .inr (List.mem_flatMap.2 ⟨o, ho, hk⟩)⟩
theorem no_own {p : Own → Prop} : ∀ o ∈ ([] : List Own), p o := fun _ h => by cases h
theorem Hold.nothing {W W1 : World} (h : Kept W W1 []) : Hold W W1 [] [] := ⟨h, no_own, List.Pairwise.nil, no_own⟩
theorem Hold.call {w W W1 : World} {t : List Nat} {l0 l1 r : List Own} (H : Hold w W t (l0 ++ r)) (C : Hold W W1 (ats l0) l1) : Hold w W1 t (l1 ++ r) := by
 have hr : ∀ o ∈ r, ∀ k ∈ o.at_, k ∉ ats l0 ∧ k < W.heap.size := fun o ho k hk => by
  refine ⟨fun hm => ?_, (H.ok o (List.mem_append_right _ ho)).lt hk⟩
  obtain ⟨o0, h0, hk0⟩ := List.mem_flatMap.1 hm
  exact (List.pairwise_append.1 H.apart).2.2 o0 h0 o ho k hk0 hk
 refine ⟨⟨C.kept.os.trans H.kept.os, C.kept.tape.trans H.kept.tape, C.kept.output.trans H.kept.output, Nat.le_trans H.kept.size C.kept.size, fun k hk hn => ?_⟩, fun o ho => ?_, List.pairwise_append.2 ⟨C.apart, (List.pairwise_append.1 H.apart).2.1, fun a ha b hb k hka hkb => ?_⟩, fun o ho k hk => ?_⟩
 ·refine (C.kept.block k (Nat.lt_of_lt_of_le hk H.kept.size) fun hm => ?_).trans (H.kept.block k hk hn)
  obtain ⟨o0, h0, hk0⟩ := List.mem_flatMap.1 hm
  rcases H.mine o0 (List.mem_append_left _ h0) k hk0 with h | h
  ·omega
  ·exact hn h
 ·rcases List.mem_append.1 ho with h | h
  ·exact C.ok o h
  ·exact (H.ok o (List.mem_append_right _ h)).kept fun k hk => C.kept.block k (hr o h k hk).2 (hr o h k hk).1
 ·have := hr b hb k hkb
  rcases C.mine a ha k hka with h | h
  ·omega
  ·exact this.1 h
 ·rcases List.mem_append.1 ho with h | h
  ·rcases C.mine o h k hk with h' | h'
   ·exact .inl (Nat.le_trans H.kept.size h')
   ·obtain ⟨o0, h0, hk0⟩ := List.mem_flatMap.1 h'
    exact H.mine o0 (List.mem_append_left _ h0) k hk0
  ·exact H.mine o (List.mem_append_right _ h) k hk
theorem Hold.below {w W W1 : World} {t : List Nat} {l : List Own} (H : Hold w W t l) (h : Below W.heap.size W W1) : Hold w W1 t l :=
 Hold.call (l0 := []) (l1 := []) H (Hold.nothing (Kept.of_below h))
theorem Hold.perm {w W : World} {t : List Nat} {l l' : List Own} (H : Hold w W t l) (h : l.Perm l') : Hold w W t l' :=
 ⟨H.kept, fun o ho => H.ok o (h.mem_iff.2 ho), (h.pairwise_iff (R := fun a b : Own => ∀ k ∈ a.at_, k ∉ b.at_) fun hab k hb ha => hab k ha hb).1 H.apart, fun o ho => H.mine o (h.mem_iff.2 ho)⟩
theorem Hold.sub {w W : World} {t : List Nat} {l l' : List Own} (H : Hold w W t l) (h : l'.Sublist l) : Hold w W t l' :=
 ⟨H.kept, fun o ho => H.ok o (h.subset ho), H.apart.sublist h, fun o ho => H.mine o (h.subset ho)⟩
inductive Put : List Own → Own → Own → List Own → Prop
 | head {x y : Own} {r : List Own} : Put (x :: r) x y (y :: r)
 | tail {x y z : Own} {r r' : List Own} (h : Put r x y r') : Put (z :: r) x y (z :: r')
theorem Put.perm {l l' : List Own} {x y : Own} (h : Put l x y l') : ∃ r, l.Perm (x :: r) ∧ l'.Perm (y :: r) := by
 induction h with
 | head => exact ⟨_, List.Perm.refl _, List.Perm.refl _⟩
 | tail _ ih =>
  obtain ⟨r, h1, h2⟩ := ih
  exact ⟨_, (h1.cons _).trans (List.Perm.swap _ _ _), (h2.cons _).trans (List.Perm.swap _ _ _)⟩
theorem Hold.put {w W W1 : World} {t : List Nat} {l l' : List Own} {x y : Own} (H : Hold w W t l) (hp : Put l x y l') (C : Hold W W1 (ats [x]) [y]) : Hold w W1 t l' := by
 obtain ⟨r, h1, h2⟩ := hp.perm
 exact (Hold.call (l0 := [x]) (l1 := [y]) (H.perm h1) C).perm h2.symm
theorem Hold.push {w W W1 : World} {t : List Nat} {l l1 : List Own} (H : Hold w W t l) (C : Hold W W1 [] l1) : Hold w W1 t (l1 ++ l) := Hold.call (l0 := []) H C
theorem Hold.at_ {w W : World} {t : List Nat} {l : List Own} (H : Hold w W t l) {x : Own} (h : x ∈ l) : x.ok W := H.ok x h
theorem Hold.blk {w W : World} {t : List Nat} {l : List Own} (H : Hold w W t l) {g : Nat} {cs : List Value} {ty : TypeId} (h : cl g cs ty ∈ l) : W.heap[g]? = some (.cells cs.toArray ty (0, 0)) := H.ok _ h
theorem Hold.cell {w W : World} {t : List Nat} {l : List Own} (H : Hold w W t l) {g : Nat} {cs : List Value} {ty : TypeId} (h : cl g cs ty ∈ l) (k : Nat) : W.cell? ⟨g, k, Option.none⟩ = cs[k]? := by
 rw [blk_cell (H.blk h) k, List.getElem?_toArray]
theorem Hold.row {w W : World} {t : List Nat} {l : List Own} (H : Hold w W t l) {e : TypeId} {v : Value} {k : IntKind} {xs : List Int} (h : nrow e v k xs ∈ l) : W.ownsRow 0 e 1 v xs.length (nums k xs) := H.ok _ h
theorem Hold.grow {w W : World} {t : List Nat} {l : List Own} (H : Hold w W t l) (h : ∀ k ∈ t, w.heap.size ≤ k) : Below w.heap.size w W := ⟨H.kept.os, H.kept.tape, H.kept.output, H.kept.size, fun k hk => H.kept.block k hk fun hm => by have := h k hm; omega⟩
theorem Hold.rd {w W : World} {t : List Nat} {l : List Own} (H : Hold w W t l) {k : IntKind} {A : Option Addr} {n : Nat} {xs : List Int} (h : Own.rd k A n xs ∈ l) : ReadsInt W k A n xs := H.ok _ h
theorem Hold.all {w W : World} {l : List Own} (H : Hold w W [] l) : Below w.heap.size w W := H.kept.below
theorem Hold.reads {w W : World} {t : List Nat} {l : List Own} (H : Hold w W t l) {k : IntKind} {A : Option Addr} {n : Nat} {xs : List Int} (h : ReadsInt w k A n xs) (hn : ∀ a, A = some a → a.block ∉ t) : ReadsInt W k A n xs := by
 refine ⟨h.1, h.2.1, fun h0 => ?_⟩
 obtain ⟨ad, rfl, hc⟩ := h.2.2 h0
 refine ⟨ad, rfl, fun j hj => ?_⟩
 have hcell := hc j hj
 have hb := World.block_lt_of_cell? w _ hcell
 rw [add_block] at hb
 rw [← hcell]
 exact World.cell?_of_block (by rw [add_block]; exact H.kept.block _ hb (hn ad rfl))
theorem pair1 {R : Own → Own → Prop} (x : Own) : [x].Pairwise R := List.pairwise_singleton _ _
theorem ok1 {W : World} {x : Own} (h : x.ok W) : ∀ o ∈ [x], o.ok W := fun o ho => by rw [List.mem_singleton.1 ho]; exact h
theorem Hold.made {W W1 : World} {y : Own} (h : Below W.heap.size W W1) (ok : y.ok W1) (hn : ∀ k ∈ y.at_, W.heap.size ≤ k) : Hold W W1 [] [y] :=
 ⟨Kept.of_below h, ok1 ok, pair1 _, fun o ho k hk => .inl (hn k (by rw [List.mem_singleton.1 ho] at hk; exact hk))⟩
theorem Hold.turned {W W1 : World} {x y : Own} (os : W1.os = W.os) (tape : W1.tape = W.tape) (output : W1.output = W.output) (size : W.heap.size ≤ W1.heap.size) (block : ∀ k, k < W.heap.size → k ∉ x.at_ → W1.heap[k]? = W.heap[k]?)
  (ok : y.ok W1) (hn : ∀ k ∈ y.at_, W.heap.size ≤ k ∨ k ∈ x.at_) : Hold W W1 (ats [x]) [y] := by
 have hm : ∀ k, k ∈ ats [x] ↔ k ∈ x.at_ := fun k => by
  unfold ats
  rw [List.mem_flatMap]
  exact ⟨fun ⟨a, ha, hk⟩ => by rw [List.mem_singleton.1 ha] at hk; exact hk, fun h => ⟨x, by simp, h⟩⟩
 refine ⟨⟨os, tape, output, size, fun k hk hn => block k hk fun h => hn ((hm k).2 h)⟩, ok1 ok, pair1 _, fun o ho k hk => ?_⟩
 rw [List.mem_singleton.1 ho] at hk
 rcases hn k hk with h | h
 ·exact .inl h
 ·exact .inr ((hm k).2 h)
def setC : List Value → Nat → List Value → List Value
 | cs, _, [] => cs
 | [], _, _ :: _ => []
 | _ :: cs, 0, u :: us => u :: setC cs 0 us
 | c :: cs, k + 1, u :: us => c :: setC cs k (u :: us)
theorem setC_eq : ∀ (cs : List Value) (k : Nat) (us : List Value), k + us.length ≤ cs.length → setC cs k us = cs.take k ++ us ++ cs.drop (k + us.length)
 | cs, k, [], _ => by cases cs <;> simp [setC]
 | [], k, u :: us, h => by simp at h
 | c :: cs, 0, u :: us, h => by
  have := setC_eq cs 0 us (by simpa using h)
  simp only [setC, this]
  simp
 | c :: cs, k + 1, u :: us, h => by
  have := setC_eq cs k (u :: us) (by simp at h ⊢; omega)
  simp only [setC, this]
  simp only [List.take_succ_cons, List.cons_append]
  congr 2
  rw [show k + 1 + (u :: us).length = (k + (u :: us).length) + 1 by omega, List.drop_succ_cons]
section
variable {P : Program} {ops : Array Oper} {rest : List Oper} {o : Oper} {a : Act} {Q : Exit → Act → World → Prop} {w W : World} {t : List Nat} {l : List Own}
theorem load_h (H : Hold w W t l) (hgd : o.guard = none) {ty : TypeId} {x : Operand} (ho : o.op = .load ty x) {g : Nat} {cs : List Value} {bt : TypeId} (hx : a.eval x = .pointer (some ⟨g, 0, none⟩)) (hm : cl g cs bt ∈ l)
  (hd : (P.underlying ty).map (·.isRow) = some true) (hi : (P.info? ty).map (·.size) = some cs.length) (h : wpList P ops Q rest (a.put o.dst (.agg cs.toArray)) W) : wpList P ops Q (o :: rest) a W := by
 obtain ⟨d, hu, hr⟩ := Option.map_eq_some_iff.1 hd
 exact load_ev hgd ho hx (H.blk hm) hu hr (by simpa using hi) h
theorem loadf_h (H : Hold w W t l) (hgd : o.guard = none) {ty : TypeId} {x : Operand} (ho : o.op = .load ty x) {g k : Nat} {cs : List Value} {bt : TypeId} {v : Value} (hx : a.eval x = .pointer (some ⟨g, k, none⟩)) (hm : cl g cs bt ∈ l)
  (hv : cs[k]? = some v) (hd : (P.underlying ty).map (·.isRow) = some false) (h : wpList P ops Q rest (a.put o.dst v) W) : wpList P ops Q (o :: rest) a W := by
 obtain ⟨d, hu, hr⟩ := Option.map_eq_some_iff.1 hd
 exact loadf_ev hgd ho hx (H.blk hm) (by simpa using hv) hu hr h
theorem Hold.store {W w1 : World} {g : Nat} {cs cs' : List Value} {bt : TypeId} (o : Only g W w1) (h : w1.heap[g]? = some (.cells cs'.toArray bt (0, 0))) : Hold W w1 (ats [cl g cs bt]) [cl g cs' bt] :=
 Hold.turned o.os o.tape o.output (by rw [o.size]; exact Nat.le_refl _) (fun k _ hne => o.block k fun e => hne (by rw [e]; exact List.mem_singleton.2 rfl)) h fun k hk => .inr hk
theorem store_h (H : Hold w W t l) (hgd : o.guard = none) (hN : o.dst = none) {ty : TypeId} {p x : Operand} (ho : o.op = .store ty p x) {g k : Nat} {cs : List Value} {bt : TypeId} {u : Value} {l' : List Own}
  (hp : a.eval p = .pointer (some ⟨g, k, none⟩)) (hx : a.eval x = u) (hm : Put l (cl g cs bt) (cl g (setC cs k u.cells.toList) bt) l') (ht : (P.info? ty).map (·.size) = some u.cells.toList.length)
  (hk : k + u.cells.toList.length ≤ cs.length) (h1 : u.cells.toList.all (·.oneCell') = true)
  (h : ∀ w1, Hold w w1 t l' → wpList P ops Q rest a w1) : wpList P ops Q (o :: rest) a W := by
 obtain ⟨r, hp1, _⟩ := hm.perm
 refine store_ev hgd hN ho hp hx (H.blk (cs := cs) (hp1.mem_iff.2 (List.Mem.head _))) ht (by simpa using hk) h1 (cs' := (setC cs k u.cells.toList).toArray) (by rw [setC_eq _ _ _ hk]) fun w1 hb ho1 => h w1 (H.put hm (Hold.store ho1 hb))
theorem alloc_h (H : Hold w W t l) (hgd : o.guard = none) {ty : TypeId} (_ho : o.op = .alloc ty) {cs : List Value}
  (hrun : (execOp a.eval o).run P W = .ok (.value (.pointer (some ⟨W.heap.size, 0, none⟩))) (W.alloc (.cells cs.toArray ty (0, 0))))
  (h : ∀ g w1, Hold w w1 t (cl g cs ty :: l) → wpList P ops Q rest (a.put o.dst (.pointer (some ⟨g, 0, none⟩))) w1) : wpList P ops Q (o :: rest) a W :=
 make_ev hgd hrun fun g hg w1 hb hz hbel => h g w1 (Hold.push (l1 := [cl g cs ty]) H (Hold.made hbel hb fun k hk => by have : k = g := List.mem_singleton.1 hk; omega))
theorem box_h (H : Hold w W t l) (hgd : o.guard = none) {ty : TypeId} {x : Operand} (ho : o.op = .box ty x) {u : Value} {cs : List Value} (hx : a.eval x = u) (hu : u.cells = cs.toArray)
  (h : ∀ g w1, Hold w w1 t (cl g cs ty :: l) → wpList P ops Q rest (a.put o.dst (.pointer (some ⟨g, 0, none⟩))) w1) : wpList P ops Q (o :: rest) a W := by
 refine make_ev hgd (cs := cs.toArray) (t := ty) ?_ fun g hg w1 hb hz hbel => h g w1 (Hold.push (l1 := [cl g cs ty]) H (Hold.made hbel hb fun k hk => by have : k = g := List.mem_singleton.1 hk; omega))
 unfold execOp
 simp only [ho, hx]
 simp [Instr.box, newVar, newRow, Sem.run_bind, hu]
end

section
variable {P : Program} {ops : Array Oper} {rest : List Oper} {o : Oper} {a : Act} {Q : Exit → Act → World → Prop} {w W : World} {t : List Nat} {l : List Own}
theorem is_alloc {ty : TypeId} (_ho : o.op = .alloc ty) (h : wpList P ops Q (o :: rest) a W) : wpList P ops Q (o :: rest) a W := h
theorem is_box {ty : TypeId} {x : Operand} (_ho : o.op = .box ty x) (h : wpList P ops Q (o :: rest) a W) : wpList P ops Q (o :: rest) a W := h
theorem is_load {ty : TypeId} {x : Operand} (_ho : o.op = .load ty x) (h : wpList P ops Q (o :: rest) a W) : wpList P ops Q (o :: rest) a W := h
theorem is_store {ty : TypeId} {p x : Operand} (_ho : o.op = .store ty p x) (h : wpList P ops Q (o :: rest) a W) : wpList P ops Q (o :: rest) a W := h
theorem loadf_g (H : Hold w W t l) {ty : TypeId} {x : Operand} (ho : o.op = .load ty x) {g k : Nat} {cs : List Value} {bt : TypeId} {v : Value} (hx : a.eval x = .pointer (some ⟨g, k, none⟩)) (hm : cl g cs bt ∈ l)
  (hv : cs[k]? = some v) (hd : (P.underlying ty).map (·.isRow) = some false) (hw : Region.wanted o (yielded ops a.tmps) = true) (h : wpList P ops Q rest (a.put o.dst v) W) : wpList P ops Q (o :: rest) a W :=
 gate_guard hw (loadf_h H rfl ho hx hm hv hd h)
theorem load_g (H : Hold w W t l) {ty : TypeId} {x : Operand} (ho : o.op = .load ty x) {g : Nat} {cs : List Value} {bt : TypeId} (hx : a.eval x = .pointer (some ⟨g, 0, none⟩)) (hm : cl g cs bt ∈ l)
  (hd : (P.underlying ty).map (·.isRow) = some true) (hi : (P.info? ty).map (·.size) = some cs.length) (hw : Region.wanted o (yielded ops a.tmps) = true) (h : wpList P ops Q rest (a.put o.dst (.agg cs.toArray)) W) : wpList P ops Q (o :: rest) a W :=
 gate_guard hw (load_h H rfl ho hx hm hd hi h)
end

inductive Pull : List Own → Own → List Own → Prop
 | head {x : Own} {r : List Own} : Pull (x :: r) x r
 | tail {x z : Own} {r r' : List Own} (h : Pull r x r') : Pull (z :: r) x (z :: r')
theorem Pull.perm {l r : List Own} {x : Own} (h : Pull l x r) : l.Perm (x :: r) := by
 induction h with
 | head => exact List.Perm.refl _
 | tail _ ih => exact (ih.cons _).trans (List.Perm.swap _ _ _)
theorem Hold.pull1 {w W : World} {t : List Nat} {l r : List Own} {x : Own} (H : Hold w W t l) (h1 : Pull l x r) : Hold w W t ([x] ++ r) := H.perm h1.perm
theorem Hold.pull2 {w W : World} {t : List Nat} {l l1 r : List Own} {x y : Own} (H : Hold w W t l) (h1 : Pull l x l1) (h2 : Pull l1 y r) : Hold w W t ([x, y] ++ r) := H.perm (h1.perm.trans (h2.perm.cons _))
theorem Hold.pull3 {w W : World} {t : List Nat} {l l1 l2 r : List Own} {x y z : Own} (H : Hold w W t l) (h1 : Pull l x l1) (h2 : Pull l1 y l2) (h3 : Pull l2 z r) : Hold w W t ([x, y, z] ++ r) := H.perm (h1.perm.trans ((h2.perm.trans (h3.perm.cons _)).cons _))
theorem Hold.only2 {w W : World} {t : List Nat} {l l1 r : List Own} {x y : Own} (H : Hold w W t l) (h1 : Pull l x l1) (h2 : Pull l1 y r) : Hold w W t [x, y] := (H.pull2 h1 h2).sub (List.sublist_append_left _ _)
inductive Suf : List Own → List Own → Prop
 | refl {l : List Own} : Suf l l
 | cons {x : Own} {l s : List Own} (h : Suf l s) : Suf (x :: l) s
theorem Suf.sub {l s : List Own} (h : Suf l s) : s.Sublist l := by
 induction h with
 | refl => exact List.Sublist.refl _
 | cons _ ih => exact ih.cons _
inductive Want : List Own → List Own → Prop
 | done {l s : List Own} (h : Suf l s) : Want l s
 | take {x : Own} {l r l' : List Own} (h : Pull l x r) (h' : Want r l') : Want l (x :: l')
theorem Hold.want {w W : World} {t : List Nat} {l l' : List Own} (H : Hold w W t l) (h : Want l l') : Hold w W t l' := by
 induction h generalizing w W t with
 | done h => exact H.sub h.sub
 | take h h' ih =>
  have H2 := H.perm h.perm
  have H3 := H2.sub (List.Sublist.cons _ (List.Sublist.refl _))
  have H4 := ih H3
  refine ⟨H4.kept, fun o ho => ?_, List.Pairwise.cons (fun b hb => ?_) H4.apart, fun o ho => ?_⟩
  ·rcases List.mem_cons.1 ho with rfl | ho
   ·exact H2.ok _ (List.Mem.head _)
   ·exact H4.ok o ho
  ·exact (List.pairwise_cons.1 H2.apart).1 b (Want.mem h' b hb)
  ·rcases List.mem_cons.1 ho with rfl | ho
   ·exact H2.mine _ (List.Mem.head _)
   ·exact H4.mine o ho
where
 Want.mem {l l' : List Own} (h : Want l l') : ∀ b ∈ l', b ∈ l := by
  induction h with
  | done h => exact fun b hb => h.sub.subset hb
  | take h _ ih =>
   intro b hb
   rcases List.mem_cons.1 hb with rfl | hb
   ·exact h.perm.mem_iff.2 (List.Mem.head _)
   ·exact h.perm.mem_iff.2 (List.Mem.tail _ (ih b hb))
section
variable {P : Program} {ops : Array Oper} {rest : List Oper} {o : Oper} {a : Act} {Q : Exit → Act → World → Prop} {w W : World} {t : List Nat} {l : List Own}
theorem is_lit {ty : TypeId} {n : Nat} {ps : Array (Nat × Operand)} (_ho : o.op = .buildSlice ty n ps) (h : wpList P ops Q (o :: rest) a W) : wpList P ops Q (o :: rest) a W := h
theorem emptyrow_ok (W : World) (e : TypeId) (size : Nat) : (W.alloc (.cells #[] e (0, 0))).ownsRow 0 e size (.slice (some ⟨W.heap.size, 0, none⟩) 0 0) 0 [] :=
 ⟨by simp, .inr ⟨_, 0, #[], rfl, Nat.zero_le _, blk_new W _, Nat.le_refl _, by simp [maxLen], by simp, by simp⟩⟩
theorem emptyrow_h (H : Hold w W t l) (hgd : o.guard = none) (e : TypeId) (size : Nat)
  (hrun : (execOp a.eval o).run P W = .ok (.value (.slice (some ⟨W.heap.size, 0, none⟩) 0 0)) (W.alloc (.cells #[] e (0, 0))))
  (h : ∀ g w1, Hold w w1 t (.row e size (.slice (some ⟨g, 0, none⟩) 0 0) 0 [] :: l) → wpList P ops Q rest (a.put o.dst (.slice (some ⟨g, 0, none⟩) 0 0)) w1) : wpList P ops Q (o :: rest) a W := by
 refine wpList_plain hgd fun K hK => ?_
 unfold Oper.wp
 rw [hrun]
 refine hK _ _ (h _ _ (Hold.push (l1 := [_]) H (Hold.made (below_alloc (Below.refl _ _) _) (emptyrow_ok W e size) fun k hk => Nat.le_of_eq (Option.some.inj (Option.mem_toList.1 hk)))))
theorem onerow_h (H : Hold w W t l) (hgd : o.guard = none) {e : TypeId} {cs : List Value}
  (hrun : (execOp a.eval o).run P W = .ok (.value (.slice (some ⟨W.heap.size, 0, none⟩) 1 1)) (W.alloc (.cells cs.toArray e (0, 0))))
  (h : ∀ g w1, Hold w w1 t (cl g cs e :: l) → wpList P ops Q rest (a.put o.dst (.slice (some ⟨g, 0, none⟩) 1 1)) w1) : wpList P ops Q (o :: rest) a W := by
 refine wpList_plain hgd fun K hK => ?_
 unfold Oper.wp
 rw [hrun]
 exact hK _ _ (h _ _ (Hold.push (l1 := [cl W.heap.size cs e]) H (Hold.made (below_alloc (Below.refl _ _) _) (blk_new W _) fun k hk => Nat.le_of_eq (List.mem_singleton.1 hk).symm)))
theorem appends_h (H : Hold w W t l) (hgd : o.guard = none) {s x : Operand} {st : TypeId} (ho : o.op = .call { callee := .builtin .append, args := #[s, x], argTypes := #[st, st] })
  {e : TypeId} {size bytes : Nat} {z : Value} (ht : P.underlying st = some (.slice e)) (hinfo : (P.info? e).map (fun i => (i.zero, i.size, i.bytes)) = some (some z, size, bytes)) (hzs : z.cells.size = size) (hsz : 0 < size)
  {v : Value} {n : Nat} {xs : List Value} {g c : Nat} {cs : List Value} {e' : TypeId} (hs : a.eval s = v) (hx : a.eval x = .slice (some ⟨g, 0, none⟩) 1 c) (hmem : cl g cs e' ∈ l) (hcs : cs.length = size) (h1 : cs.all (·.oneCell') = true)
  {f : Own → List Own} (hm : ∀ y, Put l (.row e size v n xs) y (f y)) (hn : n + 1 ≤ 100000000) (hb : (n + 1) * bytes ≤ 140737488355328)
  (h : ∀ v1 w1, Hold w w1 t (f (.row e size v1 (n + 1) (xs ++ cs))) → wpList P ops Q rest (a.put o.dst v1) w1) : wpList P ops Q (o :: rest) a W := by
 obtain ⟨r, hp1, _⟩ := (hm (.row e size v n xs)).perm
 have hrow : W.ownsRow 0 e size v n xs := H.ok _ (hp1.mem_iff.2 (List.Mem.head _))
 obtain ⟨i0, hi, hq⟩ := Option.map_eq_some_iff.1 hinfo
 simp only [Prod.mk.injEq] at hq
 obtain ⟨v1, w1, hrun, h2, h3, _, h5⟩ := run_append_own_at (P := P) W 0 st o.type e i0 z size bytes ht hi hq.1 hq.2.1 hq.2.2 hzs hsz v n xs hrow ⟨g, 0, none⟩ 1 c cs (by omega)
  (fun j u hu => by rw [show (⟨g, 0, none⟩ : Addr).add j = ⟨g, j, none⟩ by simp [Addr.add, eq_comm]]; exact (H.cell hmem j).trans hu) (List.all_eq_true.1 h1) (by unfold maxLen; omega) hb (Nat.zero_le _)
 refine wpList_plain hgd fun K hK => ?_
 unfold Oper.wp execOp
 simp only [ho, resolve, invoke, builtin, Sem.run_bind, Sem.run_pure, Result.andThen_ok, List.map_toArray, List.map_cons, List.map_nil, hs, hx, hrun]
 refine hK _ _ (h v1 w1 (H.put (hm _) (Hold.turned h3.os h3.tape h3.output h3.size (fun k hk hne => h3.block k hk fun e => hne (Option.mem_toList.2 e.symm)) h2 fun k hk => ?_)))
 have hk' : v1.ownBlock = some k := Option.mem_toList.1 hk
 rcases h5 with h' | h'
 ·exact .inr (Option.mem_toList.2 (h'.symm.trans hk'))
 ·rw [h'] at hk'
  exact .inl (Nat.le_of_eq (Option.some.inj hk'))
end
end Go.Proofs.Ytkgedjaihimafaa

/- A map that the program made, over what is held: a function from keys to values, and how many there are. No program. -/
namespace Go.Proofs.Ytkgedjaihimafaa
set_option linter.unusedVariables false
set_option linter.unusedSimpArgs false
open Go.RowKit Go.Maps Go.ChangeMaps Go.Proofs.YtkgedjaihimafaaW.PrintWords
def selfR (v : Value) : Option (DataW Value × List MemPlace) := some (.held v, [])
structure MapK (P : Program) (α β : Type) where
 k : TypeId
 e : TypeId
 t : TypeId
 keyed : Keyed P k
 ht : P.underlying t = some (.map k e)
 mkK : α → Value
 mkV : β → Value
 z : β
 hz : ∀ W, (zeroValue e).run P W = .ok (mkV z) W
 okK : α → Prop
 kl : α → Lit
 key : ∀ a, okK a → keyOf P k (mkK a) = some (kl a)
 inj : ∀ a b, okK a → okK b → mkK a = mkK b → a = b
 invK : ∀ v l, keyOf P k v = some l → ∃ a, okK a ∧ v = mkK a
variable {P : Program} {α β : Type}
theorem MapK.kl_inj (M : MapK P α β) {a b : α} (ha : M.okK a) (hb : M.okK b) (h : M.kl a = M.kl b) : a = b := M.inj a b ha hb (M.keyed.inj (M.key a ha) (h ▸ M.key b hb))
theorem MapK.isKey (M : MapK P α β) {a : α} (ha : M.okK a) : WideAt.IsKeyLit (M.kl a) := M.keyed.key (M.key a ha)
structure MapK.Is (M : MapK P α β) (D : DataW Value) (f : α → Option β) (n : Nat) : Prop where
 tidy : Tidy D
 size : Maps.size D = n
 has : ∀ a, M.okK a → Maps.has D (M.kl a) = (f a).isSome
 at_ : ∀ a, M.okK a → ∀ zd, D.atKey (M.kl a) zd = match f a with | some v => .held (M.mkV v) | none => zd
def MapK.At (M : MapK P α β) (b N : Nat) (f : α → Option β) (n : Nat) (W : World) : Prop := ∃ D, W.ownsMap P M.k selfR b N D ∧ M.Is D f n
theorem owns_blk {W W1 : World} {k : TypeId} {b N : Nat} {D : DataW Value} (h : W.ownsMap P k selfR b N D) (e : W1.heap[b]? = W.heap[b]?) : W1.ownsMap P k selfR b N D := by
 obtain ⟨es, clock, hb, r⟩ := h
 exact ⟨es, clock, e.trans hb, r⟩
def MapK.own (M : MapK P α β) (b N : Nat) (f : α → Option β) (n : Nat) : Own :=
 .thing [b] (M.At b N f n) (fun W W1 ⟨D, h1, h2⟩ he => ⟨D, owns_blk h1 (he b (List.Mem.head _)), h2⟩) (fun W k ⟨D, h1, _⟩ hk => by rw [List.mem_singleton.1 hk]; exact h1.lt)
def MapK.ranges (M : MapK P α β) (b r N : Nat) (f : α → Option β) (n : Nat) (left : Lit → Bool) (cnt : Nat) (W : World) : Prop := ∃ D, W.ranges P M.k selfR b r N D left cnt ∧ M.Is D f n
theorem ranges_blk {W W1 : World} {k : TypeId} {b r N : Nat} {D : DataW Value} {left : Lit → Bool} {cnt : Nat} (h : W.ranges P k selfR b r N D left cnt) (e : W1.heap[b]? = W.heap[b]?) (e2 : W1.heap[r]? = W.heap[r]?) : W1.ranges P k selfR b r N D left cnt := by
 obtain ⟨es, clock, since, seen, c0, hb, F, hs, hD, hr, rest⟩ := h
 exact ⟨es, clock, since, seen, c0, e.trans hb, F, hs, hD, e2.trans hr, rest⟩
def MapK.loop (M : MapK P α β) (b r N : Nat) (f : α → Option β) (n : Nat) (left : Lit → Bool) (cnt : Nat) : Own :=
 .thing [b, r] (M.ranges b r N f n left cnt) (fun W W1 ⟨D, h1, h2⟩ he => ⟨D, ranges_blk h1 (he b (List.Mem.head _)) (he r (List.Mem.tail _ (List.Mem.head _))), h2⟩) (fun W k ⟨D, h1, _⟩ hk => by
  rcases List.mem_cons.1 hk with rfl | hk
  ·exact h1.owns.lt
  ·rw [List.mem_singleton.1 hk]; exact h1.lt)
theorem MapK.Is.empty (M : MapK P α β) : M.Is (.map []) (fun _ => none) 0 := ⟨tidy_empty, rfl, fun _ _ => rfl, fun _ _ _ => rfl⟩
theorem MapK.Is.put {M : MapK P α β} {D : DataW Value} {f f' : α → Option β} {n n' : Nat} (h : M.Is D f n) {a : α} (ha : M.okK a) (v : β) (hf : ∀ b, M.okK b → b ≠ a → f' b = f b) (hfa : f' a = some v) (hn : n' = if (f a).isSome then n else n + 1) : M.Is (D.put (M.kl a) (.held (M.mkV v))) f' n' := by
 have hD := h.tidy.isMap
 refine ⟨h.tidy.put (M.isKey ha) _, ?_, fun b hb => ?_, fun b hb zd => ?_⟩
 ·rw [size_put h.tidy, h.size, h.has a ha, hn]
 ·rcases Classical.em (b = a) with rfl | hne
  ·rw [has_put_same hD (M.isKey ha), hfa]; rfl
  ·rw [has_put_other (fun e => hne (M.kl_inj hb ha e)), h.has b hb, hf b hb hne]
 ·rcases Classical.em (b = a) with rfl | hne
  ·rw [atKey_put_same hD (M.isKey ha), hfa]
  ·rw [atKey_put_other (fun e => hne (M.kl_inj hb ha e)), h.at_ b hb, hf b hb hne]
theorem MapK.Is.del {M : MapK P α β} {D : DataW Value} {f f' : α → Option β} {n n' : Nat} (h : M.Is D f n) {a : α} (ha : M.okK a) (hf : ∀ b, M.okK b → b ≠ a → f' b = f b) (hfa : f' a = none) (hn : n' + (if (f a).isSome then 1 else 0) = n) : M.Is (D.del (M.kl a)) f' n' := by
 refine ⟨h.tidy.del _, ?_, fun b hb => ?_, fun b hb zd => ?_⟩
 ·have := size_del (k := M.kl a) h.tidy
  rw [h.has a ha, h.size] at this
  omega
 ·rcases Classical.em (b = a) with rfl | hne
  ·rw [has_del_same, hfa]; rfl
  ·rw [has_del_other (fun e => hne (M.kl_inj hb ha e)), h.has b hb, hf b hb hne]
 ·rcases Classical.em (b = a) with rfl | hne
  ·rw [atKey_del_same, hfa]
  ·rw [atKey_del_other (fun e => hne (M.kl_inj hb ha e)), h.at_ b hb, hf b hb hne]
theorem MapK.Is.congr {M : MapK P α β} {D : DataW Value} {f f' : α → Option β} {n : Nat} (h : M.Is D f n) (hf : ∀ a, M.okK a → f' a = f a) : M.Is D f' n := ⟨h.tidy, h.size, fun a ha => by rw [hf a ha]; exact h.has a ha, fun a ha zd => by rw [hf a ha]; exact h.at_ a ha zd⟩
section
variable {ops : Array Oper} {rest : List Oper} {o : Oper} {a : Act} {Q : Exit → Act → World → Prop} {w W : World} {t : List Nat} {l : List Own}
theorem is_makeMap {ty : TypeId} {x : Option Operand} (_ho : o.op = .makeMap ty x) (h : wpList P ops Q (o :: rest) a W) : wpList P ops Q (o :: rest) a W := h
theorem is_lookup {ty : TypeId} {x y : Operand} {c : Bool} (_ho : o.op = .lookup ty x y c) (h : wpList P ops Q (o :: rest) a W) : wpList P ops Q (o :: rest) a W := h
theorem is_call {c : Go.Call} (_ho : o.op = .call c) (h : wpList P ops Q (o :: rest) a W) : wpList P ops Q (o :: rest) a W := h
theorem Hold.map {M : MapK P α β} (H : Hold w W t l) {b N n : Nat} {f : α → Option β} (h : M.own b N f n ∈ l) : M.At b N f n W := H.ok _ h
theorem makemap_h (M : MapK P α β) (H : Hold w W t l) (hgd : o.guard = none) (hrun : (execOp a.eval o).run P W = .ok (.value (.map (some W.heap.size))) (W.alloc (.map #[] 0)))
  (h : ∀ b w1, Hold w w1 t (M.own b 0 (fun _ => none) 0 :: l) → wpList P ops Q rest (a.put o.dst (.map (some b))) w1) : wpList P ops Q (o :: rest) a W := by
 refine wpList_plain hgd fun K hK => ?_
 unfold Oper.wp
 rw [hrun]
 refine hK _ _ (h _ _ (Hold.push (l1 := [_]) H (Hold.made (below_alloc (Below.refl _ _) _) ⟨_, World.ownsMap_made W P M.k selfR, MapK.Is.empty M⟩ fun k hk => Nat.le_of_eq (List.mem_singleton.1 hk).symm)))
theorem turned_hold {M : MapK P α β} {b N N' n n' : Nat} {f f' : α → Option β} {w' : World} (ht : W.mapTurned w' b) (h' : M.At b N' f' n' w') : Hold W w' (ats [M.own b N f n]) [M.own b N' f' n'] := by
 have hg := ht.grown
 exact Hold.turned hg.os hg.tape hg.output hg.size (fun k hk hne => hg.block k hk fun e => hne (List.mem_singleton.2 (Option.some.inj e))) h' fun k hk => .inr hk
theorem look_h (M : MapK P α β) (H : Hold w W t l) (hgd : o.guard = none) {m x : Operand} (ho : o.op = .lookup M.t m x true) {b N n : Nat} {f : α → Option β} (hm : a.eval m = .map (some b)) {k : α} (hk : M.okK k) (hx : a.eval x = M.mkK k) (hmem : M.own b N f n ∈ l)
  (h : wpList P ops Q rest (a.put o.dst (.tuple #[M.mkV ((f k).getD M.z), .bool (f k).isSome])) W) : wpList P ops Q (o :: rest) a W := by
 obtain ⟨D, hD, hI⟩ := H.map hmem
 refine wpList_lookup_own_ok W hgd m x M.t ho M.k M.e M.keyed M.ht selfR (M.hz W) (.held (M.mkV M.z)) [] rfl b N D hm hD _ _ hx (M.key k hk) fun v ps hv => ?_
 have e := congrArg Prod.fst (Option.some.inj hv)
 rw [hI.at_ k hk] at e
 rw [hI.has k hk]
 cases hf : f k with
 | none =>
  rw [hf] at e h
  injection e with e
  subst e
  exact h
 | some u =>
  rw [hf] at e h
  injection e with e
  subst e
  exact h
theorem look_some (M : MapK P α β) (H : Hold w W t l) (hgd : o.guard = none) {m x : Operand} (ho : o.op = .lookup M.t m x true) {b N n : Nat} {f : α → Option β} (hm : a.eval m = .map (some b)) {k : α} (hk : M.okK k) (hx : a.eval x = M.mkK k) (hmem : M.own b N f n ∈ l) {v : β} (hf : f k = some v)
  (h : wpList P ops Q rest (a.put o.dst (.tuple #[M.mkV v, .bool true])) W) : wpList P ops Q (o :: rest) a W :=
 look_h M H hgd ho hm hk hx hmem (by rw [hf]; exact h)
theorem look_none (M : MapK P α β) (H : Hold w W t l) (hgd : o.guard = none) {m x : Operand} (ho : o.op = .lookup M.t m x true) {b N n : Nat} {f : α → Option β} (hm : a.eval m = .map (some b)) {k : α} (hk : M.okK k) (hx : a.eval x = M.mkK k) (hmem : M.own b N f n ∈ l) (hf : f k = none)
  (h : wpList P ops Q rest (a.put o.dst (.tuple #[M.mkV M.z, .bool false])) W) : wpList P ops Q (o :: rest) a W :=
 look_h M H hgd ho hm hk hx hmem (by rw [hf]; exact h)
theorem lenmap_h (M : MapK P α β) (H : Hold w W t l) (hgd : o.guard = none) {m : Operand} (ho : o.op = .call { callee := .builtin .len, args := #[m], argTypes := #[M.t] }) {b N n : Nat} {f : α → Option β} (hm : a.eval m = .map (some b)) (hmem : M.own b N f n ∈ l)
  (h : wpList P ops Q rest (a.put o.dst (.int .i64 n)) W) : wpList P ops Q (o :: rest) a W := by
 obtain ⟨D, hD, hI⟩ := H.map hmem
 refine wpList_len_own W hgd m M.t ho M.k M.e M.ht selfR b N D hm hD ?_
 rw [hI.size]
 exact h
theorem range_h (M : MapK P α β) (H : Hold w W t l) (hgd : o.guard = none) {m : Operand} (ho : o.op = .range M.t m) {b N n : Nat} {f : α → Option β} (hm : a.eval m = .map (some b)) {g : Own → List Own} (hp : ∀ y, Put l (M.own b N f n) y (g y))
  (h : ∀ r left w1, (∀ k, M.okK k → left (M.kl k) = (f k).isSome) → Hold w w1 t (g (M.loop b r N f n left n)) → wpList P ops Q rest (a.put o.dst (.pointer (some ⟨r, 0, none⟩))) w1) : wpList P ops Q (o :: rest) a W := by
 obtain ⟨_, hp1, _⟩ := (hp (M.own b N f n)).perm
 obtain ⟨D, hD, hI⟩ : M.At b N f n W := H.ok _ (hp1.mem_iff.2 (List.Mem.head _))
 refine wpList_range_own W hgd m M.t ho M.k M.e M.keyed M.ht selfR b N D hm hD fun w' h1 h2 h3 => h _ (Maps.has D) w' hI.has (H.put (hp _) (Hold.turned h2.os h2.tape h2.output h2.size (fun k hk _ => h2.block k hk (by simp)) ⟨D, ?_, hI⟩ fun k hk => ?_))
 ·rw [← hI.size]; exact h1
 ·rcases List.mem_cons.1 hk with rfl | hk
  ·exact .inr (List.mem_singleton.2 rfl)
  ·rw [List.mem_singleton.1 hk]; exact .inl (Nat.le_refl _)
theorem next_h (M : MapK P α β) (H : Hold w W t l) (hgd : o.guard = none) {it : Operand} (ho : o.op = .next it false) {b r N n cnt : Nat} {f : α → Option β} {left : Lit → Bool} (hit : a.eval it = .pointer (some ⟨r, 0, none⟩)) {g : Own → List Own} (hp : ∀ y, Put l (M.loop b r N f n left cnt) y (g y))
  (hDone : cnt = 0 → (∀ kl, left kl = false) → wpList P ops Q rest (a.put o.dst (.tuple #[.bool false])) W)
  (hMore : ∀ (k : α) (v : β) (left' : Lit → Bool) (cnt' : Nat) (w1 : World), M.okK k → left (M.kl k) = true → f k = some v → (∀ k', M.okK k' → k' ≠ k → left' (M.kl k') = left (M.kl k')) → left' (M.kl k) = false → cnt' < cnt → Hold w w1 t (g (M.loop b r N f n left' cnt')) →
   (Instr.entry (.pointer (some ⟨r, 0, none⟩))).run P w1 = .ok (.tuple #[M.mkK k, M.mkV v]) w1 → wpList P ops Q rest (a.put o.dst (.tuple #[.bool true, M.mkK k, M.mkV v])) w1) : wpList P ops Q (o :: rest) a W := by
 obtain ⟨_, hp1, _⟩ := (hp (M.own b N f n)).perm
 obtain ⟨D, hR, hI⟩ : M.ranges b r N f n left cnt W := H.ok _ (hp1.mem_iff.2 (List.Mem.head _))
 refine wpList_next_ranges W hgd it ho M.k M.keyed selfR (fun v => v) (fun v => v) (fun v _ _ => ⟨v, rfl⟩) (fun v _ _ => ⟨v, rfl⟩) b r N D left cnt hit hR hDone fun x c kl y w1 cnt' hkey hlk hv hat hrg hlt hgr hsz hen => ?_
 obtain ⟨k, hk, rfl⟩ := M.invK x kl hkey
 obtain rfl : M.kl k = kl := Option.some.inj ((M.key k hk).symm.trans hkey)
 have hy : y.1 = .held c := (congrArg Prod.fst (Option.some.inj hv)).symm
 cases hf : f k with
 | none =>
  have h1 := hat .nil
  rw [hI.at_ k hk, hf, hy] at h1
  cases h1
 | some v =>
  have h1 := hat .nil
  rw [hI.at_ k hk, hf, hy] at h1
  injection h1 with h1
  subst h1
  refine hMore k v _ cnt' w1 hk hlk hf (fun k' hk' hne => ?_) ?_ hlt (H.put (hp _) (Hold.turned hgr.os hgr.tape hgr.output hgr.size (fun i hi hne => hgr.block i hi fun e => hne (List.Mem.tail _ (List.mem_singleton.2 (Option.some.inj e)))) ⟨D, hrg, hI⟩ fun k hk => .inr hk)) hen
  ·show (left (M.kl k') && !(M.kl k').sameKey (M.kl k)) = _
   rw [sameKey_ne fun e => hne (M.kl_inj hk' hk e)]
   simp
  ·show (left (M.kl k) && !(M.kl k).sameKey (M.kl k)) = _
   rw [WideAt.sameKey_self (M.isKey hk)]
   simp
variable {Kc : Act → World → Prop}
theorem load_o (H : Hold w W t l) (hw : Region.wanted o (yielded ops a.tmps) = true) {ty : TypeId} {x : Operand} (ho : o.op = .load ty x) {g : Nat} {cs : List Value} {bt : TypeId} (hx : a.eval x = .pointer (some ⟨g, 0, none⟩)) (hm : cl g cs bt ∈ l)
  (hd : (P.underlying ty).map (·.isRow) = some true) (hi : (P.info? ty).map (·.size) = some cs.length) (h : Kc (a.put o.dst (.agg cs.toArray)) W) : if Region.wanted o (yielded ops a.tmps) = true then Oper.wp P o a W Kc Q else Kc (a.put o.dst undef) W := by
 obtain ⟨d, hu, hr⟩ := Option.map_eq_some_iff.1 hd
 have hc : ∀ j v, cs[j]? = some v → W.cell? ((⟨g, 0, none⟩ : Addr).add j) = some v := fun j v hv => by
  rw [show (⟨g, 0, none⟩ : Addr).add j = ⟨g, j, none⟩ by simp [Addr.add, eq_comm], H.cell hm]; exact hv
 have hl : (loadCells ⟨g, 0, none⟩ cs.length).run P W = .ok cs.toArray W := run_loadCells_list (P := P) W _ cs hc
 have hv : (loadVar ty ⟨g, 0, none⟩).run P W = .ok (.agg cs.toArray) W := by
  cases hq : P.info? ty with
  | none => simp [hq] at hi
  | some i =>
   have hs : i.size = cs.length := by simpa [hq] using hi
   have hagg : (isAgg ty).run P W = .ok true W := by
    unfold isAgg
    rw [Sem.run_bind, run_underlying hu W]
    cases d <;> simp_all
   simp [loadVar, Sem.run_bind, hagg, sizeOf, typeInfo, hq, hs, hl]
 rw [if_pos hw]
 unfold Oper.wp execOp
 simp only [ho, hx, Instr.loadAt, Instr.sureAddr, Sem.run_bind, Sem.run_pure, Result.andThen_ok, hv]
 exact h
theorem update_o (M : MapK P α β) (H : Hold w W t l) (hw : Region.wanted o (yielded ops a.tmps) = true) {m x y : Operand} (ho : o.op = .mapUpdate M.t m x y) {b N n : Nat} {f : α → Option β} (hm : a.eval m = .map (some b)) {k : α} (hk : M.okK k) (hx : a.eval x = M.mkK k) {v : β} (hv : a.eval y = M.mkV v) (hN : N < maxLen)
  {f' : α → Option β} {n' : Nat} {l' : List Own} (hp : Put l (M.own b N f n) (M.own b (N + 1) f' n') l') (hf : ∀ b, M.okK b → b ≠ k → f' b = f b) (hfa : f' k = some v) (hn : n' = if (f k).isSome then n else n + 1)
  (h : ∀ w1, Hold w w1 t l' → Kc (a.put o.dst undef) w1) : if Region.wanted o (yielded ops a.tmps) = true then Oper.wp P o a W Kc Q else Kc (a.put o.dst undef) W := by
 obtain ⟨r, hp1, _⟩ := hp.perm
 obtain ⟨D, hD, hI⟩ : M.At b N f n W := H.ok _ (hp1.mem_iff.2 (List.Mem.head _))
 obtain ⟨w', hrun, h1, h2⟩ := hD.store M.keyed M.ht hN (M.key k hk) (R := selfR) (val := M.mkV v) rfl
 rw [if_pos hw]
 unfold Oper.wp
 simp [execOp, ho, hm, hx, hv, hrun, Result.andThen]
 exact h w' (H.put hp (turned_hold h2 ⟨_, h1, hI.put hk v hf hfa hn⟩))
theorem delete_o (M : MapK P α β) (H : Hold w W t l) (hw : Region.wanted o (yielded ops a.tmps) = true) {m x : Operand} {t1 : TypeId} (ho : o.op = .call { callee := .builtin .delete, args := #[m, x], argTypes := #[M.t, M.k] }) {b N n : Nat} {f : α → Option β} (hm : a.eval m = .map (some b)) {k : α} (hk : M.okK k) (hx : a.eval x = M.mkK k)
  {f' : α → Option β} {n' : Nat} {l' : List Own} (hp : Put l (M.own b N f n) (M.own b N f' n') l') (hf : ∀ b, M.okK b → b ≠ k → f' b = f b) (hfa : f' k = none) (hn : n' + (if (f k).isSome then 1 else 0) = n)
  (h : ∀ w1, Hold w w1 t l' → Kc (a.put o.dst (.tuple #[])) w1) : if Region.wanted o (yielded ops a.tmps) = true then Oper.wp P o a W Kc Q else Kc (a.put o.dst undef) W := by
 obtain ⟨r, hp1, _⟩ := hp.perm
 obtain ⟨D, hD, hI⟩ : M.At b N f n W := H.ok _ (hp1.mem_iff.2 (List.Mem.head _))
 obtain ⟨w', hrun, h1, h2⟩ := hD.drop M.keyed M.ht (M.key k hk) o.type
 rw [if_pos hw]
 unfold Oper.wp
 simp [execOp, ho, resolve, invoke, builtin, hm, hx, hrun, Result.andThen]
 exact h w' (H.put hp (turned_hold h2 ⟨_, h1, hI.del hk hf hfa hn⟩))
theorem Hold.looped {M : MapK P α β} (H : Hold w W t l) {b r N n cnt : Nat} {f : α → Option β} {left : Lit → Bool} {l' : List Own} (hp : Put l (M.loop b r N f n left cnt) (M.own b N f n) l') : Hold w W t l' := by
 obtain ⟨_, hp1, _⟩ := hp.perm
 obtain ⟨D, hR, hI⟩ : M.ranges b r N f n left cnt W := H.ok _ (hp1.mem_iff.2 (List.Mem.head _))
 exact H.put hp (Hold.turned rfl rfl rfl (Nat.le_refl _) (fun _ _ _ => rfl) ⟨D, hR.owns, hI⟩ fun k hk => .inr (by rw [List.mem_singleton.1 hk]; exact List.Mem.head _))
end
end Go.Proofs.Ytkgedjaihimafaa

/- Subscriptions, in plain lists: the reference's sorted row; what a map holds, up to order. No program. -/
namespace Go.Proofs.Ytkgedjaihimafaa
set_option linter.unusedVariables false
set_option linter.unusedSimpArgs false
open Go.RowKit Go.Proofs.YtkgedjaihimafaaW.PrintWords
structure Sb where
 cl : Int
 id : Int
 tp : ByteArray
 fr : Int
 nx : Int
instance : Inhabited Sb := ⟨⟨0, 0, ⟨#[]⟩, 0, 0⟩⟩
abbrev noSb : Sb := ⟨0, 0, ⟨#[]⟩, 0, 0⟩
abbrev Sb.cells (s : Sb) : List Value := [.int .u32 s.cl, .int .u32 s.id, .string s.tp, .int .u64 s.fr, .int .u64 s.nx]
def Sb.is (c i : Int) (s : Sb) : Bool := s.cl == c && s.id == i
theorem Sb.is_iff {c i : Int} {s : Sb} : s.is c i = true ↔ s.cl = c ∧ s.id = i := by simp [Sb.is]
theorem Sb.is_self (s : Sb) : s.is s.cl s.id = true := by simp [Sb.is]
def beforeB (a b : Sb) : Bool := decide (a.cl < b.cl) || a.cl == b.cl && decide (a.id < b.id)
theorem before_iff {a b : Sb} : beforeB a b = true ↔ a.cl < b.cl ∨ a.cl = b.cl ∧ a.id < b.id := by simp [beforeB]
def Sorted (m : List Sb) : Prop := m.Pairwise fun a b => beforeB a b = true
theorem before_trans {a b c : Sb} (h1 : beforeB a b = true) (h2 : beforeB b c = true) : beforeB a c = true := by
 rw [before_iff] at *
 omega
def fndI (m : List Sb) (c i : Int) : Option Nat := m.findIdx? (Sb.is c i)
def fnd (m : List Sb) (c i : Int) : Option Sb := m.find? (Sb.is c i)
def idx (o : Option Nat) : Int := match o with | some k => (k : Int) | none => -1
theorem fndI_some {m : List Sb} {c i : Int} {k : Nat} (h : fndI m c i = some k) : ∃ s, m[k]? = some s ∧ s.is c i = true ∧ fnd m c i = some s := by
 induction m generalizing k with
 | nil => cases h
 | cons x m ih =>
  unfold fndI at h
  rw [List.findIdx?_cons] at h
  unfold fnd
  rw [List.find?_cons]
  cases hx : x.is c i
  ·rw [hx] at h
   simp only [Bool.false_eq_true, if_false] at h
   obtain ⟨j, hj, rfl⟩ := Option.map_eq_some_iff.1 h
   obtain ⟨s, h1, h2, h3⟩ := ih hj
   exact ⟨s, by simpa using h1, h2, h3⟩
  ·rw [hx] at h
   obtain rfl : 0 = k := by simpa using h
   exact ⟨x, rfl, hx, rfl⟩
theorem fndI_none {m : List Sb} {c i : Int} (h : fndI m c i = none) : fnd m c i = none ∧ ∀ s ∈ m, s.is c i = false := by
 unfold fndI at h
 rw [List.findIdx?_eq_none_iff] at h
 exact ⟨List.find?_eq_none.2 fun s hs => by rw [h s hs]; exact Bool.false_ne_true, h⟩
def ins (s : Sb) : List Sb → List Sb
 | [] => [s]
 | t :: r => if beforeB s t = true then s :: t :: r else t :: ins s r
theorem ins_perm (s : Sb) : ∀ m : List Sb, (ins s m).Perm (s :: m)
 | [] => List.Perm.refl _
 | t :: r => by
  unfold ins
  split
  ·exact List.Perm.refl _
  ·exact ((ins_perm s r).cons t).trans (List.Perm.swap _ _ _)
theorem ins_sorted {s : Sb} : ∀ {m : List Sb}, Sorted m → (∀ t ∈ m, t.is s.cl s.id = false) → Sorted (ins s m)
 | [], _, _ => List.pairwise_singleton _ _
 | t :: r, h, hn => by
  have h0 := List.pairwise_cons.1 h
  unfold ins
  split
  ·next hb =>
   refine List.Pairwise.cons (fun u hu => ?_) h
   rcases List.mem_cons.1 hu with rfl | hu
   ·exact hb
   ·exact before_trans hb (h0.1 u hu)
  ·next hb =>
   refine List.Pairwise.cons (fun u hu => ?_) (ins_sorted h0.2 fun u hu => hn u (List.mem_cons_of_mem _ hu))
   rcases List.mem_cons.1 ((ins_perm s r).mem_iff.1 hu) with rfl | hu
   ·have h1 := hn t (List.mem_cons_self ..)
    have h2 : ¬ (t.cl = u.cl ∧ t.id = u.id) := fun h => by rw [Sb.is_iff.2 h] at h1; cases h1
    have h3 : ¬ (u.cl < t.cl ∨ u.cl = t.cl ∧ u.id < t.id) := fun h => hb (before_iff.2 h)
    rw [before_iff]
    omega
   ·exact h0.1 u hu
def remL (m : List Sb) (c i : Int) : List Sb := m.filter fun s => !s.is c i
def Sb.on (s : Sb) : Sb := { s with nx := IntKind.u64.wrap (s.nx + 1) }
theorem Sorted.rem {m : List Sb} (h : Sorted m) (p : Sb → Bool) : Sorted (m.filter p) := h.filter _
theorem sorted_uniq {m : List Sb} (h : Sorted m) {a b : Sb} (ha : a ∈ m) (hb : b ∈ m) {c i : Int} (h1 : a.is c i = true) (h2 : b.is c i = true) : a = b := by
 induction m with
 | nil => cases ha
 | cons x m ih =>
  have h0 := List.pairwise_cons.1 h
  rw [Sb.is_iff] at h1 h2
  rcases List.mem_cons.1 ha with ea | ha' <;> rcases List.mem_cons.1 hb with eb | hb'
  ·rw [ea, eb]
  ·subst ea; have := before_iff.1 (h0.1 b hb'); omega
  ·subst eb; have := before_iff.1 (h0.1 a ha'); omega
  ·exact ih h0.2 ha' hb'
theorem erase_rem {m : List Sb} (h : Sorted m) {c i : Int} {k : Nat} (hk : fndI m c i = some k) : m.eraseIdx k = remL m c i := by
 induction m generalizing k with
 | nil => cases hk
 | cons x m ih =>
  have h0 := List.pairwise_cons.1 h
  unfold fndI at hk
  rw [List.findIdx?_cons] at hk
  unfold remL
  rw [List.filter_cons]
  cases hx : x.is c i
  ·rw [hx] at hk
   simp only [Bool.false_eq_true, if_false] at hk
   obtain ⟨j, hj, rfl⟩ := Option.map_eq_some_iff.1 hk
   rw [List.eraseIdx_cons_succ, ih h0.2 hj]
   rfl
  ·rw [hx] at hk
   obtain rfl : 0 = k := by simpa using hk
   rw [List.eraseIdx_cons_zero]
   simp only [Bool.not_true, Bool.false_eq_true, if_false]
   refine (List.filter_eq_self.2 fun s hs => ?_).symm
   have := before_iff.1 (h0.1 s hs)
   cases hs' : s.is c i
   ·rfl
   ·rw [Sb.is_iff] at hx hs'; omega
theorem rem_none {m : List Sb} {c i : Int} (hk : fndI m c i = none) : remL m c i = m := List.filter_eq_self.2 fun s hs => by rw [(fndI_none hk).2 s hs]; rfl
theorem sorted_perm_eq : ∀ {l m : List Sb}, l.Perm m → Sorted l → Sorted m → l = m
 | [], m, h, _, _ => h.nil_eq
 | a :: l, [], h, _, _ => by have := h.length_eq; cases this
 | a :: l, b :: m, h, hl, hm => by
  have hl0 := List.pairwise_cons.1 hl
  have hm0 := List.pairwise_cons.1 hm
  have e : a = b := by
   rcases List.mem_cons.1 (h.mem_iff.1 (List.mem_cons_self ..)) with e | h1
   ·exact e
   ·rcases List.mem_cons.1 (h.mem_iff.2 (List.mem_cons_self ..)) with e | h2
    ·exact e.symm
    ·have h3 := before_iff.1 (hm0.1 a h1)
     have h4 := before_iff.1 (hl0.1 b h2)
     omega
  subst e
  rw [sorted_perm_eq h.cons_inv hl0.2 hm0.2]
end Go.Proofs.Ytkgedjaihimafaa

/- The map of subscriptions. -/
namespace Go.Proofs.Ytkgedjaihimafaa
set_option linter.unusedVariables false
set_option linter.unusedSimpArgs false
open Go.RowKit Go.Maps Go.ChangeMaps Go.WideMaps Go.Proofs.YtkgedjaihimafaaW.PrintWords
theorem Try.keyRow : (54 : TypeId) < Try.prog.types.size := of_decide_eq_true (by kernel_rfl)
theorem Try.keyWide : (match Try.prog.underlying 54 with | some (.array _ _) | some (.struct _) => true | _ => false) = true := by rw [Try.underlying54]
theorem Try.keyIs : Try.prog.keyType 54 = true := by kernel_rfl
theorem Try.keyCells : Try.prog.cellsOf 54 = 2 := by kernel_rfl
theorem Try.u32Cells : Try.prog.cellsOf 23 = 1 := by kernel_rfl
theorem Try.laidOutS : laidOutB Try.prog = true := by kernel_rfl
theorem Try.keyLaw : KeyLaw Try.prog 54 := deep_law_laid Try.laidOutS (m := 2) (by omega) Try.keyRow (by kernel_rfl) Try.keyWide
def okKey (p : Int × Int) : Prop := (0 ≤ p.1 ∧ p.1 ≤ 4294967295) ∧ 0 ≤ p.2 ∧ p.2 ≤ 4294967295
theorem u32_wf {n : Int} : (Lit.int .u32 n).wf = true ↔ 0 ≤ n ∧ n ≤ 4294967295 := by
 simp [Lit.wf, IntKind.min, IntKind.max, IntKind.signed, IntKind.bits]
abbrev keyV (p : Int × Int) : Value := .agg #[.int .u32 p.1, .int .u32 p.2]
noncomputable def keyL (p : Int × Int) : Lit := (keyOf Try.prog 54 (keyV p)).getD (.bool false)
theorem key_depth : ∃ m, Try.prog.types.size + 1 = m + 2 := by
 have h : 0 < Try.prog.types.size := Nat.lt_of_le_of_lt (Nat.zero_le _) Try.keyRow
 generalize Try.prog.types.size = z at h
 exact ⟨z - 1, by omega⟩
theorem key_lits (m : Nat) (a b : Value) : Try.prog.keyLits (m + 2) 54 [a, b] = (Try.prog.keyLits (m + 1) 23 [a]).bind fun x => (Try.prog.keyLits (m + 1) 23 [b]).map fun y => x ++ y := by
 conv => lhs; unfold Program.keyLits
 rw [Try.underlying54]
 simp only [Try.keyCells, Try.u32Cells]
 cases h1 : Try.prog.keyLits (m + 1) 23 [a] <;> cases h2 : Try.prog.keyLits (m + 1) 23 [b] <;> simp [h1, h2, Try.u32Cells]
theorem u32_lits (m : Nat) (v : Value) : Try.prog.keyLits (m + 1) 23 [v] = match v with | .int q' n => if q' = .u32 ∧ (Lit.int .u32 n).wf = true then some [.int .u32 n] else none | _ => none := by
 unfold Program.keyLits
 rw [Try.underlying23]
 cases v <;> rfl
theorem key_some {p : Int × Int} (h : okKey p) : keyOf Try.prog 54 (keyV p) = some (keyL p) := by
 have h1 := u32_wf.2 h.1
 have h2 := u32_wf.2 h.2
 have e : (keyOf Try.prog 54 (keyV p)).isSome = true := by
  obtain ⟨m, hm⟩ := key_depth
  unfold keyOf
  rw [Try.underlying54]
  simp only [Try.keyIs, Value.formed, Try.underlying54, Try.keyCells, Value.cells, hm, List.size_toArray, key_lits, u32_lits, h1, h2]
  simp
 unfold keyL
 obtain ⟨l, hl⟩ := Option.isSome_iff_exists.1 e
 rw [hl]
 rfl
theorem key_inv {v : Value} {l : Lit} (h : keyOf Try.prog 54 v = some l) : ∃ p, okKey p ∧ v = keyV p := by
 unfold keyOf at h
 rw [Try.underlying54] at h
 simp only at h
 split at h
 ·next hc =>
  rw [Bool.and_eq_true] at hc
  have hf := hc.2
  unfold Value.formed at hf
  split at hf
  ·next cs =>
   rw [Try.underlying54] at hf
   simp only [Try.keyCells, beq_iff_eq] at hf
   obtain ⟨l⟩ := cs
   match l, hf with
   | [a, b], _ =>
    obtain ⟨m, hm⟩ := key_depth
    simp only [Value.cells, hm, key_lits, u32_lits] at h
    obtain ⟨ls, h, _⟩ := Option.map_eq_some_iff.1 h
    obtain ⟨x, hx, h⟩ := Option.bind_eq_some_iff.1 h
    obtain ⟨y, hy, _⟩ := Option.map_eq_some_iff.1 h
    cases a <;> simp only [reduceCtorEq] at hx
    cases b <;> simp only [reduceCtorEq] at hy
    split at hx
    ·next c1 =>
     split at hy
     ·next c2 =>
      obtain ⟨rfl, w1⟩ := c1
      obtain ⟨rfl, w2⟩ := c2
      exact ⟨(_, _), ⟨u32_wf.1 w1, u32_wf.1 w2⟩, rfl⟩
     ·cases hy
    ·cases hx
  ·cases hf
  ·rw [Try.underlying54] at hf
   cases hf
 ·cases h
noncomputable def subMap : MapK Try.prog (Int × Int) Sb where
 k := 54
 e := 29
 t := 49
 keyed := Keyed.of_law Try.keyLaw
 ht := Try.underlying49
 mkK := keyV
 mkV s := .agg s.cells.toArray
 z := noSb
 hz W := by kernel_rfl
 okK := okKey
 kl := keyL
 key _ h := key_some h
 inj a b _ _ h := by
  injection h with h
  have h1 := congrArg (·[0]?) h
  have h2 := congrArg (·[1]?) h
  simp at h1 h2
  exact Prod.ext h1 h2
 invK _ _ h := key_inv h
end Go.Proofs.Ytkgedjaihimafaa

/- Subscriptions, in plain lists: what is found behind each change. No program. -/
namespace Go.Proofs.Ytkgedjaihimafaa
set_option linter.unusedVariables false
set_option linter.unusedSimpArgs false
theorem is_other {c i : Int} {s : Sb} (h : (c, i) ≠ (s.cl, s.id)) : s.is c i = false := by
 cases hs : s.is c i
 ·rfl
 ·rw [Sb.is_iff] at hs
  exact absurd (by rw [hs.1, hs.2]) h
theorem fnd_ins_self (s : Sb) : ∀ {m : List Sb}, (∀ t ∈ m, t.is s.cl s.id = false) → fnd (ins s m) s.cl s.id = some s
 | [], _ => by simp [ins, fnd, Sb.is_self]
 | t :: r, h => by
  have ih := fnd_ins_self s (m := r) fun u hu => h u (List.mem_cons_of_mem _ hu)
  have ht := h t (List.mem_cons_self ..)
  unfold fnd at ih ⊢
  unfold ins
  split
  ·simp [List.find?_cons, Sb.is_self]
  ·rw [List.find?_cons, ht]
   exact ih
theorem fnd_ins_other {c i : Int} (s : Sb) (h : (c, i) ≠ (s.cl, s.id)) : ∀ m : List Sb, fnd (ins s m) c i = fnd m c i
 | [] => by simp [ins, fnd, is_other h]
 | t :: r => by
  have ih := fnd_ins_other s h r
  unfold fnd at ih ⊢
  unfold ins
  split
  ·rw [List.find?_cons, is_other h]
  ·rw [List.find?_cons, List.find?_cons]
   cases t.is c i
   ·exact ih
   ·rfl
theorem fnd_none_iff {m : List Sb} {c i : Int} : fnd m c i = none ↔ ∀ s ∈ m, s.is c i = false := by
 unfold fnd
 rw [List.find?_eq_none]
 exact ⟨fun h s hs => by cases hh : s.is c i <;> simp_all, fun h s hs => by rw [h s hs]; exact Bool.false_ne_true⟩
theorem fnd_rem_self (m : List Sb) (c i : Int) : fnd (remL m c i) c i = none := fnd_none_iff.2 fun s hs => by
 have := (List.mem_filter.1 hs).2
 simpa using this
theorem fnd_rem_other {c i c' i' : Int} (h : (c', i') ≠ (c, i)) (m : List Sb) : fnd (remL m c i) c' i' = fnd m c' i' := by
 induction m with
 | nil => rfl
 | cons t r ih =>
  unfold fnd remL at ih ⊢
  rw [List.filter_cons]
  cases ht : t.is c i
  ·simp only [Bool.not_false, if_true]
   rw [List.find?_cons, List.find?_cons, ih]
  ·simp only [Bool.not_true, Bool.false_eq_true, if_false]
   rw [ih, List.find?_cons]
   have : t.is c' i' = false := by
    rw [Sb.is_iff] at ht
    exact is_other (by rw [ht.1, ht.2]; exact h)
   rw [this]
theorem ins_len (s : Sb) (m : List Sb) : (ins s m).length = m.length + 1 := (ins_perm s m).length_eq
theorem rem_len {m : List Sb} (hs : Sorted m) (c i : Int) : (remL m c i).length + (if (fnd m c i).isSome then 1 else 0) = m.length := by
 cases hk : fndI m c i with
 | none => rw [rem_none hk, (fndI_none hk).1]; rfl
 | some k =>
  obtain ⟨s, h1, _, h3⟩ := fndI_some hk
  rw [← erase_rem hs hk, h3]
  have hlt : k < m.length := (List.getElem?_eq_some_iff.1 h1).1
  rw [List.length_eraseIdx, if_pos hlt]
  show m.length - 1 + 1 = m.length
  omega
theorem fnd_mem {m : List Sb} {c i : Int} {s : Sb} (h : fnd m c i = some s) : s ∈ m ∧ s.cl = c ∧ s.id = i := ⟨List.mem_of_find?_eq_some h, Sb.is_iff.1 (List.find?_some h)⟩
theorem fnd_of_mem {m : List Sb} (hs : Sorted m) {s : Sb} (h : s ∈ m) : fnd m s.cl s.id = some s := by
 cases hf : fnd m s.cl s.id with
 | none => have := fnd_none_iff.1 hf s h; rw [Sb.is_self] at this; cases this
 | some u =>
  obtain ⟨h1, h2, h3⟩ := fnd_mem hf
  rw [sorted_uniq hs h1 h (c := s.cl) (i := s.id) (Sb.is_iff.2 ⟨h2, h3⟩) (Sb.is_self s)]
end Go.Proofs.Ytkgedjaihimafaa

/- Package subs, over what is held: New, Len, Get, Add, Remove, Step. (This text is printed by wip/gen/sub1.py.) -/
namespace Go.Proofs.Ytkgedjaihimafaa
set_option linter.unusedVariables false
set_option linter.unusedSimpArgs false
open Go.RowKit Go.Maps Go.Proofs.YtkgedjaihimafaaW.PrintWords Go.Proofs.YtkgedjaihimafaaW.PrintLast Go.Proofs.YtkgedjaihimafaaW.PrintMore Go.Extern.Stop Go.Stop Go.Extern
abbrev nilS : Value := .slice none 0 0
theorem of_post0 {P : Program} {f : FuncId} {args : Array Value} {w : World} {T : Ending → World → Prop} (h : ∀ R : Ending → World → Prop, (∀ e w', T e w' → R e w') → Calls P f args w R) : Calls P f args w T := h T fun _ _ h => h
abbrev tbO (tb b : Nat) : Own := cl tb [.map (some b)] 51
noncomputable abbrev tbM (b N : Nat) (m : List Sb) : Own := subMap.own b N (fun p => fnd m p.1 p.2) m.length
structure IsT (W : World) (tb b N : Nat) (m : List Sb) : Prop where
 blk : (tbO tb b).ok W
 map : (tbM b N m).ok W
 ne : tb ≠ b
theorem IsT.hold {W : World} {tb b N : Nat} {m : List Sb} (h : IsT W tb b N m) : Hold W W (ats [tbO tb b, tbM b N m]) [tbO tb b, tbM b N m] :=
 Hold.start (fun o ho => by
  rcases List.mem_cons.1 ho with rfl | ho
  ·exact h.blk
  ·rw [List.mem_singleton.1 ho]; exact h.map)
  (List.Pairwise.cons (fun x hx k hk hk2 => by
   rw [List.mem_singleton.1 hx] at hk2
   obtain rfl : k = tb := List.mem_singleton.1 hk
   exact h.ne (List.mem_singleton.1 hk2)) (pair1 _))
theorem Hold.isT {w W : World} {t : List Nat} {l r1 r2 : List Own} (H : Hold w W t l) {tb b N : Nat} {m : List Sb} (h1 : Pull l (tbO tb b) r1) (h2 : Pull r1 (tbM b N m) r2) : IsT W tb b N m := by
 have H2 := H.only2 h1 h2
 refine ⟨H2.ok _ (List.Mem.head _), H2.ok _ (List.Mem.tail _ (List.Mem.head _)), fun e => ?_⟩
 exact (List.pairwise_cons.1 H2.apart).1 _ (List.Mem.head _) tb (List.mem_singleton.2 rfl) (by rw [e]; exact List.mem_singleton.2 rfl)
set_option maxHeartbeats 2000000 in
set_option maxRecDepth 100000 in
theorem newT_calls (w : World) : Calls Try.prog 7 #[] w fun e w' => ∃ tb b, e = .returned (.pointer (some ⟨tb, 0, none⟩)) ∧ Hold w w' [] [tbO tb b, tbM b 0 []] := by
 refine of_post0 fun R hRR => ?_
 have HP := Lib.hid hRR
 have H : Hold w w [] [] := Hold.nothing (Kept.refl _ _)
 clear hRR
 go_enter Try.func7, Try.ntmps7
 go_wp2_with (first
  | ((with_reducible refine is_makeMap rfl ?_); refine makemap_h subMap H rfl (by first | (go_simp; done) | (go_simp; rfl)) ?_; clear H; intro b w_ H)
  | ((with_reducible refine is_box rfl ?_); refine box_h H rfl rfl rfl rfl ?_; clear H; intro tb w_ H))
 exact HP.out _ _ ⟨_, _, rfl, H⟩
set_option maxHeartbeats 2000000 in
set_option maxRecDepth 100000 in
theorem lenT_calls (w : World) (tb b N : Nat) (m : List Sb) (h : IsT w tb b N m) : Calls Try.prog 14 #[.pointer (some ⟨tb, 0, none⟩)] w fun e w' => e = .returned (.int .i64 m.length) ∧ Hold w w' (ats [tbO tb b, tbM b N m]) [tbO tb b, tbM b N m] := by
 refine of_post0 fun R hRR => ?_
 have HP := Lib.hid hRR
 have H := h.hold
 clear hRR h
 go_enter Try.func14, Try.ntmps14
 go_wp2_with (first
  | ((with_reducible refine is_load rfl ?_); refine loadf_h H rfl rfl rfl (by repeat (first | exact List.Mem.head _ | apply List.Mem.tail)) rfl (by kernel_rfl) ?_)
  | ((with_reducible refine is_call rfl ?_); refine lenmap_h subMap H rfl rfl (b := b) rfl (by repeat (first | exact List.Mem.head _ | apply List.Mem.tail)) ?_))
 exact HP.out _ _ ⟨rfl, H⟩
set_option maxHeartbeats 2000000 in
set_option maxRecDepth 100000 in
theorem getT_some (w : World) (tb b N : Nat) (m : List Sb) (h : IsT w tb b N m) (c i : Int) (hok : okKey (c, i)) (s : Sb) (hf : fnd m c i = some s) : Calls Try.prog 15 #[.pointer (some ⟨tb, 0, none⟩), .int .u32 c, .int .u32 i] w fun e w' => e = .returned (.tuple #[.agg #[.int .u32 s.cl, .int .u32 s.id, .string s.tp, .int .u64 s.fr, .int .u64 s.nx], .bool true]) ∧ Hold w w' (ats [tbO tb b, tbM b N m]) [tbO tb b, tbM b N m] := by
 refine of_post0 fun R hRR => ?_
 have HP := Lib.hid hRR
 have H := h.hold
 clear hRR h
 have HOK := Lib.hid hok
 have HF := Lib.hid hf
 clear hok hf
 go_enter Try.func15, Try.ntmps15
 go_upto_region 3 with (first
  | ((with_reducible refine is_alloc (ty := 29) rfl ?_); refine alloc_h H rfl rfl (cs := [.int .u32 0, .int .u32 0, .string ⟨#[]⟩, .int .u64 0, .int .u64 0]) (by first | (go_simp; done) | (go_simp; rfl)) ?_; clear H; intro g6 w_ H))
 go_wp2_with (first
  | ((with_reducible refine is_alloc (ty := 29) rfl ?_); refine alloc_h H rfl rfl (cs := [.int .u32 0, .int .u32 0, .string ⟨#[]⟩, .int .u64 0, .int .u64 0]) (by first | (go_simp; done) | (go_simp; rfl)) ?_; clear H; intro g8 w_ H)
  | ((with_reducible refine is_load (ty := 29) rfl ?_); refine load_h H rfl rfl rfl (by repeat (first | exact List.Mem.head _ | apply List.Mem.tail)) (by kernel_rfl) (by kernel_rfl) ?_)
  | ((with_reducible refine is_load rfl ?_); refine loadf_h H rfl rfl rfl (by repeat (first | exact List.Mem.head _ | apply List.Mem.tail)) rfl (by kernel_rfl) ?_)
  | ((with_reducible refine is_lookup rfl ?_); refine look_some subMap H rfl rfl (b := b) (f := fun p => fnd m p.1 p.2) rfl (k := (c, i)) HOK.out rfl (by repeat (first | exact List.Mem.head _ | apply List.Mem.tail)) HF.out ?_; (try simp only [subMap]))
  | ((with_reducible refine is_store (ty := 29) rfl ?_); refine store_h H rfl rfl rfl rfl (u := .agg #[.int .u32 s.cl, .int .u32 s.id, .string s.tp, .int .u64 s.fr, .int .u64 s.nx]) rfl (by repeat (first | exact Put.head | apply Put.tail)) (by kernel_rfl) (Nat.le_of_ble_eq_true rfl) rfl ?_; clear H; intro w_ H; simp only [setC, Value.cells, List.toList_toArray] at H))
 refine bodyPost_ret (results_list (rs := [.cell 6 29, .tmp 7]) rfl (by simp) (.cell g6 29 ([.int .u32 s.cl, .int .u32 s.id, .string s.tp, .int .u64 s.fr, .int .u64 s.nx].toArray) (0, 0) _ rfl (H.blk (cs := [.int .u32 s.cl, .int .u32 s.id, .string s.tp, .int .u64 s.fr, .int .u64 s.nx]) (by repeat (first | exact List.Mem.head _ | apply List.Mem.tail))) Try.underlying29 rfl (by kernel_rfl) (.tmp .nil))) rfl ?_
 exact HP.out _ _ ⟨rfl, H.want (Want.take (by repeat (first | exact Pull.head | apply Pull.tail)) (Want.take (by repeat (first | exact Pull.head | apply Pull.tail)) (Want.done (s := []) (by repeat (first | exact Suf.refl | apply Suf.cons)))))⟩
set_option maxHeartbeats 2000000 in
set_option maxRecDepth 100000 in
theorem getT_none (w : World) (tb b N : Nat) (m : List Sb) (h : IsT w tb b N m) (c i : Int) (hok : okKey (c, i)) (hf : fnd m c i = none) : Calls Try.prog 15 #[.pointer (some ⟨tb, 0, none⟩), .int .u32 c, .int .u32 i] w fun e w' => e = .returned (.tuple #[.agg #[.int .u32 0, .int .u32 0, .string ⟨#[]⟩, .int .u64 0, .int .u64 0], .bool false]) ∧ Hold w w' (ats [tbO tb b, tbM b N m]) [tbO tb b, tbM b N m] := by
 refine of_post0 fun R hRR => ?_
 have HP := Lib.hid hRR
 have H := h.hold
 clear hRR h
 have HOK := Lib.hid hok
 have HF := Lib.hid hf
 clear hok hf
 go_enter Try.func15, Try.ntmps15
 go_upto_region 3 with (first
  | ((with_reducible refine is_alloc (ty := 29) rfl ?_); refine alloc_h H rfl rfl (cs := [.int .u32 0, .int .u32 0, .string ⟨#[]⟩, .int .u64 0, .int .u64 0]) (by first | (go_simp; done) | (go_simp; rfl)) ?_; clear H; intro g6 w_ H))
 go_wp2_with (first
  | ((with_reducible refine is_alloc (ty := 29) rfl ?_); refine alloc_h H rfl rfl (cs := [.int .u32 0, .int .u32 0, .string ⟨#[]⟩, .int .u64 0, .int .u64 0]) (by first | (go_simp; done) | (go_simp; rfl)) ?_; clear H; intro g8 w_ H)
  | ((with_reducible refine is_load (ty := 29) rfl ?_); refine load_h H rfl rfl rfl (by repeat (first | exact List.Mem.head _ | apply List.Mem.tail)) (by kernel_rfl) (by kernel_rfl) ?_)
  | ((with_reducible refine is_load rfl ?_); refine loadf_h H rfl rfl rfl (by repeat (first | exact List.Mem.head _ | apply List.Mem.tail)) rfl (by kernel_rfl) ?_)
  | ((with_reducible refine is_lookup rfl ?_); refine look_none subMap H rfl rfl (b := b) (f := fun p => fnd m p.1 p.2) rfl (k := (c, i)) HOK.out rfl (by repeat (first | exact List.Mem.head _ | apply List.Mem.tail)) HF.out ?_; (try simp only [subMap]))
  | ((with_reducible refine is_store (ty := 29) rfl ?_); refine store_h H rfl rfl rfl rfl (u := .agg #[.int .u32 0, .int .u32 0, .string ⟨#[]⟩, .int .u64 0, .int .u64 0]) rfl (by repeat (first | exact Put.head | apply Put.tail)) (by kernel_rfl) (Nat.le_of_ble_eq_true rfl) rfl ?_; clear H; intro w_ H; simp only [setC, Value.cells, List.toList_toArray] at H))
 refine bodyPost_ret (results_list (rs := [.cell 6 29, .tmp 7]) rfl (by simp) (.cell g6 29 ([.int .u32 0, .int .u32 0, .string ⟨#[]⟩, .int .u64 0, .int .u64 0].toArray) (0, 0) _ rfl (H.blk (cs := [.int .u32 0, .int .u32 0, .string ⟨#[]⟩, .int .u64 0, .int .u64 0]) (by repeat (first | exact List.Mem.head _ | apply List.Mem.tail))) Try.underlying29 rfl (by kernel_rfl) (.tmp .nil))) rfl ?_
 exact HP.out _ _ ⟨rfl, H.want (Want.take (by repeat (first | exact Pull.head | apply Pull.tail)) (Want.take (by repeat (first | exact Pull.head | apply Pull.tail)) (Want.done (s := []) (by repeat (first | exact Suf.refl | apply Suf.cons)))))⟩
theorem ins_upd {m : List Sb} {s : Sb} (h : fnd m s.cl s.id = none) : (∀ p : Int × Int, subMap.okK p → p ≠ (s.cl, s.id) → (fun p : Int × Int => fnd (ins s m) p.1 p.2) p = (fun p : Int × Int => fnd m p.1 p.2) p) ∧ (fun p : Int × Int => fnd (ins s m) p.1 p.2) (s.cl, s.id) = some s ∧ (ins s m).length = if ((fun p : Int × Int => fnd m p.1 p.2) (s.cl, s.id)).isSome then m.length else m.length + 1 :=
 ⟨fun p _ hne => fnd_ins_other s (fun e => hne (by rw [← e])) m, fnd_ins_self s (fnd_none_iff.1 h), by rw [show (fun p : Int × Int => fnd m p.1 p.2) (s.cl, s.id) = none from h, ins_len]; rfl⟩
theorem rem_upd {m : List Sb} (hs : Sorted m) (c i : Int) : (∀ p : Int × Int, subMap.okK p → p ≠ (c, i) → (fun p : Int × Int => fnd (remL m c i) p.1 p.2) p = (fun p : Int × Int => fnd m p.1 p.2) p) ∧ (fun p : Int × Int => fnd (remL m c i) p.1 p.2) (c, i) = none ∧ (remL m c i).length + (if ((fun p : Int × Int => fnd m p.1 p.2) (c, i)).isSome then 1 else 0) = m.length :=
 ⟨fun p _ hne => fnd_rem_other (fun e => hne (by rw [← e])) m, fnd_rem_self m c i, rem_len hs c i⟩
set_option maxHeartbeats 2000000 in
set_option maxRecDepth 100000 in
theorem addT_old (w : World) (tb b N : Nat) (m : List Sb) (h : IsT w tb b N m) (s s0 : Sb) (hok : okKey (s.cl, s.id)) (hf : fnd m s.cl s.id = some s0) : Calls Try.prog 9 #[.pointer (some ⟨tb, 0, none⟩), .agg s.cells.toArray] w fun e w' => e = .returned (.bool false) ∧ Hold w w' (ats [tbO tb b, tbM b N m]) [tbO tb b, tbM b N m] := by
 refine of_post0 fun R hRR => ?_
 have HP := Lib.hid hRR
 have H := h.hold
 clear hRR h
 have HOK := Lib.hid hok
 have HF := Lib.hid hf
 clear hok hf
 go_enter Try.func9, Try.ntmps9
 go_wp2_with (first
  | ((with_reducible refine is_box rfl ?_); refine box_h H rfl rfl rfl rfl ?_; clear H; intro g3 w_ H)
  | ((with_reducible refine is_load rfl ?_); refine loadf_h H rfl rfl rfl (by repeat (first | exact List.Mem.head _ | apply List.Mem.tail)) rfl (by kernel_rfl) ?_)
  | (go_at_call 15; refine (getT_some _ tb b N m (H.isT (by repeat (first | exact Pull.head | apply Pull.tail)) (by repeat (first | exact Pull.head | apply Pull.tail))) s.cl s.id HOK.out s0 HF.out).mono ?_; rintro e_ w_ ⟨rfl, h_⟩; replace H := Hold.call (H.pull2 (by repeat (first | exact Pull.head | apply Pull.tail)) (by repeat (first | exact Pull.head | apply Pull.tail))) h_; clear h_)
  | ((with_reducible refine is_alloc (ty := 29) rfl ?_); refine alloc_h H rfl rfl (cs := [.int .u32 0, .int .u32 0, .string ⟨#[]⟩, .int .u64 0, .int .u64 0]) (by first | (go_simp; done) | (go_simp; rfl)) ?_; clear H; intro g5 w_ H)
  | ((with_reducible refine is_store (ty := 29) rfl ?_); refine store_h H rfl rfl rfl rfl (u := .agg #[.int .u32 s0.cl, .int .u32 s0.id, .string s0.tp, .int .u64 s0.fr, .int .u64 s0.nx]) rfl (by repeat (first | exact Put.head | apply Put.tail)) (by kernel_rfl) (Nat.le_of_ble_eq_true rfl) rfl ?_; clear H; intro w_ H; simp only [setC, Value.cells, List.toList_toArray] at H))
 exact HP.out _ _ ⟨rfl, H.want (Want.take (by repeat (first | exact Pull.head | apply Pull.tail)) (Want.take (by repeat (first | exact Pull.head | apply Pull.tail)) (Want.done (s := []) (by repeat (first | exact Suf.refl | apply Suf.cons)))))⟩
set_option maxHeartbeats 2000000 in
set_option maxRecDepth 100000 in
theorem addT_new (w : World) (tb b N : Nat) (m : List Sb) (h : IsT w tb b N m) (s : Sb) (hok : okKey (s.cl, s.id)) (hf : fnd m s.cl s.id = none) (hN : N < maxLen) : Calls Try.prog 9 #[.pointer (some ⟨tb, 0, none⟩), .agg s.cells.toArray] w fun e w' => e = .returned (.bool true) ∧ Hold w w' (ats [tbO tb b, tbM b N m]) [tbO tb b, tbM b (N + 1) (ins s m)] := by
 refine of_post0 fun R hRR => ?_
 have HP := Lib.hid hRR
 have H := h.hold
 clear hRR h
 have HOK := Lib.hid hok
 have HF := Lib.hid hf
 have HU := Lib.hid (ins_upd hf)
 have HN := Lib.hid hN
 clear hok hf hN
 go_enter Try.func9, Try.ntmps9
 go_upto_region 4 with (first
  | ((with_reducible refine is_box rfl ?_); refine box_h H rfl rfl rfl rfl ?_; clear H; intro g3 w_ H)
  | ((with_reducible refine is_load rfl ?_); refine loadf_h H rfl rfl rfl (by repeat (first | exact List.Mem.head _ | apply List.Mem.tail)) rfl (by kernel_rfl) ?_)
  | (go_at_call 15; refine (getT_none _ tb b N m (H.isT (by repeat (first | exact Pull.head | apply Pull.tail)) (by repeat (first | exact Pull.head | apply Pull.tail))) s.cl s.id HOK.out HF.out).mono ?_; rintro e_ w_ ⟨rfl, h_⟩; replace H := Hold.call (H.pull2 (by repeat (first | exact Pull.head | apply Pull.tail)) (by repeat (first | exact Pull.head | apply Pull.tail))) h_; clear h_)
  | ((with_reducible refine is_alloc (ty := 29) rfl ?_); refine alloc_h H rfl rfl (cs := [.int .u32 0, .int .u32 0, .string ⟨#[]⟩, .int .u64 0, .int .u64 0]) (by first | (go_simp; done) | (go_simp; rfl)) ?_; clear H; intro g5 w_ H)
  | ((with_reducible refine is_store (ty := 29) rfl ?_); refine store_h H rfl rfl rfl rfl (u := .agg #[.int .u32 0, .int .u32 0, .string ⟨#[]⟩, .int .u64 0, .int .u64 0]) rfl (by repeat (first | exact Put.head | apply Put.tail)) (by kernel_rfl) (Nat.le_of_ble_eq_true rfl) rfl ?_; clear H; intro w_ H; simp only [setC, Value.cells, List.toList_toArray] at H))
 replace H := H.below (below_drew (Below.refl _ _))
 refine start_ (n := 11) (S := fun w' => w'.cell? ⟨tb, 0, none⟩ = some (.map (some b)) ∧ w'.cell? ⟨g3, 0, none⟩ = some (.int .u32 s.cl) ∧ w'.cell? ⟨g3, 1, none⟩ = some (.int .u32 s.id)) (ds := []) #[false, false, false, false, false, false, false, false, false, false, false] (by kernel_rfl) rfl rfl ⟨((H.cell (by repeat (first | exact List.Mem.head _ | apply List.Mem.tail)) 0).trans rfl), ((H.cell (by repeat (first | exact List.Mem.head _ | apply List.Mem.tail)) 0).trans rfl), ((H.cell (by repeat (first | exact List.Mem.head _ | apply List.Mem.tail)) 1).trans rfl)⟩ (fun hHeld => ?_)
 generalize World.drew _ = wy at H hHeld ⊢
 refine pure_ (i := 0) (N := some 21) (v := ?_) (a' := ?_) #[true, false, false, false, false, false, false, false, false, false, false] rfl rfl (by kernel_rfl) (fun _ _ _ h => h) (Or.inl ⟨by rfl, ?_⟩) ?_ ?_
 rotate_left
 ·intro w'
  go_simp
  with_reducible rfl
 rotate_left
 ·simp only [Act.put, putA, putB, putC]
  rfl
 refine pure_ (i := 1) (N := some 22) (v := ?_) (a' := ?_) #[true, true, false, false, false, false, false, false, false, false, false] rfl rfl (by kernel_rfl) (fun _ _ _ h => h) (Or.inl ⟨by rfl, ?_⟩) ?_ ?_
 rotate_left
 ·intro w'
  go_simp
  with_reducible rfl
 rotate_left
 ·simp only [Act.put, putA, putB, putC]
  rfl
 refine pure_ (i := 2) (N := some 23) (v := ?_) (a' := ?_) #[true, true, true, false, false, false, false, false, false, false, false] rfl rfl (by kernel_rfl) (fun _ _ _ h => h) (Or.inl ⟨by rfl, ?_⟩) ?_ ?_
 rotate_left
 ·intro w'
  go_simp
  with_reducible rfl
 rotate_left
 ·simp only [Act.put, putA, putB, putC]
  rfl
 refine take_ (i := 3) (N := some 24) (v := ?_) (a' := ?_) #[true, true, true, true, false, false, false, false, false, false, false] rfl rfl (by kernel_rfl) (fun _ _ _ h => h) (Or.inl ⟨by rfl, ?_⟩) hHeld ?_ ?_
 rotate_left
 ·rintro w' ⟨s0, s1, s2⟩
  go_simp
  with_reducible rfl
 rotate_left
 ·simp only [Act.put, putA, putB, putC]
  rfl
 refine pure_ (i := 4) (N := some 25) (v := ?_) (a' := ?_) #[true, true, true, true, true, false, false, false, false, false, false] rfl rfl (by kernel_rfl) (fun _ _ _ h => h) (Or.inl ⟨by rfl, ?_⟩) ?_ ?_
 rotate_left
 ·intro w'
  go_simp
  with_reducible rfl
 rotate_left
 ·simp only [Act.put, putA, putB, putC]
  rfl
 refine take_ (i := 5) (N := some 26) (v := ?_) (a' := ?_) #[true, true, true, true, true, true, false, false, false, false, false] rfl rfl (by kernel_rfl) (fun _ _ _ h => h) (Or.inl ⟨by rfl, ?_⟩) hHeld ?_ ?_
 rotate_left
 ·rintro w' ⟨s0, s1, s2⟩
  go_simp
  with_reducible rfl
 rotate_left
 ·simp only [Act.put, putA, putB, putC]
  rfl
 refine pure_ (i := 6) (N := some 27) (v := ?_) (a' := ?_) #[true, true, true, true, true, true, true, false, false, false, false] rfl rfl (by kernel_rfl) (fun _ _ _ h => h) (Or.inl ⟨by rfl, ?_⟩) ?_ ?_
 rotate_left
 ·intro w'
  go_simp
  with_reducible rfl
 rotate_left
 ·simp only [Act.put, putA, putB, putC]
  rfl
 refine take_ (i := 7) (N := some 28) (v := ?_) (a' := ?_) #[true, true, true, true, true, true, true, true, false, false, false] rfl rfl (by kernel_rfl) (fun _ _ _ h => h) (Or.inl ⟨by rfl, ?_⟩) hHeld ?_ ?_
 rotate_left
 ·rintro w' ⟨s0, s1, s2⟩
  go_simp
  with_reducible rfl
 rotate_left
 ·simp only [Act.put, putA, putB, putC]
  rfl
 refine pure_ (i := 8) (N := some 29) (v := ?_) (a' := ?_) #[true, true, true, true, true, true, true, true, true, false, false] rfl rfl (by kernel_rfl) (fun _ _ _ h => h) (Or.inl ⟨by rfl, ?_⟩) ?_ ?_
 rotate_left
 ·intro w'
  go_simp
  with_reducible rfl
 rotate_left
 ·simp only [Act.put, putA, putB, putC]
  rfl
 refine one_ (i := 9) (N := some 30) #[true, true, true, true, true, true, true, true, true, true, false] rfl rfl (by kernel_rfl) (by decide) (fun K hK => ?_)
 refine load_o H (by rfl) rfl rfl (cs := [.int .u32 s.cl, .int .u32 s.id, .string s.tp, .int .u64 s.fr, .int .u64 s.nx]) (by repeat (first | exact List.Mem.head _ | apply List.Mem.tail)) (by kernel_rfl) (by kernel_rfl) ?_
 refine hK.out _ _ hHeld (fun hHeld => ?_)
 clear hK K
 refine norm_ (a' := ?_) ?_ ?_
 rotate_left
 ·show Act.put _ (some 30) _ = _
  simp only [Act.put, putA, putB, putC]
  rfl
 refine one_ (i := 10) (N := none) #[true, true, true, true, true, true, true, true, true, true, true] rfl rfl (by kernel_rfl) (by decide) (fun K hK => ?_)
 refine update_o subMap H (by rfl) rfl (b := b) rfl (k := (s.cl, s.id)) HOK.out rfl (v := s) rfl HN.out (N := N) (by repeat (first | exact Put.head | apply Put.tail)) HU.out.1 HU.out.2.1 HU.out.2.2 ?_
 clear H
 intro w_ H
 have hS := Lib.hid (show (fun w' : World => w'.cell? ⟨tb, 0, none⟩ = some (.map (some b)) ∧ w'.cell? ⟨g3, 0, none⟩ = some (.int .u32 s.cl) ∧ w'.cell? ⟨g3, 1, none⟩ = some (.int .u32 s.id)) _ from ⟨((H.cell (by repeat (first | exact List.Mem.head _ | apply List.Mem.tail)) 0).trans rfl), ((H.cell (by repeat (first | exact List.Mem.head _ | apply List.Mem.tail)) 0).trans rfl), ((H.cell (by repeat (first | exact List.Mem.head _ | apply List.Mem.tail)) 1).trans rfl)⟩)
 refine hK.out _ _ hS.out (fun hHeld => ?_)
 clear hK K
 clear hS
 refine done_ (by kernel_rfl) ?_
 clear hHeld
 go_wp2_with fail
 exact HP.out _ _ ⟨rfl, H.want (Want.take (by repeat (first | exact Pull.head | apply Pull.tail)) (Want.take (by repeat (first | exact Pull.head | apply Pull.tail)) (Want.done (s := []) (by repeat (first | exact Suf.refl | apply Suf.cons)))))⟩
end Go.Proofs.Ytkgedjaihimafaa

/- The order of subscriptions: cmp.Compare, cmp.Or, the function that is handed to slices.SortFunc. -/
namespace Go.Proofs.Ytkgedjaihimafaa
set_option linter.unusedVariables false
set_option linter.unusedSimpArgs false
open Go.Shelf Go.RowKit Go.Lib Go.Proofs.YtkgedjaihimafaaW.PrintWords Go.Proofs.YtkgedjaihimafaaW.PrintLast Go.Proofs.YtkgedjaihimafaaW.PrintMore
def cmpI (x y : Int) : Int := if x < y then -1 else if y < x then 1 else 0
theorem isnan_calls (x : Int) (W : World) : Calls Try.prog 33 #[.int .u32 x] W fun e w' => e = .returned (.bool false) ∧ w' = W := by
 go_enter Try.func33, Try.ntmps33
 go_wp2
 go_ret
 exact ⟨rfl, rfl⟩
set_option maxRecDepth 100000 in
theorem compare_calls (x y : Int) (W : World) : Calls Try.prog 30 #[.int .u32 x, .int .u32 y] W fun e w' => e = .returned (.int .i64 (cmpI x y)) ∧ w' = W := by
 refine of_post0 fun R hRR => ?_
 have HP := Lib.hid hRR
 clear hRR
 by_cases h1 : x < y
 ·have HC := Lib.hid (show cmpI x y = -1 by simp [cmpI, h1])
  have d1 : decide (x < y) = true := decide_eq_true h1
  go_enter Try.func30, Try.ntmps30
  go_wp2_with (go_at_call 33; refine (isnan_calls _ _).mono ?_; rintro e_ w_ ⟨rfl, rfl⟩)
  exact HP.out _ _ ⟨by rw [HC.out]; rfl, rfl⟩
 ·have d1 : decide (x < y) = false := decide_eq_false h1
  by_cases h2 : y < x
  ·have HC := Lib.hid (show cmpI x y = 1 by simp [cmpI, h1, h2])
   have d2 : decide (y < x) = true := decide_eq_true h2
   go_enter Try.func30, Try.ntmps30
   go_wp2_with (go_at_call 33; refine (isnan_calls _ _).mono ?_; rintro e_ w_ ⟨rfl, rfl⟩)
   exact HP.out _ _ ⟨by rw [HC.out]; rfl, rfl⟩
  ·have HC := Lib.hid (show cmpI x y = 0 by simp [cmpI, h1, h2])
   have d2 : decide (y < x) = false := decide_eq_false h2
   go_enter Try.func30, Try.ntmps30
   go_wp2_with (go_at_call 33; refine (isnan_calls _ _).mono ?_; rintro e_ w_ ⟨rfl, rfl⟩)
   exact HP.out _ _ ⟨by rw [HC.out]; rfl, rfl⟩
def Grown (W w' : World) : Prop := ∃ q os', w' = Go.Sort.grow (W.drewN q) os'
theorem Grown.refl (W : World) : Grown W W := ⟨0, #[], by simp [Go.Sort.grow, World.drewN]⟩
theorem Grown.alloc {W w' : World} (h : Grown W w') (o : Obj) : Grown W (w'.alloc o) := by
 obtain ⟨q, os, rfl⟩ := h
 exact ⟨q, _, by rw [Go.Sort.alloc_eq_grow, Go.Sort.grow_grow]⟩
theorem Grown.drew {W w' : World} (h : Grown W w') : Grown W w'.drew := by
 obtain ⟨q, os, rfl⟩ := h
 exact ⟨q + 1, os, rfl⟩
theorem or_first (W : World) (g c : Nat) (a b r : Int) (h0 : W.cell? ⟨g, 0, none⟩ = some (.int .i64 a)) (h1 : W.cell? ⟨g, 1, none⟩ = some (.int .i64 b)) (hr : r = if a = 0 then b else a) : Calls Try.prog 29 #[.slice (some ⟨g, 0, none⟩) 2 c] W fun e w' => e = .returned (.int .i64 r) ∧ w' = W := by
 refine of_post0 fun R hRR => ?_
 have HP := Lib.hid hRR
 clear hRR
 have HR := Lib.hid hr
 clear hr
 by_cases ha : a = 0
 ·subst ha
  rw [if_pos rfl] at HR
  by_cases hb : b = 0
  ·subst hb
   go_enter Try.func29, Try.ntmps29
   go_wp2
   refine wp_loop_rounds 3 ?_
   rw [rounds_succ]
   go_wp2
   rw [rounds_succ]
   go_wp2
   rw [rounds_succ]
   go_wp2
   exact HP.out _ _ ⟨by rw [HR.out]; rfl, rfl⟩
  ·have d1 : (b == 0) = false := by simpa using hb
   have d2 : (b != 0) = true := by simpa using hb
   have d3 : decide (b = 0) = false := decide_eq_false hb
   go_enter Try.func29, Try.ntmps29
   go_wp2
   refine wp_loop_rounds 3 ?_
   rw [rounds_succ]
   go_wp2
   rw [rounds_succ]
   go_wp2
   exact HP.out _ _ ⟨by rw [HR.out]; rfl, rfl⟩
 ·rw [if_neg ha] at HR
  have d1 : (a == 0) = false := by simpa using ha
  have d2 : (a != 0) = true := by simpa using ha
  have d3 : decide (a = 0) = false := decide_eq_false ha
  go_enter Try.func29, Try.ntmps29
  go_wp2
  refine wp_loop_rounds 3 ?_
  rw [rounds_succ]
  go_wp2
  exact HP.out _ _ ⟨by rw [HR.out]; rfl, rfl⟩
end Go.Proofs.Ytkgedjaihimafaa

/- The function that slices.SortFunc is handed; the sort. (This text is printed by wip/gen/sub2.py.) -/
namespace Go.Proofs.Ytkgedjaihimafaa
set_option linter.unusedVariables false
set_option linter.unusedSimpArgs false
open Go.Shelf Go.RowKit Go.Lib Go.Maps Go.Proofs.YtkgedjaihimafaaW.PrintWords Go.Proofs.YtkgedjaihimafaaW.PrintLast Go.Proofs.YtkgedjaihimafaaW.PrintMore Go.Extern.Stop Go.Stop Go.Extern
theorem lit_n {P : Program} {ops : Array Oper} {o : Oper} {a : Act} {Q : Exit → Act → World → Prop} {W : World} {Kc : Act → World → Prop} (hw : Region.wanted o (yielded ops a.tmps) = true) {v : Value} {ob : Obj} (hrun : (execOp a.eval o).run P W = .ok (.value v) (W.alloc ob)) (h : Kc (a.put o.dst v) (W.alloc ob)) : if Region.wanted o (yielded ops a.tmps) = true then Oper.wp P o a W Kc Q else Kc (a.put o.dst undef) W := event_step hw hrun h
def cmpS (x y : Sb) : Int := if cmpI x.cl y.cl = 0 then cmpI x.id y.id else cmpI x.cl y.cl
theorem cmpI_zero {x y : Int} : cmpI x y = 0 ↔ x = y := by unfold cmpI; split <;> (try split) <;> omega
theorem cmpI_neg {x y : Int} : cmpI x y < 0 ↔ x < y := by unfold cmpI; split <;> (try split) <;> omega
theorem ltOf_cmpS (x y : Sb) : ltOf cmpS x y = beforeB x y := by
 have h : cmpS x y < 0 ↔ (x.cl < y.cl ∨ x.cl = y.cl ∧ x.id < y.id) := by
  unfold cmpS
  split
  ·next h => rw [cmpI_zero] at h; rw [cmpI_neg]; omega
  ·next h => rw [cmpI_zero] at h; rw [cmpI_neg]; omega
 unfold ltOf
 cases hb : beforeB x y
 ·exact decide_eq_false fun h' => by rw [before_iff.2 (h.1 h')] at hb; cases hb
 ·exact decide_eq_true (h.2 (before_iff.1 hb))
theorem swoS : Go.Sort.SWO (ltOf cmpS) where
 irrefl x := by
  rw [ltOf_cmpS]
  cases h : beforeB x x
  ·rfl
  ·have := before_iff.1 h; omega
 trans x y z h1 h2 := by rw [ltOf_cmpS] at *; exact before_trans h1 h2
 ntrans x y z h1 h2 := by
  rw [ltOf_cmpS] at *
  have h3 : ¬ (x.cl < y.cl ∨ x.cl = y.cl ∧ x.id < y.id) := fun h => by rw [before_iff.2 h] at h1; cases h1
  have h4 : ¬ (y.cl < z.cl ∨ y.cl = z.cl ∧ y.id < z.id) := fun h => by rw [before_iff.2 h] at h2; cases h2
  cases h : beforeB x z
  ·rfl
  ·have := before_iff.1 h; omega
set_option maxHeartbeats 2000000 in
set_option maxRecDepth 100000 in
theorem closure_calls (x y : Sb) (W : World) : Calls Try.prog 28 #[.agg x.cells.toArray, .agg y.cells.toArray] W fun e w' => e = .returned (.int .i64 (cmpS x y)) ∧ Grown W w' := by
 refine of_post0 fun R hRR => ?_
 have HP := Lib.hid hRR
 clear hRR
 go_enter Try.func28, Try.ntmps28
 go_upto_region 1 with fail
 have b2 := blk_new1 W (.cells #[.int .u32 x.cl, .int .u32 x.id, .string x.tp, .int .u64 x.fr, .int .u64 x.nx] 29) (.cells #[.int .u32 y.cl, .int .u32 y.id, .string y.tp, .int .u64 y.fr, .int .u64 y.nx] 29)
 have HG := Lib.hid (((Grown.refl W).alloc (.cells #[.int .u32 x.cl, .int .u32 x.id, .string x.tp, .int .u64 x.fr, .int .u64 x.nx] 29)).alloc (.cells #[.int .u32 y.cl, .int .u32 y.id, .string y.tp, .int .u64 y.fr, .int .u64 y.nx] 29))
 have b1 := blk_alloc (blk_new W (.cells #[.int .u32 x.cl, .int .u32 x.id, .string x.tp, .int .u64 x.fr, .int .u64 x.nx] 29)) (.cells #[.int .u32 y.cl, .int .u32 y.id, .string y.tp, .int .u64 y.fr, .int .u64 y.nx] 29)
 generalize hg2 : W.heap.size = g2 at b1 ⊢
 have b2' := b2
 rw [hg2] at b2'
 generalize hg3 : g2 + 1 = g3 at b2' ⊢
 generalize (W.alloc (.cells #[.int .u32 x.cl, .int .u32 x.id, .string x.tp, .int .u64 x.fr, .int .u64 x.nx] 29)).alloc (.cells #[.int .u32 y.cl, .int .u32 y.id, .string y.tp, .int .u64 y.fr, .int .u64 y.nx] 29) = W2 at b1 b2' HG ⊢
 have HF := Lib.hid (show W2.cell? ⟨g2, 0, none⟩ = some (.int .u32 x.cl) ∧ W2.cell? ⟨g2, 1, none⟩ = some (.int .u32 x.id) ∧ W2.cell? ⟨g3, 0, none⟩ = some (.int .u32 y.cl) ∧ W2.cell? ⟨g3, 1, none⟩ = some (.int .u32 y.id) from ⟨(blk_cell b1 0).trans rfl, (blk_cell b1 1).trans rfl, (blk_cell b2' 0).trans rfl, (blk_cell b2' 1).trans rfl⟩)
 clear b1 b2' hg2 hg3
 replace HG := Lib.hid HG.out.drew
 refine start_ (n := 13) (S := fun w' => w'.cell? ⟨g2, 0, none⟩ = some (.int .u32 x.cl) ∧ w'.cell? ⟨g2, 1, none⟩ = some (.int .u32 x.id) ∧ w'.cell? ⟨g3, 0, none⟩ = some (.int .u32 y.cl) ∧ w'.cell? ⟨g3, 1, none⟩ = some (.int .u32 y.id)) (ds := []) #[false, false, false, false, false, false, false, false, false, false, false, false, false] (by kernel_rfl) rfl rfl ⟨HF.out.1, HF.out.2.1, HF.out.2.2.1, HF.out.2.2.2⟩ (fun hHeld => ?_)
 generalize World.drew _ = wy at HG hHeld ⊢
 refine pure_ (i := 0) (N := some 5) (v := ?_) (a' := ?_) #[true, false, false, false, false, false, false, false, false, false, false, false, false] rfl rfl (by kernel_rfl) (fun _ _ _ h => h) (Or.inl ⟨by rfl, ?_⟩) ?_ ?_
 rotate_left
 ·intro w'
  go_simp
  with_reducible rfl
 rotate_left
 ·simp only [Act.put, putA, putB, putC]
  rfl
 refine take_ (i := 1) (N := some 6) (v := ?_) (a' := ?_) #[true, true, false, false, false, false, false, false, false, false, false, false, false] rfl rfl (by kernel_rfl) (fun _ _ _ h => h) (Or.inl ⟨by rfl, ?_⟩) hHeld ?_ ?_
 rotate_left
 ·rintro w' ⟨s0, s1, s2, s3⟩
  go_simp
  with_reducible rfl
 rotate_left
 ·simp only [Act.put, putA, putB, putC]
  rfl
 refine pure_ (i := 2) (N := some 7) (v := ?_) (a' := ?_) #[true, true, true, false, false, false, false, false, false, false, false, false, false] rfl rfl (by kernel_rfl) (fun _ _ _ h => h) (Or.inl ⟨by rfl, ?_⟩) ?_ ?_
 rotate_left
 ·intro w'
  go_simp
  with_reducible rfl
 rotate_left
 ·simp only [Act.put, putA, putB, putC]
  rfl
 refine take_ (i := 3) (N := some 8) (v := ?_) (a' := ?_) #[true, true, true, true, false, false, false, false, false, false, false, false, false] rfl rfl (by kernel_rfl) (fun _ _ _ h => h) (Or.inl ⟨by rfl, ?_⟩) hHeld ?_ ?_
 rotate_left
 ·rintro w' ⟨s0, s1, s2, s3⟩
  go_simp
  with_reducible rfl
 rotate_left
 ·simp only [Act.put, putA, putB, putC]
  rfl
 refine pure_ (i := 5) (N := some 10) (v := ?_) (a' := ?_) #[true, true, true, true, false, true, false, false, false, false, false, false, false] rfl rfl (by kernel_rfl) (fun _ _ _ h => h) (Or.inl ⟨by rfl, ?_⟩) ?_ ?_
 rotate_left
 ·intro w'
  go_simp
  with_reducible rfl
 rotate_left
 ·simp only [Act.put, putA, putB, putC]
  rfl
 refine take_ (i := 6) (N := some 11) (v := ?_) (a' := ?_) #[true, true, true, true, false, true, true, false, false, false, false, false, false] rfl rfl (by kernel_rfl) (fun _ _ _ h => h) (Or.inl ⟨by rfl, ?_⟩) hHeld ?_ ?_
 rotate_left
 ·rintro w' ⟨s0, s1, s2, s3⟩
  go_simp
  with_reducible rfl
 rotate_left
 ·simp only [Act.put, putA, putB, putC]
  rfl
 refine pure_ (i := 7) (N := some 12) (v := ?_) (a' := ?_) #[true, true, true, true, false, true, true, true, false, false, false, false, false] rfl rfl (by kernel_rfl) (fun _ _ _ h => h) (Or.inl ⟨by rfl, ?_⟩) ?_ ?_
 rotate_left
 ·intro w'
  go_simp
  with_reducible rfl
 rotate_left
 ·simp only [Act.put, putA, putB, putC]
  rfl
 refine take_ (i := 8) (N := some 13) (v := ?_) (a' := ?_) #[true, true, true, true, false, true, true, true, true, false, false, false, false] rfl rfl (by kernel_rfl) (fun _ _ _ h => h) (Or.inl ⟨by rfl, ?_⟩) hHeld ?_ ?_
 rotate_left
 ·rintro w' ⟨s0, s1, s2, s3⟩
  go_simp
  with_reducible rfl
 rotate_left
 ·simp only [Act.put, putA, putB, putC]
  rfl
 refine one_ (i := 4) (N := some 9) #[true, true, true, true, true, true, true, true, true, false, false, false, false] rfl rfl (by kernel_rfl) (by decide) (fun K hK => ?_)
 refine goes_ Try.func30 (by kernel_rfl) rfl #[.int .u32 x.cl, .int .u32 y.cl] (by rfl) rfl rfl (by (try simp only [List.map_toArray, List.map_cons, List.map_nil]); first | done | rfl) ?_
 refine (compare_calls _ _ _).mono ?_
 rintro e_ w9 ⟨rfl, e9⟩
 replace e9 := e9.symm
 subst e9
 refine ⟨_, rfl, ?_⟩
 refine hK.out _ _ hHeld (fun hHeld => ?_)
 clear hK K
 refine norm_ (a' := ?_) ?_ ?_
 rotate_left
 ·show Act.put _ (some 9) _ = _
  simp only [Act.put, putA, putB, putC]
  rfl
 refine one_ (i := 9) (N := some 14) #[true, true, true, true, true, true, true, true, true, true, false, false, false] rfl rfl (by kernel_rfl) (by decide) (fun K hK => ?_)
 refine goes_ Try.func30 (by kernel_rfl) rfl #[.int .u32 x.id, .int .u32 y.id] (by rfl) rfl rfl (by (try simp only [List.map_toArray, List.map_cons, List.map_nil]); first | done | rfl) ?_
 refine (compare_calls _ _ _).mono ?_
 rintro e_ w9 ⟨rfl, e9⟩
 replace e9 := e9.symm
 subst e9
 refine ⟨_, rfl, ?_⟩
 refine hK.out _ _ hHeld (fun hHeld => ?_)
 clear hK K
 refine norm_ (a' := ?_) ?_ ?_
 rotate_left
 ·show Act.put _ (some 14) _ = _
  simp only [Act.put, putA, putB, putC]
  rfl
 refine one_ (i := 10) (N := some 15) #[true, true, true, true, true, true, true, true, true, true, true, false, false] rfl rfl (by kernel_rfl) (by decide) (fun K hK => ?_)
 refine lit_n (v := .slice (some ⟨wy.heap.size, 0, none⟩) 2 2) (ob := .cells #[.int .i64 (cmpI x.cl y.cl), .int .i64 (cmpI x.id y.id)] 3 (0, 0)) (by rfl) (by first | (go_simp; done) | (go_simp; rfl)) ?_
 have hB9 : Below wy.heap.size wy (wy.alloc (.cells #[.int .i64 (cmpI x.cl y.cl), .int .i64 (cmpI x.id y.id)] 3 (0, 0))) := below_alloc (Below.refl _ _) _
 have hz := blk_new wy (.cells #[.int .i64 (cmpI x.cl y.cl), .int .i64 (cmpI x.id y.id)] 3 (0, 0))
 replace HG := Lib.hid (HG.out.alloc (.cells #[.int .i64 (cmpI x.cl y.cl), .int .i64 (cmpI x.id y.id)] 3 (0, 0)))
 have hS := Lib.hid (show (fun w' : World => w'.cell? ⟨g2, 0, none⟩ = some (.int .u32 x.cl) ∧ w'.cell? ⟨g2, 1, none⟩ = some (.int .u32 x.id) ∧ w'.cell? ⟨g3, 0, none⟩ = some (.int .u32 y.cl) ∧ w'.cell? ⟨g3, 1, none⟩ = some (.int .u32 y.id)) _ from ⟨pw_cell_below hB9 hHeld.1, pw_cell_below hB9 hHeld.2.1, pw_cell_below hB9 hHeld.2.2.1, pw_cell_below hB9 hHeld.2.2.2⟩)
 have HZ := Lib.hid hz
 clear hB9 hz
 generalize wy.alloc (.cells #[.int .i64 (cmpI x.cl y.cl), .int .i64 (cmpI x.id y.id)] 3 (0, 0)) = wz at HG HZ hS ⊢
 generalize wy.heap.size = gz at HZ ⊢
 refine hK.out _ _ hS.out (fun hHeld => ?_)
 clear hK K
 clear hS
 refine norm_ (a' := ?_) ?_ ?_
 rotate_left
 ·show Act.put _ (some 15) _ = _
  simp only [Act.put, putA, putB, putC]
  rfl
 refine one_ (i := 11) (N := some 16) #[true, true, true, true, true, true, true, true, true, true, true, true, false] rfl rfl (by kernel_rfl) (by decide) (fun K hK => ?_)
 refine goes_ Try.func29 (by kernel_rfl) rfl #[.slice (some ⟨gz, 0, none⟩) 2 2] (by rfl) rfl rfl (by (try simp only [List.map_toArray, List.map_cons, List.map_nil]); first | done | rfl) ?_
 refine (or_first _ _ _ _ _ (cmpS x y) ((blk_cell HZ.out 0).trans rfl) ((blk_cell HZ.out 1).trans rfl) rfl).mono ?_
 rintro e_ w9 ⟨rfl, e9⟩
 replace e9 := e9.symm
 subst e9
 refine ⟨_, rfl, ?_⟩
 refine hK.out _ _ hHeld (fun hHeld => ?_)
 clear hK K
 refine norm_ (a' := ?_) ?_ ?_
 rotate_left
 ·show Act.put _ (some 16) _ = _
  simp only [Act.put, putA, putB, putC]
  rfl
 refine pure_ (i := 12) (N := some 4) (v := ?_) (a' := ?_) #[true, true, true, true, true, true, true, true, true, true, true, true, true] rfl rfl (by kernel_rfl) (fun _ _ _ h => h) (Or.inl ⟨by rfl, ?_⟩) ?_ ?_
 rotate_left
 ·intro w'
  go_simp
  with_reducible rfl
 rotate_left
 ·simp only [Act.put, putA, putB, putC]
  rfl
 refine done_ (by kernel_rfl) ?_
 clear hHeld
 go_wp2_with fail
 exact HP.out _ _ ⟨rfl, HG.out⟩
end Go.Proofs.Ytkgedjaihimafaa

/- slices.SortFunc over a row of subscriptions that is held. -/
namespace Go.Proofs.Ytkgedjaihimafaa
set_option linter.unusedVariables false
set_option linter.unusedSimpArgs false
open Go.Shelf Go.RowKit Go.Lib Go.Sort Go.Proofs.YtkgedjaihimafaaW.PrintWords
shelf_lay_g SlLaysF0.n6 Slsf 6 at Try 27 as Try.lSort
abbrev rowS (v : Value) (es : List Sb) : Own := .row 29 5 v es.length (es.flatMap Sb.cells)
theorem cmpLaysS (blk off size : Nat) (w : World) : CmpLays Try.prog 28 #[] Sb.cells 5 cmpS blk off size w := fun _ _ _ _ x y => closure_calls x y _
theorem flat_atS : ∀ (es : List Sb) (i j : Nat) (e : Sb) (u : Value), es[i]? = some e → e.cells[j]? = some u → (es.flatMap Sb.cells)[i * 5 + j]? = some u
 | [], i, j, e, u, h, _ => by simp at h
 | x :: es, 0, j, e, u, h, hu => by
  obtain rfl : x = e := by simpa using h
  have hj : j < x.cells.length := (List.getElem?_eq_some_iff.1 hu).1
  rw [List.flatMap_cons, Nat.zero_mul, Nat.zero_add, List.getElem?_append_left hj]
  exact hu
 | x :: es, i + 1, j, e, u, h, hu => by
  have hx : x.cells.length = 5 := rfl
  rw [List.flatMap_cons, List.getElem?_append_right (by omega), hx, show (i + 1) * 5 + j - 5 = i * 5 + j by omega]
  exact flat_atS es i j e u (by simpa using h) hu
theorem flat_len (es : List Sb) : (es.flatMap Sb.cells).length = es.length * 5 := by
 induction es with
 | nil => rfl
 | cons x es ih => rw [List.flatMap_cons, List.length_append, ih, show x.cells.length = 5 from rfl, List.length_cons]; omega
theorem flat_eq (es : List Sb) : flatK Sb.cells 5 es.toArray = (es.flatMap Sb.cells).toArray := by
 refine ext_get! (by rw [size_flatK, List.size_toArray, List.size_toArray, flat_len]) fun t ht => ?_
 have ht' : t < es.length * 5 := by rw [size_flatK, List.size_toArray] at ht; exact ht
 have h1 : t / 5 < es.length := by omega
 have h2 : t % 5 < 5 := Nat.mod_lt _ (by decide)
 rw [get_flatK _ _ _ t (by simpa using ht')]
 have e := flat_atS es (t / 5) (t % 5) es[t / 5] (es[t / 5].cells[t % 5]'(by exact h2)) (List.getElem?_eq_getElem h1) (List.getElem?_eq_getElem _)
 rw [show t / 5 * 5 + t % 5 = t by omega] at e
 have e1 : es.toArray[t / 5]! = es[t / 5] := by rw [getElem!_pos es.toArray (t / 5) (by simpa using h1)]; simp
 have e2 : (es.flatMap Sb.cells).toArray[t]! = es[t / 5].cells[t % 5]'(by exact h2) := by
  rw [getElem!_pos (es.flatMap Sb.cells).toArray t (by rw [List.size_toArray, flat_len]; exact ht')]
  have := (List.getElem?_eq_some_iff.1 e).2
  simpa using this
 rw [e1, e2, getElem!_pos (es[t / 5].cells) (t % 5) (by exact h2)]
theorem sort_uniq {d' : Array Sb} {out q : List Sb} (hp : PermIn 0 out.toArray.size out.toArray d') (hs : SortedIn (ltOf cmpS) 0 out.toArray.size d') (hq : Sorted q) (ho : out.Perm q) : d'.toList = q := by
 obtain ⟨hsz, _, hp⟩ := hp
 have hp' : d'.toList.Perm out := by
  have e1 : d'.extract 0 out.toArray.size = d' := by rw [← hsz]; simp
  have e2 : out.toArray.extract 0 out.toArray.size = out.toArray := by simp
  rw [e1, e2] at hp
  simpa using hp
 have hpq := hp'.trans ho
 have hne : d'.toList.Pairwise fun a b => ¬ (a.cl = b.cl ∧ a.id = b.id) := (hpq.pairwise_iff (fun {a b} h hh => h ⟨hh.1.symm, hh.2.symm⟩)).2 (hq.imp fun {a b} h => by rw [before_iff] at h; omega)
 refine sorted_perm_eq hpq (List.pairwise_iff_getElem.2 fun i j hi hj hij => ?_) hq
 have h1 := List.pairwise_iff_getElem.1 hne i j hi hj hij
 have hj' : j < d'.size := by simpa using hj
 have hi' : i < d'.size := by simpa using hi
 have h2 := hs i j (Nat.zero_le _) hij (by rw [← hsz]; exact hj')
 rw [ltOf_cmpS, getElem!_pos d' j hj', getElem!_pos d' i hi'] at h2
 have e1 : d'.toList[i] = d'[i] := by simp
 have e2 : d'.toList[j] = d'[j] := by simp
 rw [e1, e2] at h1 ⊢
 have h3 : ¬ (d'[j].cl < d'[i].cl ∨ d'[j].cl = d'[i].cl ∧ d'[j].id < d'[i].id) := fun h => by rw [before_iff.2 h] at h2; cases h2
 rw [before_iff]
 omega
theorem put_take (cur : Array Value) (F : List Value) (h : F.length ≤ cur.size) : ((putCells id 0 F.toArray cur).toList.take F.length) = F := by
 refine List.ext_getElem? fun t => ?_
 rw [List.getElem?_take]
 split
 ·next ht =>
  unfold putCells
  rw [Array.getElem?_toList, Array.getElem?_mapIdx, Array.getElem?_eq_getElem (by omega : t < cur.size)]
  simp only [Option.map_some, id_eq, Nat.zero_le, Nat.zero_add, List.size_toArray, ht, and_self, if_true, Nat.sub_zero]
  rw [getElem!_pos F.toArray t (by simpa using ht), List.getElem?_eq_getElem ht]
  simp
 ·next ht => exact (List.getElem?_eq_none (by omega)).symm
theorem sort_calls {W : World} {v : Value} {out q : List Sb} (h : W.ownsRow 0 29 5 v out.length (out.flatMap Sb.cells)) (hq : Sorted q) (ho : out.Perm q) (hl : out.length ≤ 100000000) :
  Calls Try.prog 27 #[v, .func (.func 28) #[] #[]] W fun e w' => e = .returned (.tuple #[]) ∧ Hold W w' (ats [rowS v out]) [rowS v q] := by
 have hlq := ho.length_eq
 by_cases h0 : out.length = 0
 ·have e1 : out = [] := List.eq_nil_of_length_eq_zero h0
  have e2 : q = [] := List.eq_nil_of_length_eq_zero (by omega)
  subst e1
  subst e2
  obtain ⟨A, c, rfl⟩ := own_slice h
  have hcon := AnyF.slices_SortFunc_none (P := Try.prog) { Try.lSort with } A c (.func (.func 28) #[] #[]) W
  change Calls Try.prog 27 _ _ _ at hcon
  refine hcon.mono ?_
  rintro e w' ⟨rfl, rfl⟩
  exact ⟨rfl, Hold.turned rfl rfl rfl (Nat.le_refl _) (fun _ _ _ => rfl) h fun k hk => .inr hk⟩
 ·rcases h.2 with ⟨_, h1⟩ | ⟨g, cap, cur, rfl, hb0, hb, hle, hcm, hcs, htk⟩
  ·exact absurd h1 h0
  ·have eg : ∀ args w, (callFunc 28 args).run Try.prog w = .ok (.enter 28 args) w := enters_of Try.func28 (by kernel_rfl) rfl
   have hH : HoldsK Sb.cells 5 W g 0 out.toArray := by
    unfold HoldsK
    rw [flat_eq]
    intro t ht
    have ht' : t < (out.flatMap Sb.cells).length := by simpa using ht
    refine ⟨?_, blk_frozen hb _⟩
    rw [blk_cell hb, getElem!_pos _ t ht]
    have e0 : (out.flatMap Sb.cells)[t]? = some ((out.flatMap Sb.cells)[t]'ht') := List.getElem?_eq_getElem ht'
    have e : (cur.toList.take (out.length * 5))[t]? = some ((out.flatMap Sb.cells)[t]'ht') := by rw [htk]; exact e0
    rw [List.getElem?_take, if_pos (by rw [← flat_len]; exact ht'), Array.getElem?_toList] at e
    rw [Nat.zero_add, e]
    simp
   have hcon := AnyQ.slices_SortFunc Try.lSort 5 Try.isAgg29 Try.sizeOf29 Sb.cells (fun _ => rfl) (fun x v hv => by simp at hv; rcases hv with rfl | rfl | rfl | rfl | rfl <;> rfl) cmpS swoS 28 #[] g 0 cap out.toArray W eg (cmpLaysS g 0 out.toArray.size W) hH (blk_lt hb) (by simp; omega)
   change Calls Try.prog 27 _ _ _ at hcon
   have hsz : out.toArray.size = out.length := by simp
   rw [hsz] at hcon
   refine hcon.mono ?_
   rintro e w' ⟨rfl, d', n, os, hp, hs, rfl⟩
   have hd := sort_uniq (by rw [hsz]; exact hp) (by rw [hsz]; exact hs) hq ho
   have hF : flatK Sb.cells 5 d' = (q.flatMap Sb.cells).toArray := by rw [← hd, ← flat_eq]
   have hgl := blk_lt hb
   have hFl : (q.flatMap Sb.cells).length ≤ cur.size := by rw [flat_len, ← hlq]; omega
   have hblk : (sortWorldK Sb.cells 5 W g 0 n d' os).heap[g]? = some (.cells (putCells id 0 (q.flatMap Sb.cells).toArray cur) 29 (0, 0)) := by
    show ((W.heap.modify g (onCells (putCells id 0 (flatK Sb.cells 5 d')))) ++ os)[g]? = _
    rw [Array.getElem?_append_left (by simpa using hgl), Array.getElem?_modify, if_pos rfl, hb, hF]
    rfl
   refine ⟨rfl, Hold.turned rfl rfl rfl ?_ (fun k hk hne => ?_) ?_ fun k hk => .inr hk⟩
   ·show W.heap.size ≤ ((W.heap.modify g _) ++ os).size
    simp
   ·have hne' : g ≠ k := fun e => hne (by subst e; exact Option.mem_toList.2 rfl)
    show ((W.heap.modify g _) ++ os)[k]? = _
    rw [Array.getElem?_append_left (by simpa using hk), Array.getElem?_modify, if_neg hne']
   ·refine ⟨flat_len q, .inr ⟨g, cap, _, by rw [hlq], Nat.zero_le _, hblk, by omega, hcm, ?_, ?_⟩⟩
    ·rw [show (putCells id 0 (q.flatMap Sb.cells).toArray cur).size = cur.size by simp [putCells]]
     exact hcs
    ·rw [← flat_len]
     exact put_take cur _ hFl
end Go.Proofs.Ytkgedjaihimafaa

/- Which subscriptions are picked: some, Of, Client, walked. (This text is printed by wip/gen/sub3.py.) -/
namespace Go.Proofs.Ytkgedjaihimafaa
set_option linter.unusedVariables false
set_option linter.unusedSimpArgs false
open Go.RowKit Go.Lib Go.Maps Go.Proofs.YtkgedjaihimafaaW.PrintWords Go.Proofs.YtkgedjaihimafaaW.PrintLast Go.Proofs.YtkgedjaihimafaaW.PrintMore Go.Extern.Stop Go.Stop Go.Extern
theorem Try.infoSub : (Try.prog.info? 29).map (fun i => (i.zero, i.size, i.bytes)) = some (some (.agg #[.int .u32 0, .int .u32 0, .string ⟨#[]⟩, .int .u64 0, .int .u64 0]), 5, 40) := by kernel_rfl
theorem rowS_more (v : Value) (es : List Sb) (e : Sb) : Own.row 29 5 v (es.length + 1) (es.flatMap Sb.cells ++ e.cells) = rowS v (es ++ [e]) := by
 unfold rowS
 rw [List.length_append, List.flatMap_append]
 simp
theorem is_range {P : Program} {ops : Array Oper} {rest : List Oper} {o : Oper} {a : Act} {Q : Exit → Act → World → Prop} {W : World} {ty : TypeId} {x : Operand} (_ho : o.op = .range ty x) (h : wpList P ops Q (o :: rest) a W) : wpList P ops Q (o :: rest) a W := h
theorem is_next {P : Program} {ops : Array Oper} {rest : List Oper} {o : Oper} {a : Act} {Q : Exit → Act → World → Prop} {W : World} {x : Operand} {s : Bool} (_ho : o.op = .next x s) (h : wpList P ops Q (o :: rest) a W) : wpList P ops Q (o :: rest) a W := h
theorem left_step {v : Sb} : ∀ {m : List Sb}, Sorted m → v ∈ m → ∀ {L L' : Sb → Bool}, (∀ s ∈ m, s ≠ v → L' s = L s) → L v = false → L' v = true → (m.filter L').Perm (v :: m.filter L)
 | [], _, h, _, _, _, _, _ => by cases h
 | x :: r, hs, hv, L, L', h1, h2, h3 => by
  have h0 := List.pairwise_cons.1 hs
  rw [List.filter_cons, List.filter_cons]
  by_cases hx : x = v
  ·subst hx
   have hr : r.filter L' = r.filter L := List.filter_congr fun s hs' => h1 s (List.mem_cons_of_mem _ hs') fun e => by
    have := before_iff.1 (h0.1 s hs'); rw [e] at this; omega
   rw [h2, h3, hr]
   exact List.Perm.refl _
  ·have hvr : v ∈ r := by
    rcases List.mem_cons.1 hv with h | h
    ·exact absurd h.symm hx
    ·exact h
   have ih := left_step h0.2 hvr (fun s hs' => h1 s (List.mem_cons_of_mem _ hs')) h2 h3
   rw [h1 x (List.mem_cons_self ..) hx]
   cases L x
   ·exact ih
   ·exact (ih.cons x).trans (List.Perm.swap _ _ _)
structure SLoop (w W : World) (tb b N pb r : Nat) (m : List Sb) (cv : Value) (ct : TypeId) (pf : Sb → Bool) (left : Lit → Bool) (cnt : Nat) (out : List Sb) (vo : Value) : Prop where
 H : Hold w W (ats [tbO tb b, tbM b N m, cl pb [cv] ct]) [rowS vo out, subMap.loop b r N (fun p => fnd m p.1 p.2) m.length left cnt, tbO tb b, cl pb [cv] ct]
 perm : out.Perm ((m.filter fun s => !left (keyL (s.cl, s.id))).filter pf)
theorem step_perm {m : List Sb} (hs : Sorted m) (hok : ∀ s ∈ m, okKey (s.cl, s.id)) {pf : Sb → Bool} {left left' : Lit → Bool} {out : List Sb} (h : out.Perm ((m.filter fun s => !left (keyL (s.cl, s.id))).filter pf)) {k : Int × Int} {v : Sb} (hf : fnd m k.1 k.2 = some v)
  (hlk : left (keyL k) = true) (h1 : ∀ k', okKey k' → k' ≠ k → left' (keyL k') = left (keyL k')) (h2 : left' (keyL k) = false) : (if pf v = true then out ++ [v] else out).Perm ((m.filter fun s => !left' (keyL (s.cl, s.id))).filter pf) := by
 obtain ⟨hm, h3, h4⟩ := fnd_mem hf
 have hk : (v.cl, v.id) = k := by rw [h3, h4]
 have hp := (left_step hs hm (L := fun s => !left (keyL (s.cl, s.id))) (L' := fun s => !left' (keyL (s.cl, s.id))) (fun s hs' hne => by
  show (!left' (keyL (s.cl, s.id))) = !left (keyL (s.cl, s.id))
  rw [h1 _ (hok s hs') fun e => hne (sorted_uniq hs hs' hm (c := v.cl) (i := v.id) (Sb.is_iff.2 (by rw [← hk] at e; exact ⟨congrArg Prod.fst e, congrArg Prod.snd e⟩)) (Sb.is_self v))]) (by show (!left (keyL (v.cl, v.id))) = false; rw [hk, hlk]; rfl) (by show (!left' (keyL (v.cl, v.id))) = true; rw [hk, h2]; rfl)).filter pf
 refine List.Perm.trans ?_ hp.symm
 rw [List.filter_cons]
 split
 ·exact (List.perm_append_comm.trans (List.Perm.refl _)).trans (h.cons v)
 ·exact h
theorem done_perm {m : List Sb} {pf : Sb → Bool} {left : Lit → Bool} {out : List Sb} (h : out.Perm ((m.filter fun s => !left (keyL (s.cl, s.id))).filter pf)) (hl : ∀ kl, left kl = false) : out.Perm (m.filter pf) := by
 have e : (m.filter fun s => !left (keyL (s.cl, s.id))) = m := List.filter_eq_self.2 fun s _ => by rw [hl]; rfl
 rw [e] at h
 exact h
set_option maxHeartbeats 2000000 in
set_option maxRecDepth 100000 in
theorem pickC_calls (W : World) (pb : Nat) (c : Int) (s : Sb) (hp : W.heap[pb]? = some (.cells #[.int .u32 c] 23 (0, 0))) : Calls Try.prog 25 #[.agg s.cells.toArray, .pointer (some ⟨pb, 0, none⟩)] W fun e w' => e = .returned (.bool ((fun s : Sb => s.cl == c) s)) ∧ Below W.heap.size W w' := by
 refine of_post0 fun R hRR => ?_
 have HP := Lib.hid hRR
 have q0 := blk_cell hp 0
 have hlt := blk_lt hp
 have hlt1 : pb < W.heap.size + 1 := by omega
 simp at q0
 have H : Hold W W [] [] := Hold.nothing (Kept.refl _ _)
 have q1 := fun (W' : World) (t : List Own) (h : Hold W W' [] t) => pw_cell_below h.all q0
 clear hRR
 go_enter Try.func25, Try.ntmps25
 go_wp2_with (first
  | ((with_reducible refine is_box rfl ?_); refine box_h H rfl rfl rfl rfl ?_; clear H; intro gs w_ H; have q2 := q1 _ _ H)
  | ((with_reducible refine is_load rfl ?_); refine loadf_h H rfl rfl rfl (by repeat (first | exact List.Mem.head _ | apply List.Mem.tail)) rfl (by kernel_rfl) ?_))
 exact HP.out _ _ ⟨by first | rfl | simp, H.all⟩
set_option maxHeartbeats 2000000 in
set_option maxRecDepth 100000 in
theorem someC_calls (w : World) (tb b N pb : Nat) (m : List Sb) (c : Int) (h : IsT w tb b N m) (hp : (cl pb [.int .u32 c] 23).ok w) (hn1 : pb ≠ tb) (hn2 : pb ≠ b) (hs : Sorted m) (hok : ∀ s ∈ m, okKey (s.cl, s.id)) (hl : m.length ≤ 1000000) : Calls Try.prog 24 #[.pointer (some ⟨tb, 0, none⟩), .func (.func 25) #[] #[.pointer (some ⟨pb, 0, none⟩)]] w fun e w' => ∃ v, e = .returned v ∧ Hold w w' (ats [tbO tb b, tbM b N m, cl pb [.int .u32 c] 23]) [rowS v (m.filter (fun s : Sb => s.cl == c)), tbO tb b, tbM b N m, cl pb [.int .u32 c] 23] := by
 refine of_post0 fun R hRR => ?_
 have HP := Lib.hid hRR
 have H1 : Hold w w (ats [tbO tb b, tbM b N m, cl pb [.int .u32 c] 23]) [tbO tb b, tbM b N m, cl pb [.int .u32 c] 23] := Hold.start (fun o ho => by
  rcases List.mem_cons.1 ho with rfl | ho
  ·exact h.blk
  ·rcases List.mem_cons.1 ho with rfl | ho
   ·exact h.map
   ·rw [List.mem_singleton.1 ho]; exact hp)
  (List.Pairwise.cons (fun x hx k hk hk2 => by
   obtain rfl : k = tb := List.mem_singleton.1 hk
   rcases List.mem_cons.1 hx with rfl | hx
   ·exact h.ne (List.mem_singleton.1 hk2)
   ·rw [List.mem_singleton.1 hx] at hk2; exact hn1 (List.mem_singleton.1 hk2).symm) (List.Pairwise.cons (fun x hx k hk hk2 => by
   obtain rfl : k = b := List.mem_singleton.1 hk
   rw [List.mem_singleton.1 hx] at hk2; exact hn2 (List.mem_singleton.1 hk2).symm) (pair1 _)))
 have H : Hold w w (ats [tbO tb b, tbM b N m, cl pb [.int .u32 c] 23]) [rowS nilS [], tbO tb b, tbM b N m, cl pb [.int .u32 c] 23] := Hold.push (l1 := [rowS nilS []]) H1 (Hold.made (Below.refl _ _) (World.ownsRow_nil _ _ _ _) (fun k hk => by cases hk))
 have HSO := Lib.hid (And.intro hs hok)
 have HLN0 := Lib.hid hl
 clear hRR h hp hn1 hn2 hs hok hl H1
 go_enter Try.func24, Try.ntmps24
 go_wp2_with (first
  | ((with_reducible refine is_load rfl ?_); refine loadf_h H rfl rfl rfl (by repeat (first | exact List.Mem.head _ | apply List.Mem.tail)) rfl (by kernel_rfl) ?_)
  | ((with_reducible refine is_range rfl ?_); refine range_h subMap H rfl rfl (b := b) rfl (fun y => (by repeat (first | exact Put.head | apply Put.tail))) ?_; clear H; intro r left w_ hleft H))
 go_frame
 go_loopg [5] m.length (fun k v5 wr => ∃ (left : Lit → Bool) (cnt : Nat) (out : List Sb) (Ao : Option Addr) (co : Nat), v5 = .slice Ao out.length co ∧ cnt ≤ k ∧ Aside0 (SLoop w wr tb b N pb r m (.int .u32 c) 23 (fun s : Sb => s.cl == c) left cnt out (.slice Ao out.length co)))
 case atStart =>
  refine ⟨left, m.length, [], none, 0, rfl, Nat.le_refl _, Aside0.mk ⟨H.want (l' := [rowS nilS [], subMap.loop b r N (fun p => fnd m p.1 p.2) m.length left m.length, tbO tb b, cl pb [.int .u32 c] 23]) (Want.take (by repeat (first | exact Pull.head | apply Pull.tail)) (Want.take (by repeat (first | exact Pull.head | apply Pull.tail)) (Want.take (by repeat (first | exact Pull.head | apply Pull.tail)) (Want.take (by repeat (first | exact Pull.head | apply Pull.tail)) (Want.done (s := []) (by repeat (first | exact Suf.refl | apply Suf.cons))))))), ?_⟩⟩
  rw [show (m.filter fun s => !left (keyL (s.cl, s.id))) = [] from List.filter_eq_nil_iff.2 fun s hs' => by
   have h1 := hleft (s.cl, s.id) (HSO.out.2 s hs')
   have h2 := fnd_of_mem HSO.out.1 hs'
   show ¬ (!left (subMap.kl (s.cl, s.id))) = true
   rw [h1]
   show ¬ (!(fnd m s.cl s.id).isSome) = true
   rw [h2]
   simp]
  exact List.Perm.refl _
 case round =>
  obtain ⟨left2, cnt, out, Ao, co, rfl, hck, hS⟩ := hrel
  have HSL := Lib.hid hS.out
  clear hS H hleft
  have H := HSL.out.H
  have hlen : out.length ≤ m.length := by
   have := HSL.out.perm.length_eq
   have h1 := List.length_filter_le (fun s : Sb => s.cl == c) (m.filter fun s => !left2 (keyL (s.cl, s.id)))
   have h2 := List.length_filter_le (fun s => !left2 (keyL (s.cl, s.id))) m
   omega
  have HLN := Lib.hid (show out.length ≤ 1000000 by have := HLN0.out; omega)
  clear hlen
  go_wp2_with (first
   | ((with_reducible refine is_next rfl ?_); refine next_h subMap H rfl rfl rfl (fun y => (by repeat (first | exact Put.head | apply Put.tail))) ?_ ?_; (intro hc0 hl0; replace H := H.looped (by repeat (first | exact Put.head | apply Put.tail))); rotate_left; (clear H; intro kk vv left' cnt' w_ hkk hlk hfk hl1 hl2 hlt H hen; have HNX := Lib.hid (And.intro hkk (And.intro hlk (And.intro hfk (And.intro hl1 (And.intro hl2 hlt))))); clear hkk hlk hfk hl1 hl2 hlt; simp only [subMap] at hen ⊢); rotate_left)
   | (go_at_call 27; refine (sort_calls (H.ok (rowS (.slice Ao out.length co) out) (by repeat (first | exact List.Mem.head _ | apply List.Mem.tail))) (HSO.out.1.rem (fun s : Sb => s.cl == c)) (done_perm HSL.out.perm hl0) (by have := HLN.out; omega)).mono ?_; rintro e_ w_ ⟨rfl, h_⟩; replace H := Hold.call (H.pull1 (by repeat (first | exact Pull.head | apply Pull.tail))) h_; clear h_)
   | ((with_reducible refine is_alloc (ty := 29) rfl ?_); refine alloc_h H rfl rfl (cs := [.int .u32 0, .int .u32 0, .string ⟨#[]⟩, .int .u64 0, .int .u64 0]) (by first | (go_simp; done) | (go_simp; rfl)) ?_; clear H; intro gs w_ H)
   | ((with_reducible refine is_store (ty := 29) rfl ?_); refine store_h H rfl rfl rfl rfl (u := .agg #[.int .u32 vv.cl, .int .u32 vv.id, .string vv.tp, .int .u64 vv.fr, .int .u64 vv.nx]) rfl (by repeat (first | exact Put.head | apply Put.tail)) (by kernel_rfl) (Nat.le_of_ble_eq_true rfl) rfl ?_; clear H; intro w_ H; simp only [setC, Value.cells, List.toList_toArray] at H)
   | ((with_reducible refine is_load (ty := 29) rfl ?_); refine load_h H rfl rfl rfl (by repeat (first | exact List.Mem.head _ | apply List.Mem.tail)) (by kernel_rfl) (by kernel_rfl) ?_)
   | (go_at_call 25; refine (pickC_calls _ pb c vv (H.blk (cs := [.int .u32 c]) (by repeat (first | exact List.Mem.head _ | apply List.Mem.tail)))).mono ?_; rintro e_ w_ ⟨rfl, h_⟩; replace H := H.below h_; clear h_; obtain ⟨pv, hpv⟩ : ∃ pv, (fun s : Sb => s.cl == c) vv = pv := ⟨_, rfl⟩; rw [hpv]; have HPV := Lib.hid hpv; clear hpv; cases pv)
   | ((with_reducible refine is_lit rfl ?_); refine onerow_h H rfl (e := 29) (cs := [.int .u32 vv.cl, .int .u32 vv.id, .string vv.tp, .int .u64 vv.fr, .int .u64 vv.nx]) (by first | (go_simp; done) | (go_simp; rfl)) ?_; clear H; intro gl w_ H)
   | ((with_reducible refine is_call rfl ?_); refine appends_h H rfl rfl Try.underlying22 Try.infoSub rfl (by decide) rfl rfl (g := gl) (by repeat (first | exact List.Mem.head _ | apply List.Mem.tail)) rfl rfl (fun y => (by repeat (first | exact Put.head | apply Put.tail))) (by have := HLN.out; omega) (by have := HLN.out; omega) ?_; clear H; intro vo2 w_ H))
  ·exact HP.out _ _ ⟨_, rfl, H.want (Want.take (by repeat (first | exact Pull.head | apply Pull.tail)) (Want.take (by repeat (first | exact Pull.head | apply Pull.tail)) (Want.take (by repeat (first | exact Pull.head | apply Pull.tail)) (Want.take (by repeat (first | exact Pull.head | apply Pull.tail)) (Want.done (s := []) (by repeat (first | exact Suf.refl | apply Suf.cons)))))))⟩
  ·have hlt := HNX.out.2.2.2.2.2
   cases gk with
   | zero => omega
   | succ k =>
    go_roundg k
    case measure => omega
    case rel =>
     refine ⟨left', cnt', out, Ao, co, by first | rfl | simp, by omega, Aside0.mk ⟨?_, ?_⟩⟩
     ·exact H.want (l' := [rowS (.slice Ao out.length co) out, subMap.loop b r N (fun p => fnd m p.1 p.2) m.length left' cnt', tbO tb b, cl pb [.int .u32 c] 23]) (Want.take (by repeat (first | exact Pull.head | apply Pull.tail)) (Want.take (by repeat (first | exact Pull.head | apply Pull.tail)) (Want.take (by repeat (first | exact Pull.head | apply Pull.tail)) (Want.take (by repeat (first | exact Pull.head | apply Pull.tail)) (Want.done (s := []) (by repeat (first | exact Suf.refl | apply Suf.cons)))))))
     ·have h := step_perm HSO.out.1 HSO.out.2 HSL.out.perm HNX.out.2.2.1 HNX.out.2.1 HNX.out.2.2.2.1 HNX.out.2.2.2.2.1
      rw [HPV.out] at h
      simpa using h
  ·obtain ⟨Ao2, co2, e2⟩ := own_slice (H.ok (.row 29 5 vo2 (out.length + 1) (out.flatMap Sb.cells ++ vv.cells)) (by repeat (first | exact List.Mem.head _ | apply List.Mem.tail)))
   subst e2
   have hlt := HNX.out.2.2.2.2.2
   cases gk with
   | zero => omega
   | succ k =>
    go_roundg k
    case measure => omega
    case rel =>
     refine ⟨left', cnt', out ++ [vv], Ao2, co2, by first | rfl | simp, by omega, Aside0.mk ⟨?_, ?_⟩⟩
     ·have H3 := H.want (l' := [.row 29 5 (.slice Ao2 (out.length + 1) co2) (out.length + 1) (out.flatMap Sb.cells ++ vv.cells), subMap.loop b r N (fun p => fnd m p.1 p.2) m.length left' cnt', tbO tb b, cl pb [.int .u32 c] 23]) (Want.take (by repeat (first | exact Pull.head | apply Pull.tail)) (Want.take (by repeat (first | exact Pull.head | apply Pull.tail)) (Want.take (by repeat (first | exact Pull.head | apply Pull.tail)) (Want.take (by repeat (first | exact Pull.head | apply Pull.tail)) (Want.done (s := []) (by repeat (first | exact Suf.refl | apply Suf.cons)))))))
      rw [rowS_more] at H3
      rw [show (out ++ [vv]).length = out.length + 1 by simp]
      exact H3
     ·have h := step_perm HSO.out.1 HSO.out.2 HSL.out.perm HNX.out.2.2.1 HNX.out.2.1 HNX.out.2.2.2.1 HNX.out.2.2.2.2.1
      rw [HPV.out] at h
      simpa using h
end Go.Proofs.Ytkgedjaihimafaa
