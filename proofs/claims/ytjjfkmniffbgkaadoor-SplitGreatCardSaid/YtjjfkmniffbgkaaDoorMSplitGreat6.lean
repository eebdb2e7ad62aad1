/- Texts of this claim, put together: Ev, Ev2, Hold, Hold2, Hold3, FrmPure, FrmPure2, FrmPure3, FrmPure4, FrmPure5, FrmPure6, FrmPure7, FrmPure8, FrmPure9, Rf1, Rf2, Rf3, Rf4, RfP, Rf5, Rf6, RfSame, Clear2, Eq, FGets, SplitL, Split1, Split2, FrT, Hold4, Hold5. -/
import Derived.Test.YtjjfkmniffbgkaaDoorMSplitGreat2
import Derived.Deep.MidRow
import Derived.Lib.ConvBytes
import Derived.Laws.AppendOwn
import Derived.Test.YtjjfkmniffbgkaaDoorMSplitGreatW1
import Derived.Test.YtjjfkmniffbgkaaDoorMSplitGreat5
import Derived.Lib.SliceRun
import Derived.Lib.LazyBuf
import Derived.Deep.Upon
import Derived.Test.YtjjfkmniffbgkaaDoorProg
import Derived.Laws.CopyOwn
import Derived.Maps.AppendAt
import Derived.Test.YtjjfkmniffbgkaaDoorMSplitGreat0
/- Steps of a walk over structs in blocks: each leaves a world of which only the blocks are told. No program. -/
namespace Go.Proofs.YtjjfkmniffbgkaaDoor
set_option linter.unusedVariables false
set_option linter.unusedSimpArgs false
open Go.RowKit Go.Proofs.YtjjfkmniffbgkaaDoorW.PrintWords
structure Only (g : Nat) (W w1 : World) : Prop where
 os : w1.os = W.os
 tape : w1.tape = W.tape
 output : w1.output = W.output
 size : w1.heap.size = W.heap.size
 block : ∀ k, k ≠ g → w1.heap[k]? = W.heap[k]?
theorem Only.below {g base : Nat} {w0 W w1 : World} (h : Only g W w1) (hb : Below base w0 W) (hg : base ≤ g) : Below base w0 w1 :=
 ⟨h.os.trans hb.os, h.tape.trans hb.tape, h.output.trans hb.output, by rw [h.size]; exact hb.size, fun k hk => (h.block k (by omega)).trans (hb.block k hk)⟩
theorem Only.blk {g k : Nat} {W w1 : World} {o : Obj} (h : Only g W w1) (hk : W.heap[k]? = some o) (hne : k ≠ g) : w1.heap[k]? = some o := (h.block k hne).trans hk
theorem Only.keep {g : Nat} {w W w1 : World} {row : Option Nat} (h : Only g W w1) (hk : KeepBut w W g row) : KeepBut w w1 g row :=
 ⟨by rw [h.size]; exact hk.1, fun i hi hg hr => (h.block i hg).trans (hk.2 i hi hg hr)⟩
theorem Only.far {g g' : Nat} {w W w1 : World} {row : Option Nat} (h : Only g W w1) (hk : KeepBut w W g' row) (hg : w.heap.size ≤ g) : KeepBut w w1 g' row :=
 ⟨by rw [h.size]; exact hk.1, fun i hi hg' hr => (h.block i (by omega)).trans (hk.2 i hi hg' hr)⟩
theorem Only.reads {g : Nat} {W w1 : World} {k : IntKind} {A : Option Addr} {n : Nat} {xs : List Int} (h : Only g W w1) (hR : ReadsInt W k A n xs) (hne : ∀ a, A = some a → a.block ≠ g) : ReadsInt w1 k A n xs := by
 refine ⟨hR.1, hR.2.1, fun hn => ?_⟩
 obtain ⟨ad, e, hc⟩ := hR.2.2 hn
 refine ⟨ad, e, fun j hj => ?_⟩
 rw [← hc j hj]
 have := h.block (ad.add j).block (by rw [add_block]; exact hne ad e)
 simp [World.cell?, this]
section
variable {P : Program} {ops : Array Oper} {rest : List Oper} {o : Oper} {a : Act} {Q : Exit → Act → World → Prop}
theorem load_ev {W : World} (hgd : o.guard = none) {t : TypeId} {x : Operand} (ho : o.op = .load t x) {g : Nat} {cs : Array Value} {ty : TypeId} {d : TypeDesc}
  (hx : a.eval x = .pointer (some ⟨g, 0, none⟩)) (hb : W.heap[g]? = some (.cells cs ty (0, 0))) (hu : P.underlying t = some d) (hd : d.isRow = true) (hi : (P.info? t).map (·.size) = some cs.size)
  (h : wpList P ops Q rest (a.put o.dst (.agg cs)) W) : wpList P ops Q (o :: rest) a W := by
 refine wpList_load_mid hgd t x ho g 0 hx cs.toList d (fun j v hv => ?_) hu hd (by simpa using hi) (by simpa using h)
 rw [Nat.zero_add, blk_cell hb]
 simpa using hv
theorem store_ev {W : World} (hgd : o.guard = none) (hN : o.dst = none) {t : TypeId} {p x : Operand} (ho : o.op = .store t p x) {g k : Nat} {cs cs' : Array Value} {ty : TypeId} {u : Value}
  (hp : a.eval p = .pointer (some ⟨g, k, none⟩)) (hx : a.eval x = u) (hb : W.heap[g]? = some (.cells cs ty (0, 0))) (ht : (P.info? t).map (·.size) = some u.cells.toList.length)
  (hk : k + u.cells.toList.length ≤ cs.size) (h1 : u.cells.toList.all (·.oneCell') = true) (e : cs.toList.take k ++ u.cells.toList ++ cs.toList.drop (k + u.cells.toList.length) = cs'.toList)
  (h : ∀ w1, w1.heap[g]? = some (.cells cs' ty (0, 0)) → Only g W w1 → wpList P ops Q rest a w1) : wpList P ops Q (o :: rest) a W := by
 refine wpList_plain hgd fun K hK => ?_
 have hrun := run_store_run (P := P) t u u.cells.toList hb rfl ht hk (List.all_eq_true.1 h1)
 unfold Oper.wp execOp
 simp only [ho, hp, hx, Sem.run_bind, Sem.run_pure, Result.andThen_ok, hrun]
 show K (a.put o.dst undef) _
 rw [hN]
 obtain ⟨s1, s2, s3, s4⟩ := setCells_same g u.cells.toList k W
 refine hK _ _ (h _ ?_ ⟨s1, s2, s3, s4, fun i hi => setCells_far _ _ i hi⟩)
 obtain ⟨cur, q1, _, q3⟩ := setCells_row u.cells.toList k W cs hb hk
 rw [q1, Array.toList_inj.1 (q3.trans e)]
theorem make_ev {W : World} (hgd : o.guard = none) {cs : Array Value} {t : TypeId}
  (hrun : (execOp a.eval o).run P W = .ok (.value (.pointer (some ⟨W.heap.size, 0, none⟩))) (W.alloc (.cells cs t (0, 0))))
  (h : ∀ g, g = W.heap.size → ∀ w1, w1.heap[g]? = some (.cells cs t (0, 0)) → w1.heap.size = W.heap.size + 1 → Below W.heap.size W w1 → wpList P ops Q rest (a.put o.dst (.pointer (some ⟨g, 0, none⟩))) w1) : wpList P ops Q (o :: rest) a W := by
 refine wpList_plain hgd fun K hK => ?_
 unfold Oper.wp
 rw [hrun]
 exact hK _ _ (h _ rfl _ (blk_new W _) (by simp) (below_alloc (Below.refl _ _) _))
theorem store_ord {Kc : Act → World → Prop} {W : World} (hw : Region.wanted o (yielded ops a.tmps) = true) (hN : o.dst = none) {t : TypeId} {p x : Operand} (ho : o.op = .store t p x) {g k : Nat} {cs cs' : Array Value} {ty : TypeId} {u : Value}
  (hp : a.eval p = .pointer (some ⟨g, k, none⟩)) (hx : a.eval x = u) (hb : W.heap[g]? = some (.cells cs ty (0, 0))) (ht : (P.info? t).map (·.size) = some u.cells.toList.length)
  (hk : k + u.cells.toList.length ≤ cs.size) (h1 : u.cells.toList.all (·.oneCell') = true) (e : cs.toList.take k ++ u.cells.toList ++ cs.toList.drop (k + u.cells.toList.length) = cs'.toList)
  (h : ∀ w1, w1.heap[g]? = some (.cells cs' ty (0, 0)) → Only g W w1 → Kc a w1) : if Region.wanted o (yielded ops a.tmps) = true then Oper.wp P o a W Kc Q else Kc (a.put o.dst undef) W := by
 rw [if_pos hw]
 have hrun := run_store_run (P := P) t u u.cells.toList hb rfl ht hk (List.all_eq_true.1 h1)
 unfold Oper.wp execOp
 simp only [ho, hp, hx, Sem.run_bind, Sem.run_pure, Result.andThen_ok, hrun]
 show Kc (a.put o.dst undef) _
 rw [hN]
 obtain ⟨s1, s2, s3, s4⟩ := setCells_same g u.cells.toList k W
 refine h _ ?_ ⟨s1, s2, s3, s4, fun i hi => setCells_far _ _ i hi⟩
 obtain ⟨cur, q1, _, q3⟩ := setCells_row u.cells.toList k W cs hb hk
 rw [q1, Array.toList_inj.1 (q3.trans e)]
theorem loadf_ev {W : World} (hgd : o.guard = none) {t : TypeId} {x : Operand} (ho : o.op = .load t x) {g k : Nat} {cs : Array Value} {ty : TypeId} {d : TypeDesc} {v : Value}
  (hx : a.eval x = .pointer (some ⟨g, k, none⟩)) (hb : W.heap[g]? = some (.cells cs ty (0, 0))) (hv : cs[k]? = some v) (hu : P.underlying t = some d) (hd : d.isRow = false)
  (h : wpList P ops Q rest (a.put o.dst v) W) : wpList P ops Q (o :: rest) a W := by
 refine wpList_plain hgd fun K hK => ?_
 have hc : W.cell? ⟨g, k, none⟩ = some v := (blk_cell hb k).trans hv
 have hagg : (isAgg t).run P W = .ok false W := by
  unfold isAgg
  rw [Sem.run_bind, run_underlying hu W]
  cases d <;> simp_all
 unfold Oper.wp execOp
 simp [ho, hx, Instr.loadAt, Instr.sureAddr, loadVar, Sem.run_bind, hagg, hc]
 exact hK _ _ h
theorem bytes_ev {W : World} (hgd : o.guard = none) {src dst e : TypeId} {x : Operand} (ho : o.op = .convert src dst x) {s : ByteArray} (l : List Int) (hx : a.eval x = .string s) {u : TypeDesc}
  (hs : P.underlying src = some u) (hd : P.underlying dst = some (.slice e)) (he : P.underlying e = some (.int .u8)) (hl : s.size = l.length) (hb : bytesOf s = l) (hm : l.length ≤ 9223372036854775807)
  (h : ∀ g c, g = W.heap.size → l.length ≤ c → ∀ w1, ReadsInt w1 .u8 (some ⟨g, 0, none⟩) l.length l → g < w1.heap.size → Below W.heap.size W w1 → wpList P ops Q rest (a.put o.dst (.slice (some ⟨g, 0, none⟩) l.length c)) w1) : wpList P ops Q (o :: rest) a W := by
 refine wpList_plain hgd fun K hK => ?_
 have hrun := print_bytes (P := P) src dst e hs hd he s W
 have hr := bytes_reads W e s (by omega)
 rw [hl, hb] at hr
 rw [hl] at hrun
 unfold Oper.wp execOp
 simp only [ho, hx, Sem.run_bind, Sem.run_pure, Result.andThen_ok, hrun]
 exact hK _ _ (h _ _ rfl (grownCap_ge _ _ _ _) _ hr (by rw [Lib.bytesWorld_size]; omega) (bytes_below (Below.refl _ _) (Nat.le_refl _) e s))
end

inductive Own where
 | obj (g : Nat) (o : Obj)
 | row (e : TypeId) (size : Nat) (v : Value) (n : Nat) (xs : List Value)
 | rd (k : IntKind) (A : Option Addr) (n : Nat) (xs : List Int)
 | thing (bs : List Nat) (p : World → Prop) (st : ∀ W W1 : World, p W → (∀ k ∈ bs, W1.heap[k]? = W.heap[k]?) → p W1) (lt : ∀ (W : World) (k : Nat), p W → k ∈ bs → k < W.heap.size)
abbrev cl (g : Nat) (cs : List Value) (ty : TypeId) : Own := .obj g (.cells cs.toArray ty (0, 0))
abbrev nrow (e : TypeId) (v : Value) (k : IntKind) (xs : List Int) : Own := .row e 1 v xs.length (nums k xs)
def Own.at_ : Own → List Nat
 | .obj g _ => [g]
 | .row _ _ v _ _ => v.ownBlock.toList
 | .rd _ A n _ => if n = 0 then [] else (A.map (·.block)).toList
 | .thing bs _ _ _ => bs
def Own.ok (W : World) : Own → Prop
 | .obj g o => W.heap[g]? = some o
 | .row e size v n xs => W.ownsRow 0 e size v n xs
 | .rd k A n xs => ReadsInt W k A n xs
 | .thing _ p _ _ => p W
def ats (l : List Own) : List Nat := l.flatMap Own.at_
structure Kept (W W1 : World) (ts : List Nat) : Prop where
 os : W1.os = W.os
 tape : W1.tape = W.tape
 output : W1.output = W.output
 size : W.heap.size ≤ W1.heap.size
 block : ∀ k, k < W.heap.size → k ∉ ts → W1.heap[k]? = W.heap[k]?
structure Hold (w W : World) (t : List Nat) (l : List Own) : Prop where
 kept : Kept w W t
 ok : ∀ o ∈ l, o.ok W
 apart : l.Pairwise fun a b => ∀ k ∈ a.at_, k ∉ b.at_
 mine : ∀ o ∈ l, ∀ k ∈ o.at_, w.heap.size ≤ k ∨ k ∈ t
theorem Kept.refl (W : World) (ts : List Nat) : Kept W W ts := ⟨rfl, rfl, rfl, Nat.le_refl _, fun _ _ _ => rfl⟩
theorem Kept.below {W W1 : World} (h : Kept W W1 []) : Below W.heap.size W W1 := ⟨h.os, h.tape, h.output, h.size, fun k hk => h.block k hk (by simp)⟩
theorem Kept.of_below {W W1 : World} (h : Below W.heap.size W W1) : Kept W W1 [] := ⟨h.os, h.tape, h.output, h.size, fun k hk _ => h.block k hk⟩
theorem Own.ok.lt {W : World} {o : Own} (h : o.ok W) {k : Nat} (hk : k ∈ o.at_) : k < W.heap.size := by
 cases o with
 | obj g o => obtain rfl := List.mem_singleton.1 hk; exact (Array.getElem?_eq_some_iff.1 h).1
 | row e size v n xs => exact own_lt h k (Option.mem_toList.1 hk)
 | rd kk A n xs =>
  have hk' : k ∈ (if n = 0 then [] else (A.map (·.block)).toList) := hk
  split at hk'
  ·cases hk'
  ·obtain ⟨ad, rfl, hc⟩ := h.2.2 (by omega)
   simp only [Option.map_some, Option.mem_toList, Option.mem_def, Option.some.injEq] at hk'
   have := World.block_lt_of_cell? W _ (hc 0 (by omega))
   rw [add_block] at this
   omega
 | thing b p st lt => exact lt W k h hk
theorem Own.ok.kept {W W1 : World} {o : Own} (h : o.ok W) (hb : ∀ k ∈ o.at_, W1.heap[k]? = W.heap[k]?) : o.ok W1 := by
 cases o with
 | obj g o => exact (hb g (List.mem_singleton.2 rfl)).trans h
 | row e size v n xs =>
  refine ⟨h.1, ?_⟩
  rcases h.2 with h2 | ⟨g, cap, cur, rfl, h3, h4, h5⟩
  ·exact .inl h2
  ·exact .inr ⟨g, cap, cur, rfl, h3, (hb g (Option.mem_toList.2 rfl)).trans h4, h5⟩
 | rd kk A n xs =>
  refine ⟨h.1, h.2.1, fun hn => ?_⟩
  obtain ⟨ad, rfl, hc⟩ := h.2.2 hn
  refine ⟨ad, rfl, fun j hj => ?_⟩
  rw [← hc j hj]
  refine World.cell?_of_block ?_
  rw [add_block]
  refine hb _ ?_
  show ad.block ∈ (if n = 0 then [] else ((some ad).map (·.block)).toList)
  rw [if_neg (by omega)]
  exact Option.mem_toList.2 rfl
 | thing b p st lt => exact st W W1 h hb
theorem Hold.start {W : World} {l : List Own} (ok : ∀ o ∈ l, o.ok W) (ap : l.Pairwise fun a b => ∀ k ∈ a.at_, k ∉ b.at_) : Hold W W (ats l) l :=
 ⟨Kept.refl _ _, ok, ap, fun o ho k hk => .inr (List.mem_flatMap.2 ⟨o, ho, hk⟩)⟩
theorem no_own {p : Own → Prop} : ∀ o ∈ ([] : List Own), p o := fun _ h => by cases h
theorem Hold.nothing {W W1 : World} (h : Kept W W1 []) : Hold W W1 [] [] := ⟨h, no_own, List.Pairwise.nil, no_own⟩
theorem Hold.call {w W W1 : World} {t : List Nat} {l0 l1 r : List Own} (H : Hold w W t (l0 ++ r)) (C : Hold W W1 (ats l0) l1) : Hold w W1 t (l1 ++ r) := by
 have hr : ∀ o ∈ r, ∀ k ∈ o.at_, k ∉ ats l0 ∧ k < W.heap.size := fun o ho k hk => by
  refine ⟨fun hm => ?_, (H.ok o (List.mem_append_right _ ho)).lt hk⟩
  obtain ⟨o0, h0, hk0⟩ := List.mem_flatMap.1 hm
  exact (List.pairwise_append.1 H.apart).2.2 o0 h0 o ho k hk0 hk
 refine ⟨⟨C.kept.os.trans H.kept.os, C.kept.tape.trans H.kept.tape, C.kept.output.trans H.kept.output, Nat.le_trans H.kept.size C.kept.size, fun k hk hn => ?_⟩, fun o ho => ?_, List.pairwise_append.2 ⟨C.apart, (List.pairwise_append.1 H.apart).2.1, fun a ha b hb k hka hkb => ?_⟩, fun o ho k hk => ?_⟩
 ·refine (C.kept.block k (Nat.lt_of_lt_of_le hk H.kept.size) fun hm => ?_).trans (H.kept.block k hk hn)
  obtain ⟨o0, h0, hk0⟩ := List.mem_flatMap.1 hm
  rcases H.mine o0 (List.mem_append_left _ h0) k hk0 with h | h
  ·omega
  ·exact hn h
 ·rcases List.mem_append.1 ho with h | h
  ·exact C.ok o h
  ·exact (H.ok o (List.mem_append_right _ h)).kept fun k hk => C.kept.block k (hr o h k hk).2 (hr o h k hk).1
 ·have := hr b hb k hkb
  rcases C.mine a ha k hka with h | h
  ·omega
  ·exact this.1 h
 ·rcases List.mem_append.1 ho with h | h
  ·rcases C.mine o h k hk with h' | h'
   ·exact .inl (Nat.le_trans H.kept.size h')
   ·obtain ⟨o0, h0, hk0⟩ := List.mem_flatMap.1 h'
    exact H.mine o0 (List.mem_append_left _ h0) k hk0
  ·exact H.mine o (List.mem_append_right _ h) k hk
theorem Hold.below {w W W1 : World} {t : List Nat} {l : List Own} (H : Hold w W t l) (h : Below W.heap.size W W1) : Hold w W1 t l :=
 Hold.call (l0 := []) (l1 := []) H (Hold.nothing (Kept.of_below h))
theorem Hold.perm {w W : World} {t : List Nat} {l l' : List Own} (H : Hold w W t l) (h : l.Perm l') : Hold w W t l' :=
 ⟨H.kept, fun o ho => H.ok o (h.mem_iff.2 ho), (h.pairwise_iff (R := fun a b : Own => ∀ k ∈ a.at_, k ∉ b.at_) fun hab k hb ha => hab k ha hb).1 H.apart, fun o ho => H.mine o (h.mem_iff.2 ho)⟩
theorem Hold.sub {w W : World} {t : List Nat} {l l' : List Own} (H : Hold w W t l) (h : l'.Sublist l) : Hold w W t l' :=
 ⟨H.kept, fun o ho => H.ok o (h.subset ho), H.apart.sublist h, fun o ho => H.mine o (h.subset ho)⟩
inductive Put : List Own → Own → Own → List Own → Prop
 | head {x y : Own} {r : List Own} : Put (x :: r) x y (y :: r)
 | tail {x y z : Own} {r r' : List Own} (h : Put r x y r') : Put (z :: r) x y (z :: r')
theorem Put.perm {l l' : List Own} {x y : Own} (h : Put l x y l') : ∃ r, l.Perm (x :: r) ∧ l'.Perm (y :: r) := by
 induction h with
 | head => exact ⟨_, List.Perm.refl _, List.Perm.refl _⟩
 | tail _ ih =>
  obtain ⟨r, h1, h2⟩ := ih
  exact ⟨_, (h1.cons _).trans (List.Perm.swap _ _ _), (h2.cons _).trans (List.Perm.swap _ _ _)⟩
theorem Hold.put {w W W1 : World} {t : List Nat} {l l' : List Own} {x y : Own} (H : Hold w W t l) (hp : Put l x y l') (C : Hold W W1 (ats [x]) [y]) : Hold w W1 t l' := by
 obtain ⟨r, h1, h2⟩ := hp.perm
 exact (Hold.call (l0 := [x]) (l1 := [y]) (H.perm h1) C).perm h2.symm
theorem Hold.push {w W W1 : World} {t : List Nat} {l l1 : List Own} (H : Hold w W t l) (C : Hold W W1 [] l1) : Hold w W1 t (l1 ++ l) := Hold.call (l0 := []) H C
theorem Hold.at_ {w W : World} {t : List Nat} {l : List Own} (H : Hold w W t l) {x : Own} (h : x ∈ l) : x.ok W := H.ok x h
theorem Hold.blk {w W : World} {t : List Nat} {l : List Own} (H : Hold w W t l) {g : Nat} {cs : List Value} {ty : TypeId} (h : cl g cs ty ∈ l) : W.heap[g]? = some (.cells cs.toArray ty (0, 0)) := H.ok _ h
theorem Hold.cell {w W : World} {t : List Nat} {l : List Own} (H : Hold w W t l) {g : Nat} {cs : List Value} {ty : TypeId} (h : cl g cs ty ∈ l) (k : Nat) : W.cell? ⟨g, k, Option.none⟩ = cs[k]? := by
 rw [blk_cell (H.blk h) k, List.getElem?_toArray]
theorem Hold.row {w W : World} {t : List Nat} {l : List Own} (H : Hold w W t l) {e : TypeId} {v : Value} {k : IntKind} {xs : List Int} (h : nrow e v k xs ∈ l) : W.ownsRow 0 e 1 v xs.length (nums k xs) := H.ok _ h
theorem Hold.grow {w W : World} {t : List Nat} {l : List Own} (H : Hold w W t l) (h : ∀ k ∈ t, w.heap.size ≤ k) : Below w.heap.size w W := ⟨H.kept.os, H.kept.tape, H.kept.output, H.kept.size, fun k hk => H.kept.block k hk fun hm => by have := h k hm; omega⟩
theorem Hold.rd {w W : World} {t : List Nat} {l : List Own} (H : Hold w W t l) {k : IntKind} {A : Option Addr} {n : Nat} {xs : List Int} (h : Own.rd k A n xs ∈ l) : ReadsInt W k A n xs := H.ok _ h
theorem Hold.all {w W : World} {l : List Own} (H : Hold w W [] l) : Below w.heap.size w W := H.kept.below
theorem Hold.reads {w W : World} {t : List Nat} {l : List Own} (H : Hold w W t l) {k : IntKind} {A : Option Addr} {n : Nat} {xs : List Int} (h : ReadsInt w k A n xs) (hn : ∀ a, A = some a → a.block ∉ t) : ReadsInt W k A n xs := by
 refine ⟨h.1, h.2.1, fun h0 => ?_⟩
 obtain ⟨ad, rfl, hc⟩ := h.2.2 h0
 refine ⟨ad, rfl, fun j hj => ?_⟩
 have hcell := hc j hj
 have hb := World.block_lt_of_cell? w _ hcell
 rw [add_block] at hb
 rw [← hcell]
 exact World.cell?_of_block (by rw [add_block]; exact H.kept.block _ hb (hn ad rfl))
theorem pair1 {R : Own → Own → Prop} (x : Own) : [x].Pairwise R := List.pairwise_singleton _ _
theorem ok1 {W : World} {x : Own} (h : x.ok W) : ∀ o ∈ [x], o.ok W := fun o ho => by rw [List.mem_singleton.1 ho]; exact h
theorem Hold.made {W W1 : World} {y : Own} (h : Below W.heap.size W W1) (ok : y.ok W1) (hn : ∀ k ∈ y.at_, W.heap.size ≤ k) : Hold W W1 [] [y] :=
 ⟨Kept.of_below h, ok1 ok, pair1 _, fun o ho k hk => .inl (hn k (by rw [List.mem_singleton.1 ho] at hk; exact hk))⟩
theorem Hold.turned {W W1 : World} {x y : Own} (os : W1.os = W.os) (tape : W1.tape = W.tape) (output : W1.output = W.output) (size : W.heap.size ≤ W1.heap.size) (block : ∀ k, k < W.heap.size → k ∉ x.at_ → W1.heap[k]? = W.heap[k]?)
  (ok : y.ok W1) (hn : ∀ k ∈ y.at_, W.heap.size ≤ k ∨ k ∈ x.at_) : Hold W W1 (ats [x]) [y] := by
 have hm : ∀ k, k ∈ ats [x] ↔ k ∈ x.at_ := fun k => by
  unfold ats
  rw [List.mem_flatMap]
  exact ⟨fun ⟨a, ha, hk⟩ => by rw [List.mem_singleton.1 ha] at hk; exact hk, fun h => ⟨x, by simp, h⟩⟩
 refine ⟨⟨os, tape, output, size, fun k hk hn => block k hk fun h => hn ((hm k).2 h)⟩, ok1 ok, pair1 _, fun o ho k hk => ?_⟩
 rw [List.mem_singleton.1 ho] at hk
 rcases hn k hk with h | h
 ·exact .inl h
 ·exact .inr ((hm k).2 h)
def setC : List Value → Nat → List Value → List Value
 | cs, _, [] => cs
 | [], _, _ :: _ => []
 | _ :: cs, 0, u :: us => u :: setC cs 0 us
 | c :: cs, k + 1, u :: us => c :: setC cs k (u :: us)
theorem setC_eq : ∀ (cs : List Value) (k : Nat) (us : List Value), k + us.length ≤ cs.length → setC cs k us = cs.take k ++ us ++ cs.drop (k + us.length)
 | cs, k, [], _ => by cases cs <;> simp [setC]
 | [], k, u :: us, h => by simp at h
 | c :: cs, 0, u :: us, h => by
  have := setC_eq cs 0 us (by simpa using h)
  simp only [setC, this]
  simp
 | c :: cs, k + 1, u :: us, h => by
  have := setC_eq cs k (u :: us) (by simp at h ⊢; omega)
  simp only [setC, this]
  simp only [List.take_succ_cons, List.cons_append]
  congr 2
  rw [show k + 1 + (u :: us).length = (k + (u :: us).length) + 1 by omega, List.drop_succ_cons]
section
variable {P : Program} {ops : Array Oper} {rest : List Oper} {o : Oper} {a : Act} {Q : Exit → Act → World → Prop} {w W : World} {t : List Nat} {l : List Own}
theorem load_h (H : Hold w W t l) (hgd : o.guard = none) {ty : TypeId} {x : Operand} (ho : o.op = .load ty x) {g : Nat} {cs : List Value} {bt : TypeId} (hx : a.eval x = .pointer (some ⟨g, 0, none⟩)) (hm : cl g cs bt ∈ l)
  (hd : (P.underlying ty).map (·.isRow) = some true) (hi : (P.info? ty).map (·.size) = some cs.length) (h : wpList P ops Q rest (a.put o.dst (.agg cs.toArray)) W) : wpList P ops Q (o :: rest) a W := by
 obtain ⟨d, hu, hr⟩ := Option.map_eq_some_iff.1 hd
 exact load_ev hgd ho hx (H.blk hm) hu hr (by simpa using hi) h
theorem loadf_h (H : Hold w W t l) (hgd : o.guard = none) {ty : TypeId} {x : Operand} (ho : o.op = .load ty x) {g k : Nat} {cs : List Value} {bt : TypeId} {v : Value} (hx : a.eval x = .pointer (some ⟨g, k, none⟩)) (hm : cl g cs bt ∈ l)
  (hv : cs[k]? = some v) (hd : (P.underlying ty).map (·.isRow) = some false) (h : wpList P ops Q rest (a.put o.dst v) W) : wpList P ops Q (o :: rest) a W := by
 obtain ⟨d, hu, hr⟩ := Option.map_eq_some_iff.1 hd
 exact loadf_ev hgd ho hx (H.blk hm) (by simpa using hv) hu hr h
theorem Hold.store {W w1 : World} {g : Nat} {cs cs' : List Value} {bt : TypeId} (o : Only g W w1) (h : w1.heap[g]? = some (.cells cs'.toArray bt (0, 0))) : Hold W w1 (ats [cl g cs bt]) [cl g cs' bt] :=
 Hold.turned o.os o.tape o.output (by rw [o.size]; exact Nat.le_refl _) (fun k _ hne => o.block k fun e => hne (by rw [e]; exact List.mem_singleton.2 rfl)) h fun k hk => .inr hk
theorem store_h (H : Hold w W t l) (hgd : o.guard = none) (hN : o.dst = none) {ty : TypeId} {p x : Operand} (ho : o.op = .store ty p x) {g k : Nat} {cs : List Value} {bt : TypeId} {u : Value} {l' : List Own}
  (hp : a.eval p = .pointer (some ⟨g, k, none⟩)) (hx : a.eval x = u) (hm : Put l (cl g cs bt) (cl g (setC cs k u.cells.toList) bt) l') (ht : (P.info? ty).map (·.size) = some u.cells.toList.length)
  (hk : k + u.cells.toList.length ≤ cs.length) (h1 : u.cells.toList.all (·.oneCell') = true)
  (h : ∀ w1, Hold w w1 t l' → wpList P ops Q rest a w1) : wpList P ops Q (o :: rest) a W := by
 obtain ⟨r, hp1, _⟩ := hm.perm
 refine store_ev hgd hN ho hp hx (H.blk (cs := cs) (hp1.mem_iff.2 (List.Mem.head _))) ht (by simpa using hk) h1 (cs' := (setC cs k u.cells.toList).toArray) (by rw [setC_eq _ _ _ hk]) fun w1 hb ho1 => h w1 (H.put hm (Hold.store ho1 hb))
theorem alloc_h (H : Hold w W t l) (hgd : o.guard = none) {ty : TypeId} (_ho : o.op = .alloc ty) {cs : List Value}
  (hrun : (execOp a.eval o).run P W = .ok (.value (.pointer (some ⟨W.heap.size, 0, none⟩))) (W.alloc (.cells cs.toArray ty (0, 0))))
  (h : ∀ g w1, Hold w w1 t (cl g cs ty :: l) → wpList P ops Q rest (a.put o.dst (.pointer (some ⟨g, 0, none⟩))) w1) : wpList P ops Q (o :: rest) a W :=
 make_ev hgd hrun fun g hg w1 hb hz hbel => h g w1 (Hold.push (l1 := [cl g cs ty]) H (Hold.made hbel hb fun k hk => by have : k = g := List.mem_singleton.1 hk; omega))
theorem box_h (H : Hold w W t l) (hgd : o.guard = none) {ty : TypeId} {x : Operand} (ho : o.op = .box ty x) {u : Value} {cs : List Value} (hx : a.eval x = u) (hu : u.cells = cs.toArray)
  (h : ∀ g w1, Hold w w1 t (cl g cs ty :: l) → wpList P ops Q rest (a.put o.dst (.pointer (some ⟨g, 0, none⟩))) w1) : wpList P ops Q (o :: rest) a W := by
 refine make_ev hgd (cs := cs.toArray) (t := ty) ?_ fun g hg w1 hb hz hbel => h g w1 (Hold.push (l1 := [cl g cs ty]) H (Hold.made hbel hb fun k hk => by have : k = g := List.mem_singleton.1 hk; omega))
 unfold execOp
 simp only [ho, hx]
 simp [Instr.box, newVar, newRow, Sem.run_bind, hu]
theorem bytes_h (H : Hold w W t l) (hgd : o.guard = none) {src dst e : TypeId} {x : Operand} (ho : o.op = .convert src dst x) {s : ByteArray} (ls : List Int) (hx : a.eval x = .string s) {u : TypeDesc}
  (hs : P.underlying src = some u) (hd : P.underlying dst = some (.slice e)) (he : P.underlying e = some (.int .u8)) (hl : s.size = ls.length) (hb : bytesOf s = ls) (hm : ls.length ≤ 9223372036854775807)
  (h : ∀ g c, ls.length ≤ c → ∀ w1, Hold w w1 t (.rd .u8 (some ⟨g, 0, none⟩) ls.length ls :: l) → wpList P ops Q rest (a.put o.dst (.slice (some ⟨g, 0, none⟩) ls.length c)) w1) : wpList P ops Q (o :: rest) a W :=
 bytes_ev hgd ho ls hx hs hd he hl hb hm fun g c hg hc w1 hr hz hbel => h g c hc w1 (Hold.push (l1 := [.rd .u8 (some ⟨g, 0, none⟩) ls.length ls]) H (Hold.made hbel hr fun k hk => by
  have hk' : k ∈ (if ls.length = 0 then [] else ((some (⟨g, 0, none⟩ : Addr)).map (·.block)).toList) := hk
  split at hk'
  ·cases hk'
  ·have : g = k := Option.some.inj (Option.mem_toList.1 hk')
   omega))
theorem append_h (H : Hold w W t l) (hgd : o.guard = none) {s x : Operand} {st : TypeId} (ho : o.op = .call { callee := .builtin .append, args := #[s, x], argTypes := #[st, st] })
  {e : TypeId} {k : IntKind} (bytes : Nat) (ht : P.underlying st = some (.slice e))
  (hinfo : (P.info? e).map (fun i => (i.zero, i.size, i.bytes)) = some (some (.int k 0), 1, bytes)) (hb0 : 0 < bytes)
  {v : Value} {xs : List Int} (ys : List Int) {A : Option Addr} {m c : Nat} (hs : a.eval s = v) (hx : a.eval x = .slice A m c) {f : Own → List Own}
  (hm : ∀ y, Put l (nrow e v k xs) y (f y)) (HR : ReadsInt W k A m ys) (hl : (xs.length + m) * bytes ≤ 140737488355328)
  (h : ∀ v1 w1, Hold w w1 t (f (nrow e v1 k (xs ++ ys))) → wpList P ops Q rest (a.put o.dst v1) w1) : wpList P ops Q (o :: rest) a W := by
 obtain ⟨r, hp1, _⟩ := (hm (nrow e v k xs)).perm
 refine list_append_row W hgd s x st ho 0 e k bytes ht hinfo hb0 v xs ys A m c hs hx (H.row (xs := xs) (hp1.mem_iff.2 (List.Mem.head _))) HR (Nat.zero_le _) hl fun v1 w1 hown hg hat => h v1 w1 (H.put (hm _) (Hold.turned hg.os hg.tape hg.output hg.size (fun k hk hne => hg.block k hk fun e => hne (Option.mem_toList.2 e.symm)) hown fun k hk => ?_))
 have hk' : v1.ownBlock = some k := Option.mem_toList.1 hk
 rcases hat with h' | h'
 ·exact .inr (Option.mem_toList.2 (h'.symm.trans hk'))
 ·rw [h'] at hk'
  exact .inl (Nat.le_of_eq (Option.some.inj hk'))
end

theorem madeHold {W W1 : World} {e : TypeId} {m : Nat} {xs : List Int} {k : IntKind} (hb : Below W.heap.size W W1) (ho : W1.ownsRow 0 e 1 (.slice (some ⟨W.heap.size, 0, none⟩) m m) xs.length (nums k xs)) : Hold W W1 [] [nrow e (.slice (some ⟨W.heap.size, 0, none⟩) m m) k xs] :=
 Hold.made hb ho fun k hk => Nat.le_of_eq (Option.some.inj (Option.mem_toList.1 hk))
section
variable {P : Program} {ops : Array Oper} {rest : List Oper} {o : Oper} {a : Act} {Q : Exit → Act → World → Prop} {w W : World} {t : List Nat} {l : List Own}
theorem run_makeb {W : World} {st e : TypeId} (m : Nat) (ht : P.underlying st = some (.slice e)) (hinfo : (P.info? e).map (fun i => (i.zero, i.size, i.bytes)) = some (some (.int .u8 0), 1, 1)) (hm : m ≤ 281474976710656) :
  (Instr.makeSlice st (.int .i64 (m : Int)) (.int .i64 (m : Int))).run P W = .ok (.slice (some ⟨W.heap.size, 0, none⟩) m m) (W.alloc (.cells (madeCells #[.int .u8 0] m) e)) := print_make st e .u8 1 ht hinfo (by decide) m (by omega) W
theorem makeb_h (H : Hold w W t l) (hgd : o.guard = none) {st e : TypeId} {x y : Operand} (ho : o.op = .makeSlice st x y) (m : Nat) (hx : a.eval x = .int .i64 (m : Int)) (hy : a.eval y = .int .i64 (m : Int)) (ht : P.underlying st = some (.slice e))
  (hinfo : (P.info? e).map (fun i => (i.zero, i.size, i.bytes)) = some (some (.int .u8 0), 1, 1)) (hm : m ≤ 281474976710656)
  (h : ∀ g w1, Hold w w1 t (nrow e (.slice (some ⟨g, 0, none⟩) m m) .u8 (List.replicate m 0) :: l) → wpList P ops Q rest (a.put o.dst (.slice (some ⟨g, 0, none⟩) m m)) w1) : wpList P ops Q (o :: rest) a W := by
 refine wpList_plain hgd fun K hK => ?_
 unfold Oper.wp execOp
 simp only [ho, hx, hy, Sem.run_bind, Sem.run_pure, Result.andThen_ok, run_makeb m ht hinfo hm]
 refine hK _ _ (h _ _ (Hold.push (l1 := [_]) H (madeHold (below_alloc (Below.refl _ _) _) ?_)))
 rw [List.length_replicate]
 exact own_made W 0 e .u8 m (Nat.zero_le _) (by omega)
theorem conv_h (H : Hold w W t l) (hgd : o.guard = none) {src dst e e' : TypeId} {x : Operand} (ho : o.op = .convert src dst x) {v : Value} {xs : List Int} (hx : a.eval x = v) (hm : nrow e' v .u8 xs ∈ l)
  (hs : P.underlying src = some (.slice e)) (he : P.underlying e = some (.int .u8)) (hd : P.underlying dst = some .string) (h : wpList P ops Q rest (a.put o.dst (.string (strOfNums xs))) W) : wpList P ops Q (o :: rest) a W := by
 refine wpList_plain hgd fun K hK => ?_
 unfold Oper.wp execOp
 simp only [ho, hx, Sem.run_bind, Sem.run_pure, Result.andThen_ok, own_string hs he hd (H.row hm)]
 exact hK _ _ h
variable {Kc : Act → World → Prop}
theorem lit_o (H : Hold w W t l) (hw : Region.wanted o (yielded ops a.tmps) = true) {e : TypeId} {k : IntKind} (ls : List Int)
  (hrun : (execOp a.eval o).run P W = .ok (.value (.slice (some ⟨W.heap.size, 0, none⟩) ls.length ls.length)) (W.alloc (.cells (nums k ls).toArray e (0, 0)))) (hl : ls.length ≤ 9223372036854775807)
  (h : ∀ g w1, Hold w w1 t (nrow e (.slice (some ⟨g, 0, none⟩) ls.length ls.length) k ls :: l) → Below W.heap.size W w1 → Kc (a.put o.dst (.slice (some ⟨g, 0, none⟩) ls.length ls.length)) w1) :
  if Region.wanted o (yielded ops a.tmps) = true then Oper.wp P o a W Kc Q else Kc (a.put o.dst undef) W :=
 event_step hw hrun (h _ _ (Hold.push (l1 := [_]) H (madeHold (below_alloc (Below.refl _ _) _) (own_lit W 0 e k ls (Nat.zero_le _) hl))) (below_alloc (Below.refl _ _) _))
theorem store_o (H : Hold w W t l) (hw : Region.wanted o (yielded ops a.tmps) = true) (hN : o.dst = none) {ty : TypeId} {p x : Operand} (ho : o.op = .store ty p x) {g k : Nat} {cs : List Value} {bt : TypeId} {u : Value} {l' : List Own}
  (hp : a.eval p = .pointer (some ⟨g, k, none⟩)) (hx : a.eval x = u) (hm : Put l (cl g cs bt) (cl g (setC cs k u.cells.toList) bt) l') (ht : (P.info? ty).map (·.size) = some u.cells.toList.length)
  (hk : k + u.cells.toList.length ≤ cs.length) (h1 : u.cells.toList.all (·.oneCell') = true)
  (h : ∀ w1, Hold w w1 t l' → Only g W w1 → Kc a w1) : if Region.wanted o (yielded ops a.tmps) = true then Oper.wp P o a W Kc Q else Kc (a.put o.dst undef) W := by
 obtain ⟨r, hp1, _⟩ := hm.perm
 refine store_ord hw hN ho hp hx (H.blk (cs := cs) (hp1.mem_iff.2 (List.Mem.head _))) ht (by simpa using hk) h1 (cs' := (setC cs k u.cells.toList).toArray) (by rw [setC_eq _ _ _ hk]) fun w1 hb ho1 => h w1 (H.put hm (Hold.store ho1 hb)) ho1
theorem append_o (H : Hold w W t l) (hgd : o.guard = none) {s x : Operand} {st : TypeId} (ho : o.op = .call { callee := .builtin .append, args := #[s, x], argTypes := #[st, st] })
  {e : TypeId} {k : IntKind} (bytes : Nat) (ht : P.underlying st = some (.slice e))
  (hinfo : (P.info? e).map (fun i => (i.zero, i.size, i.bytes)) = some (some (.int k 0), 1, bytes)) (hb0 : 0 < bytes)
  {v : Value} {xs : List Int} (ys : List Int) {A : Option Addr} {m c : Nat} (hs : a.eval s = v) (hx : a.eval x = .slice A m c) {f : Own → List Own}
  (hm : ∀ y, Put l (nrow e v k xs) y (f y)) (HR : ReadsInt W k A m ys) (hl : (xs.length + m) * bytes ≤ 140737488355328) {E : Prop}
  (h : ∀ v1 w1, Hold w w1 t (f (nrow e v1 k (xs ++ ys))) → W.grownBy w1 v.ownBlock → Kc (a.put o.dst v1) w1) : if Region.wanted o (yielded ops a.tmps) = true then Oper.wp P o a W Kc Q else E := by
 obtain ⟨r, hp1, _⟩ := (hm (nrow e v k xs)).perm
 refine step_append_row W hgd s x st ho 0 e k bytes ht hinfo hb0 v xs ys A m c hs hx (H.row (xs := xs) (hp1.mem_iff.2 (List.Mem.head _))) HR (Nat.zero_le _) hl fun v1 w1 hown hg hat => h v1 w1 (H.put (hm _) (Hold.turned hg.os hg.tape hg.output hg.size (fun k hk hne => hg.block k hk fun e => hne (Option.mem_toList.2 e.symm)) hown fun k hk => ?_)) hg
 have hk' : v1.ownBlock = some k := Option.mem_toList.1 hk
 rcases hat with h' | h'
 ·exact .inr (Option.mem_toList.2 (h'.symm.trans hk'))
 ·rw [h'] at hk'
  exact .inl (Nat.le_of_eq (Option.some.inj hk'))
end

section
variable {P : Program} {ops : Array Oper} {rest : List Oper} {o : Oper} {a : Act} {Q : Exit → Act → World → Prop} {w W : World} {t : List Nat} {l : List Own}
theorem is_alloc {ty : TypeId} (_ho : o.op = .alloc ty) (h : wpList P ops Q (o :: rest) a W) : wpList P ops Q (o :: rest) a W := h
theorem is_box {ty : TypeId} {x : Operand} (_ho : o.op = .box ty x) (h : wpList P ops Q (o :: rest) a W) : wpList P ops Q (o :: rest) a W := h
theorem is_load {ty : TypeId} {x : Operand} (_ho : o.op = .load ty x) (h : wpList P ops Q (o :: rest) a W) : wpList P ops Q (o :: rest) a W := h
theorem is_store {ty : TypeId} {p x : Operand} (_ho : o.op = .store ty p x) (h : wpList P ops Q (o :: rest) a W) : wpList P ops Q (o :: rest) a W := h
theorem is_conv {s d : TypeId} {x : Operand} (_ho : o.op = .convert s d x) (h : wpList P ops Q (o :: rest) a W) : wpList P ops Q (o :: rest) a W := h
theorem loadf_g (H : Hold w W t l) {ty : TypeId} {x : Operand} (ho : o.op = .load ty x) {g k : Nat} {cs : List Value} {bt : TypeId} {v : Value} (hx : a.eval x = .pointer (some ⟨g, k, none⟩)) (hm : cl g cs bt ∈ l)
  (hv : cs[k]? = some v) (hd : (P.underlying ty).map (·.isRow) = some false) (hw : Region.wanted o (yielded ops a.tmps) = true) (h : wpList P ops Q rest (a.put o.dst v) W) : wpList P ops Q (o :: rest) a W :=
 gate_guard hw (loadf_h H rfl ho hx hm hv hd h)
theorem load_g (H : Hold w W t l) {ty : TypeId} {x : Operand} (ho : o.op = .load ty x) {g : Nat} {cs : List Value} {bt : TypeId} (hx : a.eval x = .pointer (some ⟨g, 0, none⟩)) (hm : cl g cs bt ∈ l)
  (hd : (P.underlying ty).map (·.isRow) = some true) (hi : (P.info? ty).map (·.size) = some cs.length) (hw : Region.wanted o (yielded ops a.tmps) = true) (h : wpList P ops Q rest (a.put o.dst (.agg cs.toArray)) W) : wpList P ops Q (o :: rest) a W :=
 gate_guard hw (load_h H rfl ho hx hm hd hi h)
end
end Go.Proofs.YtjjfkmniffbgkaaDoor

/- FrameBack's pure part: how numbers are put. -/
namespace Go.Proofs.YtjjfkmniffbgkaaDoor
set_option linter.unusedVariables false
set_option linter.unusedSimpArgs false
open Go.RowKit Go.Proofs.YtjjfkmniffbgkaaDoorW.PrintWords Go.Proofs.YtjjfkmniffbgkaaDoorW.PrintLast Go.Proofs.YtjjfkmniffbgkaaDoorW.PrintMore Go.Proofs.YtjjfkmniffbgkaaDoor.QFrmA Go.Proofs.YtjjfkmniffbgkaaDoor.QFrmB Go.Proofs.YtjjfkmniffbgkaaDoor.Given
end Go.Proofs.YtjjfkmniffbgkaaDoor

/- FrameBack's pure part: the payload. -/
namespace Go.Proofs.YtjjfkmniffbgkaaDoor
set_option linter.unusedVariables false
set_option linter.unusedSimpArgs false
open Go.RowKit Go.Proofs.YtjjfkmniffbgkaaDoorW.PrintWords Go.Proofs.YtjjfkmniffbgkaaDoorW.PrintLast Go.Proofs.YtjjfkmniffbgkaaDoorW.PrintMore Go.Proofs.YtjjfkmniffbgkaaDoor.QFrmA Go.Proofs.YtjjfkmniffbgkaaDoor.Given
end Go.Proofs.YtjjfkmniffbgkaaDoor

/- The reference of frames: bytes and texts; its small functions, walked. -/
namespace Go.Proofs.YtjjfkmniffbgkaaDoor
set_option linter.unusedVariables false
set_option linter.unusedSimpArgs false
open Go.RowKit Go.Proofs.YtjjfkmniffbgkaaDoorW.PrintWords Go.Proofs.YtjjfkmniffbgkaaDoorW.PrintLast Go.Proofs.YtjjfkmniffbgkaaDoorW.PrintMore Go.Proofs.YtjjfkmniffbgkaaDoor.QFrmA Go.Proofs.YtjjfkmniffbgkaaDoor.Given Go.Extern.Stop Go.Stop Go.Extern Go.Maps
theorem bytes_ext {a b : ByteArray} (h : a.data.toList = b.data.toList) : a = b := by
 cases a; cases b
 simp only [ByteArray.mk.injEq]
 exact Array.toList_inj.1 h
theorem str_list (l : List Int) : (strOfNums l).toList = l.map fun n => UInt8.ofNat n.toNat := by
 rw [ByteArray.toList_eq]
 simp [strOfNums]
theorem back_list : ∀ (l : List Int), Byte8 l → (l.map fun n => UInt8.ofNat n.toNat).map (fun c => (c.toNat : Int)) = l
 | [], _ => rfl
 | x :: l, h => by
  have h1 := h x (by simp)
  have h2 := back_list l (fun y hy => h y (by simp [hy]))
  simp only [List.map_cons]
  rw [h2]
  congr 1
  rw [UInt8.toNat_ofNat']
  omega
theorem bytes_str {l : List Int} (h : Byte8 l) : bytesOf (strOfNums l) = l := by
 have e := back_list l h
 unfold bytesOf
 rw [← ByteArray.toList_eq, str_list]
 exact e
theorem str_size (l : List Int) : (strOfNums l).size = l.length := by
 have := bytesOf_length (strOfNums l)
 unfold bytesOf at this
 rw [← ByteArray.toList_eq, str_list] at this
 simpa using this.symm
theorem str_cut (l : List Int) (lo hi : Nat) : (strOfNums l).extract lo hi = strOfNums ((l.take hi).drop lo) := by
 refine bytes_ext ?_
 rw [ByteArray.data_extract, Array.toList_extract]
 simp only [strOfNums, List.extract, List.map_drop, List.map_take, List.drop_take]

abbrev fC (F : Fr) (D S : Value) (a b : Int) : Array Value := #[.int .u8 F.ty, .int .u8 F.fl, .int .u32 F.st, D, .int .i64 F.pad, .int .u32 F.code, .int .u32 F.oth, .int .u8 F.wgt, .bool F.al, .int .u32 F.win, S, .int .u8 a, .int .u32 b]

theorem run_to_str (l : List Int) (hi : Int) (h0 : 0 ≤ hi) (h1 : hi ≤ (l.length : Int)) (W : World) :
  (Instr.slice 9 (.string (strOfNums l)) none (some (.int .i64 hi)) none).run Tryd.prog W = .ok (.string (strOfNums (l.take hi.toNat))) W := by
 have hz := str_size l
 rw [run_slice_string_to_if W 9 (strOfNums l) .i64 hi Tryd.underlying9, if_pos (by omega), str_cut, List.drop_zero]
def FrCame (w : World) (F2 : Fr) (v : Array Value) (w' : World) : Prop :=
 ∃ A c B m, v = frC F2 (.slice A F2.data.length c) (.slice B F2.sets.length m) ∧ (ReadsInt w' .u8 A F2.data.length F2.data ∧ F2.data.length ≤ c ∧ ∀ a, A = some a → w.heap.size ≤ a.block) ∧
  (k99.C w' B F2.sets.length F2.sets ∧ F2.sets.length ≤ m ∧ ∀ a, B = some a → w.heap.size ≤ a.block)
theorem no_sets (w : World) : k99.C w none 0 ([] : List S99) := ⟨rfl, by decide, fun h => absurd h (Nat.lt_irrefl 0)⟩

theorem Only.R {α : Type} {d : Kd α} {e g base : Nat} {W w1 : World} {ok : Nat → Prop} {v : Value} {xs : List α} (h : Only g W w1) (hR : d.R e W base ok v xs) (hok : ∀ k, ok k → k ≠ g) : d.R e w1 base ok v xs :=
 Kd.R_step hR (fun k ho _ => h.block k (hok k ho))
structure StW (w : World) (gf gr : Nat) (fl st pad : Int) (S : Value) (xs : List S99) (wr : World) : Prop where
 f : wr.heap[gf]? = some (.cells (frC ⟨4, fl, st, [], pad, 0, 0, 0, false, 0, []⟩ nilS S) 38 (0, 0))
 r : wr.heap[gr]? = some (.cells (frC ⟨0, 0, 0, [], 0, 0, 0, 0, false, 0, []⟩ nilS nilS) 38 (0, 0))
 row : k99.R 99 wr w.heap.size (fun k => k ≠ gf ∧ k ≠ gr) S xs
 below : Below w.heap.size w wr
theorem StW.step {w : World} {gf gr : Nat} {fl st pad : Int} {S : Value} {xs : List S99} {wr wn : World} (h : StW w gf gr fl st pad S xs wr) (hb : Below wr.heap.size wr wn) : StW w gf gr fl st pad S xs wn :=
 ⟨blk_below h.f hb, blk_below h.r hb, Kd.R_below h.row hb, h.below.trans (hb.mono h.below.size)⟩
theorem StW.drewN {w : World} {gf gr : Nat} {fl st pad : Int} {S : Value} {xs : List S99} {wr : World} (h : StW w gf gr fl st pad S xs wr) (n : Nat) : StW w gf gr fl st pad S xs (wr.drewN n) := h.step (pw_below_drewN (Below.refl wr.heap.size wr) n)
theorem StW.more {w : World} {gf gr : Nat} {fl st pad : Int} {S v1 : Value} {xs : List S99} {x : S99} {wx w1 : World} (h : StW w gf gr fl st pad S xs wx) (hg : w.heap.size ≤ gf) (hne : gr ≠ gf)
  (hrow : k99.R 99 w1 w.heap.size (fun k => k ≠ gf ∧ k ≠ gr) v1 (xs ++ [x])) (hbel : Below w.heap.size wx w1) (hgrow : wx.grownBy w1 S.ownBlock) : StW w gf gr fl st pad v1 (xs ++ [x]) (w1.setCell ⟨gf, 10, none⟩ v1) := by
 have n1 : some gf ≠ S.ownBlock := Kd.R_away h.row (fun k hk => hk.1)
 have n2 : some gr ≠ S.ownBlock := Kd.R_away h.row (fun k hk => hk.2)
 have hb := (hgrow.block gf (blk_lt h.f) n1).trans h.f
 have hr := (hgrow.block gr (blk_lt h.r) n2).trans h.r
 exact ⟨blk_set hb 10 v1, blk_far hr hne _, Kd.R_far hrow (fun k hk => hk.1) v1, (h.below.trans hbel).setCell (p := ⟨gf, 10, none⟩) hg v1⟩

def RGetPost (w : World) (r : Fr × Int × Int) (e : Ending) (w' : World) : Prop := (∃ v, e = .returned (.agg (v ++ #[.int .u8 r.2.1, .int .u32 r.2.2])) ∧ FrCame w r.1 v w') ∧ Below w.heap.size w w'
theorem Only.C99 {g : Nat} {W w1 : World} {A : Option Addr} {n : Nat} {xs : List S99} (h : Only g W w1) (hC : k99.C W A n xs) (hne : ∀ a, A = some a → a.block ≠ g) : k99.C w1 A n xs :=
 ⟨hC.1, hC.2.1, fun hn => by
  obtain ⟨ad, e, hc⟩ := hC.2.2 hn
  refine ⟨ad, e, fun j p hj => ?_⟩
  obtain ⟨c, hs, hr, hcell⟩ := hc j p hj
  refine ⟨c, hs, hr, fun i u hu => ?_⟩
  have hx := hcell i u hu
  have hk : (ad.add (j * (k99).sz + i)).block ≠ g := by rw [add_block]; exact hne ad e
  rw [← hx]
  simp [World.cell?, h.block _ hk]⟩
theorem FrCame.only {w W w1 : World} {F : Fr} {v : Array Value} {g : Nat} (h : FrCame w F v W) (o : Only g W w1) (hg : g < w.heap.size) : FrCame w F v w1 := by
 obtain ⟨A, c, B, m, e, ⟨r1, r2, r3⟩, ⟨s1, s2, s3⟩⟩ := h
 exact ⟨A, c, B, m, e, ⟨o.reads r1 (fun a ha => by have := r3 a ha; omega), r2, r3⟩, ⟨o.C99 s1 (fun a ha => by have := s3 a ha; omega), s2, s3⟩⟩
theorem FrCame.below {w W w1 : World} {F : Fr} {v : Array Value} (h : FrCame w F v W) (hb : Below W.heap.size W w1) : FrCame w F v w1 := by
 obtain ⟨A, c, B, m, e, ⟨r1, r2, r3⟩, ⟨s1, s2, s3⟩⟩ := h
 exact ⟨A, c, B, m, e, ⟨r1.below hb, r2, r3⟩, ⟨Kd.C_below s1 hb, s2, s3⟩⟩
theorem FrCame.mono {w w0 W : World} {F : Fr} {v : Array Value} (h : FrCame w0 F v W) (hw : w.heap.size ≤ w0.heap.size) : FrCame w F v W := by
 obtain ⟨A, c, B, m, e, ⟨r1, r2, r3⟩, ⟨s1, s2, s3⟩⟩ := h
 exact ⟨A, c, B, m, e, ⟨r1, r2, fun a ha => Nat.le_trans hw (r3 a ha)⟩, ⟨s1, s2, fun a ha => Nat.le_trans hw (s3 a ha)⟩⟩

theorem eqSet (d : Nat) (w : World) (x0 y0 : Int) (x1 y1 : Int) :
  (Op.equalIn (d + 2) 99 (.agg #[.int .u16 x0, .int .u32 x1]) (.agg #[.int .u16 y0, .int .u32 y1])).run Tryd.prog w = .ok (x0 == y0 && (x1 == y1)) w := by
 refine eqA_of Tryd.underlying99 (by kernel_rfl) ?_
 refine eqf_cons (by rfl) (by go_simp; rfl) (by go_simp; rfl) (by go_simp) ?_
 exact eqf_last (by rfl) (by go_simp; rfl) (by go_simp; rfl) (by go_simp)
attribute [local go_sem high] eqSet
end Go.Proofs.YtjjfkmniffbgkaaDoor

/- clear on a row of one's own. -/
namespace Go.Proofs.YtjjfkmniffbgkaaDoor
set_option linter.unusedVariables false
set_option linter.unusedSimpArgs false
open Go.RowKit Go.Proofs.YtjjfkmniffbgkaaDoorW.PrintWords
structure Wiped (W W1 : World) (row : Option Nat) : Prop where
 os : W1.os = W.os
 tape : W1.tape = W.tape
 output : W1.output = W.output
 size : W1.heap.size = W.heap.size
 block : ∀ i, i < W.heap.size → some i ≠ row → W1.heap[i]? = W.heap[i]?
theorem Wiped.blk {W W1 : World} {row : Option Nat} (h : Wiped W W1 row) {g : Nat} {o : Obj} (hg : W.heap[g]? = some o) (hne : some g ≠ row) : W1.heap[g]? = some o := (h.block g (blk_lt hg) hne).trans hg
theorem Wiped.grown {W W1 : World} {row : Option Nat} (h : Wiped W W1 row) : W.grownBy W1 row := ⟨h.os, h.tape, h.output, by have := h.size; omega, h.block⟩
theorem Wiped.own {W W1 : World} {row : Option Nat} (h : Wiped W W1 row) {base n size : Nat} {e : TypeId} {v : Value} {xs : List Value} (ho : W.ownsRow base e size v n xs) (hne : v.ownBlock = none ∨ v.ownBlock ≠ row) : W1.ownsRow base e size v n xs := ho.kept h.grown hne

theorem eqFault (d : Nat) (w : World) (x0 y0 : Int) (x1 y1 : Int) :
  (Op.equalIn (d + 2) 24 (.agg #[.int .u8 x0, .int .u32 x1]) (.agg #[.int .u8 y0, .int .u32 y1])).run Tryd.prog w = .ok (x0 == y0 && (x1 == y1)) w := by
 refine eqA_of Tryd.underlying24 (by kernel_rfl) ?_
 refine eqf_cons (by rfl) (by go_simp; rfl) (by go_simp; rfl) (by go_simp) ?_
 exact eqf_last (by rfl) (by go_simp; rfl) (by go_simp; rfl) (by go_simp)
end Go.Proofs.YtjjfkmniffbgkaaDoor

/- FrameGets, walked. (This text is printed by wip/gen/fgets.py.) -/
namespace Go.Proofs.YtjjfkmniffbgkaaDoor
set_option linter.unusedVariables false
set_option linter.unusedSimpArgs false
open Go.RowKit Go.Proofs.YtjjfkmniffbgkaaDoorW.PrintWords Go.Proofs.YtjjfkmniffbgkaaDoorW.PrintLast Go.Proofs.YtjjfkmniffbgkaaDoorW.PrintMore Go.Proofs.YtjjfkmniffbgkaaDoor.QFrmA Go.Proofs.YtjjfkmniffbgkaaDoor.Given Go.Extern.Stop Go.Stop Go.Extern Go.Maps
attribute [local go_sem high] eqFault
theorem get_came (w : World) (hgv : GV w) (A : Option Addr) (c : Nat) (l : List Int) (hR : ReadsInt w .u8 A l.length l) (hc : l.length ≤ c) (hby : Byte8 l) (hl : l.length ≤ 20000000) :
  Calls Tryd.prog 27 #[.slice A l.length c] w fun e w' => (∃ v, e = .returned (.tuple #[.agg v, .agg #[.int .u8 (getFr l).2.1, .int .u32 (getFr l).2.2]]) ∧ FrCame w (getFr l).1 v w') ∧ Below w.heap.size w w' := by
 refine (get_calls w hgv A c l hR hc hby hl).mono ?_
 rintro e w' ⟨D, S, he, hD, hS, hb⟩
 obtain ⟨A1, c1, rfl, h1, h2⟩ := Kd.R_reads hD
 obtain ⟨A2, c2, rfl, h3, h4⟩ := Kd.R_reads hS
 refine ⟨⟨_, he, A1, c1, A2, c2, rfl, ⟨Kd_reads h2, h1, fun a ha => ?_⟩, h4, h3, fun a ha => ?_⟩, hb⟩
 ·subst ha; exact Kd.R_base hD a.block (by simp [Value.ownBlock])
 ·subst ha; exact Kd.R_base hS a.block (by simp [Value.ownBlock])
theorem Wiped.only {g : Nat} {W w1 : World} (h : Wiped W w1 (some g)) : Only g W w1 := ⟨h.os, h.tape, h.output, h.size, fun k hk => by
 by_cases hlt : k < W.heap.size
 ·exact h.block k hlt (fun e => hk (by injection e))
 ·rw [Array.getElem?_eq_none (by have := h.size; omega), Array.getElem?_eq_none (by omega)]⟩
theorem RGetPost.of {w w' : World} {r : Fr × Int × Int} {e : Ending} (h : RGetPost w r e w') : (∃ Aq cq Bq mq, e = .returned (.agg (fC r.1 (.slice Aq r.1.data.length cq) (.slice Bq r.1.sets.length mq) r.2.1 r.2.2)) ∧
  FrCame w r.1 (frC r.1 (.slice Aq r.1.data.length cq) (.slice Bq r.1.sets.length mq)) w') ∧ Below w.heap.size w w' := by
 obtain ⟨⟨v, he, hc⟩, hb⟩ := h
 obtain ⟨A, c, B, m, e1, h1, h2⟩ := hc
 refine ⟨⟨A, c, B, m, ?_, A, c, B, m, rfl, h1, h2⟩, hb⟩
 rw [he, e1]
 rfl
theorem FrCame.rows {w w' : World} {F : Fr} {A B : Option Addr} {n m c d : Nat} (h : FrCame w F (frC F (.slice A n c) (.slice B m d)) w') : ReadsInt w' .u8 A F.data.length F.data ∧ F.data.length ≤ c ∧ k99.C w' B F.sets.length F.sets := by
 obtain ⟨A', c', B', m', e, ⟨h1, h2, _⟩, h3, _⟩ := h
 simp only [frC, Array.mk.injEq, List.cons.injEq, Value.slice.injEq, and_true, true_and] at e
 obtain ⟨⟨rfl, -, rfl⟩, rfl, -, -⟩ := e
 exact ⟨h1, h2, h3⟩
end Go.Proofs.YtjjfkmniffbgkaaDoor

/- The law of split, in plain lists: how bytes are cut into frames. No program. -/
namespace Go.Proofs.YtjjfkmniffbgkaaDoor
set_option linter.unusedVariables false
set_option linter.unusedSimpArgs false
open Go.RowKit
abbrev Rs := Fr × Int × Int
def pre24 : List Int := [80, 82, 73, 32, 42, 32, 72, 84, 84, 80, 47, 50, 46, 48, 13, 10, 13, 10, 83, 77, 13, 10, 13, 10]
structure Sp where
 b : List Int
 waits : Bool
 bad : Bool
def nextB (b : List Int) : Option (Rs × List Int × Bool) :=
 if b.length < 9 then none
 else if headN b ≤ 16393 ∧ (b.length : Int) < headN b then none
 else if 16393 < headN b then some ((hdF b, 1, 6), [], true)
 else if (getFr (b.take (headN b).toNat)).2.1 = 1 then some (getFr (b.take (headN b).toNat), [], true)
 else some (getFr (b.take (headN b).toNat), b.drop (headN b).toNat, false)
def nextN (b : List Int) : Option Rs × Sp :=
 match nextB b with
 | none => (none, ⟨b, false, false⟩)
 | some (x, b', y) => (some x, ⟨b', false, y⟩)
def preOk (b : List Int) : Bool := b.take (min 24 b.length) == pre24.take (min 24 b.length)
def nextS (s : Sp) : Option Rs × Sp :=
 if s.bad = true then (if s.waits = true then (some (noneF, 1, 1), ⟨s.b, false, true⟩) else (none, s))
 else if s.waits = true then (if preOk s.b = false then (some (noneF, 1, 1), ⟨[], false, true⟩) else if s.b.length < 24 then (none, s) else nextN (s.b.drop 24))
 else nextN s.b
def allB : Nat → List Int → List Rs × Nat × Bool
 | 0, b => ([], b.length, false)
 | k + 1, b => match nextB b with
  | none => ([], b.length, false)
  | some (x, b', y) => if y = true then ([x], 0, true) else (x :: (allB k b').1, (allB k b').2)
def allP (p : Bool) (b : List Int) : List Rs × Nat × Bool :=
 if p = true then (if preOk b = false then ([(noneF, 1, 1)], 0, true) else if b.length < 24 then ([], b.length, false) else allB (b.drop 24).length (b.drop 24))
 else allB b.length b
theorem headN_app {b : List Int} (r : List Int) (h : 9 ≤ b.length) : headN (b ++ r) = headN b := by
 unfold headN
 rw [if_neg (by simp; omega), if_neg (by omega), List.take_append_of_le_length (by omega)]
theorem headN_ge {b : List Int} (h : 9 ≤ b.length) (hb : Byte8 b) : 9 ≤ headN b := by
 unfold headN
 rw [if_neg (by omega)]
 have := (valL_bound (fun x hx => hb x (List.mem_of_mem_take hx) : Byte8 (b.take 3))).1
 omega
theorem headN_le {b : List Int} (hb : Byte8 b) : headN b ≤ 16777224 := by
 unfold headN
 split
 ·omega
 ·have h := (valL_bound (fun x hx => hb x (List.mem_of_mem_take hx) : Byte8 (b.take 3))).2
  have h3 : (256 : Int) ^ (b.take 3).length ≤ 256 ^ 3 := by
   have : (256 : Nat) ^ (b.take 3).length ≤ 256 ^ 3 := Nat.pow_le_pow_right (by decide) (by rw [List.length_take]; omega)
   have h := Int.ofNat_le.2 this
   rw [Int.natCast_pow, Int.natCast_pow] at h
   exact h
  have h16 : (256 : Int) ^ 3 = 16777216 := rfl
  omega
theorem hdF_app {b : List Int} (r : List Int) (h : 9 ≤ b.length) : hdF (b ++ r) = hdF b := by
 unfold hdF
 rw [List.take_append_of_le_length (by omega)]
 have g : ∀ i, i < 9 → (b ++ r).getD i 0 = b.getD i 0 := fun i hi => by
  rw [List.getD_eq_getElem?_getD, List.getD_eq_getElem?_getD, List.getElem?_append_left (by omega)]
 rw [g 3 (by decide), g 4 (by decide)]
theorem nextB_app {b : List Int} (r : List Int) (hb : Byte8 b) {x : Rs} {b' : List Int} {y : Bool} (h : nextB b = some (x, b', y)) : nextB (b ++ r) = some (x, if y = true then [] else b' ++ r, y) := by
 unfold nextB at h ⊢
 by_cases h9 : b.length < 9
 ·rw [if_pos h9] at h
  cases h
 ·rw [if_neg h9] at h
  have h9' : ¬ (b ++ r).length < 9 := by simp; omega
  rw [if_neg h9', headN_app r (by omega)]
  by_cases hs : headN b ≤ 16393 ∧ (b.length : Int) < headN b
  ·rw [if_pos hs] at h
   cases h
  ·rw [if_neg hs] at h
   have hs' : ¬ (headN b ≤ 16393 ∧ ((b ++ r).length : Int) < headN b) := by rw [List.length_append]; omega
   rw [if_neg hs']
   by_cases hg : 16393 < headN b
   ·rw [if_pos hg] at h ⊢
    obtain ⟨rfl, rfl, rfl⟩ : _ ∧ _ ∧ _ := by simpa using h
    rw [hdF_app r (by omega)]
    rfl
   ·have hn : (headN b).toNat ≤ b.length := by have := headN_ge (by omega) hb; omega
    rw [if_neg hg] at h ⊢
    rw [List.take_append_of_le_length hn, List.drop_append_of_le_length hn]
    by_cases hc : (getFr (b.take (headN b).toNat)).2.1 = 1
    ·rw [if_pos hc] at h ⊢
     obtain ⟨rfl, rfl, rfl⟩ : _ ∧ _ ∧ _ := by simpa using h
     rfl
    ·rw [if_neg hc] at h ⊢
     obtain ⟨rfl, rfl, rfl⟩ : _ ∧ _ ∧ _ := by simpa using h
     rfl
theorem nextB_less {b : List Int} (hb : Byte8 b) {x : Rs} {b' : List Int} {y : Bool} (h : nextB b = some (x, b', y)) : b'.length < b.length ∧ Byte8 b' ∧ (y = true → b' = []) := by
 unfold nextB at h
 by_cases h9 : b.length < 9
 ·rw [if_pos h9] at h
  cases h
 ·rw [if_neg h9] at h
  have hge := headN_ge (by omega) hb
  by_cases hs : headN b ≤ 16393 ∧ (b.length : Int) < headN b
  ·rw [if_pos hs] at h
   cases h
  ·rw [if_neg hs] at h
   split at h
   ·obtain ⟨rfl, rfl, rfl⟩ : _ ∧ _ ∧ _ := by simpa using h
    exact ⟨by simp; omega, fun x hx => (by cases hx), fun _ => rfl⟩
   ·split at h
    ·obtain ⟨rfl, rfl, rfl⟩ : _ ∧ _ ∧ _ := by simpa using h
     exact ⟨by simp; omega, fun x hx => (by cases hx), fun _ => rfl⟩
    ·obtain ⟨rfl, rfl, rfl⟩ : _ ∧ _ ∧ _ := by simpa using h
     exact ⟨by rw [List.length_drop]; omega, fun x hx => hb x (List.mem_of_mem_drop hx), fun h => by cases h⟩
theorem nextB_full {b : List Int} (h : nextB b = none) : b.length < 16393 := by
 unfold nextB at h
 by_cases h9 : b.length < 9
 ·omega
 ·rw [if_neg h9] at h
  by_cases hs : headN b ≤ 16393 ∧ (b.length : Int) < headN b
  ·omega
  ·rw [if_neg hs] at h
   split at h
   ·cases h
   ·split at h <;> cases h
theorem allB_fuel : ∀ (k : Nat) (b : List Int), Byte8 b → b.length ≤ k → allB (k + 1) b = allB k b
 | 0, b, _, h => by
  have : b = [] := List.eq_nil_of_length_eq_zero (by omega)
  subst this
  rfl
 | k + 1, b, hb, h => by
  rw [allB, allB]
  cases hx : nextB b with
  | none => rfl
  | some v =>
   obtain ⟨x, b', y⟩ := v
   have hl := nextB_less hb hx
   dsimp only
   rw [allB_fuel k b' hl.2.1 (by omega)]
theorem allB_more {b : List Int} (hb : Byte8 b) : ∀ (d k : Nat), b.length ≤ k → allB (k + d) b = allB k b
 | 0, k, _ => rfl
 | d + 1, k, h => (allB_fuel (k + d) b hb (by omega)).trans (allB_more hb d k h)
theorem allB_one {b r : List Int} (hb : Byte8 b) (hr : Byte8 r) {x : Rs} {b' : List Int} {y : Bool} (h : nextB b = some (x, b', y)) :
  allB (b ++ r).length (b ++ r) = if y = true then ([x], 0, true) else (x :: (allB (b' ++ r).length (b' ++ r)).1, (allB (b' ++ r).length (b' ++ r)).2) := by
 have hl := nextB_less hb h
 have happ := nextB_app r hb h
 obtain ⟨m, hm⟩ : ∃ m, (b ++ r).length = m + 1 := ⟨(b ++ r).length - 1, by simp; omega⟩
 rw [hm, allB, happ]
 dsimp only
 cases y with
 | true => rfl
 | false =>
  have hbr : Byte8 (b' ++ r) := fun x hx => (List.mem_append.1 hx).elim (hl.2.1 x) (hr x)
  have e := allB_more hbr (m - (b' ++ r).length) (b' ++ r).length (Nat.le_refl _)
  rw [show (b' ++ r).length + (m - (b' ++ r).length) = m by simp at hm ⊢; omega] at e
  simp only [Bool.false_eq_true, if_false]
  rw [e]
theorem allB_none {b : List Int} (h : nextB b = none) : allB b.length b = ([], b.length, false) := by
 cases hb : b.length with
 | zero => rw [allB, hb]
 | succ k => rw [allB, h, hb]
structure SInv (p : Bool) (full : List Int) (outs : List Rs) (s : Sp) (rest : List Int) : Prop where
 bb : Byte8 s.b
 br : Byte8 rest
 le : s.b.length ≤ 16393
 bad : s.bad = true → s.waits = false ∧ s.b = [] ∧ allP p full = (outs, 0, true)
 good : s.bad = false → allP p full = (outs ++ (allP s.waits (s.b ++ rest)).1, (allP s.waits (s.b ++ rest)).2)
theorem SInv.start (p : Bool) (full : List Int) (hb : Byte8 full) : SInv p full [] ⟨[], p, false⟩ full :=
 ⟨fun x hx => (by cases hx), hb, by simp, fun h => (by cases h), fun _ => rfl⟩
theorem SInv.next_plain {p : Bool} {full : List Int} {outs : List Rs} {b rest : List Int} (hb : Byte8 b) (hr : Byte8 rest) (hl : b.length ≤ 16393) (h : allP p full = (outs ++ (allP false (b ++ rest)).1, (allP false (b ++ rest)).2)) :
  (∀ x, (nextN b).1 = some x → SInv p full (outs ++ [x]) (nextN b).2 rest) ∧ ((nextN b).1 = none → SInv p full outs (nextN b).2 rest) := by
 unfold nextN
 cases hx : nextB b with
 | none => exact ⟨fun x h => (by cases h), fun _ => ⟨hb, hr, hl, fun h => (by cases h), fun _ => h⟩⟩
 | some v =>
  obtain ⟨x, b', y⟩ := v
  have hless := nextB_less hb hx
  have hone := allB_one hb hr hx
  refine ⟨fun x' h' => ?_, fun h => by cases h⟩
  obtain rfl : x = x' := by simpa using h'
  rw [show allP false (b ++ rest) = allB (b ++ rest).length (b ++ rest) from rfl, hone] at h
  cases y with
  | true =>
   simp only [if_true] at h
   exact ⟨hless.2.1, hr, by show b'.length ≤ _; omega, fun _ => ⟨rfl, hless.2.2 rfl, h⟩, fun h => by cases h⟩
  | false =>
   simp only [Bool.false_eq_true, if_false] at h
   refine ⟨hless.2.1, hr, by show b'.length ≤ _; omega, fun h => (by cases h), fun _ => ?_⟩
   show allP p full = (outs ++ [x] ++ (allB (b' ++ rest).length (b' ++ rest)).1, (allB (b' ++ rest).length (b' ++ rest)).2)
   rw [h]
   simp
theorem nextN_none {b : List Int} (h : (nextN b).1 = none) : nextN b = (none, ⟨b, false, false⟩) ∧ b.length < 16393 ∧ nextB b = none := by
 unfold nextN at h ⊢
 cases hx : nextB b with
 | none => exact ⟨rfl, nextB_full hx, rfl⟩
 | some v => rw [hx] at h; cases h
theorem SInv.done {p : Bool} {full : List Int} {outs : List Rs} {s : Sp} (h : SInv p full outs s []) (hb : s.bad = false) (hn : nextS s = (none, s)) : allP p full = (outs, s.b.length, false) := by
 obtain ⟨b, w, y⟩ := s
 simp only at hb
 subst hb
 have hg := h.good rfl
 simp only [List.append_nil] at hg
 rw [hg]
 have : allP w b = ([], b.length, false) := by
  unfold nextS at hn
  simp only [Bool.false_eq_true, if_false] at hn
  unfold allP
  cases w with
  | false =>
   simp only [Bool.false_eq_true, if_false] at hn ⊢
   exact allB_none (nextN_none (by rw [hn])).2.2
  | true =>
   simp only [if_true] at hn ⊢
   cases hp : preOk b with
   | false => rw [hp] at hn; simp at hn
   | true =>
    rw [hp] at hn
    simp only [Bool.true_eq_false, if_false] at hn ⊢
    by_cases h24 : b.length < 24
    ·rw [if_pos h24]
    ·rw [if_neg h24] at hn
     have h1 := (nextN_none (by rw [hn])).1
     rw [h1] at hn
     simp at hn
 rw [this]
 simp
end Go.Proofs.YtjjfkmniffbgkaaDoor

/- Package split's small functions, over what is held. (This text is printed by wip/gen/split1.py.) -/
namespace Go.Proofs.YtjjfkmniffbgkaaDoor
set_option linter.unusedVariables false
set_option linter.unusedSimpArgs false
open Go.RowKit Go.Proofs.YtjjfkmniffbgkaaDoorW.PrintWords Go.Proofs.YtjjfkmniffbgkaaDoorW.PrintLast Go.Proofs.YtjjfkmniffbgkaaDoorW.PrintMore Go.Proofs.YtjjfkmniffbgkaaDoor.QFrmA Go.Proofs.YtjjfkmniffbgkaaDoor.Given Go.Extern.Stop Go.Stop Go.Extern Go.Maps
attribute [local go_sem] max2_int min2_int max_two min_two
abbrev spO (g : Nat) (v : Value) (s : Sp) : Own := cl g [v, .bool s.waits, .bool s.bad] 105
abbrev spR (v : Value) (s : Sp) : Own := nrow 5 v .u8 s.b
structure IsSp (W : World) (g : Nat) (v : Value) (s : Sp) : Prop where
 blk : W.heap[g]? = some (.cells #[v, .bool s.waits, .bool s.bad] 105 (0, 0))
 own : W.ownsRow 0 5 1 v s.b.length (nums .u8 s.b)
theorem IsSp.hold {W : World} {g : Nat} {v : Value} {s : Sp} (h : IsSp W g v s) : Hold W W (ats [spO g v s, spR v s]) [spO g v s, spR v s] := by
 refine Hold.start (fun o ho => ?_) ?_
 ·simp only [List.mem_cons, List.not_mem_nil, or_false] at ho
  rcases ho with rfl | rfl
  ·exact h.blk
  ·exact h.own
 ·refine List.Pairwise.cons (fun b hb k hk hk2 => ?_) (List.pairwise_singleton _ _)
  obtain rfl := List.mem_singleton.1 hb
  obtain rfl := List.mem_singleton.1 hk
  exact own_ne h.own h.blk (by decide) (Option.mem_toList.1 hk2).symm
theorem Hold.sp {w W : World} {t : List Nat} {l : List Own} (H : Hold w W t l) {g : Nat} {v : Value} {s : Sp} (h1 : spO g v s ∈ l) (h2 : spR v s ∈ l) : IsSp W g v s := ⟨H.blk h1, H.row h2⟩
theorem IsSp.below {W W1 : World} {g : Nat} {v : Value} {s : Sp} (h : IsSp W g v s) (hb : Below W.heap.size W W1) : IsSp W1 g v s := ⟨blk_below h.blk hb, pw_own_below h.own hb⟩
theorem Hold.set {w W : World} {t : List Nat} {l l' : List Own} (H : Hold w W t l) {g k : Nat} {cs : List Value} {bt : TypeId} (u : Value) (hm : Put l (cl g cs bt) (cl g (cs.set k u) bt) l') : Hold w (W.setCell ⟨g, k, none⟩ u) t l' := by
 obtain ⟨r, hp1, _⟩ := hm.perm
 have hb := H.blk (cs := cs) (hp1.mem_iff.2 (List.Mem.head _))
 refine H.put hm (Hold.store ⟨rfl, rfl, rfl, by simp [World.setCell], fun i hi => Below.heap_setCell _ ⟨g, k, none⟩ _ i hi⟩ ?_)
 have := blk_set hb k u
 simpa using this
theorem new_split (w : World) (p : Bool) : Calls Tryd.prog 33 #[.bool p] w fun e w' => ∃ g, e = .returned (.pointer (some ⟨g, 0, none⟩)) ∧ Hold w w' [] [spO g nilS ⟨[], p, false⟩, spR nilS ⟨[], p, false⟩] := by
 refine of_post0 fun R hRR => ?_
 have HP := Lib.hid hRR
 clear hRR
 have H : Hold w w [] [nrow 5 nilS .u8 []] := Hold.made (Below.refl _ _) (own_nil _ _ _ _) (fun k hk => by cases hk)
 go_enter Tryd.func33, Tryd.ntmps33
 go_wp2_with (first
  | (refine box_h H rfl rfl rfl rfl ?_; clear H; intro g w_ H))
 exact HP.out _ _ ⟨_, rfl, H⟩
theorem bad_calls (w : World) (g : Nat) (v : Value) (x y : Bool) (h : w.heap[g]? = some (.cells #[v, .bool x, .bool y] 105 (0, 0))) :
  Calls Tryd.prog 37 #[.pointer (some ⟨g, 0, none⟩)] w fun e w' => e = .returned (.bool y) ∧ Below w.heap.size w w' := by
 have q2 := blk_cell h 2
 simp at q2
 go_enter Tryd.func37, Tryd.ntmps37
 go_wp2
 go_ret
 exact ⟨rfl, Below.refl _ _⟩
theorem held_calls (w : World) (g : Nat) (v : Value) (s : Sp) (h : IsSp w g v s) :
  Calls Tryd.prog 38 #[.pointer (some ⟨g, 0, none⟩)] w fun e w' => e = .returned (.int .i64 (s.b.length : Int)) ∧ Below w.heap.size w w' := by
 obtain ⟨A, c, rfl⟩ := own_slice h.own
 have q0 := blk_cell h.blk 0
 simp at q0
 go_enter Tryd.func38, Tryd.ntmps38
 go_wp2
 go_ret
 exact ⟨rfl, Below.refl _ _⟩
theorem feed_bad (w : World) (g : Nat) (v : Value) (s : Sp) (h : IsSp w g v s) (hb : s.bad = true) (A : Option Addr) (n c : Nat) : Calls Tryd.prog 40 #[.pointer (some ⟨g, 0, none⟩), .slice A n c] w fun e w' => e = .returned (.int .i64 0) ∧ Below w.heap.size w w' := by
 refine of_post0 fun R hRR => ?_
 have HP := Lib.hid hRR
 have hC := fun W (hb2 : Below w.heap.size w W) => bad_calls W g v s.waits s.bad (h.below hb2).blk
 rw [hb] at hC
 have HC := Lib.hid hC
 clear hRR h hC hb
 have H : Hold w w [] [] := Hold.nothing (Kept.refl _ _)
 go_enter Tryd.func40, Tryd.ntmps40
 go_wp2_with (first
  | (go_at_call 37; refine (HC.out _ H.all).mono ?_; rintro e_ w_ ⟨rfl, h_⟩; replace H := H.below h_; clear h_))
 exact HP.out _ _ ⟨rfl, H.all⟩
def feedN (s : Sp) (xs : List Int) : Nat := min xs.length (16393 - s.b.length)
set_option maxHeartbeats 4000000 in
set_option maxRecDepth 100000 in
theorem feed_good (w : World) (g : Nat) (v : Value) (s : Sp) (h : IsSp w g v s) (hb : s.bad = false) (hl : s.b.length ≤ 16393) (A : Option Addr) (c : Nat) (xs : List Int) (hR : ReadsInt w .u8 A xs.length xs) (hc : xs.length ≤ c) :
  Calls Tryd.prog 40 #[.pointer (some ⟨g, 0, none⟩), .slice A xs.length c] w fun e w' => ∃ v', e = .returned (.int .i64 ((feedN s xs : Nat) : Int)) ∧ Hold w w' (ats [spO g v s, spR v s]) [spO g v' ⟨s.b ++ xs.take (feedN s xs), s.waits, false⟩, spR v' ⟨s.b ++ xs.take (feedN s xs), s.waits, false⟩] := by
 obtain ⟨b, x, y⟩ := s
 simp only at hb hl
 subst hb
 obtain ⟨A1, c1, rfl⟩ := own_slice h.own
 unfold feedN
 simp only
 generalize hn : min xs.length (16393 - b.length) = n
 have hnx : n ≤ xs.length := by omega
 have hm : (if 16393 - (b.length : Int) < (xs.length : Int) then 16393 - (b.length : Int) else (xs.length : Int)) = (n : Int) := by
  split <;> omega
 obtain ⟨i0, hi, _, hsz, _⟩ := info_parts Tryd.infoB8
 obtain ⟨hcut, hr, hc2⟩ := print_take_int (P := Tryd.prog) (k := .u8) 35 5 Tryd.underlying35 hi hsz A c xs (n : Int) (by omega) (by omega) hc
 rw [Int.toNat_natCast] at hcut hr hc2
 have hR2 : ReadsInt w .u8 A n (xs.take n) := hR.take_ n hnx
 refine of_post0 fun R hRR => ?_
 have HP := Lib.hid hRR
 have H : Hold w w _ _ := h.hold
 have HR := Lib.hid (And.intro hR2 hl)
 have hsp := Lib.hid h.blk
 have e4 : (n : Int) ≤ (xs.length : Int) := by omega
 have e5 : n ≤ xs.length := hnx
 have hnl : (xs.take n).length = n := by rw [List.length_take]; omega
 rw [hnl] at hcut
 clear hRR h hr hR hi hsz hR2 hn
 go_enter Tryd.func40, Tryd.ntmps40
 go_upto_region 4 with (first
  | (go_at_call 37; refine (bad_calls _ g _ _ _ (H.blk (by repeat (first | exact List.Mem.head _ | apply List.Mem.tail)))).mono ?_; rintro e_ w_ ⟨rfl, h_⟩; have HR2 := Lib.hid (And.intro (HR.out.1.below h_) HR.out.2); replace H := H.below h_; clear h_)
  | (refine loadf_h H rfl rfl rfl (by repeat (first | exact List.Mem.head _ | apply List.Mem.tail)) rfl (by kernel_rfl) ?_))
 replace H := H.below (below_drew (Below.refl _ _))
 have hR3 := HR2.out.1.below (below_drew (Below.refl _ _))
 have e0 := H.cell (g := g) (by repeat (first | exact List.Mem.head _ | apply List.Mem.tail)) 0
 simp at e0
 go_region_law (first
  | (refine append_o H rfl rfl 1 Tryd.underlying35 Tryd.infoB8 (by decide) (xs.take n) rfl rfl (fun y => (by repeat (first | exact Put.head | apply Put.tail))) hR3 (by have := HR2.out.2; simp; omega) ?_; clear H; intro v1_ w_ H h_; obtain ⟨A2_, c2_, e2_⟩ := own_slice (H.row (e := 5) (v := v1_) (k := .u8) (xs := b ++ xs.take n) (by repeat (first | exact List.Mem.head _ | apply List.Mem.tail))); rw [List.length_append, hnl] at e2_; subst e2_; have e0 := H.cell (g := g) (by repeat (first | exact List.Mem.head _ | apply List.Mem.tail)) 0; simp at e0; have f0 := blk_frozen (H.blk (g := g) (by repeat (first | exact List.Mem.head _ | apply List.Mem.tail))) 0))
 all_goals
  replace H := H.set (g := g) (k := 0) (.slice A2_ (b.length + n) c2_) (by repeat (first | exact Put.head | apply Put.tail))
  go_wp2_with fail
  exact HP.out _ _ ⟨_, rfl, H⟩

theorem own_zero {w : World} {base n size : Nat} {e : TypeId} {v : Value} {xs : List Value} (h : w.ownsRow base e size v n xs) : w.ownsRow 0 e size v n xs :=
 ⟨h.1, h.2.imp id fun ⟨g, cap, cur, e, _, r⟩ => ⟨g, cap, cur, e, Nat.zero_le _, r⟩⟩
theorem clone_got (w : World) (A : Option Addr) (n c : Nat) (data : List Int) (hR : ReadsInt w .u8 A n data) (hn : n ≤ 100000) :
  Calls Tryd.prog 68 #[.slice A n c] w fun e w' => ∃ v, e = .returned v ∧ Hold w w' [] [nrow 5 v .u8 data] := by
 refine (clone_calls w A n c data hR hn).mono ?_
 rintro e w' ⟨v, rfl, ho, hb⟩
 exact ⟨v, rfl, Hold.made hb (own_zero ho) fun k hk => own_base ho k (Option.mem_toList.1 hk)⟩
set_option maxHeartbeats 2000000 in
theorem spfails_calls (w : World) (g : Nat) (v : Value) (s : Sp) (h : IsSp w g v s) : Calls Tryd.prog 67 #[.pointer (some ⟨g, 0, none⟩)] w fun e w' => e = .returned (.tuple #[]) ∧ Hold w w' (ats [spO g v s, spR v s]) [spO g nilS ⟨[], s.waits, true⟩, spR nilS ⟨[], s.waits, true⟩] := by
 refine of_post0 fun R hRR => ?_
 have HP := Lib.hid hRR
 have H : Hold w w (ats [spO g v s, spR v s]) [spO g v s, spR v s] := h.hold
 obtain ⟨b, x, y⟩ := s
 clear hRR h
 go_enter Tryd.func67, Tryd.ntmps67
 go_wp2_with (first
  | (refine is_store rfl ?_; refine store_h H rfl rfl rfl rfl rfl (by repeat (first | exact Put.head | apply Put.tail)) (by kernel_rfl) (Nat.le_of_ble_eq_true rfl) rfl ?_; clear H; intro w_ H; simp only [setC, Value.cells, List.toList_toArray] at H))
 refine bodyPost_end (results_none rfl _ _ _) rfl (HP.out _ _ ⟨rfl, ?_⟩)
 have H2 := H.sub (l' := [spO g nilS ⟨b, x, true⟩]) (by repeat (first | exact List.Sublist.slnil | apply List.Sublist.cons_cons | apply List.Sublist.cons))
 exact (Hold.push (l1 := [nrow 5 nilS .u8 []]) H2 (Hold.made (Below.refl _ _) (own_nil _ _ _ _) (fun k hk => by cases hk))).perm (List.Perm.swap _ _ _)
theorem reads_own {w : World} {base n c : Nat} {e : TypeId} {k : IntKind} {A : Option Addr} {xs : List Int} (h : w.ownsRow base e 1 (.slice A n c) n (nums k xs)) : ReadsInt w k A n xs := by
 obtain ⟨A', c', e, h'⟩ := own_reads h
 cases e
 exact h'
theorem H2_ {w W : World} {t : List Nat} {e : TypeId} {v : Value} {k : IntKind} {xs : List Int} (h : Hold w W t [nrow e v k xs]) : W.ownsRow 0 e 1 v xs.length (nums k xs) := h.row (List.Mem.head _)
theorem pre_str : strOfNums pre24 = ⟨#[80, 82, 73, 32, 42, 32, 72, 84, 84, 80, 47, 50, 46, 48, 13, 10, 13, 10, 83, 77, 13, 10, 13, 10]⟩ := by
 rfl
theorem str_ne {l m : List Int} (hl : Byte8 l) (hm : Byte8 m) : (strOfNums l).toList = (strOfNums m).toList ↔ l = m := by
 constructor
 ·intro h
  have := congrArg (List.map fun b : UInt8 => (b.toNat : Int)) h
  rw [ByteArray.toList_eq, ByteArray.toList_eq] at this
  have e1 := bytes_str hl
  have e2 := bytes_str hm
  unfold bytesOf at e1 e2
  exact e1.symm.trans (this.trans e2)
 ·rintro rfl; rfl
theorem pre24_byte : Byte8 pre24 := by
 intro x hx
 simp only [pre24, List.mem_cons, List.not_mem_nil, or_false] at hx
 omega
structure BIn (W : World) (A : Option Addr) (c n : Nat) (b : List Int) (ne : Bool) : Prop where
 cut : ∀ W : World, (Instr.slice 35 (.slice A b.length c) none (some (.int .i64 (n : Int))) none).run Tryd.prog W = .ok (.slice A n c) W
 conv : ∀ W1, Below W.heap.size W W1 → (convert 35 9 (.slice A n c)).run Tryd.prog W1 = .ok (.string (strOfNums (b.take n))) W1
 pre : ∀ W : World, (Instr.slice 9 (.string ⟨#[80, 82, 73, 32, 42, 32, 72, 84, 84, 80, 47, 50, 46, 48, 13, 10, 13, 10, 83, 77, 13, 10, 13, 10]⟩) none (some (.int .i64 (n : Int))) none).run Tryd.prog W = .ok (.string (strOfNums (pre24.take n))) W
 ne_ : ((strOfNums (b.take n)).toList == (strOfNums (pre24.take n)).toList) = ne
 mn : (if (24 : Int) < (b.length : Int) then (24 : Int) else (b.length : Int)) = (n : Int)
theorem bin_of {W : World} {A : Option Addr} {c : Nat} {b : List Int} (hR : ReadsInt W .u8 A b.length b) (hc : b.length ≤ c) (hby : Byte8 b) : BIn W A c (min 24 b.length) b (preOk b) := by
 obtain ⟨i0, hi, _, hsz, _⟩ := info_parts Tryd.infoB8
 obtain ⟨hcut, hr, hc2⟩ := print_take_int (P := Tryd.prog) (k := .u8) 35 5 Tryd.underlying35 hi hsz A c b ((min 24 b.length : Nat) : Int) (by omega) (by omega) hc
 rw [Int.toNat_natCast] at hcut hr hc2
 have hl : (b.take (min 24 b.length)).length = min 24 b.length := by rw [List.length_take]; omega
 rw [hl] at hcut hr
 refine ⟨hcut, fun W1 hb => string_of_reads Tryd.underlying35 Tryd.underlying5 Tryd.underlying9 (hr W1 (hR.below hb)), fun W => ?_, ?_, by split <;> omega⟩
 ·have := run_to_str pre24 ((min 24 b.length : Nat) : Int) (by omega) (by show _ ≤ (24 : Int); omega) W
  rw [pre_str, Int.toNat_natCast] at this
  exact this
 ·have hb1 : Byte8 (b.take (min 24 b.length)) := fun x hx => hby x (List.mem_of_mem_take hx)
  have hb2 : Byte8 (pre24.take (min 24 b.length)) := fun x hx => pre24_byte x (List.mem_of_mem_take hx)
  unfold preOk
  rw [Bool.eq_iff_iff, beq_iff_eq, beq_iff_eq]
  exact str_ne hb1 hb2
theorem own_reads2 {w : World} {base n : Nat} {e : TypeId} {k : IntKind} {v : Value} {xs : List Int} (h : w.ownsRow base e 1 v n (nums k xs)) : ∃ A c, v = .slice A n c ∧ ReadsInt w k A n xs ∧ n ≤ c := by
 obtain ⟨A, c, rfl, hR⟩ := own_reads h
 refine ⟨A, c, rfl, hR, ?_⟩
 rcases h.2 with ⟨e, e2⟩ | ⟨g, cap, cur, e, _, _, hcap, _⟩
 ·have := hR.1
  cases e
  omega
 ·cases e
  first | exact hcap | omega
set_option maxHeartbeats 4000000 in
set_option maxRecDepth 100000 in
theorem begins_bad (w : World) (g : Nat) (v : Value) (s : Sp) (h : IsSp w g v s) (hby : Byte8 s.b) (hp : preOk s.b = false) : Calls Tryd.prog 66 #[.pointer (some ⟨g, 0, none⟩)] w fun e w' => e = .returned (.bool false) ∧ Hold w w' (ats [spO g v s, spR v s]) [spO g nilS ⟨[], s.waits, true⟩, spR nilS ⟨[], s.waits, true⟩] := by
 refine of_post0 fun R hRR => ?_
 have HP := Lib.hid hRR
 obtain ⟨A0, c0, hv, hR, hc⟩ := own_reads2 h.own
 have hI := bin_of hR hc hby
 rw [hp] at hI
 have H : Hold w w (ats [spO g v s, spR v s]) [spO g v s, spR v s] := h.hold
 have HS := Lib.hid h
 obtain ⟨b, x, y⟩ := s
 subst hv
 have hm := hI.mn
 generalize min 24 b.length = n at hI hm
 have HI := Lib.hid hI
 clear hRR h hR hc hp hI
 go_enter Tryd.func66, Tryd.ntmps66
 go_upto_region 2 with (first
  | (refine loadf_h H rfl rfl rfl (by repeat (first | exact List.Mem.head _ | apply List.Mem.tail)) rfl (by kernel_rfl) ?_))
 replace H := H.below (below_drew (Below.refl _ _))
 have hI := HI.out
 have e0 := H.cell (g := g) (by repeat (first | exact List.Mem.head _ | apply List.Mem.tail)) 0
 simp at e0
 have k0 := (hI.conv _ (below_drew (Below.refl _ _)))
 have k1 := hI.cut
 have k2 := hI.pre
 have k3 := hI.ne_
 go_region
 go_wp2_with (first
  | (go_at_call 67; refine (spfails_calls _ g _ _ (H.sp (by repeat (first | exact List.Mem.head _ | apply List.Mem.tail)) (by repeat (first | exact List.Mem.head _ | apply List.Mem.tail)))).mono ?_; rintro e_ w_ ⟨rfl, h_⟩; replace H := Hold.call (l0 := [spO g (.slice A0 b.length c0) ⟨b, x, y⟩, spR (.slice A0 b.length c0) ⟨b, x, y⟩]) (r := []) H h_; clear h_))
 exact HP.out _ _ ⟨rfl, H⟩
set_option maxHeartbeats 4000000 in
set_option maxRecDepth 100000 in
theorem begins_short (w : World) (g : Nat) (v : Value) (s : Sp) (h : IsSp w g v s) (hby : Byte8 s.b) (hp : preOk s.b = true) (hl : s.b.length < 24) : Calls Tryd.prog 66 #[.pointer (some ⟨g, 0, none⟩)] w fun e w' => e = .returned (.bool false) ∧ Hold w w' (ats [spO g v s, spR v s]) [spO g v s, spR v s] := by
 refine of_post0 fun R hRR => ?_
 have HP := Lib.hid hRR
 obtain ⟨A0, c0, hv, hR, hc⟩ := own_reads2 h.own
 have hI := bin_of hR hc hby
 rw [hp] at hI
 have H : Hold w w (ats [spO g v s, spR v s]) [spO g v s, spR v s] := h.hold
 obtain ⟨b, x, y⟩ := s
 subst hv
 have hm := hI.mn
 have hn : (((min 24 b.length : Nat) : Int) < 24) := by simp only at hl; omega
 generalize min 24 b.length = n at hI hm hn
 have hn2 : decide ((n : Int) < 24) = true := decide_eq_true hn
 have hn3 : decide (n < 24) = true := decide_eq_true (by omega)
 have HI := Lib.hid hI
 clear hRR h hR hc hp hI hl
 go_enter Tryd.func66, Tryd.ntmps66
 go_upto_region 2 with (first
  | (refine loadf_h H rfl rfl rfl (by repeat (first | exact List.Mem.head _ | apply List.Mem.tail)) rfl (by kernel_rfl) ?_))
 replace H := H.below (below_drew (Below.refl _ _))
 have hI := HI.out
 have e0 := H.cell (g := g) (by repeat (first | exact List.Mem.head _ | apply List.Mem.tail)) 0
 simp at e0
 have k0 := (hI.conv _ (below_drew (Below.refl _ _)))
 have k1 := hI.cut
 have k2 := hI.pre
 have k3 := hI.ne_
 go_region
 go_wp2_with fail
 exact HP.out _ _ ⟨rfl, H⟩
set_option maxHeartbeats 4000000 in
set_option maxRecDepth 100000 in
theorem begins_ok (w : World) (g : Nat) (v : Value) (s : Sp) (h : IsSp w g v s) (hby : Byte8 s.b) (hp : preOk s.b = true) (hl : 24 ≤ s.b.length) (hl2 : s.b.length ≤ 16393) : Calls Tryd.prog 66 #[.pointer (some ⟨g, 0, none⟩)] w fun e w' => ∃ v', e = .returned (.bool true) ∧ Hold w w' (ats [spO g v s, spR v s]) [spO g v' ⟨s.b.drop 24, false, s.bad⟩, spR v' ⟨s.b.drop 24, false, s.bad⟩] := by
 refine of_post0 fun R hRR => ?_
 have HP := Lib.hid hRR
 obtain ⟨A0, c0, hv, hR, hc⟩ := own_reads2 h.own
 have hI := bin_of hR hc hby
 rw [hp] at hI
 have H : Hold w w (ats [spO g v s, spR v s]) [spO g v s, spR v s] := h.hold
 obtain ⟨b, x, y⟩ := s
 simp only at hl hl2 hc hR hby hp
 subst hv
 have hm := hI.mn
 have hn : min 24 b.length = 24 := by omega
 rw [show b.drop 24 = b.drop (min 24 b.length) by rw [hn]] at HP
 generalize min 24 b.length = n at hI hm hn HP
 obtain ⟨i0, hi, _, hsz, _⟩ := info_parts Tryd.infoB8
 obtain ⟨A2, hcut2, hr2, hm2⟩ := print_drop_of (P := Tryd.prog) (Value.int .u8) (0 : Int) 35 5 .i64 Tryd.underlying35 hi hsz A0 c0 b (n : Int) (by omega) (by omega) hc
 rw [Int.toNat_natCast] at hcut2 hr2 hm2
 have hl3 : (b.drop n).length ≤ 100000 := by rw [List.length_drop]; omega
 have HC := Lib.hid (fun W (hW : ReadsInt W .u8 A0 b.length b) => clone_got W A2 _ (c0 - n) (b.drop n) (hr2 W hW) hl3)
 have hn5 : (n : Int) ≤ (b.length : Int) := by omega
 have hn2 : decide ((n : Int) < 24) = false := decide_eq_false (by omega)
 have hn3 : decide (n < 24) = false := decide_eq_false (by omega)
 generalize hL : b.drop n = L at hcut2 HC HP
 have HI := Lib.hid hI
 clear hRR h hR hc hp hI hl hl2 hi hsz hr2 hl3 hn hL
 go_enter Tryd.func66, Tryd.ntmps66
 go_upto_region 2 with (first
  | (refine loadf_h H rfl rfl rfl (by repeat (first | exact List.Mem.head _ | apply List.Mem.tail)) rfl (by kernel_rfl) ?_))
 replace H := H.below (below_drew (Below.refl _ _))
 have hI := HI.out
 have e0 := H.cell (g := g) (by repeat (first | exact List.Mem.head _ | apply List.Mem.tail)) 0
 simp at e0
 have k0 := (hI.conv _ (below_drew (Below.refl _ _)))
 have k1 := hI.cut
 have k2 := hI.pre
 have k3 := hI.ne_
 go_region
 go_wp2_with (first
  | (refine loadf_h H rfl rfl rfl (by repeat (first | exact List.Mem.head _ | apply List.Mem.tail)) rfl (by kernel_rfl) ?_)
  | (refine is_store rfl ?_; refine store_h H rfl rfl rfl rfl rfl (by repeat (first | exact Put.head | apply Put.tail)) (by kernel_rfl) (Nat.le_of_ble_eq_true rfl) rfl ?_; clear H; intro w_ H; simp only [setC, Value.cells, List.toList_toArray] at H)
  | (go_at_call 68; refine (HC.out _ (reads_own (H.row (by repeat (first | exact List.Mem.head _ | apply List.Mem.tail))))).mono ?_; rintro e_ w_ ⟨v2, rfl, h_⟩; have hsl := (own_slice (H2_ h_)); obtain ⟨A3, c3, rfl⟩ := hsl; replace H := Hold.push H h_; clear h_))
 have H2 : Hold w _ _ [nrow 5 (.slice A3 L.length c3) .u8 L, spO g (.slice A3 L.length c3) ⟨L, false, y⟩] := H.sub (List.Sublist.cons_cons _ (List.Sublist.cons_cons _ (List.Sublist.cons _ List.Sublist.slnil)))
 exact HP.out _ _ ⟨_, rfl, H2.perm (List.Perm.swap _ _ _)⟩
end Go.Proofs.YtjjfkmniffbgkaaDoor

/- What is held of a frame that came: its rows. No program. -/
namespace Go.Proofs.YtjjfkmniffbgkaaDoor
set_option linter.unusedVariables false
set_option linter.unusedSimpArgs false
open Go.RowKit Go.Proofs.YtjjfkmniffbgkaaDoorW.PrintWords Go.Proofs.YtjjfkmniffbgkaaDoorW.PrintLast Go.Proofs.YtjjfkmniffbgkaaDoorW.PrintMore Go.Proofs.YtjjfkmniffbgkaaDoor.QFrmA Go.Proofs.YtjjfkmniffbgkaaDoor.Given Go.Extern.Stop Go.Stop Go.Extern Go.Maps
theorem C99_blk {W W1 : World} {A : Option Addr} {n : Nat} {xs : List S99} (hC : k99.C W A n xs) (h : ∀ a, A = some a → 0 < n → W1.heap[a.block]? = W.heap[a.block]?) : k99.C W1 A n xs :=
 ⟨hC.1, hC.2.1, fun hn => by
  obtain ⟨ad, e, hc⟩ := hC.2.2 hn
  refine ⟨ad, e, fun j p hj => ?_⟩
  obtain ⟨c, hs, hr, hcell⟩ := hc j p hj
  refine ⟨c, hs, hr, fun i u hu => ?_⟩
  rw [← hcell i u hu]
  exact World.cell?_of_block (by rw [add_block]; exact h ad e hn)⟩
theorem C99_lt {W : World} {ad : Addr} {n : Nat} {xs : List S99} (hC : k99.C W (some ad) n xs) (hn : 0 < n) : ad.block < W.heap.size := by
 obtain ⟨ad', e, hc⟩ := hC.2.2 hn
 obtain rfl := Option.some.inj e
 have hl : 0 < xs.length := by have := hC.1; omega
 obtain ⟨c, hs, hr, hcell⟩ := hc 0 xs[0] (by simp [hl])
 have hs2 : c.length = 2 := hs
 have := World.block_lt_of_cell? W _ (hcell 0 (c[0]'(by omega)) (List.getElem?_eq_getElem (by omega)))
 rw [add_block] at this
 exact this
def blks (A : Option Addr) (n : Nat) : List Nat := if n = 0 then [] else (A.map (·.block)).toList
theorem mem_blks {ad : Addr} {n : Nat} (hn : 0 < n) : ad.block ∈ blks (some ad) n := by
 unfold blks
 rw [if_neg (by omega)]
 exact Option.mem_toList.2 rfl
theorem blks_some {A : Option Addr} {n k : Nat} (h : k ∈ blks A n) : 0 < n ∧ ∃ ad, A = some ad ∧ ad.block = k := by
 unfold blks at h
 split at h
 ·cases h
 ·obtain ⟨ad, e1, e2⟩ := Option.map_eq_some_iff.1 (Option.mem_toList.1 h)
  exact ⟨by omega, ad, e1, e2⟩
def frThing (A : Option Addr) (c : Nat) (B : Option Addr) (m : Nat) (G : Fr) : Own :=
 .thing (blks A G.data.length ++ blks B G.sets.length) (fun W => (ReadsInt W .u8 A G.data.length G.data ∧ G.data.length ≤ c) ∧ k99.C W B G.sets.length G.sets ∧ G.sets.length ≤ m)
  (fun W W1 h hb => ⟨⟨⟨h.1.1.1, h.1.1.2.1, fun hn => by
   obtain ⟨ad, rfl, hc⟩ := h.1.1.2.2 hn
   refine ⟨ad, rfl, fun j hj => ?_⟩
   rw [← hc j hj]
   exact World.cell?_of_block (by rw [add_block]; exact hb _ (List.mem_append_left _ (mem_blks hn)))⟩, h.1.2⟩, C99_blk h.2.1 (fun a e hn => by subst e; exact hb _ (List.mem_append_right _ (mem_blks hn))), h.2.2⟩)
  (fun W k h hk => by
   rcases List.mem_append.1 hk with hk | hk
   ·obtain ⟨hn, ad, rfl, rfl⟩ := blks_some hk
    obtain ⟨ad', e, hc⟩ := h.1.1.2.2 hn
    obtain rfl := Option.some.inj e
    have := World.block_lt_of_cell? W _ (hc 0 hn)
    rw [add_block] at this
    exact this
   ·obtain ⟨hn, ad, rfl, rfl⟩ := blks_some hk
    exact C99_lt h.2.1 hn)
theorem frThing_hold {W W1 : World} {G : Fr} {A : Option Addr} {c : Nat} {B : Option Addr} {m : Nat} (hb : Below W.heap.size W W1) (h1 : ReadsInt W1 .u8 A G.data.length G.data ∧ G.data.length ≤ c ∧ ∀ a, A = some a → W.heap.size ≤ a.block) (h2 : k99.C W1 B G.sets.length G.sets ∧ G.sets.length ≤ m ∧ ∀ a, B = some a → W.heap.size ≤ a.block) :
  Hold W W1 [] [frThing A c B m G] :=
 ⟨Kept.of_below hb, fun o ho => by rw [List.mem_singleton.1 ho]; exact ⟨⟨h1.1, h1.2.1⟩, h2.1, h2.2.1⟩, List.pairwise_singleton _ _, fun o ho k hk => by
  rw [List.mem_singleton.1 ho] at hk
  rcases List.mem_append.1 hk with hk | hk
  ·obtain ⟨hn, ad, rfl, rfl⟩ := blks_some hk
   exact .inl (h1.2.2 ad rfl)
  ·obtain ⟨hn, ad, rfl, rfl⟩ := blks_some hk
   exact .inl (h2.2.2 ad rfl)⟩
theorem Hold.fr {w W : World} {t : List Nat} {l : List Own} (H : Hold w W t l) {A : Option Addr} {c : Nat} {B : Option Addr} {m : Nat} {G : Fr} (h : frThing A c B m G ∈ l) : (ReadsInt W .u8 A G.data.length G.data ∧ G.data.length ≤ c) ∧ k99.C W B G.sets.length G.sets ∧ G.sets.length ≤ m := H.ok _ h
end Go.Proofs.YtjjfkmniffbgkaaDoor

/- What a walk holds: copy into a row of its own. No program. -/
namespace Go.Proofs.YtjjfkmniffbgkaaDoor
set_option linter.unusedVariables false
set_option linter.unusedSimpArgs false
open Go.RowKit Go.Proofs.YtjjfkmniffbgkaaDoorW.PrintWords
section
variable {P : Program} {ops : Array Oper} {rest : List Oper} {o : Oper} {a : Act} {Q : Exit → Act → World → Prop} {w W : World} {t : List Nat} {l : List Own}
theorem copy_h (H : Hold w W t l) (hgd : o.guard = none) {d s : Operand} {st : TypeId} (ho : o.op = .call { callee := .builtin .copy, args := #[d, s], argTypes := #[st, st] }) {e : TypeId} {k : IntKind}
  (hu : P.underlying st = some (.slice e)) (hsz : (P.info? e).map (·.size) = some 1) {v : Value} {xs : List Int} (ys : List Int) {A : Option Addr} {m c : Nat} (hd : a.eval d = v) (hs : a.eval s = .slice A m c) {l' : List Own}
  (hm : Put l (nrow e v k xs) (nrow e v k (ys ++ xs.drop m)) l') (HR : ReadsInt W k A m ys) (hle : m ≤ xs.length) (h : ∀ w1, Hold w w1 t l' → wpList P ops Q rest (a.put o.dst (goInt m)) w1) : wpList P ops Q (o :: rest) a W := by
 obtain ⟨r, hp1, _⟩ := hm.perm
 have hrow := H.row (e := e) (v := v) (k := k) (xs := xs) (hp1.mem_iff.2 (List.Mem.head _))
 have hyl : ys.length = m := HR.1
 have hlen : (ys ++ xs.drop m).length = xs.length := by rw [List.length_append, List.length_drop]; omega
 rcases Nat.eq_zero_or_pos m with h0 | h0
 ·obtain rfl : ys = [] := List.eq_nil_of_length_eq_zero (by omega)
  subst h0
  obtain ⟨A', c', rfl⟩ := own_slice hrow
  refine wpList_copy_nothing hgd d s st st ho e hu hsz A' A xs.length c' 0 c hd hs (Nat.zero_min _) ?_
  exact h W (H.put hm (Hold.turned rfl rfl rfl (Nat.le_refl _) (fun _ _ _ => rfl) (show W.ownsRow 0 e 1 _ _ _ by simpa using hrow) fun k hk => .inr hk))
 ·rcases hrow.2 with ⟨rfl, h1⟩ | ⟨g, cap, cur, rfl, hb, heap, hcap, hmax, hsize, htake⟩
  ·omega
  ·obtain ⟨ad, rfl, hc⟩ := HR.2.2 h0
   have hnl : (nums k ys).length = m := by rw [nums_length, hyl]
   refine wpList_copy_own hgd d s st st ho e hu hsz g 0 xs.length cap ad m c hd hs cur e heap (nums k ys) (by rw [hnl]; exact (Nat.min_eq_left hle).symm) (fun j u hu => ?_) (by omega) (fun u hu => by obtain ⟨q, _, rfl⟩ := List.mem_map.1 hu; rfl) ?_
   ·have hj : j < ys.length := by
     have := (List.getElem?_eq_some_iff.1 hu).1
     rwa [nums_length] at this
    rw [hc j (by omega), ← hu]
    simp [nums, List.getD_eq_getElem?_getD, List.getElem?_eq_getElem hj]
   ·rw [hnl]
    refine h _ (H.put hm (Hold.turned rfl rfl rfl (by simp [World.setRow]) (fun i _ hne => setRow_other W g i _ fun e => hne (by subst e; exact Option.mem_toList.2 rfl)) ?_ fun k hk => .inr hk))
    refine ⟨by rw [nums_length, Nat.mul_one], .inr ⟨g, cap, _, by rw [hlen], Nat.zero_le _, setRow_heap W g cur _ e (0, 0) heap, by omega, hmax, ?_, ?_⟩⟩
    ·have : cur.toList.length = cap * 1 := by simpa using hsize
     simp only [List.size_toArray, List.length_append, List.length_take, List.length_drop, hnl]
     omega
    ·have ht : (cur.toList.take xs.length) = nums k xs := by simpa using htake
     rw [hlen, Nat.mul_one, List.toList_toArray, List.take_zero, List.nil_append, Nat.zero_add, List.take_append, hnl, List.take_of_length_le (by omega), nums_append]
     congr 1
     rw [show nums k (xs.drop m) = (nums k xs).drop m by simp [nums], ← ht, List.drop_take]
end

inductive Pull : List Own → Own → List Own → Prop
 | head {x : Own} {r : List Own} : Pull (x :: r) x r
 | tail {x z : Own} {r r' : List Own} (h : Pull r x r') : Pull (z :: r) x (z :: r')
theorem Pull.perm {l r : List Own} {x : Own} (h : Pull l x r) : l.Perm (x :: r) := by
 induction h with
 | head => exact List.Perm.refl _
 | tail _ ih => exact (ih.cons _).trans (List.Perm.swap _ _ _)
theorem Hold.pull1 {w W : World} {t : List Nat} {l r : List Own} {x : Own} (H : Hold w W t l) (h1 : Pull l x r) : Hold w W t ([x] ++ r) := H.perm h1.perm
theorem Hold.pull2 {w W : World} {t : List Nat} {l l1 r : List Own} {x y : Own} (H : Hold w W t l) (h1 : Pull l x l1) (h2 : Pull l1 y r) : Hold w W t ([x, y] ++ r) := H.perm (h1.perm.trans (h2.perm.cons _))
theorem Hold.pull3 {w W : World} {t : List Nat} {l l1 l2 r : List Own} {x y z : Own} (H : Hold w W t l) (h1 : Pull l x l1) (h2 : Pull l1 y l2) (h3 : Pull l2 z r) : Hold w W t ([x, y, z] ++ r) := H.perm (h1.perm.trans ((h2.perm.trans (h3.perm.cons _)).cons _))
theorem Hold.only3 {w W : World} {t : List Nat} {l l1 l2 r : List Own} {x y z : Own} (H : Hold w W t l) (h1 : Pull l x l1) (h2 : Pull l1 y l2) (h3 : Pull l2 z r) : Hold w W t [x, y, z] := (H.pull3 h1 h2 h3).sub (List.sublist_append_left _ _)
theorem Hold.only2 {w W : World} {t : List Nat} {l l1 r : List Own} {x y : Own} (H : Hold w W t l) (h1 : Pull l x l1) (h2 : Pull l1 y r) : Hold w W t [x, y] := (H.pull2 h1 h2).sub (List.sublist_append_left _ _)
inductive Suf : List Own → List Own → Prop
 | refl {l : List Own} : Suf l l
 | cons {x : Own} {l s : List Own} (h : Suf l s) : Suf (x :: l) s
theorem Suf.sub {l s : List Own} (h : Suf l s) : s.Sublist l := by
 induction h with
 | refl => exact List.Sublist.refl _
 | cons _ ih => exact ih.cons _
inductive Want : List Own → List Own → Prop
 | done {l s : List Own} (h : Suf l s) : Want l s
 | take {x : Own} {l r l' : List Own} (h : Pull l x r) (h' : Want r l') : Want l (x :: l')
theorem Hold.want {w W : World} {t : List Nat} {l l' : List Own} (H : Hold w W t l) (h : Want l l') : Hold w W t l' := by
 induction h generalizing w W t with
 | done h => exact H.sub h.sub
 | take h h' ih =>
  have H2 := H.perm h.perm
  have H3 := H2.sub (List.Sublist.cons _ (List.Sublist.refl _))
  have H4 := ih H3
  refine ⟨H4.kept, fun o ho => ?_, List.Pairwise.cons (fun b hb => ?_) H4.apart, fun o ho => ?_⟩
  ·rcases List.mem_cons.1 ho with rfl | ho
   ·exact H2.ok _ (List.Mem.head _)
   ·exact H4.ok o ho
  ·exact (List.pairwise_cons.1 H2.apart).1 b (Want.mem h' b hb)
  ·rcases List.mem_cons.1 ho with rfl | ho
   ·exact H2.mine _ (List.Mem.head _)
   ·exact H4.mine o ho
where
 Want.mem {l l' : List Own} (h : Want l l') : ∀ b ∈ l', b ∈ l := by
  induction h with
  | done h => exact fun b hb => h.sub.subset hb
  | take h _ ih =>
   intro b hb
   rcases List.mem_cons.1 hb with rfl | hb
   ·exact h.perm.mem_iff.2 (List.Mem.head _)
   ·exact h.perm.mem_iff.2 (List.Mem.tail _ (ih b hb))
section
variable {P : Program} {ops : Array Oper} {rest : List Oper} {o : Oper} {a : Act} {Q : Exit → Act → World → Prop} {w W : World} {t : List Nat} {l : List Own}
theorem is_lit {ty : TypeId} {n : Nat} {ps : Array (Nat × Operand)} (_ho : o.op = .buildSlice ty n ps) (h : wpList P ops Q (o :: rest) a W) : wpList P ops Q (o :: rest) a W := h
theorem onerow_h (H : Hold w W t l) (hgd : o.guard = none) {e : TypeId} {cs : List Value}
  (hrun : (execOp a.eval o).run P W = .ok (.value (.slice (some ⟨W.heap.size, 0, none⟩) 1 1)) (W.alloc (.cells cs.toArray e (0, 0))))
  (h : ∀ g w1, Hold w w1 t (cl g cs e :: l) → wpList P ops Q rest (a.put o.dst (.slice (some ⟨g, 0, none⟩) 1 1)) w1) : wpList P ops Q (o :: rest) a W := by
 refine wpList_plain hgd fun K hK => ?_
 unfold Oper.wp
 rw [hrun]
 exact hK _ _ (h _ _ (Hold.push (l1 := [cl W.heap.size cs e]) H (Hold.made (below_alloc (Below.refl _ _) _) (blk_new W _) fun k hk => Nat.le_of_eq (List.mem_singleton.1 hk).symm)))
end
end Go.Proofs.YtjjfkmniffbgkaaDoor
