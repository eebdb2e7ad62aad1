/- Texts of this claim, put together: Ev, Ev2, Hold, Hold2, Hold3, FrmPure, FrmPure2, FrmPure3, FrmPure4, FrmPure5, FrmPure6, FrmPure7, FrmPure8, FrmPure9, Rf1, Rf2, Rf3. -/
import Derived.Test.YtjjfkmniffbgkaaDoorMSplitPlays2
import Derived.Deep.MidRow
import Derived.Lib.ConvBytes
import Derived.Laws.AppendOwn
import Derived.Test.YtjjfkmniffbgkaaDoorMSplitPlaysW1
import Derived.Test.YtjjfkmniffbgkaaDoorMSplitPlays5
import Derived.Test.YtjjfkmniffbgkaaDoorMSplitPlays0
/- Steps of a walk over structs in blocks: each leaves a world of which only the blocks are told. No program. -/
namespace Go.Proofs.YtjjfkmniffbgkaaDoor
set_option linter.unusedVariables false
set_option linter.unusedSimpArgs false
open Go.RowKit Go.Proofs.YtjjfkmniffbgkaaDoorW.PrintWords
structure Only (g : Nat) (W w1 : World) : Prop where
 os : w1.os = W.os
 tape : w1.tape = W.tape
 output : w1.output = W.output
 size : w1.heap.size = W.heap.size
 block : ∀ k, k ≠ g → w1.heap[k]? = W.heap[k]?
theorem Only.below {g base : Nat} {w0 W w1 : World} (h : Only g W w1) (hb : Below base w0 W) (hg : base ≤ g) : Below base w0 w1 :=
 ⟨h.os.trans hb.os, h.tape.trans hb.tape, h.output.trans hb.output, by rw [h.size]; exact hb.size, fun k hk => (h.block k (by omega)).trans (hb.block k hk)⟩
theorem Only.blk {g k : Nat} {W w1 : World} {o : Obj} (h : Only g W w1) (hk : W.heap[k]? = some o) (hne : k ≠ g) : w1.heap[k]? = some o := (h.block k hne).trans hk
theorem Only.keep {g : Nat} {w W w1 : World} {row : Option Nat} (h : Only g W w1) (hk : KeepBut w W g row) : KeepBut w w1 g row :=
 ⟨by rw [h.size]; exact hk.1, fun i hi hg hr => (h.block i hg).trans (hk.2 i hi hg hr)⟩
theorem Only.far {g g' : Nat} {w W w1 : World} {row : Option Nat} (h : Only g W w1) (hk : KeepBut w W g' row) (hg : w.heap.size ≤ g) : KeepBut w w1 g' row :=
 ⟨by rw [h.size]; exact hk.1, fun i hi hg' hr => (h.block i (by omega)).trans (hk.2 i hi hg' hr)⟩
theorem Only.reads {g : Nat} {W w1 : World} {k : IntKind} {A : Option Addr} {n : Nat} {xs : List Int} (h : Only g W w1) (hR : ReadsInt W k A n xs) (hne : ∀ a, A = some a → a.block ≠ g) : ReadsInt w1 k A n xs := by
 refine ⟨hR.1, hR.2.1, fun hn => ?_⟩
 obtain ⟨ad, e, hc⟩ := hR.2.2 hn
 refine ⟨ad, e, fun j hj => ?_⟩
 rw [← hc j hj]
 have := h.block (ad.add j).block (by rw [add_block]; exact hne ad e)
 simp [World.cell?, this]
theorem at_only {gd g : Nat} (h : gd ≠ g) : ∀ a, some (⟨gd, 0, none⟩ : Addr) = some a → a.block ≠ g := fun a e => by obtain rfl := Option.some.inj e; exact h
section
variable {P : Program} {ops : Array Oper} {rest : List Oper} {o : Oper} {a : Act} {Q : Exit → Act → World → Prop}
theorem load_ev {W : World} (hgd : o.guard = none) {t : TypeId} {x : Operand} (ho : o.op = .load t x) {g : Nat} {cs : Array Value} {ty : TypeId} {d : TypeDesc}
  (hx : a.eval x = .pointer (some ⟨g, 0, none⟩)) (hb : W.heap[g]? = some (.cells cs ty (0, 0))) (hu : P.underlying t = some d) (hd : d.isRow = true) (hi : (P.info? t).map (·.size) = some cs.size)
  (h : wpList P ops Q rest (a.put o.dst (.agg cs)) W) : wpList P ops Q (o :: rest) a W := by
 refine wpList_load_mid hgd t x ho g 0 hx cs.toList d (fun j v hv => ?_) hu hd (by simpa using hi) (by simpa using h)
 rw [Nat.zero_add, blk_cell hb]
 simpa using hv
theorem store_ev {W : World} (hgd : o.guard = none) (hN : o.dst = none) {t : TypeId} {p x : Operand} (ho : o.op = .store t p x) {g k : Nat} {cs cs' : Array Value} {ty : TypeId} {u : Value}
  (hp : a.eval p = .pointer (some ⟨g, k, none⟩)) (hx : a.eval x = u) (hb : W.heap[g]? = some (.cells cs ty (0, 0))) (ht : (P.info? t).map (·.size) = some u.cells.toList.length)
  (hk : k + u.cells.toList.length ≤ cs.size) (h1 : u.cells.toList.all (·.oneCell') = true) (e : cs.toList.take k ++ u.cells.toList ++ cs.toList.drop (k + u.cells.toList.length) = cs'.toList)
  (h : ∀ w1, w1.heap[g]? = some (.cells cs' ty (0, 0)) → Only g W w1 → wpList P ops Q rest a w1) : wpList P ops Q (o :: rest) a W := by
 refine wpList_plain hgd fun K hK => ?_
 have hrun := run_store_run (P := P) t u u.cells.toList hb rfl ht hk (List.all_eq_true.1 h1)
 unfold Oper.wp execOp
 simp only [ho, hp, hx, Sem.run_bind, Sem.run_pure, Result.andThen_ok, hrun]
 show K (a.put o.dst undef) _
 rw [hN]
 obtain ⟨s1, s2, s3, s4⟩ := setCells_same g u.cells.toList k W
 refine hK _ _ (h _ ?_ ⟨s1, s2, s3, s4, fun i hi => setCells_far _ _ i hi⟩)
 obtain ⟨cur, q1, _, q3⟩ := setCells_row u.cells.toList k W cs hb hk
 rw [q1, Array.toList_inj.1 (q3.trans e)]
theorem make_ev {W : World} (hgd : o.guard = none) {cs : Array Value} {t : TypeId}
  (hrun : (execOp a.eval o).run P W = .ok (.value (.pointer (some ⟨W.heap.size, 0, none⟩))) (W.alloc (.cells cs t (0, 0))))
  (h : ∀ g, g = W.heap.size → ∀ w1, w1.heap[g]? = some (.cells cs t (0, 0)) → w1.heap.size = W.heap.size + 1 → Below W.heap.size W w1 → wpList P ops Q rest (a.put o.dst (.pointer (some ⟨g, 0, none⟩))) w1) : wpList P ops Q (o :: rest) a W := by
 refine wpList_plain hgd fun K hK => ?_
 unfold Oper.wp
 rw [hrun]
 exact hK _ _ (h _ rfl _ (blk_new W _) (by simp) (below_alloc (Below.refl _ _) _))
theorem make_ord {Kc : Act → World → Prop} {W : World} (hw : Region.wanted o (yielded ops a.tmps) = true) {cs : Array Value} {t : TypeId}
  (hrun : (execOp a.eval o).run P W = .ok (.value (.pointer (some ⟨W.heap.size, 0, none⟩))) (W.alloc (.cells cs t (0, 0))))
  (h : ∀ g, g = W.heap.size → ∀ w1, w1.heap[g]? = some (.cells cs t (0, 0)) → w1.heap.size = W.heap.size + 1 → Below W.heap.size W w1 → Kc (a.put o.dst (.pointer (some ⟨g, 0, none⟩))) w1) :
  if Region.wanted o (yielded ops a.tmps) = true then Oper.wp P o a W Kc Q else Kc (a.put o.dst undef) W := by
 rw [if_pos hw]
 unfold Oper.wp
 rw [hrun]
 exact h _ rfl _ (blk_new W _) (by simp) (below_alloc (Below.refl _ _) _)
theorem store_ord {Kc : Act → World → Prop} {W : World} (hw : Region.wanted o (yielded ops a.tmps) = true) (hN : o.dst = none) {t : TypeId} {p x : Operand} (ho : o.op = .store t p x) {g k : Nat} {cs cs' : Array Value} {ty : TypeId} {u : Value}
  (hp : a.eval p = .pointer (some ⟨g, k, none⟩)) (hx : a.eval x = u) (hb : W.heap[g]? = some (.cells cs ty (0, 0))) (ht : (P.info? t).map (·.size) = some u.cells.toList.length)
  (hk : k + u.cells.toList.length ≤ cs.size) (h1 : u.cells.toList.all (·.oneCell') = true) (e : cs.toList.take k ++ u.cells.toList ++ cs.toList.drop (k + u.cells.toList.length) = cs'.toList)
  (h : ∀ w1, w1.heap[g]? = some (.cells cs' ty (0, 0)) → Only g W w1 → Kc a w1) : if Region.wanted o (yielded ops a.tmps) = true then Oper.wp P o a W Kc Q else Kc (a.put o.dst undef) W := by
 rw [if_pos hw]
 have hrun := run_store_run (P := P) t u u.cells.toList hb rfl ht hk (List.all_eq_true.1 h1)
 unfold Oper.wp execOp
 simp only [ho, hp, hx, Sem.run_bind, Sem.run_pure, Result.andThen_ok, hrun]
 show Kc (a.put o.dst undef) _
 rw [hN]
 obtain ⟨s1, s2, s3, s4⟩ := setCells_same g u.cells.toList k W
 refine h _ ?_ ⟨s1, s2, s3, s4, fun i hi => setCells_far _ _ i hi⟩
 obtain ⟨cur, q1, _, q3⟩ := setCells_row u.cells.toList k W cs hb hk
 rw [q1, Array.toList_inj.1 (q3.trans e)]
theorem gate_load {t : TypeId} {p : Operand} (N : Tmp) (_ho : o.op = .load t p) (_hN : o.dst = some N) {W : World} (h : wpList P ops Q (o :: rest) a W) : wpList P ops Q (o :: rest) a W := h
theorem gate_stored {t : TypeId} {p x : Operand} (_ho : o.op = .store t p x) {W : World} (h : wpList P ops Q (o :: rest) a W) : wpList P ops Q (o :: rest) a W := h
theorem gate_alloc {t : TypeId} (N : Tmp) (_ho : o.op = .alloc t) (_hN : o.dst = some N) {W : World} (h : wpList P ops Q (o :: rest) a W) : wpList P ops Q (o :: rest) a W := h
theorem gate_box {t : TypeId} {x : Operand} (N : Tmp) (_ho : o.op = .box t x) (_hN : o.dst = some N) {W : World} (h : wpList P ops Q (o :: rest) a W) : wpList P ops Q (o :: rest) a W := h
theorem gate_conv {src dst : TypeId} {x : Operand} (N : Tmp) (_ho : o.op = .convert src dst x) (_hN : o.dst = some N) {W : World} (h : wpList P ops Q (o :: rest) a W) : wpList P ops Q (o :: rest) a W := h
theorem loadf_ev {W : World} (hgd : o.guard = none) {t : TypeId} {x : Operand} (ho : o.op = .load t x) {g k : Nat} {cs : Array Value} {ty : TypeId} {d : TypeDesc} {v : Value}
  (hx : a.eval x = .pointer (some ⟨g, k, none⟩)) (hb : W.heap[g]? = some (.cells cs ty (0, 0))) (hv : cs[k]? = some v) (hu : P.underlying t = some d) (hd : d.isRow = false)
  (h : wpList P ops Q rest (a.put o.dst v) W) : wpList P ops Q (o :: rest) a W := by
 refine wpList_plain hgd fun K hK => ?_
 have hc : W.cell? ⟨g, k, none⟩ = some v := (blk_cell hb k).trans hv
 have hagg : (isAgg t).run P W = .ok false W := by
  unfold isAgg
  rw [Sem.run_bind, run_underlying hu W]
  cases d <;> simp_all
 unfold Oper.wp execOp
 simp [ho, hx, Instr.loadAt, Instr.sureAddr, loadVar, Sem.run_bind, hagg, hc]
 exact hK _ _ h
theorem bytes_ev {W : World} (hgd : o.guard = none) {src dst e : TypeId} {x : Operand} (ho : o.op = .convert src dst x) {s : ByteArray} (l : List Int) (hx : a.eval x = .string s) {u : TypeDesc}
  (hs : P.underlying src = some u) (hd : P.underlying dst = some (.slice e)) (he : P.underlying e = some (.int .u8)) (hl : s.size = l.length) (hb : bytesOf s = l) (hm : l.length ≤ 9223372036854775807)
  (h : ∀ g c, g = W.heap.size → l.length ≤ c → ∀ w1, ReadsInt w1 .u8 (some ⟨g, 0, none⟩) l.length l → g < w1.heap.size → Below W.heap.size W w1 → wpList P ops Q rest (a.put o.dst (.slice (some ⟨g, 0, none⟩) l.length c)) w1) : wpList P ops Q (o :: rest) a W := by
 refine wpList_plain hgd fun K hK => ?_
 have hrun := print_bytes (P := P) src dst e hs hd he s W
 have hr := bytes_reads W e s (by omega)
 rw [hl, hb] at hr
 rw [hl] at hrun
 unfold Oper.wp execOp
 simp only [ho, hx, Sem.run_bind, Sem.run_pure, Result.andThen_ok, hrun]
 exact hK _ _ (h _ _ rfl (grownCap_ge _ _ _ _) _ hr (by rw [Lib.bytesWorld_size]; omega) (bytes_below (Below.refl _ _) (Nat.le_refl _) e s))
end

inductive Own where
 | obj (g : Nat) (o : Obj)
 | row (e : TypeId) (size : Nat) (v : Value) (n : Nat) (xs : List Value)
 | rd (k : IntKind) (A : Option Addr) (n : Nat) (xs : List Int)
 | thing (bs : List Nat) (p : World → Prop) (st : ∀ W W1 : World, p W → (∀ k ∈ bs, W1.heap[k]? = W.heap[k]?) → p W1) (lt : ∀ (W : World) (k : Nat), p W → k ∈ bs → k < W.heap.size)
abbrev cl (g : Nat) (cs : List Value) (ty : TypeId) : Own := .obj g (.cells cs.toArray ty (0, 0))
abbrev nrow (e : TypeId) (v : Value) (k : IntKind) (xs : List Int) : Own := .row e 1 v xs.length (nums k xs)
def Own.at_ : Own → List Nat
 | .obj g _ => [g]
 | .row _ _ v _ _ => v.ownBlock.toList
 | .rd _ A n _ => if n = 0 then [] else (A.map (·.block)).toList
 | .thing bs _ _ _ => bs
def Own.ok (W : World) : Own → Prop
 | .obj g o => W.heap[g]? = some o
 | .row e size v n xs => W.ownsRow 0 e size v n xs
 | .rd k A n xs => ReadsInt W k A n xs
 | .thing _ p _ _ => p W
def ats (l : List Own) : List Nat := l.flatMap Own.at_
structure Kept (W W1 : World) (ts : List Nat) : Prop where
 os : W1.os = W.os
 tape : W1.tape = W.tape
 output : W1.output = W.output
 size : W.heap.size ≤ W1.heap.size
 block : ∀ k, k < W.heap.size → k ∉ ts → W1.heap[k]? = W.heap[k]?
structure Hold (w W : World) (t : List Nat) (l : List Own) : Prop where
 kept : Kept w W t
 ok : ∀ o ∈ l, o.ok W
 apart : l.Pairwise fun a b => ∀ k ∈ a.at_, k ∉ b.at_
 mine : ∀ o ∈ l, ∀ k ∈ o.at_, w.heap.size ≤ k ∨ k ∈ t
theorem Kept.refl (W : World) (ts : List Nat) : Kept W W ts := ⟨rfl, rfl, rfl, Nat.le_refl _, fun _ _ _ => rfl⟩
theorem Kept.below {W W1 : World} (h : Kept W W1 []) : Below W.heap.size W W1 := ⟨h.os, h.tape, h.output, h.size, fun k hk => h.block k hk (by simp)⟩
theorem Kept.of_below {W W1 : World} (h : Below W.heap.size W W1) : Kept W W1 [] := ⟨h.os, h.tape, h.output, h.size, fun k hk _ => h.block k hk⟩
theorem Own.ok.lt {W : World} {o : Own} (h : o.ok W) {k : Nat} (hk : k ∈ o.at_) : k < W.heap.size := by
 cases o with
 | obj g o => obtain rfl := List.mem_singleton.1 hk; exact (Array.getElem?_eq_some_iff.1 h).1
 | row e size v n xs => exact own_lt h k (Option.mem_toList.1 hk)
 | rd kk A n xs =>
  have hk' : k ∈ (if n = 0 then [] else (A.map (·.block)).toList) := hk
  split at hk'
  ·cases hk'
  ·obtain ⟨ad, rfl, hc⟩ := h.2.2 (by omega)
   simp only [Option.map_some, Option.mem_toList, Option.mem_def, Option.some.injEq] at hk'
   have := World.block_lt_of_cell? W _ (hc 0 (by omega))
   rw [add_block] at this
   omega
 | thing b p st lt => exact lt W k h hk
theorem Own.ok.kept {W W1 : World} {o : Own} (h : o.ok W) (hb : ∀ k ∈ o.at_, W1.heap[k]? = W.heap[k]?) : o.ok W1 := by
 cases o with
 | obj g o => exact (hb g (List.mem_singleton.2 rfl)).trans h
 | row e size v n xs =>
  refine ⟨h.1, ?_⟩
  rcases h.2 with h2 | ⟨g, cap, cur, rfl, h3, h4, h5⟩
  ·exact .inl h2
  ·exact .inr ⟨g, cap, cur, rfl, h3, (hb g (Option.mem_toList.2 rfl)).trans h4, h5⟩
 | rd kk A n xs =>
  refine ⟨h.1, h.2.1, fun hn => ?_⟩
  obtain ⟨ad, rfl, hc⟩ := h.2.2 hn
  refine ⟨ad, rfl, fun j hj => ?_⟩
  rw [← hc j hj]
  refine World.cell?_of_block ?_
  rw [add_block]
  refine hb _ ?_
  show ad.block ∈ (if n = 0 then [] else ((some ad).map (·.block)).toList)
  rw [if_neg (by omega)]
  exact Option.mem_toList.2 rfl
 | thing b p st lt => exact st W W1 h hb
theorem Hold.start {W : World} {l : List Own} (ok : ∀ o ∈ l, o.ok W) (ap : l.Pairwise fun a b => ∀ k ∈ a.at_, k ∉ b.at_) : Hold W W (ats l) l :=
 ⟨Kept.refl _ _, ok, ap, fun o ho k hk => .inr (List.mem_flatMap.2 ⟨o, ho, hk⟩)⟩
theorem no_own {p : Own → Prop} : ∀ o ∈ ([] : List Own), p o := fun _ h => by cases h
theorem Hold.nothing {W W1 : World} (h : Kept W W1 []) : Hold W W1 [] [] := ⟨h, no_own, List.Pairwise.nil, no_own⟩
theorem Hold.call {w W W1 : World} {t : List Nat} {l0 l1 r : List Own} (H : Hold w W t (l0 ++ r)) (C : Hold W W1 (ats l0) l1) : Hold w W1 t (l1 ++ r) := by
 have hr : ∀ o ∈ r, ∀ k ∈ o.at_, k ∉ ats l0 ∧ k < W.heap.size := fun o ho k hk => by
  refine ⟨fun hm => ?_, (H.ok o (List.mem_append_right _ ho)).lt hk⟩
  obtain ⟨o0, h0, hk0⟩ := List.mem_flatMap.1 hm
  exact (List.pairwise_append.1 H.apart).2.2 o0 h0 o ho k hk0 hk
 refine ⟨⟨C.kept.os.trans H.kept.os, C.kept.tape.trans H.kept.tape, C.kept.output.trans H.kept.output, Nat.le_trans H.kept.size C.kept.size, fun k hk hn => ?_⟩, fun o ho => ?_, List.pairwise_append.2 ⟨C.apart, (List.pairwise_append.1 H.apart).2.1, fun a ha b hb k hka hkb => ?_⟩, fun o ho k hk => ?_⟩
 ·refine (C.kept.block k (Nat.lt_of_lt_of_le hk H.kept.size) fun hm => ?_).trans (H.kept.block k hk hn)
  obtain ⟨o0, h0, hk0⟩ := List.mem_flatMap.1 hm
  rcases H.mine o0 (List.mem_append_left _ h0) k hk0 with h | h
  ·omega
  ·exact hn h
 ·rcases List.mem_append.1 ho with h | h
  ·exact C.ok o h
  ·exact (H.ok o (List.mem_append_right _ h)).kept fun k hk => C.kept.block k (hr o h k hk).2 (hr o h k hk).1
 ·have := hr b hb k hkb
  rcases C.mine a ha k hka with h | h
  ·omega
  ·exact this.1 h
 ·rcases List.mem_append.1 ho with h | h
  ·rcases C.mine o h k hk with h' | h'
   ·exact .inl (Nat.le_trans H.kept.size h')
   ·obtain ⟨o0, h0, hk0⟩ := List.mem_flatMap.1 h'
    exact H.mine o0 (List.mem_append_left _ h0) k hk0
  ·exact H.mine o (List.mem_append_right _ h) k hk
theorem Hold.below {w W W1 : World} {t : List Nat} {l : List Own} (H : Hold w W t l) (h : Below W.heap.size W W1) : Hold w W1 t l :=
 Hold.call (l0 := []) (l1 := []) H (Hold.nothing (Kept.of_below h))
theorem Hold.perm {w W : World} {t : List Nat} {l l' : List Own} (H : Hold w W t l) (h : l.Perm l') : Hold w W t l' :=
 ⟨H.kept, fun o ho => H.ok o (h.mem_iff.2 ho), (h.pairwise_iff (R := fun a b : Own => ∀ k ∈ a.at_, k ∉ b.at_) fun hab k hb ha => hab k ha hb).1 H.apart, fun o ho => H.mine o (h.mem_iff.2 ho)⟩
theorem Hold.sub {w W : World} {t : List Nat} {l l' : List Own} (H : Hold w W t l) (h : l'.Sublist l) : Hold w W t l' :=
 ⟨H.kept, fun o ho => H.ok o (h.subset ho), H.apart.sublist h, fun o ho => H.mine o (h.subset ho)⟩
inductive Put : List Own → Own → Own → List Own → Prop
 | head {x y : Own} {r : List Own} : Put (x :: r) x y (y :: r)
 | tail {x y z : Own} {r r' : List Own} (h : Put r x y r') : Put (z :: r) x y (z :: r')
theorem Put.perm {l l' : List Own} {x y : Own} (h : Put l x y l') : ∃ r, l.Perm (x :: r) ∧ l'.Perm (y :: r) := by
 induction h with
 | head => exact ⟨_, List.Perm.refl _, List.Perm.refl _⟩
 | tail _ ih =>
  obtain ⟨r, h1, h2⟩ := ih
  exact ⟨_, (h1.cons _).trans (List.Perm.swap _ _ _), (h2.cons _).trans (List.Perm.swap _ _ _)⟩
theorem Hold.put {w W W1 : World} {t : List Nat} {l l' : List Own} {x y : Own} (H : Hold w W t l) (hp : Put l x y l') (C : Hold W W1 (ats [x]) [y]) : Hold w W1 t l' := by
 obtain ⟨r, h1, h2⟩ := hp.perm
 exact (Hold.call (l0 := [x]) (l1 := [y]) (H.perm h1) C).perm h2.symm
theorem Hold.push {w W W1 : World} {t : List Nat} {l l1 : List Own} (H : Hold w W t l) (C : Hold W W1 [] l1) : Hold w W1 t (l1 ++ l) := Hold.call (l0 := []) H C
theorem Hold.at_ {w W : World} {t : List Nat} {l : List Own} (H : Hold w W t l) {x : Own} (h : x ∈ l) : x.ok W := H.ok x h
theorem Hold.blk {w W : World} {t : List Nat} {l : List Own} (H : Hold w W t l) {g : Nat} {cs : List Value} {ty : TypeId} (h : cl g cs ty ∈ l) : W.heap[g]? = some (.cells cs.toArray ty (0, 0)) := H.ok _ h
theorem Hold.cell {w W : World} {t : List Nat} {l : List Own} (H : Hold w W t l) {g : Nat} {cs : List Value} {ty : TypeId} (h : cl g cs ty ∈ l) (k : Nat) : W.cell? ⟨g, k, Option.none⟩ = cs[k]? := by
 rw [blk_cell (H.blk h) k, List.getElem?_toArray]
theorem Hold.row {w W : World} {t : List Nat} {l : List Own} (H : Hold w W t l) {e : TypeId} {v : Value} {k : IntKind} {xs : List Int} (h : nrow e v k xs ∈ l) : W.ownsRow 0 e 1 v xs.length (nums k xs) := H.ok _ h
theorem Hold.grow {w W : World} {t : List Nat} {l : List Own} (H : Hold w W t l) (h : ∀ k ∈ t, w.heap.size ≤ k) : Below w.heap.size w W := ⟨H.kept.os, H.kept.tape, H.kept.output, H.kept.size, fun k hk => H.kept.block k hk fun hm => by have := h k hm; omega⟩
theorem Hold.rd {w W : World} {t : List Nat} {l : List Own} (H : Hold w W t l) {k : IntKind} {A : Option Addr} {n : Nat} {xs : List Int} (h : Own.rd k A n xs ∈ l) : ReadsInt W k A n xs := H.ok _ h
theorem Hold.all {w W : World} {l : List Own} (H : Hold w W [] l) : Below w.heap.size w W := H.kept.below
theorem Hold.reads {w W : World} {t : List Nat} {l : List Own} (H : Hold w W t l) {k : IntKind} {A : Option Addr} {n : Nat} {xs : List Int} (h : ReadsInt w k A n xs) (hn : ∀ a, A = some a → a.block ∉ t) : ReadsInt W k A n xs := by
 refine ⟨h.1, h.2.1, fun h0 => ?_⟩
 obtain ⟨ad, rfl, hc⟩ := h.2.2 h0
 refine ⟨ad, rfl, fun j hj => ?_⟩
 have hcell := hc j hj
 have hb := World.block_lt_of_cell? w _ hcell
 rw [add_block] at hb
 rw [← hcell]
 exact World.cell?_of_block (by rw [add_block]; exact H.kept.block _ hb (hn ad rfl))
theorem Hold.reads0 {w W : World} {l : List Own} (H : Hold w W [] l) {k : IntKind} {A : Option Addr} {n : Nat} {xs : List Int} (h : ReadsInt w k A n xs) : ReadsInt W k A n xs := h.below H.all
theorem pair1 {R : Own → Own → Prop} (x : Own) : [x].Pairwise R := List.pairwise_singleton _ _
theorem ok1 {W : World} {x : Own} (h : x.ok W) : ∀ o ∈ [x], o.ok W := fun o ho => by rw [List.mem_singleton.1 ho]; exact h
theorem Hold.made {W W1 : World} {y : Own} (h : Below W.heap.size W W1) (ok : y.ok W1) (hn : ∀ k ∈ y.at_, W.heap.size ≤ k) : Hold W W1 [] [y] :=
 ⟨Kept.of_below h, ok1 ok, pair1 _, fun o ho k hk => .inl (hn k (by rw [List.mem_singleton.1 ho] at hk; exact hk))⟩
theorem Hold.turned {W W1 : World} {x y : Own} (os : W1.os = W.os) (tape : W1.tape = W.tape) (output : W1.output = W.output) (size : W.heap.size ≤ W1.heap.size) (block : ∀ k, k < W.heap.size → k ∉ x.at_ → W1.heap[k]? = W.heap[k]?)
  (ok : y.ok W1) (hn : ∀ k ∈ y.at_, W.heap.size ≤ k ∨ k ∈ x.at_) : Hold W W1 (ats [x]) [y] := by
 have hm : ∀ k, k ∈ ats [x] ↔ k ∈ x.at_ := fun k => by
  unfold ats
  rw [List.mem_flatMap]
  exact ⟨fun ⟨a, ha, hk⟩ => by rw [List.mem_singleton.1 ha] at hk; exact hk, fun h => ⟨x, by simp, h⟩⟩
 refine ⟨⟨os, tape, output, size, fun k hk hn => block k hk fun h => hn ((hm k).2 h)⟩, ok1 ok, pair1 _, fun o ho k hk => ?_⟩
 rw [List.mem_singleton.1 ho] at hk
 rcases hn k hk with h | h
 ·exact .inl h
 ·exact .inr ((hm k).2 h)
def setC : List Value → Nat → List Value → List Value
 | cs, _, [] => cs
 | [], _, _ :: _ => []
 | _ :: cs, 0, u :: us => u :: setC cs 0 us
 | c :: cs, k + 1, u :: us => c :: setC cs k (u :: us)
theorem setC_eq : ∀ (cs : List Value) (k : Nat) (us : List Value), k + us.length ≤ cs.length → setC cs k us = cs.take k ++ us ++ cs.drop (k + us.length)
 | cs, k, [], _ => by cases cs <;> simp [setC]
 | [], k, u :: us, h => by simp at h
 | c :: cs, 0, u :: us, h => by
  have := setC_eq cs 0 us (by simpa using h)
  simp only [setC, this]
  simp
 | c :: cs, k + 1, u :: us, h => by
  have := setC_eq cs k (u :: us) (by simp at h ⊢; omega)
  simp only [setC, this]
  simp only [List.take_succ_cons, List.cons_append]
  congr 2
  rw [show k + 1 + (u :: us).length = (k + (u :: us).length) + 1 by omega, List.drop_succ_cons]
section
variable {P : Program} {ops : Array Oper} {rest : List Oper} {o : Oper} {a : Act} {Q : Exit → Act → World → Prop} {w W : World} {t : List Nat} {l : List Own}
theorem load_h (H : Hold w W t l) (hgd : o.guard = none) {ty : TypeId} {x : Operand} (ho : o.op = .load ty x) {g : Nat} {cs : List Value} {bt : TypeId} (hx : a.eval x = .pointer (some ⟨g, 0, none⟩)) (hm : cl g cs bt ∈ l)
  (hd : (P.underlying ty).map (·.isRow) = some true) (hi : (P.info? ty).map (·.size) = some cs.length) (h : wpList P ops Q rest (a.put o.dst (.agg cs.toArray)) W) : wpList P ops Q (o :: rest) a W := by
 obtain ⟨d, hu, hr⟩ := Option.map_eq_some_iff.1 hd
 exact load_ev hgd ho hx (H.blk hm) hu hr (by simpa using hi) h
theorem loadf_h (H : Hold w W t l) (hgd : o.guard = none) {ty : TypeId} {x : Operand} (ho : o.op = .load ty x) {g k : Nat} {cs : List Value} {bt : TypeId} {v : Value} (hx : a.eval x = .pointer (some ⟨g, k, none⟩)) (hm : cl g cs bt ∈ l)
  (hv : cs[k]? = some v) (hd : (P.underlying ty).map (·.isRow) = some false) (h : wpList P ops Q rest (a.put o.dst v) W) : wpList P ops Q (o :: rest) a W := by
 obtain ⟨d, hu, hr⟩ := Option.map_eq_some_iff.1 hd
 exact loadf_ev hgd ho hx (H.blk hm) (by simpa using hv) hu hr h
theorem Hold.store {W w1 : World} {g : Nat} {cs cs' : List Value} {bt : TypeId} (o : Only g W w1) (h : w1.heap[g]? = some (.cells cs'.toArray bt (0, 0))) : Hold W w1 (ats [cl g cs bt]) [cl g cs' bt] :=
 Hold.turned o.os o.tape o.output (by rw [o.size]; exact Nat.le_refl _) (fun k _ hne => o.block k fun e => hne (by rw [e]; exact List.mem_singleton.2 rfl)) h fun k hk => .inr hk
theorem store_h (H : Hold w W t l) (hgd : o.guard = none) (hN : o.dst = none) {ty : TypeId} {p x : Operand} (ho : o.op = .store ty p x) {g k : Nat} {cs : List Value} {bt : TypeId} {u : Value} {l' : List Own}
  (hp : a.eval p = .pointer (some ⟨g, k, none⟩)) (hx : a.eval x = u) (hm : Put l (cl g cs bt) (cl g (setC cs k u.cells.toList) bt) l') (ht : (P.info? ty).map (·.size) = some u.cells.toList.length)
  (hk : k + u.cells.toList.length ≤ cs.length) (h1 : u.cells.toList.all (·.oneCell') = true)
  (h : ∀ w1, Hold w w1 t l' → wpList P ops Q rest a w1) : wpList P ops Q (o :: rest) a W := by
 obtain ⟨r, hp1, _⟩ := hm.perm
 refine store_ev hgd hN ho hp hx (H.blk (cs := cs) (hp1.mem_iff.2 (List.Mem.head _))) ht (by simpa using hk) h1 (cs' := (setC cs k u.cells.toList).toArray) (by rw [setC_eq _ _ _ hk]) fun w1 hb ho1 => h w1 (H.put hm (Hold.store ho1 hb))
theorem alloc_h (H : Hold w W t l) (hgd : o.guard = none) {ty : TypeId} (_ho : o.op = .alloc ty) {cs : List Value}
  (hrun : (execOp a.eval o).run P W = .ok (.value (.pointer (some ⟨W.heap.size, 0, none⟩))) (W.alloc (.cells cs.toArray ty (0, 0))))
  (h : ∀ g w1, Hold w w1 t (cl g cs ty :: l) → wpList P ops Q rest (a.put o.dst (.pointer (some ⟨g, 0, none⟩))) w1) : wpList P ops Q (o :: rest) a W :=
 make_ev hgd hrun fun g hg w1 hb hz hbel => h g w1 (Hold.push (l1 := [cl g cs ty]) H (Hold.made hbel hb fun k hk => by have : k = g := List.mem_singleton.1 hk; omega))
theorem box_h (H : Hold w W t l) (hgd : o.guard = none) {ty : TypeId} {x : Operand} (ho : o.op = .box ty x) {u : Value} {cs : List Value} (hx : a.eval x = u) (hu : u.cells = cs.toArray)
  (h : ∀ g w1, Hold w w1 t (cl g cs ty :: l) → wpList P ops Q rest (a.put o.dst (.pointer (some ⟨g, 0, none⟩))) w1) : wpList P ops Q (o :: rest) a W := by
 refine make_ev hgd (cs := cs.toArray) (t := ty) ?_ fun g hg w1 hb hz hbel => h g w1 (Hold.push (l1 := [cl g cs ty]) H (Hold.made hbel hb fun k hk => by have : k = g := List.mem_singleton.1 hk; omega))
 unfold execOp
 simp only [ho, hx]
 simp [Instr.box, newVar, newRow, Sem.run_bind, hu]
theorem append_h (H : Hold w W t l) (hgd : o.guard = none) {s x : Operand} {st : TypeId} (ho : o.op = .call { callee := .builtin .append, args := #[s, x], argTypes := #[st, st] })
  {e : TypeId} {k : IntKind} (bytes : Nat) (ht : P.underlying st = some (.slice e))
  (hinfo : (P.info? e).map (fun i => (i.zero, i.size, i.bytes)) = some (some (.int k 0), 1, bytes)) (hb0 : 0 < bytes)
  {v : Value} {xs : List Int} (ys : List Int) {A : Option Addr} {m c : Nat} (hs : a.eval s = v) (hx : a.eval x = .slice A m c) {f : Own → List Own}
  (hm : ∀ y, Put l (nrow e v k xs) y (f y)) (HR : ReadsInt W k A m ys) (hl : (xs.length + m) * bytes ≤ 140737488355328)
  (h : ∀ v1 w1, Hold w w1 t (f (nrow e v1 k (xs ++ ys))) → wpList P ops Q rest (a.put o.dst v1) w1) : wpList P ops Q (o :: rest) a W := by
 obtain ⟨r, hp1, _⟩ := (hm (nrow e v k xs)).perm
 refine list_append_row W hgd s x st ho 0 e k bytes ht hinfo hb0 v xs ys A m c hs hx (H.row (xs := xs) (hp1.mem_iff.2 (List.Mem.head _))) HR (Nat.zero_le _) hl fun v1 w1 hown hg hat => h v1 w1 (H.put (hm _) (Hold.turned hg.os hg.tape hg.output hg.size (fun k hk hne => hg.block k hk fun e => hne (Option.mem_toList.2 e.symm)) hown fun k hk => ?_))
 have hk' : v1.ownBlock = some k := Option.mem_toList.1 hk
 rcases hat with h' | h'
 ·exact .inr (Option.mem_toList.2 (h'.symm.trans hk'))
 ·rw [h'] at hk'
  exact .inl (Nat.le_of_eq (Option.some.inj hk'))
end

theorem madeHold {W W1 : World} {e : TypeId} {m : Nat} {xs : List Int} {k : IntKind} (hb : Below W.heap.size W W1) (ho : W1.ownsRow 0 e 1 (.slice (some ⟨W.heap.size, 0, none⟩) m m) xs.length (nums k xs)) : Hold W W1 [] [nrow e (.slice (some ⟨W.heap.size, 0, none⟩) m m) k xs] :=
 Hold.made hb ho fun k hk => Nat.le_of_eq (Option.some.inj (Option.mem_toList.1 hk))
section
variable {P : Program} {ops : Array Oper} {rest : List Oper} {o : Oper} {a : Act} {Q : Exit → Act → World → Prop} {w W : World} {t : List Nat} {l : List Own}
theorem run_makeb {W : World} {st e : TypeId} (m : Nat) (ht : P.underlying st = some (.slice e)) (hinfo : (P.info? e).map (fun i => (i.zero, i.size, i.bytes)) = some (some (.int .u8 0), 1, 1)) (hm : m ≤ 281474976710656) :
  (Instr.makeSlice st (.int .i64 (m : Int)) (.int .i64 (m : Int))).run P W = .ok (.slice (some ⟨W.heap.size, 0, none⟩) m m) (W.alloc (.cells (madeCells #[.int .u8 0] m) e)) := print_make st e .u8 1 ht hinfo (by decide) m (by omega) W
theorem makeb_h (H : Hold w W t l) (hgd : o.guard = none) {st e : TypeId} {x y : Operand} (ho : o.op = .makeSlice st x y) (m : Nat) (hx : a.eval x = .int .i64 (m : Int)) (hy : a.eval y = .int .i64 (m : Int)) (ht : P.underlying st = some (.slice e))
  (hinfo : (P.info? e).map (fun i => (i.zero, i.size, i.bytes)) = some (some (.int .u8 0), 1, 1)) (hm : m ≤ 281474976710656)
  (h : ∀ g w1, Hold w w1 t (nrow e (.slice (some ⟨g, 0, none⟩) m m) .u8 (List.replicate m 0) :: l) → wpList P ops Q rest (a.put o.dst (.slice (some ⟨g, 0, none⟩) m m)) w1) : wpList P ops Q (o :: rest) a W := by
 refine wpList_plain hgd fun K hK => ?_
 unfold Oper.wp execOp
 simp only [ho, hx, hy, Sem.run_bind, Sem.run_pure, Result.andThen_ok, run_makeb m ht hinfo hm]
 refine hK _ _ (h _ _ (Hold.push (l1 := [_]) H (madeHold (below_alloc (Below.refl _ _) _) ?_)))
 rw [List.length_replicate]
 exact own_made W 0 e .u8 m (Nat.zero_le _) (by omega)
theorem convr_h (hgd : o.guard = none) {src dst e : TypeId} {x : Operand} (ho : o.op = .convert src dst x) {A : Option Addr} {n c : Nat} {xs : List Int} (hx : a.eval x = .slice A n c) (hR : ReadsInt W .u8 A n xs)
  (hs : P.underlying src = some (.slice e)) (he : P.underlying e = some (.int .u8)) (hd : P.underlying dst = some .string) (h : wpList P ops Q rest (a.put o.dst (.string (strOfNums xs))) W) : wpList P ops Q (o :: rest) a W := by
 refine wpList_plain hgd fun K hK => ?_
 unfold Oper.wp execOp
 simp only [ho, hx, Sem.run_bind, Sem.run_pure, Result.andThen_ok, string_of_reads (c := c) hs he hd hR]
 exact hK _ _ h
variable {Kc : Act → World → Prop}
theorem lit_o (H : Hold w W t l) (hw : Region.wanted o (yielded ops a.tmps) = true) {e : TypeId} {k : IntKind} (ls : List Int)
  (hrun : (execOp a.eval o).run P W = .ok (.value (.slice (some ⟨W.heap.size, 0, none⟩) ls.length ls.length)) (W.alloc (.cells (nums k ls).toArray e (0, 0)))) (hl : ls.length ≤ 9223372036854775807)
  (h : ∀ g w1, Hold w w1 t (nrow e (.slice (some ⟨g, 0, none⟩) ls.length ls.length) k ls :: l) → Below W.heap.size W w1 → Kc (a.put o.dst (.slice (some ⟨g, 0, none⟩) ls.length ls.length)) w1) :
  if Region.wanted o (yielded ops a.tmps) = true then Oper.wp P o a W Kc Q else Kc (a.put o.dst undef) W :=
 event_step hw hrun (h _ _ (Hold.push (l1 := [_]) H (madeHold (below_alloc (Below.refl _ _) _) (own_lit W 0 e k ls (Nat.zero_le _) hl))) (below_alloc (Below.refl _ _) _))
theorem makeb_o (H : Hold w W t l) (hw : Region.wanted o (yielded ops a.tmps) = true) {st e : TypeId} {x y : Operand} (ho : o.op = .makeSlice st x y) (m : Nat) (hx : a.eval x = .int .i64 (m : Int)) (hy : a.eval y = .int .i64 (m : Int)) (ht : P.underlying st = some (.slice e))
  (hinfo : (P.info? e).map (fun i => (i.zero, i.size, i.bytes)) = some (some (.int .u8 0), 1, 1)) (hm : m ≤ 281474976710656)
  (h : ∀ g w1, Hold w w1 t (nrow e (.slice (some ⟨g, 0, none⟩) m m) .u8 (List.replicate m 0) :: l) → Below W.heap.size W w1 → Kc (a.put o.dst (.slice (some ⟨g, 0, none⟩) m m)) w1) :
  if Region.wanted o (yielded ops a.tmps) = true then Oper.wp P o a W Kc Q else Kc (a.put o.dst undef) W := by
 rw [if_pos hw]
 unfold Oper.wp execOp
 simp only [ho, hx, hy, Sem.run_bind, Sem.run_pure, Result.andThen_ok, run_makeb m ht hinfo hm]
 refine h _ _ (Hold.push (l1 := [_]) H (madeHold (below_alloc (Below.refl _ _) _) ?_)) (below_alloc (Below.refl _ _) _)
 rw [List.length_replicate]
 exact own_made W 0 e .u8 m (Nat.zero_le _) (by omega)
theorem conv_o (H : Hold w W t l) (hw : Region.wanted o (yielded ops a.tmps) = true) {src dst e e' : TypeId} {x : Operand} (ho : o.op = .convert src dst x) {v : Value} {xs : List Int} (hx : a.eval x = v) (hm : nrow e' v .u8 xs ∈ l)
  (hs : P.underlying src = some (.slice e)) (he : P.underlying e = some (.int .u8)) (hd : P.underlying dst = some .string) (h : Kc (a.put o.dst (.string (strOfNums xs))) W) :
  if Region.wanted o (yielded ops a.tmps) = true then Oper.wp P o a W Kc Q else Kc (a.put o.dst undef) W := by
 rw [if_pos hw]
 unfold Oper.wp execOp
 simp only [ho, hx, Sem.run_bind, Sem.run_pure, Result.andThen_ok, own_string hs he hd (H.row hm)]
 exact h
theorem alloc_o (H : Hold w W t l) (hw : Region.wanted o (yielded ops a.tmps) = true) {cs : List Value} {ty : TypeId}
  (hrun : (execOp a.eval o).run P W = .ok (.value (.pointer (some ⟨W.heap.size, 0, none⟩))) (W.alloc (.cells cs.toArray ty (0, 0))))
  (h : ∀ g w1, Hold w w1 t (cl g cs ty :: l) → Below W.heap.size W w1 → Kc (a.put o.dst (.pointer (some ⟨g, 0, none⟩))) w1) : if Region.wanted o (yielded ops a.tmps) = true then Oper.wp P o a W Kc Q else Kc (a.put o.dst undef) W :=
 make_ord hw hrun fun g hg w1 hb hz hbel => h g w1 (Hold.push (l1 := [cl g cs ty]) H (Hold.made hbel hb fun k hk => by have : k = g := List.mem_singleton.1 hk; omega)) hbel
theorem store_o (H : Hold w W t l) (hw : Region.wanted o (yielded ops a.tmps) = true) (hN : o.dst = none) {ty : TypeId} {p x : Operand} (ho : o.op = .store ty p x) {g k : Nat} {cs : List Value} {bt : TypeId} {u : Value} {l' : List Own}
  (hp : a.eval p = .pointer (some ⟨g, k, none⟩)) (hx : a.eval x = u) (hm : Put l (cl g cs bt) (cl g (setC cs k u.cells.toList) bt) l') (ht : (P.info? ty).map (·.size) = some u.cells.toList.length)
  (hk : k + u.cells.toList.length ≤ cs.length) (h1 : u.cells.toList.all (·.oneCell') = true)
  (h : ∀ w1, Hold w w1 t l' → Only g W w1 → Kc a w1) : if Region.wanted o (yielded ops a.tmps) = true then Oper.wp P o a W Kc Q else Kc (a.put o.dst undef) W := by
 obtain ⟨r, hp1, _⟩ := hm.perm
 refine store_ord hw hN ho hp hx (H.blk (cs := cs) (hp1.mem_iff.2 (List.Mem.head _))) ht (by simpa using hk) h1 (cs' := (setC cs k u.cells.toList).toArray) (by rw [setC_eq _ _ _ hk]) fun w1 hb ho1 => h w1 (H.put hm (Hold.store ho1 hb)) ho1
theorem append_o (H : Hold w W t l) (hgd : o.guard = none) {s x : Operand} {st : TypeId} (ho : o.op = .call { callee := .builtin .append, args := #[s, x], argTypes := #[st, st] })
  {e : TypeId} {k : IntKind} (bytes : Nat) (ht : P.underlying st = some (.slice e))
  (hinfo : (P.info? e).map (fun i => (i.zero, i.size, i.bytes)) = some (some (.int k 0), 1, bytes)) (hb0 : 0 < bytes)
  {v : Value} {xs : List Int} (ys : List Int) {A : Option Addr} {m c : Nat} (hs : a.eval s = v) (hx : a.eval x = .slice A m c) {f : Own → List Own}
  (hm : ∀ y, Put l (nrow e v k xs) y (f y)) (HR : ReadsInt W k A m ys) (hl : (xs.length + m) * bytes ≤ 140737488355328) {E : Prop}
  (h : ∀ v1 w1, Hold w w1 t (f (nrow e v1 k (xs ++ ys))) → W.grownBy w1 v.ownBlock → Kc (a.put o.dst v1) w1) : if Region.wanted o (yielded ops a.tmps) = true then Oper.wp P o a W Kc Q else E := by
 obtain ⟨r, hp1, _⟩ := (hm (nrow e v k xs)).perm
 refine step_append_row W hgd s x st ho 0 e k bytes ht hinfo hb0 v xs ys A m c hs hx (H.row (xs := xs) (hp1.mem_iff.2 (List.Mem.head _))) HR (Nat.zero_le _) hl fun v1 w1 hown hg hat => h v1 w1 (H.put (hm _) (Hold.turned hg.os hg.tape hg.output hg.size (fun k hk hne => hg.block k hk fun e => hne (Option.mem_toList.2 e.symm)) hown fun k hk => ?_)) hg
 have hk' : v1.ownBlock = some k := Option.mem_toList.1 hk
 rcases hat with h' | h'
 ·exact .inr (Option.mem_toList.2 (h'.symm.trans hk'))
 ·rw [h'] at hk'
  exact .inl (Nat.le_of_eq (Option.some.inj hk'))
end

section
variable {P : Program} {ops : Array Oper} {rest : List Oper} {o : Oper} {a : Act} {Q : Exit → Act → World → Prop} {w W : World} {t : List Nat} {l : List Own}
theorem is_alloc {ty : TypeId} (_ho : o.op = .alloc ty) (h : wpList P ops Q (o :: rest) a W) : wpList P ops Q (o :: rest) a W := h
theorem is_box {ty : TypeId} {x : Operand} (_ho : o.op = .box ty x) (h : wpList P ops Q (o :: rest) a W) : wpList P ops Q (o :: rest) a W := h
theorem is_load {ty : TypeId} {x : Operand} (_ho : o.op = .load ty x) (h : wpList P ops Q (o :: rest) a W) : wpList P ops Q (o :: rest) a W := h
theorem is_store {ty : TypeId} {p x : Operand} (_ho : o.op = .store ty p x) (h : wpList P ops Q (o :: rest) a W) : wpList P ops Q (o :: rest) a W := h
theorem is_conv {s d : TypeId} {x : Operand} (_ho : o.op = .convert s d x) (h : wpList P ops Q (o :: rest) a W) : wpList P ops Q (o :: rest) a W := h
theorem loadf_g (H : Hold w W t l) {ty : TypeId} {x : Operand} (ho : o.op = .load ty x) {g k : Nat} {cs : List Value} {bt : TypeId} {v : Value} (hx : a.eval x = .pointer (some ⟨g, k, none⟩)) (hm : cl g cs bt ∈ l)
  (hv : cs[k]? = some v) (hd : (P.underlying ty).map (·.isRow) = some false) (hw : Region.wanted o (yielded ops a.tmps) = true) (h : wpList P ops Q rest (a.put o.dst v) W) : wpList P ops Q (o :: rest) a W :=
 gate_guard hw (loadf_h H rfl ho hx hm hv hd h)
theorem load_g (H : Hold w W t l) {ty : TypeId} {x : Operand} (ho : o.op = .load ty x) {g : Nat} {cs : List Value} {bt : TypeId} (hx : a.eval x = .pointer (some ⟨g, 0, none⟩)) (hm : cl g cs bt ∈ l)
  (hd : (P.underlying ty).map (·.isRow) = some true) (hi : (P.info? ty).map (·.size) = some cs.length) (hw : Region.wanted o (yielded ops a.tmps) = true) (h : wpList P ops Q rest (a.put o.dst (.agg cs.toArray)) W) : wpList P ops Q (o :: rest) a W :=
 gate_guard hw (load_h H rfl ho hx hm hd hi h)
end
end Go.Proofs.YtjjfkmniffbgkaaDoor

/- FrameBack's pure part: how numbers are put. -/
namespace Go.Proofs.YtjjfkmniffbgkaaDoor
set_option linter.unusedVariables false
set_option linter.unusedSimpArgs false
open Go.RowKit Go.Proofs.YtjjfkmniffbgkaaDoorW.PrintWords Go.Proofs.YtjjfkmniffbgkaaDoorW.PrintLast Go.Proofs.YtjjfkmniffbgkaaDoorW.PrintMore Go.Proofs.YtjjfkmniffbgkaaDoor.QFrmA Go.Proofs.YtjjfkmniffbgkaaDoor.QFrmB Go.Proofs.YtjjfkmniffbgkaaDoor.Given
end Go.Proofs.YtjjfkmniffbgkaaDoor

/- FrameBack's pure part: the payload. -/
namespace Go.Proofs.YtjjfkmniffbgkaaDoor
set_option linter.unusedVariables false
set_option linter.unusedSimpArgs false
open Go.RowKit Go.Proofs.YtjjfkmniffbgkaaDoorW.PrintWords Go.Proofs.YtjjfkmniffbgkaaDoorW.PrintLast Go.Proofs.YtjjfkmniffbgkaaDoorW.PrintMore Go.Proofs.YtjjfkmniffbgkaaDoor.QFrmA Go.Proofs.YtjjfkmniffbgkaaDoor.Given
end Go.Proofs.YtjjfkmniffbgkaaDoor

/- The reference of frames: bytes and texts; its small functions, walked. -/
namespace Go.Proofs.YtjjfkmniffbgkaaDoor
set_option linter.unusedVariables false
set_option linter.unusedSimpArgs false
open Go.RowKit Go.Proofs.YtjjfkmniffbgkaaDoorW.PrintWords Go.Proofs.YtjjfkmniffbgkaaDoorW.PrintLast Go.Proofs.YtjjfkmniffbgkaaDoorW.PrintMore Go.Proofs.YtjjfkmniffbgkaaDoor.QFrmA Go.Proofs.YtjjfkmniffbgkaaDoor.Given Go.Extern.Stop Go.Stop Go.Extern Go.Maps
theorem bytes_ext {a b : ByteArray} (h : a.data.toList = b.data.toList) : a = b := by
 cases a; cases b
 simp only [ByteArray.mk.injEq]
 exact Array.toList_inj.1 h
theorem str_list (l : List Int) : (strOfNums l).toList = l.map fun n => UInt8.ofNat n.toNat := by
 rw [ByteArray.toList_eq]
 simp [strOfNums]
theorem back_list : ∀ (l : List Int), Byte8 l → (l.map fun n => UInt8.ofNat n.toNat).map (fun c => (c.toNat : Int)) = l
 | [], _ => rfl
 | x :: l, h => by
  have h1 := h x (by simp)
  have h2 := back_list l (fun y hy => h y (by simp [hy]))
  simp only [List.map_cons]
  rw [h2]
  congr 1
  rw [UInt8.toNat_ofNat']
  omega
theorem bytes_byte (s : ByteArray) : Byte8 (bytesOf s) := by
 intro x hx
 obtain ⟨c, -, rfl⟩ := List.mem_map.1 hx
 have := c.toNat_lt
 omega
theorem bytes_str {l : List Int} (h : Byte8 l) : bytesOf (strOfNums l) = l := by
 have e := back_list l h
 unfold bytesOf
 rw [← ByteArray.toList_eq, str_list]
 exact e
theorem str_size (l : List Int) : (strOfNums l).size = l.length := by
 have := bytesOf_length (strOfNums l)
 unfold bytesOf at this
 rw [← ByteArray.toList_eq, str_list] at this
 simpa using this.symm
theorem str_cut (l : List Int) (lo hi : Nat) : (strOfNums l).extract lo hi = strOfNums ((l.take hi).drop lo) := by
 refine bytes_ext ?_
 rw [ByteArray.data_extract, Array.toList_extract]
 simp only [strOfNums, List.extract, List.map_drop, List.map_take, List.drop_take]
theorem str_drop (l : List Int) (lo : Nat) : (strOfNums l).extract lo (strOfNums l).size = strOfNums (l.drop lo) := by
 rw [str_cut, str_size, List.take_length]
theorem ev_value_ref_loop (s : ByteArray) (hs : s.size ≤ 4) : ∀ (d i : Nat) (n : Int), d + i = s.size → 0 ≤ n → n < 256 ^ i → Ev (fun k => QFrmN.louverref07_Value.l0 k s n (i : Int)) (valFrom n ((bytesOf s).drop i))
 | 0, i, n, hi, h0, h1 => by
  refine Ev.step (f := fun _ => some n) (fun k => ?_) ?_
  ·simp only [QFrmN.louverref07_Value.l0]
   rw [if_neg (by omega)]
  ·rw [List.drop_eq_nil_of_le (by rw [bytesOf_length]; omega)]
   exact Ev.now n
 | d + 1, i, n, hi, h0, h1 => by
  have hlt : i < (bytesOf s).length := by rw [bytesOf_length]; omega
  have hx := bytes_byte s _ (List.getElem_mem hlt)
  have hrd : bt s (i : Int) = (bytesOf s)[i] := by
   rw [← rd_bytesOf]
   unfold rd
   rw [List.getD_eq_getElem?_getD, Int.toNat_natCast, List.getElem?_eq_getElem hlt]
   rfl
  have hpw : (256 : Int) ^ i ≤ 256 ^ 3 := by
   have : (256 : Nat) ^ i ≤ 256 ^ 3 := Nat.pow_le_pow_right (by decide) (by omega)
   have h := Int.ofNat_le.2 this
   rw [Int.natCast_pow, Int.natCast_pow] at h
   exact h
  have h3 : (256 : Int) ^ 3 = 16777216 := rfl
  have ih := ev_value_ref_loop s hs d (i + 1) (n * 256 + (bytesOf s)[i]) (by omega) (by omega) (by rw [pow256_succ]; omega)
  have e : ((256 * n) % 4294967296 + (bytesOf s)[i] % 4294967296) % 4294967296 = n * 256 + (bytesOf s)[i] := by omega
  refine Ev.step (f := fun k => QFrmN.louverref07_Value.l0 k s (n * 256 + (bytesOf s)[i]) ((i + 1 : Nat) : Int)) (fun k => ?_) ?_
  ·simp only [QFrmN.louverref07_Value.l0]
   rw [if_pos (by omega), if_pos (by omega), hrd, e, wrap_okF (by omega) (by omega)]
   rfl
  ·rw [List.drop_eq_getElem_cons hlt]
   exact ih
theorem ev_value_ref (s : ByteArray) (hs : s.size ≤ 4) : Ev (fun k => QFrmN.louverref07_Value.f k s) (valL (bytesOf s)) := by
 unfold QFrmN.louverref07_Value.f valL
 exact ev_value_ref_loop s hs s.size 0 0 (by omega) (by omega) (by decide)
theorem value_ref_calls (w : World) (l : List Int) (hl : l.length ≤ 4) (hb : Byte8 l) : Calls Tryd.prog 29 #[.string (strOfNums l)] w fun e w' => e = .returned (.int .u32 (valL l)) ∧ Drawn0 w w' := by
 obtain ⟨k, hk⟩ := (ev_value_ref (strOfNums l) (by rw [str_size]; exact hl)).rounds
 rw [bytes_str hb] at hk
 exact QFrmN.louverref07_Value.calls k (strOfNums l) _ w hk
theorem rlow_calls (w : World) (n : Int) (h0 : 0 ≤ n) : Calls Tryd.prog 55 #[.int .u32 n] w fun e w' => e = .returned (.int .u32 (n % 2147483648)) ∧ Drawn0 w w' := by
 refine QFrmN.louverref07_low.calls n _ w ?_
 unfold QFrmN.louverref07_low.f
 rw [Int.tmod_eq_emod_of_nonneg h0]
theorem rpads_calls (w : World) (ty : Int) : Calls Tryd.prog 50 #[.int .u8 ty] w fun e w' => e = .returned (.bool (decide (ty = 0 ∨ ty = 1 ∨ ty = 5))) ∧ Drawn0 w w' := by
 refine QFrmN.louverref07_pads.calls ty _ w ?_
 unfold QFrmN.louverref07_pads.f
 by_cases h0 : ty = 0
 ·simp [h0]
 ·by_cases h1 : ty = 1
  ·simp [h1]
  ·rw [if_neg h0, if_neg h1]
   congr 1
   rw [Bool.eq_iff_iff, beq_iff_eq, decide_eq_true_iff]
   omega
set_option maxHeartbeats 1000000 in
theorem bit32 (n : Fin 256) : ((n.val : Int).tdiv 32 % 2 == 1) = (Go.bits .and .u8 (n.val : Int) 32 != 0) := by
 revert n
 decide +kernel
set_option maxHeartbeats 1000000 in
theorem bit8 (n : Fin 256) : ((n.val : Int).tdiv 8 % 2 == 1) = (Go.bits .and .u8 (n.val : Int) 8 != 0) := by
 revert n
 decide +kernel
theorem bit32' {n : Int} (h0 : 0 ≤ n) (h1 : n ≤ 255) : (n.tdiv 32 % 2 == 1) = (Go.bits .and .u8 n 32 != 0) := by
 have := bit32 ⟨n.toNat, by omega⟩
 rwa [show ((n.toNat : Nat) : Int) = n by omega] at this
theorem bit8' {n : Int} (h0 : 0 ≤ n) (h1 : n ≤ 255) : (n.tdiv 8 % 2 == 1) = (Go.bits .and .u8 n 8 != 0) := by
 have := bit8 ⟨n.toNat, by omega⟩
 rwa [show ((n.toNat : Nat) : Int) = n by omega] at this
theorem rleans_calls (w : World) (F : Fr) (D S : Value) (h0 : 0 ≤ F.fl) (h1 : F.fl ≤ 255) : Calls Tryd.prog 51 #[.agg (frC F D S)] w fun e w' => e = .returned (.bool (leansB F.ty F.fl)) ∧ Below w.heap.size w w' := by
 obtain ⟨ty, fl, st, data, pad, code, oth, wgt, al, win, sets⟩ := F
 refine of_post0 fun R hRR => ?_
 have HP := Lib.hid hRR
 clear hRR
 by_cases h2 : ty = 2
 ·subst h2
  go_enter Tryd.func51, Tryd.ntmps51
  go_wp2_with fail
  exact HP.out _ _ ⟨rfl, below_alloc (Below.refl _ _) _⟩
 ·have g2 : (ty == 2) = false := by rw [beq_eq_false_iff_ne]; exact h2
  by_cases h3 : ty = 1
  ·subst h3
   have e := bit32' h0 h1
   dsimp only at e h0 h1
   have HE := Lib.hid (show leansB 1 fl = (fl / 32 % 2 == 1) from (by rw [← Int.tdiv_eq_ediv_of_nonneg h0, e]; rfl))
   clear e
   go_enter Tryd.func51, Tryd.ntmps51
   go_wp2_with fail
   refine HP.out _ _ ⟨?_, below_alloc (Below.refl _ _) _⟩
   rw [HE.out]
  ·have g3 : (ty == 1) = false := by rw [beq_eq_false_iff_ne]; exact h3
   have HE := Lib.hid (show leansB ty fl = false by unfold leansB; rw [if_neg h2, if_neg h3])
   clear h2 h3
   go_enter Tryd.func51, Tryd.ntmps51
   go_wp2_with fail
   refine HP.out _ _ ⟨?_, below_alloc (Below.refl _ _) _⟩
   rw [HE.out]

set_option maxHeartbeats 2000000 in
theorem rwrong_calls (w : World) (F : Fr) (D S : Value) : Calls Tryd.prog 56 #[.agg (frC F D S)] w fun e w' => e = .returned (.bool (stBad F.ty F.st)) ∧ Below w.heap.size w w' := by
 obtain ⟨ty, fl, st, data, pad, code, oth, wgt, al, win, sets⟩ := F
 refine of_post0 fun R hRR => ?_
 have HP := Lib.hid hRR
 clear hRR
 by_cases hA : ty = 0 ∨ ty = 1 ∨ ty = 2 ∨ ty = 3 ∨ ty = 5 ∨ ty = 9
 ·have HE := Lib.hid (stBad_a (st := st) hA)
  rcases hA with h | h | h | h | h | h
  all_goals
   subst h
   go_enter Tryd.func56, Tryd.ntmps56
   go_wp2_with fail
   refine HP.out _ _ ⟨?_, below_alloc (Below.refl _ _) _⟩
   rw [HE.out]
 ·by_cases hB : ty = 4 ∨ ty = 6 ∨ ty = 7
  ·have HE := Lib.hid (stBad_b (st := st) hB)
   clear hA
   rcases hB with h | h | h
   all_goals
    subst h
    go_enter Tryd.func56, Tryd.ntmps56
    go_wp2_with fail
    refine HP.out _ _ ⟨?_, below_alloc (Below.refl _ _) _⟩
    rw [HE.out]
  ·have HE := Lib.hid (show stBad ty st = false by unfold stBad; rw [if_neg hA, if_neg hB])
   have g0 : (ty == 0) = false := by rw [beq_eq_false_iff_ne]; omega
   have g1 : (ty == 1) = false := by rw [beq_eq_false_iff_ne]; omega
   have g2 : (ty == 2) = false := by rw [beq_eq_false_iff_ne]; omega
   have g3 : (ty == 3) = false := by rw [beq_eq_false_iff_ne]; omega
   have g4 : (ty == 4) = false := by rw [beq_eq_false_iff_ne]; omega
   have g5 : (ty == 5) = false := by rw [beq_eq_false_iff_ne]; omega
   have g6 : (ty == 6) = false := by rw [beq_eq_false_iff_ne]; omega
   have g7 : (ty == 7) = false := by rw [beq_eq_false_iff_ne]; omega
   have g9 : (ty == 9) = false := by rw [beq_eq_false_iff_ne]; omega
   clear hA hB
   go_enter Tryd.func56, Tryd.ntmps56
   go_wp2_with fail
   refine HP.out _ _ ⟨?_, below_alloc (Below.refl _ _) _⟩
   rw [HE.out]
def shortT (ty fl : Int) (n : Nat) : Bool :=
 if ty = 1 then (leansB 1 fl && decide (n < 5)) else if ty = 2 then decide (n ≠ 5) else if ty = 3 ∨ ty = 8 then decide (n ≠ 4)
 else if ty = 4 then (decide (n % 6 ≠ 0) || (decide (fl % 2 = 1) && decide (0 < n))) else if ty = 5 then decide (n < 4) else if ty = 6 then decide (n ≠ 8)
 else if ty = 7 then decide (n < 8) else false
theorem shortT_none {ty fl : Int} {n : Nat} (h1 : ty ≠ 1) (h2 : ty ≠ 2) (h3 : ty ≠ 3) (h4 : ty ≠ 4) (h5 : ty ≠ 5) (h6 : ty ≠ 6) (h7 : ty ≠ 7) (h8 : ty ≠ 8) : shortT ty fl n = false := by
 unfold shortT
 rw [if_neg h1, if_neg h2, if_neg (by omega), if_neg h4, if_neg h5, if_neg h6, if_neg h7]
theorem ne_nat (n k : Nat) : ((n : Int) != (k : Int)) = decide (n ≠ k) := by
 rw [Bool.eq_iff_iff, bne_iff_ne, decide_eq_true_iff]
 omega
set_option maxHeartbeats 4000000 in
theorem rshort_calls (w : World) (F : Fr) (D S : Value) (n : Nat) (h0 : 0 ≤ F.fl) (h1 : F.fl ≤ 255) : Calls Tryd.prog 57 #[.agg (frC F D S), .int .i64 n] w fun e w' => e = .returned (.bool (shortT F.ty F.fl n)) ∧ Below w.heap.size w w' := by
 obtain ⟨ty, fl, st, data, pad, code, oth, wgt, al, win, sets⟩ := F
 refine of_post0 fun R hRR => ?_
 have HP := Lib.hid hRR
 clear hRR
 dsimp only at h0 h1
 by_cases t1 : ty = 1
 ·subst t1
  have HL := Lib.hid (And.intro h0 h1)
  clear h0 h1
  cases hb : leansB 1 fl
  ·have HE := Lib.hid (show shortT 1 fl n = false by unfold shortT; rw [if_pos rfl, hb]; rfl)
   have HB := Lib.hid hb
   clear hb
   go_enter Tryd.func57, Tryd.ntmps57
   go_wp2_with fail
   refine (rleans_calls _ ⟨1, fl, st, data, pad, code, oth, wgt, al, win, sets⟩ D S HL.out.1 HL.out.2).mono ?_
   rintro e w1 ⟨rfl, hb1⟩
   dsimp only
   rw [HB.out]
   have HX := Lib.hid ((below_alloc (Below.refl w.heap.size w) _).trans (hb1.mono (by simp)))
   clear hb1
   go_wp2_with fail
   refine HP.out _ _ ⟨?_, HX.out⟩
   rw [HE.out]
   rfl
  ·have HE := Lib.hid (show shortT 1 fl n = decide ((n : Int) < 5) by unfold shortT; rw [if_pos rfl, hb]; simp only [Bool.true_and]; congr 1; exact propext ⟨fun h => by omega, fun h => by omega⟩)
   have HB := Lib.hid hb
   clear hb
   go_enter Tryd.func57, Tryd.ntmps57
   go_wp2_with fail
   refine (rleans_calls _ ⟨1, fl, st, data, pad, code, oth, wgt, al, win, sets⟩ D S HL.out.1 HL.out.2).mono ?_
   rintro e w1 ⟨rfl, hb1⟩
   dsimp only
   rw [HB.out]
   have HX := Lib.hid ((below_alloc (Below.refl w.heap.size w) _).trans (hb1.mono (by simp)))
   clear hb1
   go_wp2_with fail
   refine HP.out _ _ ⟨?_, HX.out⟩
   rw [HE.out]
   rfl
 by_cases t4 : ty = 4
 ·subst t4
  have e1 : ∀ b, decide (n % 6 ≠ 0) = b → ((n : Int).tmod 6 != 0) = b ∧ ((n : Int) % 6 != 0) = b := by
   intro b hb
   rw [Int.tmod_eq_emod_of_nonneg (by omega)]
   have : ((n : Int) % 6 != 0) = decide (n % 6 ≠ 0) := by rw [Bool.eq_iff_iff, bne_iff_ne, decide_eq_true_iff]; omega
   rw [this]
   exact ⟨hb, hb⟩
  have e2 : ∀ b, decide (fl % 2 = 1) = b → (fl.tmod 2 == 1) = b ∧ (fl % 2 == 1) = b := by
   intro b hb
   rw [Int.tmod_eq_emod_of_nonneg h0]
   have : (fl % 2 == 1) = decide (fl % 2 = 1) := by rw [Bool.eq_iff_iff, beq_iff_eq, decide_eq_true_iff]
   rw [this]
   exact ⟨hb, hb⟩
  have e3 : ∀ b, decide (0 < n) = b → decide ((0 : Int) < (n : Int)) = b := by
   intro b hb
   rw [← hb]
   congr 1
   exact propext ⟨fun h => by omega, fun h => by omega⟩
  cases hx : decide (n % 6 ≠ 0)
  ·obtain ⟨x1, x2⟩ := e1 _ hx
   cases hy : decide (fl % 2 = 1)
   ·obtain ⟨y1, y2⟩ := e2 _ hy
    have HE := Lib.hid (show shortT 4 fl n = false by unfold shortT; rw [if_neg (by decide), if_neg (by decide), if_neg (by decide), if_pos rfl, hx, hy]; rfl)
    clear e1 e2 e3 hx hy t1 h0 h1
    go_enter Tryd.func57, Tryd.ntmps57
    go_wp2_with fail
    refine HP.out _ _ ⟨?_, below_alloc (Below.refl _ _) _⟩
    rw [HE.out]
   ·obtain ⟨y1, y2⟩ := e2 _ hy
    cases hz : decide (0 < n)
    all_goals
     have z1 := e3 _ hz
     have HE := Lib.hid (show shortT 4 fl n = decide (0 < n) by unfold shortT; rw [if_neg (by decide), if_neg (by decide), if_neg (by decide), if_pos rfl, hx, hy]; rfl)
     have HZ := Lib.hid hz
     clear e1 e2 e3 hx hy t1 h0 h1 hz
     go_enter Tryd.func57, Tryd.ntmps57
     go_wp2_with fail
     refine HP.out _ _ ⟨?_, below_alloc (Below.refl _ _) _⟩
     rw [HE.out, HZ.out]
  ·obtain ⟨x1, x2⟩ := e1 _ hx
   have HE := Lib.hid (show shortT 4 fl n = true by unfold shortT; rw [if_neg (by decide), if_neg (by decide), if_neg (by decide), if_pos rfl, hx]; rfl)
   clear e1 e2 e3 hx t1 h0 h1
   go_enter Tryd.func57, Tryd.ntmps57
   go_wp2_with fail
   refine HP.out _ _ ⟨?_, below_alloc (Below.refl _ _) _⟩
   rw [HE.out]
 clear h0 h1
 by_cases hA : ty = 2 ∨ ty = 3 ∨ ty = 5 ∨ ty = 6 ∨ ty = 7 ∨ ty = 8
 ·clear t1 t4
  have l4 : decide (n < 4) = decide ((n : Int) < 4) := by congr 1; exact propext ⟨fun h => by omega, fun h => by omega⟩
  have l8 : decide (n < 8) = decide ((n : Int) < 8) := by congr 1; exact propext ⟨fun h => by omega, fun h => by omega⟩
  have LL := Lib.hid (And.intro l4 l8)
  clear l4 l8
  rcases hA with h | h | h | h | h | h
  all_goals
   subst h
   go_enter Tryd.func57, Tryd.ntmps57
   go_wp2_with fail
   refine HP.out _ _ ⟨?_, below_alloc (Below.refl _ _) _⟩
   unfold shortT
   simp only [show ¬ ((2 : Int) = 1) by decide, show ¬ ((3 : Int) = 1) by decide, show ¬ ((5 : Int) = 1) by decide, show ¬ ((6 : Int) = 1) by decide, show ¬ ((7 : Int) = 1) by decide, show ¬ ((8 : Int) = 1) by decide, show ¬ ((3 : Int) = 2) by decide, show ¬ ((5 : Int) = 2) by decide, show ¬ ((6 : Int) = 2) by decide, show ¬ ((7 : Int) = 2) by decide, show ¬ ((8 : Int) = 2) by decide, if_false, if_true, ← ne_nat, LL.out.1, LL.out.2]
   first | rfl | (simp; done)
 ·have HE := Lib.hid (shortT_none (fl := fl) (n := n) t1 (by omega) (by omega) t4 (by omega) (by omega) (by omega) (by omega) : shortT ty fl n = false)
  have g1 : (ty == 1) = false := by rw [beq_eq_false_iff_ne]; omega
  have g2 : (ty == 2) = false := by rw [beq_eq_false_iff_ne]; omega
  have g3 : (ty == 3) = false := by rw [beq_eq_false_iff_ne]; omega
  have g4 : (ty == 4) = false := by rw [beq_eq_false_iff_ne]; omega
  have g5 : (ty == 5) = false := by rw [beq_eq_false_iff_ne]; omega
  have g6 : (ty == 6) = false := by rw [beq_eq_false_iff_ne]; omega
  have g7 : (ty == 7) = false := by rw [beq_eq_false_iff_ne]; omega
  have g8 : (ty == 8) = false := by rw [beq_eq_false_iff_ne]; omega
  clear hA t1 t4
  go_enter Tryd.func57, Tryd.ntmps57
  go_wp2_with fail
  refine HP.out _ _ ⟨?_, below_alloc (Below.refl _ _) _⟩
  rw [HE.out]
abbrev fC (F : Fr) (D S : Value) (a b : Int) : Array Value := #[.int .u8 F.ty, .int .u8 F.fl, .int .u32 F.st, D, .int .i64 F.pad, .int .u32 F.code, .int .u32 F.oth, .int .u8 F.wgt, .bool F.al, .int .u32 F.win, S, .int .u8 a, .int .u32 b]
theorem fails_calls (w : World) (F : Fr) (A : Option Addr) (n m : Nat) (B : Option Addr) (p q : Nat) (a b s c : Int) : Calls Tryd.prog 54 #[.agg (fC F (.slice A n m) (.slice B p q) a b), .int .u8 s, .int .u32 c] w fun e w' => e = .returned (.agg (fC F (.slice A n m) (.slice B p q) s c)) ∧ Below w.heap.size w w' := by
 obtain ⟨ty, fl, st, data, pad, code, oth, wgt, al, win, sets⟩ := F
 refine of_post0 fun R hRR => ?_
 have HP := Lib.hid hRR
 clear hRR
 go_enter Tryd.func54, Tryd.ntmps54
 go_wp2_with (first
  | (refine gate_box 3 rfl rfl ?_; refine make_ev rfl (cs := fC ⟨ty, fl, st, data, pad, code, oth, wgt, al, win, sets⟩ (.slice A n m) (.slice B p q) a b) (t := 45) (by first | (go_simp; done) | (go_simp; rfl)) ?_; intro g3 hg3 w1 B3 z3 b3; have G3 := Aside0.mk hg3; have V3 := Aside0.mk b3; have K3 := Aside0.mk B3; have Z3 := Aside0.mk z3; clear hg3 b3 B3 z3)
  | (refine gate_alloc 6 rfl rfl ?_; refine make_ev rfl (cs := fC ⟨0, 0, 0, [], 0, 0, 0, 0, false, 0, []⟩ nilS nilS 0 0) (t := 45) (by first | (go_simp; done) | (go_simp; rfl)) ?_; intro g6 hg6 w2 B6 z6 b6; have L3 := Aside0.mk (blk_below K3.out b6); have V6 := Aside0.mk (V3.out.trans (b6.mono (by have := Z3.out; omega))); have N6 := Aside0.mk (show g3 ≠ g6 by have := G3.out; have := Z3.out; omega); have M6 := Aside0.mk (show w.heap.size ≤ g6 by have := Z3.out; omega); have K6 := Aside0.mk B6; clear hg6 b6 B6 z6)
  | (refine gate_stored (t := 5) rfl ?_; refine store_ev rfl rfl rfl (g := g3) (k := 11) (u := .int .u8 s) (cs' := fC ⟨ty, fl, st, data, pad, code, oth, wgt, al, win, sets⟩ (.slice A n m) (.slice B p q) s b) rfl rfl L3.out (by kernel_rfl) (Nat.le_of_ble_eq_true rfl) rfl rfl ?_; intro w3 b3' o3; have J3 := Aside0.mk b3'; have J6 := Aside0.mk (o3.blk K6.out N6.out.symm); have V7 := Aside0.mk (o3.below V6.out (by have := G3.out; omega)); clear b3' o3)
  | (refine gate_stored (t := 22) rfl ?_; refine store_ev rfl rfl rfl (g := g3) (k := 12) (u := .int .u32 c) (cs' := fC ⟨ty, fl, st, data, pad, code, oth, wgt, al, win, sets⟩ (.slice A n m) (.slice B p q) s c) rfl rfl J3.out (by kernel_rfl) (Nat.le_of_ble_eq_true rfl) rfl rfl ?_; intro w4 b4' o4; have Q3 := Aside0.mk b4'; have Q6 := Aside0.mk (o4.blk J6.out N6.out.symm); have V8 := Aside0.mk (o4.below V7.out (by have := G3.out; omega)); clear b4' o4)
  | (refine gate_load (t := 45) 11 rfl rfl ?_; refine load_ev rfl rfl rfl Q3.out Tryd.underlying45 rfl (by kernel_rfl) ?_)
  | (refine gate_stored (t := 45) rfl ?_; refine store_ev rfl rfl rfl (g := g6) (k := 0) (u := .agg (fC ⟨ty, fl, st, data, pad, code, oth, wgt, al, win, sets⟩ (.slice A n m) (.slice B p q) s c)) (cs' := fC ⟨ty, fl, st, data, pad, code, oth, wgt, al, win, sets⟩ (.slice A n m) (.slice B p q) s c) rfl rfl Q6.out ?a1 ?a2 ?a3 ?a4 ?_; (case a1 => kernel_rfl); (case a2 => exact Nat.le_of_ble_eq_true rfl); (case a3 => rfl); (case a4 => rfl); intro w5 b6' o5; have R6 := Aside0.mk b6'; have V9 := Aside0.mk (o5.below V8.out M6.out); clear b6' o5))
 refine bodyPost_ret (results_cell_row rfl _ _ g6 45 _ (0, 0) _ rfl R6.out Tryd.underlying45 rfl (by kernel_rfl)) rfl (HP.out _ _ ⟨rfl, V9.out⟩)

theorem run_index_str {l : List Int} (hb : Byte8 l) (i : Int) (h0 : 0 ≤ i) (h1 : i < (l.length : Int)) (W : World) :
  (Instr.index 9 (.string (strOfNums l)) (.int .i64 i)).run Tryd.prog W = .ok (.int .u8 (l.getD i.toNat 0)) W := by
 have hz := str_size l
 have hi : 0 ≤ i ∧ i < ((strOfNums l).size : Int) := by omega
 rw [run_index_string W 9 (strOfNums l) .i64 i Tryd.underlying9, dif_pos hi, Go.Proofs.YtjjfkmniffbgkaaDoorW.PrintWords.bt_at (strOfNums l) i, ← rd_bytesOf, bytes_str hb]
 rfl
theorem run_cut_str (l : List Int) (lo hi : Int) (h0 : 0 ≤ lo) (h1 : lo ≤ hi) (h2 : hi ≤ (l.length : Int)) (W : World) :
  (Instr.slice 9 (.string (strOfNums l)) (some (.int .i64 lo)) (some (.int .i64 hi)) none).run Tryd.prog W = .ok (.string (strOfNums ((l.take hi.toNat).drop lo.toNat))) W := by
 have hz := str_size l
 rw [run_slice_string W 9 (strOfNums l) .i64 .i64 lo hi Tryd.underlying9 h0 h1 (by omega), str_cut]
theorem run_from_str (l : List Int) (lo : Int) (h0 : 0 ≤ lo) (h1 : lo ≤ (l.length : Int)) (W : World) :
  (Instr.slice 9 (.string (strOfNums l)) (some (.int .i64 lo)) none none).run Tryd.prog W = .ok (.string (strOfNums (l.drop lo.toNat))) W := by
 have hz := str_size l
 rw [run_slice_string_from_if W 9 (strOfNums l) .i64 lo Tryd.underlying9, if_pos (by omega), str_drop]
theorem run_to_str (l : List Int) (hi : Int) (h0 : 0 ≤ hi) (h1 : hi ≤ (l.length : Int)) (W : World) :
  (Instr.slice 9 (.string (strOfNums l)) none (some (.int .i64 hi)) none).run Tryd.prog W = .ok (.string (strOfNums (l.take hi.toNat))) W := by
 have hz := str_size l
 rw [run_slice_string_to_if W 9 (strOfNums l) .i64 hi Tryd.underlying9, if_pos (by omega), str_cut, List.drop_zero]
def partsF (F : Fr) (b : List Int) : Fr :=
 if F.ty = 4 then { F with sets := parseS (b.length / 6) b } else if F.ty = 3 then { F with code := valL b } else if F.ty = 8 then { F with win := valL b % 2147483648 }
 else if F.ty = 7 then { F with code := valL ((b.drop 4).take 4), oth := valL (b.take 4) % 2147483648, data := b.drop 8 }
 else if F.ty = 5 then { F with oth := valL (b.take 4) % 2147483648, data := b.drop 4 }
 else if leansB F.ty F.fl = true then { leanF F b with data := b.drop 5 } else { F with data := b }
def FrCame (w : World) (F2 : Fr) (v : Array Value) (w' : World) : Prop :=
 ∃ A c B m, v = frC F2 (.slice A F2.data.length c) (.slice B F2.sets.length m) ∧ (ReadsInt w' .u8 A F2.data.length F2.data ∧ F2.data.length ≤ c ∧ ∀ a, A = some a → w.heap.size ≤ a.block) ∧
  (k99.C w' B F2.sets.length F2.sets ∧ F2.sets.length ≤ m ∧ ∀ a, B = some a → w.heap.size ≤ a.block)
def PartsPost (w : World) (F2 : Fr) (e : Ending) (w' : World) : Prop := (∃ v, e = .returned (.agg v) ∧ FrCame w F2 v w') ∧ Below w.heap.size w w'
abbrev fr0 (ty fl st pad : Int) : Fr := ⟨ty, fl, st, [], pad, 0, 0, 0, false, 0, []⟩
theorem no_sets (w : World) : k99.C w none 0 ([] : List S99) := ⟨rfl, by decide, fun h => absurd h (Nat.lt_irrefl 0)⟩
set_option maxHeartbeats 4000000 in
set_option maxRecDepth 100000 in
theorem parts_plain (w : World) (ty fl st pad : Int) (l : List Int) (h0 : 0 ≤ fl) (h1 : fl ≤ 255) (hby : Byte8 l) (hl : l.length ≤ 100000) (hb : leansB ty fl = false) (g3 : ty ≠ 3) (g4 : ty ≠ 4) (g5 : ty ≠ 5) (g7 : ty ≠ 7) (g8 : ty ≠ 8) :
  Calls Tryd.prog 58 #[.agg (frC (fr0 ty fl st pad) nilS nilS), .string (strOfNums l)] w (PartsPost w (partsF (fr0 ty fl st pad) l)) := by
 refine of_post0 fun R hRR => ?_
 have HP := Lib.hid hRR
 have HL := Lib.hid (And.intro h0 h1)
 clear hRR h0 h1
 have HE := Lib.hid (show partsF (fr0 ty fl st pad) l = ⟨ty, fl, st, l, pad, 0, 0, 0, false, 0, []⟩ by
  unfold partsF
  rw [if_neg g4, if_neg g3, if_neg g8, if_neg g7, if_neg g5, if_neg (by rw [hb]; decide)])
 have HB := Lib.hid hb
 have HS := Lib.hid (And.intro (str_size l) (And.intro (bytes_str hby) (show l.length ≤ 9223372036854775807 by omega)))
 have b3 : (ty == 3) = false := by rw [beq_eq_false_iff_ne]; exact g3
 have b4 : (ty == 4) = false := by rw [beq_eq_false_iff_ne]; exact g4
 have b5 : (ty == 5) = false := by rw [beq_eq_false_iff_ne]; exact g5
 have b7 : (ty == 7) = false := by rw [beq_eq_false_iff_ne]; exact g7
 have b8 : (ty == 8) = false := by rw [beq_eq_false_iff_ne]; exact g8
 clear hby hl hb g3 g4 g5 g7 g8
 generalize strOfNums l = s at HS ⊢
 have V := Aside0.mk (Below.refl w.heap.size w)
 go_enter Tryd.func58, Tryd.ntmps58
 go_wp2_with (first
  | (refine gate_box 2 rfl rfl ?_; refine make_ev rfl (cs := frC ⟨ty, fl, st, [], pad, 0, 0, 0, false, 0, []⟩ nilS nilS) (t := 38) (by first | (go_simp; done) | (go_simp; rfl)) ?_; intro gf hg_ w0_ k_ z_ b_; have Mf := Aside0.mk (show w.heap.size ≤ gf by rw [hg_]; exact V.out.size); have q0_ := Aside0.mk (V.out.trans (b_.mono V.out.size)); clear V; have V := q0_; clear q0_; have Kf := Aside0.mk k_; clear hg_ k_ z_ b_)
  | (refine gate_alloc 4 rfl rfl ?_; refine make_ev rfl (cs := frC ⟨0, 0, 0, [], 0, 0, 0, 0, false, 0, []⟩ nilS nilS) (t := 38) (by first | (go_simp; done) | (go_simp; rfl)) ?_; intro gr hg_ w1_ k_ z_ b_; have Nf_r := Aside0.mk (show gf ≠ gr by rw [hg_]; exact Nat.ne_of_lt (blk_lt Kf.out)); have Mr := Aside0.mk (show w.heap.size ≤ gr by rw [hg_]; exact V.out.size); have q0_ := Aside0.mk (blk_below Kf.out b_); have q1_ := Aside0.mk (V.out.trans (b_.mono V.out.size)); clear Kf; clear V; have Kf := q0_; have V := q1_; clear q0_ q1_; have Kr := Aside0.mk k_; clear hg_ k_ z_ b_)
  | (refine gate_load (t := 38) 7 rfl rfl ?_; refine load_ev rfl rfl rfl Kf.out Tryd.underlying38 rfl (by kernel_rfl) ?_)
  | (go_at_call 51; (with_reducible refine (rleans_calls _ ⟨ty, fl, st, [], pad, 0, 0, 0, false, 0, []⟩ nilS nilS HL.out.1 HL.out.2).mono ?_); rintro e_ w2_ ⟨rfl, h_⟩; have b_ := h_; have q0_ := Aside0.mk (blk_below Kf.out b_); have q1_ := Aside0.mk (blk_below Kr.out b_); have q2_ := Aside0.mk (V.out.trans (b_.mono V.out.size)); clear Kf; clear Kr; clear V; have Kf := q0_; have Kr := q1_; have V := q2_; clear q0_ q1_ q2_; clear b_ h_; dsimp only; rw [HB.out])
  | (refine gate_load (t := 5) 24 rfl rfl ?_; refine loadf_ev rfl rfl rfl Kf.out rfl Tryd.underlying5 rfl ?_)
  | (refine gate_conv 87 rfl rfl ?_; refine bytes_ev rfl rfl (l) rfl Tryd.underlying9 Tryd.underlying35 Tryd.underlying5 HS.out.1 HS.out.2.1 HS.out.2.2 ?_; intro gd cd hg_ hc_ w3_ r_ z_ b_; have Yd_f := Aside0.mk (show gd ≠ gf by rw [hg_]; exact (Nat.ne_of_lt (blk_lt Kf.out)).symm); have Yd_r := Aside0.mk (show gd ≠ gr by rw [hg_]; exact (Nat.ne_of_lt (blk_lt Kr.out)).symm); have Md := Aside0.mk (show w.heap.size ≤ gd by rw [hg_]; exact V.out.size); have Cd := Aside0.mk hc_; have q0_ := Aside0.mk (blk_below Kf.out b_); have q1_ := Aside0.mk (blk_below Kr.out b_); have q2_ := Aside0.mk (V.out.trans (b_.mono V.out.size)); clear Kf; clear Kr; clear V; have Kf := q0_; have Kr := q1_; have V := q2_; clear q0_ q1_ q2_; have Rd := Aside0.mk r_; clear hg_ hc_ r_ z_ b_)
  | (refine gate_stored (t := 35) (p := .tmp 88) rfl ?_; refine store_ev rfl rfl rfl (g := gf) (k := 3) (u := (.slice (some ⟨gd, 0, none⟩) (l).length cd)) (cs' := frC ⟨ty, fl, st, l, pad, 0, 0, 0, false, 0, []⟩ (.slice (some ⟨gd, 0, none⟩) (l).length cd) nilS) rfl rfl Kf.out (by kernel_rfl) (Nat.le_of_ble_eq_true rfl) rfl rfl ?_; intro w4_ k_ o_; have q0_ := Aside0.mk (o_.blk Kr.out Nf_r.out.symm); have q1_ := Aside0.mk (k_); have q2_ := Aside0.mk (o_.reads Rd.out (at_only Yd_f.out)); have q3_ := Aside0.mk (o_.below V.out Mf.out); clear Kr; clear Kf; clear Rd; clear V; have Kr := q0_; have Kf := q1_; have Rd := q2_; have V := q3_; clear q0_ q1_ q2_ q3_; clear k_ o_)
  | (refine gate_load (t := 38) 89 rfl rfl ?_; refine load_ev rfl rfl rfl Kf.out Tryd.underlying38 rfl (by kernel_rfl) ?_)
  | (refine gate_stored (t := 38) (p := .tmp 4) rfl ?_; refine store_ev rfl rfl rfl (g := gr) (k := 0) (u := (.agg (frC ⟨ty, fl, st, l, pad, 0, 0, 0, false, 0, []⟩ (.slice (some ⟨gd, 0, none⟩) (l).length cd) nilS))) (cs' := frC ⟨ty, fl, st, l, pad, 0, 0, 0, false, 0, []⟩ (.slice (some ⟨gd, 0, none⟩) (l).length cd) nilS) rfl rfl Kr.out (by kernel_rfl) (Nat.le_of_ble_eq_true rfl) rfl rfl ?_; intro w5_ k_ o_; have q0_ := Aside0.mk (o_.blk Kf.out Nf_r.out); have q1_ := Aside0.mk (k_); have q2_ := Aside0.mk (o_.reads Rd.out (at_only Yd_r.out)); have q3_ := Aside0.mk (o_.below V.out Mr.out); clear Kf; clear Kr; clear Rd; clear V; have Kf := q0_; have Kr := q1_; have Rd := q2_; have V := q3_; clear q0_ q1_ q2_ q3_; clear k_ o_))
 refine bodyPost_ret (results_cell_row rfl _ _ gr 38 _ (0, 0) _ rfl Kr.out Tryd.underlying38 rfl (by kernel_rfl)) rfl (HP.out _ _ ?_)
 rw [HE.out]
 exact ⟨⟨_, rfl, some ⟨gd, 0, none⟩, cd, none, 0, rfl, ⟨Rd.out, Cd.out, fun a h => by obtain rfl := Option.some.inj h; exact Md.out⟩, no_sets _, Nat.le_refl _, fun a h => by cases h⟩, V.out⟩
set_option maxHeartbeats 4000000 in
set_option maxRecDepth 100000 in
theorem parts_lean (w : World) (ty fl st pad : Int) (l : List Int) (h0 : 0 ≤ fl) (h1 : fl ≤ 255) (hby : Byte8 l) (hl : l.length ≤ 100000) (hb : leansB ty fl = true) (h5 : 5 ≤ l.length) :
  Calls Tryd.prog 58 #[.agg (frC (fr0 ty fl st pad) nilS nilS), .string (strOfNums l)] w (PartsPost w (partsF (fr0 ty fl st pad) l)) := by
 refine of_post0 fun R hRR => ?_
 have HP := Lib.hid hRR
 have HL := Lib.hid (And.intro h0 h1)
 clear hRR h0 h1
 have ht : ty = 1 ∨ ty = 2 := by
  unfold leansB at hb
  by_cases t2 : ty = 2
  ·exact .inr t2
  ·by_cases t1 : ty = 1
   ·exact .inl t1
   ·rw [if_neg t2, if_neg t1] at hb; cases hb
 have HE := Lib.hid (show partsF (fr0 ty fl st pad) l = ⟨ty, fl, st, l.drop 5, pad, 0, valL (l.take 4) % 2147483648, l.getD 4 0, decide (2147483648 ≤ valL (l.take 4)), 0, []⟩ by
  unfold partsF
  rw [if_neg (by show ¬ ty = 4; omega), if_neg (by show ¬ ty = 3; omega), if_neg (by show ¬ ty = 8; omega), if_neg (by show ¬ ty = 7; omega), if_neg (by show ¬ ty = 5; omega), if_pos (by exact hb)]
  rfl)
 have HB := Lib.hid hb
 have hl4 : (l.take 4).length = 4 := by rw [List.length_take]; omega
 have hb4 : Byte8 (l.take 4) := fun x hx => hby x (List.mem_of_mem_take hx)
 have hb5 : Byte8 (l.drop 5) := fun x hx => hby x (List.mem_of_mem_drop hx)
 have HS := Lib.hid (And.intro (str_size (l.drop 5)) (And.intro (bytes_str hb5) (show (l.drop 5).length ≤ 9223372036854775807 by rw [List.length_drop]; omega)))
 have f4 := fun W => run_to_str l 4 (by decide) (by omega) W
 have f5 := fun W => run_from_str l 5 (by decide) (by omega) W
 have i4 := fun W => run_index_str hby 4 (by decide) (by omega) W
 have HV := Lib.hid (fun W => value_ref_calls W (l.take 4) (by omega) hb4)
 have HV0 := Lib.hid (valL_bound hb4).1
 rw [show (4 : Int).toNat = 4 from rfl] at f4 i4
 rw [show (5 : Int).toNat = 5 from rfl] at f5
 clear hby hl hb hl4 hb4 hb5 h5
 generalize strOfNums l = s at f4 f5 i4 ⊢
 generalize valL (l.take 4) = v at HE HV HV0
 generalize strOfNums (l.take 4) = s4 at f4 HV
 generalize l.getD 4 0 = wt at HE i4
 generalize l.drop 5 = l5 at HE HS f5
 generalize strOfNums l5 = s5 at HS f5
 have V := Aside0.mk (Below.refl w.heap.size w)
 rcases ht with rfl | rfl
 ·go_enter Tryd.func58, Tryd.ntmps58
  go_wp2_with (first
   | (refine gate_box 2 rfl rfl ?_; refine make_ev rfl (cs := frC ⟨1, fl, st, [], pad, 0, 0, 0, false, 0, []⟩ nilS nilS) (t := 38) (by first | (go_simp; done) | (go_simp; rfl)) ?_; intro gf hg_ w0_ k_ z_ b_; have Mf := Aside0.mk (show w.heap.size ≤ gf by rw [hg_]; exact V.out.size); have q0_ := Aside0.mk (V.out.trans (b_.mono V.out.size)); clear V; have V := q0_; clear q0_; have Kf := Aside0.mk k_; clear hg_ k_ z_ b_)
   | (refine gate_alloc 4 rfl rfl ?_; refine make_ev rfl (cs := frC ⟨0, 0, 0, [], 0, 0, 0, 0, false, 0, []⟩ nilS nilS) (t := 38) (by first | (go_simp; done) | (go_simp; rfl)) ?_; intro gr hg_ w1_ k_ z_ b_; have Nf_r := Aside0.mk (show gf ≠ gr by rw [hg_]; exact Nat.ne_of_lt (blk_lt Kf.out)); have Mr := Aside0.mk (show w.heap.size ≤ gr by rw [hg_]; exact V.out.size); have q0_ := Aside0.mk (blk_below Kf.out b_); have q1_ := Aside0.mk (V.out.trans (b_.mono V.out.size)); clear Kf; clear V; have Kf := q0_; have V := q1_; clear q0_ q1_; have Kr := Aside0.mk k_; clear hg_ k_ z_ b_)
   | (refine gate_load (t := 38) 7 rfl rfl ?_; refine load_ev rfl rfl rfl Kf.out Tryd.underlying38 rfl (by kernel_rfl) ?_)
   | (go_at_call 51; (with_reducible refine (rleans_calls _ ⟨1, fl, st, [], pad, 0, 0, 0, false, 0, []⟩ nilS nilS HL.out.1 HL.out.2).mono ?_); rintro e_ w2_ ⟨rfl, h_⟩; have b_ := h_; have q0_ := Aside0.mk (blk_below Kf.out b_); have q1_ := Aside0.mk (blk_below Kr.out b_); have q2_ := Aside0.mk (V.out.trans (b_.mono V.out.size)); clear Kf; clear Kr; clear V; have Kf := q0_; have Kr := q1_; have V := q2_; clear q0_ q1_ q2_; clear b_ h_; dsimp only; rw [HB.out])
   | (refine gate_load (t := 5) 24 rfl rfl ?_; refine loadf_ev rfl rfl rfl Kf.out rfl Tryd.underlying5 rfl ?_)
   | (go_at_call 29; (with_reducible refine (HV.out _).mono ?_); rintro e_ w3_ ⟨rfl, h_⟩; have b_ := h_.below; have q0_ := Aside0.mk (blk_below Kf.out b_); have q1_ := Aside0.mk (blk_below Kr.out b_); have q2_ := Aside0.mk (V.out.trans (b_.mono V.out.size)); clear Kf; clear Kr; clear V; have Kf := q0_; have Kr := q1_; have V := q2_; clear q0_ q1_ q2_; clear b_ h_)
   | (refine gate_stored (t := 4) (p := .tmp 14) rfl ?_; refine store_ev rfl rfl rfl (g := gf) (k := 8) (u := (.bool (decide (2147483648 ≤ v)))) (cs' := frC ⟨1, fl, st, [], pad, 0, 0, 0, (decide (2147483648 ≤ v)), 0, []⟩ nilS nilS) rfl rfl Kf.out (by kernel_rfl) (Nat.le_of_ble_eq_true rfl) rfl rfl ?_; intro w4_ k_ o_; have q0_ := Aside0.mk (o_.blk Kr.out Nf_r.out.symm); have q1_ := Aside0.mk (k_); have q2_ := Aside0.mk (o_.below V.out Mf.out); clear Kr; clear Kf; clear V; have Kr := q0_; have Kf := q1_; have V := q2_; clear q0_ q1_ q2_; clear k_ o_)
   | (go_at_call 55; (with_reducible refine (rlow_calls _ v HV0.out).mono ?_); rintro e_ w5_ ⟨rfl, h_⟩; have b_ := h_.below; have q0_ := Aside0.mk (blk_below Kf.out b_); have q1_ := Aside0.mk (blk_below Kr.out b_); have q2_ := Aside0.mk (V.out.trans (b_.mono V.out.size)); clear Kf; clear Kr; clear V; have Kf := q0_; have Kr := q1_; have V := q2_; clear q0_ q1_ q2_; clear b_ h_)
   | (refine gate_stored (t := 22) (p := .tmp 17) rfl ?_; refine store_ev rfl rfl rfl (g := gf) (k := 6) (u := (.int .u32 (v % 2147483648))) (cs' := frC ⟨1, fl, st, [], pad, 0, (v % 2147483648), 0, (decide (2147483648 ≤ v)), 0, []⟩ nilS nilS) rfl rfl Kf.out (by kernel_rfl) (Nat.le_of_ble_eq_true rfl) rfl rfl ?_; intro w6_ k_ o_; have q0_ := Aside0.mk (o_.blk Kr.out Nf_r.out.symm); have q1_ := Aside0.mk (k_); have q2_ := Aside0.mk (o_.below V.out Mf.out); clear Kr; clear Kf; clear V; have Kr := q0_; have Kf := q1_; have V := q2_; clear q0_ q1_ q2_; clear k_ o_)
   | (refine gate_stored (t := 5) (p := .tmp 20) rfl ?_; refine store_ev rfl rfl rfl (g := gf) (k := 7) (u := (.int .u8 wt)) (cs' := frC ⟨1, fl, st, [], pad, 0, (v % 2147483648), wt, (decide (2147483648 ≤ v)), 0, []⟩ nilS nilS) rfl rfl Kf.out (by kernel_rfl) (Nat.le_of_ble_eq_true rfl) rfl rfl ?_; intro w7_ k_ o_; have q0_ := Aside0.mk (o_.blk Kr.out Nf_r.out.symm); have q1_ := Aside0.mk (k_); have q2_ := Aside0.mk (o_.below V.out Mf.out); clear Kr; clear Kf; clear V; have Kr := q0_; have Kf := q1_; have V := q2_; clear q0_ q1_ q2_; clear k_ o_)
   | (refine gate_conv 87 rfl rfl ?_; refine bytes_ev rfl rfl (l5) rfl Tryd.underlying9 Tryd.underlying35 Tryd.underlying5 HS.out.1 HS.out.2.1 HS.out.2.2 ?_; intro gd cd hg_ hc_ w8_ r_ z_ b_; have Yd_f := Aside0.mk (show gd ≠ gf by rw [hg_]; exact (Nat.ne_of_lt (blk_lt Kf.out)).symm); have Yd_r := Aside0.mk (show gd ≠ gr by rw [hg_]; exact (Nat.ne_of_lt (blk_lt Kr.out)).symm); have Md := Aside0.mk (show w.heap.size ≤ gd by rw [hg_]; exact V.out.size); have Cd := Aside0.mk hc_; have q0_ := Aside0.mk (blk_below Kf.out b_); have q1_ := Aside0.mk (blk_below Kr.out b_); have q2_ := Aside0.mk (V.out.trans (b_.mono V.out.size)); clear Kf; clear Kr; clear V; have Kf := q0_; have Kr := q1_; have V := q2_; clear q0_ q1_ q2_; have Rd := Aside0.mk r_; clear hg_ hc_ r_ z_ b_)
   | (refine gate_stored (t := 35) (p := .tmp 88) rfl ?_; refine store_ev rfl rfl rfl (g := gf) (k := 3) (u := (.slice (some ⟨gd, 0, none⟩) (l5).length cd)) (cs' := frC ⟨1, fl, st, l5, pad, 0, (v % 2147483648), wt, (decide (2147483648 ≤ v)), 0, []⟩ (.slice (some ⟨gd, 0, none⟩) (l5).length cd) nilS) rfl rfl Kf.out (by kernel_rfl) (Nat.le_of_ble_eq_true rfl) rfl rfl ?_; intro w9_ k_ o_; have q0_ := Aside0.mk (o_.blk Kr.out Nf_r.out.symm); have q1_ := Aside0.mk (k_); have q2_ := Aside0.mk (o_.reads Rd.out (at_only Yd_f.out)); have q3_ := Aside0.mk (o_.below V.out Mf.out); clear Kr; clear Kf; clear Rd; clear V; have Kr := q0_; have Kf := q1_; have Rd := q2_; have V := q3_; clear q0_ q1_ q2_ q3_; clear k_ o_)
   | (refine gate_load (t := 38) 89 rfl rfl ?_; refine load_ev rfl rfl rfl Kf.out Tryd.underlying38 rfl (by kernel_rfl) ?_)
   | (refine gate_stored (t := 38) (p := .tmp 4) rfl ?_; refine store_ev rfl rfl rfl (g := gr) (k := 0) (u := (.agg (frC ⟨1, fl, st, l5, pad, 0, (v % 2147483648), wt, (decide (2147483648 ≤ v)), 0, []⟩ (.slice (some ⟨gd, 0, none⟩) (l5).length cd) nilS))) (cs' := frC ⟨1, fl, st, l5, pad, 0, (v % 2147483648), wt, (decide (2147483648 ≤ v)), 0, []⟩ (.slice (some ⟨gd, 0, none⟩) (l5).length cd) nilS) rfl rfl Kr.out (by kernel_rfl) (Nat.le_of_ble_eq_true rfl) rfl rfl ?_; intro w10_ k_ o_; have q0_ := Aside0.mk (o_.blk Kf.out Nf_r.out); have q1_ := Aside0.mk (k_); have q2_ := Aside0.mk (o_.reads Rd.out (at_only Yd_r.out)); have q3_ := Aside0.mk (o_.below V.out Mr.out); clear Kf; clear Kr; clear Rd; clear V; have Kf := q0_; have Kr := q1_; have Rd := q2_; have V := q3_; clear q0_ q1_ q2_ q3_; clear k_ o_))
  refine bodyPost_ret (results_cell_row rfl _ _ gr 38 _ (0, 0) _ rfl Kr.out Tryd.underlying38 rfl (by kernel_rfl)) rfl (HP.out _ _ ?_)
  rw [HE.out]
  exact ⟨⟨_, rfl, some ⟨gd, 0, none⟩, cd, none, 0, rfl, ⟨Rd.out, Cd.out, fun a h => by obtain rfl := Option.some.inj h; exact Md.out⟩, no_sets _, Nat.le_refl _, fun a h => by cases h⟩, V.out⟩
 ·go_enter Tryd.func58, Tryd.ntmps58
  go_wp2_with (first
   | (refine gate_box 2 rfl rfl ?_; refine make_ev rfl (cs := frC ⟨2, fl, st, [], pad, 0, 0, 0, false, 0, []⟩ nilS nilS) (t := 38) (by first | (go_simp; done) | (go_simp; rfl)) ?_; intro gf hg_ w0_ k_ z_ b_; have Mf := Aside0.mk (show w.heap.size ≤ gf by rw [hg_]; exact V.out.size); have q0_ := Aside0.mk (V.out.trans (b_.mono V.out.size)); clear V; have V := q0_; clear q0_; have Kf := Aside0.mk k_; clear hg_ k_ z_ b_)
   | (refine gate_alloc 4 rfl rfl ?_; refine make_ev rfl (cs := frC ⟨0, 0, 0, [], 0, 0, 0, 0, false, 0, []⟩ nilS nilS) (t := 38) (by first | (go_simp; done) | (go_simp; rfl)) ?_; intro gr hg_ w1_ k_ z_ b_; have Nf_r := Aside0.mk (show gf ≠ gr by rw [hg_]; exact Nat.ne_of_lt (blk_lt Kf.out)); have Mr := Aside0.mk (show w.heap.size ≤ gr by rw [hg_]; exact V.out.size); have q0_ := Aside0.mk (blk_below Kf.out b_); have q1_ := Aside0.mk (V.out.trans (b_.mono V.out.size)); clear Kf; clear V; have Kf := q0_; have V := q1_; clear q0_ q1_; have Kr := Aside0.mk k_; clear hg_ k_ z_ b_)
   | (refine gate_load (t := 38) 7 rfl rfl ?_; refine load_ev rfl rfl rfl Kf.out Tryd.underlying38 rfl (by kernel_rfl) ?_)
   | (go_at_call 51; (with_reducible refine (rleans_calls _ ⟨2, fl, st, [], pad, 0, 0, 0, false, 0, []⟩ nilS nilS HL.out.1 HL.out.2).mono ?_); rintro e_ w2_ ⟨rfl, h_⟩; have b_ := h_; have q0_ := Aside0.mk (blk_below Kf.out b_); have q1_ := Aside0.mk (blk_below Kr.out b_); have q2_ := Aside0.mk (V.out.trans (b_.mono V.out.size)); clear Kf; clear Kr; clear V; have Kf := q0_; have Kr := q1_; have V := q2_; clear q0_ q1_ q2_; clear b_ h_; dsimp only; rw [HB.out])
   | (refine gate_load (t := 5) 24 rfl rfl ?_; refine loadf_ev rfl rfl rfl Kf.out rfl Tryd.underlying5 rfl ?_)
   | (go_at_call 29; (with_reducible refine (HV.out _).mono ?_); rintro e_ w3_ ⟨rfl, h_⟩; have b_ := h_.below; have q0_ := Aside0.mk (blk_below Kf.out b_); have q1_ := Aside0.mk (blk_below Kr.out b_); have q2_ := Aside0.mk (V.out.trans (b_.mono V.out.size)); clear Kf; clear Kr; clear V; have Kf := q0_; have Kr := q1_; have V := q2_; clear q0_ q1_ q2_; clear b_ h_)
   | (refine gate_stored (t := 4) (p := .tmp 14) rfl ?_; refine store_ev rfl rfl rfl (g := gf) (k := 8) (u := (.bool (decide (2147483648 ≤ v)))) (cs' := frC ⟨2, fl, st, [], pad, 0, 0, 0, (decide (2147483648 ≤ v)), 0, []⟩ nilS nilS) rfl rfl Kf.out (by kernel_rfl) (Nat.le_of_ble_eq_true rfl) rfl rfl ?_; intro w4_ k_ o_; have q0_ := Aside0.mk (o_.blk Kr.out Nf_r.out.symm); have q1_ := Aside0.mk (k_); have q2_ := Aside0.mk (o_.below V.out Mf.out); clear Kr; clear Kf; clear V; have Kr := q0_; have Kf := q1_; have V := q2_; clear q0_ q1_ q2_; clear k_ o_)
   | (go_at_call 55; (with_reducible refine (rlow_calls _ v HV0.out).mono ?_); rintro e_ w5_ ⟨rfl, h_⟩; have b_ := h_.below; have q0_ := Aside0.mk (blk_below Kf.out b_); have q1_ := Aside0.mk (blk_below Kr.out b_); have q2_ := Aside0.mk (V.out.trans (b_.mono V.out.size)); clear Kf; clear Kr; clear V; have Kf := q0_; have Kr := q1_; have V := q2_; clear q0_ q1_ q2_; clear b_ h_)
   | (refine gate_stored (t := 22) (p := .tmp 17) rfl ?_; refine store_ev rfl rfl rfl (g := gf) (k := 6) (u := (.int .u32 (v % 2147483648))) (cs' := frC ⟨2, fl, st, [], pad, 0, (v % 2147483648), 0, (decide (2147483648 ≤ v)), 0, []⟩ nilS nilS) rfl rfl Kf.out (by kernel_rfl) (Nat.le_of_ble_eq_true rfl) rfl rfl ?_; intro w6_ k_ o_; have q0_ := Aside0.mk (o_.blk Kr.out Nf_r.out.symm); have q1_ := Aside0.mk (k_); have q2_ := Aside0.mk (o_.below V.out Mf.out); clear Kr; clear Kf; clear V; have Kr := q0_; have Kf := q1_; have V := q2_; clear q0_ q1_ q2_; clear k_ o_)
   | (refine gate_stored (t := 5) (p := .tmp 20) rfl ?_; refine store_ev rfl rfl rfl (g := gf) (k := 7) (u := (.int .u8 wt)) (cs' := frC ⟨2, fl, st, [], pad, 0, (v % 2147483648), wt, (decide (2147483648 ≤ v)), 0, []⟩ nilS nilS) rfl rfl Kf.out (by kernel_rfl) (Nat.le_of_ble_eq_true rfl) rfl rfl ?_; intro w7_ k_ o_; have q0_ := Aside0.mk (o_.blk Kr.out Nf_r.out.symm); have q1_ := Aside0.mk (k_); have q2_ := Aside0.mk (o_.below V.out Mf.out); clear Kr; clear Kf; clear V; have Kr := q0_; have Kf := q1_; have V := q2_; clear q0_ q1_ q2_; clear k_ o_)
   | (refine gate_conv 87 rfl rfl ?_; refine bytes_ev rfl rfl (l5) rfl Tryd.underlying9 Tryd.underlying35 Tryd.underlying5 HS.out.1 HS.out.2.1 HS.out.2.2 ?_; intro gd cd hg_ hc_ w8_ r_ z_ b_; have Yd_f := Aside0.mk (show gd ≠ gf by rw [hg_]; exact (Nat.ne_of_lt (blk_lt Kf.out)).symm); have Yd_r := Aside0.mk (show gd ≠ gr by rw [hg_]; exact (Nat.ne_of_lt (blk_lt Kr.out)).symm); have Md := Aside0.mk (show w.heap.size ≤ gd by rw [hg_]; exact V.out.size); have Cd := Aside0.mk hc_; have q0_ := Aside0.mk (blk_below Kf.out b_); have q1_ := Aside0.mk (blk_below Kr.out b_); have q2_ := Aside0.mk (V.out.trans (b_.mono V.out.size)); clear Kf; clear Kr; clear V; have Kf := q0_; have Kr := q1_; have V := q2_; clear q0_ q1_ q2_; have Rd := Aside0.mk r_; clear hg_ hc_ r_ z_ b_)
   | (refine gate_stored (t := 35) (p := .tmp 88) rfl ?_; refine store_ev rfl rfl rfl (g := gf) (k := 3) (u := (.slice (some ⟨gd, 0, none⟩) (l5).length cd)) (cs' := frC ⟨2, fl, st, l5, pad, 0, (v % 2147483648), wt, (decide (2147483648 ≤ v)), 0, []⟩ (.slice (some ⟨gd, 0, none⟩) (l5).length cd) nilS) rfl rfl Kf.out (by kernel_rfl) (Nat.le_of_ble_eq_true rfl) rfl rfl ?_; intro w9_ k_ o_; have q0_ := Aside0.mk (o_.blk Kr.out Nf_r.out.symm); have q1_ := Aside0.mk (k_); have q2_ := Aside0.mk (o_.reads Rd.out (at_only Yd_f.out)); have q3_ := Aside0.mk (o_.below V.out Mf.out); clear Kr; clear Kf; clear Rd; clear V; have Kr := q0_; have Kf := q1_; have Rd := q2_; have V := q3_; clear q0_ q1_ q2_ q3_; clear k_ o_)
   | (refine gate_load (t := 38) 89 rfl rfl ?_; refine load_ev rfl rfl rfl Kf.out Tryd.underlying38 rfl (by kernel_rfl) ?_)
   | (refine gate_stored (t := 38) (p := .tmp 4) rfl ?_; refine store_ev rfl rfl rfl (g := gr) (k := 0) (u := (.agg (frC ⟨2, fl, st, l5, pad, 0, (v % 2147483648), wt, (decide (2147483648 ≤ v)), 0, []⟩ (.slice (some ⟨gd, 0, none⟩) (l5).length cd) nilS))) (cs' := frC ⟨2, fl, st, l5, pad, 0, (v % 2147483648), wt, (decide (2147483648 ≤ v)), 0, []⟩ (.slice (some ⟨gd, 0, none⟩) (l5).length cd) nilS) rfl rfl Kr.out (by kernel_rfl) (Nat.le_of_ble_eq_true rfl) rfl rfl ?_; intro w10_ k_ o_; have q0_ := Aside0.mk (o_.blk Kf.out Nf_r.out); have q1_ := Aside0.mk (k_); have q2_ := Aside0.mk (o_.reads Rd.out (at_only Yd_r.out)); have q3_ := Aside0.mk (o_.below V.out Mr.out); clear Kf; clear Kr; clear Rd; clear V; have Kf := q0_; have Kr := q1_; have Rd := q2_; have V := q3_; clear q0_ q1_ q2_ q3_; clear k_ o_))
  refine bodyPost_ret (results_cell_row rfl _ _ gr 38 _ (0, 0) _ rfl Kr.out Tryd.underlying38 rfl (by kernel_rfl)) rfl (HP.out _ _ ?_)
  rw [HE.out]
  exact ⟨⟨_, rfl, some ⟨gd, 0, none⟩, cd, none, 0, rfl, ⟨Rd.out, Cd.out, fun a h => by obtain rfl := Option.some.inj h; exact Md.out⟩, no_sets _, Nat.le_refl _, fun a h => by cases h⟩, V.out⟩
set_option maxHeartbeats 4000000 in
set_option maxRecDepth 100000 in
theorem parts_3 (w : World) (fl st pad : Int) (l : List Int) (h0 : 0 ≤ fl) (h1 : fl ≤ 255) (hby : Byte8 l) (hl : l.length ≤ 100000) (hn : l.length = 4) :
  Calls Tryd.prog 58 #[.agg (frC (fr0 3 fl st pad) nilS nilS), .string (strOfNums l)] w (PartsPost w (partsF (fr0 3 fl st pad) l)) := by
 refine of_post0 fun R hRR => ?_
 have HP := Lib.hid hRR
 have HL := Lib.hid (And.intro h0 h1)
 clear hRR h0 h1
 have HE := Lib.hid (show partsF (fr0 3 fl st pad) l = ⟨3, fl, st, [], pad, valL l, 0, 0, false, 0, []⟩ from rfl)
 have HB := Lib.hid (show leansB 3 fl = false from rfl)
 have HS := Lib.hid (And.intro (show (⟨#[]⟩ : ByteArray).size = ([] : List Int).length from rfl) (And.intro (show bytesOf (⟨#[]⟩ : ByteArray) = [] from rfl) (show ([] : List Int).length ≤ 9223372036854775807 by decide)))
 have HV := Lib.hid (fun W => value_ref_calls W l (by omega) hby)
 have HV0 := Lib.hid (valL_bound hby).1
 clear hby hl hn
 generalize strOfNums l = s at HV ⊢
 generalize valL l = v at HE HV HV0
 have V := Aside0.mk (Below.refl w.heap.size w)
 go_enter Tryd.func58, Tryd.ntmps58
 go_wp2_with (first
  | (refine gate_box 2 rfl rfl ?_; refine make_ev rfl (cs := frC ⟨3, fl, st, [], pad, 0, 0, 0, false, 0, []⟩ nilS nilS) (t := 38) (by first | (go_simp; done) | (go_simp; rfl)) ?_; intro gf hg_ w0_ k_ z_ b_; have Mf := Aside0.mk (show w.heap.size ≤ gf by rw [hg_]; exact V.out.size); have q0_ := Aside0.mk (V.out.trans (b_.mono V.out.size)); clear V; have V := q0_; clear q0_; have Kf := Aside0.mk k_; clear hg_ k_ z_ b_)
  | (refine gate_alloc 4 rfl rfl ?_; refine make_ev rfl (cs := frC ⟨0, 0, 0, [], 0, 0, 0, 0, false, 0, []⟩ nilS nilS) (t := 38) (by first | (go_simp; done) | (go_simp; rfl)) ?_; intro gr hg_ w1_ k_ z_ b_; have Nf_r := Aside0.mk (show gf ≠ gr by rw [hg_]; exact Nat.ne_of_lt (blk_lt Kf.out)); have Mr := Aside0.mk (show w.heap.size ≤ gr by rw [hg_]; exact V.out.size); have q0_ := Aside0.mk (blk_below Kf.out b_); have q1_ := Aside0.mk (V.out.trans (b_.mono V.out.size)); clear Kf; clear V; have Kf := q0_; have V := q1_; clear q0_ q1_; have Kr := Aside0.mk k_; clear hg_ k_ z_ b_)
  | (refine gate_load (t := 38) 7 rfl rfl ?_; refine load_ev rfl rfl rfl Kf.out Tryd.underlying38 rfl (by kernel_rfl) ?_)
  | (go_at_call 51; (with_reducible refine (rleans_calls _ ⟨3, fl, st, [], pad, 0, 0, 0, false, 0, []⟩ nilS nilS HL.out.1 HL.out.2).mono ?_); rintro e_ w2_ ⟨rfl, h_⟩; have b_ := h_; have q0_ := Aside0.mk (blk_below Kf.out b_); have q1_ := Aside0.mk (blk_below Kr.out b_); have q2_ := Aside0.mk (V.out.trans (b_.mono V.out.size)); clear Kf; clear Kr; clear V; have Kf := q0_; have Kr := q1_; have V := q2_; clear q0_ q1_ q2_; clear b_ h_; dsimp only; rw [HB.out])
  | (refine gate_load (t := 5) 24 rfl rfl ?_; refine loadf_ev rfl rfl rfl Kf.out rfl Tryd.underlying5 rfl ?_)
  | (go_at_call 29; (with_reducible refine (HV.out _).mono ?_); rintro e_ w3_ ⟨rfl, h_⟩; have b_ := h_.below; have q0_ := Aside0.mk (blk_below Kf.out b_); have q1_ := Aside0.mk (blk_below Kr.out b_); have q2_ := Aside0.mk (V.out.trans (b_.mono V.out.size)); clear Kf; clear Kr; clear V; have Kf := q0_; have Kr := q1_; have V := q2_; clear q0_ q1_ q2_; clear b_ h_)
  | (refine gate_stored (t := 22) (p := .tmp 29) rfl ?_; refine store_ev rfl rfl rfl (g := gf) (k := 5) (u := (.int .u32 v)) (cs' := frC ⟨3, fl, st, [], pad, v, 0, 0, false, 0, []⟩ nilS nilS) rfl rfl Kf.out (by kernel_rfl) (Nat.le_of_ble_eq_true rfl) rfl rfl ?_; intro w4_ k_ o_; have q0_ := Aside0.mk (o_.blk Kr.out Nf_r.out.symm); have q1_ := Aside0.mk (k_); have q2_ := Aside0.mk (o_.below V.out Mf.out); clear Kr; clear Kf; clear V; have Kr := q0_; have Kf := q1_; have V := q2_; clear q0_ q1_ q2_; clear k_ o_)
  | (refine gate_conv 87 rfl rfl ?_; refine bytes_ev rfl rfl (([] : List Int)) rfl Tryd.underlying9 Tryd.underlying35 Tryd.underlying5 HS.out.1 HS.out.2.1 HS.out.2.2 ?_; intro gd cd hg_ hc_ w5_ r_ z_ b_; have Yd_f := Aside0.mk (show gd ≠ gf by rw [hg_]; exact (Nat.ne_of_lt (blk_lt Kf.out)).symm); have Yd_r := Aside0.mk (show gd ≠ gr by rw [hg_]; exact (Nat.ne_of_lt (blk_lt Kr.out)).symm); have Md := Aside0.mk (show w.heap.size ≤ gd by rw [hg_]; exact V.out.size); have Cd := Aside0.mk hc_; have q0_ := Aside0.mk (blk_below Kf.out b_); have q1_ := Aside0.mk (blk_below Kr.out b_); have q2_ := Aside0.mk (V.out.trans (b_.mono V.out.size)); clear Kf; clear Kr; clear V; have Kf := q0_; have Kr := q1_; have V := q2_; clear q0_ q1_ q2_; have Rd := Aside0.mk r_; clear hg_ hc_ r_ z_ b_)
  | (refine gate_stored (t := 35) (p := .tmp 88) rfl ?_; refine store_ev rfl rfl rfl (g := gf) (k := 3) (u := (.slice (some ⟨gd, 0, none⟩) (([] : List Int)).length cd)) (cs' := frC ⟨3, fl, st, ([] : List Int), pad, v, 0, 0, false, 0, []⟩ (.slice (some ⟨gd, 0, none⟩) (([] : List Int)).length cd) nilS) rfl rfl Kf.out (by kernel_rfl) (Nat.le_of_ble_eq_true rfl) rfl rfl ?_; intro w6_ k_ o_; have q0_ := Aside0.mk (o_.blk Kr.out Nf_r.out.symm); have q1_ := Aside0.mk (k_); have q2_ := Aside0.mk (o_.reads Rd.out (at_only Yd_f.out)); have q3_ := Aside0.mk (o_.below V.out Mf.out); clear Kr; clear Kf; clear Rd; clear V; have Kr := q0_; have Kf := q1_; have Rd := q2_; have V := q3_; clear q0_ q1_ q2_ q3_; clear k_ o_)
  | (refine gate_load (t := 38) 89 rfl rfl ?_; refine load_ev rfl rfl rfl Kf.out Tryd.underlying38 rfl (by kernel_rfl) ?_)
  | (refine gate_stored (t := 38) (p := .tmp 4) rfl ?_; refine store_ev rfl rfl rfl (g := gr) (k := 0) (u := (.agg (frC ⟨3, fl, st, ([] : List Int), pad, v, 0, 0, false, 0, []⟩ (.slice (some ⟨gd, 0, none⟩) (([] : List Int)).length cd) nilS))) (cs' := frC ⟨3, fl, st, ([] : List Int), pad, v, 0, 0, false, 0, []⟩ (.slice (some ⟨gd, 0, none⟩) (([] : List Int)).length cd) nilS) rfl rfl Kr.out (by kernel_rfl) (Nat.le_of_ble_eq_true rfl) rfl rfl ?_; intro w7_ k_ o_; have q0_ := Aside0.mk (o_.blk Kf.out Nf_r.out); have q1_ := Aside0.mk (k_); have q2_ := Aside0.mk (o_.reads Rd.out (at_only Yd_r.out)); have q3_ := Aside0.mk (o_.below V.out Mr.out); clear Kf; clear Kr; clear Rd; clear V; have Kf := q0_; have Kr := q1_; have Rd := q2_; have V := q3_; clear q0_ q1_ q2_ q3_; clear k_ o_))
 refine bodyPost_ret (results_cell_row rfl _ _ gr 38 _ (0, 0) _ rfl Kr.out Tryd.underlying38 rfl (by kernel_rfl)) rfl (HP.out _ _ ?_)
 rw [HE.out]
 exact ⟨⟨_, rfl, some ⟨gd, 0, none⟩, cd, none, 0, rfl, ⟨Rd.out, Cd.out, fun a h => by obtain rfl := Option.some.inj h; exact Md.out⟩, no_sets _, Nat.le_refl _, fun a h => by cases h⟩, V.out⟩
set_option maxHeartbeats 4000000 in
set_option maxRecDepth 100000 in
theorem parts_8 (w : World) (fl st pad : Int) (l : List Int) (h0 : 0 ≤ fl) (h1 : fl ≤ 255) (hby : Byte8 l) (hl : l.length ≤ 100000) (hn : l.length = 4) :
  Calls Tryd.prog 58 #[.agg (frC (fr0 8 fl st pad) nilS nilS), .string (strOfNums l)] w (PartsPost w (partsF (fr0 8 fl st pad) l)) := by
 refine of_post0 fun R hRR => ?_
 have HP := Lib.hid hRR
 have HL := Lib.hid (And.intro h0 h1)
 clear hRR h0 h1
 have HE := Lib.hid (show partsF (fr0 8 fl st pad) l = ⟨8, fl, st, [], pad, 0, 0, 0, false, valL l % 2147483648, []⟩ from rfl)
 have HB := Lib.hid (show leansB 8 fl = false from rfl)
 have HS := Lib.hid (And.intro (show (⟨#[]⟩ : ByteArray).size = ([] : List Int).length from rfl) (And.intro (show bytesOf (⟨#[]⟩ : ByteArray) = [] from rfl) (show ([] : List Int).length ≤ 9223372036854775807 by decide)))
 have HV := Lib.hid (fun W => value_ref_calls W l (by omega) hby)
 have HV0 := Lib.hid (valL_bound hby).1
 clear hby hl hn
 generalize strOfNums l = s at HV ⊢
 generalize valL l = v at HE HV HV0
 have V := Aside0.mk (Below.refl w.heap.size w)
 go_enter Tryd.func58, Tryd.ntmps58
 go_wp2_with (first
  | (refine gate_box 2 rfl rfl ?_; refine make_ev rfl (cs := frC ⟨8, fl, st, [], pad, 0, 0, 0, false, 0, []⟩ nilS nilS) (t := 38) (by first | (go_simp; done) | (go_simp; rfl)) ?_; intro gf hg_ w0_ k_ z_ b_; have Mf := Aside0.mk (show w.heap.size ≤ gf by rw [hg_]; exact V.out.size); have q0_ := Aside0.mk (V.out.trans (b_.mono V.out.size)); clear V; have V := q0_; clear q0_; have Kf := Aside0.mk k_; clear hg_ k_ z_ b_)
  | (refine gate_alloc 4 rfl rfl ?_; refine make_ev rfl (cs := frC ⟨0, 0, 0, [], 0, 0, 0, 0, false, 0, []⟩ nilS nilS) (t := 38) (by first | (go_simp; done) | (go_simp; rfl)) ?_; intro gr hg_ w1_ k_ z_ b_; have Nf_r := Aside0.mk (show gf ≠ gr by rw [hg_]; exact Nat.ne_of_lt (blk_lt Kf.out)); have Mr := Aside0.mk (show w.heap.size ≤ gr by rw [hg_]; exact V.out.size); have q0_ := Aside0.mk (blk_below Kf.out b_); have q1_ := Aside0.mk (V.out.trans (b_.mono V.out.size)); clear Kf; clear V; have Kf := q0_; have V := q1_; clear q0_ q1_; have Kr := Aside0.mk k_; clear hg_ k_ z_ b_)
  | (refine gate_load (t := 38) 7 rfl rfl ?_; refine load_ev rfl rfl rfl Kf.out Tryd.underlying38 rfl (by kernel_rfl) ?_)
  | (go_at_call 51; (with_reducible refine (rleans_calls _ ⟨8, fl, st, [], pad, 0, 0, 0, false, 0, []⟩ nilS nilS HL.out.1 HL.out.2).mono ?_); rintro e_ w2_ ⟨rfl, h_⟩; have b_ := h_; have q0_ := Aside0.mk (blk_below Kf.out b_); have q1_ := Aside0.mk (blk_below Kr.out b_); have q2_ := Aside0.mk (V.out.trans (b_.mono V.out.size)); clear Kf; clear Kr; clear V; have Kf := q0_; have Kr := q1_; have V := q2_; clear q0_ q1_ q2_; clear b_ h_; dsimp only; rw [HB.out])
  | (refine gate_load (t := 5) 24 rfl rfl ?_; refine loadf_ev rfl rfl rfl Kf.out rfl Tryd.underlying5 rfl ?_)
  | (go_at_call 29; (with_reducible refine (HV.out _).mono ?_); rintro e_ w3_ ⟨rfl, h_⟩; have b_ := h_.below; have q0_ := Aside0.mk (blk_below Kf.out b_); have q1_ := Aside0.mk (blk_below Kr.out b_); have q2_ := Aside0.mk (V.out.trans (b_.mono V.out.size)); clear Kf; clear Kr; clear V; have Kf := q0_; have Kr := q1_; have V := q2_; clear q0_ q1_ q2_; clear b_ h_)
  | (go_at_call 55; (with_reducible refine (rlow_calls _ v HV0.out).mono ?_); rintro e_ w4_ ⟨rfl, h_⟩; have b_ := h_.below; have q0_ := Aside0.mk (blk_below Kf.out b_); have q1_ := Aside0.mk (blk_below Kr.out b_); have q2_ := Aside0.mk (V.out.trans (b_.mono V.out.size)); clear Kf; clear Kr; clear V; have Kf := q0_; have Kr := q1_; have V := q2_; clear q0_ q1_ q2_; clear b_ h_)
  | (refine gate_stored (t := 22) (p := .tmp 85) rfl ?_; refine store_ev rfl rfl rfl (g := gf) (k := 9) (u := (.int .u32 (v % 2147483648))) (cs' := frC ⟨8, fl, st, [], pad, 0, 0, 0, false, (v % 2147483648), []⟩ nilS nilS) rfl rfl Kf.out (by kernel_rfl) (Nat.le_of_ble_eq_true rfl) rfl rfl ?_; intro w5_ k_ o_; have q0_ := Aside0.mk (o_.blk Kr.out Nf_r.out.symm); have q1_ := Aside0.mk (k_); have q2_ := Aside0.mk (o_.below V.out Mf.out); clear Kr; clear Kf; clear V; have Kr := q0_; have Kf := q1_; have V := q2_; clear q0_ q1_ q2_; clear k_ o_)
  | (refine gate_conv 87 rfl rfl ?_; refine bytes_ev rfl rfl (([] : List Int)) rfl Tryd.underlying9 Tryd.underlying35 Tryd.underlying5 HS.out.1 HS.out.2.1 HS.out.2.2 ?_; intro gd cd hg_ hc_ w6_ r_ z_ b_; have Yd_f := Aside0.mk (show gd ≠ gf by rw [hg_]; exact (Nat.ne_of_lt (blk_lt Kf.out)).symm); have Yd_r := Aside0.mk (show gd ≠ gr by rw [hg_]; exact (Nat.ne_of_lt (blk_lt Kr.out)).symm); have Md := Aside0.mk (show w.heap.size ≤ gd by rw [hg_]; exact V.out.size); have Cd := Aside0.mk hc_; have q0_ := Aside0.mk (blk_below Kf.out b_); have q1_ := Aside0.mk (blk_below Kr.out b_); have q2_ := Aside0.mk (V.out.trans (b_.mono V.out.size)); clear Kf; clear Kr; clear V; have Kf := q0_; have Kr := q1_; have V := q2_; clear q0_ q1_ q2_; have Rd := Aside0.mk r_; clear hg_ hc_ r_ z_ b_)
  | (refine gate_stored (t := 35) (p := .tmp 88) rfl ?_; refine store_ev rfl rfl rfl (g := gf) (k := 3) (u := (.slice (some ⟨gd, 0, none⟩) (([] : List Int)).length cd)) (cs' := frC ⟨8, fl, st, ([] : List Int), pad, 0, 0, 0, false, (v % 2147483648), []⟩ (.slice (some ⟨gd, 0, none⟩) (([] : List Int)).length cd) nilS) rfl rfl Kf.out (by kernel_rfl) (Nat.le_of_ble_eq_true rfl) rfl rfl ?_; intro w7_ k_ o_; have q0_ := Aside0.mk (o_.blk Kr.out Nf_r.out.symm); have q1_ := Aside0.mk (k_); have q2_ := Aside0.mk (o_.reads Rd.out (at_only Yd_f.out)); have q3_ := Aside0.mk (o_.below V.out Mf.out); clear Kr; clear Kf; clear Rd; clear V; have Kr := q0_; have Kf := q1_; have Rd := q2_; have V := q3_; clear q0_ q1_ q2_ q3_; clear k_ o_)
  | (refine gate_load (t := 38) 89 rfl rfl ?_; refine load_ev rfl rfl rfl Kf.out Tryd.underlying38 rfl (by kernel_rfl) ?_)
  | (refine gate_stored (t := 38) (p := .tmp 4) rfl ?_; refine store_ev rfl rfl rfl (g := gr) (k := 0) (u := (.agg (frC ⟨8, fl, st, ([] : List Int), pad, 0, 0, 0, false, (v % 2147483648), []⟩ (.slice (some ⟨gd, 0, none⟩) (([] : List Int)).length cd) nilS))) (cs' := frC ⟨8, fl, st, ([] : List Int), pad, 0, 0, 0, false, (v % 2147483648), []⟩ (.slice (some ⟨gd, 0, none⟩) (([] : List Int)).length cd) nilS) rfl rfl Kr.out (by kernel_rfl) (Nat.le_of_ble_eq_true rfl) rfl rfl ?_; intro w8_ k_ o_; have q0_ := Aside0.mk (o_.blk Kf.out Nf_r.out); have q1_ := Aside0.mk (k_); have q2_ := Aside0.mk (o_.reads Rd.out (at_only Yd_r.out)); have q3_ := Aside0.mk (o_.below V.out Mr.out); clear Kf; clear Kr; clear Rd; clear V; have Kf := q0_; have Kr := q1_; have Rd := q2_; have V := q3_; clear q0_ q1_ q2_ q3_; clear k_ o_))
 refine bodyPost_ret (results_cell_row rfl _ _ gr 38 _ (0, 0) _ rfl Kr.out Tryd.underlying38 rfl (by kernel_rfl)) rfl (HP.out _ _ ?_)
 rw [HE.out]
 exact ⟨⟨_, rfl, some ⟨gd, 0, none⟩, cd, none, 0, rfl, ⟨Rd.out, Cd.out, fun a h => by obtain rfl := Option.some.inj h; exact Md.out⟩, no_sets _, Nat.le_refl _, fun a h => by cases h⟩, V.out⟩
set_option maxHeartbeats 4000000 in
set_option maxRecDepth 100000 in
theorem parts_5 (w : World) (fl st pad : Int) (l : List Int) (h0 : 0 ≤ fl) (h1 : fl ≤ 255) (hby : Byte8 l) (hl : l.length ≤ 100000) (hn : 4 ≤ l.length) :
  Calls Tryd.prog 58 #[.agg (frC (fr0 5 fl st pad) nilS nilS), .string (strOfNums l)] w (PartsPost w (partsF (fr0 5 fl st pad) l)) := by
 refine of_post0 fun R hRR => ?_
 have HP := Lib.hid hRR
 have HL := Lib.hid (And.intro h0 h1)
 clear hRR h0 h1
 have HE := Lib.hid (show partsF (fr0 5 fl st pad) l = ⟨5, fl, st, l.drop 4, pad, 0, valL (l.take 4) % 2147483648, 0, false, 0, []⟩ from rfl)
 have HB := Lib.hid (show leansB 5 fl = false from rfl)
 have hl4 : (l.take 4).length = 4 := by rw [List.length_take]; omega
 have hb4 : Byte8 (l.take 4) := fun x hx => hby x (List.mem_of_mem_take hx)
 have hb5 : Byte8 (l.drop 4) := fun x hx => hby x (List.mem_of_mem_drop hx)
 have HS := Lib.hid (And.intro (str_size (l.drop 4)) (And.intro (bytes_str hb5) (show (l.drop 4).length ≤ 9223372036854775807 by rw [List.length_drop]; omega)))
 have f4 := fun W => run_to_str l 4 (by decide) (by omega) W
 have f5 := fun W => run_from_str l 4 (by decide) (by omega) W
 have HV := Lib.hid (fun W => value_ref_calls W (l.take 4) (by omega) hb4)
 have HV0 := Lib.hid (valL_bound hb4).1
 rw [show (4 : Int).toNat = 4 from rfl] at f4 f5
 clear hby hl hn hl4 hb4 hb5
 generalize strOfNums l = s at f4 f5 ⊢
 generalize valL (l.take 4) = v at HE HV HV0
 generalize strOfNums (l.take 4) = s4 at f4 HV
 generalize l.drop 4 = l5 at HE HS f5
 generalize strOfNums l5 = s5 at HS f5
 have V := Aside0.mk (Below.refl w.heap.size w)
 go_enter Tryd.func58, Tryd.ntmps58
 go_wp2_with (first
  | (refine gate_box 2 rfl rfl ?_; refine make_ev rfl (cs := frC ⟨5, fl, st, [], pad, 0, 0, 0, false, 0, []⟩ nilS nilS) (t := 38) (by first | (go_simp; done) | (go_simp; rfl)) ?_; intro gf hg_ w0_ k_ z_ b_; have Mf := Aside0.mk (show w.heap.size ≤ gf by rw [hg_]; exact V.out.size); have q0_ := Aside0.mk (V.out.trans (b_.mono V.out.size)); clear V; have V := q0_; clear q0_; have Kf := Aside0.mk k_; clear hg_ k_ z_ b_)
  | (refine gate_alloc 4 rfl rfl ?_; refine make_ev rfl (cs := frC ⟨0, 0, 0, [], 0, 0, 0, 0, false, 0, []⟩ nilS nilS) (t := 38) (by first | (go_simp; done) | (go_simp; rfl)) ?_; intro gr hg_ w1_ k_ z_ b_; have Nf_r := Aside0.mk (show gf ≠ gr by rw [hg_]; exact Nat.ne_of_lt (blk_lt Kf.out)); have Mr := Aside0.mk (show w.heap.size ≤ gr by rw [hg_]; exact V.out.size); have q0_ := Aside0.mk (blk_below Kf.out b_); have q1_ := Aside0.mk (V.out.trans (b_.mono V.out.size)); clear Kf; clear V; have Kf := q0_; have V := q1_; clear q0_ q1_; have Kr := Aside0.mk k_; clear hg_ k_ z_ b_)
  | (refine gate_load (t := 38) 7 rfl rfl ?_; refine load_ev rfl rfl rfl Kf.out Tryd.underlying38 rfl (by kernel_rfl) ?_)
  | (go_at_call 51; (with_reducible refine (rleans_calls _ ⟨5, fl, st, [], pad, 0, 0, 0, false, 0, []⟩ nilS nilS HL.out.1 HL.out.2).mono ?_); rintro e_ w2_ ⟨rfl, h_⟩; have b_ := h_; have q0_ := Aside0.mk (blk_below Kf.out b_); have q1_ := Aside0.mk (blk_below Kr.out b_); have q2_ := Aside0.mk (V.out.trans (b_.mono V.out.size)); clear Kf; clear Kr; clear V; have Kf := q0_; have Kr := q1_; have V := q2_; clear q0_ q1_ q2_; clear b_ h_; dsimp only; rw [HB.out])
  | (refine gate_load (t := 5) 24 rfl rfl ?_; refine loadf_ev rfl rfl rfl Kf.out rfl Tryd.underlying5 rfl ?_)
  | (go_at_call 29; (with_reducible refine (HV.out _).mono ?_); rintro e_ w3_ ⟨rfl, h_⟩; have b_ := h_.below; have q0_ := Aside0.mk (blk_below Kf.out b_); have q1_ := Aside0.mk (blk_below Kr.out b_); have q2_ := Aside0.mk (V.out.trans (b_.mono V.out.size)); clear Kf; clear Kr; clear V; have Kf := q0_; have Kr := q1_; have V := q2_; clear q0_ q1_ q2_; clear b_ h_)
  | (go_at_call 55; (with_reducible refine (rlow_calls _ v HV0.out).mono ?_); rintro e_ w4_ ⟨rfl, h_⟩; have b_ := h_.below; have q0_ := Aside0.mk (blk_below Kf.out b_); have q1_ := Aside0.mk (blk_below Kr.out b_); have q2_ := Aside0.mk (V.out.trans (b_.mono V.out.size)); clear Kf; clear Kr; clear V; have Kf := q0_; have Kr := q1_; have V := q2_; clear q0_ q1_ q2_; clear b_ h_)
  | (refine gate_stored (t := 22) (p := .tmp 64) rfl ?_; refine store_ev rfl rfl rfl (g := gf) (k := 6) (u := (.int .u32 (v % 2147483648))) (cs' := frC ⟨5, fl, st, [], pad, 0, (v % 2147483648), 0, false, 0, []⟩ nilS nilS) rfl rfl Kf.out (by kernel_rfl) (Nat.le_of_ble_eq_true rfl) rfl rfl ?_; intro w5_ k_ o_; have q0_ := Aside0.mk (o_.blk Kr.out Nf_r.out.symm); have q1_ := Aside0.mk (k_); have q2_ := Aside0.mk (o_.below V.out Mf.out); clear Kr; clear Kf; clear V; have Kr := q0_; have Kf := q1_; have V := q2_; clear q0_ q1_ q2_; clear k_ o_)
  | (refine gate_conv 87 rfl rfl ?_; refine bytes_ev rfl rfl (l5) rfl Tryd.underlying9 Tryd.underlying35 Tryd.underlying5 HS.out.1 HS.out.2.1 HS.out.2.2 ?_; intro gd cd hg_ hc_ w6_ r_ z_ b_; have Yd_f := Aside0.mk (show gd ≠ gf by rw [hg_]; exact (Nat.ne_of_lt (blk_lt Kf.out)).symm); have Yd_r := Aside0.mk (show gd ≠ gr by rw [hg_]; exact (Nat.ne_of_lt (blk_lt Kr.out)).symm); have Md := Aside0.mk (show w.heap.size ≤ gd by rw [hg_]; exact V.out.size); have Cd := Aside0.mk hc_; have q0_ := Aside0.mk (blk_below Kf.out b_); have q1_ := Aside0.mk (blk_below Kr.out b_); have q2_ := Aside0.mk (V.out.trans (b_.mono V.out.size)); clear Kf; clear Kr; clear V; have Kf := q0_; have Kr := q1_; have V := q2_; clear q0_ q1_ q2_; have Rd := Aside0.mk r_; clear hg_ hc_ r_ z_ b_)
  | (refine gate_stored (t := 35) (p := .tmp 88) rfl ?_; refine store_ev rfl rfl rfl (g := gf) (k := 3) (u := (.slice (some ⟨gd, 0, none⟩) (l5).length cd)) (cs' := frC ⟨5, fl, st, l5, pad, 0, (v % 2147483648), 0, false, 0, []⟩ (.slice (some ⟨gd, 0, none⟩) (l5).length cd) nilS) rfl rfl Kf.out (by kernel_rfl) (Nat.le_of_ble_eq_true rfl) rfl rfl ?_; intro w7_ k_ o_; have q0_ := Aside0.mk (o_.blk Kr.out Nf_r.out.symm); have q1_ := Aside0.mk (k_); have q2_ := Aside0.mk (o_.reads Rd.out (at_only Yd_f.out)); have q3_ := Aside0.mk (o_.below V.out Mf.out); clear Kr; clear Kf; clear Rd; clear V; have Kr := q0_; have Kf := q1_; have Rd := q2_; have V := q3_; clear q0_ q1_ q2_ q3_; clear k_ o_)
  | (refine gate_load (t := 38) 89 rfl rfl ?_; refine load_ev rfl rfl rfl Kf.out Tryd.underlying38 rfl (by kernel_rfl) ?_)
  | (refine gate_stored (t := 38) (p := .tmp 4) rfl ?_; refine store_ev rfl rfl rfl (g := gr) (k := 0) (u := (.agg (frC ⟨5, fl, st, l5, pad, 0, (v % 2147483648), 0, false, 0, []⟩ (.slice (some ⟨gd, 0, none⟩) (l5).length cd) nilS))) (cs' := frC ⟨5, fl, st, l5, pad, 0, (v % 2147483648), 0, false, 0, []⟩ (.slice (some ⟨gd, 0, none⟩) (l5).length cd) nilS) rfl rfl Kr.out (by kernel_rfl) (Nat.le_of_ble_eq_true rfl) rfl rfl ?_; intro w8_ k_ o_; have q0_ := Aside0.mk (o_.blk Kf.out Nf_r.out); have q1_ := Aside0.mk (k_); have q2_ := Aside0.mk (o_.reads Rd.out (at_only Yd_r.out)); have q3_ := Aside0.mk (o_.below V.out Mr.out); clear Kf; clear Kr; clear Rd; clear V; have Kf := q0_; have Kr := q1_; have Rd := q2_; have V := q3_; clear q0_ q1_ q2_ q3_; clear k_ o_))
 refine bodyPost_ret (results_cell_row rfl _ _ gr 38 _ (0, 0) _ rfl Kr.out Tryd.underlying38 rfl (by kernel_rfl)) rfl (HP.out _ _ ?_)
 rw [HE.out]
 exact ⟨⟨_, rfl, some ⟨gd, 0, none⟩, cd, none, 0, rfl, ⟨Rd.out, Cd.out, fun a h => by obtain rfl := Option.some.inj h; exact Md.out⟩, no_sets _, Nat.le_refl _, fun a h => by cases h⟩, V.out⟩
set_option maxHeartbeats 4000000 in
set_option maxRecDepth 100000 in
theorem parts_7 (w : World) (fl st pad : Int) (l : List Int) (h0 : 0 ≤ fl) (h1 : fl ≤ 255) (hby : Byte8 l) (hl : l.length ≤ 100000) (hn : 8 ≤ l.length) :
  Calls Tryd.prog 58 #[.agg (frC (fr0 7 fl st pad) nilS nilS), .string (strOfNums l)] w (PartsPost w (partsF (fr0 7 fl st pad) l)) := by
 refine of_post0 fun R hRR => ?_
 have HP := Lib.hid hRR
 have HL := Lib.hid (And.intro h0 h1)
 clear hRR h0 h1
 have HE := Lib.hid (show partsF (fr0 7 fl st pad) l = ⟨7, fl, st, l.drop 8, pad, valL ((l.drop 4).take 4), valL (l.take 4) % 2147483648, 0, false, 0, []⟩ from rfl)
 have HB := Lib.hid (show leansB 7 fl = false from rfl)
 have hl4 : (l.take 4).length = 4 := by rw [List.length_take]; omega
 have hb4 : Byte8 (l.take 4) := fun x hx => hby x (List.mem_of_mem_take hx)
 have hl8 : ((l.take 8).drop 4).length = 4 := by rw [List.length_drop, List.length_take]; omega
 have hb8 : Byte8 ((l.take 8).drop 4) := fun x hx => hby x (List.mem_of_mem_take (List.mem_of_mem_drop hx))
 have hb5 : Byte8 (l.drop 8) := fun x hx => hby x (List.mem_of_mem_drop hx)
 have HS := Lib.hid (And.intro (str_size (l.drop 8)) (And.intro (bytes_str hb5) (show (l.drop 8).length ≤ 9223372036854775807 by rw [List.length_drop]; omega)))
 have f4 := fun W => run_to_str l 4 (by decide) (by omega) W
 have f8 := fun W => run_cut_str l 4 8 (by decide) (by decide) (by omega) W
 have f5 := fun W => run_from_str l 8 (by decide) (by omega) W
 have HV := Lib.hid (fun W => value_ref_calls W (l.take 4) (by omega) hb4)
 have HV8 := Lib.hid (fun W => value_ref_calls W ((l.take 8).drop 4) (by omega) hb8)
 have HV0 := Lib.hid (valL_bound hb4).1
 have e84 : (l.drop 4).take 4 = (l.take 8).drop 4 := by rw [List.drop_take]
 rw [e84] at HE
 rw [show (4 : Int).toNat = 4 from rfl] at f4 f8
 rw [show (8 : Int).toNat = 8 from rfl] at f5 f8
 clear hby hl hn hl4 hb4 hb5 hl8 hb8 e84
 generalize strOfNums l = s at f4 f5 f8 ⊢
 generalize valL (l.take 4) = v at HE HV HV0
 generalize valL ((l.take 8).drop 4) = cd0 at HE HV8
 generalize strOfNums (l.take 4) = s4 at f4 HV
 generalize strOfNums ((l.take 8).drop 4) = s8 at f8 HV8
 generalize l.drop 8 = l5 at HE HS f5
 generalize strOfNums l5 = s5 at HS f5
 have V := Aside0.mk (Below.refl w.heap.size w)
 go_enter Tryd.func58, Tryd.ntmps58
 go_wp2_with (first
  | (refine gate_box 2 rfl rfl ?_; refine make_ev rfl (cs := frC ⟨7, fl, st, [], pad, 0, 0, 0, false, 0, []⟩ nilS nilS) (t := 38) (by first | (go_simp; done) | (go_simp; rfl)) ?_; intro gf hg_ w0_ k_ z_ b_; have Mf := Aside0.mk (show w.heap.size ≤ gf by rw [hg_]; exact V.out.size); have q0_ := Aside0.mk (V.out.trans (b_.mono V.out.size)); clear V; have V := q0_; clear q0_; have Kf := Aside0.mk k_; clear hg_ k_ z_ b_)
  | (refine gate_alloc 4 rfl rfl ?_; refine make_ev rfl (cs := frC ⟨0, 0, 0, [], 0, 0, 0, 0, false, 0, []⟩ nilS nilS) (t := 38) (by first | (go_simp; done) | (go_simp; rfl)) ?_; intro gr hg_ w1_ k_ z_ b_; have Nf_r := Aside0.mk (show gf ≠ gr by rw [hg_]; exact Nat.ne_of_lt (blk_lt Kf.out)); have Mr := Aside0.mk (show w.heap.size ≤ gr by rw [hg_]; exact V.out.size); have q0_ := Aside0.mk (blk_below Kf.out b_); have q1_ := Aside0.mk (V.out.trans (b_.mono V.out.size)); clear Kf; clear V; have Kf := q0_; have V := q1_; clear q0_ q1_; have Kr := Aside0.mk k_; clear hg_ k_ z_ b_)
  | (refine gate_load (t := 38) 7 rfl rfl ?_; refine load_ev rfl rfl rfl Kf.out Tryd.underlying38 rfl (by kernel_rfl) ?_)
  | (go_at_call 51; (with_reducible refine (rleans_calls _ ⟨7, fl, st, [], pad, 0, 0, 0, false, 0, []⟩ nilS nilS HL.out.1 HL.out.2).mono ?_); rintro e_ w2_ ⟨rfl, h_⟩; have b_ := h_; have q0_ := Aside0.mk (blk_below Kf.out b_); have q1_ := Aside0.mk (blk_below Kr.out b_); have q2_ := Aside0.mk (V.out.trans (b_.mono V.out.size)); clear Kf; clear Kr; clear V; have Kf := q0_; have Kr := q1_; have V := q2_; clear q0_ q1_ q2_; clear b_ h_; dsimp only; rw [HB.out])
  | (refine gate_load (t := 5) 24 rfl rfl ?_; refine loadf_ev rfl rfl rfl Kf.out rfl Tryd.underlying5 rfl ?_)
  | (go_at_call 29; (with_reducible refine (HV.out _).mono ?_); rintro e_ w3_ ⟨rfl, h_⟩; have b_ := h_.below; have q0_ := Aside0.mk (blk_below Kf.out b_); have q1_ := Aside0.mk (blk_below Kr.out b_); have q2_ := Aside0.mk (V.out.trans (b_.mono V.out.size)); clear Kf; clear Kr; clear V; have Kf := q0_; have Kr := q1_; have V := q2_; clear q0_ q1_ q2_; clear b_ h_)
  | (go_at_call 55; (with_reducible refine (rlow_calls _ v HV0.out).mono ?_); rintro e_ w4_ ⟨rfl, h_⟩; have b_ := h_.below; have q0_ := Aside0.mk (blk_below Kf.out b_); have q1_ := Aside0.mk (blk_below Kr.out b_); have q2_ := Aside0.mk (V.out.trans (b_.mono V.out.size)); clear Kf; clear Kr; clear V; have Kf := q0_; have Kr := q1_; have V := q2_; clear q0_ q1_ q2_; clear b_ h_)
  | (refine gate_stored (t := 22) (p := .tmp 73) rfl ?_; refine store_ev rfl rfl rfl (g := gf) (k := 6) (u := (.int .u32 (v % 2147483648))) (cs' := frC ⟨7, fl, st, [], pad, 0, (v % 2147483648), 0, false, 0, []⟩ nilS nilS) rfl rfl Kf.out (by kernel_rfl) (Nat.le_of_ble_eq_true rfl) rfl rfl ?_; intro w5_ k_ o_; have q0_ := Aside0.mk (o_.blk Kr.out Nf_r.out.symm); have q1_ := Aside0.mk (k_); have q2_ := Aside0.mk (o_.below V.out Mf.out); clear Kr; clear Kf; clear V; have Kr := q0_; have Kf := q1_; have V := q2_; clear q0_ q1_ q2_; clear k_ o_)
  | (go_at_call 29; (with_reducible refine (HV8.out _).mono ?_); rintro e_ w6_ ⟨rfl, h_⟩; have b_ := h_.below; have q0_ := Aside0.mk (blk_below Kf.out b_); have q1_ := Aside0.mk (blk_below Kr.out b_); have q2_ := Aside0.mk (V.out.trans (b_.mono V.out.size)); clear Kf; clear Kr; clear V; have Kf := q0_; have Kr := q1_; have V := q2_; clear q0_ q1_ q2_; clear b_ h_)
  | (refine gate_stored (t := 22) (p := .tmp 77) rfl ?_; refine store_ev rfl rfl rfl (g := gf) (k := 5) (u := (.int .u32 cd0)) (cs' := frC ⟨7, fl, st, [], pad, cd0, (v % 2147483648), 0, false, 0, []⟩ nilS nilS) rfl rfl Kf.out (by kernel_rfl) (Nat.le_of_ble_eq_true rfl) rfl rfl ?_; intro w7_ k_ o_; have q0_ := Aside0.mk (o_.blk Kr.out Nf_r.out.symm); have q1_ := Aside0.mk (k_); have q2_ := Aside0.mk (o_.below V.out Mf.out); clear Kr; clear Kf; clear V; have Kr := q0_; have Kf := q1_; have V := q2_; clear q0_ q1_ q2_; clear k_ o_)
  | (refine gate_conv 87 rfl rfl ?_; refine bytes_ev rfl rfl (l5) rfl Tryd.underlying9 Tryd.underlying35 Tryd.underlying5 HS.out.1 HS.out.2.1 HS.out.2.2 ?_; intro gd cd hg_ hc_ w8_ r_ z_ b_; have Yd_f := Aside0.mk (show gd ≠ gf by rw [hg_]; exact (Nat.ne_of_lt (blk_lt Kf.out)).symm); have Yd_r := Aside0.mk (show gd ≠ gr by rw [hg_]; exact (Nat.ne_of_lt (blk_lt Kr.out)).symm); have Md := Aside0.mk (show w.heap.size ≤ gd by rw [hg_]; exact V.out.size); have Cd := Aside0.mk hc_; have q0_ := Aside0.mk (blk_below Kf.out b_); have q1_ := Aside0.mk (blk_below Kr.out b_); have q2_ := Aside0.mk (V.out.trans (b_.mono V.out.size)); clear Kf; clear Kr; clear V; have Kf := q0_; have Kr := q1_; have V := q2_; clear q0_ q1_ q2_; have Rd := Aside0.mk r_; clear hg_ hc_ r_ z_ b_)
  | (refine gate_stored (t := 35) (p := .tmp 88) rfl ?_; refine store_ev rfl rfl rfl (g := gf) (k := 3) (u := (.slice (some ⟨gd, 0, none⟩) (l5).length cd)) (cs' := frC ⟨7, fl, st, l5, pad, cd0, (v % 2147483648), 0, false, 0, []⟩ (.slice (some ⟨gd, 0, none⟩) (l5).length cd) nilS) rfl rfl Kf.out (by kernel_rfl) (Nat.le_of_ble_eq_true rfl) rfl rfl ?_; intro w9_ k_ o_; have q0_ := Aside0.mk (o_.blk Kr.out Nf_r.out.symm); have q1_ := Aside0.mk (k_); have q2_ := Aside0.mk (o_.reads Rd.out (at_only Yd_f.out)); have q3_ := Aside0.mk (o_.below V.out Mf.out); clear Kr; clear Kf; clear Rd; clear V; have Kr := q0_; have Kf := q1_; have Rd := q2_; have V := q3_; clear q0_ q1_ q2_ q3_; clear k_ o_)
  | (refine gate_load (t := 38) 89 rfl rfl ?_; refine load_ev rfl rfl rfl Kf.out Tryd.underlying38 rfl (by kernel_rfl) ?_)
  | (refine gate_stored (t := 38) (p := .tmp 4) rfl ?_; refine store_ev rfl rfl rfl (g := gr) (k := 0) (u := (.agg (frC ⟨7, fl, st, l5, pad, cd0, (v % 2147483648), 0, false, 0, []⟩ (.slice (some ⟨gd, 0, none⟩) (l5).length cd) nilS))) (cs' := frC ⟨7, fl, st, l5, pad, cd0, (v % 2147483648), 0, false, 0, []⟩ (.slice (some ⟨gd, 0, none⟩) (l5).length cd) nilS) rfl rfl Kr.out (by kernel_rfl) (Nat.le_of_ble_eq_true rfl) rfl rfl ?_; intro w10_ k_ o_; have q0_ := Aside0.mk (o_.blk Kf.out Nf_r.out); have q1_ := Aside0.mk (k_); have q2_ := Aside0.mk (o_.reads Rd.out (at_only Yd_r.out)); have q3_ := Aside0.mk (o_.below V.out Mr.out); clear Kf; clear Kr; clear Rd; clear V; have Kf := q0_; have Kr := q1_; have Rd := q2_; have V := q3_; clear q0_ q1_ q2_ q3_; clear k_ o_))
 refine bodyPost_ret (results_cell_row rfl _ _ gr 38 _ (0, 0) _ rfl Kr.out Tryd.underlying38 rfl (by kernel_rfl)) rfl (HP.out _ _ ?_)
 rw [HE.out]
 exact ⟨⟨_, rfl, some ⟨gd, 0, none⟩, cd, none, 0, rfl, ⟨Rd.out, Cd.out, fun a h => by obtain rfl := Option.some.inj h; exact Md.out⟩, no_sets _, Nat.le_refl _, fun a h => by cases h⟩, V.out⟩
end Go.Proofs.YtjjfkmniffbgkaaDoor
