/- clear on a row of one's own. -/
import Derived.Test.YtodfahcmgmleeaaDoorBlockTakes
import Derived.Lib.SliceRun
import Derived.Lib.LazyBuf
import Derived.Deep.Upon
namespace Go.Proofs.YtodfahcmgmleeaaDoor
set_option linter.unusedVariables false
set_option linter.unusedSimpArgs false
open Go.RowKit Go.Proofs.YtodfahcmgmleeaaDoorW.PrintWords

/-- Is W1 as W but for what a row's block holds? -/
structure Wiped (W W1 : World) (row : Option Nat) : Prop where
  os : W1.os = W.os
  tape : W1.tape = W.tape
  output : W1.output = W.output
  size : W1.heap.size = W.heap.size
  block : ∀ i, i < W.heap.size → some i ≠ row → W1.heap[i]? = W.heap[i]?

theorem size_setCells' (b : Nat) : ∀ (vs : List Value) (o : Nat) (w : World), (w.setCells b o vs).heap.size = w.heap.size
  | [], _, _ => rfl
  | v :: r, o, w => by rw [World.setCells, size_setCells' b r]; simp [World.setCell]
theorem tape_setCells' (b : Nat) : ∀ (vs : List Value) (o : Nat) (w : World), (w.setCells b o vs).tape = w.tape
  | [], _, _ => rfl
  | v :: r, o, w => by rw [World.setCells, tape_setCells' b r]; rfl

theorem clear_own (W : World) (base : Nat) (ty : TypeId) (v : Value) (n : Nat) (xs : List Int) (h : W.ownsRow base 5 1 v n (nums .u8 xs)) :
    ∃ W1, (Builtin.clear_ #[29] ty #[v]).run Tryd.prog W = .ok (.tuple #[]) W1 ∧ Wiped W W1 v.ownBlock := by
  rcases h.2 with ⟨rfl, rfl⟩ | ⟨g, cap, cur, rfl, hb, hh, h1, h2, h3, h4⟩
  · exact ⟨W, by simp [Builtin.clear_, run_underlying Tryd.underlying29], rfl, rfl, rfl, rfl, fun _ _ _ => rfl⟩
  · rcases Nat.eq_zero_or_pos n with h0 | h0
    · subst h0
      exact ⟨W, by simp [Builtin.clear_, run_underlying Tryd.underlying29], rfl, rfl, rfl, rfl, fun _ _ _ => rfl⟩
    · refine ⟨_, Go.Lib.run_clear_slice W 29 5 ty (.int .u8 0) Tryd.underlying29 (fun w => by kernel_rfl) rfl rfl g 0 n cap h0 ?_ ?_, World.os_setCells _ _ _ _, tape_setCells' _ _ _ _, World.output_setCells _ _ _ _, size_setCells' _ _ _ _, fun i hi hne => World.heap_setCells_other W g 0 _ hi (fun e => hne (by simp [Value.ownBlock, e]))⟩
      · intro j hj
        have hjc : j < cur.size := by omega
        rw [Nat.zero_add, blk_cell hh j, Array.getElem?_eq_getElem hjc]
        rfl
      · intro j hj
        rw [Nat.zero_add]
        exact blk_frozen hh j

theorem Wiped.blk {W W1 : World} {row : Option Nat} (h : Wiped W W1 row) {g : Nat} {o : Obj} (hg : W.heap[g]? = some o) (hne : some g ≠ row) : W1.heap[g]? = some o := (h.block g (blk_lt hg) hne).trans hg
theorem Wiped.grown {W W1 : World} {row : Option Nat} (h : Wiped W W1 row) : W.grownBy W1 row := ⟨h.os, h.tape, h.output, by have := h.size; omega, h.block⟩
theorem Wiped.own {W W1 : World} {row : Option Nat} (h : Wiped W W1 row) {base n size : Nat} {e : TypeId} {v : Value} {xs : List Value} (ho : W.ownsRow base e size v n xs) (hne : v.ownBlock = none ∨ v.ownBlock ≠ row) : W1.ownsRow base e size v n xs := ho.kept h.grown hne
end Go.Proofs.YtodfahcmgmleeaaDoor
