/- Texts of this claim, put together: QCmdx1, QCmdx2, QCmdx3, TopicPlain, CmdRef21, CmdPure, Mem, Mem2, Clone2, CmdRest, QCmdVx0, QCmdVx1, QCmdVx, CmdRest4, CmdRest6, CmdRest3, CmdGet1, CmdWrit, CmdBack. -/
import Derived.Test.YtkgedjaihimafaaDoorMCommandPuts1
import Derived.Lib.Join
import Derived.Test.YtkgedjaihimafaaDoorWWords
import Derived.WalkSpells
import Derived.Test.YtkgedjaihimafaaDoorProg
import Derived.Below
import Derived.Deep.Draws
import Derived.Deep.AppendLies
import Derived.Maps.AppendAt
import Derived.OwnWalk
import Derived.Laws.BytesArg
import Derived.Laws.MakeOwn
import Derived.Laws.OwnMore
import Derived.Deep.OwnRows
import Derived.Tactics
import Derived.Lib.ConvBytes
import Derived.Laws.Slices
import Derived.WalkKit
import Derived.KernelRfl
import Derived.RowKit3
import Derived.Deep.LoopGhost
import Derived.Deep.QuietTactic
import Derived.BigQuiet
import Derived.WideLaws
import Derived.Deep.DeepCutAuto
import Derived.Deep.CutBlock
import Derived.Deep.RegionHeld3
import Derived.Laws.Rows
import Derived.Lib.AppendStr
import Derived.ArgAppend
import Derived.Laws.IdiomCopy
import Derived.OrdersHeld
import Derived.Laws.BitsLemmas
import Derived.RowKit
import Derived.Test.YtkgedjaihimafaaDoorWLast
import Derived.Test.YtkgedjaihimafaaDoorWTab
import Derived.Test.YtkgedjaihimafaaDoorWFour
import Derived.Test.YtkgedjaihimafaaDoorWQPut
import Derived.Test.YtkgedjaihimafaaDoorWApart
import Derived.Test.YtkgedjaihimafaaDoorWArr
import Derived.Test.YtkgedjaihimafaaDoorWZeros
import Derived.Test.YtkgedjaihimafaaDoorWFoot
import Derived.Test.YtkgedjaihimafaaDoorWKept
import Derived.Test.YtkgedjaihimafaaDoorWShare
import Derived.Test.YtkgedjaihimafaaDoorWN
import Derived.Test.YtkgedjaihimafaaDoorWFootNe
import Derived.Test.YtkgedjaihimafaaDoorWAt
import Derived.Test.YtkgedjaihimafaaDoorWEqStruct
import Derived.Test.YtkgedjaihimafaaDoorWRepsOne
import Derived.Test.YtkgedjaihimafaaDoorWInv
import Derived.Test.YtkgedjaihimafaaDoorWInvWords
import Derived.Test.YtkgedjaihimafaaDoorWGuard
import Derived.Test.YtkgedjaihimafaaDoorWNEv
import Derived.Test.YtkgedjaihimafaaDoorWMore
import Derived.Laws.BitsAllLaws
/- Printed by a program of this claim's author (wip/pr.py); not trusted: Lean checks it. -/
namespace Go.Proofs.YtkgedjaihimafaaDoor.QCmd
open Go.Proofs.YtkgedjaihimafaaDoor Go.Proofs.YtkgedjaihimafaaDoor.Given
open Go.RowKit Go.Proofs.YtkgedjaihimafaaDoorW.PrintWords Go.Proofs.YtkgedjaihimafaaDoorW.PrintLast Go.Proofs.YtkgedjaihimafaaDoorW.PrintMore
attribute [local go_sem] max2_int min2_int max_two min_two max_three min_three max_four min_four   -- for this text's walks alone
set_option linter.unusedVariables false
set_option linter.unusedSimpArgs false

/-! ### louverlaw22_great: function 9 -/
def louverlaw22_great.f (a0_0 : Int) (a0_1 : Int) (a0_2 : ByteArray) (a0_3 : Int) (a0_4 : Int) (l0_5 : List Int) : Option (Bool) := if (a0_2.size : Int) > 3000 then (some true) else (some (decide ((l0_5.length : Int) > 9000)))
set_option maxHeartbeats 8000000 in
set_option maxRecDepth 100000 in
theorem louverlaw22_great.calls (a0_0 : Int) (a0_1 : Int) (a0_2 : ByteArray) (a0_3 : Int) (a0_4 : Int) (A0_5 : Option Addr) (c0_5 : Nat) (l0_5 : List Int) (r : Bool) (w : World) (hr0_5 : Kd.C (Kd.int .u8) w A0_5 l0_5.length l0_5) (hc0_5 : l0_5.length ≤ c0_5) (h : louverlaw22_great.f a0_0 a0_1 a0_2 a0_3 a0_4 l0_5 = some r) :
  Calls Tryd.prog 9 #[.agg #[.int .u8 a0_0, .int .u32 a0_1, .string a0_2, .int .u64 a0_3, .int .u8 a0_4, .slice A0_5 l0_5.length c0_5]] w fun e w' => e = .returned (.bool r) ∧ Below w.heap.size w w' := by
 have hu26 := Tryd.underlying26
 have HR0_5 := Aside0.mk hr0_5
 have HC0_5 := Aside0.mk hc0_5
 clear hr0_5 hc0_5
 have HB := Aside0.mk (Below.refl w.heap.size w)
 have H : (if (a0_2.size : Int) > 3000 then (some true) else (some (decide ((l0_5.length : Int) > 9000)))) = some r := h
 clear h
 by_cases c2 : (a0_2.size : Int) > 3000
 ·rw [if_pos c2] at H
  have c2b0 : decide (3000 < (a0_2.size : Int)) = true := decide_eq_true c2
  have c2b1 : decide (3000 < a0_2.size) = true := decide_eq_true (by omega)
  clear c2
  obtain rfl := Option.some.inj H
  have hBNE_ := isEmpty_bne
  go_enter Tryd.func9, Tryd.ntmps9
  go_wp2_with (first | ((with_reducible refine gate_dst (N := 1) rfl ?_); (try (refine gate_guard (by rfl) ?_; dsimp only)); refine box_event ?hg (N := 1) ?hd (cs := #[.int .u8 a0_0, .int .u32 a0_1, .string a0_2, .int .u64 a0_3, .int .u8 a0_4, .slice A0_5 l0_5.length c0_5]) (t := 26) ?hr ?_; (case hd => rfl); (case hg => rfl); (case hr => first | (go_simp; done) | (go_simp; rfl)); intro gb101 hg w3 hbox hb; have n0_ := Aside0.mk (below_step (by repeat (first | (with_reducible first | exact HB.out | apply below_alloc | apply pw_below_drewN | apply below_drew1) | exact HB.out)) hb); have n1_ := Aside0.mk (hbox); have n2_ := Aside0.mk ((by rw [hg]; exact (below_size (by repeat (first | (with_reducible first | exact HB.out | apply below_alloc | apply pw_below_drewN | apply below_drew1) | exact HB.out))) : w.heap.size ≤ gb101)); have n3_ := Aside0.mk ((by rw [hg]; exact (below_size (by repeat (first | (with_reducible first | exact HB.out | apply below_alloc | apply pw_below_drewN | apply below_drew1) | exact HB.out))) : w.heap.size ≤ gb101)); clear HB; have HB := n0_; have BK101 := n1_; have GW101 := n2_; have GE101 := n3_; clear n0_ n1_ n2_ n3_; clear hb hbox hg; have hcz4_0 : w3.cell? ⟨gb101, 0, none⟩ = some (.int .u8 a0_0) := (blk_cell BK101.out 0).trans rfl; have hcz4_1 : w3.cell? ⟨gb101, 1, none⟩ = some (.int .u32 a0_1) := (blk_cell BK101.out 1).trans rfl; have hcz4_2 : w3.cell? ⟨gb101, 2, none⟩ = some (.string a0_2) := (blk_cell BK101.out 2).trans rfl; have hcz4_3 : w3.cell? ⟨gb101, 3, none⟩ = some (.int .u64 a0_3) := (blk_cell BK101.out 3).trans rfl; have hcz4_4 : w3.cell? ⟨gb101, 4, none⟩ = some (.int .u8 a0_4) := (blk_cell BK101.out 4).trans rfl; have hcz4_5 : w3.cell? ⟨gb101, 5, none⟩ = some (.slice A0_5 l0_5.length c0_5) := (blk_cell BK101.out 5).trans rfl; have hfz4_0 := blk_frozen BK101.out 0; have hfz4_1 := blk_frozen BK101.out 1; have hfz4_2 := blk_frozen BK101.out 2; have hfz4_3 := blk_frozen BK101.out 3; have hfz4_4 := blk_frozen BK101.out 4; have hfz4_5 := blk_frozen BK101.out 5))
  go_ret
  exact ⟨by first | rfl | (simp [errW_none, errW_some] <;> rfl) | (simp [*, errW_none, errW_some] <;> rfl), by repeat (first | (with_reducible first | exact HB.out | apply below_alloc | apply pw_below_drewN | apply below_drew1 | refine below_set ?_ GE101.out) | exact HB.out)⟩
 ·rw [if_neg c2] at H
  have c2b0 : decide (3000 < (a0_2.size : Int)) = false := decide_eq_false c2
  have c2b1 : decide (3000 < a0_2.size) = false := decide_eq_false (by omega)
  clear c2
  obtain rfl := Option.some.inj H
  have hBNE_ := isEmpty_bne
  go_enter Tryd.func9, Tryd.ntmps9
  go_wp2_with (first | ((with_reducible refine gate_dst (N := 1) rfl ?_); (try (refine gate_guard (by rfl) ?_; dsimp only)); refine box_event ?hg (N := 1) ?hd (cs := #[.int .u8 a0_0, .int .u32 a0_1, .string a0_2, .int .u64 a0_3, .int .u8 a0_4, .slice A0_5 l0_5.length c0_5]) (t := 26) ?hr ?_; (case hd => rfl); (case hg => rfl); (case hr => first | (go_simp; done) | (go_simp; rfl)); intro gb101 hg w5 hbox hb; have n0_ := Aside0.mk (below_step (by repeat (first | (with_reducible first | exact HB.out | apply below_alloc | apply pw_below_drewN | apply below_drew1) | exact HB.out)) hb); have n1_ := Aside0.mk (hbox); have n2_ := Aside0.mk ((by rw [hg]; exact (below_size (by repeat (first | (with_reducible first | exact HB.out | apply below_alloc | apply pw_below_drewN | apply below_drew1) | exact HB.out))) : w.heap.size ≤ gb101)); have n3_ := Aside0.mk ((by rw [hg]; exact (below_size (by repeat (first | (with_reducible first | exact HB.out | apply below_alloc | apply pw_below_drewN | apply below_drew1) | exact HB.out))) : w.heap.size ≤ gb101)); clear HB; have HB := n0_; have BK101 := n1_; have GW101 := n2_; have GE101 := n3_; clear n0_ n1_ n2_ n3_; clear hb hbox hg; have hcz6_0 : w5.cell? ⟨gb101, 0, none⟩ = some (.int .u8 a0_0) := (blk_cell BK101.out 0).trans rfl; have hcz6_1 : w5.cell? ⟨gb101, 1, none⟩ = some (.int .u32 a0_1) := (blk_cell BK101.out 1).trans rfl; have hcz6_2 : w5.cell? ⟨gb101, 2, none⟩ = some (.string a0_2) := (blk_cell BK101.out 2).trans rfl; have hcz6_3 : w5.cell? ⟨gb101, 3, none⟩ = some (.int .u64 a0_3) := (blk_cell BK101.out 3).trans rfl; have hcz6_4 : w5.cell? ⟨gb101, 4, none⟩ = some (.int .u8 a0_4) := (blk_cell BK101.out 4).trans rfl; have hcz6_5 : w5.cell? ⟨gb101, 5, none⟩ = some (.slice A0_5 l0_5.length c0_5) := (blk_cell BK101.out 5).trans rfl; have hfz6_0 := blk_frozen BK101.out 0; have hfz6_1 := blk_frozen BK101.out 1; have hfz6_2 := blk_frozen BK101.out 2; have hfz6_3 := blk_frozen BK101.out 3; have hfz6_4 := blk_frozen BK101.out 4; have hfz6_5 := blk_frozen BK101.out 5))
  go_ret
  exact ⟨by first | rfl | (simp [errW_none, errW_some] <;> rfl) | (simp [*, errW_none, errW_some] <;> rfl), by repeat (first | (with_reducible first | exact HB.out | apply below_alloc | apply pw_below_drewN | apply below_drew1 | refine below_set ?_ GE101.out) | exact HB.out)⟩

/-! ### louverref21_Parts: function 41 -/
def louverref21_Parts.l0 : Nat → ByteArray → List ByteArray → Int → Int → Option (List ByteArray)
 | 0, _, _, _, _ => none
 | k + 1, x0, x3, x4, x5 => if x5 ≤ (x0.size : Int) then (if x5 = (x0.size : Int) then (if 0 ≤ x4 then (if x4 ≤ x5 then (if x3.length < 8796093022208 then (louverref21_Parts.l0 k x0 (x3 ++ [x0.extract (x4 : Int).toNat (x5 : Int).toNat]) (wrap64 (x5 + 1)) (wrap64 (x5 + 1))) else (none)) else (none)) else (none)) else (if 0 ≤ x5 then (if x5 < (x0.size : Int) then (if (bt x0 x5) = 47 then (if 0 ≤ x4 then (if x4 ≤ x5 then (if x3.length < 8796093022208 then (louverref21_Parts.l0 k x0 (x3 ++ [x0.extract (x4 : Int).toNat (x5 : Int).toNat]) (wrap64 (x5 + 1)) (wrap64 (x5 + 1))) else (none)) else (none)) else (none)) else (louverref21_Parts.l0 k x0 x3 x4 (wrap64 (x5 + 1)))) else (none)) else (none))) else (some x3)
def louverref21_Parts.f (k : Nat) (a0 : ByteArray) : Option (List ByteArray) := louverref21_Parts.l0 k a0 (([] : List ByteArray)) 0 0
theorem louverref21_Parts.mono_l : ∀ k, (∀ y0 y1 y2 y3, LeO (louverref21_Parts.l0 k y0 y1 y2 y3) (louverref21_Parts.l0 (k + 1) y0 y1 y2 y3))
 | 0 => fun _ _ _ _ r h => by simp [louverref21_Parts.l0] at h
 | k + 1 => by
  have ih0 := louverref21_Parts.mono_l k
  ·intro y0 y1 y2 y3
   unfold louverref21_Parts.l0
   repeat' first
   | (with_reducible exact ih0 _ _ _ _)
   | (with_reducible exact LeO.refl _)
   | (with_reducible exact LeO.none _)
   | (with_reducible refine LeO.ite ?_ ?_)
   | (with_reducible refine LeO.bind ?_ (fun _ => ?_))
   | exact ih0 _ _ _ _
   | exact LeO.none _
   | refine LeO.ite ?_ ?_
   | refine LeO.bind ?_ (fun _ => ?_)
theorem louverref21_Parts.mono : ∀ a0 k, LeO (louverref21_Parts.f k a0) (louverref21_Parts.f (k + 1) a0) := by
 intro a0 k
 have ih0 := louverref21_Parts.mono_l k
 unfold louverref21_Parts.f
 repeat' first
   | (with_reducible exact ih0 _ _ _ _)
   | (with_reducible exact LeO.refl _)
   | (with_reducible exact LeO.none _)
   | (with_reducible refine LeO.ite ?_ ?_)
   | (with_reducible refine LeO.bind ?_ (fun _ => ?_))
   | exact ih0 _ _ _ _
   | exact LeO.none _
   | refine LeO.ite ?_ ?_
   | refine LeO.bind ?_ (fun _ => ?_)
set_option maxHeartbeats 8000000 in
set_option maxRecDepth 100000 in
theorem louverref21_Parts.calls (k : Nat) (a0 : ByteArray) (r : List ByteArray) (w : World) (h : louverref21_Parts.f k a0 = some r) :
  Calls Tryd.prog 41 #[.string a0] w fun e w' => ∃ v0_ : Value, e = .returned (v0_) ∧ Kd.R Kd.string 9 w' w.heap.size (fun _ => True) v0_ r ∧ Below w.heap.size w w' := by
 have HB := Aside0.mk (Below.refl w.heap.size w)
 have H : (louverref21_Parts.l0 k a0 (([] : List ByteArray)) 0 0) = some r := h
 clear h
 obtain ⟨y102, hy102⟩ : ∃ y_ : List ByteArray, y_ = (([] : List ByteArray)) := ⟨_, rfl⟩
 replace H : (louverref21_Parts.l0 k a0 y102 0 0) = some r := by first | (rw [hy102]; with_reducible exact H) | (have H2_ := (Option.bind_some _ _).symm.trans H; rw [hy102]; with_reducible exact H2_) | (have H2_ := (Option.bind_some _ _).symm.trans H; with_reducible exact H2_) | with_reducible exact H | (rw [hy102]; exact H) | exact H
 have Ny102 := Aside0.mk hy102
 clear hy102
 have H' := Aside0.mk H
 clear H
 have hBNE_ := isEmpty_bne
 go_enter Tryd.func41, Tryd.ntmps41
 go_wp2_with (first | ((with_reducible refine gate_dst (N := 6) rfl ?_); refine Kd.R_lit Kd.string _ 9 ?hg (N := 6) ?hd (xs := ([] : List ByteArray)) (inner := []) (ok := fun _ => True) (okp := fun _ => True) ?hr ?hp (fun _ hk => hk) trivial (Below.refl _ _) (Nat.le_refl _) (by simp) ?_; (case hd => rfl); (case hg => rfl); (case hr => first | (go_simp; done) | (go_simp; rfl)); (case hp => exact (Reps.none _ _)); intro v103 w2 ho3 hb hg_ hnew_; clear hg_ hnew_; (first | rw [← Ny102.out] at ho3 | (simp only [Int.reduceToNat] at ho3; rw [← Ny102.out] at ho3)); have n0_ := Aside0.mk (Kd.R_lower ho3 (below_size (by repeat (first | (with_reducible first | exact HB.out | apply below_alloc | apply pw_below_drewN | apply below_drew1) | exact HB.out)))); have n1_ := Aside0.mk (below_step (by repeat (first | (with_reducible first | exact HB.out | apply below_alloc | apply pw_below_drewN | apply below_drew1) | exact HB.out)) hb); clear HB; have HO104 := n0_; have HB := n1_; clear n0_ n1_; clear hb ho3))
 go_loopg [3, 4, 5] k (fun kq v3 v4 v5 w' => ∃ (x3_1 : List ByteArray) (x4_1 : Int) (x5_1 : Int), v4 = .int .i64 x4_1 ∧ v5 = .int .i64 x5_1 ∧ Aside0 (louverref21_Parts.l0 kq a0 x3_1 x4_1 x5_1 = some r) ∧ Aside0 (kq ≤ k) ∧ Aside0 (Kd.R Kd.string 9 w' w.heap.size (fun _ => True) v3 x3_1) ∧ Aside0 (Below w.heap.size w w'))
 case atStart => exact ⟨(y102), (0), (0), (by first | rfl | (simp; done) | (simp [*]; done)), (by first | rfl | (simp; done) | (simp [*]; done)), H', ⟨Nat.le_refl _⟩, ⟨by (with_reducible repeat (first | apply Kd.R_alloc | apply Kd.R_drewN | apply Kd.R_drew)); exact HO104.out⟩, ⟨by repeat (first | (with_reducible first | exact HB.out | apply below_alloc | apply pw_below_drewN | apply below_drew1) | exact HB.out)⟩⟩
 case round =>
  clear H'
  try clear p2
  obtain ⟨x3_1, x4_1, x5_1, rfl, rfl, HA, HK1, HO_3, HB⟩ := hrel
  cases gk with
  | zero => exact absurd HA.out (by simp [louverref21_Parts.l0])
  | succ k1 =>
   have H := HA.out
   clear HA
   simp only [louverref21_Parts.l0] at H
   by_cases c4 : x5_1 ≤ (a0.size : Int)
   ·rw [if_pos c4] at H
    have c4b0 : decide (x5_1 ≤ (a0.size : Int)) = true := decide_eq_true c4
    clear c4
    by_cases c5 : x5_1 = (a0.size : Int)
    ·rw [if_pos c5] at H
     have c5b0 : (x5_1 == (a0.size : Int)) = true := beq_iff_eq.mpr c5
     have c5b1 : (x5_1 != (a0.size : Int)) = false := bne_eq_false_iff_eq.mpr c5
     clear c5
     by_cases c6 : 0 ≤ x4_1
     ·rw [if_pos c6] at H
      have c6b0 := eq_true c6
      have c6b1 : decide (0 ≤ x4_1) = true := decide_eq_true c6
      clear c6
      by_cases c7 : x4_1 ≤ x5_1
      ·rw [if_pos c7] at H
       have c7b0 := eq_true c7
       have c7b1 : decide (x4_1 ≤ x5_1) = true := decide_eq_true c7
       clear c7
       have c8b0 := eq_true (of_decide_eq_true (by first | (with_reducible assumption) | assumption) : x5_1 ≤ (a0.size : Int))
       by_cases c9 : x3_1.length < 8796093022208
       ·rw [if_pos c9] at H
        have LMc9 := Aside0.mk c9
        clear c9
        obtain ⟨y105, hy105⟩ : ∃ y_ : List ByteArray, y_ = (x3_1 ++ [a0.extract (x4_1 : Int).toNat (x5_1 : Int).toNat]) := ⟨_, rfl⟩
        replace H : (louverref21_Parts.l0 k1 a0 y105 (wrap64 (x5_1 + 1)) (wrap64 (x5_1 + 1))) = some r := by first | (rw [hy105]; with_reducible exact H) | (have H2_ := (Option.bind_some _ _).symm.trans H; rw [hy105]; with_reducible exact H2_) | (have H2_ := (Option.bind_some _ _).symm.trans H; with_reducible exact H2_) | with_reducible exact H | (rw [hy105]; exact H) | exact H
        have Ny105 := Aside0.mk hy105
        clear hy105
        have H' := Aside0.mk H
        clear H
        go_wp2_with (first | ((with_reducible refine gate_builtin (b := .append) (xs := #[.tmp 23, .tmp 28]) rfl ?_); at_builtin; refine Kd.R_append Kd.string (w0 := w) w.heap.size rfl (.tmp 23) (.tmp 28) 70 9 (.string ⟨#[]⟩) 16 rfl Tryd.underlying70 info9 rfl (by decide) (by omega) u3 x3_1 (a0.extract (x4_1 : Int).toNat (x5_1 : Int).toNat) [.string (a0.extract (x4_1 : Int).toNat (x5_1 : Int).toNat)] (fun _ => True) (fun _ => False) rfl rfl ?aP (fun _ hk => hk.elim) ?aF ?aO ?aB ?aS ?aL ?_; (case aP => exact rfl); (case aB => exact (by repeat (first | (with_reducible first | exact HB.out | apply below_alloc | apply pw_below_drewN | apply below_drew1) | exact HB.out))); (case aF => exact (fun _ _ => trivial)); (case aO => exact (by (with_reducible repeat (first | apply Kd.R_alloc | apply Kd.R_drewN | apply Kd.R_drew)); exact HO_3.out)); (case aS => exact (below_size (by repeat (first | (with_reducible first | exact HB.out | apply below_alloc | apply pw_below_drewN | apply below_drew1) | exact HB.out)))); (case aL => have := LMc9.out; omega); intro v106 w10 ho hb hg hat; rw [← Ny105.out] at ho; have n0_ := Aside0.mk (hb); have n1_ := Aside0.mk (ho); clear HB; clear HO_3; have HB := n0_; have HO107 := n1_; clear n0_ n1_; clear ho hb hg hat))
        go_roundg k1
        case measure => have := HK1.out; omega
        case rel => exact ⟨(y105), (wrap64 (x5_1 + 1)), (wrap64 (x5_1 + 1)), (by first | rfl | (simp; done) | (simp [*]; done)), (by first | rfl | (simp; done) | (simp [*]; done)), H', ⟨by have := HK1.out; omega⟩, ⟨by (with_reducible repeat (first | apply Kd.R_alloc | apply Kd.R_drewN | apply Kd.R_drew)); exact HO107.out⟩, ⟨by repeat (first | (with_reducible first | exact HB.out | apply below_alloc | apply pw_below_drewN | apply below_drew1) | exact HB.out)⟩⟩
       ·rw [if_neg c9] at H
        exact absurd H (by simp)
      ·rw [if_neg c7] at H
       exact absurd H (by simp)
     ·rw [if_neg c6] at H
      exact absurd H (by simp)
    ·rw [if_neg c5] at H
     have c5b0 : (x5_1 == (a0.size : Int)) = false := beq_eq_false_iff_ne.mpr c5
     have c5b1 : (x5_1 != (a0.size : Int)) = true := bne_iff_ne.mpr c5
     by_cases c11 : 0 ≤ x5_1
     ·rw [if_pos c11] at H
      have c11b0 : decide (0 ≤ x5_1) = true := decide_eq_true c11
      clear c11
      by_cases c12 : x5_1 < (a0.size : Int)
      ·rw [if_pos c12] at H
       have c12b0 : decide (x5_1 < (a0.size : Int)) = true := decide_eq_true c12
       clear c12
       by_cases c14 : (bt a0 x5_1) = 47
       ·rw [if_pos c14] at H
        have c14b0 : ((bt a0 x5_1) == 47) = true := beq_iff_eq.mpr c14
        have c14b1 : ((bt a0 x5_1) != 47) = false := bne_eq_false_iff_eq.mpr c14
        clear c14
        by_cases c15 : 0 ≤ x4_1
        ·rw [if_pos c15] at H
         have c15b0 := eq_true c15
         have c15b1 : decide (0 ≤ x4_1) = true := decide_eq_true c15
         clear c15
         by_cases c16 : x4_1 ≤ x5_1
         ·rw [if_pos c16] at H
          have c16b0 := eq_true c16
          have c16b1 : decide (x4_1 ≤ x5_1) = true := decide_eq_true c16
          clear c16
          have c17b0 := eq_true (of_decide_eq_true (by first | (with_reducible assumption) | assumption) : x5_1 ≤ (a0.size : Int))
          by_cases c18 : x3_1.length < 8796093022208
          ·rw [if_pos c18] at H
           have LMc18 := Aside0.mk c18
           clear c18
           obtain ⟨y108, hy108⟩ : ∃ y_ : List ByteArray, y_ = (x3_1 ++ [a0.extract (x4_1 : Int).toNat (x5_1 : Int).toNat]) := ⟨_, rfl⟩
           replace H : (louverref21_Parts.l0 k1 a0 y108 (wrap64 (x5_1 + 1)) (wrap64 (x5_1 + 1))) = some r := by first | (rw [hy108]; with_reducible exact H) | (have H2_ := (Option.bind_some _ _).symm.trans H; rw [hy108]; with_reducible exact H2_) | (have H2_ := (Option.bind_some _ _).symm.trans H; with_reducible exact H2_) | with_reducible exact H | (rw [hy108]; exact H) | exact H
           have Ny108 := Aside0.mk hy108
           clear hy108
           have H' := Aside0.mk H
           clear H
           have p13 : 0 ≤ (x5_1 : Int) := of_decide_eq_true (by first | (with_reducible assumption) | assumption)
           have q13 : x5_1 < (a0.size : Int) := of_decide_eq_true (by first | (with_reducible assumption) | assumption)
           have hx13 := bt_at a0 x5_1
           replace p13 := eq_true p13
           replace q13 := eq_true q13
           go_wp2_with (first | ((with_reducible refine gate_builtin (b := .append) (xs := #[.tmp 23, .tmp 28]) rfl ?_); at_builtin; refine Kd.R_append Kd.string (w0 := w) w.heap.size rfl (.tmp 23) (.tmp 28) 70 9 (.string ⟨#[]⟩) 16 rfl Tryd.underlying70 info9 rfl (by decide) (by omega) u3 x3_1 (a0.extract (x4_1 : Int).toNat (x5_1 : Int).toNat) [.string (a0.extract (x4_1 : Int).toNat (x5_1 : Int).toNat)] (fun _ => True) (fun _ => False) rfl rfl ?aP (fun _ hk => hk.elim) ?aF ?aO ?aB ?aS ?aL ?_; (case aP => exact rfl); (case aB => exact (by repeat (first | (with_reducible first | exact HB.out | apply below_alloc | apply pw_below_drewN | apply below_drew1) | exact HB.out))); (case aF => exact (fun _ _ => trivial)); (case aO => exact (by (with_reducible repeat (first | apply Kd.R_alloc | apply Kd.R_drewN | apply Kd.R_drew)); exact HO_3.out)); (case aS => exact (below_size (by repeat (first | (with_reducible first | exact HB.out | apply below_alloc | apply pw_below_drewN | apply below_drew1) | exact HB.out)))); (case aL => have := LMc18.out; omega); intro v109 w19 ho hb hg hat; rw [← Ny108.out] at ho; have n0_ := Aside0.mk (hb); have n1_ := Aside0.mk (ho); clear HB; clear HO_3; have HB := n0_; have HO110 := n1_; clear n0_ n1_; clear ho hb hg hat))
           go_roundg k1
           case measure => have := HK1.out; omega
           case rel => exact ⟨(y108), (wrap64 (x5_1 + 1)), (wrap64 (x5_1 + 1)), (by first | rfl | (simp; done) | (simp [*]; done)), (by first | rfl | (simp; done) | (simp [*]; done)), H', ⟨by have := HK1.out; omega⟩, ⟨by (with_reducible repeat (first | apply Kd.R_alloc | apply Kd.R_drewN | apply Kd.R_drew)); exact HO110.out⟩, ⟨by repeat (first | (with_reducible first | exact HB.out | apply below_alloc | apply pw_below_drewN | apply below_drew1) | exact HB.out)⟩⟩
          ·rw [if_neg c18] at H
           exact absurd H (by simp)
         ·rw [if_neg c16] at H
          exact absurd H (by simp)
        ·rw [if_neg c15] at H
         exact absurd H (by simp)
       ·rw [if_neg c14] at H
        have c14b0 : ((bt a0 x5_1) == 47) = false := beq_eq_false_iff_ne.mpr c14
        have c14b1 : ((bt a0 x5_1) != 47) = true := bne_iff_ne.mpr c14
        have H' := Aside0.mk H
        clear H
        have p13 : 0 ≤ (x5_1 : Int) := of_decide_eq_true (by first | (with_reducible assumption) | assumption)
        have q13 : x5_1 < (a0.size : Int) := of_decide_eq_true (by first | (with_reducible assumption) | assumption)
        have hx13 := bt_at a0 x5_1
        replace p13 := eq_true p13
        replace q13 := eq_true q13
        go_wp2
        go_roundg k1
        case measure => have := HK1.out; omega
        case rel => exact ⟨(x3_1), (x4_1), (wrap64 (x5_1 + 1)), (by first | rfl | (simp; done) | (simp [*]; done)), (by first | rfl | (simp; done) | (simp [*]; done)), H', ⟨by have := HK1.out; omega⟩, ⟨by (with_reducible repeat (first | apply Kd.R_alloc | apply Kd.R_drewN | apply Kd.R_drew)); exact HO_3.out⟩, ⟨by repeat (first | (with_reducible first | exact HB.out | apply below_alloc | apply pw_below_drewN | apply below_drew1) | exact HB.out)⟩⟩
      ·rw [if_neg c12] at H
       exact absurd H (by simp)
     ·rw [if_neg c11] at H
      exact absurd H (by simp)
   ·rw [if_neg c4] at H
    have c4b0 : decide (x5_1 ≤ (a0.size : Int)) = false := decide_eq_false c4
    clear c4
    obtain rfl := Option.some.inj H
    go_wp2
    go_ret
    exact ⟨_, by first | rfl | (simp [errW_none, errW_some] <;> rfl) | (simp [*, errW_none, errW_some] <;> rfl), by (with_reducible repeat (first | apply Kd.R_alloc | apply Kd.R_drewN | apply Kd.R_drew)); exact HO_3.out, by repeat (first | (with_reducible first | exact HB.out | apply below_alloc | apply pw_below_drewN | apply below_drew1) | exact HB.out)⟩

/-! ### louverref21_letter: function 58 -/
def louverref21_letter.f (a0 : Int) : Option (Bool) := if a0 ≥ 97 then (if a0 ≤ 122 then (some true) else (if a0 ≥ 48 then (if a0 ≤ 57 then (some true) else (if a0 = 45 then (some true) else (if a0 = 95 then (some true) else (some (a0 == 46))))) else (if a0 = 45 then (some true) else (if a0 = 95 then (some true) else (some (a0 == 46)))))) else (if a0 ≥ 48 then (if a0 ≤ 57 then (some true) else (if a0 = 45 then (some true) else (if a0 = 95 then (some true) else (some (a0 == 46))))) else (if a0 = 45 then (some true) else (if a0 = 95 then (some true) else (some (a0 == 46)))))
set_option maxHeartbeats 8000000 in
set_option maxRecDepth 100000 in
theorem louverref21_letter.calls (a0 : Int) (r : Bool) (w : World) (h : louverref21_letter.f a0 = some r) :
  Calls Tryd.prog 58 #[.int .u8 a0] w fun e w' => e = .returned (.bool r) ∧ Drawn0 w w' := by
 have H : (if a0 ≥ 97 then (if a0 ≤ 122 then (some true) else (if a0 ≥ 48 then (if a0 ≤ 57 then (some true) else (if a0 = 45 then (some true) else (if a0 = 95 then (some true) else (some (a0 == 46))))) else (if a0 = 45 then (some true) else (if a0 = 95 then (some true) else (some (a0 == 46)))))) else (if a0 ≥ 48 then (if a0 ≤ 57 then (some true) else (if a0 = 45 then (some true) else (if a0 = 95 then (some true) else (some (a0 == 46))))) else (if a0 = 45 then (some true) else (if a0 = 95 then (some true) else (some (a0 == 46)))))) = some r := h
 clear h
 by_cases c2 : a0 ≥ 97
 ·rw [if_pos c2] at H
  have c2b0 : decide (97 ≤ a0) = true := decide_eq_true c2
  clear c2
  by_cases c3 : a0 ≤ 122
  ·rw [if_pos c3] at H
   have c3b0 : decide (a0 ≤ 122) = true := decide_eq_true c3
   clear c3
   obtain rfl := Option.some.inj H
   have hBNE_ := isEmpty_bne
   go_enter Tryd.func58, Tryd.ntmps58
   go_wp2
   go_ret
   exact ⟨by first | rfl | (simp; done) | (simp [*]; done), by repeat (first | exact Drawn0.refl _ | apply Drawn0.step)⟩
  ·rw [if_neg c3] at H
   have c3b0 : decide (a0 ≤ 122) = false := decide_eq_false c3
   clear c3
   by_cases c4 : a0 ≥ 48
   ·rw [if_pos c4] at H
    have c4b0 : decide (48 ≤ a0) = true := decide_eq_true c4
    clear c4
    by_cases c5 : a0 ≤ 57
    ·rw [if_pos c5] at H
     have c5b0 : decide (a0 ≤ 57) = true := decide_eq_true c5
     clear c5
     obtain rfl := Option.some.inj H
     have hBNE_ := isEmpty_bne
     go_enter Tryd.func58, Tryd.ntmps58
     go_wp2
     go_ret
     exact ⟨by first | rfl | (simp; done) | (simp [*]; done), by repeat (first | exact Drawn0.refl _ | apply Drawn0.step)⟩
    ·rw [if_neg c5] at H
     have c5b0 : decide (a0 ≤ 57) = false := decide_eq_false c5
     clear c5
     by_cases c6 : a0 = 45
     ·rw [if_pos c6] at H
      have c6b0 : (a0 == 45) = true := beq_iff_eq.mpr c6
      have c6b1 : (a0 != 45) = false := bne_eq_false_iff_eq.mpr c6
      clear c6
      obtain rfl := Option.some.inj H
      have hBNE_ := isEmpty_bne
      go_enter Tryd.func58, Tryd.ntmps58
      go_wp2
      go_ret
      exact ⟨by first | rfl | (simp; done) | (simp [*]; done), by repeat (first | exact Drawn0.refl _ | apply Drawn0.step)⟩
     ·rw [if_neg c6] at H
      have c6b0 : (a0 == 45) = false := beq_eq_false_iff_ne.mpr c6
      have c6b1 : (a0 != 45) = true := bne_iff_ne.mpr c6
      by_cases c7 : a0 = 95
      ·rw [if_pos c7] at H
       have c7b0 : (a0 == 95) = true := beq_iff_eq.mpr c7
       have c7b1 : (a0 != 95) = false := bne_eq_false_iff_eq.mpr c7
       clear c7
       obtain rfl := Option.some.inj H
       have hBNE_ := isEmpty_bne
       go_enter Tryd.func58, Tryd.ntmps58
       go_wp2
       go_ret
       exact ⟨by first | rfl | (simp; done) | (simp [*]; done), by repeat (first | exact Drawn0.refl _ | apply Drawn0.step)⟩
      ·rw [if_neg c7] at H
       have c7b0 : (a0 == 95) = false := beq_eq_false_iff_ne.mpr c7
       have c7b1 : (a0 != 95) = true := bne_iff_ne.mpr c7
       obtain rfl := Option.some.inj H
       have hBNE_ := isEmpty_bne
       go_enter Tryd.func58, Tryd.ntmps58
       go_wp2
       go_ret
       exact ⟨by first | rfl | (simp; done) | (simp [*]; done), by repeat (first | exact Drawn0.refl _ | apply Drawn0.step)⟩
   ·rw [if_neg c4] at H
    have c4b0 : decide (48 ≤ a0) = false := decide_eq_false c4
    clear c4
    by_cases c8 : a0 = 45
    ·rw [if_pos c8] at H
     have c8b0 : (a0 == 45) = true := beq_iff_eq.mpr c8
     have c8b1 : (a0 != 45) = false := bne_eq_false_iff_eq.mpr c8
     clear c8
     obtain rfl := Option.some.inj H
     have hBNE_ := isEmpty_bne
     go_enter Tryd.func58, Tryd.ntmps58
     go_wp2
     go_ret
     exact ⟨by first | rfl | (simp; done) | (simp [*]; done), by repeat (first | exact Drawn0.refl _ | apply Drawn0.step)⟩
    ·rw [if_neg c8] at H
     have c8b0 : (a0 == 45) = false := beq_eq_false_iff_ne.mpr c8
     have c8b1 : (a0 != 45) = true := bne_iff_ne.mpr c8
     by_cases c9 : a0 = 95
     ·rw [if_pos c9] at H
      have c9b0 : (a0 == 95) = true := beq_iff_eq.mpr c9
      have c9b1 : (a0 != 95) = false := bne_eq_false_iff_eq.mpr c9
      clear c9
      obtain rfl := Option.some.inj H
      have hBNE_ := isEmpty_bne
      go_enter Tryd.func58, Tryd.ntmps58
      go_wp2
      go_ret
      exact ⟨by first | rfl | (simp; done) | (simp [*]; done), by repeat (first | exact Drawn0.refl _ | apply Drawn0.step)⟩
     ·rw [if_neg c9] at H
      have c9b0 : (a0 == 95) = false := beq_eq_false_iff_ne.mpr c9
      have c9b1 : (a0 != 95) = true := bne_iff_ne.mpr c9
      obtain rfl := Option.some.inj H
      have hBNE_ := isEmpty_bne
      go_enter Tryd.func58, Tryd.ntmps58
      go_wp2
      go_ret
      exact ⟨by first | rfl | (simp; done) | (simp [*]; done), by repeat (first | exact Drawn0.refl _ | apply Drawn0.step)⟩
 ·rw [if_neg c2] at H
  have c2b0 : decide (97 ≤ a0) = false := decide_eq_false c2
  clear c2
  by_cases c10 : a0 ≥ 48
  ·rw [if_pos c10] at H
   have c10b0 : decide (48 ≤ a0) = true := decide_eq_true c10
   clear c10
   by_cases c11 : a0 ≤ 57
   ·rw [if_pos c11] at H
    have c11b0 : decide (a0 ≤ 57) = true := decide_eq_true c11
    clear c11
    obtain rfl := Option.some.inj H
    have hBNE_ := isEmpty_bne
    go_enter Tryd.func58, Tryd.ntmps58
    go_wp2
    go_ret
    exact ⟨by first | rfl | (simp; done) | (simp [*]; done), by repeat (first | exact Drawn0.refl _ | apply Drawn0.step)⟩
   ·rw [if_neg c11] at H
    have c11b0 : decide (a0 ≤ 57) = false := decide_eq_false c11
    clear c11
    by_cases c12 : a0 = 45
    ·rw [if_pos c12] at H
     have c12b0 : (a0 == 45) = true := beq_iff_eq.mpr c12
     have c12b1 : (a0 != 45) = false := bne_eq_false_iff_eq.mpr c12
     clear c12
     obtain rfl := Option.some.inj H
     have hBNE_ := isEmpty_bne
     go_enter Tryd.func58, Tryd.ntmps58
     go_wp2
     go_ret
     exact ⟨by first | rfl | (simp; done) | (simp [*]; done), by repeat (first | exact Drawn0.refl _ | apply Drawn0.step)⟩
    ·rw [if_neg c12] at H
     have c12b0 : (a0 == 45) = false := beq_eq_false_iff_ne.mpr c12
     have c12b1 : (a0 != 45) = true := bne_iff_ne.mpr c12
     by_cases c13 : a0 = 95
     ·rw [if_pos c13] at H
      have c13b0 : (a0 == 95) = true := beq_iff_eq.mpr c13
      have c13b1 : (a0 != 95) = false := bne_eq_false_iff_eq.mpr c13
      clear c13
      obtain rfl := Option.some.inj H
      have hBNE_ := isEmpty_bne
      go_enter Tryd.func58, Tryd.ntmps58
      go_wp2
      go_ret
      exact ⟨by first | rfl | (simp; done) | (simp [*]; done), by repeat (first | exact Drawn0.refl _ | apply Drawn0.step)⟩
     ·rw [if_neg c13] at H
      have c13b0 : (a0 == 95) = false := beq_eq_false_iff_ne.mpr c13
      have c13b1 : (a0 != 95) = true := bne_iff_ne.mpr c13
      obtain rfl := Option.some.inj H
      have hBNE_ := isEmpty_bne
      go_enter Tryd.func58, Tryd.ntmps58
      go_wp2
      go_ret
      exact ⟨by first | rfl | (simp; done) | (simp [*]; done), by repeat (first | exact Drawn0.refl _ | apply Drawn0.step)⟩
  ·rw [if_neg c10] at H
   have c10b0 : decide (48 ≤ a0) = false := decide_eq_false c10
   clear c10
   by_cases c14 : a0 = 45
   ·rw [if_pos c14] at H
    have c14b0 : (a0 == 45) = true := beq_iff_eq.mpr c14
    have c14b1 : (a0 != 45) = false := bne_eq_false_iff_eq.mpr c14
    clear c14
    obtain rfl := Option.some.inj H
    have hBNE_ := isEmpty_bne
    go_enter Tryd.func58, Tryd.ntmps58
    go_wp2
    go_ret
    exact ⟨by first | rfl | (simp; done) | (simp [*]; done), by repeat (first | exact Drawn0.refl _ | apply Drawn0.step)⟩
   ·rw [if_neg c14] at H
    have c14b0 : (a0 == 45) = false := beq_eq_false_iff_ne.mpr c14
    have c14b1 : (a0 != 45) = true := bne_iff_ne.mpr c14
    by_cases c15 : a0 = 95
    ·rw [if_pos c15] at H
     have c15b0 : (a0 == 95) = true := beq_iff_eq.mpr c15
     have c15b1 : (a0 != 95) = false := bne_eq_false_iff_eq.mpr c15
     clear c15
     obtain rfl := Option.some.inj H
     have hBNE_ := isEmpty_bne
     go_enter Tryd.func58, Tryd.ntmps58
     go_wp2
     go_ret
     exact ⟨by first | rfl | (simp; done) | (simp [*]; done), by repeat (first | exact Drawn0.refl _ | apply Drawn0.step)⟩
    ·rw [if_neg c15] at H
     have c15b0 : (a0 == 95) = false := beq_eq_false_iff_ne.mpr c15
     have c15b1 : (a0 != 95) = true := bne_iff_ne.mpr c15
     obtain rfl := Option.some.inj H
     have hBNE_ := isEmpty_bne
     go_enter Tryd.func58, Tryd.ntmps58
     go_wp2
     go_ret
     exact ⟨by first | rfl | (simp; done) | (simp [*]; done), by repeat (first | exact Drawn0.refl _ | apply Drawn0.step)⟩

/-! ### louverref21_part: function 42 -/
mutual
def louverref21_part.j0 : Nat → ByteArray → Bool → Option (Bool)
 | 0, _, _ => none
 | k + 1, x0, x13 => if x13 = true then (some false) else (louverref21_part.l0 k x0 0)
def louverref21_part.l0 : Nat → ByteArray → Int → Option (Bool)
 | 0, _, _ => none
 | k + 1, x0, x3 => if x3 < (x0.size : Int) then (if 0 ≤ x3 then ((louverref21_letter.f (bt x0 x3)).bind fun t111 => (if t111 = true then (louverref21_part.l0 k x0 (wrap64 (x3 + 1))) else (some false))) else (none)) else (some true)
end
def louverref21_part.f (k : Nat) (a0 : ByteArray) : Option (Bool) := if a0.toList = ([] : List UInt8) then (louverref21_part.j0 k a0 true) else (if a0.toList = ([46] : List UInt8) then (louverref21_part.j0 k a0 true) else (louverref21_part.j0 k a0 (a0.toList == ([46, 46] : List UInt8))))
theorem louverref21_part.mono_l : ∀ k, (∀ y0 y1, LeO (louverref21_part.j0 k y0 y1) (louverref21_part.j0 (k + 1) y0 y1)) ∧ (∀ y0 y1, LeO (louverref21_part.l0 k y0 y1) (louverref21_part.l0 (k + 1) y0 y1))
 | 0 => ⟨fun _ _ r h => by simp [louverref21_part.j0] at h, fun _ _ r h => by simp [louverref21_part.l0] at h⟩
 | k + 1 => by
  obtain ⟨ih0, ih1⟩ := louverref21_part.mono_l k
  refine ⟨?_, ?_⟩
  ·intro y0 y1
   unfold louverref21_part.j0
   repeat' first
   | (with_reducible exact ih0 _ _)
   | (with_reducible exact ih1 _ _)
   | (with_reducible exact LeO.refl _)
   | (with_reducible exact LeO.none _)
   | (with_reducible refine LeO.ite ?_ ?_)
   | (with_reducible refine LeO.bind ?_ (fun _ => ?_))
   | exact ih0 _ _
   | exact ih1 _ _
   | exact LeO.none _
   | refine LeO.ite ?_ ?_
   | refine LeO.bind ?_ (fun _ => ?_)
  ·intro y0 y1
   unfold louverref21_part.l0
   repeat' first
   | (with_reducible exact ih0 _ _)
   | (with_reducible exact ih1 _ _)
   | (with_reducible exact LeO.refl _)
   | (with_reducible exact LeO.none _)
   | (with_reducible refine LeO.ite ?_ ?_)
   | (with_reducible refine LeO.bind ?_ (fun _ => ?_))
   | exact ih0 _ _
   | exact ih1 _ _
   | exact LeO.none _
   | refine LeO.ite ?_ ?_
   | refine LeO.bind ?_ (fun _ => ?_)
theorem louverref21_part.mono : ∀ a0 k, LeO (louverref21_part.f k a0) (louverref21_part.f (k + 1) a0) := by
 intro a0 k
 obtain ⟨ih0, ih1⟩ := louverref21_part.mono_l k
 unfold louverref21_part.f
 repeat' first
   | (with_reducible exact ih0 _ _)
   | (with_reducible exact ih1 _ _)
   | (with_reducible exact LeO.refl _)
   | (with_reducible exact LeO.none _)
   | (with_reducible refine LeO.ite ?_ ?_)
   | (with_reducible refine LeO.bind ?_ (fun _ => ?_))
   | exact ih0 _ _
   | exact ih1 _ _
   | exact LeO.none _
   | refine LeO.ite ?_ ?_
   | refine LeO.bind ?_ (fun _ => ?_)
set_option maxHeartbeats 8000000 in
set_option maxRecDepth 100000 in
theorem louverref21_part.calls (k : Nat) (a0 : ByteArray) (r : Bool) (w : World) (h : louverref21_part.f k a0 = some r) :
  Calls Tryd.prog 42 #[.string a0] w fun e w' => e = .returned (.bool r) ∧ Drawn0 w w' := by
 have H : (if a0.toList = ([] : List UInt8) then (louverref21_part.j0 k a0 true) else (if a0.toList = ([46] : List UInt8) then (louverref21_part.j0 k a0 true) else (louverref21_part.j0 k a0 (a0.toList == ([46, 46] : List UInt8))))) = some r := h
 clear h
 have HC2 := Aside0.mk H
 clear H
 have hBNE_ := isEmpty_bne
 go_enter Tryd.func42, Tryd.ntmps42
 go_upto_region 1 with (fail)
 go_cut [13] (fun v13 wc => ∃ (kq : Nat) (x13_1 : Bool), v13 = .bool x13_1 ∧ Aside0 (louverref21_part.j0 kq a0 x13_1 = some r) ∧ Aside0 (kq ≤ k) ∧ Drawn0 w wc)
 case first =>
  have H := HC2.out
  clear HC2
  by_cases c3 : a0.toList = ([] : List UInt8)
  ·rw [if_pos c3] at H
   have c3b0 : (a0.toList == ([] : List UInt8)) = true := beq_iff_eq.mpr c3
   have c3b1 : (a0.toList != ([] : List UInt8)) = false := bne_eq_false_iff_eq.mpr c3
   clear c3
   (first | rw [c3b0] | (simp only [i64_w, i32_w]; rw [c3b0]) | skip)
   have H' := Aside0.mk H
   clear H
   go_wp2
   go_meet
   case rel => exact ⟨_, (true), (by first | rfl | (simp; done) | (simp [*]; done)), H', ⟨by first | omega | exact Nat.le_refl _⟩, by repeat (first | exact Drawn0.refl _ | apply Drawn0.step)⟩
  ·rw [if_neg c3] at H
   have c3b0 : (a0.toList == ([] : List UInt8)) = false := beq_eq_false_iff_ne.mpr c3
   have c3b1 : (a0.toList != ([] : List UInt8)) = true := bne_iff_ne.mpr c3
   (first | rw [c3b0] | (simp only [i64_w, i32_w]; rw [c3b0]) | skip)
   by_cases c4 : a0.toList = ([46] : List UInt8)
   ·rw [if_pos c4] at H
    have c4b0 : (a0.toList == ([46] : List UInt8)) = true := beq_iff_eq.mpr c4
    have c4b1 : (a0.toList != ([46] : List UInt8)) = false := bne_eq_false_iff_eq.mpr c4
    clear c4
    have H' := Aside0.mk H
    clear H
    go_wp2
    go_meet
    case rel => exact ⟨_, (true), (by first | rfl | (simp; done) | (simp [*]; done)), H', ⟨by first | omega | exact Nat.le_refl _⟩, by repeat (first | exact Drawn0.refl _ | apply Drawn0.step)⟩
   ·rw [if_neg c4] at H
    have c4b0 : (a0.toList == ([46] : List UInt8)) = false := beq_eq_false_iff_ne.mpr c4
    have c4b1 : (a0.toList != ([46] : List UInt8)) = true := bne_iff_ne.mpr c4
    have H' := Aside0.mk H
    clear H
    go_wp2
    go_meet
    case rel => exact ⟨_, ((a0.toList == ([46, 46] : List UInt8))), (by first | rfl | (simp; done) | (simp [*]; done)), H', ⟨by first | omega | exact Nat.le_refl _⟩, by repeat (first | exact Drawn0.refl _ | apply Drawn0.step)⟩
 case rest =>
  clear HC2
  try clear p2
  try clear c3
  try clear c3b0
  try clear c3b1
  try clear c4
  try clear c4b0
  try clear c4b1
  obtain ⟨kq, x13_1, rfl, HA, HJ1, ⟨mc1, rfl⟩⟩ := hcut
  cases kq with
  | zero => exact absurd HA.out (by simp [louverref21_part.j0])
  | succ kj1 =>
   have H := HA.out
   clear HA
   simp only [louverref21_part.j0] at H
   by_cases c5 : x13_1 = true
   ·subst c5
    have H1 : (some false) = some r := by rw [if_pos rfl] at H; exact H
    clear H
    have H := H1
    clear H1
    obtain rfl := Option.some.inj H
    go_wp2
    go_ret
    exact ⟨by first | rfl | (simp; done) | (simp [*]; done), by repeat (first | exact Drawn0.refl _ | apply Drawn0.step)⟩
   ·replace c5 := Bool.eq_false_iff.mpr c5
    subst c5
    have H1 : (louverref21_part.l0 kj1 a0 0) = some r := by rw [if_neg (show ¬ (false = true) by decide)] at H; exact H
    clear H
    have H := H1
    clear H1
    have H' := Aside0.mk H
    clear H
    go_wp2
    go_loopg [3] kj1 (fun kq v3 w' => ∃ (x3_2 : Int), v3 = .int .i64 x3_2 ∧ Aside0 (louverref21_part.l0 kq a0 x3_2 = some r) ∧ Aside0 (kq ≤ kj1) ∧ Drawn0 w w')
    case atStart => exact ⟨(0), (by first | rfl | (simp; done) | (simp [*]; done)), H', ⟨Nat.le_refl _⟩, by repeat (first | exact Drawn0.refl _ | apply Drawn0.step)⟩
    case round =>
     clear H'
     try clear c1
     try clear p2
     try clear c3
     try clear c3b0
     try clear c3b1
     try clear c4
     try clear c4b0
     try clear c4b1
     try clear c5
     try clear p2
     obtain ⟨x3_2, rfl, HA, HK2, ⟨m2, rfl⟩⟩ := hrel
     cases gk with
     | zero => exact absurd HA.out (by simp [louverref21_part.l0])
     | succ k2 =>
      have H := HA.out
      clear HA
      simp only [louverref21_part.l0] at H
      by_cases c6 : x3_2 < (a0.size : Int)
      ·rw [if_pos c6] at H
       have c6b0 : decide (x3_2 < (a0.size : Int)) = true := decide_eq_true c6
       clear c6
       by_cases c7 : 0 ≤ x3_2
       ·rw [if_pos c7] at H
        have c7b0 : decide (0 ≤ x3_2) = true := decide_eq_true c7
        clear c7
        replace H := Option.bind_eq_some_iff.mp H
        obtain ⟨t111, A90, H⟩ := H
        replace H : (if t111 = true then (louverref21_part.l0 k2 a0 (wrap64 (x3_2 + 1))) else (some false)) = some r := H
        have A9 := Aside0.mk A90
        clear A90
        by_cases c10 : t111 = true
        ·subst c10
         have H1 : (louverref21_part.l0 k2 a0 (wrap64 (x3_2 + 1))) = some r := by rw [if_pos rfl] at H; exact H
         clear H
         have H := H1
         clear H1
         have H' := Aside0.mk H
         clear H
         have p8 : 0 ≤ (x3_2 : Int) := of_decide_eq_true (by first | (with_reducible assumption) | assumption)
         have q8 : x3_2 < (a0.size : Int) := of_decide_eq_true (by first | (with_reducible assumption) | assumption)
         have hx8 := bt_at a0 x3_2
         replace p8 := eq_true p8
         replace q8 := eq_true q8
         go_wp2_with (first | ((with_reducible refine gate_callee (f := 58) rfl ?_); refine goesL_ (some 23) rfl rfl Tryd.func58 (by kernel_rfl) rfl #[.int .u8 (bt a0 x3_2)] rfl (by (try simp only [List.map_toArray, List.map_cons, List.map_nil]); first | done | rfl | (simp only [List.length_drop, List.length_take]; rfl)) ?_; (with_reducible refine (louverref21_letter.calls (bt a0 x3_2) true _ A9.out).mono ?_); rintro e w' ⟨rfl, ⟨nd, rfl⟩⟩; refine ⟨_, rfl, ?_⟩))
         go_roundg k2
         case measure => have := HJ1.out; have := HK2.out; omega
         case rel => exact ⟨(wrap64 (x3_2 + 1)), (by first | rfl | (simp; done) | (simp [*]; done)), H', ⟨by have := HJ1.out; have := HK2.out; omega⟩, by repeat (first | exact Drawn0.refl _ | apply Drawn0.step)⟩
        ·replace c10 := Bool.eq_false_iff.mpr c10
         subst c10
         have H1 : (some false) = some r := by rw [if_neg (show ¬ (false = true) by decide)] at H; exact H
         clear H
         have H := H1
         clear H1
         obtain rfl := Option.some.inj H
         have p8 : 0 ≤ (x3_2 : Int) := of_decide_eq_true (by first | (with_reducible assumption) | assumption)
         have q8 : x3_2 < (a0.size : Int) := of_decide_eq_true (by first | (with_reducible assumption) | assumption)
         have hx8 := bt_at a0 x3_2
         replace p8 := eq_true p8
         replace q8 := eq_true q8
         go_wp2_with (first | ((with_reducible refine gate_callee (f := 58) rfl ?_); refine goesL_ (some 23) rfl rfl Tryd.func58 (by kernel_rfl) rfl #[.int .u8 (bt a0 x3_2)] rfl (by (try simp only [List.map_toArray, List.map_cons, List.map_nil]); first | done | rfl | (simp only [List.length_drop, List.length_take]; rfl)) ?_; (with_reducible refine (louverref21_letter.calls (bt a0 x3_2) false _ A9.out).mono ?_); rintro e w' ⟨rfl, ⟨nd, rfl⟩⟩; refine ⟨_, rfl, ?_⟩))
         go_ret
         exact ⟨by first | rfl | (simp; done) | (simp [*]; done), by repeat (first | exact Drawn0.refl _ | apply Drawn0.step)⟩
       ·rw [if_neg c7] at H
        exact absurd H (by simp)
      ·rw [if_neg c6] at H
       have c6b0 : decide (x3_2 < (a0.size : Int)) = false := decide_eq_false c6
       clear c6
       obtain rfl := Option.some.inj H
       go_wp2
       go_ret
       exact ⟨by first | rfl | (simp; done) | (simp [*]; done), by repeat (first | exact Drawn0.refl _ | apply Drawn0.step)⟩

/-! ### louverref21_May: function 16 -/
mutual
def louverref21_May.j0 : Nat → ByteArray → Bool → Option (Bool)
 | 0, _, _ => none
 | k + 1, x0, x12 => if x12 = true then (some false) else ((louverref21_Parts.f k x0).bind fun t112 => (if (t112.length : Int) > 16 then (some false) else (louverref21_May.l0 k t112 (t112.length : Int) 0)))
def louverref21_May.l0 : Nat → List ByteArray → Int → Int → Option (Bool)
 | 0, _, _, _ => none
 | k + 1, x3, x19, x20 => if x20 < x19 then (if 0 ≤ x20 then (if x20 < (x3.length : Int) then ((louverref21_part.f k (rdOf ByteArray.empty x3 x20)).bind fun t116 => (if t116 = true then (louverref21_May.l0 k x3 x19 (wrap64 (x20 + 1))) else (some false))) else (none)) else (none)) else (some true)
end
def louverref21_May.f (k : Nat) (a0 : ByteArray) : Option (Bool) := if (a0.size : Int) = 0 then (louverref21_May.j0 k a0 true) else (louverref21_May.j0 k a0 (decide ((a0.size : Int) > 64)))
theorem louverref21_May.mono_l : ∀ k, (∀ y0 y1, LeO (louverref21_May.j0 k y0 y1) (louverref21_May.j0 (k + 1) y0 y1)) ∧ (∀ y0 y1 y2, LeO (louverref21_May.l0 k y0 y1 y2) (louverref21_May.l0 (k + 1) y0 y1 y2))
 | 0 => ⟨fun _ _ r h => by simp [louverref21_May.j0] at h, fun _ _ _ r h => by simp [louverref21_May.l0] at h⟩
 | k + 1 => by
  obtain ⟨ih0, ih1⟩ := louverref21_May.mono_l k
  refine ⟨?_, ?_⟩
  ·intro y0 y1
   unfold louverref21_May.j0
   repeat' first
   | (with_reducible exact ih0 _ _)
   | (with_reducible exact ih1 _ _ _)
   | (with_reducible exact louverref21_Parts.mono _ _)
   | (with_reducible exact louverref21_part.mono _ _)
   | (with_reducible exact LeO.refl _)
   | (with_reducible exact LeO.none _)
   | (with_reducible refine LeO.ite ?_ ?_)
   | (with_reducible refine LeO.bind ?_ (fun _ => ?_))
   | exact ih0 _ _
   | exact ih1 _ _ _
   | exact louverref21_Parts.mono _ _
   | exact louverref21_part.mono _ _
   | exact LeO.none _
   | refine LeO.ite ?_ ?_
   | refine LeO.bind ?_ (fun _ => ?_)
  ·intro y0 y1 y2
   unfold louverref21_May.l0
   repeat' first
   | (with_reducible exact ih0 _ _)
   | (with_reducible exact ih1 _ _ _)
   | (with_reducible exact louverref21_Parts.mono _ _)
   | (with_reducible exact louverref21_part.mono _ _)
   | (with_reducible exact LeO.refl _)
   | (with_reducible exact LeO.none _)
   | (with_reducible refine LeO.ite ?_ ?_)
   | (with_reducible refine LeO.bind ?_ (fun _ => ?_))
   | exact ih0 _ _
   | exact ih1 _ _ _
   | exact louverref21_Parts.mono _ _
   | exact louverref21_part.mono _ _
   | exact LeO.none _
   | refine LeO.ite ?_ ?_
   | refine LeO.bind ?_ (fun _ => ?_)
theorem louverref21_May.mono : ∀ a0 k, LeO (louverref21_May.f k a0) (louverref21_May.f (k + 1) a0) := by
 intro a0 k
 obtain ⟨ih0, ih1⟩ := louverref21_May.mono_l k
 unfold louverref21_May.f
 repeat' first
   | (with_reducible exact ih0 _ _)
   | (with_reducible exact ih1 _ _ _)
   | (with_reducible exact louverref21_Parts.mono _ _)
   | (with_reducible exact louverref21_part.mono _ _)
   | (with_reducible exact LeO.refl _)
   | (with_reducible exact LeO.none _)
   | (with_reducible refine LeO.ite ?_ ?_)
   | (with_reducible refine LeO.bind ?_ (fun _ => ?_))
   | exact ih0 _ _
   | exact ih1 _ _ _
   | exact louverref21_Parts.mono _ _
   | exact louverref21_part.mono _ _
   | exact LeO.none _
   | refine LeO.ite ?_ ?_
   | refine LeO.bind ?_ (fun _ => ?_)
set_option maxHeartbeats 8000000 in
set_option maxRecDepth 100000 in
theorem louverref21_May.calls (k : Nat) (a0 : ByteArray) (r : Bool) (w : World) (h : louverref21_May.f k a0 = some r) :
  Calls Tryd.prog 16 #[.string a0] w fun e w' => e = .returned (.bool r) ∧ Below w.heap.size w w' := by
 have HB := Aside0.mk (Below.refl w.heap.size w)
 have H : (if (a0.size : Int) = 0 then (louverref21_May.j0 k a0 true) else (louverref21_May.j0 k a0 (decide ((a0.size : Int) > 64)))) = some r := h
 clear h
 have HC2 := Aside0.mk H
 clear H
 have hBNE_ := isEmpty_bne
 go_enter Tryd.func16, Tryd.ntmps16
 go_upto_region 1 with (fail)
 go_cut [12] (fun v12 wc => ∃ (kq : Nat) (x12_1 : Bool), v12 = .bool x12_1 ∧ Aside0 (louverref21_May.j0 kq a0 x12_1 = some r) ∧ Aside0 (kq ≤ k) ∧ Aside0 (Below w.heap.size w wc))
 case first =>
  have H := HC2.out
  clear HC2
  by_cases c3 : (a0.size : Int) = 0
  ·rw [if_pos c3] at H
   have c3b0 : ((a0.size : Int) == 0) = true := beq_iff_eq.mpr c3
   have c3b1 : ((a0.size : Int) != 0) = false := bne_eq_false_iff_eq.mpr c3
   clear c3
   (first | rw [c3b0] | (simp only [i64_w, i32_w]; rw [c3b0]) | skip)
   have H' := Aside0.mk H
   clear H
   go_wp2
   go_meet
   case rel => exact ⟨_, (true), (by first | rfl | (simp; done) | (simp [*]; done)), H', ⟨by first | omega | exact Nat.le_refl _⟩, ⟨by repeat (first | (with_reducible first | exact HB.out | apply below_alloc | apply pw_below_drewN | apply below_drew1) | exact HB.out)⟩⟩
  ·rw [if_neg c3] at H
   have c3b0 : ((a0.size : Int) == 0) = false := beq_eq_false_iff_ne.mpr c3
   have c3b1 : ((a0.size : Int) != 0) = true := bne_iff_ne.mpr c3
   (first | rw [c3b0] | (simp only [i64_w, i32_w]; rw [c3b0]) | skip)
   have H' := Aside0.mk H
   clear H
   go_wp2
   go_meet
   case rel => exact ⟨_, (decide ((a0.size : Int) > 64)), (by first | rfl | (simp; done) | (simp [*]; done)), H', ⟨by first | omega | exact Nat.le_refl _⟩, ⟨by repeat (first | (with_reducible first | exact HB.out | apply below_alloc | apply pw_below_drewN | apply below_drew1) | exact HB.out)⟩⟩
 case rest =>
  clear HC2
  try clear c1
  try clear p2
  try clear c3
  try clear c3b0
  try clear c3b1
  obtain ⟨kq, x12_1, rfl, HA, HJ1, HB⟩ := hcut
  cases kq with
  | zero => exact absurd HA.out (by simp [louverref21_May.j0])
  | succ kj1 =>
   have H := HA.out
   clear HA
   simp only [louverref21_May.j0] at H
   by_cases c4 : x12_1 = true
   ·subst c4
    have H1 : (some false) = some r := by rw [if_pos rfl] at H; exact H
    clear H
    have H := H1
    clear H1
    obtain rfl := Option.some.inj H
    go_wp2
    go_ret
    exact ⟨by first | rfl | (simp [errW_none, errW_some] <;> rfl) | (simp [*, errW_none, errW_some] <;> rfl), by repeat (first | (with_reducible first | exact HB.out | apply below_alloc | apply pw_below_drewN | apply below_drew1) | exact HB.out)⟩
   ·replace c4 := Bool.eq_false_iff.mpr c4
    subst c4
    have H1 : ((louverref21_Parts.f kj1 a0).bind fun t112 => (if (t112.length : Int) > 16 then (some false) else (louverref21_May.l0 kj1 t112 (t112.length : Int) 0))) = some r := by rw [if_neg (show ¬ (false = true) by decide)] at H; exact H
    clear H
    have H := H1
    clear H1
    replace H := Option.bind_eq_some_iff.mp H
    obtain ⟨t112, A50, H⟩ := H
    replace H : (if (t112.length : Int) > 16 then (some false) else (louverref21_May.l0 kj1 t112 (t112.length : Int) 0)) = some r := H
    have A5 := Aside0.mk A50
    clear A50
    by_cases c6 : (t112.length : Int) > 16
    ·rw [if_pos c6] at H
     have c6b0 : decide (16 < (t112.length : Int)) = true := decide_eq_true c6
     have c6b1 : decide (16 < t112.length) = true := decide_eq_true (by omega)
     clear c6
     obtain rfl := Option.some.inj H
     go_wp2_with (first | ((with_reducible refine gate_callee (f := 41) rfl ?_); refine goesL_ (some 14) rfl rfl Tryd.func41 (by kernel_rfl) rfl #[.string a0] rfl (by (try simp only [List.map_toArray, List.map_cons, List.map_nil]); first | done | rfl | (simp only [List.length_drop, List.length_take]; rfl)) ?_; (with_reducible refine (louverref21_Parts.calls kj1 a0 t112 _ A5.out).mono ?_); rintro e w7 ⟨v113, rfl, ho0, hb⟩; refine ⟨_, rfl, ?_⟩; have n0_ := Aside0.mk (Kd.R_lower ho0 (below_size (by repeat (first | (with_reducible first | exact HB.out | apply below_alloc | apply pw_below_drewN | apply below_drew1) | exact HB.out)))); have n1_ := Aside0.mk (below_step (by repeat (first | (with_reducible first | exact HB.out | apply below_alloc | apply pw_below_drewN | apply below_drew1) | exact HB.out)) hb); clear HB; have HO114 := n0_; have HB := n1_; clear n0_ n1_; (try clear hb); (try clear hb2); (try clear hk); (try clear hi); (try clear ho0); obtain ⟨Ao8, co8, eo8⟩ := Kd.R_slice HO114.out; subst eo8))
     go_ret
     exact ⟨by first | rfl | (simp [errW_none, errW_some] <;> rfl) | (simp [*, errW_none, errW_some] <;> rfl), by repeat (first | (with_reducible first | exact HB.out | apply below_alloc | apply pw_below_drewN | apply below_drew1) | exact HB.out)⟩
    ·rw [if_neg c6] at H
     have c6b0 : decide (16 < (t112.length : Int)) = false := decide_eq_false c6
     have c6b1 : decide (16 < t112.length) = false := decide_eq_false (by omega)
     clear c6
     have H' := Aside0.mk H
     clear H
     go_wp2_with (first | ((with_reducible refine gate_callee (f := 41) rfl ?_); refine goesL_ (some 14) rfl rfl Tryd.func41 (by kernel_rfl) rfl #[.string a0] rfl (by (try simp only [List.map_toArray, List.map_cons, List.map_nil]); first | done | rfl | (simp only [List.length_drop, List.length_take]; rfl)) ?_; (with_reducible refine (louverref21_Parts.calls kj1 a0 t112 _ A5.out).mono ?_); rintro e w9 ⟨v113, rfl, ho0, hb⟩; refine ⟨_, rfl, ?_⟩; have n0_ := Aside0.mk (Kd.R_lower ho0 (below_size (by repeat (first | (with_reducible first | exact HB.out | apply below_alloc | apply pw_below_drewN | apply below_drew1) | exact HB.out)))); have n1_ := Aside0.mk (below_step (by repeat (first | (with_reducible first | exact HB.out | apply below_alloc | apply pw_below_drewN | apply below_drew1) | exact HB.out)) hb); clear HB; have HO114 := n0_; have HB := n1_; clear n0_ n1_; (try clear hb); (try clear hb2); (try clear hk); (try clear hi); (try clear ho0); obtain ⟨Ao10, co10, eo10⟩ := Kd.R_slice HO114.out; subst eo10))
     go_loopg [20] kj1 (fun kq v20 w' => ∃ (x20_2 : Int), v20 = .int .i64 x20_2 ∧ Aside0 (louverref21_May.l0 kq t112 (t112.length : Int) x20_2 = some r) ∧ Aside0 (kq ≤ kj1) ∧ Aside0 (Kd.R Kd.string 9 w' w.heap.size (fun _ => True) (.slice Ao10 t112.length co10) t112) ∧ Aside0 (Below w.heap.size w w'))
     case atStart => exact ⟨(0), (by first | rfl | (simp; done) | (simp [*]; done)), H', ⟨Nat.le_refl _⟩, ⟨by (with_reducible repeat (first | apply Kd.R_alloc | apply Kd.R_drewN | apply Kd.R_drew)); exact HO114.out⟩, ⟨by repeat (first | (with_reducible first | exact HB.out | apply below_alloc | apply pw_below_drewN | apply below_drew1) | exact HB.out)⟩⟩
     case round =>
      clear H'
      try clear c1
      try clear p2
      try clear c3
      try clear c3b0
      try clear c3b1
      try clear c4
      try clear c6
      try clear c6b0
      try clear c6b1
      try clear p2
      obtain ⟨x20_2, rfl, HA, HK2, HO_3, HB⟩ := hrel
      cases gk with
      | zero => exact absurd HA.out (by simp [louverref21_May.l0])
      | succ k2 =>
       have H := HA.out
       clear HA
       simp only [louverref21_May.l0] at H
       by_cases c11 : x20_2 < (t112.length : Int)
       ·rw [if_pos c11] at H
        have c11b0 : decide (x20_2 < (t112.length : Int)) = true := decide_eq_true c11
        clear c11
        by_cases c12 : 0 ≤ x20_2
        ·rw [if_pos c12] at H
         have c12b0 : decide (0 ≤ x20_2) = true := decide_eq_true c12
         clear c12
         by_cases c13 : x20_2 < (t112.length : Int)
         ·rw [if_pos c13] at H
          have c13b0 : decide (x20_2 < (t112.length : Int)) = true := decide_eq_true c13
          clear c13
          replace H := Option.bind_eq_some_iff.mp H
          obtain ⟨t116, A140, H⟩ := H
          replace H : (if t116 = true then (louverref21_May.l0 k2 t112 (t112.length : Int) (wrap64 (x20_2 + 1))) else (some false)) = some r := H
          have A14 := Aside0.mk A140
          clear A140
          by_cases c15 : t116 = true
          ·subst c15
           have H1 : (louverref21_May.l0 k2 t112 (t112.length : Int) (wrap64 (x20_2 + 1))) = some r := by rw [if_pos rfl] at H; exact H
           clear H
           have H := H1
           clear H1
           have H' := Aside0.mk H
           clear H
           have p115 : 0 ≤ (x20_2 : Int) := of_decide_eq_true (by first | (with_reducible assumption) | assumption)
           have q115 : x20_2 < (t112.length : Int) := of_decide_eq_true (by first | (with_reducible assumption) | assumption)
           obtain ⟨ad115, e115, hx115_0⟩ := Kd.at_string (Kd.R_reads' HO_3.out).2.2 x20_2 p115 q115
           cases e115
           replace p115 := eq_true p115
           replace q115 := eq_true q115
           go_wp2_with (first | ((with_reducible refine gate_callee (f := 42) rfl ?_); refine goesL_ (some 27) rfl rfl Tryd.func42 (by kernel_rfl) rfl #[.string (rdOf ByteArray.empty t112 x20_2)] rfl (by (try simp only [List.map_toArray, List.map_cons, List.map_nil]); first | done | rfl | (simp only [List.length_drop, List.length_take]; rfl)) ?_; (with_reducible refine (louverref21_part.calls k2 (rdOf ByteArray.empty t112 x20_2) true _ A14.out).mono ?_); rintro e w' ⟨rfl, ⟨nd, rfl⟩⟩; refine ⟨_, rfl, ?_⟩))
           go_roundg k2
           case measure => have := HJ1.out; have := HK2.out; omega
           case rel => exact ⟨(wrap64 (x20_2 + 1)), (by first | rfl | (simp; done) | (simp [*]; done)), H', ⟨by have := HJ1.out; have := HK2.out; omega⟩, ⟨by (with_reducible repeat (first | apply Kd.R_alloc | apply Kd.R_drewN | apply Kd.R_drew)); exact HO_3.out⟩, ⟨by repeat (first | (with_reducible first | exact HB.out | apply below_alloc | apply pw_below_drewN | apply below_drew1) | exact HB.out)⟩⟩
          ·replace c15 := Bool.eq_false_iff.mpr c15
           subst c15
           have H1 : (some false) = some r := by rw [if_neg (show ¬ (false = true) by decide)] at H; exact H
           clear H
           have H := H1
           clear H1
           obtain rfl := Option.some.inj H
           have p115 : 0 ≤ (x20_2 : Int) := of_decide_eq_true (by first | (with_reducible assumption) | assumption)
           have q115 : x20_2 < (t112.length : Int) := of_decide_eq_true (by first | (with_reducible assumption) | assumption)
           obtain ⟨ad115, e115, hx115_0⟩ := Kd.at_string (Kd.R_reads' HO_3.out).2.2 x20_2 p115 q115
           cases e115
           replace p115 := eq_true p115
           replace q115 := eq_true q115
           go_wp2_with (first | ((with_reducible refine gate_callee (f := 42) rfl ?_); refine goesL_ (some 27) rfl rfl Tryd.func42 (by kernel_rfl) rfl #[.string (rdOf ByteArray.empty t112 x20_2)] rfl (by (try simp only [List.map_toArray, List.map_cons, List.map_nil]); first | done | rfl | (simp only [List.length_drop, List.length_take]; rfl)) ?_; (with_reducible refine (louverref21_part.calls k2 (rdOf ByteArray.empty t112 x20_2) false _ A14.out).mono ?_); rintro e w' ⟨rfl, ⟨nd, rfl⟩⟩; refine ⟨_, rfl, ?_⟩))
           go_ret
           exact ⟨by first | rfl | (simp [errW_none, errW_some] <;> rfl) | (simp [*, errW_none, errW_some] <;> rfl), by repeat (first | (with_reducible first | exact HB.out | apply below_alloc | apply pw_below_drewN | apply below_drew1) | exact HB.out)⟩
         ·rw [if_neg c13] at H
          exact absurd H (by simp)
        ·rw [if_neg c12] at H
         exact absurd H (by simp)
       ·rw [if_neg c11] at H
        have c11b0 : decide (x20_2 < (t112.length : Int)) = false := decide_eq_false c11
        clear c11
        obtain rfl := Option.some.inj H
        go_wp2
        go_ret
        exact ⟨by first | rfl | (simp [errW_none, errW_some] <;> rfl) | (simp [*, errW_none, errW_some] <;> rfl), by repeat (first | (with_reducible first | exact HB.out | apply below_alloc | apply pw_below_drewN | apply below_drew1) | exact HB.out)⟩

end Go.Proofs.YtkgedjaihimafaaDoor.QCmd

/- Printed by a program of this claim's author (wip/pr.py); not trusted: Lean checks it. -/
namespace Go.Proofs.YtkgedjaihimafaaDoor.QCmd
open Go.Proofs.YtkgedjaihimafaaDoor Go.Proofs.YtkgedjaihimafaaDoor.Given
open Go.RowKit Go.Proofs.YtkgedjaihimafaaDoorW.PrintWords Go.Proofs.YtkgedjaihimafaaDoorW.PrintLast Go.Proofs.YtkgedjaihimafaaDoorW.PrintMore
attribute [local go_sem] max2_int min2_int max_two min_two max_three min_three max_four min_four   -- for this text's walks alone
set_option linter.unusedVariables false
set_option linter.unusedSimpArgs false

/-! ### louverref22_seq: function 32 -/
def louverref22_seq.f (a0 : Int) : Option (Bool) := if a0 = 4 then (some true) else (if a0 = 5 then (some true) else (if a0 = 6 then (some true) else (some (a0 == 7))))
set_option maxHeartbeats 8000000 in
set_option maxRecDepth 100000 in
theorem louverref22_seq.calls (a0 : Int) (r : Bool) (w : World) (h : louverref22_seq.f a0 = some r) :
  Calls Tryd.prog 32 #[.int .u8 a0] w fun e w' => e = .returned (.bool r) ∧ Drawn0 w w' := by
 have H : (if a0 = 4 then (some true) else (if a0 = 5 then (some true) else (if a0 = 6 then (some true) else (some (a0 == 7))))) = some r := h
 clear h
 by_cases c2 : a0 = 4
 ·rw [if_pos c2] at H
  have c2b0 : (a0 == 4) = true := beq_iff_eq.mpr c2
  have c2b1 : (a0 != 4) = false := bne_eq_false_iff_eq.mpr c2
  clear c2
  obtain rfl := Option.some.inj H
  go_enter Tryd.func32, Tryd.ntmps32
  go_wp2
  go_ret
  exact ⟨by first | rfl | (simp; done) | (simp [*]; done), by repeat (first | exact Drawn0.refl _ | apply Drawn0.step)⟩
 ·rw [if_neg c2] at H
  have c2b0 : (a0 == 4) = false := beq_eq_false_iff_ne.mpr c2
  have c2b1 : (a0 != 4) = true := bne_iff_ne.mpr c2
  by_cases c3 : a0 = 5
  ·rw [if_pos c3] at H
   have c3b0 : (a0 == 5) = true := beq_iff_eq.mpr c3
   have c3b1 : (a0 != 5) = false := bne_eq_false_iff_eq.mpr c3
   clear c3
   obtain rfl := Option.some.inj H
   go_enter Tryd.func32, Tryd.ntmps32
   go_wp2
   go_ret
   exact ⟨by first | rfl | (simp; done) | (simp [*]; done), by repeat (first | exact Drawn0.refl _ | apply Drawn0.step)⟩
  ·rw [if_neg c3] at H
   have c3b0 : (a0 == 5) = false := beq_eq_false_iff_ne.mpr c3
   have c3b1 : (a0 != 5) = true := bne_iff_ne.mpr c3
   by_cases c4 : a0 = 6
   ·rw [if_pos c4] at H
    have c4b0 : (a0 == 6) = true := beq_iff_eq.mpr c4
    have c4b1 : (a0 != 6) = false := bne_eq_false_iff_eq.mpr c4
    clear c4
    obtain rfl := Option.some.inj H
    go_enter Tryd.func32, Tryd.ntmps32
    go_wp2
    go_ret
    exact ⟨by first | rfl | (simp; done) | (simp [*]; done), by repeat (first | exact Drawn0.refl _ | apply Drawn0.step)⟩
   ·rw [if_neg c4] at H
    have c4b0 : (a0 == 6) = false := beq_eq_false_iff_ne.mpr c4
    have c4b1 : (a0 != 6) = true := bne_iff_ne.mpr c4
    obtain rfl := Option.some.inj H
    go_enter Tryd.func32, Tryd.ntmps32
    go_wp2
    go_ret
    exact ⟨by first | rfl | (simp; done) | (simp [*]; done), by repeat (first | exact Drawn0.refl _ | apply Drawn0.step)⟩

end Go.Proofs.YtkgedjaihimafaaDoor.QCmd

/- Printed by a program of this claim's author (wip/pr.py); not trusted: Lean checks it. -/
namespace Go.Proofs.YtkgedjaihimafaaDoor.QCmd
open Go.Proofs.YtkgedjaihimafaaDoor Go.Proofs.YtkgedjaihimafaaDoor.Given
open Go.RowKit Go.Proofs.YtkgedjaihimafaaDoorW.PrintWords Go.Proofs.YtkgedjaihimafaaDoorW.PrintLast Go.Proofs.YtkgedjaihimafaaDoorW.PrintMore
attribute [local go_sem] max2_int min2_int max_two min_two max_three min_three max_four min_four   -- for this text's walks alone
set_option linter.unusedVariables false
set_option linter.unusedSimpArgs false

/-! ### louverref22_May: function 10 -/
mutual
def louverref22_May.j0 : Nat → Bool → Int → Int → ByteArray → Int → Int → List Int → Option (Bool)
 | 0, _, _, _, _, _, _, _ => none
 | k + 1, x11, x118000, x118001, x118002, x118003, x118004, x118005 => if x11 = true then (some false) else (if x118000 = 1 then (louverref22_May.j1 k true x118000 x118001 x118002 x118003 x118004 x118005) else (louverref22_May.j1 k (x118000 == 3) x118000 x118001 x118002 x118003 x118004 x118005))
def louverref22_May.j1 : Nat → Bool → Int → Int → ByteArray → Int → Int → List Int → Option (Bool)
 | 0, _, _, _, _, _, _, _ => none
 | k + 1, x3, x118000, x118001, x118002, x118003, x118004, x118005 => if x3 = true then ((louverref21_May.f k x118002).bind fun t118 => (if t118 = true then (louverref22_May.j2 k false x118000 x118001 x118002 x118003 x118004 x118005) else (louverref22_May.j2 k true x118000 x118001 x118002 x118003 x118004 x118005))) else (louverref22_May.j2 k (x118002.toList != ([] : List UInt8)) x118000 x118001 x118002 x118003 x118004 x118005)
def louverref22_May.j2 : Nat → Bool → Int → Int → ByteArray → Int → Int → List Int → Option (Bool)
 | 0, _, _, _, _, _, _, _ => none
 | k + 1, x35, x118000, x118001, x118002, x118003, x118004, x118005 => if x35 = true then (some false) else ((louverref22_seq.f x118000).bind fun t119 => (if t119 = true then (if x118000 = 8 then (if x118004 = 0 then (louverref22_May.j3 k true x118000 x118001 x118002 x118003 x118004 x118005) else (if x118004 > 5 then (louverref22_May.j3 k true x118000 x118001 x118002 x118003 x118004 x118005) else (louverref22_May.j3 k false x118000 x118001 x118002 x118003 x118004 x118005))) else (louverref22_May.j3 k (x118004 != 0) x118000 x118001 x118002 x118003 x118004 x118005)) else (if x118003 = 0 then (if x118000 = 8 then (if x118004 = 0 then (louverref22_May.j3 k true x118000 x118001 x118002 x118003 x118004 x118005) else (if x118004 > 5 then (louverref22_May.j3 k true x118000 x118001 x118002 x118003 x118004 x118005) else (louverref22_May.j3 k false x118000 x118001 x118002 x118003 x118004 x118005))) else (louverref22_May.j3 k (x118004 != 0) x118000 x118001 x118002 x118003 x118004 x118005)) else (louverref22_May.j3 k true x118000 x118001 x118002 x118003 x118004 x118005))))
def louverref22_May.j3 : Nat → Bool → Int → Int → ByteArray → Int → Int → List Int → Option (Bool)
 | 0, _, _, _, _, _, _, _ => none
 | k + 1, x69, x118000, x118001, x118002, x118003, x118004, x118005 => if x69 = true then (some false) else (if x118000 = 3 then (some (decide ((x118005.length : Int) ≤ 2048))) else (if x118000 = 6 then (some (decide ((x118005.length : Int) ≤ 2048))) else (some ((x118005.length : Int) == 0))))
end
def louverref22_May.f (k : Nat) (a0_0 : Int) (a0_1 : Int) (a0_2 : ByteArray) (a0_3 : Int) (a0_4 : Int) (l0_5 : List Int) : Option (Bool) := if a0_0 = 0 then (louverref22_May.j0 k true a0_0 a0_1 a0_2 a0_3 a0_4 l0_5) else (louverref22_May.j0 k (decide (a0_0 > 8)) a0_0 a0_1 a0_2 a0_3 a0_4 l0_5)
theorem louverref22_May.mono_l : ∀ k, (∀ y0 y1 y2 y3 y4 y5 y6, LeO (louverref22_May.j0 k y0 y1 y2 y3 y4 y5 y6) (louverref22_May.j0 (k + 1) y0 y1 y2 y3 y4 y5 y6)) ∧ (∀ y0 y1 y2 y3 y4 y5 y6, LeO (louverref22_May.j1 k y0 y1 y2 y3 y4 y5 y6) (louverref22_May.j1 (k + 1) y0 y1 y2 y3 y4 y5 y6)) ∧ (∀ y0 y1 y2 y3 y4 y5 y6, LeO (louverref22_May.j2 k y0 y1 y2 y3 y4 y5 y6) (louverref22_May.j2 (k + 1) y0 y1 y2 y3 y4 y5 y6)) ∧ (∀ y0 y1 y2 y3 y4 y5 y6, LeO (louverref22_May.j3 k y0 y1 y2 y3 y4 y5 y6) (louverref22_May.j3 (k + 1) y0 y1 y2 y3 y4 y5 y6))
 | 0 => ⟨fun _ _ _ _ _ _ _ r h => by simp [louverref22_May.j0] at h, fun _ _ _ _ _ _ _ r h => by simp [louverref22_May.j1] at h, fun _ _ _ _ _ _ _ r h => by simp [louverref22_May.j2] at h, fun _ _ _ _ _ _ _ r h => by simp [louverref22_May.j3] at h⟩
 | k + 1 => by
  obtain ⟨ih0, ih1, ih2, ih3⟩ := louverref22_May.mono_l k
  refine ⟨?_, ?_, ?_, ?_⟩
  ·intro y0 y1 y2 y3 y4 y5 y6
   unfold louverref22_May.j0
   repeat' first
   | (with_reducible exact ih0 _ _ _ _ _ _ _)
   | (with_reducible exact ih1 _ _ _ _ _ _ _)
   | (with_reducible exact ih2 _ _ _ _ _ _ _)
   | (with_reducible exact ih3 _ _ _ _ _ _ _)
   | (with_reducible exact louverref21_May.mono _ _)
   | (with_reducible exact LeO.refl _)
   | (with_reducible exact LeO.none _)
   | (with_reducible refine LeO.ite ?_ ?_)
   | (with_reducible refine LeO.bind ?_ (fun _ => ?_))
   | exact ih0 _ _ _ _ _ _ _
   | exact ih1 _ _ _ _ _ _ _
   | exact ih2 _ _ _ _ _ _ _
   | exact ih3 _ _ _ _ _ _ _
   | exact louverref21_May.mono _ _
   | exact LeO.none _
   | refine LeO.ite ?_ ?_
   | refine LeO.bind ?_ (fun _ => ?_)
  ·intro y0 y1 y2 y3 y4 y5 y6
   unfold louverref22_May.j1
   repeat' first
   | (with_reducible exact ih0 _ _ _ _ _ _ _)
   | (with_reducible exact ih1 _ _ _ _ _ _ _)
   | (with_reducible exact ih2 _ _ _ _ _ _ _)
   | (with_reducible exact ih3 _ _ _ _ _ _ _)
   | (with_reducible exact louverref21_May.mono _ _)
   | (with_reducible exact LeO.refl _)
   | (with_reducible exact LeO.none _)
   | (with_reducible refine LeO.ite ?_ ?_)
   | (with_reducible refine LeO.bind ?_ (fun _ => ?_))
   | exact ih0 _ _ _ _ _ _ _
   | exact ih1 _ _ _ _ _ _ _
   | exact ih2 _ _ _ _ _ _ _
   | exact ih3 _ _ _ _ _ _ _
   | exact louverref21_May.mono _ _
   | exact LeO.none _
   | refine LeO.ite ?_ ?_
   | refine LeO.bind ?_ (fun _ => ?_)
  ·intro y0 y1 y2 y3 y4 y5 y6
   unfold louverref22_May.j2
   repeat' first
   | (with_reducible exact ih0 _ _ _ _ _ _ _)
   | (with_reducible exact ih1 _ _ _ _ _ _ _)
   | (with_reducible exact ih2 _ _ _ _ _ _ _)
   | (with_reducible exact ih3 _ _ _ _ _ _ _)
   | (with_reducible exact louverref21_May.mono _ _)
   | (with_reducible exact LeO.refl _)
   | (with_reducible exact LeO.none _)
   | (with_reducible refine LeO.ite ?_ ?_)
   | (with_reducible refine LeO.bind ?_ (fun _ => ?_))
   | exact ih0 _ _ _ _ _ _ _
   | exact ih1 _ _ _ _ _ _ _
   | exact ih2 _ _ _ _ _ _ _
   | exact ih3 _ _ _ _ _ _ _
   | exact louverref21_May.mono _ _
   | exact LeO.none _
   | refine LeO.ite ?_ ?_
   | refine LeO.bind ?_ (fun _ => ?_)
  ·intro y0 y1 y2 y3 y4 y5 y6
   unfold louverref22_May.j3
   repeat' first
   | (with_reducible exact ih0 _ _ _ _ _ _ _)
   | (with_reducible exact ih1 _ _ _ _ _ _ _)
   | (with_reducible exact ih2 _ _ _ _ _ _ _)
   | (with_reducible exact ih3 _ _ _ _ _ _ _)
   | (with_reducible exact louverref21_May.mono _ _)
   | (with_reducible exact LeO.refl _)
   | (with_reducible exact LeO.none _)
   | (with_reducible refine LeO.ite ?_ ?_)
   | (with_reducible refine LeO.bind ?_ (fun _ => ?_))
   | exact ih0 _ _ _ _ _ _ _
   | exact ih1 _ _ _ _ _ _ _
   | exact ih2 _ _ _ _ _ _ _
   | exact ih3 _ _ _ _ _ _ _
   | exact louverref21_May.mono _ _
   | exact LeO.none _
   | refine LeO.ite ?_ ?_
   | refine LeO.bind ?_ (fun _ => ?_)
theorem louverref22_May.mono : ∀ a0 a1 a2 a3 a4 a5 k, LeO (louverref22_May.f k a0 a1 a2 a3 a4 a5) (louverref22_May.f (k + 1) a0 a1 a2 a3 a4 a5) := by
 intro a0 a1 a2 a3 a4 a5 k
 obtain ⟨ih0, ih1, ih2, ih3⟩ := louverref22_May.mono_l k
 unfold louverref22_May.f
 repeat' first
   | (with_reducible exact ih0 _ _ _ _ _ _ _)
   | (with_reducible exact ih1 _ _ _ _ _ _ _)
   | (with_reducible exact ih2 _ _ _ _ _ _ _)
   | (with_reducible exact ih3 _ _ _ _ _ _ _)
   | (with_reducible exact louverref21_May.mono _ _)
   | (with_reducible exact LeO.refl _)
   | (with_reducible exact LeO.none _)
   | (with_reducible refine LeO.ite ?_ ?_)
   | (with_reducible refine LeO.bind ?_ (fun _ => ?_))
   | exact ih0 _ _ _ _ _ _ _
   | exact ih1 _ _ _ _ _ _ _
   | exact ih2 _ _ _ _ _ _ _
   | exact ih3 _ _ _ _ _ _ _
   | exact louverref21_May.mono _ _
   | exact LeO.none _
   | refine LeO.ite ?_ ?_
   | refine LeO.bind ?_ (fun _ => ?_)
set_option maxHeartbeats 8000000 in
set_option maxRecDepth 100000 in
theorem louverref22_May.calls (k : Nat) (a0_0 : Int) (a0_1 : Int) (a0_2 : ByteArray) (a0_3 : Int) (a0_4 : Int) (A0_5 : Option Addr) (c0_5 : Nat) (l0_5 : List Int) (r : Bool) (w : World) (hr0_5 : Kd.C (Kd.int .u8) w A0_5 l0_5.length l0_5) (hc0_5 : l0_5.length ≤ c0_5) (h : louverref22_May.f k a0_0 a0_1 a0_2 a0_3 a0_4 l0_5 = some r) :
  Calls Tryd.prog 10 #[.agg #[.int .u8 a0_0, .int .u32 a0_1, .string a0_2, .int .u64 a0_3, .int .u8 a0_4, .slice A0_5 l0_5.length c0_5]] w fun e w' => e = .returned (.bool r) ∧ Below w.heap.size w w' := by
 have hu26 := Tryd.underlying26
 have HR0_5 := Aside0.mk hr0_5
 have HC0_5 := Aside0.mk hc0_5
 clear hr0_5 hc0_5
 have HB := Aside0.mk (Below.refl w.heap.size w)
 have H : (if a0_0 = 0 then (louverref22_May.j0 k true a0_0 a0_1 a0_2 a0_3 a0_4 l0_5) else (louverref22_May.j0 k (decide (a0_0 > 8)) a0_0 a0_1 a0_2 a0_3 a0_4 l0_5)) = some r := h
 clear h
 have HC2 := Aside0.mk H
 clear H
 have hBNE_ := isEmpty_bne
 go_enter Tryd.func10, Tryd.ntmps10
 go_upto_region 1 with (first | ((with_reducible refine gate_dst (N := 1) rfl ?_); refine box_event ?hg (N := 1) ?hd (cs := #[.int .u8 a0_0, .int .u32 a0_1, .string a0_2, .int .u64 a0_3, .int .u8 a0_4, .slice A0_5 l0_5.length c0_5]) (t := 26) ?hr ?_; (case hd => rfl); (case hg => rfl); (case hr => first | (go_simp; done) | (go_simp; rfl)); intro gb117 hg w3 hbox hb; have n0_ := Aside0.mk (below_step (by repeat (first | (with_reducible first | exact HB.out | apply below_alloc | apply pw_below_drewN | apply below_drew1) | exact HB.out)) hb); have n1_ := Aside0.mk (hbox); have n2_ := Aside0.mk ((by rw [hg]; exact (below_size (by repeat (first | (with_reducible first | exact HB.out | apply below_alloc | apply pw_below_drewN | apply below_drew1) | exact HB.out))) : w.heap.size ≤ gb117)); have n3_ := Aside0.mk ((by rw [hg]; exact (below_size (by repeat (first | (with_reducible first | exact HB.out | apply below_alloc | apply pw_below_drewN | apply below_drew1) | exact HB.out))) : w.heap.size ≤ gb117)); clear HB; have HB := n0_; have BK117 := n1_; have GW117 := n2_; have GE117 := n3_; clear n0_ n1_ n2_ n3_; clear hb hbox hg))
 (try simp only [Act.put, List.setIfInBounds_toArray, List.set_cons_zero, List.set_cons_succ])
 go_cut [11] (fun v11 wc => ∃ (kq : Nat) (x11_1 : Bool), v11 = .bool x11_1 ∧ Aside0 (louverref22_May.j0 kq x11_1 a0_0 a0_1 a0_2 a0_3 a0_4 l0_5 = some r) ∧ Aside0 (kq ≤ k) ∧ Aside0 (wc.heap[gb117]? = some (.cells #[.int .u8 a0_0, .int .u32 a0_1, .string a0_2, .int .u64 a0_3, .int .u8 a0_4, (.slice A0_5 l0_5.length c0_5)] 26 (0, 0))) ∧ Aside0 (Below w.heap.size w wc))
 case first =>
  have H := HC2.out
  clear HC2
  by_cases c4 : a0_0 = 0
  ·rw [if_pos c4] at H
   have c4b0 : (a0_0 == 0) = true := beq_iff_eq.mpr c4
   have c4b1 : (a0_0 != 0) = false := bne_eq_false_iff_eq.mpr c4
   clear c4
   (first | rw [c4b0] | (simp only [i64_w, i32_w]; rw [c4b0]) | skip)
   have H' := Aside0.mk H
   clear H
   have hcz5_0 : w3.cell? ⟨gb117, 0, none⟩ = some (.int .u8 a0_0) := (blk_cell BK117.out 0).trans rfl
   have hcz5_1 : w3.cell? ⟨gb117, 1, none⟩ = some (.int .u32 a0_1) := (blk_cell BK117.out 1).trans rfl
   have hcz5_2 : w3.cell? ⟨gb117, 2, none⟩ = some (.string a0_2) := (blk_cell BK117.out 2).trans rfl
   have hcz5_3 : w3.cell? ⟨gb117, 3, none⟩ = some (.int .u64 a0_3) := (blk_cell BK117.out 3).trans rfl
   have hcz5_4 : w3.cell? ⟨gb117, 4, none⟩ = some (.int .u8 a0_4) := (blk_cell BK117.out 4).trans rfl
   have hcz5_5 : w3.cell? ⟨gb117, 5, none⟩ = some (.slice A0_5 l0_5.length c0_5) := (blk_cell BK117.out 5).trans rfl
   have hfz5_0 := blk_frozen BK117.out 0
   have hfz5_1 := blk_frozen BK117.out 1
   have hfz5_2 := blk_frozen BK117.out 2
   have hfz5_3 := blk_frozen BK117.out 3
   have hfz5_4 := blk_frozen BK117.out 4
   have hfz5_5 := blk_frozen BK117.out 5
   go_wp2
   go_meet
   case rel => exact ⟨_, (true), (by first | rfl | (simp; done) | (simp [*]; done)), H', ⟨by first | omega | exact Nat.le_refl _⟩, ⟨by (with_reducible repeat (first | refine blk_drewN ?_ _ | refine blk_drew ?_ | refine blk_alloc ?_ _)); exact BK117.out⟩, ⟨by repeat (first | (with_reducible first | exact HB.out | apply below_alloc | apply pw_below_drewN | apply below_drew1 | refine below_set ?_ GE117.out) | exact HB.out)⟩⟩
  ·rw [if_neg c4] at H
   have c4b0 : (a0_0 == 0) = false := beq_eq_false_iff_ne.mpr c4
   have c4b1 : (a0_0 != 0) = true := bne_iff_ne.mpr c4
   (first | rw [c4b0] | (simp only [i64_w, i32_w]; rw [c4b0]) | skip)
   have H' := Aside0.mk H
   clear H
   have hcz6_0 : w3.cell? ⟨gb117, 0, none⟩ = some (.int .u8 a0_0) := (blk_cell BK117.out 0).trans rfl
   have hcz6_1 : w3.cell? ⟨gb117, 1, none⟩ = some (.int .u32 a0_1) := (blk_cell BK117.out 1).trans rfl
   have hcz6_2 : w3.cell? ⟨gb117, 2, none⟩ = some (.string a0_2) := (blk_cell BK117.out 2).trans rfl
   have hcz6_3 : w3.cell? ⟨gb117, 3, none⟩ = some (.int .u64 a0_3) := (blk_cell BK117.out 3).trans rfl
   have hcz6_4 : w3.cell? ⟨gb117, 4, none⟩ = some (.int .u8 a0_4) := (blk_cell BK117.out 4).trans rfl
   have hcz6_5 : w3.cell? ⟨gb117, 5, none⟩ = some (.slice A0_5 l0_5.length c0_5) := (blk_cell BK117.out 5).trans rfl
   have hfz6_0 := blk_frozen BK117.out 0
   have hfz6_1 := blk_frozen BK117.out 1
   have hfz6_2 := blk_frozen BK117.out 2
   have hfz6_3 := blk_frozen BK117.out 3
   have hfz6_4 := blk_frozen BK117.out 4
   have hfz6_5 := blk_frozen BK117.out 5
   go_wp2
   go_meet
   case rel => exact ⟨_, (decide (a0_0 > 8)), (by first | rfl | (simp; done) | (simp [*]; done)), H', ⟨by first | omega | exact Nat.le_refl _⟩, ⟨by (with_reducible repeat (first | refine blk_drewN ?_ _ | refine blk_drew ?_ | refine blk_alloc ?_ _)); exact BK117.out⟩, ⟨by repeat (first | (with_reducible first | exact HB.out | apply below_alloc | apply pw_below_drewN | apply below_drew1 | refine below_set ?_ GE117.out) | exact HB.out)⟩⟩
 case rest =>
  clear HC2
  try clear c1
  try clear p2
  try clear c4
  try clear c4b0
  try clear c4b1
  try clear hcz5_0
  try clear hcz5_1
  try clear hcz5_2
  try clear hcz5_3
  try clear hcz5_4
  try clear hcz5_5
  try clear hcz6_0
  try clear hcz6_1
  try clear hcz6_2
  try clear hcz6_3
  try clear hcz6_4
  try clear hcz6_5
  try clear hfz5_0
  try clear hfz5_1
  try clear hfz5_2
  try clear hfz5_3
  try clear hfz5_4
  try clear hfz5_5
  try clear hfz6_0
  try clear hfz6_1
  try clear hfz6_2
  try clear hfz6_3
  try clear hfz6_4
  try clear hfz6_5
  obtain ⟨kq, x11_1, rfl, HA, HJ1, BK117, HB⟩ := hcut
  cases kq with
  | zero => exact absurd HA.out (by simp [louverref22_May.j0])
  | succ kj1 =>
   have H := HA.out
   clear HA
   simp only [louverref22_May.j0] at H
   by_cases c7 : x11_1 = true
   ·subst c7
    have H1 : (some false) = some r := by rw [if_pos rfl] at H; exact H
    clear H
    have H := H1
    clear H1
    obtain rfl := Option.some.inj H
    go_wp2
    go_ret
    exact ⟨by first | rfl | (simp [errW_none, errW_some] <;> rfl) | (simp [*, errW_none, errW_some] <;> rfl), by repeat (first | (with_reducible first | exact HB.out | apply below_alloc | apply pw_below_drewN | apply below_drew1 | refine below_set ?_ GE117.out) | exact HB.out)⟩
   ·replace c7 := Bool.eq_false_iff.mpr c7
    subst c7
    have H1 : (if a0_0 = 1 then (louverref22_May.j1 kj1 true a0_0 a0_1 a0_2 a0_3 a0_4 l0_5) else (louverref22_May.j1 kj1 (a0_0 == 3) a0_0 a0_1 a0_2 a0_3 a0_4 l0_5)) = some r := by rw [if_neg (show ¬ (false = true) by decide)] at H; exact H
    clear H
    have H := H1
    clear H1
    have HC8 := Aside0.mk H
    clear H
    go_upto_region 3 with (fail)
    go_cut [3] (fun v3 wc => ∃ (kq : Nat) (x3_7 : Bool), v3 = .bool x3_7 ∧ Aside0 (louverref22_May.j1 kq x3_7 a0_0 a0_1 a0_2 a0_3 a0_4 l0_5 = some r) ∧ Aside0 (kq ≤ kj1) ∧ Aside0 (wc.heap[gb117]? = some (.cells #[.int .u8 a0_0, .int .u32 a0_1, .string a0_2, .int .u64 a0_3, .int .u8 a0_4, (.slice A0_5 l0_5.length c0_5)] 26 (0, 0))) ∧ Aside0 (Below w.heap.size w wc))
    case first =>
     have H := HC8.out
     clear HC8
     by_cases c9 : a0_0 = 1
     ·rw [if_pos c9] at H
      have c9b0 : (a0_0 == 1) = true := beq_iff_eq.mpr c9
      have c9b1 : (a0_0 != 1) = false := bne_eq_false_iff_eq.mpr c9
      clear c9
      (first | rw [c9b0] | (simp only [i64_w, i32_w]; rw [c9b0]) | skip)
      have H' := Aside0.mk H
      clear H
      have hcz10_0 : wc.cell? ⟨gb117, 0, none⟩ = some (.int .u8 a0_0) := (blk_cell BK117.out 0).trans rfl
      have hcz10_1 : wc.cell? ⟨gb117, 1, none⟩ = some (.int .u32 a0_1) := (blk_cell BK117.out 1).trans rfl
      have hcz10_2 : wc.cell? ⟨gb117, 2, none⟩ = some (.string a0_2) := (blk_cell BK117.out 2).trans rfl
      have hcz10_3 : wc.cell? ⟨gb117, 3, none⟩ = some (.int .u64 a0_3) := (blk_cell BK117.out 3).trans rfl
      have hcz10_4 : wc.cell? ⟨gb117, 4, none⟩ = some (.int .u8 a0_4) := (blk_cell BK117.out 4).trans rfl
      have hcz10_5 : wc.cell? ⟨gb117, 5, none⟩ = some (.slice A0_5 l0_5.length c0_5) := (blk_cell BK117.out 5).trans rfl
      have hfz10_0 := blk_frozen BK117.out 0
      have hfz10_1 := blk_frozen BK117.out 1
      have hfz10_2 := blk_frozen BK117.out 2
      have hfz10_3 := blk_frozen BK117.out 3
      have hfz10_4 := blk_frozen BK117.out 4
      have hfz10_5 := blk_frozen BK117.out 5
      go_wp2
      go_meet
      case rel => exact ⟨_, (true), (by first | rfl | (simp; done) | (simp [*]; done)), H', ⟨by have := HJ1.out; first | omega | exact Nat.le_refl _⟩, ⟨by (with_reducible repeat (first | refine blk_drewN ?_ _ | refine blk_drew ?_ | refine blk_alloc ?_ _)); exact BK117.out⟩, ⟨by repeat (first | (with_reducible first | exact HB.out | apply below_alloc | apply pw_below_drewN | apply below_drew1 | refine below_set ?_ GE117.out) | exact HB.out)⟩⟩
     ·rw [if_neg c9] at H
      have c9b0 : (a0_0 == 1) = false := beq_eq_false_iff_ne.mpr c9
      have c9b1 : (a0_0 != 1) = true := bne_iff_ne.mpr c9
      (first | rw [c9b0] | (simp only [i64_w, i32_w]; rw [c9b0]) | skip)
      have H' := Aside0.mk H
      clear H
      have hcz11_0 : wc.cell? ⟨gb117, 0, none⟩ = some (.int .u8 a0_0) := (blk_cell BK117.out 0).trans rfl
      have hcz11_1 : wc.cell? ⟨gb117, 1, none⟩ = some (.int .u32 a0_1) := (blk_cell BK117.out 1).trans rfl
      have hcz11_2 : wc.cell? ⟨gb117, 2, none⟩ = some (.string a0_2) := (blk_cell BK117.out 2).trans rfl
      have hcz11_3 : wc.cell? ⟨gb117, 3, none⟩ = some (.int .u64 a0_3) := (blk_cell BK117.out 3).trans rfl
      have hcz11_4 : wc.cell? ⟨gb117, 4, none⟩ = some (.int .u8 a0_4) := (blk_cell BK117.out 4).trans rfl
      have hcz11_5 : wc.cell? ⟨gb117, 5, none⟩ = some (.slice A0_5 l0_5.length c0_5) := (blk_cell BK117.out 5).trans rfl
      have hfz11_0 := blk_frozen BK117.out 0
      have hfz11_1 := blk_frozen BK117.out 1
      have hfz11_2 := blk_frozen BK117.out 2
      have hfz11_3 := blk_frozen BK117.out 3
      have hfz11_4 := blk_frozen BK117.out 4
      have hfz11_5 := blk_frozen BK117.out 5
      go_wp2
      go_meet
      case rel => exact ⟨_, ((a0_0 == 3)), (by first | rfl | (simp; done) | (simp [*]; done)), H', ⟨by have := HJ1.out; first | omega | exact Nat.le_refl _⟩, ⟨by (with_reducible repeat (first | refine blk_drewN ?_ _ | refine blk_drew ?_ | refine blk_alloc ?_ _)); exact BK117.out⟩, ⟨by repeat (first | (with_reducible first | exact HB.out | apply below_alloc | apply pw_below_drewN | apply below_drew1 | refine below_set ?_ GE117.out) | exact HB.out)⟩⟩
    case rest =>
     clear HC8
     try clear c1
     try clear p2
     try clear c4
     try clear c4b0
     try clear c4b1
     try clear c7
     try clear c9
     try clear c9b0
     try clear c9b1
     try clear c10
     try clear hcz10_0
     try clear hcz10_1
     try clear hcz10_2
     try clear hcz10_3
     try clear hcz10_4
     try clear hcz10_5
     try clear hcz11_0
     try clear hcz11_1
     try clear hcz11_2
     try clear hcz11_3
     try clear hcz11_4
     try clear hcz11_5
     try clear hcz5_0
     try clear hcz5_1
     try clear hcz5_2
     try clear hcz5_3
     try clear hcz5_4
     try clear hcz5_5
     try clear hcz6_0
     try clear hcz6_1
     try clear hcz6_2
     try clear hcz6_3
     try clear hcz6_4
     try clear hcz6_5
     try clear hfz10_0
     try clear hfz10_1
     try clear hfz10_2
     try clear hfz10_3
     try clear hfz10_4
     try clear hfz10_5
     try clear hfz11_0
     try clear hfz11_1
     try clear hfz11_2
     try clear hfz11_3
     try clear hfz11_4
     try clear hfz11_5
     try clear hfz5_0
     try clear hfz5_1
     try clear hfz5_2
     try clear hfz5_3
     try clear hfz5_4
     try clear hfz5_5
     try clear hfz6_0
     try clear hfz6_1
     try clear hfz6_2
     try clear hfz6_3
     try clear hfz6_4
     try clear hfz6_5
     try clear p2
     obtain ⟨kq, x3_7, rfl, HA, HJ7, BK117, HB⟩ := hcut
     cases kq with
     | zero => exact absurd HA.out (by simp [louverref22_May.j1])
     | succ kj7 =>
      have H := HA.out
      clear HA
      simp only [louverref22_May.j1] at H
      have HC12 := Aside0.mk H
      clear H
      go_upto_region 4 with (fail)
      go_cut [35] (fun v35 wc => ∃ (kq : Nat) (x35_11 : Bool), v35 = .bool x35_11 ∧ Aside0 (louverref22_May.j2 kq x35_11 a0_0 a0_1 a0_2 a0_3 a0_4 l0_5 = some r) ∧ Aside0 (kq ≤ kj7) ∧ Aside0 (wc.heap[gb117]? = some (.cells #[.int .u8 a0_0, .int .u32 a0_1, .string a0_2, .int .u64 a0_3, .int .u8 a0_4, (.slice A0_5 l0_5.length c0_5)] 26 (0, 0))) ∧ Aside0 (Below w.heap.size w wc))
      case first =>
       have H := HC12.out
       clear HC12
       by_cases c13 : x3_7 = true
       ·subst c13
        have H1 : ((louverref21_May.f kj7 a0_2).bind fun t118 => (if t118 = true then (louverref22_May.j2 kj7 false a0_0 a0_1 a0_2 a0_3 a0_4 l0_5) else (louverref22_May.j2 kj7 true a0_0 a0_1 a0_2 a0_3 a0_4 l0_5))) = some r := by rw [if_pos rfl] at H; exact H
        clear H
        have H := H1
        clear H1
        replace H := Option.bind_eq_some_iff.mp H
        obtain ⟨t118, A140, H⟩ := H
        replace H : (if t118 = true then (louverref22_May.j2 kj7 false a0_0 a0_1 a0_2 a0_3 a0_4 l0_5) else (louverref22_May.j2 kj7 true a0_0 a0_1 a0_2 a0_3 a0_4 l0_5)) = some r := H
        have A14 := Aside0.mk A140
        clear A140
        by_cases c15 : t118 = true
        ·subst c15
         have H1 : (louverref22_May.j2 kj7 false a0_0 a0_1 a0_2 a0_3 a0_4 l0_5) = some r := by rw [if_pos rfl] at H; exact H
         clear H
         have H := H1
         clear H1
         have H' := Aside0.mk H
         clear H
         have hcz16_0 : wc.cell? ⟨gb117, 0, none⟩ = some (.int .u8 a0_0) := (blk_cell BK117.out 0).trans rfl
         have hcz16_1 : wc.cell? ⟨gb117, 1, none⟩ = some (.int .u32 a0_1) := (blk_cell BK117.out 1).trans rfl
         have hcz16_2 : wc.cell? ⟨gb117, 2, none⟩ = some (.string a0_2) := (blk_cell BK117.out 2).trans rfl
         have hcz16_3 : wc.cell? ⟨gb117, 3, none⟩ = some (.int .u64 a0_3) := (blk_cell BK117.out 3).trans rfl
         have hcz16_4 : wc.cell? ⟨gb117, 4, none⟩ = some (.int .u8 a0_4) := (blk_cell BK117.out 4).trans rfl
         have hcz16_5 : wc.cell? ⟨gb117, 5, none⟩ = some (.slice A0_5 l0_5.length c0_5) := (blk_cell BK117.out 5).trans rfl
         have hfz16_0 := blk_frozen BK117.out 0
         have hfz16_1 := blk_frozen BK117.out 1
         have hfz16_2 := blk_frozen BK117.out 2
         have hfz16_3 := blk_frozen BK117.out 3
         have hfz16_4 := blk_frozen BK117.out 4
         have hfz16_5 := blk_frozen BK117.out 5
         go_wp2_with (first | (go_at_call 16; (with_reducible refine (louverref21_May.calls kj7 a0_2 true _ A14.out).mono ?_); rintro e w17 ⟨rfl, hb⟩; have n0_ := Aside0.mk (blk_below (g := gb117) (o := .cells #[.int .u8 a0_0, .int .u32 a0_1, .string a0_2, .int .u64 a0_3, .int .u8 a0_4, .slice A0_5 l0_5.length c0_5] 26 (0, 0)) (by (with_reducible repeat (first | refine blk_drewN ?_ _ | refine blk_drew ?_ | refine blk_alloc ?_ _)); exact BK117.out) hb); have n1_ := Aside0.mk (below_step (by repeat (first | (with_reducible first | exact HB.out | apply below_alloc | apply pw_below_drewN | apply below_drew1 | refine below_set ?_ GE117.out) | exact HB.out)) hb); clear BK117; clear HB; have BK117 := n0_; have HB := n1_; clear n0_ n1_; (try clear hb); (try clear hb2); (try clear hk); (try clear hi)))
         go_meet
         case rel => exact ⟨_, (false), (by first | rfl | (simp; done) | (simp [*]; done)), H', ⟨by have := HJ1.out; have := HJ7.out; first | omega | exact Nat.le_refl _⟩, ⟨by (with_reducible repeat (first | refine blk_drewN ?_ _ | refine blk_drew ?_ | refine blk_alloc ?_ _)); exact BK117.out⟩, ⟨by repeat (first | (with_reducible first | exact HB.out | apply below_alloc | apply pw_below_drewN | apply below_drew1 | refine below_set ?_ GE117.out) | exact HB.out)⟩⟩
        ·replace c15 := Bool.eq_false_iff.mpr c15
         subst c15
         have H1 : (louverref22_May.j2 kj7 true a0_0 a0_1 a0_2 a0_3 a0_4 l0_5) = some r := by rw [if_neg (show ¬ (false = true) by decide)] at H; exact H
         clear H
         have H := H1
         clear H1
         have H' := Aside0.mk H
         clear H
         have hcz18_0 : wc.cell? ⟨gb117, 0, none⟩ = some (.int .u8 a0_0) := (blk_cell BK117.out 0).trans rfl
         have hcz18_1 : wc.cell? ⟨gb117, 1, none⟩ = some (.int .u32 a0_1) := (blk_cell BK117.out 1).trans rfl
         have hcz18_2 : wc.cell? ⟨gb117, 2, none⟩ = some (.string a0_2) := (blk_cell BK117.out 2).trans rfl
         have hcz18_3 : wc.cell? ⟨gb117, 3, none⟩ = some (.int .u64 a0_3) := (blk_cell BK117.out 3).trans rfl
         have hcz18_4 : wc.cell? ⟨gb117, 4, none⟩ = some (.int .u8 a0_4) := (blk_cell BK117.out 4).trans rfl
         have hcz18_5 : wc.cell? ⟨gb117, 5, none⟩ = some (.slice A0_5 l0_5.length c0_5) := (blk_cell BK117.out 5).trans rfl
         have hfz18_0 := blk_frozen BK117.out 0
         have hfz18_1 := blk_frozen BK117.out 1
         have hfz18_2 := blk_frozen BK117.out 2
         have hfz18_3 := blk_frozen BK117.out 3
         have hfz18_4 := blk_frozen BK117.out 4
         have hfz18_5 := blk_frozen BK117.out 5
         go_wp2_with (first | (go_at_call 16; (with_reducible refine (louverref21_May.calls kj7 a0_2 false _ A14.out).mono ?_); rintro e w19 ⟨rfl, hb⟩; have n0_ := Aside0.mk (blk_below (g := gb117) (o := .cells #[.int .u8 a0_0, .int .u32 a0_1, .string a0_2, .int .u64 a0_3, .int .u8 a0_4, .slice A0_5 l0_5.length c0_5] 26 (0, 0)) (by (with_reducible repeat (first | refine blk_drewN ?_ _ | refine blk_drew ?_ | refine blk_alloc ?_ _)); exact BK117.out) hb); have n1_ := Aside0.mk (below_step (by repeat (first | (with_reducible first | exact HB.out | apply below_alloc | apply pw_below_drewN | apply below_drew1 | refine below_set ?_ GE117.out) | exact HB.out)) hb); clear BK117; clear HB; have BK117 := n0_; have HB := n1_; clear n0_ n1_; (try clear hb); (try clear hb2); (try clear hk); (try clear hi)))
         go_meet
         case rel => exact ⟨_, (true), (by first | rfl | (simp; done) | (simp [*]; done)), H', ⟨by have := HJ1.out; have := HJ7.out; first | omega | exact Nat.le_refl _⟩, ⟨by (with_reducible repeat (first | refine blk_drewN ?_ _ | refine blk_drew ?_ | refine blk_alloc ?_ _)); exact BK117.out⟩, ⟨by repeat (first | (with_reducible first | exact HB.out | apply below_alloc | apply pw_below_drewN | apply below_drew1 | refine below_set ?_ GE117.out) | exact HB.out)⟩⟩
       ·replace c13 := Bool.eq_false_iff.mpr c13
        subst c13
        have H1 : (louverref22_May.j2 kj7 (a0_2.toList != ([] : List UInt8)) a0_0 a0_1 a0_2 a0_3 a0_4 l0_5) = some r := by rw [if_neg (show ¬ (false = true) by decide)] at H; exact H
        clear H
        have H := H1
        clear H1
        have H' := Aside0.mk H
        clear H
        have hcz20_0 : wc.cell? ⟨gb117, 0, none⟩ = some (.int .u8 a0_0) := (blk_cell BK117.out 0).trans rfl
        have hcz20_1 : wc.cell? ⟨gb117, 1, none⟩ = some (.int .u32 a0_1) := (blk_cell BK117.out 1).trans rfl
        have hcz20_2 : wc.cell? ⟨gb117, 2, none⟩ = some (.string a0_2) := (blk_cell BK117.out 2).trans rfl
        have hcz20_3 : wc.cell? ⟨gb117, 3, none⟩ = some (.int .u64 a0_3) := (blk_cell BK117.out 3).trans rfl
        have hcz20_4 : wc.cell? ⟨gb117, 4, none⟩ = some (.int .u8 a0_4) := (blk_cell BK117.out 4).trans rfl
        have hcz20_5 : wc.cell? ⟨gb117, 5, none⟩ = some (.slice A0_5 l0_5.length c0_5) := (blk_cell BK117.out 5).trans rfl
        have hfz20_0 := blk_frozen BK117.out 0
        have hfz20_1 := blk_frozen BK117.out 1
        have hfz20_2 := blk_frozen BK117.out 2
        have hfz20_3 := blk_frozen BK117.out 3
        have hfz20_4 := blk_frozen BK117.out 4
        have hfz20_5 := blk_frozen BK117.out 5
        go_wp2
        go_meet
        case rel => exact ⟨_, ((a0_2.toList != ([] : List UInt8))), (by first | rfl | (simp; done) | (simp [*]; done)), H', ⟨by have := HJ1.out; have := HJ7.out; first | omega | exact Nat.le_refl _⟩, ⟨by (with_reducible repeat (first | refine blk_drewN ?_ _ | refine blk_drew ?_ | refine blk_alloc ?_ _)); exact BK117.out⟩, ⟨by repeat (first | (with_reducible first | exact HB.out | apply below_alloc | apply pw_below_drewN | apply below_drew1 | refine below_set ?_ GE117.out) | exact HB.out)⟩⟩
      case rest =>
       clear HC12
       try clear c1
       try clear p2
       try clear c4
       try clear c4b0
       try clear c4b1
       try clear c7
       try clear c9
       try clear c9b0
       try clear c9b1
       try clear c10
       try clear c13
       try clear c15
       try clear hcz10_0
       try clear hcz10_1
       try clear hcz10_2
       try clear hcz10_3
       try clear hcz10_4
       try clear hcz10_5
       try clear hcz11_0
       try clear hcz11_1
       try clear hcz11_2
       try clear hcz11_3
       try clear hcz11_4
       try clear hcz11_5
       try clear hcz16_0
       try clear hcz16_1
       try clear hcz16_2
       try clear hcz16_3
       try clear hcz16_4
       try clear hcz16_5
       try clear hcz18_0
       try clear hcz18_1
       try clear hcz18_2
       try clear hcz18_3
       try clear hcz18_4
       try clear hcz18_5
       try clear hcz20_0
       try clear hcz20_1
       try clear hcz20_2
       try clear hcz20_3
       try clear hcz20_4
       try clear hcz20_5
       try clear hcz5_0
       try clear hcz5_1
       try clear hcz5_2
       try clear hcz5_3
       try clear hcz5_4
       try clear hcz5_5
       try clear hcz6_0
       try clear hcz6_1
       try clear hcz6_2
       try clear hcz6_3
       try clear hcz6_4
       try clear hcz6_5
       try clear hfz10_0
       try clear hfz10_1
       try clear hfz10_2
       try clear hfz10_3
       try clear hfz10_4
       try clear hfz10_5
       try clear hfz11_0
       try clear hfz11_1
       try clear hfz11_2
       try clear hfz11_3
       try clear hfz11_4
       try clear hfz11_5
       try clear hfz16_0
       try clear hfz16_1
       try clear hfz16_2
       try clear hfz16_3
       try clear hfz16_4
       try clear hfz16_5
       try clear hfz18_0
       try clear hfz18_1
       try clear hfz18_2
       try clear hfz18_3
       try clear hfz18_4
       try clear hfz18_5
       try clear hfz20_0
       try clear hfz20_1
       try clear hfz20_2
       try clear hfz20_3
       try clear hfz20_4
       try clear hfz20_5
       try clear hfz5_0
       try clear hfz5_1
       try clear hfz5_2
       try clear hfz5_3
       try clear hfz5_4
       try clear hfz5_5
       try clear hfz6_0
       try clear hfz6_1
       try clear hfz6_2
       try clear hfz6_3
       try clear hfz6_4
       try clear hfz6_5
       try clear p2
       obtain ⟨kq, x35_11, rfl, HA, HJ11, BK117, HB⟩ := hcut
       cases kq with
       | zero => exact absurd HA.out (by simp [louverref22_May.j2])
       | succ kj11 =>
        have H := HA.out
        clear HA
        simp only [louverref22_May.j2] at H
        by_cases c21 : x35_11 = true
        ·subst c21
         have H1 : (some false) = some r := by rw [if_pos rfl] at H; exact H
         clear H
         have H := H1
         clear H1
         obtain rfl := Option.some.inj H
         go_wp2
         go_ret
         exact ⟨by first | rfl | (simp [errW_none, errW_some] <;> rfl) | (simp [*, errW_none, errW_some] <;> rfl), by repeat (first | (with_reducible first | exact HB.out | apply below_alloc | apply pw_below_drewN | apply below_drew1 | refine below_set ?_ GE117.out) | exact HB.out)⟩
        ·replace c21 := Bool.eq_false_iff.mpr c21
         subst c21
         have H1 : ((louverref22_seq.f a0_0).bind fun t119 => (if t119 = true then (if a0_0 = 8 then (if a0_4 = 0 then (louverref22_May.j3 kj11 true a0_0 a0_1 a0_2 a0_3 a0_4 l0_5) else (if a0_4 > 5 then (louverref22_May.j3 kj11 true a0_0 a0_1 a0_2 a0_3 a0_4 l0_5) else (louverref22_May.j3 kj11 false a0_0 a0_1 a0_2 a0_3 a0_4 l0_5))) else (louverref22_May.j3 kj11 (a0_4 != 0) a0_0 a0_1 a0_2 a0_3 a0_4 l0_5)) else (if a0_3 = 0 then (if a0_0 = 8 then (if a0_4 = 0 then (louverref22_May.j3 kj11 true a0_0 a0_1 a0_2 a0_3 a0_4 l0_5) else (if a0_4 > 5 then (louverref22_May.j3 kj11 true a0_0 a0_1 a0_2 a0_3 a0_4 l0_5) else (louverref22_May.j3 kj11 false a0_0 a0_1 a0_2 a0_3 a0_4 l0_5))) else (louverref22_May.j3 kj11 (a0_4 != 0) a0_0 a0_1 a0_2 a0_3 a0_4 l0_5)) else (louverref22_May.j3 kj11 true a0_0 a0_1 a0_2 a0_3 a0_4 l0_5)))) = some r := by rw [if_neg (show ¬ (false = true) by decide)] at H; exact H
         clear H
         have H := H1
         clear H1
         have HC22 := Aside0.mk H
         clear H
         go_upto_region 6 with (fail)
         go_cut [69] (fun v69 wc => ∃ (kq : Nat) (x69_21 : Bool), v69 = .bool x69_21 ∧ Aside0 (louverref22_May.j3 kq x69_21 a0_0 a0_1 a0_2 a0_3 a0_4 l0_5 = some r) ∧ Aside0 (kq ≤ kj11) ∧ Aside0 (wc.heap[gb117]? = some (.cells #[.int .u8 a0_0, .int .u32 a0_1, .string a0_2, .int .u64 a0_3, .int .u8 a0_4, (.slice A0_5 l0_5.length c0_5)] 26 (0, 0))) ∧ Aside0 (Below w.heap.size w wc))
         case first =>
          have H := HC22.out
          clear HC22
          replace H := Option.bind_eq_some_iff.mp H
          obtain ⟨t119, A230, H⟩ := H
          replace H : (if t119 = true then (if a0_0 = 8 then (if a0_4 = 0 then (louverref22_May.j3 kj11 true a0_0 a0_1 a0_2 a0_3 a0_4 l0_5) else (if a0_4 > 5 then (louverref22_May.j3 kj11 true a0_0 a0_1 a0_2 a0_3 a0_4 l0_5) else (louverref22_May.j3 kj11 false a0_0 a0_1 a0_2 a0_3 a0_4 l0_5))) else (louverref22_May.j3 kj11 (a0_4 != 0) a0_0 a0_1 a0_2 a0_3 a0_4 l0_5)) else (if a0_3 = 0 then (if a0_0 = 8 then (if a0_4 = 0 then (louverref22_May.j3 kj11 true a0_0 a0_1 a0_2 a0_3 a0_4 l0_5) else (if a0_4 > 5 then (louverref22_May.j3 kj11 true a0_0 a0_1 a0_2 a0_3 a0_4 l0_5) else (louverref22_May.j3 kj11 false a0_0 a0_1 a0_2 a0_3 a0_4 l0_5))) else (louverref22_May.j3 kj11 (a0_4 != 0) a0_0 a0_1 a0_2 a0_3 a0_4 l0_5)) else (louverref22_May.j3 kj11 true a0_0 a0_1 a0_2 a0_3 a0_4 l0_5))) = some r := H
          have A23 := Aside0.mk A230
          clear A230
          by_cases c24 : t119 = true
          ·subst c24
           have H1 : (if a0_0 = 8 then (if a0_4 = 0 then (louverref22_May.j3 kj11 true a0_0 a0_1 a0_2 a0_3 a0_4 l0_5) else (if a0_4 > 5 then (louverref22_May.j3 kj11 true a0_0 a0_1 a0_2 a0_3 a0_4 l0_5) else (louverref22_May.j3 kj11 false a0_0 a0_1 a0_2 a0_3 a0_4 l0_5))) else (louverref22_May.j3 kj11 (a0_4 != 0) a0_0 a0_1 a0_2 a0_3 a0_4 l0_5)) = some r := by rw [if_pos rfl] at H; exact H
           clear H
           have H := H1
           clear H1
           by_cases c25 : a0_0 = 8
           ·rw [if_pos c25] at H
            have c25b0 : (a0_0 == 8) = true := beq_iff_eq.mpr c25
            have c25b1 : (a0_0 != 8) = false := bne_eq_false_iff_eq.mpr c25
            clear c25
            (first | rw [c25b0] | (simp only [i64_w, i32_w]; rw [c25b0]) | skip)
            by_cases c26 : a0_4 = 0
            ·rw [if_pos c26] at H
             have c26b0 : (a0_4 == 0) = true := beq_iff_eq.mpr c26
             have c26b1 : (a0_4 != 0) = false := bne_eq_false_iff_eq.mpr c26
             clear c26
             have H' := Aside0.mk H
             clear H
             have hcz27_0 : wc.cell? ⟨gb117, 0, none⟩ = some (.int .u8 a0_0) := (blk_cell BK117.out 0).trans rfl
             have hcz27_1 : wc.cell? ⟨gb117, 1, none⟩ = some (.int .u32 a0_1) := (blk_cell BK117.out 1).trans rfl
             have hcz27_2 : wc.cell? ⟨gb117, 2, none⟩ = some (.string a0_2) := (blk_cell BK117.out 2).trans rfl
             have hcz27_3 : wc.cell? ⟨gb117, 3, none⟩ = some (.int .u64 a0_3) := (blk_cell BK117.out 3).trans rfl
             have hcz27_4 : wc.cell? ⟨gb117, 4, none⟩ = some (.int .u8 a0_4) := (blk_cell BK117.out 4).trans rfl
             have hcz27_5 : wc.cell? ⟨gb117, 5, none⟩ = some (.slice A0_5 l0_5.length c0_5) := (blk_cell BK117.out 5).trans rfl
             have hfz27_0 := blk_frozen BK117.out 0
             have hfz27_1 := blk_frozen BK117.out 1
             have hfz27_2 := blk_frozen BK117.out 2
             have hfz27_3 := blk_frozen BK117.out 3
             have hfz27_4 := blk_frozen BK117.out 4
             have hfz27_5 := blk_frozen BK117.out 5
             go_wp2_with (first | ((with_reducible refine gate_callee (f := 32) rfl ?_); refine goesL_ (some 38) rfl rfl Tryd.func32 (by kernel_rfl) rfl #[.int .u8 a0_0] rfl (by (try simp only [List.map_toArray, List.map_cons, List.map_nil]); first | done | rfl | (simp only [List.length_drop, List.length_take]; rfl)) ?_; (with_reducible refine (louverref22_seq.calls a0_0 true _ A23.out).mono ?_); rintro e w' ⟨rfl, ⟨nd, rfl⟩⟩; refine ⟨_, rfl, ?_⟩))
             go_meet
             case rel => exact ⟨_, (true), (by first | rfl | (simp; done) | (simp [*]; done)), H', ⟨by have := HJ1.out; have := HJ7.out; have := HJ11.out; first | omega | exact Nat.le_refl _⟩, ⟨by (with_reducible repeat (first | refine blk_drewN ?_ _ | refine blk_drew ?_ | refine blk_alloc ?_ _)); exact BK117.out⟩, ⟨by repeat (first | (with_reducible first | exact HB.out | apply below_alloc | apply pw_below_drewN | apply below_drew1 | refine below_set ?_ GE117.out) | exact HB.out)⟩⟩
            ·rw [if_neg c26] at H
             have c26b0 : (a0_4 == 0) = false := beq_eq_false_iff_ne.mpr c26
             have c26b1 : (a0_4 != 0) = true := bne_iff_ne.mpr c26
             by_cases c28 : a0_4 > 5
             ·rw [if_pos c28] at H
              have c28b0 : decide (5 < a0_4) = true := decide_eq_true c28
              clear c28
              have H' := Aside0.mk H
              clear H
              have hcz29_0 : wc.cell? ⟨gb117, 0, none⟩ = some (.int .u8 a0_0) := (blk_cell BK117.out 0).trans rfl
              have hcz29_1 : wc.cell? ⟨gb117, 1, none⟩ = some (.int .u32 a0_1) := (blk_cell BK117.out 1).trans rfl
              have hcz29_2 : wc.cell? ⟨gb117, 2, none⟩ = some (.string a0_2) := (blk_cell BK117.out 2).trans rfl
              have hcz29_3 : wc.cell? ⟨gb117, 3, none⟩ = some (.int .u64 a0_3) := (blk_cell BK117.out 3).trans rfl
              have hcz29_4 : wc.cell? ⟨gb117, 4, none⟩ = some (.int .u8 a0_4) := (blk_cell BK117.out 4).trans rfl
              have hcz29_5 : wc.cell? ⟨gb117, 5, none⟩ = some (.slice A0_5 l0_5.length c0_5) := (blk_cell BK117.out 5).trans rfl
              have hfz29_0 := blk_frozen BK117.out 0
              have hfz29_1 := blk_frozen BK117.out 1
              have hfz29_2 := blk_frozen BK117.out 2
              have hfz29_3 := blk_frozen BK117.out 3
              have hfz29_4 := blk_frozen BK117.out 4
              have hfz29_5 := blk_frozen BK117.out 5
              go_wp2_with (first | ((with_reducible refine gate_callee (f := 32) rfl ?_); refine goesL_ (some 38) rfl rfl Tryd.func32 (by kernel_rfl) rfl #[.int .u8 a0_0] rfl (by (try simp only [List.map_toArray, List.map_cons, List.map_nil]); first | done | rfl | (simp only [List.length_drop, List.length_take]; rfl)) ?_; (with_reducible refine (louverref22_seq.calls a0_0 true _ A23.out).mono ?_); rintro e w' ⟨rfl, ⟨nd, rfl⟩⟩; refine ⟨_, rfl, ?_⟩))
              go_meet
              case rel => exact ⟨_, (true), (by first | rfl | (simp; done) | (simp [*]; done)), H', ⟨by have := HJ1.out; have := HJ7.out; have := HJ11.out; first | omega | exact Nat.le_refl _⟩, ⟨by (with_reducible repeat (first | refine blk_drewN ?_ _ | refine blk_drew ?_ | refine blk_alloc ?_ _)); exact BK117.out⟩, ⟨by repeat (first | (with_reducible first | exact HB.out | apply below_alloc | apply pw_below_drewN | apply below_drew1 | refine below_set ?_ GE117.out) | exact HB.out)⟩⟩
             ·rw [if_neg c28] at H
              have c28b0 : decide (5 < a0_4) = false := decide_eq_false c28
              clear c28
              have H' := Aside0.mk H
              clear H
              have hcz30_0 : wc.cell? ⟨gb117, 0, none⟩ = some (.int .u8 a0_0) := (blk_cell BK117.out 0).trans rfl
              have hcz30_1 : wc.cell? ⟨gb117, 1, none⟩ = some (.int .u32 a0_1) := (blk_cell BK117.out 1).trans rfl
              have hcz30_2 : wc.cell? ⟨gb117, 2, none⟩ = some (.string a0_2) := (blk_cell BK117.out 2).trans rfl
              have hcz30_3 : wc.cell? ⟨gb117, 3, none⟩ = some (.int .u64 a0_3) := (blk_cell BK117.out 3).trans rfl
              have hcz30_4 : wc.cell? ⟨gb117, 4, none⟩ = some (.int .u8 a0_4) := (blk_cell BK117.out 4).trans rfl
              have hcz30_5 : wc.cell? ⟨gb117, 5, none⟩ = some (.slice A0_5 l0_5.length c0_5) := (blk_cell BK117.out 5).trans rfl
              have hfz30_0 := blk_frozen BK117.out 0
              have hfz30_1 := blk_frozen BK117.out 1
              have hfz30_2 := blk_frozen BK117.out 2
              have hfz30_3 := blk_frozen BK117.out 3
              have hfz30_4 := blk_frozen BK117.out 4
              have hfz30_5 := blk_frozen BK117.out 5
              go_wp2_with (first | ((with_reducible refine gate_callee (f := 32) rfl ?_); refine goesL_ (some 38) rfl rfl Tryd.func32 (by kernel_rfl) rfl #[.int .u8 a0_0] rfl (by (try simp only [List.map_toArray, List.map_cons, List.map_nil]); first | done | rfl | (simp only [List.length_drop, List.length_take]; rfl)) ?_; (with_reducible refine (louverref22_seq.calls a0_0 true _ A23.out).mono ?_); rintro e w' ⟨rfl, ⟨nd, rfl⟩⟩; refine ⟨_, rfl, ?_⟩))
              go_meet
              case rel => exact ⟨_, (false), (by first | rfl | (simp; done) | (simp [*]; done)), H', ⟨by have := HJ1.out; have := HJ7.out; have := HJ11.out; first | omega | exact Nat.le_refl _⟩, ⟨by (with_reducible repeat (first | refine blk_drewN ?_ _ | refine blk_drew ?_ | refine blk_alloc ?_ _)); exact BK117.out⟩, ⟨by repeat (first | (with_reducible first | exact HB.out | apply below_alloc | apply pw_below_drewN | apply below_drew1 | refine below_set ?_ GE117.out) | exact HB.out)⟩⟩
           ·rw [if_neg c25] at H
            have c25b0 : (a0_0 == 8) = false := beq_eq_false_iff_ne.mpr c25
            have c25b1 : (a0_0 != 8) = true := bne_iff_ne.mpr c25
            (first | rw [c25b0] | (simp only [i64_w, i32_w]; rw [c25b0]) | skip)
            have H' := Aside0.mk H
            clear H
            have hcz31_0 : wc.cell? ⟨gb117, 0, none⟩ = some (.int .u8 a0_0) := (blk_cell BK117.out 0).trans rfl
            have hcz31_1 : wc.cell? ⟨gb117, 1, none⟩ = some (.int .u32 a0_1) := (blk_cell BK117.out 1).trans rfl
            have hcz31_2 : wc.cell? ⟨gb117, 2, none⟩ = some (.string a0_2) := (blk_cell BK117.out 2).trans rfl
            have hcz31_3 : wc.cell? ⟨gb117, 3, none⟩ = some (.int .u64 a0_3) := (blk_cell BK117.out 3).trans rfl
            have hcz31_4 : wc.cell? ⟨gb117, 4, none⟩ = some (.int .u8 a0_4) := (blk_cell BK117.out 4).trans rfl
            have hcz31_5 : wc.cell? ⟨gb117, 5, none⟩ = some (.slice A0_5 l0_5.length c0_5) := (blk_cell BK117.out 5).trans rfl
            have hfz31_0 := blk_frozen BK117.out 0
            have hfz31_1 := blk_frozen BK117.out 1
            have hfz31_2 := blk_frozen BK117.out 2
            have hfz31_3 := blk_frozen BK117.out 3
            have hfz31_4 := blk_frozen BK117.out 4
            have hfz31_5 := blk_frozen BK117.out 5
            go_wp2_with (first | ((with_reducible refine gate_callee (f := 32) rfl ?_); refine goesL_ (some 38) rfl rfl Tryd.func32 (by kernel_rfl) rfl #[.int .u8 a0_0] rfl (by (try simp only [List.map_toArray, List.map_cons, List.map_nil]); first | done | rfl | (simp only [List.length_drop, List.length_take]; rfl)) ?_; (with_reducible refine (louverref22_seq.calls a0_0 true _ A23.out).mono ?_); rintro e w' ⟨rfl, ⟨nd, rfl⟩⟩; refine ⟨_, rfl, ?_⟩))
            go_meet
            case rel => exact ⟨_, ((a0_4 != 0)), (by first | rfl | (simp; done) | (simp [*]; done)), H', ⟨by have := HJ1.out; have := HJ7.out; have := HJ11.out; first | omega | exact Nat.le_refl _⟩, ⟨by (with_reducible repeat (first | refine blk_drewN ?_ _ | refine blk_drew ?_ | refine blk_alloc ?_ _)); exact BK117.out⟩, ⟨by repeat (first | (with_reducible first | exact HB.out | apply below_alloc | apply pw_below_drewN | apply below_drew1 | refine below_set ?_ GE117.out) | exact HB.out)⟩⟩
          ·replace c24 := Bool.eq_false_iff.mpr c24
           subst c24
           have H1 : (if a0_3 = 0 then (if a0_0 = 8 then (if a0_4 = 0 then (louverref22_May.j3 kj11 true a0_0 a0_1 a0_2 a0_3 a0_4 l0_5) else (if a0_4 > 5 then (louverref22_May.j3 kj11 true a0_0 a0_1 a0_2 a0_3 a0_4 l0_5) else (louverref22_May.j3 kj11 false a0_0 a0_1 a0_2 a0_3 a0_4 l0_5))) else (louverref22_May.j3 kj11 (a0_4 != 0) a0_0 a0_1 a0_2 a0_3 a0_4 l0_5)) else (louverref22_May.j3 kj11 true a0_0 a0_1 a0_2 a0_3 a0_4 l0_5)) = some r := by rw [if_neg (show ¬ (false = true) by decide)] at H; exact H
           clear H
           have H := H1
           clear H1
           by_cases c32 : a0_3 = 0
           ·rw [if_pos c32] at H
            have c32b0 : (a0_3 == 0) = true := beq_iff_eq.mpr c32
            have c32b1 : (a0_3 != 0) = false := bne_eq_false_iff_eq.mpr c32
            clear c32
            by_cases c33 : a0_0 = 8
            ·rw [if_pos c33] at H
             have c33b0 : (a0_0 == 8) = true := beq_iff_eq.mpr c33
             have c33b1 : (a0_0 != 8) = false := bne_eq_false_iff_eq.mpr c33
             clear c33
             by_cases c34 : a0_4 = 0
             ·rw [if_pos c34] at H
              have c34b0 : (a0_4 == 0) = true := beq_iff_eq.mpr c34
              have c34b1 : (a0_4 != 0) = false := bne_eq_false_iff_eq.mpr c34
              clear c34
              have H' := Aside0.mk H
              clear H
              have hcz35_0 : wc.cell? ⟨gb117, 0, none⟩ = some (.int .u8 a0_0) := (blk_cell BK117.out 0).trans rfl
              have hcz35_1 : wc.cell? ⟨gb117, 1, none⟩ = some (.int .u32 a0_1) := (blk_cell BK117.out 1).trans rfl
              have hcz35_2 : wc.cell? ⟨gb117, 2, none⟩ = some (.string a0_2) := (blk_cell BK117.out 2).trans rfl
              have hcz35_3 : wc.cell? ⟨gb117, 3, none⟩ = some (.int .u64 a0_3) := (blk_cell BK117.out 3).trans rfl
              have hcz35_4 : wc.cell? ⟨gb117, 4, none⟩ = some (.int .u8 a0_4) := (blk_cell BK117.out 4).trans rfl
              have hcz35_5 : wc.cell? ⟨gb117, 5, none⟩ = some (.slice A0_5 l0_5.length c0_5) := (blk_cell BK117.out 5).trans rfl
              have hfz35_0 := blk_frozen BK117.out 0
              have hfz35_1 := blk_frozen BK117.out 1
              have hfz35_2 := blk_frozen BK117.out 2
              have hfz35_3 := blk_frozen BK117.out 3
              have hfz35_4 := blk_frozen BK117.out 4
              have hfz35_5 := blk_frozen BK117.out 5
              go_wp2_with (first | ((with_reducible refine gate_callee (f := 32) rfl ?_); refine goesL_ (some 38) rfl rfl Tryd.func32 (by kernel_rfl) rfl #[.int .u8 a0_0] rfl (by (try simp only [List.map_toArray, List.map_cons, List.map_nil]); first | done | rfl | (simp only [List.length_drop, List.length_take]; rfl)) ?_; (with_reducible refine (louverref22_seq.calls a0_0 false _ A23.out).mono ?_); rintro e w' ⟨rfl, ⟨nd, rfl⟩⟩; refine ⟨_, rfl, ?_⟩))
              go_meet
              case rel => exact ⟨_, (true), (by first | rfl | (simp; done) | (simp [*]; done)), H', ⟨by have := HJ1.out; have := HJ7.out; have := HJ11.out; first | omega | exact Nat.le_refl _⟩, ⟨by (with_reducible repeat (first | refine blk_drewN ?_ _ | refine blk_drew ?_ | refine blk_alloc ?_ _)); exact BK117.out⟩, ⟨by repeat (first | (with_reducible first | exact HB.out | apply below_alloc | apply pw_below_drewN | apply below_drew1 | refine below_set ?_ GE117.out) | exact HB.out)⟩⟩
             ·rw [if_neg c34] at H
              have c34b0 : (a0_4 == 0) = false := beq_eq_false_iff_ne.mpr c34
              have c34b1 : (a0_4 != 0) = true := bne_iff_ne.mpr c34
              by_cases c36 : a0_4 > 5
              ·rw [if_pos c36] at H
               have c36b0 : decide (5 < a0_4) = true := decide_eq_true c36
               clear c36
               have H' := Aside0.mk H
               clear H
               have hcz37_0 : wc.cell? ⟨gb117, 0, none⟩ = some (.int .u8 a0_0) := (blk_cell BK117.out 0).trans rfl
               have hcz37_1 : wc.cell? ⟨gb117, 1, none⟩ = some (.int .u32 a0_1) := (blk_cell BK117.out 1).trans rfl
               have hcz37_2 : wc.cell? ⟨gb117, 2, none⟩ = some (.string a0_2) := (blk_cell BK117.out 2).trans rfl
               have hcz37_3 : wc.cell? ⟨gb117, 3, none⟩ = some (.int .u64 a0_3) := (blk_cell BK117.out 3).trans rfl
               have hcz37_4 : wc.cell? ⟨gb117, 4, none⟩ = some (.int .u8 a0_4) := (blk_cell BK117.out 4).trans rfl
               have hcz37_5 : wc.cell? ⟨gb117, 5, none⟩ = some (.slice A0_5 l0_5.length c0_5) := (blk_cell BK117.out 5).trans rfl
               have hfz37_0 := blk_frozen BK117.out 0
               have hfz37_1 := blk_frozen BK117.out 1
               have hfz37_2 := blk_frozen BK117.out 2
               have hfz37_3 := blk_frozen BK117.out 3
               have hfz37_4 := blk_frozen BK117.out 4
               have hfz37_5 := blk_frozen BK117.out 5
               go_wp2_with (first | ((with_reducible refine gate_callee (f := 32) rfl ?_); refine goesL_ (some 38) rfl rfl Tryd.func32 (by kernel_rfl) rfl #[.int .u8 a0_0] rfl (by (try simp only [List.map_toArray, List.map_cons, List.map_nil]); first | done | rfl | (simp only [List.length_drop, List.length_take]; rfl)) ?_; (with_reducible refine (louverref22_seq.calls a0_0 false _ A23.out).mono ?_); rintro e w' ⟨rfl, ⟨nd, rfl⟩⟩; refine ⟨_, rfl, ?_⟩))
               go_meet
               case rel => exact ⟨_, (true), (by first | rfl | (simp; done) | (simp [*]; done)), H', ⟨by have := HJ1.out; have := HJ7.out; have := HJ11.out; first | omega | exact Nat.le_refl _⟩, ⟨by (with_reducible repeat (first | refine blk_drewN ?_ _ | refine blk_drew ?_ | refine blk_alloc ?_ _)); exact BK117.out⟩, ⟨by repeat (first | (with_reducible first | exact HB.out | apply below_alloc | apply pw_below_drewN | apply below_drew1 | refine below_set ?_ GE117.out) | exact HB.out)⟩⟩
              ·rw [if_neg c36] at H
               have c36b0 : decide (5 < a0_4) = false := decide_eq_false c36
               clear c36
               have H' := Aside0.mk H
               clear H
               have hcz38_0 : wc.cell? ⟨gb117, 0, none⟩ = some (.int .u8 a0_0) := (blk_cell BK117.out 0).trans rfl
               have hcz38_1 : wc.cell? ⟨gb117, 1, none⟩ = some (.int .u32 a0_1) := (blk_cell BK117.out 1).trans rfl
               have hcz38_2 : wc.cell? ⟨gb117, 2, none⟩ = some (.string a0_2) := (blk_cell BK117.out 2).trans rfl
               have hcz38_3 : wc.cell? ⟨gb117, 3, none⟩ = some (.int .u64 a0_3) := (blk_cell BK117.out 3).trans rfl
               have hcz38_4 : wc.cell? ⟨gb117, 4, none⟩ = some (.int .u8 a0_4) := (blk_cell BK117.out 4).trans rfl
               have hcz38_5 : wc.cell? ⟨gb117, 5, none⟩ = some (.slice A0_5 l0_5.length c0_5) := (blk_cell BK117.out 5).trans rfl
               have hfz38_0 := blk_frozen BK117.out 0
               have hfz38_1 := blk_frozen BK117.out 1
               have hfz38_2 := blk_frozen BK117.out 2
               have hfz38_3 := blk_frozen BK117.out 3
               have hfz38_4 := blk_frozen BK117.out 4
               have hfz38_5 := blk_frozen BK117.out 5
               go_wp2_with (first | ((with_reducible refine gate_callee (f := 32) rfl ?_); refine goesL_ (some 38) rfl rfl Tryd.func32 (by kernel_rfl) rfl #[.int .u8 a0_0] rfl (by (try simp only [List.map_toArray, List.map_cons, List.map_nil]); first | done | rfl | (simp only [List.length_drop, List.length_take]; rfl)) ?_; (with_reducible refine (louverref22_seq.calls a0_0 false _ A23.out).mono ?_); rintro e w' ⟨rfl, ⟨nd, rfl⟩⟩; refine ⟨_, rfl, ?_⟩))
               go_meet
               case rel => exact ⟨_, (false), (by first | rfl | (simp; done) | (simp [*]; done)), H', ⟨by have := HJ1.out; have := HJ7.out; have := HJ11.out; first | omega | exact Nat.le_refl _⟩, ⟨by (with_reducible repeat (first | refine blk_drewN ?_ _ | refine blk_drew ?_ | refine blk_alloc ?_ _)); exact BK117.out⟩, ⟨by repeat (first | (with_reducible first | exact HB.out | apply below_alloc | apply pw_below_drewN | apply below_drew1 | refine below_set ?_ GE117.out) | exact HB.out)⟩⟩
            ·rw [if_neg c33] at H
             have c33b0 : (a0_0 == 8) = false := beq_eq_false_iff_ne.mpr c33
             have c33b1 : (a0_0 != 8) = true := bne_iff_ne.mpr c33
             have H' := Aside0.mk H
             clear H
             have hcz39_0 : wc.cell? ⟨gb117, 0, none⟩ = some (.int .u8 a0_0) := (blk_cell BK117.out 0).trans rfl
             have hcz39_1 : wc.cell? ⟨gb117, 1, none⟩ = some (.int .u32 a0_1) := (blk_cell BK117.out 1).trans rfl
             have hcz39_2 : wc.cell? ⟨gb117, 2, none⟩ = some (.string a0_2) := (blk_cell BK117.out 2).trans rfl
             have hcz39_3 : wc.cell? ⟨gb117, 3, none⟩ = some (.int .u64 a0_3) := (blk_cell BK117.out 3).trans rfl
             have hcz39_4 : wc.cell? ⟨gb117, 4, none⟩ = some (.int .u8 a0_4) := (blk_cell BK117.out 4).trans rfl
             have hcz39_5 : wc.cell? ⟨gb117, 5, none⟩ = some (.slice A0_5 l0_5.length c0_5) := (blk_cell BK117.out 5).trans rfl
             have hfz39_0 := blk_frozen BK117.out 0
             have hfz39_1 := blk_frozen BK117.out 1
             have hfz39_2 := blk_frozen BK117.out 2
             have hfz39_3 := blk_frozen BK117.out 3
             have hfz39_4 := blk_frozen BK117.out 4
             have hfz39_5 := blk_frozen BK117.out 5
             go_wp2_with (first | ((with_reducible refine gate_callee (f := 32) rfl ?_); refine goesL_ (some 38) rfl rfl Tryd.func32 (by kernel_rfl) rfl #[.int .u8 a0_0] rfl (by (try simp only [List.map_toArray, List.map_cons, List.map_nil]); first | done | rfl | (simp only [List.length_drop, List.length_take]; rfl)) ?_; (with_reducible refine (louverref22_seq.calls a0_0 false _ A23.out).mono ?_); rintro e w' ⟨rfl, ⟨nd, rfl⟩⟩; refine ⟨_, rfl, ?_⟩))
             go_meet
             case rel => exact ⟨_, ((a0_4 != 0)), (by first | rfl | (simp; done) | (simp [*]; done)), H', ⟨by have := HJ1.out; have := HJ7.out; have := HJ11.out; first | omega | exact Nat.le_refl _⟩, ⟨by (with_reducible repeat (first | refine blk_drewN ?_ _ | refine blk_drew ?_ | refine blk_alloc ?_ _)); exact BK117.out⟩, ⟨by repeat (first | (with_reducible first | exact HB.out | apply below_alloc | apply pw_below_drewN | apply below_drew1 | refine below_set ?_ GE117.out) | exact HB.out)⟩⟩
           ·rw [if_neg c32] at H
            have c32b0 : (a0_3 == 0) = false := beq_eq_false_iff_ne.mpr c32
            have c32b1 : (a0_3 != 0) = true := bne_iff_ne.mpr c32
            have H' := Aside0.mk H
            clear H
            have hcz40_0 : wc.cell? ⟨gb117, 0, none⟩ = some (.int .u8 a0_0) := (blk_cell BK117.out 0).trans rfl
            have hcz40_1 : wc.cell? ⟨gb117, 1, none⟩ = some (.int .u32 a0_1) := (blk_cell BK117.out 1).trans rfl
            have hcz40_2 : wc.cell? ⟨gb117, 2, none⟩ = some (.string a0_2) := (blk_cell BK117.out 2).trans rfl
            have hcz40_3 : wc.cell? ⟨gb117, 3, none⟩ = some (.int .u64 a0_3) := (blk_cell BK117.out 3).trans rfl
            have hcz40_4 : wc.cell? ⟨gb117, 4, none⟩ = some (.int .u8 a0_4) := (blk_cell BK117.out 4).trans rfl
            have hcz40_5 : wc.cell? ⟨gb117, 5, none⟩ = some (.slice A0_5 l0_5.length c0_5) := (blk_cell BK117.out 5).trans rfl
            have hfz40_0 := blk_frozen BK117.out 0
            have hfz40_1 := blk_frozen BK117.out 1
            have hfz40_2 := blk_frozen BK117.out 2
            have hfz40_3 := blk_frozen BK117.out 3
            have hfz40_4 := blk_frozen BK117.out 4
            have hfz40_5 := blk_frozen BK117.out 5
            go_wp2_with (first | ((with_reducible refine gate_callee (f := 32) rfl ?_); refine goesL_ (some 38) rfl rfl Tryd.func32 (by kernel_rfl) rfl #[.int .u8 a0_0] rfl (by (try simp only [List.map_toArray, List.map_cons, List.map_nil]); first | done | rfl | (simp only [List.length_drop, List.length_take]; rfl)) ?_; (with_reducible refine (louverref22_seq.calls a0_0 false _ A23.out).mono ?_); rintro e w' ⟨rfl, ⟨nd, rfl⟩⟩; refine ⟨_, rfl, ?_⟩))
            go_meet
            case rel => exact ⟨_, (true), (by first | rfl | (simp; done) | (simp [*]; done)), H', ⟨by have := HJ1.out; have := HJ7.out; have := HJ11.out; first | omega | exact Nat.le_refl _⟩, ⟨by (with_reducible repeat (first | refine blk_drewN ?_ _ | refine blk_drew ?_ | refine blk_alloc ?_ _)); exact BK117.out⟩, ⟨by repeat (first | (with_reducible first | exact HB.out | apply below_alloc | apply pw_below_drewN | apply below_drew1 | refine below_set ?_ GE117.out) | exact HB.out)⟩⟩
         case rest =>
          clear HC22
          try clear c1
          try clear c2
          try clear p2
          try clear c3
          try clear c4
          try clear c4b0
          try clear c4b1
          try clear c7
          try clear c9
          try clear c9b0
          try clear c9b1
          try clear c10
          try clear c13
          try clear c15
          try clear c21
          try clear c24
          try clear c25
          try clear c25b0
          try clear c25b1
          try clear c26
          try clear c26b0
          try clear c26b1
          try clear c28
          try clear c28b0
          try clear c32
          try clear c32b0
          try clear c32b1
          try clear c33
          try clear c33b0
          try clear c33b1
          try clear c34
          try clear c34b0
          try clear c34b1
          try clear c36
          try clear c36b0
          try clear hcz10_0
          try clear hcz10_1
          try clear hcz10_2
          try clear hcz10_3
          try clear hcz10_4
          try clear hcz10_5
          try clear hcz11_0
          try clear hcz11_1
          try clear hcz11_2
          try clear hcz11_3
          try clear hcz11_4
          try clear hcz11_5
          try clear hcz16_0
          try clear hcz16_1
          try clear hcz16_2
          try clear hcz16_3
          try clear hcz16_4
          try clear hcz16_5
          try clear hcz18_0
          try clear hcz18_1
          try clear hcz18_2
          try clear hcz18_3
          try clear hcz18_4
          try clear hcz18_5
          try clear hcz20_0
          try clear hcz20_1
          try clear hcz20_2
          try clear hcz20_3
          try clear hcz20_4
          try clear hcz20_5
          try clear hcz27_0
          try clear hcz27_1
          try clear hcz27_2
          try clear hcz27_3
          try clear hcz27_4
          try clear hcz27_5
          try clear hcz29_0
          try clear hcz29_1
          try clear hcz29_2
          try clear hcz29_3
          try clear hcz29_4
          try clear hcz29_5
          try clear hcz30_0
          try clear hcz30_1
          try clear hcz30_2
          try clear hcz30_3
          try clear hcz30_4
          try clear hcz30_5
          try clear hcz31_0
          try clear hcz31_1
          try clear hcz31_2
          try clear hcz31_3
          try clear hcz31_4
          try clear hcz31_5
          try clear hcz35_0
          try clear hcz35_1
          try clear hcz35_2
          try clear hcz35_3
          try clear hcz35_4
          try clear hcz35_5
          try clear hcz37_0
          try clear hcz37_1
          try clear hcz37_2
          try clear hcz37_3
          try clear hcz37_4
          try clear hcz37_5
          try clear hcz38_0
          try clear hcz38_1
          try clear hcz38_2
          try clear hcz38_3
          try clear hcz38_4
          try clear hcz38_5
          try clear hcz39_0
          try clear hcz39_1
          try clear hcz39_2
          try clear hcz39_3
          try clear hcz39_4
          try clear hcz39_5
          try clear hcz40_0
          try clear hcz40_1
          try clear hcz40_2
          try clear hcz40_3
          try clear hcz40_4
          try clear hcz40_5
          try clear hcz5_0
          try clear hcz5_1
          try clear hcz5_2
          try clear hcz5_3
          try clear hcz5_4
          try clear hcz5_5
          try clear hcz6_0
          try clear hcz6_1
          try clear hcz6_2
          try clear hcz6_3
          try clear hcz6_4
          try clear hcz6_5
          try clear hfz10_0
          try clear hfz10_1
          try clear hfz10_2
          try clear hfz10_3
          try clear hfz10_4
          try clear hfz10_5
          try clear hfz11_0
          try clear hfz11_1
          try clear hfz11_2
          try clear hfz11_3
          try clear hfz11_4
          try clear hfz11_5
          try clear hfz16_0
          try clear hfz16_1
          try clear hfz16_2
          try clear hfz16_3
          try clear hfz16_4
          try clear hfz16_5
          try clear hfz18_0
          try clear hfz18_1
          try clear hfz18_2
          try clear hfz18_3
          try clear hfz18_4
          try clear hfz18_5
          try clear hfz20_0
          try clear hfz20_1
          try clear hfz20_2
          try clear hfz20_3
          try clear hfz20_4
          try clear hfz20_5
          try clear hfz27_0
          try clear hfz27_1
          try clear hfz27_2
          try clear hfz27_3
          try clear hfz27_4
          try clear hfz27_5
          try clear hfz29_0
          try clear hfz29_1
          try clear hfz29_2
          try clear hfz29_3
          try clear hfz29_4
          try clear hfz29_5
          try clear hfz30_0
          try clear hfz30_1
          try clear hfz30_2
          try clear hfz30_3
          try clear hfz30_4
          try clear hfz30_5
          try clear hfz31_0
          try clear hfz31_1
          try clear hfz31_2
          try clear hfz31_3
          try clear hfz31_4
          try clear hfz31_5
          try clear hfz35_0
          try clear hfz35_1
          try clear hfz35_2
          try clear hfz35_3
          try clear hfz35_4
          try clear hfz35_5
          try clear hfz37_0
          try clear hfz37_1
          try clear hfz37_2
          try clear hfz37_3
          try clear hfz37_4
          try clear hfz37_5
          try clear hfz38_0
          try clear hfz38_1
          try clear hfz38_2
          try clear hfz38_3
          try clear hfz38_4
          try clear hfz38_5
          try clear hfz39_0
          try clear hfz39_1
          try clear hfz39_2
          try clear hfz39_3
          try clear hfz39_4
          try clear hfz39_5
          try clear hfz40_0
          try clear hfz40_1
          try clear hfz40_2
          try clear hfz40_3
          try clear hfz40_4
          try clear hfz40_5
          try clear hfz5_0
          try clear hfz5_1
          try clear hfz5_2
          try clear hfz5_3
          try clear hfz5_4
          try clear hfz5_5
          try clear hfz6_0
          try clear hfz6_1
          try clear hfz6_2
          try clear hfz6_3
          try clear hfz6_4
          try clear hfz6_5
          try clear p2
          obtain ⟨kq, x69_21, rfl, HA, HJ21, BK117, HB⟩ := hcut
          cases kq with
          | zero => exact absurd HA.out (by simp [louverref22_May.j3])
          | succ kj21 =>
           have H := HA.out
           clear HA
           simp only [louverref22_May.j3] at H
           by_cases c41 : x69_21 = true
           ·subst c41
            have H1 : (some false) = some r := by rw [if_pos rfl] at H; exact H
            clear H
            have H := H1
            clear H1
            obtain rfl := Option.some.inj H
            go_wp2
            go_ret
            exact ⟨by first | rfl | (simp [errW_none, errW_some] <;> rfl) | (simp [*, errW_none, errW_some] <;> rfl), by repeat (first | (with_reducible first | exact HB.out | apply below_alloc | apply pw_below_drewN | apply below_drew1 | refine below_set ?_ GE117.out) | exact HB.out)⟩
           ·replace c41 := Bool.eq_false_iff.mpr c41
            subst c41
            have H1 : (if a0_0 = 3 then (some (decide ((l0_5.length : Int) ≤ 2048))) else (if a0_0 = 6 then (some (decide ((l0_5.length : Int) ≤ 2048))) else (some ((l0_5.length : Int) == 0)))) = some r := by rw [if_neg (show ¬ (false = true) by decide)] at H; exact H
            clear H
            have H := H1
            clear H1
            by_cases c42 : a0_0 = 3
            ·rw [if_pos c42] at H
             have c42b0 : (a0_0 == 3) = true := beq_iff_eq.mpr c42
             have c42b1 : (a0_0 != 3) = false := bne_eq_false_iff_eq.mpr c42
             clear c42
             obtain rfl := Option.some.inj H
             have hcz43_0 : wc.cell? ⟨gb117, 0, none⟩ = some (.int .u8 a0_0) := (blk_cell BK117.out 0).trans rfl
             have hcz43_1 : wc.cell? ⟨gb117, 1, none⟩ = some (.int .u32 a0_1) := (blk_cell BK117.out 1).trans rfl
             have hcz43_2 : wc.cell? ⟨gb117, 2, none⟩ = some (.string a0_2) := (blk_cell BK117.out 2).trans rfl
             have hcz43_3 : wc.cell? ⟨gb117, 3, none⟩ = some (.int .u64 a0_3) := (blk_cell BK117.out 3).trans rfl
             have hcz43_4 : wc.cell? ⟨gb117, 4, none⟩ = some (.int .u8 a0_4) := (blk_cell BK117.out 4).trans rfl
             have hcz43_5 : wc.cell? ⟨gb117, 5, none⟩ = some (.slice A0_5 l0_5.length c0_5) := (blk_cell BK117.out 5).trans rfl
             have hfz43_0 := blk_frozen BK117.out 0
             have hfz43_1 := blk_frozen BK117.out 1
             have hfz43_2 := blk_frozen BK117.out 2
             have hfz43_3 := blk_frozen BK117.out 3
             have hfz43_4 := blk_frozen BK117.out 4
             have hfz43_5 := blk_frozen BK117.out 5
             go_wp2
             go_ret
             exact ⟨by first | rfl | (simp [errW_none, errW_some] <;> rfl) | (simp [*, errW_none, errW_some] <;> rfl), by repeat (first | (with_reducible first | exact HB.out | apply below_alloc | apply pw_below_drewN | apply below_drew1 | refine below_set ?_ GE117.out) | exact HB.out)⟩
            ·rw [if_neg c42] at H
             have c42b0 : (a0_0 == 3) = false := beq_eq_false_iff_ne.mpr c42
             have c42b1 : (a0_0 != 3) = true := bne_iff_ne.mpr c42
             by_cases c44 : a0_0 = 6
             ·rw [if_pos c44] at H
              have c44b0 : (a0_0 == 6) = true := beq_iff_eq.mpr c44
              have c44b1 : (a0_0 != 6) = false := bne_eq_false_iff_eq.mpr c44
              clear c44
              obtain rfl := Option.some.inj H
              have hcz45_0 : wc.cell? ⟨gb117, 0, none⟩ = some (.int .u8 a0_0) := (blk_cell BK117.out 0).trans rfl
              have hcz45_1 : wc.cell? ⟨gb117, 1, none⟩ = some (.int .u32 a0_1) := (blk_cell BK117.out 1).trans rfl
              have hcz45_2 : wc.cell? ⟨gb117, 2, none⟩ = some (.string a0_2) := (blk_cell BK117.out 2).trans rfl
              have hcz45_3 : wc.cell? ⟨gb117, 3, none⟩ = some (.int .u64 a0_3) := (blk_cell BK117.out 3).trans rfl
              have hcz45_4 : wc.cell? ⟨gb117, 4, none⟩ = some (.int .u8 a0_4) := (blk_cell BK117.out 4).trans rfl
              have hcz45_5 : wc.cell? ⟨gb117, 5, none⟩ = some (.slice A0_5 l0_5.length c0_5) := (blk_cell BK117.out 5).trans rfl
              have hfz45_0 := blk_frozen BK117.out 0
              have hfz45_1 := blk_frozen BK117.out 1
              have hfz45_2 := blk_frozen BK117.out 2
              have hfz45_3 := blk_frozen BK117.out 3
              have hfz45_4 := blk_frozen BK117.out 4
              have hfz45_5 := blk_frozen BK117.out 5
              go_wp2
              go_ret
              exact ⟨by first | rfl | (simp [errW_none, errW_some] <;> rfl) | (simp [*, errW_none, errW_some] <;> rfl), by repeat (first | (with_reducible first | exact HB.out | apply below_alloc | apply pw_below_drewN | apply below_drew1 | refine below_set ?_ GE117.out) | exact HB.out)⟩
             ·rw [if_neg c44] at H
              have c44b0 : (a0_0 == 6) = false := beq_eq_false_iff_ne.mpr c44
              have c44b1 : (a0_0 != 6) = true := bne_iff_ne.mpr c44
              obtain rfl := Option.some.inj H
              have hcz46_0 : wc.cell? ⟨gb117, 0, none⟩ = some (.int .u8 a0_0) := (blk_cell BK117.out 0).trans rfl
              have hcz46_1 : wc.cell? ⟨gb117, 1, none⟩ = some (.int .u32 a0_1) := (blk_cell BK117.out 1).trans rfl
              have hcz46_2 : wc.cell? ⟨gb117, 2, none⟩ = some (.string a0_2) := (blk_cell BK117.out 2).trans rfl
              have hcz46_3 : wc.cell? ⟨gb117, 3, none⟩ = some (.int .u64 a0_3) := (blk_cell BK117.out 3).trans rfl
              have hcz46_4 : wc.cell? ⟨gb117, 4, none⟩ = some (.int .u8 a0_4) := (blk_cell BK117.out 4).trans rfl
              have hcz46_5 : wc.cell? ⟨gb117, 5, none⟩ = some (.slice A0_5 l0_5.length c0_5) := (blk_cell BK117.out 5).trans rfl
              have hfz46_0 := blk_frozen BK117.out 0
              have hfz46_1 := blk_frozen BK117.out 1
              have hfz46_2 := blk_frozen BK117.out 2
              have hfz46_3 := blk_frozen BK117.out 3
              have hfz46_4 := blk_frozen BK117.out 4
              have hfz46_5 := blk_frozen BK117.out 5
              go_wp2
              go_ret
              exact ⟨by first | rfl | (simp [errW_none, errW_some] <;> rfl) | (simp [*, errW_none, errW_some] <;> rfl), by repeat (first | (with_reducible first | exact HB.out | apply below_alloc | apply pw_below_drewN | apply below_drew1 | refine below_set ?_ GE117.out) | exact HB.out)⟩

end Go.Proofs.YtkgedjaihimafaaDoor.QCmd

/- Plain words on cutting at slashes and joining. No program. -/
namespace Go.Proofs.YtkgedjaihimafaaDoor
set_option linter.unusedVariables false
set_option linter.unusedSimpArgs false
open Go.RowKit Go.Proofs.YtkgedjaihimafaaDoorW.PrintWords

def splitL : List UInt8 → List (List UInt8)
  | [] => [[]]
  | c :: l => if c = 47 then [] :: splitL l else match splitL l with
    | [] => [[c]]
    | h :: t => (c :: h) :: t
theorem splitL_ne : ∀ l, splitL l ≠ []
  | [] => by simp [splitL]
  | c :: l => by
    unfold splitL
    split
    · simp
    · split <;> simp
theorem splitL_cons_ne {c : UInt8} {l h : List UInt8} {t : List (List UInt8)} (hc : c ≠ 47) (e : splitL l = h :: t) : splitL (c :: l) = (c :: h) :: t := by
  unfold splitL
  rw [if_neg hc, e]
theorem splitL_none : ∀ (l : List UInt8), (∀ c ∈ l, c ≠ 47) → splitL l = [l]
  | [], _ => rfl
  | c :: l, h => splitL_cons_ne (h c (by simp)) (splitL_none l fun x hx => h x (by simp [hx]))
theorem splitL_at : ∀ (a b : List UInt8), (∀ c ∈ a, c ≠ 47) → splitL (a ++ 47 :: b) = a :: splitL b
  | [], b, _ => by simp [splitL]
  | c :: a, b, h => splitL_cons_ne (h c (by simp)) (splitL_at a b fun x hx => h x (by simp [hx]))
theorem splitL_sep : ∀ (a r : List UInt8), splitL (a ++ 47 :: r) = splitL a ++ splitL r
  | [], r => by simp [splitL]
  | c :: a, r => by
    by_cases hc : c = 47
    · subst hc
      have e1 : ∀ l, splitL (47 :: l) = [] :: splitL l := fun l => by simp [splitL]
      show splitL (47 :: (a ++ 47 :: r)) = _
      rw [e1, e1, splitL_sep a r]
      rfl
    · obtain ⟨h, t, e⟩ : ∃ h t, splitL a = h :: t := by
        cases e : splitL a with
        | nil => exact absurd e (splitL_ne a)
        | cons h t => exact ⟨h, t, rfl⟩
      have e2 : splitL (a ++ 47 :: r) = h :: (t ++ splitL r) := by rw [splitL_sep a r, e]; rfl
      rw [splitL_cons_ne hc e]
      exact splitL_cons_ne hc e2

theorem join_cons2 (x y : List UInt8) (t : List (List UInt8)) : Lib.join (x :: y :: t) [47] = x ++ 47 :: Lib.join (y :: t) [47] := by
  rw [Lib.join_cons, Lib.join_cons y t]
  simp [Lib.joinTail]
theorem join_split : ∀ l, Lib.join (splitL l) [47] = l
  | [] => by simp [splitL, Lib.join_one]
  | c :: l => by
    have ih := join_split l
    by_cases hc : c = 47
    · subst hc
      unfold splitL
      rw [if_pos rfl]
      cases e : splitL l with
      | nil => exact absurd e (splitL_ne l)
      | cons h t =>
        rw [e] at ih
        rw [join_cons2, ih]
        rfl
    · cases e : splitL l with
      | nil => exact absurd e (splitL_ne l)
      | cons h t =>
        rw [e] at ih
        rw [splitL_cons_ne hc e]
        cases t with
        | nil => rw [Lib.join_one] at ih ⊢; rw [ih]
        | cons y t =>
          rw [join_cons2] at ih ⊢
          rw [List.cons_append, ih]
theorem join_append : ∀ (l t : List (List UInt8)), l ≠ [] → t ≠ [] → Lib.join (l ++ t) [47] = Lib.join l [47] ++ 47 :: Lib.join t [47]
  | [], _, h, _ => absurd rfl h
  | [x], t, _, ht => by
    cases t with
    | nil => exact absurd rfl ht
    | cons y t => rw [Lib.join_one]; exact join_cons2 x y t
  | x :: y :: l, t, _, ht => by
    show Lib.join (x :: y :: (l ++ t)) [47] = _
    have ih := join_append (y :: l) t (by simp) ht
    rw [join_cons2, join_cons2, List.append_assoc]
    congr 1
    show _ = 47 :: (Lib.join (y :: l) [47] ++ _)
    congr 1
/-- One text lies under another one just if its parts begin with that one's, and there are more. -/
theorem prefix_iff (a s : List UInt8) : (a ++ [47]) <+: s ↔ (splitL a).length < (splitL s).length ∧ (splitL s).take (splitL a).length = splitL a := by
  constructor
  · rintro ⟨r, rfl⟩
    rw [List.append_assoc]
    show _ < (splitL (a ++ 47 :: r)).length ∧ (splitL (a ++ 47 :: r)).take _ = _
    rw [splitL_sep]
    have h := List.length_pos_iff.2 (splitL_ne r)
    refine ⟨by rw [List.length_append]; omega, List.take_left' rfl⟩
  · rintro ⟨h1, h2⟩
    have e := List.take_append_drop (splitL a).length (splitL s)
    rw [h2] at e
    have hd : (splitL s).drop (splitL a).length ≠ [] := by
      intro h
      have := congrArg List.length h
      rw [List.length_drop, List.length_nil] at this
      omega
    have j := join_append _ _ (splitL_ne a) hd
    rw [e, join_split, join_split] at j
    refine ⟨Lib.join ((splitL s).drop (splitL a).length) [47], ?_⟩
    rw [List.append_assoc]
    exact j.symm

theorem splitK_split : ∀ (l : List UInt8), Lib.splitK [47] 0 (l.count 47) l = splitL l
  | [] => rfl
  | c :: l => by
    have ih := splitK_split l
    by_cases hc : c = 47
    · subst hc
      have hix : Lib.index (47 :: l) [47] = 0 := by rw [Lib.index]; simp [List.isPrefixOf]
      rw [List.count_cons_self, Lib.splitK, hix]
      unfold splitL
      rw [if_pos rfl]
      simpa using ih
    · rw [List.count_cons_of_ne (by simpa using hc)]
      have hp : ([47] : List UInt8).isPrefixOf (c :: l) = false := by simp [List.isPrefixOf, Ne.symm hc]
      have hix : Lib.index (c :: l) [47] = if Lib.index l [47] == -1 then -1 else Lib.index l [47] + 1 := by rw [Lib.index, hp]; simp
      cases hk : l.count 47 with
      | zero =>
        rw [hk] at ih
        exact (splitL_cons_ne hc ih.symm).symm
      | succ k =>
        rw [hk] at ih
        rw [Lib.splitK] at ih ⊢
        rw [hix]
        by_cases hm : Lib.index l [47] = -1
        · rw [if_pos (by simpa using hm)] at ih
          rw [if_pos (by simp [hm])]
          exact (splitL_cons_ne hc ih.symm).symm
        · have hge := Lib.index_ge l [47]
          rw [if_neg (by simpa using hm)] at ih
          have h1 : ¬ ((if (Lib.index l [47] == -1) = true then -1 else Lib.index l [47] + 1) == -1) = true := by
            rw [if_neg (by simpa using hm)]
            simp
            omega
          rw [if_neg h1, if_neg (by simpa using hm)]
          obtain ⟨j, hj⟩ : ∃ j : Nat, Lib.index l [47] = j := ⟨(Lib.index l [47]).toNat, by omega⟩
          rw [hj] at ih ⊢
          have e1 : (((j : Nat) : Int) + 1).toNat = j + 1 := by omega
          rw [e1]
          simp only [Int.toNat_natCast, Nat.add_zero, List.length_cons, List.length_nil, Nat.zero_add, List.take_succ_cons, List.drop_succ_cons] at ih ⊢
          exact (splitL_cons_ne hc ih.symm).symm

theorem pieces_data (s : ByteArray) : (pieces s).map (·.data.toList) = splitL s.data.toList := by
  unfold pieces
  rw [Lib.splitB_data]
  show Lib.splitK [47] 0 (Lib.count s.data.toList [47]) s.data.toList = _
  rw [Lib.count_one]
  exact splitK_split _
theorem pieces_length (s : ByteArray) : (pieces s).length = (splitL s.data.toList).length := by rw [← pieces_data, List.length_map]
theorem bytes_ext {a b : ByteArray} (h : a.data.toList = b.data.toList) : a = b := by
  cases a; cases b
  simp only [ByteArray.mk.injEq]
  exact Array.toList_inj.1 h
theorem bytes_list_ext {a b : List ByteArray} (h : a.map (·.data.toList) = b.map (·.data.toList)) : a = b :=
  (List.map_inj_right (fun _ _ h => bytes_ext h)).1 h
theorem pieces_map (s : ByteArray) : pieces s = (splitL s.data.toList).map fun l => ⟨l.toArray⟩ := bytes_list_ext (by rw [pieces_data, List.map_map]; exact (List.map_id _).symm)
theorem topicOk_list (s : ByteArray) : topicOk s = (decide (s.size ≤ 64) && (decide ((splitL s.data.toList).length ≤ 16) && (splitL s.data.toList).all isPart)) := by
  unfold topicOk
  rw [pieces_length, ← pieces_data, List.all_map]
  rfl
end Go.Proofs.YtkgedjaihimafaaDoor

/- What the printed functions of the topics' statements come to. -/
namespace Go.Proofs.YtkgedjaihimafaaDoor
set_option linter.unusedVariables false
set_option linter.unusedSimpArgs false
open Go.RowKit Go.Proofs.YtkgedjaihimafaaDoorW.PrintWords Go.Proofs.YtkgedjaihimafaaDoor.QCmd Go.Proofs.YtkgedjaihimafaaDoor.Given

theorem wrap_ok {x : Int} (h0 : -9223372036854775808 ≤ x) (h1 : x ≤ 9223372036854775807) : wrap64 x = x := by
  unfold wrap64
  omega
theorem extract_list (s : ByteArray) (a b : Nat) : (s.extract a b).data.toList = (s.data.toList.drop a).take (b - a) := by
  rw [Lib.extract_data]
theorem bt_at (s : ByteArray) (i : Nat) (h : i < s.size) : bt s (i : Int) = ((s.data.toList[i]'(by simpa using h)).toNat : Int) := by
  unfold bt
  simp only [Int.toNat_natCast]
  rw [dif_pos h]
  simp [ByteArray.getElem_eq_getElem_data]

theorem ev_parts_loop (s : ByteArray) (hs : s.size ≤ 1000000000) : ∀ (d i frm : Nat) (acc : List ByteArray), i ≤ s.size → s.size - i = d → frm ≤ i → (∀ c ∈ (s.data.toList.drop frm).take (i - frm), c ≠ 47) → acc.length ≤ frm →
    Ev (fun k => louverref21_Parts.l0 k s acc (frm : Int) (i : Int)) (acc ++ (splitL (s.data.toList.drop frm)).map fun l => ⟨l.toArray⟩) := by
  have hl : s.data.toList.length = s.size := by simp
  intro d
  induction d with
  | zero =>
    intro i frm acc hi hd hf hno hacc
    obtain rfl : i = s.size := by omega
    have e1 : (s.data.toList.drop frm).take (s.size - frm) = s.data.toList.drop frm := List.take_of_length_le (by rw [List.length_drop]; omega)
    rw [e1] at hno
    rw [splitL_none _ hno]
    refine Ev.step (f := fun k => louverref21_Parts.l0 k s (acc ++ [s.extract frm s.size]) ((s.size : Int) + 1) ((s.size : Int) + 1)) (fun k => ?_) ?_
    · simp only [louverref21_Parts.l0]
      rw [if_pos (by omega), if_pos trivial, if_pos (by omega), if_pos (by omega), if_pos (by omega), wrap_ok (by omega) (by omega)]
      simp only [Int.toNat_natCast]
    · refine Ev.step (f := fun _ => some (acc ++ [s.extract frm s.size])) (fun k => ?_) ?_
      · simp only [louverref21_Parts.l0]
        rw [if_neg (by omega)]
      · have e2 : s.extract frm s.size = ⟨(s.data.toList.drop frm).toArray⟩ := bytes_ext (by rw [extract_list, e1])
        rw [e2]
        exact Ev.now _
  | succ d ih =>
    intro i frm acc hi hd hf hno hacc
    have hlt : i < s.size := by omega
    have hbt := bt_at s i hlt
    have hil : i < s.data.toList.length := by omega
    have hdrop : s.data.toList.drop frm = (s.data.toList.drop frm).take (i - frm) ++ s.data.toList[i] :: s.data.toList.drop (i + 1) := by
      have e := (List.take_append_drop (i - frm) (s.data.toList.drop frm)).symm
      rw [List.drop_drop] at e
      rw [show frm + (i - frm) = i by omega, List.drop_eq_getElem_cons hil] at e
      exact e
    by_cases hc : s.data.toList[i] = 47
    · rw [hc] at hdrop
      rw [hdrop, splitL_at _ _ hno]
      have h2 := ih (i + 1) (i + 1) (acc ++ [s.extract frm i]) (by omega) (by omega) (Nat.le_refl _) (by simp) (by rw [List.length_append, List.length_singleton]; omega)
      refine Ev.step (f := fun k => louverref21_Parts.l0 k s (acc ++ [s.extract frm i]) ((i + 1 : Nat) : Int) ((i + 1 : Nat) : Int)) (fun k => ?_) ?_
      · simp only [louverref21_Parts.l0]
        rw [if_pos (by omega), if_neg (by omega), if_pos (by omega), if_pos (by omega), hbt, hc, if_pos (by decide), if_pos (by omega), if_pos (by omega), if_pos (by omega), wrap_ok (by omega) (by omega)]
        simp only [Int.toNat_natCast]
        rfl
      · have e2 : s.extract frm i = ⟨((s.data.toList.drop frm).take (i - frm)).toArray⟩ := bytes_ext (by rw [extract_list])
        rw [List.map_cons, ← e2]
        rw [List.append_assoc] at h2
        exact h2
    · have h2 := ih (i + 1) frm acc (by omega) (by omega) (by omega) (by
        intro c hc2
        rw [show i + 1 - frm = (i - frm) + 1 by omega, List.take_add_one] at hc2
        rcases List.mem_append.1 hc2 with h | h
        · exact hno c h
        · rw [List.getElem?_drop, show frm + (i - frm) = i by omega, List.getElem?_eq_getElem hil] at h
          have : c = s.data.toList[i] := by simpa using h
          rw [this]
          exact hc) hacc
      refine Ev.step (f := fun k => louverref21_Parts.l0 k s acc (frm : Int) ((i + 1 : Nat) : Int)) (fun k => ?_) h2
      have hne : ¬ (((s.data.toList[i]).toNat : Int) = 47) := by
        intro e
        apply hc
        apply UInt8.toNat_inj.1
        show _ = 47
        omega
      simp only [louverref21_Parts.l0]
      rw [if_pos (by omega), if_neg (by omega), if_pos (by omega), if_pos (by omega), hbt, if_neg hne, wrap_ok (by omega) (by omega)]
      rfl

theorem ev_parts (s : ByteArray) (hs : s.size ≤ 1000000000) : Ev (fun k => louverref21_Parts.f k s) (pieces s) := by
  have h := ev_parts_loop s hs s.size 0 0 [] (Nat.zero_le _) rfl (Nat.le_refl _) (by simp) (Nat.le_refl _)
  rw [pieces_map]
  exact h

theorem letter_some (c : Nat) : louverref21_letter.f (c : Int) = some (chrN c) := by
  unfold louverref21_letter.f chrN
  have e : ((c : Int) == 46) = decide (c = 46) := by rw [Bool.eq_iff_iff]; simp; omega
  rw [e]
  repeat' split
  all_goals simp <;> omega

theorem ev_part_loop (s : ByteArray) (hs : s.size ≤ 1000000000) : ∀ (d i : Nat), i ≤ s.size → s.size - i = d → Ev (fun k => louverref21_part.l0 k s (i : Int)) ((s.data.toList.drop i).all fun c => chrN c.toNat) := by
  have hl : s.data.toList.length = s.size := by simp
  intro d
  induction d with
  | zero =>
    intro i hi hd
    refine Ev.step (f := fun _ => some true) (fun k => ?_) ?_
    · simp only [louverref21_part.l0]
      rw [if_neg (by omega)]
    · rw [List.drop_of_length_le (by omega)]
      exact Ev.now _
  | succ d ih =>
    intro i hi hd
    have hlt : i < s.size := by omega
    have hbt := bt_at s i hlt
    have hil : i < s.data.toList.length := by omega
    rw [List.drop_eq_getElem_cons hil, List.all_cons]
    have h2 := ih (i + 1) (by omega) (by omega)
    cases hc : chrN (s.data.toList[i]).toNat
    · refine Ev.step (f := fun _ => some false) (fun k => ?_) ?_
      · simp only [louverref21_part.l0]
        rw [if_pos (by omega), if_pos (by omega), hbt, letter_some, hc]
        simp
      · simpa using Ev.now false
    · refine Ev.step (f := fun k => louverref21_part.l0 k s ((i + 1 : Nat) : Int)) (fun k => ?_) ?_
      · simp only [louverref21_part.l0]
        rw [if_pos (by omega), if_pos (by omega), hbt, letter_some, hc, wrap_ok (by omega) (by omega)]
        simp
      · simpa using h2

theorem ev_part (s : ByteArray) (hs : s.size ≤ 1000000000) : Ev (fun k => louverref21_part.f k s) (isPart s.data.toList) := by
  have e0 : s.toList = s.data.toList := ByteArray.toList_eq s
  have hj : ∀ b, Ev (fun k => louverref21_part.j0 k s b) (if b = true then false else s.data.toList.all fun c => chrN c.toNat) := by
    intro b
    cases b
    · refine Ev.step (f := fun k => louverref21_part.l0 k s 0) (fun k => ?_) ?_
      · simp only [louverref21_part.j0]
        simp
      · simpa using ev_part_loop s hs s.size 0 (Nat.zero_le _) rfl
    · refine Ev.step (f := fun _ => some false) (fun k => ?_) ?_
      · simp only [louverref21_part.j0]
        simp
      · exact Ev.now _
  unfold isPart louverref21_part.f
  rw [e0]
  by_cases h1 : s.data.toList = []
  · simp only [h1, if_true]
    simpa using hj true
  · by_cases h2 : s.data.toList = [46]
    · simp only [h2]
      simpa using hj true
    · have hb := hj (s.data.toList == [46, 46])
      simp only [h1, h2, if_false]
      refine cast ?_ hb
      congr 1
      by_cases h3 : s.data.toList = [46, 46]
      · simp [h3]
      · have n1 : (s.data.toList != []) = true := by simpa using h1
        have n2 : (s.data.toList != [46]) = true := by simpa using h2
        have n3 : (s.data.toList != [46, 46]) = true := by simpa using h3
        have n4 : (s.data.toList == [46, 46]) = false := by simpa using h3
        rw [n1, n2, n3, n4]
        simp

theorem rd_at (l : List ByteArray) (i : Nat) (h : i < l.length) : rdOf ByteArray.empty l (i : Int) = l[i] := by
  unfold rdOf
  simp only [Int.toNat_natCast]
  rw [List.getD_eq_getElem?_getD, List.getElem?_eq_getElem h]
  rfl

theorem ev_all_loop (l : List ByteArray) (hl : l.length ≤ 1000000000) (hs : ∀ x ∈ l, x.size ≤ 1000000000) : ∀ (d i : Nat), i ≤ l.length → l.length - i = d → Ev (fun k => louverref21_May.l0 k l (l.length : Int) (i : Int)) ((l.drop i).all fun x => isPart x.data.toList) := by
  intro d
  induction d with
  | zero =>
    intro i hi hd
    refine Ev.step (f := fun _ => some true) (fun k => ?_) ?_
    · simp only [louverref21_May.l0]
      rw [if_neg (by omega)]
    · rw [List.drop_of_length_le (by omega)]
      exact Ev.now _
  | succ d ih =>
    intro i hi hd
    have hlt : i < l.length := by omega
    rw [List.drop_eq_getElem_cons hlt, List.all_cons]
    have h2 := ih (i + 1) (by omega) (by omega)
    have h1 := ev_part l[i] (hs _ (List.getElem_mem hlt))
    refine Ev.step (f := fun k => (louverref21_part.f k l[i]).bind fun t => if t = true then louverref21_May.l0 k l (l.length : Int) ((i + 1 : Nat) : Int) else some false) (fun k => ?_) ?_
    · simp only [louverref21_May.l0]
      rw [if_pos (by omega), if_pos (by omega), if_pos (by omega), rd_at l i hlt, wrap_ok (by omega) (by omega)]
      rfl
    · refine Ev.bind h1 ?_
      cases hp : isPart l[i].data.toList
      · simpa using Ev.now false
      · simpa using h2

theorem ev_may (s : ByteArray) (hs : s.size ≤ 1000000000) : Ev (fun k => louverref21_May.f k s) (topicOk s) := by
  have hj : ∀ b, Ev (fun k => louverref21_May.j0 k s b) (if b = true then false else (decide ((pieces s).length ≤ 16) && (pieces s).all (fun x => isPart x.data.toList))) := by
    intro b
    cases b
    · refine Ev.step (f := fun k => (louverref21_Parts.f k s).bind fun t => if (t.length : Int) > 16 then some false else louverref21_May.l0 k t (t.length : Int) 0) (fun k => ?_) ?_
      · simp only [louverref21_May.j0]
        simp
      · refine Ev.bind (ev_parts s hs) ?_
        have hle : (pieces s).length ≤ s.size + 1 := by
          have h : (pieces s).length = Lib.countB s ⟨#[47]⟩ + 1 := Lib.splitB_all ⟨#[47]⟩ (by decide) 0 _ s rfl
          have := Lib.countB_le ⟨#[47]⟩ (by decide) s.size s (Nat.le_refl _)
          omega
        by_cases h16 : (pieces s).length ≤ 16
        · have h := ev_all_loop (pieces s) (by omega) (fun x hx => by have := pieces_size s x hx; omega) _ 0 (Nat.zero_le _) rfl
          simp only [show ¬ ((pieces s).length : Int) > 16 by omega, if_false, h16, decide_true, Bool.true_and, Bool.false_eq_true]
          simpa using h
        · simp only [show ((pieces s).length : Int) > 16 by omega, if_true, h16, decide_false, Bool.false_and, Bool.false_eq_true, if_false]
          exact Ev.now false
    · refine Ev.step (f := fun _ => some false) (fun k => ?_) ?_
      · simp only [louverref21_May.j0]
        simp
      · exact Ev.now _
  unfold louverref21_May.f
  by_cases h0 : s.size = 0
  · have hn : s.data.toList = [] := List.eq_nil_of_length_eq_zero (by simpa using h0)
    have hk : topicOk s = false := by
      rw [topicOk_list, hn]
      simp [splitL, isPart]
    rw [hk]
    simp only [h0]
    simpa using hj true
  · simp only [show ¬ (s.size : Int) = 0 by omega, if_false]
    have h := hj (decide ((s.size : Int) > 64))
    unfold topicOk
    by_cases h64 : s.size ≤ 64
    · have e1 : decide ((s.size : Int) > 64) = false := by rw [decide_eq_false_iff_not]; omega
      have e2 : decide (s.size ≤ 64) = true := by rw [decide_eq_true_iff]; exact h64
      rw [e1] at h ⊢
      rw [e2, Bool.true_and]
      simpa using h
    · have e1 : decide ((s.size : Int) > 64) = true := by rw [decide_eq_true_iff]; omega
      have e2 : decide (s.size ≤ 64) = false := by rw [decide_eq_false_iff_not]; exact h64
      rw [e1] at h ⊢
      rw [e2, Bool.false_and]
      simpa using h

end Go.Proofs.YtkgedjaihimafaaDoor

/- What the printed functions of the commands' statements come to. -/
namespace Go.Proofs.YtkgedjaihimafaaDoor
set_option linter.unusedVariables false
set_option linter.unusedSimpArgs false
open Go.RowKit Go.Proofs.YtkgedjaihimafaaDoorW.PrintWords Go.Proofs.YtkgedjaihimafaaDoorW.PrintMore Go.Proofs.YtkgedjaihimafaaDoor.QCmd Go.Proofs.YtkgedjaihimafaaDoor.Given

/-- May a command be? -/
def cmdOk (kind : Int) (topic : ByteArray) (seq code : Int) (pay : List Int) : Bool :=
  decide (1 ≤ kind ∧ kind ≤ 8) && ((if kind = 1 ∨ kind = 3 then topicOk topic else decide (topic.data.toList = [])) && (decide ((4 ≤ kind ∧ kind ≤ 7) ∨ seq = 0) &&
    ((if kind = 8 then decide (1 ≤ code ∧ code ≤ 5) else decide (code = 0)) && (if kind = 3 ∨ kind = 6 then decide (pay.length ≤ 2048) else decide (pay.length = 0)))))

theorem topicOk_nil {t : ByteArray} (h : t.data.toList = []) : topicOk t = false := by
  rw [topicOk_list, h]
  simp [splitL, isPart]

theorem kinds9 (k : Int) : k < 1 ∨ k = 1 ∨ k = 2 ∨ k = 3 ∨ k = 4 ∨ k = 5 ∨ k = 6 ∨ k = 7 ∨ k = 8 ∨ 8 < k := by omega

set_option maxHeartbeats 2000000 in
theorem ev_refMay (kind id : Int) (topic : ByteArray) (seq code : Int) (pay : List Int) (hk : 0 ≤ kind) (hc : 0 ≤ code) (ht : topic.size ≤ 1000000000) :
    Ev (fun k => louverref22_May.f k kind id topic seq code pay) (cmdOk kind topic seq code pay) := by
  obtain ⟨K, hK⟩ := ev_may topic ht
  refine ⟨K + 4, fun k hk' => ?_⟩
  obtain ⟨m, rfl⟩ : ∃ m, k = m + 1 + 1 + 1 + 1 := ⟨k - 4, by omega⟩
  have h1 := hK (m + 1 + 1) (by omega)
  have ht' : topic.toList = topic.data.toList := ByteArray.toList_eq topic
  simp only [louverref22_May.f, louverref22_May.j0, louverref22_May.j1, louverref22_May.j2, louverref22_May.j3, louverref22_seq.f, h1, Option.bind_some, ht']
  unfold cmdOk
  have hp : ∀ n : Nat, (((n : Int) == 0) = decide (n = 0)) := fun n => by rw [Bool.eq_iff_iff]; simp
  have hq : ∀ n : Nat, decide ((n : Int) ≤ 2048) = decide (n ≤ 2048) := fun n => by rw [decide_eq_decide]; omega
  simp only [hp, hq]
  rcases kinds9 kind with h | h | h | h | h | h | h | h | h | h
  · obtain rfl : kind = 0 := by omega
    simp
  rotate_right
  · simp [h, show ¬ kind = 0 by omega, show ¬ kind ≤ 8 by omega]
  all_goals subst h
  all_goals
    by_cases e1 : topic.data.toList = [] <;> cases e2 : topicOk topic <;> by_cases e3 : seq = 0 <;>
      rcases (show code = 0 ∨ (¬ code = 0 ∧ 1 ≤ code ∧ code ≤ 5 ∧ ¬ 5 < code) ∨ (¬ code = 0 ∧ 1 ≤ code ∧ ¬ code ≤ 5 ∧ 5 < code) by omega) with e4 | ⟨e4, e5, e6, e7⟩ | ⟨e4, e5, e6, e7⟩ <;>
      simp [*]

theorem cmay_some (s : ByteArray) (hs : s.size ≤ 1000000000) : topic_May.f s = some (topicOk s) := by
  unfold topic_May.f
  rw [if_pos hs]
set_option maxHeartbeats 2000000 in
theorem ev_cmdMay (kind id : Int) (topic : ByteArray) (seq code : Int) (pay : List Int) (hk : 0 ≤ kind) (hc : 0 ≤ code) (ht : topic.size ≤ 1000000000) :
    Ev (fun k => command_May.f k kind id topic seq code pay) (cmdOk kind topic seq code pay) := by
  refine ⟨4, fun k hk' => ?_⟩
  obtain ⟨m, rfl⟩ : ∃ m, k = m + 1 + 1 + 1 + 1 := ⟨k - 4, by omega⟩
  have h1 := cmay_some topic ht
  have ht' : topic.toList = topic.data.toList := ByteArray.toList_eq topic
  simp only [command_May.f, command_May.j0, command_May.j1, command_May.j2, command_May.j3, command_topics.f, command_seqs.f, command_payloads.f, h1, Option.bind_some, ht']
  unfold cmdOk
  have hq : ∀ n : Nat, decide ((n : Int) ≤ 2048) = decide (n ≤ 2048) := fun n => by rw [decide_eq_decide]; omega
  have hz : ∀ n : Nat, ((n : Int) = 0) = (n = 0) := fun n => by rw [eq_iff_iff]; omega
  simp only [hq, hz]
  have hnil := @topicOk_nil topic
  have hpl : pay.length = 0 → pay.length ≤ 2048 := fun h => by omega
  rcases kinds9 kind with h | h | h | h | h | h | h | h | h | h
  · obtain rfl : kind = 0 := by omega
    simp
  rotate_right
  · simp [h, show ¬ kind < 1 by omega, show ¬ kind ≤ 8 by omega]
  all_goals subst h
  all_goals
    by_cases e1 : topic.data.toList = [] <;> cases e2 : topicOk topic <;> by_cases e3 : seq = 0 <;> by_cases e8 : pay.length = 0 <;>
      rcases (show (code = 0 ∧ ¬ 1 ≤ code) ∨ (¬ code = 0 ∧ 1 ≤ code ∧ code ≤ 5) ∨ (¬ code = 0 ∧ 1 ≤ code ∧ ¬ code ≤ 5) by omega) with ⟨e4, e5⟩ | ⟨e4, e5, e6⟩ | ⟨e4, e5, e6⟩ <;>
      simp_all
  all_goals
    split
    · rename_i h
      simp [h]
    · rename_i h
      simp [h]

/-- The low m bytes of a number, the high one first. -/
def beL (n : Int) : Nat → List Int
  | 0 => []
  | m + 1 => (n / 2 ^ (8 * m)) % 256 :: beL n m
theorem beL_length (n : Int) : ∀ m, (beL n m).length = m
  | 0 => rfl
  | m + 1 => by simp [beL, beL_length n m]
theorem wrap_okC {x : Int} (h0 : -9223372036854775808 ≤ x) (h1 : x ≤ 9223372036854775807) : wrap64 x = x := by
  unfold wrap64
  omega
theorem ev_number_loop (n : Int) : ∀ (m : Nat) (l : List Int), m ≤ 8 → l.length + m ≤ 1000000 → Ev (fun k => command_number.l0 k l n (8 * (m : Int) - 8)) (l ++ beL n m)
  | 0, l, _, _ => by
    refine Ev.step (f := fun _ => some l) (fun k => ?_) ?_
    · simp only [command_number.l0]
      rw [if_neg (by omega)]
    · simpa [beL] using Ev.now l
  | m + 1, l, hm, hl => by
    have ih := ev_number_loop n m (l ++ [(n / 2 ^ (8 * m)) % 256]) (by omega) (by simp; omega)
    have es : shr .u64 n (8 * ((m + 1 : Nat) : Int) - 8) = n / 2 ^ (8 * m) := by
      unfold shr
      rw [show (8 * ((m + 1 : Nat) : Int) - 8).toNat = 8 * m by omega, Nat.min_eq_left (by show 8 * m ≤ 64; omega)]
    refine Ev.step (f := fun k => command_number.l0 k (l ++ [(n / 2 ^ (8 * m)) % 256]) n (8 * (m : Int) - 8)) (fun k => ?_) ?_
    · simp only [command_number.l0]
      rw [if_pos (by omega), if_pos (by omega), if_pos (by omega), es, wrap_okC (x := 8 * ((m + 1 : Nat) : Int) - 8 - 8) (by omega) (by omega)]
      rw [show 8 * ((m + 1 : Nat) : Int) - 8 - 8 = 8 * (m : Int) - 8 by omega]
    · rw [List.append_assoc] at ih
      exact ih
theorem ev_number (l : List Int) (n : Int) (m : Nat) (hm : m ≤ 8) (hl : l.length + m ≤ 1000000) : Ev (fun k => command_number.f k l n (m : Int)) (l ++ beL n m) := by
  unfold command_number.f
  have e : wrap64 (8 * (wrap64 ((m : Int) - 1))) = 8 * (m : Int) - 8 := by
    rw [wrap_okC (x := (m : Int) - 1) (by omega) (by omega), wrap_okC (by omega) (by omega)]
    omega
  rw [e]
  exact ev_number_loop n m l hm hl

/-- A command's writing. -/
def putL (kind id : Int) (topic : ByteArray) (seq code : Int) (pay : List Int) : List Int :=
  ((((([kind] ++ beL id 4) ++ (if kind = 3 then [((topic.size : Int)) % 256] else [])) ++ bytesOf topic) ++ (if 4 ≤ kind ∧ kind ≤ 7 then beL seq 8 else [])) ++ (if kind = 8 then [code] else [])) ++ pay

theorem ev_put (kind id : Int) (topic : ByteArray) (seq code : Int) (pay : List Int) (hk : 0 ≤ kind) (hc : 0 ≤ code) (hi0 : 0 ≤ id) (hi1 : id ≤ 4294967295) (ht : topic.size ≤ 3000) (hp : pay.length ≤ 9000) :
    Ev (fun k => command_Put.f k kind id topic seq code pay) (if cmdOk kind topic seq code pay = true then putL kind id topic seq code pay else []) := by
  have hw : IntKind.u64.wrap id = id := by
    simp [IntKind.wrap, IntKind.bits, IntKind.signed]
    omega
  have hj : ∀ l : List Int, l.length ≤ 100 → Ev (fun k => command_Put.j0 k l kind id topic seq code pay) ((((l ++ bytesOf topic) ++ (if 4 ≤ kind ∧ kind ≤ 7 then beL seq 8 else [])) ++ (if kind = 8 then [code] else [])) ++ pay) := by
    intro l hl
    have hb : (bytesOf topic).length = topic.size := bytesOf_length topic
    have hs : command_seqs.f kind = some (decide (4 ≤ kind ∧ kind ≤ 7)) := by
      unfold command_seqs.f
      by_cases h4 : kind ≥ 4
      · rw [if_pos h4]
        congr 1
        rw [decide_eq_decide]
        omega
      · rw [if_neg h4]
        congr 1
        symm
        rw [decide_eq_false_iff_not]
        omega
    by_cases h47 : 4 ≤ kind ∧ kind ≤ 7
    · refine Ev.step (f := fun k => (command_number.f k (l ++ bytesOf topic) seq 8).bind fun t => some (t ++ pay)) (fun k => ?_) ?_
      · simp only [command_Put.j0]
        rw [if_pos (by omega), hs, decide_eq_true h47]
        simp only [Option.bind_some, if_true, show ¬ kind = 8 by omega, if_false]
        cases hn : command_number.f k (l ++ bytesOf topic) seq 8 with
        | none => rfl
        | some r =>
          simp only [Option.bind_some]
          rw [if_pos]
          have hK := ev_number (l ++ bytesOf topic) seq 8 (by decide) (by rw [List.length_append]; omega)
          obtain ⟨K, hK⟩ := hK
          have h1 := at_rounds (g := fun k => command_number.f k (l ++ bytesOf topic) seq 8) (fun k => command_number.mono _ _ _ k) (Nat.le_max_left k K) hn
          have h2 := hK (max k K) (Nat.le_max_right _ _)
          have h3 : r = l ++ bytesOf topic ++ beL seq 8 := Option.some.inj (h1.symm.trans h2)
          rw [h3]
          simp only [List.length_append, beL_length]
          omega
      · rw [if_pos h47, if_neg (by omega), List.append_nil]
        exact Ev.bind (ev_number (l ++ bytesOf topic) seq 8 (by decide) (by rw [List.length_append]; omega)) (Ev.now _)
    · rw [if_neg h47, List.append_nil]
      refine Ev.step (f := fun _ => some (((l ++ bytesOf topic) ++ (if kind = 8 then [code] else [])) ++ pay)) (fun k => ?_) (Ev.now _)
      simp only [command_Put.j0]
      rw [if_pos (by omega), hs, decide_eq_false h47]
      simp only [Option.bind_some, Bool.false_eq_true, if_false]
      by_cases h8 : kind = 8
      · simp only [h8, if_true]
        rw [if_pos (by rw [List.length_append]; omega)]
        show (if _ then _ else _) = _
        rw [if_pos (by simp only [List.length_append, List.length_singleton]; omega)]
      · simp only [h8, if_false, List.append_nil]
        rw [if_pos (by simp only [List.length_append]; omega)]
  unfold command_Put.f
  refine Ev.bind (ev_cmdMay kind id topic seq code pay hk hc (by omega)) ?_
  cases cmdOk kind topic seq code pay
  · simp
    exact Ev.now _
  · simp only [if_true, hw]
    refine Ev.bind (ev_number [kind] id 4 (by decide) (by simp)) ?_
    unfold putL
    by_cases h3 : kind = 3
    · have hl : ([kind] ++ beL id 4).length < 140737488355328 := by rw [List.length_append, beL_length, List.length_singleton]; decide
      simp only [h3, if_true] at hl ⊢
      simp only [hl, if_true]
      have := hj ([kind] ++ beL id 4 ++ [((topic.size : Int)) % 256]) (by simp [beL_length])
      rw [h3] at this
      exact this
    · simp only [h3, if_false, List.append_nil]
      exact hj ([kind] ++ beL id 4) (by simp [beL_length])
end Go.Proofs.YtkgedjaihimafaaDoor

/- Small laws on memory: append of a row that is read, as a run and as a step of a region that draws its order; blocks kept. No program. -/
namespace Go.Proofs.YtkgedjaihimafaaDoor
set_option linter.unusedVariables false
set_option linter.unusedSimpArgs false
open Go.RowKit Go.Proofs.YtkgedjaihimafaaDoorW.PrintWords

section
variable {P : Program}
theorem run_append_row (W : World) (base : Nat) (t ty e : TypeId) (k : IntKind) (bytes : Nat) (ht : P.underlying t = some (.slice e))
    (hinfo : (P.info? e).map (fun i => (i.zero, i.size, i.bytes)) = some (some (.int k 0), 1, bytes)) (hb0 : 0 < bytes)
    (v : Value) (xs ys : List Int) (A : Option Addr) (m c : Nat) (HO : W.ownsRow base e 1 v xs.length (nums k xs)) (HR : ReadsInt W k A m ys) (hbase : base ≤ W.heap.size)
    (hl : (xs.length + m) * bytes ≤ 140737488355328) :
    ∃ v1 w1, (Builtin.append_ #[t, t] ty #[v, .slice A m c]).run P W = .ok v1 w1 ∧ w1.ownsRow base e 1 v1 (xs ++ ys).length (nums k (xs ++ ys)) ∧ W.grownBy w1 v.ownBlock ∧
      (v1.ownBlock = v.ownBlock ∨ v1.ownBlock = some W.heap.size) := by
  obtain ⟨i0, hi, hq⟩ := Option.map_eq_some_iff.1 hinfo
  simp only [Prod.mk.injEq] at hq
  have hn : xs.length + m ≤ 140737488355328 := Nat.le_trans (Nat.le_mul_of_pos_right _ hb0) hl
  cases A with
  | none =>
    have hm0 : m = 0 := Nat.eq_zero_of_not_pos fun h => by obtain ⟨_, h1, _⟩ := HR.2.2 h; cases h1
    have hy : ys = [] := List.eq_nil_of_length_eq_zero (by have := HR.1; omega)
    subst hm0 hy
    refine ⟨v, W, ?_, by simpa using HO, World.grownBy.refl W _, .inl rfl⟩
    rcases HO.2 with ⟨hv, _⟩ | ⟨g, cap, cur, hv, _, _, hcap, _⟩ <;> subst hv <;>
      simp [Builtin.append_, run_underlying ht, sizeOf, typeInfo, hi, Builtin.lenOf, Builtin.firstCells, storeCells] <;> omega
  | some ad =>
    have hlen : ys.length = m := HR.1
    have hcell : ∀ j u, (nums k ys)[j]? = some u → W.cell? (ad.add j) = some u := fun j u hu => by
      have hj : j < ys.length := by
        have := (List.getElem?_eq_some_iff.1 hu).1
        rwa [nums_length] at this
      obtain ⟨a2, e2, hc⟩ := HR.2.2 (by omega)
      obtain rfl := Option.some.inj e2
      rw [hc j (by omega), ← hu]
      simp [nums, List.getD_eq_getElem?_getD, List.getElem?_eq_getElem hj]
    obtain ⟨v1, w1, h1, h2, h3, _, h5⟩ := run_append_own_at (P := P) W base t ty e i0 (.int k 0) 1 bytes ht hi hq.1 hq.2.1 hq.2.2 rfl (by decide) v xs.length (nums k xs) HO ad m c (nums k ys)
      (by rw [nums_length, hlen, Nat.mul_one]) hcell (fun u hu => by obtain ⟨q, _, rfl⟩ := List.mem_map.1 hu; rfl) (by unfold maxLen; omega) hl hbase
    refine ⟨v1, w1, h1, ?_, h3, h5⟩
    rw [nums_append, List.length_append, hlen]
    exact h2

variable {ops : Array Oper} {o : Oper} {a : Act} {K : Act → World → Prop} {Q : Exit → Act → World → Prop} {E : Prop}
/-- 'append(v, ys...)', ys a row that is read, nil let in, at a step of a region that draws its order. -/
theorem step_append_row (W : World) (hgd : o.guard = none) (s x : Operand) (t : TypeId) (ho : o.op = .call { callee := .builtin .append, args := #[s, x], argTypes := #[t, t] })
    (base : Nat) (e : TypeId) (k : IntKind) (bytes : Nat) (ht : P.underlying t = some (.slice e))
    (hinfo : (P.info? e).map (fun i => (i.zero, i.size, i.bytes)) = some (some (.int k 0), 1, bytes)) (hb0 : 0 < bytes)
    (v : Value) (xs ys : List Int) (A : Option Addr) (m c : Nat) (hs : a.eval s = v) (hx : a.eval x = .slice A m c)
    (HO : W.ownsRow base e 1 v xs.length (nums k xs)) (HR : ReadsInt W k A m ys) (hbase : base ≤ W.heap.size) (hl : (xs.length + m) * bytes ≤ 140737488355328)
    (h : ∀ v1 w1, w1.ownsRow base e 1 v1 (xs ++ ys).length (nums k (xs ++ ys)) → W.grownBy w1 v.ownBlock → (v1.ownBlock = v.ownBlock ∨ v1.ownBlock = some W.heap.size) → K (a.put o.dst v1) w1) :
    if Region.wanted o (yielded ops a.tmps) = true then Oper.wp P o a W K Q else E := by
  rw [if_pos (by simp [Region.wanted, hgd])]
  obtain ⟨v1, w1, hr, h1, h2, h3⟩ := run_append_row W base t o.type e k bytes ht hinfo hb0 v xs ys A m c HO HR hbase hl
  unfold Oper.wp execOp
  simp only [ho, resolve, invoke, builtin, Sem.run_bind, Sem.run_pure, Result.andThen_ok, List.map_toArray, List.map_cons, List.map_nil, hs, hx, hr]
  exact h v1 w1 h1 h2 h3
end

theorem keepBut_alloc {w W : World} {g : Nat} {row : Option Nat} (h : KeepBut w W g row) (o : Obj) : KeepBut w (W.alloc o) g row :=
  ⟨by have := h.1; simp; omega, fun i hi hg hr => (Below.heap_alloc W o i (by have := h.1; omega)).trans (h.2 i hi hg hr)⟩
theorem keepBut_row {w W : World} {g : Nat} {row : Option Nat} (h : KeepBut w W g none) : KeepBut w W g row := ⟨h.1, fun i hi hg _ => h.2 i hi hg (by simp)⟩
theorem keepBut_grown {w W W1 : World} {g : Nat} {row : Option Nat} (h : KeepBut w W g row) (hg : W.grownBy W1 row) : KeepBut w W1 g row :=
  ⟨Nat.le_trans h.1 hg.size, fun i hi hne hr => (hg.block i (by have := h.1; omega) hr).trans (h.2 i hi hne hr)⟩
/-- Does a row that is read lie elsewhere than block g? -/
def Elsewhere (A : Option Addr) (n g : Nat) : Prop := ∀ ad, A = some ad → 0 < n → ad.block ≠ g
theorem add_block (a : Addr) (j : Nat) : (a.add j).block = a.block := by unfold Addr.add; split <;> rfl
theorem reads_keep {w W : World} {g : Nat} {k : IntKind} {A : Option Addr} {n : Nat} {xs : List Int} (h : ReadsInt w k A n xs) (hK : KeepBut w W g none) (hE : Elsewhere A n g) : ReadsInt W k A n xs :=
  ⟨h.1, h.2.1, fun hn => by
    obtain ⟨ad, e, hc⟩ := h.2.2 hn
    refine ⟨ad, e, fun j hj => ?_⟩
    have hcell := hc j hj
    have hb := World.block_lt_of_cell? w _ hcell
    rw [add_block] at hb
    rw [← hcell]
    exact World.cell?_of_block (by rw [add_block]; exact hK.2 _ hb (hE ad e hn) (by simp))⟩
theorem grown_drew {w w1 : World} {row : Option Nat} (h : w.drew.grownBy w1 row) : w.grownBy w1 row := ⟨h.os, h.tape, h.output, h.size, h.block⟩
theorem keepBut_drewN {w W : World} {g : Nat} {row : Option Nat} (h : KeepBut w W g row) (n : Nat) : KeepBut w (W.drewN n) g row := h
theorem own_drewN {w : World} {base n size : Nat} {e : TypeId} {v : Value} {xs : List Value} (h : w.ownsRow base e size v n xs) (k : Nat) : (w.drewN k).ownsRow base e size v n xs := h
theorem blk_at {w : World} {n : Nat} (o : Obj) (hn : n = w.heap.size) : (w.alloc o).heap[n]? = some o := by subst hn; exact blk_new w o
theorem blk_new1 (w : World) (o1 o2 : Obj) : ((w.alloc o1).alloc o2).heap[w.heap.size + 1]? = some o2 := blk_at o2 (by simp)
theorem blk_new2 (w : World) (o1 o2 o3 : Obj) : (((w.alloc o1).alloc o2).alloc o3).heap[w.heap.size + 1 + 1]? = some o3 := blk_at o3 (by simp)
theorem below_alloc3 (w : World) (o1 o2 o3 : Obj) : Below w.heap.size w (((w.alloc o1).alloc o2).alloc o3) := (((Below.refl _ _).alloc (Nat.le_refl _) _).alloc (by simp) _).alloc (by simp; omega) _
end Go.Proofs.YtkgedjaihimafaaDoor

/- append of a row that is read, as a step of a list. No program. -/
namespace Go.Proofs.YtkgedjaihimafaaDoor
set_option linter.unusedVariables false
set_option linter.unusedSimpArgs false
open Go.RowKit Go.Proofs.YtkgedjaihimafaaDoorW.PrintWords
section
variable {P : Program} {ops : Array Oper} {rest : List Oper} {o : Oper} {a : Act} {Q : Exit → Act → World → Prop}
theorem list_append_row (W : World) (hgd : o.guard = none) (s x : Operand) (t : TypeId) (ho : o.op = .call { callee := .builtin .append, args := #[s, x], argTypes := #[t, t] })
    (base : Nat) (e : TypeId) (k : IntKind) (bytes : Nat) (ht : P.underlying t = some (.slice e))
    (hinfo : (P.info? e).map (fun i => (i.zero, i.size, i.bytes)) = some (some (.int k 0), 1, bytes)) (hb0 : 0 < bytes)
    (v : Value) (xs ys : List Int) (A : Option Addr) (m c : Nat) (hs : a.eval s = v) (hx : a.eval x = .slice A m c)
    (HO : W.ownsRow base e 1 v xs.length (nums k xs)) (HR : ReadsInt W k A m ys) (hbase : base ≤ W.heap.size) (hl : (xs.length + m) * bytes ≤ 140737488355328)
    (h : ∀ v1 w1, w1.ownsRow base e 1 v1 (xs ++ ys).length (nums k (xs ++ ys)) → W.grownBy w1 v.ownBlock → (v1.ownBlock = v.ownBlock ∨ v1.ownBlock = some W.heap.size) → wpList P ops Q rest (a.put o.dst v1) w1) :
    wpList P ops Q (o :: rest) a W :=
  wpList_plain hgd fun _ hK => by
    obtain ⟨v1, w1, hr, h1, h2, h3⟩ := run_append_row W base t o.type e k bytes ht hinfo hb0 v xs ys A m c HO HR hbase hl
    unfold Oper.wp execOp
    simp only [ho, resolve, invoke, builtin, Sem.run_bind, Sem.run_pure, Result.andThen_ok, List.map_toArray, List.map_cons, List.map_nil, hs, hx, hr]
    exact hK _ _ (h v1 w1 h1 h2 h3)
theorem own_empty (W : World) (base : Nat) (e : TypeId) (hb : base ≤ W.heap.size) : (W.alloc (.cells #[] e)).ownsRow base e 1 (.slice (some ⟨W.heap.size, 0, none⟩) 0 0) 0 (nums .u8 []) :=
  World.ownsRow_lit (base := base) (e := e) (size := 1) W #[] 0 hb (by decide) (by simp)
end
end Go.Proofs.YtkgedjaihimafaaDoor

/- What bytes.Clone gives. -/
namespace Go.Proofs.YtkgedjaihimafaaDoor
set_option linter.unusedVariables false
set_option linter.unusedSimpArgs false
open Go.RowKit Go.Proofs.YtkgedjaihimafaaDoorW.PrintWords

theorem Tryd.infoB8 : (Tryd.prog.info? 5).map (fun i => (i.zero, i.size, i.bytes)) = some (some (.int .u8 0), 1, 1) := by kernel_rfl
theorem clone_calls (w : World) (A : Option Addr) (n c : Nat) (data : List Int) (hR : ReadsInt w .u8 A n data) (hn : n ≤ 100000) :
    Calls Tryd.prog 56 #[.slice A n c] w fun ev w' => ∃ v, ev = .returned v ∧ w'.ownsRow w.heap.size 5 1 v data.length (nums .u8 data) ∧ Below w.heap.size w w' := by
  refine of_post0 fun R hRR => ?_
  have HP := Lib.hid hRR
  clear hRR
  have q : ∀ (w : World) (a : Option Addr) (n c n' c' : Nat), (binOp .eql 24 (.slice a n c) (.slice none n' c')).run Tryd.prog w = .ok (.bool a.isNone) w := fun w a n c n' c' => Lib.run_eql_slice_nil w _ _ a n c n' c' Tryd.underlying24
  cases A with
  | none =>
    have hm0 : n = 0 := Nat.eq_zero_of_not_pos fun h => by obtain ⟨_, h1, _⟩ := hR.2.2 h; cases h1
    have hy : data = [] := List.eq_nil_of_length_eq_zero (by have := hR.1; omega)
    subst hm0 hy
    clear hR
    go_enter Tryd.func56, Tryd.ntmps56
    go_wp2
    exact HP.out _ _ ⟨_, rfl, own_nil _ _ _ _, Below.refl _ _⟩
  | some ad =>
    have hR1 : ReadsInt (w.alloc (.cells #[] 5)) .u8 (some ad) n data := hR.below ((Below.refl w.heap.size w).alloc (Nat.le_refl _) _)
    have hO := own_empty w w.heap.size 5 (Nat.le_refl _)
    have hl : data.length = n := hR.1
    have HL := Lib.hid hl
    clear hR hl
    go_enter Tryd.func56, Tryd.ntmps56
    go_wp2_with (at_builtin; refine list_append_row _ (by rfl) (.tmp 5) (.tmp 6) 24 (by rfl) w.heap.size 5 .u8 1 Tryd.underlying24 Tryd.infoB8 (by decide) (.slice (some ⟨w.heap.size, 0, none⟩) 0 0) [] data (some ad) n c (by rfl) (by rfl) hO hR1 (by simp) (by simp; omega) ?_; intro v1 w2 hown hgrow hat; have H7 := Lib.hid (And.intro hown hgrow); clear hown hgrow hat)
    refine HP.out _ _ ⟨v1, rfl, H7.out.1, ?_⟩
    exact ((Below.refl w.heap.size w).alloc (Nat.le_refl _) _).grown H7.out.2 (by simp) (fun k hk => by simp [Value.ownBlock] at hk; omega)
end Go.Proofs.YtkgedjaihimafaaDoor

/- command.rest, walked: what stands behind a command's head. -/
namespace Go.Proofs.YtkgedjaihimafaaDoor
set_option linter.unusedVariables false
set_option linter.unusedSimpArgs false
open Go.RowKit Go.Proofs.YtkgedjaihimafaaDoorW.PrintWords Go.Proofs.YtkgedjaihimafaaDoor.QCmd

/-- A command in memory: its block, and the row of its bytes. -/
abbrev cmdC (kind id : Int) (topic : ByteArray) (seq code : Int) (v : Value) : Array Value := #[.int .u8 kind, .int .u32 id, .string topic, .int .u64 seq, .int .u8 code, v]
structure IsCmd (w : World) (base g : Nat) (kind id : Int) (topic : ByteArray) (seq code : Int) (pay : List Int) (v : Value) : Prop where
  blk : w.heap[g]? = some (.cells (cmdC kind id topic seq code v) 26 (0, 0))
  own : w.ownsRow base 5 1 v pay.length (nums .u8 pay)

/-- What rest leaves: it is written so (r) or not (none). -/
def RestPost (w : World) (base g : Nat) (kind id : Int) (r : Option (ByteArray × Int × Int × List Int)) (e : Ending) (w' : World) : Prop :=
  (Below base w w' ∧ KeepBut w w' g none) ∧ match r with
  | none => e = .returned (.bool false)
  | some (topic, seq, code, pay) => e = .returned (.bool true) ∧ ∃ v, IsCmd w' base g kind id topic seq code pay v

theorem rest_two (w : World) (base g : Nat) (id : Int) (A : Option Addr) (c : Nat) (l : List Int) (hG : IsCmd w base g 2 id ⟨#[]⟩ 0 0 [] (.slice none 0 0)) (hl : l.length ≤ 100000) :
    Calls Tryd.prog 36 #[.pointer (some ⟨g, 0, none⟩), .slice A l.length c] w (RestPost w base g 2 id (if l.length = 0 then some (⟨#[]⟩, 0, 0, []) else none)) := by
  refine of_post0 fun R hRR => ?_
  have HP := Lib.hid hRR
  have HG := Lib.hid hG
  have q0 := blk_cell hG.blk 0
  simp at q0
  clear hRR hG
  by_cases h0 : l.length = 0
  · have b1 : ((l.length : Int) == 0) = true := by rw [beq_iff_eq]; omega
    have b2 : (l.length == 0) = true := by rw [beq_iff_eq]; omega
    have H0 := Lib.hid h0
    clear h0
    go_enter Tryd.func36, Tryd.ntmps36
    go_wp2_with fail
    refine HP.out _ _ ?_
    rw [if_pos H0.out]
    exact ⟨⟨Below.refl _ _, KeepBut.refl _ _ _⟩, rfl, _, HG.out⟩
  · have b1 : ((l.length : Int) == 0) = false := by rw [beq_eq_false_iff_ne]; omega
    have b2 : (l.length == 0) = false := by rw [beq_eq_false_iff_ne]; omega
    have H0 := Lib.hid h0
    clear h0
    go_enter Tryd.func36, Tryd.ntmps36
    go_wp2_with fail
    refine HP.out _ _ ?_
    rw [if_neg H0.out]
    exact ⟨⟨Below.refl _ _, KeepBut.refl _ _ _⟩, rfl⟩

theorem rest_one (w : World) (base g : Nat) (id : Int) (A : Option Addr) (c : Nat) (l : List Int) (hb : base ≤ g) (hG : IsCmd w base g 1 id ⟨#[]⟩ 0 0 [] (.slice none 0 0)) (hl : l.length ≤ 100000) (hR : ReadsInt w .u8 A l.length l) :
    Calls Tryd.prog 36 #[.pointer (some ⟨g, 0, none⟩), .slice A l.length c] w (RestPost w base g 1 id (some (strOfNums l, 0, 0, []))) := by
  refine of_post0 fun R hRR => ?_
  have HP := Lib.hid hRR
  have HG := Lib.hid hG
  have q0 := blk_cell hG.blk 0
  have q2 := blk_cell hG.blk 2
  have f2 := blk_frozen hG.blk 2
  simp at q0 q2
  have hcv : ∀ W, Below w.heap.size w W → (convert 24 9 (.slice A l.length c)).run Tryd.prog W = .ok (.string (strOfNums l)) W := fun W hW => string_of_reads Tryd.underlying24 Tryd.underlying5 Tryd.underlying9 (hR.below hW)
  have HC := hcv w (Below.refl _ _)
  clear hRR hG hcv hR
  go_enter Tryd.func36, Tryd.ntmps36
  go_wp2_with fail
  refine HP.out _ _ ⟨⟨(Below.refl _ _).setCell (p := ⟨g, 2, none⟩) hb _, (KeepBut.refl _ _ _).set_ 2 _⟩, rfl, _, blk_set HG.out.blk 2 _, own_nil _ _ _ _⟩

theorem seqs_calls (w : World) (k : Int) (hk : 0 ≤ k ∧ k ≤ 255) : Calls Tryd.prog 34 #[.int .u8 k] w fun e w' => e = .returned (.bool (decide (4 ≤ k ∧ k ≤ 7))) ∧ w = w' := by
  by_cases h4 : 4 ≤ k
  · have b1 : decide (4 ≤ k) = true := by simpa using h4
    have e : decide (4 ≤ k ∧ k ≤ 7) = decide (k ≤ 7) := by rw [decide_eq_decide]; omega
    rw [e]
    clear e
    go_enter Tryd.func34, Tryd.ntmps34
    go_wp2
    go_ret
    exact ⟨rfl, rfl⟩
  · have b1 : decide (4 ≤ k) = false := by simpa using h4
    have e : decide (4 ≤ k ∧ k ≤ 7) = false := by rw [decide_eq_false_iff_not]; omega
    rw [e]
    clear e
    go_enter Tryd.func34, Tryd.ntmps34
    go_wp2
    go_ret
    exact ⟨rfl, rfl⟩

theorem rest_eight (w : World) (base g : Nat) (id : Int) (A : Option Addr) (c : Nat) (l : List Int) (hb : base ≤ g) (hG : IsCmd w base g 8 id ⟨#[]⟩ 0 0 [] (.slice none 0 0)) (hl : l.length ≤ 100000) (hR : ReadsInt w .u8 A l.length l) :
    Calls Tryd.prog 36 #[.pointer (some ⟨g, 0, none⟩), .slice A l.length c] w (RestPost w base g 8 id (if l.length = 1 then some (⟨#[]⟩, 0, l.getD 0 0, []) else none)) := by
  refine of_post0 fun R hRR => ?_
  have HP := Lib.hid hRR
  have HG := Lib.hid hG
  have q0 := blk_cell hG.blk 0
  have q4 := blk_cell hG.blk 4
  have f4 := blk_frozen hG.blk 4
  simp at q0 q4
  clear hRR hG
  by_cases h1 : l.length = 1
  · obtain ⟨ad, rfl, hc⟩ := hR.2.2 (by omega)
    have hc0 := hc 0 (by omega)
    have ha : ad.add 0 = ad := by unfold Addr.add; rfl
    rw [ha] at hc0
    have HX := Lib.hid (if_pos h1 : (if l.length = 1 then some ((⟨#[]⟩ : ByteArray), (0 : Int), l.getD 0 0, ([] : List Int)) else none) = _)
    rw [h1]
    generalize hx : l.getD 0 0 = x at hc0
    have HX2 := Lib.hid hx
    clear hc hR h1 hx hl
    go_enter Tryd.func36, Tryd.ntmps36
    go_wp2_with fail
    refine (seqs_calls _ 8 (by decide)).mono ?_
    rintro e w1 ⟨rfl, rfl⟩
    go_wp2_with fail
    refine HP.out _ _ ?_
    rw [HX.out, HX2.out]
    exact ⟨⟨(Below.refl _ _).setCell (p := ⟨g, 4, none⟩) hb _, (KeepBut.refl _ _ _).set_ 4 _⟩, rfl, _, blk_set HG.out.blk 4 _, own_nil _ _ _ _⟩
  · have b1 : ((l.length : Int) == 1) = false := by rw [beq_eq_false_iff_ne]; omega
    have b2 : (l.length == 1) = false := by rw [beq_eq_false_iff_ne]; omega
    have HX := Lib.hid (if_neg h1 : (if l.length = 1 then some ((⟨#[]⟩ : ByteArray), (0 : Int), l.getD 0 0, ([] : List Int)) else none) = _)
    clear h1 hR
    go_enter Tryd.func36, Tryd.ntmps36
    go_wp2_with fail
    refine (seqs_calls _ 8 (by decide)).mono ?_
    rintro e w1 ⟨rfl, rfl⟩
    go_wp2_with fail
    refine HP.out _ _ ?_
    rw [HX.out]
    exact ⟨⟨Below.refl _ _, KeepBut.refl _ _ _⟩, rfl⟩

theorem rest_other (w : World) (base g : Nat) (kind id : Int) (A : Option Addr) (c : Nat) (l : List Int) (hG : IsCmd w base g kind id ⟨#[]⟩ 0 0 [] (.slice none 0 0)) (hk : 0 ≤ kind ∧ kind ≤ 255) (hno : kind < 1 ∨ 8 < kind) :
    Calls Tryd.prog 36 #[.pointer (some ⟨g, 0, none⟩), .slice A l.length c] w (RestPost w base g kind id none) := by
  refine of_post0 fun R hRR => ?_
  have HP := Lib.hid hRR
  have q0 := blk_cell hG.blk 0
  simp at q0
  have b1 : (kind == 1) = false := by rw [beq_eq_false_iff_ne]; omega
  have b2 : (kind == 2) = false := by rw [beq_eq_false_iff_ne]; omega
  have b3 : (kind == 3) = false := by rw [beq_eq_false_iff_ne]; omega
  have b8 : (kind == 8) = false := by rw [beq_eq_false_iff_ne]; omega
  have HK := Lib.hid (show decide (4 ≤ kind ∧ kind ≤ 7) = false by rw [decide_eq_false_iff_not]; omega)
  clear hRR hG
  go_enter Tryd.func36, Tryd.ntmps36
  go_wp2_with fail
  refine (seqs_calls _ kind hk).mono ?_
  rintro e w1 ⟨rfl, rfl⟩
  rw [HK.out]
  go_wp2_with fail
  exact HP.out _ _ ⟨⟨Below.refl _ _, KeepBut.refl _ _ _⟩, rfl⟩
end Go.Proofs.YtkgedjaihimafaaDoor

/- Printed by a program of this claim's author (wip/pr.py); not trusted: Lean checks it. -/
namespace Go.Proofs.YtkgedjaihimafaaDoor.QCmdV
open Go.Proofs.YtkgedjaihimafaaDoor Go.Proofs.YtkgedjaihimafaaDoor.Given
open Go.RowKit Go.Proofs.YtkgedjaihimafaaDoorW.PrintWords Go.Proofs.YtkgedjaihimafaaDoorW.PrintLast Go.Proofs.YtkgedjaihimafaaDoorW.PrintMore
attribute [local go_sem] max2_int min2_int max_two min_two max_three min_three max_four min_four   -- for this text's walks alone
set_option linter.unusedVariables false
set_option linter.unusedSimpArgs false



def errW : Option Int → Value
 | none => .nilIface
 | some c => .iface 0 (.int .i64 c)
theorem errW_none : errW none = .nilIface := rfl
theorem errW_some (c : Int) : errW (some c) = .iface 0 (.int .i64 c) := rfl

-- the values' own types

end Go.Proofs.YtkgedjaihimafaaDoor.QCmdV

/- Printed by a program of this claim's author (wip/pr.py); not trusted: Lean checks it. -/
namespace Go.Proofs.YtkgedjaihimafaaDoor.QCmdV
open Go.Proofs.YtkgedjaihimafaaDoor Go.Proofs.YtkgedjaihimafaaDoor.Given
open Go.RowKit Go.Proofs.YtkgedjaihimafaaDoorW.PrintWords Go.Proofs.YtkgedjaihimafaaDoorW.PrintLast Go.Proofs.YtkgedjaihimafaaDoorW.PrintMore
attribute [local go_sem] max2_int min2_int max_two min_two max_three min_three max_four min_four   -- for this text's walks alone
set_option linter.unusedVariables false
set_option linter.unusedSimpArgs false

/-! ### command_value: function 35 -/
def command_value.l0 : Nat → Int → List Int → Int → Int → Option (Int)
 | 0, _, _, _, _ => none
 | k + 1, x3, x6, x7, x8 => if x8 < x7 then (if 0 ≤ x8 then (if x8 < (x6.length : Int) then (command_value.l0 k (Go.bits .or .u64 (IntKind.u64.wrap (x3 * 256)) (IntKind.u64.wrap (rd x6 x8))) x6 x7 (wrap64 (x8 + 1))) else (none)) else (none)) else (some x3)
def command_value.f (k : Nat) (l0 : List Int) : Option (Int) := command_value.l0 k 0 l0 (l0.length : Int) 0
theorem command_value.mono_l : ∀ k, (∀ y0 y1 y2 y3, LeO (command_value.l0 k y0 y1 y2 y3) (command_value.l0 (k + 1) y0 y1 y2 y3))
 | 0 => fun _ _ _ _ r h => by simp [command_value.l0] at h
 | k + 1 => by
  have ih0 := command_value.mono_l k
  ·intro y0 y1 y2 y3
   unfold command_value.l0
   repeat' first
   | (with_reducible exact ih0 _ _ _ _)
   | (with_reducible exact LeO.refl _)
   | (with_reducible exact LeO.none _)
   | (with_reducible refine LeO.ite ?_ ?_)
   | (with_reducible refine LeO.bind ?_ (fun _ => ?_))
   | exact ih0 _ _ _ _
   | exact LeO.none _
   | refine LeO.ite ?_ ?_
   | refine LeO.bind ?_ (fun _ => ?_)
theorem command_value.mono : ∀ a0 k, LeO (command_value.f k a0) (command_value.f (k + 1) a0) := by
 intro a0 k
 have ih0 := command_value.mono_l k
 unfold command_value.f
 repeat' first
   | (with_reducible exact ih0 _ _ _ _)
   | (with_reducible exact LeO.refl _)
   | (with_reducible exact LeO.none _)
   | (with_reducible refine LeO.ite ?_ ?_)
   | (with_reducible refine LeO.bind ?_ (fun _ => ?_))
   | exact ih0 _ _ _ _
   | exact LeO.none _
   | refine LeO.ite ?_ ?_
   | refine LeO.bind ?_ (fun _ => ?_)
set_option maxHeartbeats 8000000 in
set_option maxRecDepth 100000 in
theorem command_value.calls (k : Nat) (A0 : Option Addr) (c0 : Nat) (l0 : List Int) (r : Int) (w : World) (hr0 : Kd.C (Kd.int .u8) w A0 l0.length l0) (hc0 : l0.length ≤ c0) (h : command_value.f k l0 = some r) :
  Calls Tryd.prog 35 #[.slice A0 l0.length c0] w fun e w' => e = .returned (.int .u64 r) ∧ Drawn0 w w' := by
 have HR0 := Aside0.mk hr0
 have HC0 := Aside0.mk hc0
 clear hr0 hc0
 have H : (command_value.l0 k 0 l0 (l0.length : Int) 0) = some r := h
 clear h
 have H' := Aside0.mk H
 clear H
 go_enter Tryd.func35, Tryd.ntmps35
 go_wp2
 go_loopg [3, 8] k (fun kq v3 v8 w' => ∃ (x3_1 : Int) (x8_1 : Int), v3 = .int .u64 x3_1 ∧ v8 = .int .i64 x8_1 ∧ Aside0 (command_value.l0 kq x3_1 l0 (l0.length : Int) x8_1 = some r) ∧ Aside0 (kq ≤ k) ∧ Drawn0 w w')
 case atStart => exact ⟨(0), (0), (by first | rfl | (simp; done) | (simp [*]; done)), (by first | rfl | (simp; done) | (simp [*]; done)), H', ⟨Nat.le_refl _⟩, by repeat (first | exact Drawn0.refl _ | apply Drawn0.step)⟩
 case round =>
  clear H'
  obtain ⟨x3_1, x8_1, rfl, rfl, HA, HK1, ⟨m1, rfl⟩⟩ := hrel
  cases gk with
  | zero => exact absurd HA.out (by simp [command_value.l0])
  | succ k1 =>
   have H := HA.out
   clear HA
   simp only [command_value.l0] at H
   by_cases c2 : x8_1 < (l0.length : Int)
   ·rw [if_pos c2] at H
    have c2b0 : decide (x8_1 < (l0.length : Int)) = true := decide_eq_true c2
    clear c2
    by_cases c3 : 0 ≤ x8_1
    ·rw [if_pos c3] at H
     have c3b0 : decide (0 ≤ x8_1) = true := decide_eq_true c3
     clear c3
     by_cases c4 : x8_1 < (l0.length : Int)
     ·rw [if_pos c4] at H
      have c4b0 : decide (x8_1 < (l0.length : Int)) = true := decide_eq_true c4
      clear c4
      have H' := Aside0.mk H
      clear H
      have p101 : 0 ≤ (x8_1 : Int) := of_decide_eq_true (by first | (with_reducible assumption) | assumption)
      have q101 : x8_1 < (l0.length : Int) := of_decide_eq_true (by first | (with_reducible assumption) | assumption)
      obtain ⟨ad101, e101, hx101_0⟩ := Kd.at_int HR0.out x8_1 p101 q101
      cases e101
      replace p101 := eq_true p101
      replace q101 := eq_true q101
      go_wp2
      go_roundg k1
      case measure => have := HK1.out; omega
      case rel => exact ⟨(Go.bits .or .u64 (IntKind.u64.wrap (x3_1 * 256)) (IntKind.u64.wrap (rd l0 x8_1))), (wrap64 (x8_1 + 1)), (by first | rfl | (simp; done) | (simp [*]; done)), (by first | rfl | (simp; done) | (simp [*]; done)), H', ⟨by have := HK1.out; omega⟩, by repeat (first | exact Drawn0.refl _ | apply Drawn0.step)⟩
     ·rw [if_neg c4] at H
      exact absurd H (by simp)
    ·rw [if_neg c3] at H
     exact absurd H (by simp)
   ·rw [if_neg c2] at H
    have c2b0 : decide (x8_1 < (l0.length : Int)) = false := decide_eq_false c2
    clear c2
    obtain rfl := Option.some.inj H
    go_wp2
    go_ret
    exact ⟨by first | rfl | (simp; done) | (simp [*]; done), by repeat (first | exact Drawn0.refl _ | apply Drawn0.step)⟩

end Go.Proofs.YtkgedjaihimafaaDoor.QCmdV

/- Printed by a program of this claim's author (wip/pr.py); not trusted: Lean checks it. -/
namespace Go.Proofs.YtkgedjaihimafaaDoor.QCmdV
open Go.Proofs.YtkgedjaihimafaaDoor Go.Proofs.YtkgedjaihimafaaDoor.Given
open Go.RowKit Go.Proofs.YtkgedjaihimafaaDoorW.PrintWords Go.Proofs.YtkgedjaihimafaaDoorW.PrintLast Go.Proofs.YtkgedjaihimafaaDoorW.PrintMore
attribute [local go_sem] max2_int min2_int max_two min_two max_three min_three max_four min_four   -- for this text's walks alone
set_option linter.unusedVariables false
set_option linter.unusedSimpArgs false

end Go.Proofs.YtkgedjaihimafaaDoor.QCmdV

/- command.rest at the kinds that have a number. -/
namespace Go.Proofs.YtkgedjaihimafaaDoor
set_option linter.unusedVariables false
set_option linter.unusedSimpArgs false
open Go.RowKit Go.Proofs.YtkgedjaihimafaaDoorW.PrintWords Go.Proofs.YtkgedjaihimafaaDoor.QCmd

/-- The number that bytes are, the high one first. -/
def valFrom : Int → List Int → Int
  | n, [] => n
  | n, c :: l => valFrom (n * 256 + c) l
def valL (l : List Int) : Int := valFrom 0 l
theorem or_byte (a c : Int) (h0 : 0 ≤ a) (h1 : a * 256 + c < 18446744073709551616) (hc : 0 ≤ c ∧ c ≤ 255) :
    Go.bits .or .u64 (IntKind.u64.wrap (a * 256)) (IntKind.u64.wrap c) = a * 256 + c := by
  have hw : ∀ x : Int, 0 ≤ x → x < 18446744073709551616 → IntKind.u64.wrap x = x := by
    intro x h0 h1
    simp [IntKind.wrap, IntKind.bits, IntKind.signed]
    omega
  rw [hw _ (by omega) (by omega), hw _ hc.1 (by omega)]
  obtain ⟨m, rfl⟩ := Int.eq_ofNat_of_zero_le h0
  obtain ⟨d, rfl⟩ := Int.eq_ofNat_of_zero_le hc.1
  have := u64_or_nat (m * 256) d (by omega) (by omega)
  rw [show ((m : Int) * 256) = ((m * 256 : Nat) : Int) by omega, this]
  have h2 : m * 256 ||| d = m * 256 + d := by
    have := Nat.shiftLeft_add_eq_or_of_lt (show d < 2 ^ 8 by omega) m
    rw [Nat.shiftLeft_eq] at this
    exact this.symm
  rw [h2]
  omega
theorem pow256_succ (n : Nat) : (256 : Int) ^ (n + 1) = 256 ^ n * 256 := by rw [Int.pow_succ]
theorem ev_value_loop (l : List Int) (hl : l.length ≤ 8) (hb : ∀ x ∈ l, 0 ≤ x ∧ x ≤ 255) : ∀ (m i : Nat) (n : Int), m + i = l.length → 0 ≤ n → n < 256 ^ i → Ev (fun k => QCmdV.command_value.l0 k n l (l.length : Int) (i : Int)) (valFrom n (l.drop i))
  | 0, i, n, hi, h0, h1 => by
    refine Ev.step (f := fun _ => some n) (fun k => ?_) ?_
    · simp only [QCmdV.command_value.l0]
      rw [if_neg (by omega)]
    · rw [List.drop_eq_nil_of_le (by omega)]
      exact Ev.now n
  | m + 1, i, n, hi, h0, h1 => by
    have hlt : i < l.length := by omega
    have hx := hb _ (List.getElem_mem hlt)
    have hrd : rd l (i : Int) = l[i] := by
      unfold rd
      rw [List.getD_eq_getElem?_getD, Int.toNat_natCast, List.getElem?_eq_getElem hlt]
      rfl
    have hpw : (256 : Int) ^ i ≤ 256 ^ 7 := by
      have : (256 : Nat) ^ i ≤ 256 ^ 7 := Nat.pow_le_pow_right (by decide) (by omega)
      have h := Int.ofNat_le.2 this
      rw [Int.natCast_pow, Int.natCast_pow] at h
      exact h
    have h7 : (256 : Int) ^ 7 = 72057594037927936 := rfl
    have ih := ev_value_loop l hl hb m (i + 1) (n * 256 + l[i]) (by omega) (by omega) (by rw [pow256_succ]; omega)
    refine Ev.step (f := fun k => QCmdV.command_value.l0 k (n * 256 + l[i]) l (l.length : Int) ((i + 1 : Nat) : Int)) (fun k => ?_) ?_
    · simp only [QCmdV.command_value.l0]
      rw [if_pos (by omega), if_pos (by omega), if_pos (by omega), hrd, or_byte n l[i] h0 (by omega) hx, wrap_okC (by omega) (by omega)]
      rfl
    · rw [List.drop_eq_getElem_cons hlt]
      exact ih
theorem ev_value (l : List Int) (hl : l.length ≤ 8) (hb : ∀ x ∈ l, 0 ≤ x ∧ x ≤ 255) : Ev (fun k => QCmdV.command_value.f k l) (valL l) := by
  unfold QCmdV.command_value.f valL
  exact ev_value_loop l hl hb l.length 0 0 (by omega) (by omega) (by decide)
theorem value_calls (w : World) (A : Option Addr) (c : Nat) (l : List Int) (hl : l.length ≤ 8) (hb : ∀ x ∈ l, 0 ≤ x ∧ x ≤ 255) (hR : ReadsInt w .u8 A l.length l) (hc : l.length ≤ c) :
    Calls Tryd.prog 35 #[.slice A l.length c] w fun e w' => e = .returned (.int .u64 (valL l)) ∧ Drawn0 w w' := by
  obtain ⟨k, hk⟩ := (ev_value l hl hb).rounds
  exact QCmdV.command_value.calls k A c l (valL l) w (Kd.C_of_reads (d := (0 : Int)) (h1 := fun _ => rfl) hR) hc hk

theorem rest_seq_no (w : World) (base g : Nat) (kind id : Int) (A : Option Addr) (c : Nat) (l : List Int) (hG : IsCmd w base g kind id ⟨#[]⟩ 0 0 [] (.slice none 0 0)) (hl : l.length ≤ 100000) (hk : 4 ≤ kind ∧ kind ≤ 7) (hno : l.length < 8 ∨ (kind ≠ 6 ∧ 8 < l.length)) :
    Calls Tryd.prog 36 #[.pointer (some ⟨g, 0, none⟩), .slice A l.length c] w (RestPost w base g kind id none) := by
  refine of_post0 fun R hRR => ?_
  have HP := Lib.hid hRR
  have q0 := blk_cell hG.blk 0
  simp at q0
  have b1 : (kind == 1) = false := by rw [beq_eq_false_iff_ne]; omega
  have b2 : (kind == 2) = false := by rw [beq_eq_false_iff_ne]; omega
  have b3 : (kind == 3) = false := by rw [beq_eq_false_iff_ne]; omega
  have HK := Lib.hid (show decide (4 ≤ kind ∧ kind ≤ 7) = true by rw [decide_eq_true_iff]; omega)
  have HKK := Lib.hid (show 0 ≤ kind ∧ kind ≤ 255 by omega)
  clear hRR hG
  by_cases h8 : l.length < 8
  · have c1 : decide ((l.length : Int) < 8) = true := by rw [decide_eq_true_iff]; omega
    clear hno h8 hk
    go_enter Tryd.func36, Tryd.ntmps36
    go_wp2_with fail
    refine (seqs_calls _ kind HKK.out).mono ?_
    rintro e w1 ⟨rfl, rfl⟩
    rw [HK.out]
    go_wp2_with fail
    exact HP.out _ _ ⟨⟨Below.refl _ _, KeepBut.refl _ _ _⟩, rfl⟩
  · have c1 : decide ((l.length : Int) < 8) = false := by rw [decide_eq_false_iff_not]; omega
    have c2 : decide (8 < (l.length : Int)) = true := by rw [decide_eq_true_iff]; omega
    have c3 : (kind == 6) = false := by rw [beq_eq_false_iff_ne]; omega
    have c4 : (kind != 6) = true := by rw [bne_iff_ne]; omega
    clear hno h8 hk
    go_enter Tryd.func36, Tryd.ntmps36
    go_wp2_with fail
    refine (seqs_calls _ kind HKK.out).mono ?_
    rintro e w1 ⟨rfl, rfl⟩
    rw [HK.out]
    go_wp2_with fail
    exact HP.out _ _ ⟨⟨Below.refl _ _, KeepBut.refl _ _ _⟩, rfl⟩

theorem rest_seq_bare (w : World) (base g : Nat) (kind id : Int) (A : Option Addr) (c : Nat) (l : List Int) (hb : base ≤ g) (hG : IsCmd w base g kind id ⟨#[]⟩ 0 0 [] (.slice none 0 0)) (hk : 4 ≤ kind ∧ kind ≤ 7) (h8 : l.length = 8) (hlc : l.length ≤ c) (hR : ReadsInt w .u8 A l.length l) (hby : ∀ x ∈ l, 0 ≤ x ∧ x ≤ 255) :
    Calls Tryd.prog 36 #[.pointer (some ⟨g, 0, none⟩), .slice A l.length c] w (RestPost w base g kind id (some (⟨#[]⟩, valL l, 0, []))) := by
  refine of_post0 fun R hRR => ?_
  have HP := Lib.hid hRR
  have HG := Lib.hid hG
  have q0 := blk_cell hG.blk 0
  have q3 := blk_cell hG.blk 3
  have f3 := blk_frozen hG.blk 3
  simp at q0 q3
  have b1 : (kind == 1) = false := by rw [beq_eq_false_iff_ne]; omega
  have b2 : (kind == 2) = false := by rw [beq_eq_false_iff_ne]; omega
  have b3 : (kind == 3) = false := by rw [beq_eq_false_iff_ne]; omega
  have c1 : decide ((l.length : Int) < 8) = false := by rw [decide_eq_false_iff_not]; omega
  have c2 : decide (8 < (l.length : Int)) = false := by rw [decide_eq_false_iff_not]; omega
  have HK := Lib.hid (show decide (4 ≤ kind ∧ kind ≤ 7) = true by rw [decide_eq_true_iff]; omega)
  have HKK := Lib.hid (show 0 ≤ kind ∧ kind ≤ 255 by omega)
  obtain ⟨i0, hi, _, hsz, _⟩ := info_parts Tryd.infoB8
  obtain ⟨hcut, hr1, hm1⟩ := print_take_int (P := Tryd.prog) (k := .u8) 24 5 Tryd.underlying24 hi hsz A c l 8 (by decide) (by omega) hlc
  have et : l.take (8 : Int).toNat = l := List.take_of_length_le (by rw [h8]; decide)
  rw [et] at hcut hr1 hm1
  have hV : ∀ W, Below w.heap.size w W → Calls Tryd.prog 35 #[.slice A 8 c] W fun e w' => e = .returned (.int .u64 (valL l)) ∧ Drawn0 W w' := fun W hW => by
    have := value_calls W A c l (by omega) hby (hR.below hW) hlc
    rw [h8] at this
    exact this
  have HV := Lib.hid hV
  clear hV hRR hG hR hr1 hk hby hm1 et hi hsz
  by_cases h6 : kind = 6
  · have c3 : (kind == 6) = true := by rw [beq_iff_eq]; exact h6
    have c4 : (kind != 6) = false := by rw [h6]; rfl
    clear h6
    go_enter Tryd.func36, Tryd.ntmps36
    go_wp2_with fail
    refine (seqs_calls _ kind HKK.out).mono ?_
    rintro e w1 ⟨rfl, rfl⟩
    rw [HK.out]
    go_wp2_with fail
    refine (HV.out _ (by repeat (first | exact Below.refl _ _ | apply below_drew1 | apply pw_below_drewN))).mono ?_
    rintro e w1 ⟨rfl, n, rfl⟩
    go_wp2_with fail
    exact HP.out _ _ ⟨⟨(show Below base w (w.drewN n) from by apply pw_below_drewN; exact Below.refl _ _).setCell (p := ⟨g, 3, none⟩) hb _, (show KeepBut w (w.drewN n) g none from KeepBut.refl w g none).set_ 3 _⟩, rfl, _, blk_set HG.out.blk 3 _, own_nil _ _ _ _⟩
  · have c3 : (kind == 6) = false := by rw [beq_eq_false_iff_ne]; exact h6
    have c4 : (kind != 6) = true := by rw [bne_iff_ne]; exact h6
    clear h6
    go_enter Tryd.func36, Tryd.ntmps36
    go_wp2_with fail
    refine (seqs_calls _ kind HKK.out).mono ?_
    rintro e w1 ⟨rfl, rfl⟩
    rw [HK.out]
    go_wp2_with fail
    refine (HV.out _ (by repeat (first | exact Below.refl _ _ | apply below_drew1 | apply pw_below_drewN))).mono ?_
    rintro e w1 ⟨rfl, n, rfl⟩
    go_wp2_with fail
    exact HP.out _ _ ⟨⟨(show Below base w (w.drewN n) from by apply pw_below_drewN; exact Below.refl _ _).setCell (p := ⟨g, 3, none⟩) hb _, (show KeepBut w (w.drewN n) g none from KeepBut.refl w g none).set_ 3 _⟩, rfl, _, blk_set HG.out.blk 3 _, own_nil _ _ _ _⟩
end Go.Proofs.YtkgedjaihimafaaDoor

/- command.rest at a message with bytes. -/
namespace Go.Proofs.YtkgedjaihimafaaDoor
set_option linter.unusedVariables false
set_option linter.unusedSimpArgs false
open Go.RowKit Go.Proofs.YtkgedjaihimafaaDoorW.PrintWords Go.Proofs.YtkgedjaihimafaaDoor.QCmd

set_option maxHeartbeats 1000000 in
set_option maxRecDepth 100000 in
theorem rest_six (w : World) (base g : Nat) (id : Int) (A : Option Addr) (c : Nat) (l : List Int) (hb : base ≤ g) (hG : IsCmd w base g 6 id ⟨#[]⟩ 0 0 [] (.slice none 0 0)) (hl : l.length ≤ 100000) (h8 : 8 < l.length) (hlc : l.length ≤ c) (hR : ReadsInt w .u8 A l.length l) (hE : Elsewhere A l.length g) (hby : ∀ x ∈ l, 0 ≤ x ∧ x ≤ 255) :
    Calls Tryd.prog 36 #[.pointer (some ⟨g, 0, none⟩), .slice A l.length c] w (RestPost w base g 6 id (some (⟨#[]⟩, valL (l.take 8), 0, l.drop 8))) := by
  refine of_post0 fun R hRR => ?_
  have HP := Lib.hid hRR
  have HG := Lib.hid hG
  have q0 := blk_cell hG.blk 0
  have q3 := blk_cell hG.blk 3
  have f3 := blk_frozen hG.blk 3
  have q5 := blk_cell hG.blk 5
  have f5 := blk_frozen hG.blk 5
  simp at q0 q3 q5
  have c1 : decide ((l.length : Int) < 8) = false := by rw [decide_eq_false_iff_not]; omega
  have c2 : decide (8 < (l.length : Int)) = true := by rw [decide_eq_true_iff]; omega
  obtain ⟨i0, hi, _, hsz, _⟩ := info_parts Tryd.infoB8
  obtain ⟨hcut, hr1, hm1⟩ := print_take_int (P := Tryd.prog) (k := .u8) 24 5 Tryd.underlying24 hi hsz A c l 8 (by decide) (by omega) hlc
  obtain ⟨A2, hcut2, hr2, hm2⟩ := print_drop_of (P := Tryd.prog) (Value.int .u8) (0 : Int) 24 5 .i64 Tryd.underlying24 hi hsz A c l 8 (by decide) (by omega) hlc
  rw [show (8 : Int).toNat = 8 from rfl] at *
  have hl1 : (l.take 8).length ≤ 8 := by rw [List.length_take]; omega
  have hby1 : ∀ x ∈ l.take 8, 0 ≤ x ∧ x ≤ 255 := fun x hx => hby x (List.mem_of_mem_take hx)
  have hl2 : (l.drop 8).length ≤ 100000 := by rw [List.length_drop]; omega
  generalize hL1 : l.take 8 = L1 at *
  generalize hL2 : l.drop 8 = L2 at *
  have hV : ∀ W, Below w.heap.size w W → Calls Tryd.prog 35 #[.slice A L1.length c] W fun e w' => e = .returned (.int .u64 (valL L1)) ∧ Drawn0 W w' := fun W hW => value_calls W A c L1 hl1 hby1 (hr1 W (hR.below hW)) hm1
  have HV := Lib.hid hV
  have hcl : ∀ W, KeepBut w W g none → Calls Tryd.prog 56 #[.slice A2 L2.length (c - 8)] W fun ev w' => ∃ v, ev = .returned v ∧ w'.ownsRow W.heap.size 5 1 v L2.length (nums .u8 L2) ∧ Below W.heap.size W w' := fun W hW => clone_calls W A2 L2.length (c - 8) L2 (hr2 W (reads_keep hR hW hE)) hl2
  have HCL := Lib.hid hcl
  clear hcl hV hRR hG hE hR hr1 hr2 hm1 hm2 hL1 hL2 hby hby1 hl1 hi hsz
  go_enter Tryd.func36, Tryd.ntmps36
  go_wp2_with fail
  refine (seqs_calls _ 6 (by decide)).mono ?_
  rintro e w1 ⟨rfl, rfl⟩
  go_wp2_with fail
  refine (HV.out _ (by repeat (first | exact Below.refl _ _ | apply below_drew1 | apply pw_below_drewN))).mono ?_
  rintro e w1 ⟨rfl, n, rfl⟩
  go_wp2_with fail
  have hgl := blk_lt HG.out.blk
  have hbw : base ≤ w.heap.size := by omega
  have HB0 := Lib.hid (((show Below base w (w.drewN n) from by apply pw_below_drewN; exact Below.refl _ _)).setCell (p := ⟨g, 3, none⟩) hb (.int .u64 (valL L1)))
  have hsz1 : ((w.drewN n).setCell ⟨g, 3, none⟩ (.int .u64 (valL L1))).heap.size = w.heap.size := by simp
  refine (HCL.out _ ((show KeepBut w (w.drewN n) g none from KeepBut.refl w g none).set_ 3 _)).mono ?_
  rintro e w1 ⟨v, rfl, hown, hb1⟩
  obtain ⟨A3, c3, rfl⟩ := own_slice hown
  have hgb := blk_below (blk_set (show (w.drewN n).heap[g]? = _ from HG.out.blk) 3 (.int .u64 (valL L1))) hb1
  have r5 := blk_cell hgb 5
  have s5 := blk_frozen hgb 5
  simp at r5
  have HO := Lib.hid (And.intro hown hgb)
  have HBB := Lib.hid (HB0.out.trans (hb1.mono (by rw [hsz1]; exact hbw)))
  have HKB := Lib.hid (((show KeepBut w (w.drewN n) g none from KeepBut.refl w g none).set_ 3 (.int .u64 (valL L1))).trans (KeepBut.of_below hb1 g none) (.inl rfl))
  rw [hsz1] at hown
  have HOW := Lib.hid hown
  clear hown hb1 hgb
  go_wp2_with fail
  have hO := own_weaken HOW.out hbw
  have hne := own_ne hO HO.out.2 (by decide)
  refine HP.out _ _ ⟨⟨HBB.out.setCell (p := ⟨g, 5, none⟩) hb _, HKB.out.set_ 5 _⟩, rfl, _, blk_set HO.out.2 5 _, own_setCell hO hne _⟩
end Go.Proofs.YtkgedjaihimafaaDoor

/- command.rest at a publication. -/
namespace Go.Proofs.YtkgedjaihimafaaDoor
set_option linter.unusedVariables false
set_option linter.unusedSimpArgs false
open Go.RowKit Go.Proofs.YtkgedjaihimafaaDoorW.PrintWords Go.Proofs.YtkgedjaihimafaaDoor.QCmd

set_option maxHeartbeats 1000000 in
set_option maxRecDepth 100000 in
theorem rest_three (w : World) (base g : Nat) (id : Int) (A : Option Addr) (c : Nat) (l : List Int) (hb : base ≤ g) (hG : IsCmd w base g 3 id ⟨#[]⟩ 0 0 [] (.slice none 0 0)) (hl : l.length ≤ 100000) (hlc : l.length ≤ c) (hR : ReadsInt w .u8 A l.length l) (hE : Elsewhere A l.length g)
    (h0 : 0 < l.length) (x : Int) (hx : l.getD 0 0 = x) (hx0 : 0 ≤ x) (hx1 : x ≤ 255) (hxl : x ≤ (l.length : Int) - 1) :
    Calls Tryd.prog 36 #[.pointer (some ⟨g, 0, none⟩), .slice A l.length c] w (RestPost w base g 3 id (some (strOfNums ((l.take (x + 1).toNat).drop 1), 0, 0, l.drop (x + 1).toNat))) := by
  refine of_post0 fun R hRR => ?_
  have HP := Lib.hid hRR
  have HG := Lib.hid hG
  have q0 := blk_cell hG.blk 0
  have q2 := blk_cell hG.blk 2
  have q5 := blk_cell hG.blk 5
  have f2 := blk_frozen hG.blk 2
  have f5 := blk_frozen hG.blk 5
  simp at q0 q2 q5
  obtain ⟨ad, rfl, hc⟩ := hR.2.2 h0
  have hc0 := hc 0 h0
  have ha : ad.add 0 = ad := by unfold Addr.add; rfl
  rw [ha, hx] at hc0
  obtain ⟨i0, hi, _, hsz, _⟩ := info_parts Tryd.infoB8
  obtain ⟨A1, hcut1, hr1, hm1⟩ := print_mid_int (P := Tryd.prog) (k := .u8) 24 5 Tryd.underlying24 hi hsz (some ad) c l 1 (x + 1) (by decide) (by omega) (by omega) hlc
  obtain ⟨A2, hcut2, hr2, hm2⟩ := print_drop_of (P := Tryd.prog) (Value.int .u8) (0 : Int) 24 5 .i64 Tryd.underlying24 hi hsz (some ad) c l (x + 1) (by omega) (by omega) hlc
  have e1 : (1 : Int).toNat = 1 := rfl
  rw [e1] at hcut1 hr1 hm1
  generalize hL1 : (l.take (x + 1).toNat).drop 1 = L1 at *
  generalize hL2 : l.drop (x + 1).toNat = L2 at *
  have hl2 : L2.length ≤ 100000 := by rw [← hL2, List.length_drop]; omega
  have HR1 := Lib.hid (hr1 w hR)
  have HR2 := Lib.hid (hr2 w hR)
  have b1 : ((l.length : Int) == 0) = false := by rw [beq_eq_false_iff_ne]; omega
  have b2 : (l.length == 0) = false := by rw [beq_eq_false_iff_ne]; omega
  have b3 : decide ((l.length : Int) - 1 < x) = false := by rw [decide_eq_false_iff_not]; omega
  have b5 : (0 : Int) < (l.length : Int) := by omega
  have hcv : ∀ W, KeepBut w W g none → (convert 24 9 (.slice A1 L1.length (c - 1))).run Tryd.prog W = .ok (.string (strOfNums L1)) W := fun W hW => string_of_reads Tryd.underlying24 Tryd.underlying5 Tryd.underlying9 (hr1 W (reads_keep hR hW hE))
  have HC := Lib.hid hcv
  clear hRR hG hcv hE hR hc hr1 hr2 hm1 hm2 hL1 hL2 hx hi hsz
  go_enter Tryd.func36, Tryd.ntmps36
  go_wp2_with fail
  have K0 : KeepBut w w.drew g none := KeepBut.refl w g none
  go_region_held3 (fun w' => (convert 24 9 (.slice A1 L1.length (c - 1))).run Tryd.prog w' = .ok (.string (strOfNums L1)) w' ∧ True)
    (first | exact ⟨HC.out _ K0, trivial⟩ | exact ⟨HC.out _ (KeepBut.of_below HBB.out g none), trivial⟩ | exact ⟨HC.out _ ((KeepBut.of_below HBB.out g none).set_ 2 _), trivial⟩ | exact ⟨HC.out _ ((KeepBut.of_below HBB.out g none).set_ 5 _), trivial⟩ | exact ⟨HC.out _ (((KeepBut.of_below HBB.out g none).set_ 2 _).set_ 5 _), trivial⟩ | exact ⟨HC.out _ (((KeepBut.of_below HBB.out g none).set_ 5 _).set_ 2 _), trivial⟩)
    ((go_at_call 56; refine (clone_calls _ A2 L2.length _ L2 (HR2.out.below (Below.refl _ _).drew) hl2).mono ?_; rintro e w1 ⟨v, rfl, hown, hb1⟩; obtain ⟨A3, c3, rfl⟩ := own_slice hown; have HBB := Lib.hid ((Below.refl w.heap.size w).drew.trans (hb1.mono (Nat.le_refl _))); have hgb := blk_below HG.out.blk HBB.out; have r2 := blk_cell hgb 2; have r5 := blk_cell hgb 5; have s2 := blk_frozen hgb 2; have s5 := blk_frozen hgb 5; simp at r2 r5; have HO := Lib.hid (And.intro hown hgb); clear hown hb1 hgb))
  go_wp2_with fail
  have hgl := blk_lt HG.out.blk
  have hbw : base ≤ w.heap.size := by omega
  have hO := own_weaken HO.out.1 (show base ≤ w.drew.heap.size from hbw)
  have hne := own_ne hO HO.out.2 (by decide)
  refine HP.out _ _ ⟨⟨((HBB.out.mono hbw).setCell (p := ⟨g, 2, none⟩) hb _).setCell (p := ⟨g, 5, none⟩) hb _, ((KeepBut.of_below HBB.out g none).set_ 2 _).set_ 5 _⟩, rfl, _, blk_set (blk_set HO.out.2 2 _) 5 _, own_setCell (own_setCell hO hne _) hne _⟩

theorem rest_three_no (w : World) (base g : Nat) (id : Int) (A : Option Addr) (c : Nat) (l : List Int) (hG : IsCmd w base g 3 id ⟨#[]⟩ 0 0 [] (.slice none 0 0)) (hl : l.length ≤ 100000) (hR : ReadsInt w .u8 A l.length l)
    (x : Int) (hx : l.getD 0 0 = x) (hx0 : 0 ≤ x) (hx1 : x ≤ 255) (hno : l.length = 0 ∨ (l.length : Int) - 1 < x) :
    Calls Tryd.prog 36 #[.pointer (some ⟨g, 0, none⟩), .slice A l.length c] w (RestPost w base g 3 id none) := by
  refine of_post0 fun R hRR => ?_
  have HP := Lib.hid hRR
  have q0 := blk_cell hG.blk 0
  simp at q0
  clear hRR hG
  by_cases h0 : l.length = 0
  · have b1 : ((l.length : Int) == 0) = true := by rw [beq_iff_eq]; omega
    have b2 : (l.length == 0) = true := by rw [beq_iff_eq]; omega
    clear hR hno hx h0
    go_enter Tryd.func36, Tryd.ntmps36
    go_wp2_with fail
    exact HP.out _ _ ⟨⟨Below.refl _ _, KeepBut.refl _ _ _⟩, rfl⟩
  · obtain ⟨ad, rfl, hc⟩ := hR.2.2 (by omega)
    have hc0 := hc 0 (by omega)
    have ha : ad.add 0 = ad := by unfold Addr.add; rfl
    rw [ha, hx] at hc0
    have b1 : ((l.length : Int) == 0) = false := by rw [beq_eq_false_iff_ne]; omega
    have b2 : (l.length == 0) = false := by rw [beq_eq_false_iff_ne]; omega
    have b3 : decide ((l.length : Int) - 1 < x) = true := by rw [decide_eq_true_iff]; omega
    have b5 : (0 : Int) < (l.length : Int) := by omega
    have b6 : 0 < l.length := by omega
    clear hR hno hx h0 hc
    go_enter Tryd.func36, Tryd.ntmps36
    go_wp2_with fail
    exact HP.out _ _ ⟨⟨Below.refl _ _, KeepBut.refl _ _ _⟩, rfl⟩
end Go.Proofs.YtkgedjaihimafaaDoor

/- command.rest as a whole; what command.Get answers. -/
namespace Go.Proofs.YtkgedjaihimafaaDoor
set_option linter.unusedVariables false
set_option linter.unusedSimpArgs false
open Go.RowKit Go.Proofs.YtkgedjaihimafaaDoorW.PrintWords Go.Proofs.YtkgedjaihimafaaDoor.QCmd

/-- What rest reads behind a head. -/
def restR (kind : Int) (l : List Int) : Option (ByteArray × Int × Int × List Int) :=
  if kind = 1 then some (strOfNums l, 0, 0, [])
  else if kind = 2 then (if l.length = 0 then some (⟨#[]⟩, 0, 0, []) else none)
  else if kind = 3 then (if l.length = 0 ∨ (l.length : Int) - 1 < l.getD 0 0 then none else some (strOfNums ((l.take (l.getD 0 0 + 1).toNat).drop 1), 0, 0, l.drop (l.getD 0 0 + 1).toNat))
  else if 4 ≤ kind ∧ kind ≤ 7 then (if l.length < 8 ∨ (kind ≠ 6 ∧ 8 < l.length) then none else some (⟨#[]⟩, valL (l.take 8), 0, l.drop 8))
  else if kind = 8 then (if l.length = 1 then some (⟨#[]⟩, 0, l.getD 0 0, []) else none)
  else none

theorem getD0_mem {l : List Int} (h : 0 < l.length) : l.getD 0 0 ∈ l := by
  cases l with
  | nil => simp at h
  | cons a l => simp
theorem rest_calls (w : World) (base g : Nat) (kind id : Int) (A : Option Addr) (c : Nat) (l : List Int) (hb : base ≤ g) (hk : 0 ≤ kind ∧ kind ≤ 255) (hG : IsCmd w base g kind id ⟨#[]⟩ 0 0 [] (.slice none 0 0)) (hl : l.length ≤ 100000) (hlc : l.length ≤ c) (hR : ReadsInt w .u8 A l.length l) (hE : Elsewhere A l.length g) (hby : ∀ x ∈ l, 0 ≤ x ∧ x ≤ 255) :
    Calls Tryd.prog 36 #[.pointer (some ⟨g, 0, none⟩), .slice A l.length c] w (RestPost w base g kind id (restR kind l)) := by
  unfold restR
  by_cases h1 : kind = 1
  · subst h1
    rw [if_pos rfl]
    exact rest_one w base g id A c l hb hG hl hR
  rw [if_neg h1]
  by_cases h2 : kind = 2
  · subst h2
    rw [if_pos rfl]
    exact rest_two w base g id A c l hG hl
  rw [if_neg h2]
  by_cases h3 : kind = 3
  · subst h3
    rw [if_pos rfl]
    by_cases h0 : l.length = 0
    · have h00 : l.getD 0 0 = 0 := by rw [List.eq_nil_of_length_eq_zero h0]; rfl
      rw [if_pos (Or.inl h0)]
      exact rest_three_no w base g id A c l hG hl hR (l.getD 0 0) rfl (by rw [h00]; exact Int.le_refl 0) (by rw [h00]; decide) (Or.inl h0)
    have hx := hby _ (getD0_mem (show 0 < l.length by omega))
    by_cases h4 : (l.length : Int) - 1 < l.getD 0 0
    · rw [if_pos (Or.inr h4)]
      exact rest_three_no w base g id A c l hG hl hR (l.getD 0 0) rfl hx.1 hx.2 (Or.inr h4)
    · rw [if_neg (fun h => h.elim h0 h4)]
      exact rest_three w base g id A c l hb hG hl hlc hR hE (by omega) (l.getD 0 0) rfl hx.1 hx.2 (by omega)
  rw [if_neg h3]
  by_cases h4 : 4 ≤ kind ∧ kind ≤ 7
  · rw [if_pos h4]
    by_cases h5 : l.length < 8 ∨ (kind ≠ 6 ∧ 8 < l.length)
    · rw [if_pos h5]
      exact rest_seq_no w base g kind id A c l hG hl h4 h5
    · rw [if_neg h5]
      by_cases h8 : l.length = 8
      · rw [List.take_of_length_le (by omega), List.drop_eq_nil_of_le (by omega)]
        exact rest_seq_bare w base g kind id A c l hb hG h4 h8 hlc hR hby
      · obtain rfl : kind = 6 := by
          by_cases h6 : kind = 6
          · exact h6
          · exact absurd (Or.inr ⟨h6, by omega⟩) h5
        exact rest_six w base g id A c l hb hG hl (by omega) hlc hR hE hby
  rw [if_neg h4]
  by_cases h8 : kind = 8
  · subst h8
    rw [if_pos rfl]
    exact rest_eight w base g id A c l hb hG hl hR
  rw [if_neg h8]
  exact rest_other w base g kind id A c l hG hk (by omega)

/-- Which command bytes are, and why one is refused. -/
def getR (l : List Int) : Int × Int × ByteArray × Int × Int × List Int × Int × Bool :=
  if l.length < 5 then (0, 0, ⟨#[]⟩, 0, 0, [], 0, false)
  else match restR (l.getD 0 0) (l.drop 5) with
    | none => (0, 0, ⟨#[]⟩, 0, 0, [], 0, false)
    | some (topic, seq, code, pay) =>
      if (l.getD 0 0 = 1 ∨ l.getD 0 0 = 3) ∧ topicOk topic = false then (l.getD 0 0, valL ((l.take 5).drop 1), ⟨#[]⟩, 0, 0, [], 1, false)
      else if l.getD 0 0 = 3 ∧ 2048 < pay.length then (l.getD 0 0, valL ((l.take 5).drop 1), ⟨#[]⟩, 0, 0, [], 5, false)
      else if cmdOk (l.getD 0 0) topic seq code pay = true then (l.getD 0 0, valL ((l.take 5).drop 1), topic, seq, code, pay, 0, true)
      else (0, 0, ⟨#[]⟩, 0, 0, [], 0, false)

end Go.Proofs.YtkgedjaihimafaaDoor

/- Of commands' writings, over lists: they are bytes; two that are the same are of one command; commands that came in. -/
namespace Go.Proofs.YtkgedjaihimafaaDoor
set_option linter.unusedVariables false
set_option linter.unusedSimpArgs false
open Go.RowKit Go.Proofs.YtkgedjaihimafaaDoorW.PrintWords Go.Proofs.YtkgedjaihimafaaDoorW.PrintMore Go.Proofs.YtkgedjaihimafaaDoor.QCmd Go.Proofs.YtkgedjaihimafaaDoor.Given

def Byte8 (l : List Int) : Prop := ∀ x ∈ l, 0 ≤ x ∧ x ≤ 255
theorem str_list (l : List Int) : (strOfNums l).toList = l.map fun n => UInt8.ofNat n.toNat := by
  rw [ByteArray.toList_eq]
  simp [strOfNums]
theorem back_list : ∀ (l : List Int), Byte8 l → (l.map fun n => UInt8.ofNat n.toNat).map (fun c => (c.toNat : Int)) = l
  | [], _ => rfl
  | x :: l, h => by
    have h1 := h x (by simp)
    have h2 := back_list l (fun y hy => h y (by simp [hy]))
    simp only [List.map_cons]
    rw [h2]
    congr 1
    rw [UInt8.toNat_ofNat']
    omega
theorem str_inj {a b : List Int} (ha : Byte8 a) (hb : Byte8 b) : ((strOfNums a).toList == (strOfNums b).toList) = decide (a = b) := by
  rw [str_list, str_list, Bool.eq_iff_iff, beq_iff_eq, decide_eq_true_iff]
  constructor
  · intro h
    have := congrArg (List.map (fun c : UInt8 => (c.toNat : Int))) h
    rwa [back_list a ha, back_list b hb] at this
  · intro h
    rw [h]
theorem be_byte (n : Int) : ∀ m, Byte8 (beL n m)
  | 0 => fun x hx => by cases hx
  | m + 1 => fun x hx => by
    rcases List.mem_cons.1 hx with rfl | h
    · omega
    · exact be_byte n m x h
theorem bytes_byte (s : ByteArray) : Byte8 (bytesOf s) := by
  intro x hx
  obtain ⟨c, -, rfl⟩ := List.mem_map.1 hx
  have := c.toNat_lt
  omega
theorem be4_inj {a b : Int} (ha : 0 ≤ a ∧ a ≤ 4294967295) (hb : 0 ≤ b ∧ b ≤ 4294967295) (h : beL a 4 = beL b 4) : a = b := by
  simp [beL] at h
  omega
theorem be8_inj {a b : Int} (ha : 0 ≤ a ∧ a ≤ 18446744073709551615) (hb : 0 ≤ b ∧ b ≤ 18446744073709551615) (h : beL a 8 = beL b 8) : a = b := by
  simp [beL] at h
  omega
theorem bytesOf_inj {s t : ByteArray} (h : bytesOf s = bytesOf t) : s = t := by
  have hi : Function.Injective fun c : UInt8 => (c.toNat : Int) := fun a b e => by
    apply UInt8.toNat_inj.1
    have : (a.toNat : Int) = b.toNat := e
    omega
  exact bytes_ext ((List.map_inj_right (fun _ _ e => hi e)).1 h)

theorem put_byte {kind id seq code : Int} {topic : ByteArray} {pay : List Int} (h : cmdOk kind topic seq code pay = true) (hp : Byte8 pay) : Byte8 (putL kind id topic seq code pay) := by
  have hk : 1 ≤ kind ∧ kind ≤ 8 := by
    unfold cmdOk at h
    simp only [Bool.and_eq_true, decide_eq_true_iff] at h
    exact h.1
  have hcode : kind = 8 → 1 ≤ code ∧ code ≤ 5 := by
    intro h8
    unfold cmdOk at h
    simp only [Bool.and_eq_true, decide_eq_true_iff, h8, if_true] at h
    exact h.2.2.2.1
  intro x hx
  unfold putL at hx
  simp only [List.mem_append] at hx
  rcases hx with (((((hx | hx) | hx) | hx) | hx) | hx) | hx
  · rw [List.mem_singleton.1 hx]; omega
  · exact be_byte id 4 x hx
  · split at hx
    · rw [List.mem_singleton.1 hx]; omega
    · cases hx
  · exact bytes_byte topic x hx
  · split at hx
    · exact be_byte seq 8 x hx
    · cases hx
  · split at hx
    · rename_i h8
      rw [List.mem_singleton.1 hx]
      have := hcode h8
      omega
    · cases hx
  · exact hp x hx

theorem ok_len3 {s : ByteArray} (h : topicOk s = true) : s.size ≤ 64 := by
  unfold topicOk at h
  simp at h
  exact h.1

theorem put_inj {k i q c k' i' q' c' : Int} {t t' : ByteArray} {p p' : List Int} (h : cmdOk k t q c p = true) (h' : cmdOk k' t' q' c' p' = true)
    (hi : 0 ≤ i ∧ i ≤ 4294967295) (hi' : 0 ≤ i' ∧ i' ≤ 4294967295) (hq : 0 ≤ q ∧ q ≤ 18446744073709551615) (hq' : 0 ≤ q' ∧ q' ≤ 18446744073709551615)
    (e : putL k i t q c p = putL k' i' t' q' c' p') : k = k' ∧ i = i' ∧ t = t' ∧ q = q' ∧ c = c' ∧ p = p' := by
  have hkk : k = k' := by
    unfold putL at e
    simp at e
    exact e.1
  subst hkk
  unfold putL at e
  simp only [List.append_assoc, List.cons_append, List.nil_append] at e
  obtain ⟨e1, e2⟩ := List.append_inj (List.cons.inj e).2 (by rw [beL_length, beL_length])
  have hii := be4_inj hi hi' e1
  unfold cmdOk at h h'
  simp only [Bool.and_eq_true, decide_eq_true_iff] at h h'
  obtain ⟨a1, a2, a3, a4, a5⟩ := h
  obtain ⟨b1, b2, b3, b4, b5⟩ := h'
  have hnil : ∀ {s : ByteArray}, s.data.toList = [] → bytesOf s = [] := fun hs => by simp [bytesOf, hs]
  rcases (show k = 1 ∨ k = 2 ∨ k = 3 ∨ k = 4 ∨ k = 5 ∨ k = 6 ∨ k = 7 ∨ k = 8 by omega) with rfl | rfl | rfl | rfl | rfl | rfl | rfl | rfl
  all_goals simp at a2 a3 a4 a5 b2 b3 b4 b5 e2
  · have hb : bytesOf t = bytesOf t' := by simpa [a5, b5] using e2
    exact ⟨rfl, hii, bytesOf_inj hb, by rw [a3, b3], by rw [a4, b4], by rw [a5, b5]⟩
  · exact ⟨rfl, hii, bytes_ext (by simp [a2, b2]), by rw [a3, b3], by rw [a4, b4], by rw [a5, b5]⟩
  · have s1 := (ok_len3 a2)
    have s2 := (ok_len3 b2)
    have hs : t.size = t'.size := by omega
    obtain ⟨e3, e4⟩ := List.append_inj e2.2 (by rw [bytesOf_length, bytesOf_length]; exact hs)
    exact ⟨rfl, hii, bytesOf_inj e3, by rw [a3, b3], by rw [a4, b4], e4⟩
  · have n1 : bytesOf t = [] := by simp [bytesOf, a2]
    have n2 : bytesOf t' = [] := by simp [bytesOf, b2]
    rw [n1, n2, a5, b5] at e2
    exact ⟨rfl, hii, bytes_ext (by simp [a2, b2]), be8_inj hq hq' (by simpa using e2), by rw [a4, b4], by rw [a5, b5]⟩
  · have n1 : bytesOf t = [] := by simp [bytesOf, a2]
    have n2 : bytesOf t' = [] := by simp [bytesOf, b2]
    rw [n1, n2, a5, b5] at e2
    exact ⟨rfl, hii, bytes_ext (by simp [a2, b2]), be8_inj hq hq' (by simpa using e2), by rw [a4, b4], by rw [a5, b5]⟩
  · have n1 : bytesOf t = [] := by simp [bytesOf, a2]
    have n2 : bytesOf t' = [] := by simp [bytesOf, b2]
    rw [n1, n2] at e2
    obtain ⟨e3, e4⟩ := List.append_inj (by simpa using e2) (by rw [beL_length, beL_length])
    exact ⟨rfl, hii, bytes_ext (by simp [a2, b2]), be8_inj hq hq' e3, by rw [a4, b4], e4⟩
  · have n1 : bytesOf t = [] := by simp [bytesOf, a2]
    have n2 : bytesOf t' = [] := by simp [bytesOf, b2]
    rw [n1, n2, a5, b5] at e2
    exact ⟨rfl, hii, bytes_ext (by simp [a2, b2]), be8_inj hq hq' (by simpa using e2), by rw [a4, b4], by rw [a5, b5]⟩
  · have n1 : bytesOf t = [] := by simp [bytesOf, a2]
    have n2 : bytesOf t' = [] := by simp [bytesOf, b2]
    rw [n1, n2, a5, b5] at e2
    exact ⟨rfl, hii, bytes_ext (by simp [a2, b2]), by rw [a3, b3], by simpa using e2, by rw [a5, b5]⟩

theorem ev_fixed22 : Ev (fun k => louverlaw22_fixed.f k) true := by
  unfold louverlaw22_fixed.f
  have h := ev_put 2 5 ⟨#[]⟩ 0 0 [] (by decide) (by decide) (by decide) (by decide) (by decide) (by decide)
  have hok : cmdOk 2 ⟨#[]⟩ 0 0 [] = true := by decide +kernel
  rw [hok] at h
  refine Ev.bind h ?_
  have e : ((strOfNums (if true = true then putL 2 5 ⟨#[]⟩ 0 0 [] else [])).toList == ([2, 0, 0, 0, 5] : List UInt8)) = true := by decide +kernel
  rw [e]
  exact Ev.now true

/-- A command's numbers in their ranges. -/
structure CmdIn (kind id seq code : Int) (topic : ByteArray) (pay : List Int) : Prop where
  k : 0 ≤ kind ∧ kind ≤ 255
  i : 0 ≤ id ∧ id ≤ 4294967295
  q : 0 ≤ seq ∧ seq ≤ 18446744073709551615
  c : 0 ≤ code ∧ code ≤ 255
  p : Byte8 pay

theorem great_some (kind id : Int) (topic : ByteArray) (seq code : Int) (pay : List Int) : louverlaw22_great.f kind id topic seq code pay = some (decide (3000 < topic.size ∨ 9000 < pay.length)) := by
  unfold louverlaw22_great.f
  by_cases h : (topic.size : Int) > 3000
  · rw [if_pos h, decide_eq_true (show 3000 < topic.size ∨ 9000 < pay.length by omega)]
  · rw [if_neg h]
    congr 1
    rw [decide_eq_decide]
    omega
end Go.Proofs.YtkgedjaihimafaaDoor

/- A command's writing is read as it was; what is read as a command is written so. Over lists. -/
namespace Go.Proofs.YtkgedjaihimafaaDoor
set_option linter.unusedVariables false
set_option linter.unusedSimpArgs false
open Go.RowKit Go.Proofs.YtkgedjaihimafaaDoorW.PrintWords Go.Proofs.YtkgedjaihimafaaDoorW.PrintMore Go.Proofs.YtkgedjaihimafaaDoor.QCmd Go.Proofs.YtkgedjaihimafaaDoor.Given

theorem str_bytes (s : ByteArray) : strOfNums (bytesOf s) = s := by
  refine bytes_ext ?_
  rw [← ByteArray.toList_eq, str_list, bytesOf, List.map_map]
  have : (fun n : Int => UInt8.ofNat n.toNat) ∘ (fun b : UInt8 => (b.toNat : Int)) = id := by
    funext b
    simp
  rw [this, List.map_id]
theorem bytes_str {l : List Int} (h : Byte8 l) : bytesOf (strOfNums l) = l := by
  have e := back_list l h
  unfold bytesOf
  rw [← ByteArray.toList_eq, str_list]
  exact e
theorem str_size (l : List Int) : (strOfNums l).size = l.length := by
  have := bytesOf_length (strOfNums l)
  unfold bytesOf at this
  rw [← ByteArray.toList_eq, str_list] at this
  simpa using this.symm

/-- What stands behind a command's head. -/
def restL (kind : Int) (topic : ByteArray) (seq code : Int) (pay : List Int) : List Int :=
  (if kind = 3 then [((topic.size : Int)) % 256] else []) ++ (bytesOf topic ++ ((if 4 ≤ kind ∧ kind ≤ 7 then beL seq 8 else []) ++ ((if kind = 8 then [code] else []) ++ pay)))
theorem putL_eq (kind id : Int) (topic : ByteArray) (seq code : Int) (pay : List Int) : putL kind id topic seq code pay = kind :: (beL id 4 ++ restL kind topic seq code pay) := by
  unfold putL restL
  simp only [List.append_assoc, List.cons_append, List.nil_append]
theorem valL_be4 {n : Int} (h : 0 ≤ n ∧ n ≤ 4294967295) : valL (beL n 4) = n := by
  simp [valL, valFrom, beL]
  omega
theorem valL_be8 {n : Int} (h : 0 ≤ n ∧ n ≤ 18446744073709551615) : valL (beL n 8) = n := by
  simp [valL, valFrom, beL]
  omega
theorem be4_valL {l : List Int} (hl : l.length = 4) (h : Byte8 l) : beL (valL l) 4 = l := by
  match l, hl with
  | [a, b, c, d], _ =>
    have ha := h a (by simp)
    have hb := h b (by simp)
    have hc := h c (by simp)
    have hd := h d (by simp)
    simp [valL, valFrom, beL]
    omega
theorem be8_valL {l : List Int} (hl : l.length = 8) (h : Byte8 l) : beL (valL l) 8 = l := by
  match l, hl with
  | [a, b, c, d, e, f, g, i], _ =>
    have ha := h a (by simp)
    have hb := h b (by simp)
    have hc := h c (by simp)
    have hd := h d (by simp)
    have he := h e (by simp)
    have hf := h f (by simp)
    have hg := h g (by simp)
    have hi := h i (by simp)
    simp [valL, valFrom, beL]
    omega
theorem valFrom_bound : ∀ (l : List Int) (n : Int), Byte8 l → 0 ≤ n → 0 ≤ valFrom n l ∧ valFrom n l < (n + 1) * 256 ^ l.length
  | [], n, _, hn => by simp [valFrom]; omega
  | c :: l, n, h, hn => by
    have hc := h c (by simp)
    have ih := valFrom_bound l (n * 256 + c) (fun x hx => h x (by simp [hx])) (by omega)
    refine ⟨ih.1, Int.lt_of_lt_of_le ih.2 ?_⟩
    rw [List.length_cons, pow256_succ, Int.mul_comm ((256 : Int) ^ l.length) 256, ← Int.mul_assoc]
    exact Int.mul_le_mul_of_nonneg_right (by omega) (Int.le_of_lt (Int.pow_pos (by decide)))
theorem valL_bound {l : List Int} (h : Byte8 l) : 0 ≤ valL l ∧ valL l < 256 ^ l.length := by
  have := valFrom_bound l 0 h (Int.le_refl 0)
  simpa [valL] using this

theorem topicOk_size {t : ByteArray} (h : topicOk t = true) : t.size ≤ 64 := by
  unfold topicOk at h
  simp only [Bool.and_eq_true, decide_eq_true_iff] at h
  exact h.1
theorem empty_of {t : ByteArray} (h : t.data.toList = []) : t = ⟨#[]⟩ := bytes_ext h
theorem bytesOf_empty : bytesOf ⟨#[]⟩ = [] := rfl

theorem restR_pub (topic : ByteArray) (pay : List Int) : restR 3 ((topic.size : Int) :: (bytesOf topic ++ pay)) = some (topic, 0, 0, pay) := by
  have hb := bytesOf_length topic
  unfold restR
  rw [if_neg (by decide), if_neg (by decide), if_pos rfl, List.getD_cons_zero]
  rw [if_neg (by simp only [List.length_cons, List.length_append]; omega)]
  have e1 : ((topic.size : Int) + 1).toNat = topic.size + 1 := by omega
  rw [e1, List.take_succ_cons, List.drop_succ_cons, List.drop_succ_cons, List.drop_zero, List.take_left' hb, List.drop_left' hb, str_bytes]

theorem restR_restL {kind : Int} {topic : ByteArray} {seq code : Int} {pay : List Int} (h : cmdOk kind topic seq code pay = true) (hq : 0 ≤ seq ∧ seq ≤ 18446744073709551615) : restR kind (restL kind topic seq code pay) = some (topic, seq, code, pay) := by
  unfold cmdOk at h
  simp only [Bool.and_eq_true, decide_eq_true_iff] at h
  obtain ⟨hk, ht, hs, hc, hp⟩ := h
  have hnil : pay.length = 0 → pay = [] := List.eq_nil_of_length_eq_zero
  unfold restR restL
  rcases kinds9 kind with h | h | h | h | h | h | h | h | h | h
  · omega
  · subst h
    simp at ht hs hc hp
    subst hs hc hp
    simp [str_bytes]
  · subst h
    simp at ht hs hc hp
    subst hs hc hp
    obtain rfl := empty_of (t := topic) (by simpa using ht)
    simp [bytesOf_empty]
  · subst h
    simp at ht hs hc hp
    subst hs hc
    have h64 := topicOk_size ht
    have em : ((topic.size : Int)) % 256 = topic.size := by omega
    simpa [em, restR] using restR_pub topic pay
  rotate_right
  · omega
  all_goals subst h
  rotate_right
  · simp at ht hs hc hp
    subst hs hp
    obtain rfl := empty_of (t := topic) (by simpa using ht)
    simp [bytesOf_empty]
  all_goals
    simp at ht hs hc hp
    subst hc
    obtain rfl := empty_of (t := topic) (by simpa using ht)
    try subst hp
    have h8 := beL_length seq 8
    have ev := valL_be8 hq
    have et : (beL seq 8).take 8 = beL seq 8 := List.take_of_length_le (by omega)
    simp [bytesOf_empty, h8, et, List.take_left' h8, List.drop_left' h8, ev]

theorem getR_putL {kind id : Int} {topic : ByteArray} {seq code : Int} {pay : List Int} (h : cmdOk kind topic seq code pay = true) (hi : 0 ≤ id ∧ id ≤ 4294967295) (hq : 0 ≤ seq ∧ seq ≤ 18446744073709551615) :
    getR (putL kind id topic seq code pay) = (kind, id, topic, seq, code, pay, 0, true) := by
  rw [putL_eq]
  have hl : (beL id 4).length = 4 := beL_length id 4
  have hr := restR_restL h hq
  have hd : (kind :: (beL id 4 ++ restL kind topic seq code pay)).drop 5 = restL kind topic seq code pay := by
    rw [List.drop_succ_cons, List.drop_left' hl]
  have ht : ((kind :: (beL id 4 ++ restL kind topic seq code pay)).take 5).drop 1 = beL id 4 := by
    rw [List.take_succ_cons, List.take_left' hl, List.drop_succ_cons, List.drop_zero]
  unfold getR
  rw [if_neg (by simp only [List.length_cons, List.length_append, hl]; omega), hd, ht, List.getD_cons_zero, hr, valL_be4 hi]
  have hc := h
  unfold cmdOk at hc
  simp only [Bool.and_eq_true, decide_eq_true_iff] at hc
  obtain ⟨hk, htt, -, -, hp⟩ := hc
  simp only
  rw [if_neg, if_neg, if_pos h]
  · rintro ⟨rfl, h2⟩
    simp at hp
    omega
  · rintro ⟨h1, h2⟩
    rw [if_pos h1] at htt
    rw [h2] at htt
    cases htt

theorem split5 {l : List Int} (h : ¬ l.length < 5) : l = l.getD 0 0 :: ((l.take 5).drop 1 ++ l.drop 5) ∧ ((l.take 5).drop 1).length = 4 := by
  match l, h with
  | [], h => simp at h
  | [_], h => simp at h
  | [_, _], h => simp at h
  | [_, _, _], h => simp at h
  | [_, _, _, _], h => simp at h
  | a :: b :: c :: d :: e :: l, _ => simp

theorem restL_restR {kind : Int} {l : List Int} {topic : ByteArray} {seq code : Int} {pay : List Int} (hl : Byte8 l) (h : restR kind l = some (topic, seq, code, pay)) : restL kind topic seq code pay = l := by
  unfold restR at h
  unfold restL
  by_cases h1 : kind = 1
  · subst h1
    simp at h
    obtain ⟨rfl, rfl, rfl, rfl⟩ := h
    simp [bytes_str hl]
  rw [if_neg h1] at h
  by_cases h2 : kind = 2
  · subst h2
    simp at h
    obtain ⟨rfl, rfl, rfl, rfl, rfl⟩ := h
    simp [bytesOf_empty]
  rw [if_neg h2] at h
  by_cases h3 : kind = 3
  · subst h3
    rw [if_pos rfl] at h
    split at h
    · cases h
    · rename_i hno
      match l, hl, hno, h with
      | [], _, hno, _ => simp at hno
      | x :: l, hl, hno, h =>
        have hx := hl x (by simp)
        have hl' : Byte8 l := fun y hy => hl y (by simp [hy])
        simp only [List.getD_cons_zero] at h hno
        have e1 : (x + 1).toNat = x.toNat + 1 := by omega
        have hxl : x.toNat ≤ l.length := by
          simp only [List.length_cons] at hno
          omega
        rw [e1, List.take_succ_cons, List.drop_succ_cons, List.drop_succ_cons, List.drop_zero] at h
        simp only [Option.some.injEq, Prod.mk.injEq] at h
        obtain ⟨rfl, rfl, rfl, rfl⟩ := h
        have hb : Byte8 (l.take x.toNat) := fun y hy => hl' y (List.mem_of_mem_take hy)
        have hm : min x.toNat l.length = x.toNat := by omega
        rw [bytes_str hb, str_size, List.length_take, hm]
        have em : max x 0 % 256 = x := by omega
        simp [em]
  rw [if_neg h3] at h
  by_cases h4 : 4 ≤ kind ∧ kind ≤ 7
  · rw [if_pos h4] at h
    split at h
    · cases h
    · rename_i hno
      simp only [Option.some.injEq, Prod.mk.injEq] at h
      obtain ⟨rfl, rfl, rfl, rfl⟩ := h
      have h8 : (l.take 8).length = 8 := by rw [List.length_take]; omega
      rw [if_neg h3, if_pos h4, if_neg (show ¬ kind = 8 by omega), be8_valL h8 (fun y hy => hl y (List.mem_of_mem_take hy)), bytesOf_empty]
      simp
  rw [if_neg h4] at h
  by_cases h8 : kind = 8
  · subst h8
    rw [if_pos rfl] at h
    split at h
    · rename_i h1'
      match l, h1', h with
      | [x], _, h =>
        simp at h
        obtain ⟨rfl, rfl, rfl, rfl⟩ := h
        simp [bytesOf_empty]
    · cases h
  rw [if_neg h8] at h
  cases h

theorem putL_getR {l : List Int} {kind id : Int} {topic : ByteArray} {seq code : Int} {pay : List Int} {why : Int} (hl : Byte8 l) (h : getR l = (kind, id, topic, seq, code, pay, why, true)) :
    putL kind id topic seq code pay = l ∧ why = 0 ∧ cmdOk kind topic seq code pay = true := by
  unfold getR at h
  by_cases h5 : l.length < 5
  · rw [if_pos h5] at h
    simp at h
  rw [if_neg h5] at h
  obtain ⟨e, h4⟩ := split5 h5
  split at h
  · simp at h
  · rename_i t q c p hr
    split at h
    · simp at h
    · split at h
      · simp at h
      · split at h
        · rename_i hok
          simp only [Prod.mk.injEq, and_true] at h
          obtain ⟨rfl, rfl, rfl, rfl, rfl, rfl, rfl⟩ := h
          refine ⟨?_, rfl, hok⟩
          have hd : Byte8 (l.drop 5) := fun y hy => hl y (List.mem_of_mem_drop hy)
          have ht : Byte8 ((l.take 5).drop 1) := fun y hy => hl y (List.mem_of_mem_take (List.mem_of_mem_drop hy))
          rw [putL_eq, restL_restR hd hr, be4_valL h4 ht]
          exact e.symm
        · simp at h

/-- What Get answers are a command's parts. -/
theorem restR_in {kind : Int} {l : List Int} {topic : ByteArray} {seq code : Int} {pay : List Int} (hl : Byte8 l) (h : restR kind l = some (topic, seq, code, pay)) :
    (0 ≤ seq ∧ seq ≤ 18446744073709551615) ∧ (0 ≤ code ∧ code ≤ 255) ∧ Byte8 pay ∧ pay.length ≤ l.length ∧ topic.size ≤ l.length := by
  have hz : (⟨#[]⟩ : ByteArray).size = 0 := rfl
  have hnil : Byte8 [] := fun x hx => by cases hx
  unfold restR at h
  split at h
  · simp only [Option.some.injEq, Prod.mk.injEq] at h
    obtain ⟨rfl, rfl, rfl, rfl⟩ := h
    exact ⟨by decide, by decide, hnil, by simp, by rw [str_size]; exact Nat.le_refl _⟩
  split at h
  · split at h
    · simp only [Option.some.injEq, Prod.mk.injEq] at h
      obtain ⟨rfl, rfl, rfl, rfl⟩ := h
      exact ⟨by decide, by decide, hnil, by simp, by rw [hz]; omega⟩
    · cases h
  split at h
  · split at h
    · cases h
    · simp only [Option.some.injEq, Prod.mk.injEq] at h
      obtain ⟨rfl, rfl, rfl, rfl⟩ := h
      refine ⟨by decide, by decide, fun y hy => hl y (List.mem_of_mem_drop hy), by rw [List.length_drop]; omega, ?_⟩
      rw [str_size, List.length_drop, List.length_take]
      omega
  split at h
  · split at h
    · cases h
    · simp only [Option.some.injEq, Prod.mk.injEq] at h
      obtain ⟨rfl, rfl, rfl, rfl⟩ := h
      rename_i hno
      have h8 : (l.take 8).length = 8 := by rw [List.length_take]; omega
      have hv := valL_bound (l := l.take 8) (fun y hy => hl y (List.mem_of_mem_take hy))
      rw [h8] at hv
      refine ⟨⟨hv.1, by have := hv.2; omega⟩, by decide, fun y hy => hl y (List.mem_of_mem_drop hy), by rw [List.length_drop]; omega, by rw [hz]; omega⟩
  split at h
  · split at h
    · rename_i h1
      simp only [Option.some.injEq, Prod.mk.injEq] at h
      obtain ⟨rfl, rfl, rfl, rfl⟩ := h
      exact ⟨by decide, hl _ (getD0_mem (by omega)), hnil, by simp, by rw [hz]; omega⟩
    · cases h
  · cases h
theorem getR_in {l : List Int} (hl : Byte8 l) : CmdIn (getR l).1 (getR l).2.1 (getR l).2.2.2.1 (getR l).2.2.2.2.1 (getR l).2.2.1 (getR l).2.2.2.2.2.1 ∧ (getR l).2.2.2.2.2.1.length ≤ l.length ∧ (getR l).2.2.1.size ≤ l.length := by
  have hz : (⟨#[]⟩ : ByteArray).size = 0 := rfl
  have hnil : Byte8 [] := fun x hx => by cases hx
  unfold getR
  by_cases h5 : l.length < 5
  · rw [if_pos h5]
    exact ⟨⟨by decide, by decide, by decide, by decide, hnil⟩, by simp, by rw [hz]; omega⟩
  rw [if_neg h5]
  have h4 := (split5 h5).2
  have ht : Byte8 ((l.take 5).drop 1) := fun y hy => hl y (List.mem_of_mem_take (List.mem_of_mem_drop hy))
  have hv := valL_bound ht
  rw [h4] at hv
  have hv' : 0 ≤ valL ((l.take 5).drop 1) ∧ valL ((l.take 5).drop 1) ≤ 4294967295 := ⟨hv.1, by have := hv.2; omega⟩
  have hk := hl _ (getD0_mem (show 0 < l.length by omega))
  split
  · exact ⟨⟨by decide, by decide, by decide, by decide, hnil⟩, by simp, by rw [hz]; omega⟩
  · rename_i t q c p hr
    obtain ⟨q1, q2, q3, q4, q5⟩ := restR_in (fun y hy => hl y (List.mem_of_mem_drop hy)) hr
    rw [List.length_drop] at q4 q5
    repeat' split
    · exact ⟨⟨hk, hv', ⟨Int.le_refl 0, (by decide : (0 : Int) ≤ 18446744073709551615)⟩, ⟨Int.le_refl 0, (by decide : (0 : Int) ≤ 255)⟩, hnil⟩, by simp, by rw [hz]; omega⟩
    · exact ⟨⟨hk, hv', ⟨Int.le_refl 0, (by decide : (0 : Int) ≤ 18446744073709551615)⟩, ⟨Int.le_refl 0, (by decide : (0 : Int) ≤ 255)⟩, hnil⟩, by simp, by rw [hz]; omega⟩
    · exact ⟨⟨hk, hv', q1, q2, q3⟩, by show p.length ≤ _; omega, by show t.size ≤ _; omega⟩
    · exact ⟨⟨by decide, by decide, by decide, by decide, hnil⟩, by simp, by rw [hz]; omega⟩
end Go.Proofs.YtkgedjaihimafaaDoor
