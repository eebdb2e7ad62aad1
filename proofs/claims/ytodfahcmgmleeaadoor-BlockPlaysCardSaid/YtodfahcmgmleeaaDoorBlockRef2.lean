/- The document's gatherer, walked: blocks. -/
import Derived.Test.YtodfahcmgmleeaaDoorBlockRef
namespace Go.Proofs.YtodfahcmgmleeaaDoor
set_option linter.unusedVariables false
set_option linter.unusedSimpArgs false
open Go.RowKit Go.Proofs.YtodfahcmgmleeaaDoorW.PrintWords

set_option maxHeartbeats 2000000 in
set_option maxRecDepth 100000 in
theorem ref_begin_over (w : World) (m : RSt) (fl st pad code oth wgt win : Int) (al : Bool) (A : Option Addr) (n c : Nat) (data : List Int) (S : Value) (hb : m.bad = 0) (hbu : m.busy = false) (hR : ReadsInt w .u8 A n data) (ho : 8192 < data.length) :
    Calls Tryd.prog 18 #[rV m, frV 1 fl st (.slice A n c) pad code oth wgt win al S] w (RefPost w ⟨false, 0, [], false, 0, 11⟩ false rZero) := by
  obtain ⟨m0, m1, m2, m3, m4, m5⟩ := m
  simp only at hb hbu
  subst hb hbu
  refine of_post fun R hRR => ?_
  have HP := Lib.hid hRR
  clear hRR
  have hcv : ∀ W, Below w.heap.size w W → (convert 29 9 (.slice A n c)).run Tryd.prog W = .ok (.string (strOfNums data)) W := fun W hW => string_of_reads Tryd.underlying29 Tryd.underlying5 Tryd.underlying9 (hR.below hW)
  have HC := Lib.hid hcv
  have hz : (strOfNums data).size = data.length := strOfNums_size _
  have z1 : decide ((8192 : Int) < (data.length : Int)) = true := by rw [decide_eq_true_iff]; omega
  have z2 : decide ((8192 : Int) < ((strOfNums data).size : Int)) = true := by rw [decide_eq_true_iff]; omega
  clear hR hcv
  go_enter Tryd.func18, Tryd.ntmps18
  go_wp2_with fail
  rw [HC.out _ (by go_grown)]
  go_wp2_with fail
  go_region_with (go_at_call 41; refine (fails_calls _ _ _ _ _ _ _ _).mono ?_; rintro e w' ⟨rfl, rfl⟩)
  all_goals go_wp2
  all_goals
    refine bodyPost_ret (results_list (rs := [.cell 4 28, .tmp 5, .cell 6 28]) rfl (by simp) (.cell _ 28 _ (0, 0) _ rfl (by repeat' (first | (with_reducible refine blk_drew ?_) | (with_reducible refine blk_at _ ?_; simp; done) | (with_reducible refine blk_alloc ?_ _))) Tryd.underlying28 rfl (by kernel_rfl) (.tmp (.cell _ 28 _ (0, 0) _ rfl (by repeat' (first | (with_reducible refine blk_drew ?_) | (with_reducible refine blk_at _ ?_; simp; done) | (with_reducible refine blk_alloc ?_ _))) Tryd.underlying28 rfl (by kernel_rfl) .nil)))) rfl ?_
    exact HP.out _ _ ⟨rfl, by go_grown⟩

set_option maxHeartbeats 2000000 in
set_option maxRecDepth 100000 in
theorem ref_begin_whole (w : World) (m : RSt) (fl st pad code oth wgt win : Int) (al : Bool) (A : Option Addr) (n c : Nat) (data : List Int) (S : Value) (hb : m.bad = 0) (hbu : m.busy = false) (hR : ReadsInt w .u8 A n data) (ho : ¬ 8192 < data.length) (hf : (fl.tdiv 4 % 2 == 1) = true) :
    Calls Tryd.prog 18 #[rV m, frV 1 fl st (.slice A n c) pad code oth wgt win al S] w (RefPost w rZero true ⟨true, st, data, fl.tmod 2 == 1, 0, 0⟩) := by
  obtain ⟨m0, m1, m2, m3, m4, m5⟩ := m
  simp only at hb hbu
  subst hb hbu
  refine of_post fun R hRR => ?_
  have HP := Lib.hid hRR
  clear hRR
  have hcv : ∀ W, Below w.heap.size w W → (convert 29 9 (.slice A n c)).run Tryd.prog W = .ok (.string (strOfNums data)) W := fun W hW => string_of_reads Tryd.underlying29 Tryd.underlying5 Tryd.underlying9 (hR.below hW)
  have HC := Lib.hid hcv
  have hz : (strOfNums data).size = data.length := strOfNums_size _
  have z1 : decide ((8192 : Int) < (data.length : Int)) = false := by rw [decide_eq_false_iff_not]; omega
  have z2 : decide ((8192 : Int) < ((strOfNums data).size : Int)) = false := by rw [decide_eq_false_iff_not]; omega
  clear hR hcv
  go_enter Tryd.func18, Tryd.ntmps18
  go_wp2_with fail
  rw [HC.out _ (by go_grown)]
  go_wp2_with fail
  go_region
  all_goals go_wp2
  all_goals
    refine bodyPost_ret (results_list (rs := [.cell 4 28, .tmp 5, .cell 6 28]) rfl (by simp) (.cell _ 28 _ (0, 0) _ rfl (by repeat' (first | (with_reducible refine blk_drew ?_) | (with_reducible refine blk_at _ ?_; simp; done) | (with_reducible refine blk_alloc ?_ _))) Tryd.underlying28 rfl (by kernel_rfl) (.tmp (.cell _ 28 _ (0, 0) _ rfl (by repeat' (first | (with_reducible refine blk_drew ?_) | (with_reducible refine blk_at _ ?_; simp; done) | (with_reducible refine blk_alloc ?_ _))) Tryd.underlying28 rfl (by kernel_rfl) .nil)))) rfl ?_
    exact HP.out _ _ ⟨rfl, by go_grown⟩


set_option maxHeartbeats 2000000 in
set_option maxRecDepth 100000 in
theorem ref_begin_part (w : World) (m : RSt) (fl st pad code oth wgt win : Int) (al : Bool) (A : Option Addr) (n c : Nat) (data : List Int) (S : Value) (hb : m.bad = 0) (hbu : m.busy = false) (hR : ReadsInt w .u8 A n data) (ho : ¬ 8192 < data.length) (hf : (fl.tdiv 4 % 2 == 1) = false) :
    Calls Tryd.prog 18 #[rV m, frV 1 fl st (.slice A n c) pad code oth wgt win al S] w (RefPost w ⟨true, st, data, fl.tmod 2 == 1, 0, 0⟩ false rZero) := by
  obtain ⟨m0, m1, m2, m3, m4, m5⟩ := m
  simp only at hb hbu
  subst hb hbu
  refine of_post fun R hRR => ?_
  have HP := Lib.hid hRR
  clear hRR
  have hcv : ∀ W, Below w.heap.size w W → (convert 29 9 (.slice A n c)).run Tryd.prog W = .ok (.string (strOfNums data)) W := fun W hW => string_of_reads Tryd.underlying29 Tryd.underlying5 Tryd.underlying9 (hR.below hW)
  have HC := Lib.hid hcv
  have hz : (strOfNums data).size = data.length := strOfNums_size _
  have z1 : decide ((8192 : Int) < (data.length : Int)) = false := by rw [decide_eq_false_iff_not]; omega
  have z2 : decide ((8192 : Int) < ((strOfNums data).size : Int)) = false := by rw [decide_eq_false_iff_not]; omega
  clear hR hcv
  go_enter Tryd.func18, Tryd.ntmps18
  go_wp2_with fail
  rw [HC.out _ (by go_grown)]
  go_wp2_with fail
  go_region
  all_goals go_wp2
  all_goals
    refine bodyPost_ret (results_list (rs := [.cell 4 28, .tmp 5, .cell 6 28]) rfl (by simp) (.cell _ 28 _ (0, 0) _ rfl (by repeat' (first | (with_reducible refine blk_drew ?_) | (with_reducible refine blk_at _ ?_; simp; done) | (with_reducible refine blk_alloc ?_ _))) Tryd.underlying28 rfl (by kernel_rfl) (.tmp (.cell _ 28 _ (0, 0) _ rfl (by repeat' (first | (with_reducible refine blk_drew ?_) | (with_reducible refine blk_at _ ?_; simp; done) | (with_reducible refine blk_alloc ?_ _))) Tryd.underlying28 rfl (by kernel_rfl) .nil)))) rfl ?_
    exact HP.out _ _ ⟨rfl, by go_grown⟩


end Go.Proofs.YtodfahcmgmleeaaDoor
