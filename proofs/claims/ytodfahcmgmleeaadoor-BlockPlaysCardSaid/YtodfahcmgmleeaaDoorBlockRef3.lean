/- The document's gatherer, walked: a block goes on. -/
import Derived.Test.YtodfahcmgmleeaaDoorBlockRef
namespace Go.Proofs.YtodfahcmgmleeaaDoor
set_option linter.unusedVariables false
set_option linter.unusedSimpArgs false
open Go.RowKit Go.Proofs.YtodfahcmgmleeaaDoorW.PrintWords
theorem strOfNums_append (xs ys : List Int) : strOfNums xs ++ strOfNums ys = strOfNums (xs ++ ys) := by
  apply ByteArray.ext
  simp [strOfNums]

set_option maxHeartbeats 2000000 in
set_option maxRecDepth 100000 in
theorem ref_more_part (w : World) (m : RSt) (fl st pad code oth wgt win : Int) (al : Bool) (A : Option Addr) (n c : Nat) (data : List Int) (S : Value) (hb : m.bad = 0) (hbu : m.busy = true) (hst : st = m.stream) (hm0 : 0 ≤ m.more) (hm1 : m.more ≤ 1000) (hl : m.block.length ≤ 100000) (hn : n ≤ 20000) (hR : ReadsInt w .u8 A n data) (ho : ¬ 8192 < m.block.length + data.length) (ho2 : ¬ 16 < m.more + 1) (hf : (fl.tdiv 4 % 2 == 1) = false) :
    Calls Tryd.prog 18 #[rV m, frV 9 fl st (.slice A n c) pad code oth wgt win al S] w (RefPost w ⟨true, m.stream, m.block ++ data, m.fin, m.more + 1, 0⟩ false rZero) := by
  subst hst
  obtain ⟨m0, m1, m2, m3, m4, m5⟩ := m
  simp only at hb hbu hm0 hm1 ho ho2 hl
  subst hb hbu
  refine of_post fun R hRR => ?_
  have HP := Lib.hid hRR
  clear hRR
  have hcv : ∀ W, Below w.heap.size w W → (convert 29 9 (.slice A n c)).run Tryd.prog W = .ok (.string (strOfNums data)) W := fun W hW => string_of_reads Tryd.underlying29 Tryd.underlying5 Tryd.underlying9 (hR.below hW)
  have HC := Lib.hid hcv
  have hz : (strOfNums data).size = data.length := strOfNums_size _
  have hz2 : (strOfNums m2).size = m2.length := strOfNums_size _
  have hln : data.length = n := hR.1
  clear hR hcv
  go_enter Tryd.func18, Tryd.ntmps18
  go_wp2_with fail
  rw [HC.out _ (by go_grown)]
  go_wp2_with fail
  simp only [strOfNums_append]
  go_region
  all_goals go_wp2
  all_goals
    refine bodyPost_ret (results_list (rs := [.cell 4 28, .tmp 5, .cell 6 28]) rfl (by simp) (.cell _ 28 _ (0, 0) _ rfl (by repeat' (first | (with_reducible refine blk_drew ?_) | (with_reducible refine blk_at _ ?_; simp; done) | (with_reducible refine blk_alloc ?_ _))) Tryd.underlying28 rfl (by kernel_rfl) (.tmp (.cell _ 28 _ (0, 0) _ rfl (by repeat' (first | (with_reducible refine blk_drew ?_) | (with_reducible refine blk_at _ ?_; simp; done) | (with_reducible refine blk_alloc ?_ _))) Tryd.underlying28 rfl (by kernel_rfl) .nil)))) rfl ?_
    exact HP.out _ _ ⟨rfl, by go_grown⟩

set_option maxHeartbeats 2000000 in
set_option maxRecDepth 100000 in
theorem ref_more_whole (w : World) (m : RSt) (fl st pad code oth wgt win : Int) (al : Bool) (A : Option Addr) (n c : Nat) (data : List Int) (S : Value) (hb : m.bad = 0) (hbu : m.busy = true) (hst : st = m.stream) (hm0 : 0 ≤ m.more) (hm1 : m.more ≤ 1000) (hl : m.block.length ≤ 100000) (hn : n ≤ 20000) (hR : ReadsInt w .u8 A n data) (ho : ¬ 8192 < m.block.length + data.length) (ho2 : ¬ 16 < m.more + 1) (hf : (fl.tdiv 4 % 2 == 1) = true) :
    Calls Tryd.prog 18 #[rV m, frV 9 fl st (.slice A n c) pad code oth wgt win al S] w (RefPost w rZero true ⟨true, m.stream, m.block ++ data, m.fin, m.more + 1, 0⟩) := by
  subst hst
  obtain ⟨m0, m1, m2, m3, m4, m5⟩ := m
  simp only at hb hbu hm0 hm1 ho ho2 hl
  subst hb hbu
  refine of_post fun R hRR => ?_
  have HP := Lib.hid hRR
  clear hRR
  have hcv : ∀ W, Below w.heap.size w W → (convert 29 9 (.slice A n c)).run Tryd.prog W = .ok (.string (strOfNums data)) W := fun W hW => string_of_reads Tryd.underlying29 Tryd.underlying5 Tryd.underlying9 (hR.below hW)
  have HC := Lib.hid hcv
  have hz : (strOfNums data).size = data.length := strOfNums_size _
  have hz2 : (strOfNums m2).size = m2.length := strOfNums_size _
  have hln : data.length = n := hR.1
  clear hR hcv
  go_enter Tryd.func18, Tryd.ntmps18
  go_wp2_with fail
  rw [HC.out _ (by go_grown)]
  go_wp2_with fail
  simp only [strOfNums_append]
  go_region
  all_goals go_wp2
  all_goals
    refine bodyPost_ret (results_list (rs := [.cell 4 28, .tmp 5, .cell 6 28]) rfl (by simp) (.cell _ 28 _ (0, 0) _ rfl (by repeat' (first | (with_reducible refine blk_drew ?_) | (with_reducible refine blk_at _ ?_; simp; done) | (with_reducible refine blk_alloc ?_ _))) Tryd.underlying28 rfl (by kernel_rfl) (.tmp (.cell _ 28 _ (0, 0) _ rfl (by repeat' (first | (with_reducible refine blk_drew ?_) | (with_reducible refine blk_at _ ?_; simp; done) | (with_reducible refine blk_alloc ?_ _))) Tryd.underlying28 rfl (by kernel_rfl) .nil)))) rfl ?_
    exact HP.out _ _ ⟨rfl, by go_grown⟩

set_option maxHeartbeats 2000000 in
set_option maxRecDepth 100000 in
theorem ref_more_over1 (w : World) (m : RSt) (fl st pad code oth wgt win : Int) (al : Bool) (A : Option Addr) (n c : Nat) (data : List Int) (S : Value) (hb : m.bad = 0) (hbu : m.busy = true) (hst : st = m.stream) (hm0 : 0 ≤ m.more) (hm1 : m.more ≤ 1000) (hl : m.block.length ≤ 100000) (hn : n ≤ 20000) (hR : ReadsInt w .u8 A n data) (ho : 8192 < m.block.length + data.length) :
    Calls Tryd.prog 18 #[rV m, frV 9 fl st (.slice A n c) pad code oth wgt win al S] w (RefPost w ⟨false, 0, [], false, 0, 11⟩ false rZero) := by
  subst hst
  obtain ⟨m0, m1, m2, m3, m4, m5⟩ := m
  simp only at hb hbu hm0 hm1 ho hl
  subst hb hbu
  refine of_post fun R hRR => ?_
  have HP := Lib.hid hRR
  clear hRR
  have hcv : ∀ W, Below w.heap.size w W → (convert 29 9 (.slice A n c)).run Tryd.prog W = .ok (.string (strOfNums data)) W := fun W hW => string_of_reads Tryd.underlying29 Tryd.underlying5 Tryd.underlying9 (hR.below hW)
  have HC := Lib.hid hcv
  have hz : (strOfNums data).size = data.length := strOfNums_size _
  have hz2 : (strOfNums m2).size = m2.length := strOfNums_size _
  have hln : data.length = n := hR.1
  clear hR hcv
  go_enter Tryd.func18, Tryd.ntmps18
  go_wp2_with fail
  rw [HC.out _ (by go_grown)]
  go_wp2_with fail
  simp only [strOfNums_append]
  go_region_with (go_at_call 41; refine (fails_calls _ _ _ _ _ _ _ _).mono ?_; rintro e w' ⟨rfl, rfl⟩)
  all_goals go_wp2
  all_goals
    refine bodyPost_ret (results_list (rs := [.cell 4 28, .tmp 5, .cell 6 28]) rfl (by simp) (.cell _ 28 _ (0, 0) _ rfl (by repeat' (first | (with_reducible refine blk_drew ?_) | (with_reducible refine blk_at _ ?_; simp; done) | (with_reducible refine blk_alloc ?_ _))) Tryd.underlying28 rfl (by kernel_rfl) (.tmp (.cell _ 28 _ (0, 0) _ rfl (by repeat' (first | (with_reducible refine blk_drew ?_) | (with_reducible refine blk_at _ ?_; simp; done) | (with_reducible refine blk_alloc ?_ _))) Tryd.underlying28 rfl (by kernel_rfl) .nil)))) rfl ?_
    exact HP.out _ _ ⟨rfl, by go_grown⟩

set_option maxHeartbeats 2000000 in
set_option maxRecDepth 100000 in
theorem ref_more_over2 (w : World) (m : RSt) (fl st pad code oth wgt win : Int) (al : Bool) (A : Option Addr) (n c : Nat) (data : List Int) (S : Value) (hb : m.bad = 0) (hbu : m.busy = true) (hst : st = m.stream) (hm0 : 0 ≤ m.more) (hm1 : m.more ≤ 1000) (hl : m.block.length ≤ 100000) (hn : n ≤ 20000) (hR : ReadsInt w .u8 A n data) (ho : ¬ 8192 < m.block.length + data.length) (ho2 : 16 < m.more + 1) :
    Calls Tryd.prog 18 #[rV m, frV 9 fl st (.slice A n c) pad code oth wgt win al S] w (RefPost w ⟨false, 0, [], false, 0, 11⟩ false rZero) := by
  subst hst
  obtain ⟨m0, m1, m2, m3, m4, m5⟩ := m
  simp only at hb hbu hm0 hm1 ho ho2 hl
  subst hb hbu
  refine of_post fun R hRR => ?_
  have HP := Lib.hid hRR
  clear hRR
  have hcv : ∀ W, Below w.heap.size w W → (convert 29 9 (.slice A n c)).run Tryd.prog W = .ok (.string (strOfNums data)) W := fun W hW => string_of_reads Tryd.underlying29 Tryd.underlying5 Tryd.underlying9 (hR.below hW)
  have HC := Lib.hid hcv
  have hz : (strOfNums data).size = data.length := strOfNums_size _
  have hz2 : (strOfNums m2).size = m2.length := strOfNums_size _
  have hln : data.length = n := hR.1
  clear hR hcv
  go_enter Tryd.func18, Tryd.ntmps18
  go_wp2_with fail
  rw [HC.out _ (by go_grown)]
  go_wp2_with fail
  simp only [strOfNums_append]
  go_region_with (go_at_call 41; refine (fails_calls _ _ _ _ _ _ _ _).mono ?_; rintro e w' ⟨rfl, rfl⟩)
  all_goals go_wp2
  all_goals
    refine bodyPost_ret (results_list (rs := [.cell 4 28, .tmp 5, .cell 6 28]) rfl (by simp) (.cell _ 28 _ (0, 0) _ rfl (by repeat' (first | (with_reducible refine blk_drew ?_) | (with_reducible refine blk_at _ ?_; simp; done) | (with_reducible refine blk_alloc ?_ _))) Tryd.underlying28 rfl (by kernel_rfl) (.tmp (.cell _ 28 _ (0, 0) _ rfl (by repeat' (first | (with_reducible refine blk_drew ?_) | (with_reducible refine blk_at _ ?_; simp; done) | (with_reducible refine blk_alloc ?_ _))) Tryd.underlying28 rfl (by kernel_rfl) .nil)))) rfl ?_
    exact HP.out _ _ ⟨rfl, by go_grown⟩

end Go.Proofs.YtodfahcmgmleeaaDoor
