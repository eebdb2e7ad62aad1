/- The document's gatherer, walked. -/
import Derived.Test.YtodfahcmgmleeaaDoorBlockGo
import Derived.Handy
namespace Go.Proofs.YtodfahcmgmleeaaDoor
set_option linter.unusedVariables false
set_option linter.unusedSimpArgs false
open Go.RowKit Go.Proofs.YtodfahcmgmleeaaDoorW.PrintWords

/-- The document's state. -/
structure RSt where
  busy : Bool
  stream : Int
  block : List Int
  fin : Bool
  more : Int
  bad : Int

abbrev rV (m : RSt) : Value := .agg #[.bool m.busy, .int .u32 m.stream, .string (strOfNums m.block), .bool m.fin, .int .i64 m.more, .int .i64 m.bad]
abbrev rZero : RSt := ⟨false, 0, [], false, 0, 0⟩
def RefPost (w : World) (m1 : RSt) (is : Bool) (o : RSt) (ev : Ending) (w' : World) : Prop :=
  ev = .returned (.tuple #[rV m1, .bool is, rV o]) ∧ Below w.heap.size w w'

theorem fails_calls (w : World) (a c : Bool) (b d e : Int) (x : ByteArray) (k : Int) : Calls Tryd.prog 41 #[.agg #[.bool a, .int .u32 b, .string x, .bool c, .int .i64 d, .int .i64 e], .int .i64 k] w fun ev w' => ev = .returned (.agg #[.bool false, .int .u32 0, .string ⟨#[]⟩, .bool false, .int .i64 0, .int .i64 k]) ∧ w' = (w.alloc (.cells #[.bool a, .int .u32 b, .string x, .bool c, .int .i64 d, .int .i64 e] 28)).alloc (.cells #[.bool false, .int .u32 0, .string ⟨#[]⟩, .bool false, .int .i64 0, .int .i64 k] 28) := by
  go_enter Tryd.func41, Tryd.ntmps41
  go_wp2
  exact bodyPost_ret (results_cell_row rfl _ _ (w.heap.size + 1) 28 #[.bool false, .int .u32 0, .string ⟨#[]⟩, .bool false, .int .i64 0, .int .i64 k] (0, 0) _ rfl (blk_at _ (by simp)) Tryd.underlying28 rfl (by kernel_rfl)) rfl ⟨rfl, rfl⟩

set_option maxHeartbeats 2000000 in
set_option maxRecDepth 100000 in
theorem ref_again (w : World) (m : RSt) (ty fl st pad code oth wgt win : Int) (al : Bool) (D S : Value) (hb : m.bad ≠ 0) :
    Calls Tryd.prog 18 #[rV m, frV ty fl st D pad code oth wgt win al S] w (RefPost w m false rZero) := by
  obtain ⟨m0, m1, m2, m3, m4, m5⟩ := m
  simp only at hb
  refine of_post fun R hRR => ?_
  have HP := Lib.hid hRR
  clear hRR
  have z1 : (m5 != 0) = true := by simpa using hb
  go_enter Tryd.func18, Tryd.ntmps18
  go_wp2
  go_region
  all_goals go_wp2
  all_goals
    refine bodyPost_ret (results_list (rs := [.cell 4 28, .tmp 5, .cell 6 28]) rfl (by simp) (.cell _ 28 _ (0, 0) _ rfl (by repeat' (first | (with_reducible refine blk_drew ?_) | (with_reducible refine blk_at _ ?_; simp; done) | (with_reducible refine blk_alloc ?_ _))) Tryd.underlying28 rfl (by kernel_rfl) (.tmp (.cell _ 28 _ (0, 0) _ rfl (by repeat' (first | (with_reducible refine blk_drew ?_) | (with_reducible refine blk_at _ ?_; simp; done) | (with_reducible refine blk_alloc ?_ _))) Tryd.underlying28 rfl (by kernel_rfl) .nil)))) rfl ?_
    exact HP.out _ _ ⟨rfl, by go_grown⟩

set_option maxHeartbeats 2000000 in
set_option maxRecDepth 100000 in
theorem ref_idle9 (w : World) (m : RSt) (ty fl st pad code oth wgt win : Int) (al : Bool) (D S : Value) (hb : m.bad = 0) (hbu : m.busy = false) (h9 : ty = 9) :
    Calls Tryd.prog 18 #[rV m, frV ty fl st D pad code oth wgt win al S] w (RefPost w ⟨false, 0, [], false, 0, 1⟩ false rZero) := by
  obtain ⟨m0, m1, m2, m3, m4, m5⟩ := m
  simp only at hb hbu
  subst hb
  refine of_post fun R hRR => ?_
  have HP := Lib.hid hRR
  clear hRR
  subst hbu h9
  go_enter Tryd.func18, Tryd.ntmps18
  go_wp2
  go_region_with (go_at_call 41; refine (fails_calls _ _ _ _ _ _ _ _).mono ?_; rintro e w' ⟨rfl, rfl⟩)
  all_goals go_wp2
  all_goals
    refine bodyPost_ret (results_list (rs := [.cell 4 28, .tmp 5, .cell 6 28]) rfl (by simp) (.cell _ 28 _ (0, 0) _ rfl (by repeat' (first | (with_reducible refine blk_drew ?_) | (with_reducible refine blk_at _ ?_; simp; done) | (with_reducible refine blk_alloc ?_ _))) Tryd.underlying28 rfl (by kernel_rfl) (.tmp (.cell _ 28 _ (0, 0) _ rfl (by repeat' (first | (with_reducible refine blk_drew ?_) | (with_reducible refine blk_at _ ?_; simp; done) | (with_reducible refine blk_alloc ?_ _))) Tryd.underlying28 rfl (by kernel_rfl) .nil)))) rfl ?_
    exact HP.out _ _ ⟨rfl, by go_grown⟩

set_option maxHeartbeats 2000000 in
set_option maxRecDepth 100000 in
theorem ref_pass (w : World) (m : RSt) (ty fl st pad code oth wgt win : Int) (al : Bool) (D S : Value) (hb : m.bad = 0) (hbu : m.busy = false) (h9 : ty ≠ 9) (h1 : ty ≠ 1) :
    Calls Tryd.prog 18 #[rV m, frV ty fl st D pad code oth wgt win al S] w (RefPost w m false rZero) := by
  obtain ⟨m0, m1, m2, m3, m4, m5⟩ := m
  simp only at hb hbu
  subst hb
  refine of_post fun R hRR => ?_
  have HP := Lib.hid hRR
  clear hRR
  subst hbu
  have z1 : (ty == 9) = false := by simpa using h9
  have z2 : (ty != 1) = true := by simpa using h1
  go_enter Tryd.func18, Tryd.ntmps18
  go_wp2
  go_region
  all_goals go_wp2
  all_goals
    refine bodyPost_ret (results_list (rs := [.cell 4 28, .tmp 5, .cell 6 28]) rfl (by simp) (.cell _ 28 _ (0, 0) _ rfl (by repeat' (first | (with_reducible refine blk_drew ?_) | (with_reducible refine blk_at _ ?_; simp; done) | (with_reducible refine blk_alloc ?_ _))) Tryd.underlying28 rfl (by kernel_rfl) (.tmp (.cell _ 28 _ (0, 0) _ rfl (by repeat' (first | (with_reducible refine blk_drew ?_) | (with_reducible refine blk_at _ ?_; simp; done) | (with_reducible refine blk_alloc ?_ _))) Tryd.underlying28 rfl (by kernel_rfl) .nil)))) rfl ?_
    exact HP.out _ _ ⟨rfl, by go_grown⟩

set_option maxHeartbeats 2000000 in
set_option maxRecDepth 100000 in
theorem ref_other (w : World) (m : RSt) (ty fl st pad code oth wgt win : Int) (al : Bool) (D S : Value) (hb : m.bad = 0) (hbu : m.busy = true) (h9 : ty ≠ 9) :
    Calls Tryd.prog 18 #[rV m, frV ty fl st D pad code oth wgt win al S] w (RefPost w ⟨false, 0, [], false, 0, 1⟩ false rZero) := by
  obtain ⟨m0, m1, m2, m3, m4, m5⟩ := m
  simp only at hb hbu
  subst hb
  refine of_post fun R hRR => ?_
  have HP := Lib.hid hRR
  clear hRR
  subst hbu
  have z1 : (ty == 9) = false := by simpa using h9
  have z2 : (ty != 9) = true := by simpa using h9
  go_enter Tryd.func18, Tryd.ntmps18
  go_wp2
  go_region_with (go_at_call 41; refine (fails_calls _ _ _ _ _ _ _ _).mono ?_; rintro e w' ⟨rfl, rfl⟩)
  all_goals go_wp2
  all_goals
    refine bodyPost_ret (results_list (rs := [.cell 4 28, .tmp 5, .cell 6 28]) rfl (by simp) (.cell _ 28 _ (0, 0) _ rfl (by repeat' (first | (with_reducible refine blk_drew ?_) | (with_reducible refine blk_at _ ?_; simp; done) | (with_reducible refine blk_alloc ?_ _))) Tryd.underlying28 rfl (by kernel_rfl) (.tmp (.cell _ 28 _ (0, 0) _ rfl (by repeat' (first | (with_reducible refine blk_drew ?_) | (with_reducible refine blk_at _ ?_; simp; done) | (with_reducible refine blk_alloc ?_ _))) Tryd.underlying28 rfl (by kernel_rfl) .nil)))) rfl ?_
    exact HP.out _ _ ⟨rfl, by go_grown⟩

set_option maxHeartbeats 2000000 in
set_option maxRecDepth 100000 in
theorem ref_stream (w : World) (m : RSt) (ty fl st pad code oth wgt win : Int) (al : Bool) (D S : Value) (hb : m.bad = 0) (hbu : m.busy = true) (h9 : ty = 9) (hs : st ≠ m.stream) :
    Calls Tryd.prog 18 #[rV m, frV ty fl st D pad code oth wgt win al S] w (RefPost w ⟨false, 0, [], false, 0, 1⟩ false rZero) := by
  obtain ⟨m0, m1, m2, m3, m4, m5⟩ := m
  simp only at hb hbu hs
  subst hb
  refine of_post fun R hRR => ?_
  have HP := Lib.hid hRR
  clear hRR
  subst hbu h9
  have z1 : (st == m1) = false := by simpa using hs
  have z2 : (st != m1) = true := by simpa using hs
  go_enter Tryd.func18, Tryd.ntmps18
  go_wp2
  go_region_with (go_at_call 41; refine (fails_calls _ _ _ _ _ _ _ _).mono ?_; rintro e w' ⟨rfl, rfl⟩)
  all_goals go_wp2
  all_goals
    refine bodyPost_ret (results_list (rs := [.cell 4 28, .tmp 5, .cell 6 28]) rfl (by simp) (.cell _ 28 _ (0, 0) _ rfl (by repeat' (first | (with_reducible refine blk_drew ?_) | (with_reducible refine blk_at _ ?_; simp; done) | (with_reducible refine blk_alloc ?_ _))) Tryd.underlying28 rfl (by kernel_rfl) (.tmp (.cell _ 28 _ (0, 0) _ rfl (by repeat' (first | (with_reducible refine blk_drew ?_) | (with_reducible refine blk_at _ ?_; simp; done) | (with_reducible refine blk_alloc ?_ _))) Tryd.underlying28 rfl (by kernel_rfl) .nil)))) rfl ?_
    exact HP.out _ _ ⟨rfl, by go_grown⟩
end Go.Proofs.YtodfahcmgmleeaaDoor
