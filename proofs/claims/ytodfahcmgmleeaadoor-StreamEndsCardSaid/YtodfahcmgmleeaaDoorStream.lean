/- What package stream's functions do, at every state and frame: Live, Send, Come; and the reference's two. -/
import Derived.Test.YtodfahcmgmleeaaDoorFault
import Derived.Test.YtodfahcmgmleeaaDoorStreamPlain
namespace Go.Proofs.YtodfahcmgmleeaaDoor
open Go.RowKit Go.Proofs.YtodfahcmgmleeaaDoorW.PrintWords

theorem live_calls (s : Int) (w : World) : Calls Tryd.prog 29 #[.int .u8 s] w fun e w' => e = .returned (.bool (liveF s)) ∧ w = w' := by
  by_cases h1 : s = 1
  · subst h1
    go_enter Tryd.func29, Tryd.ntmps29
    go_wp2
    go_ret
    exact ⟨rfl, rfl⟩
  by_cases h2 : s = 2
  · subst h2
    go_enter Tryd.func29, Tryd.ntmps29
    go_wp2
    go_ret
    exact ⟨rfl, rfl⟩
  · have a1 : (s == 1) = false := by simpa using h1
    have a2 : (s == 2) = false := by simpa using h2
    go_enter Tryd.func29, Tryd.ntmps29
    go_wp2
    go_ret
    exact ⟨by simp [liveF, h1, h2]; by_cases h3 : s = 3 <;> simp [h3], rfl⟩

theorem known_yes (k : Int) (hk : k = 1 ∨ k = 0 ∨ k = 3 ∨ k = 8 ∨ k = 2) (w : World) : Calls Tryd.prog 44 #[.int .u8 k] w fun e w' => e = .returned (.bool true) ∧ w = w' := by
  rcases hk with rfl | rfl | rfl | rfl | rfl <;>
  (go_enter Tryd.func44, Tryd.ntmps44
   go_wp2
   go_ret
   exact ⟨rfl, rfl⟩)
theorem known_no (k : Int) (hk : ¬ (k = 1 ∨ k = 0 ∨ k = 3 ∨ k = 8 ∨ k = 2)) (w : World) : Calls Tryd.prog 44 #[.int .u8 k] w fun e w' => e = .returned (.bool false) ∧ w = w' := by
  have a1 : (k == 1) = false := by rw [beq_eq_false_iff_ne]; omega
  have a2 : (k == 0) = false := by rw [beq_eq_false_iff_ne]; omega
  have a3 : (k == 3) = false := by rw [beq_eq_false_iff_ne]; omega
  have a4 : (k == 8) = false := by rw [beq_eq_false_iff_ne]; omega
  have a5 : (k == 2) = false := by rw [beq_eq_false_iff_ne]; omega
  clear hk
  go_enter Tryd.func44, Tryd.ntmps44
  go_wp2
  go_ret
  exact ⟨rfl, rfl⟩

theorem ended_two (w : World) : Calls Tryd.prog 56 #[.int .u8 2] w fun e w' => e = .returned (.int .u8 4) ∧ w = w' := by
  go_enter Tryd.func56, Tryd.ntmps56
  go_wp2
  go_ret
  exact ⟨rfl, rfl⟩
theorem ended_one (w : World) : Calls Tryd.prog 56 #[.int .u8 1] w fun e w' => e = .returned (.int .u8 3) ∧ w = w' := by
  go_enter Tryd.func56, Tryd.ntmps56
  go_wp2
  go_ret
  exact ⟨rfl, rfl⟩

/-- What the inner come tells: the state, and an error with the fault, or none. -/
def ComePost (r : Int × Int × Int) (w : World) (ev : Ending) (w' : World) : Prop :=
  ∃ v, ev = .returned (.tuple #[.int .u8 r.1, v]) ∧ Below w.heap.size w w' ∧ EO w' v r.2.1 r.2.2

set_option maxHeartbeats 4000000 in
set_option maxRecDepth 100000 in
theorem come_calls (s k : Int) (e : Bool) (hs : s = 0 ∨ s = 1 ∨ s = 2 ∨ s = 3 ∨ s = 4 ∨ s = 5 ∨ s = 6) (hk : k = 1 ∨ k = 0 ∨ k = 3 ∨ k = 8) (w : World) :
    Calls Tryd.prog 45 #[.int .u8 s, .int .u8 k, .bool e] w (ComePost (comeF s k e) w) := by
  rcases hs with rfl | rfl | rfl | rfl | rfl | rfl | rfl <;> rcases hk with rfl | rfl | rfl | rfl <;> cases e <;>
  (go_enter Tryd.func45, Tryd.ntmps45
   go_wp2_with (first
     | (go_at_call 43; refine (conn_calls _ _).mono ?_; rintro e w1 ⟨v, rfl, hb, hE⟩; have HX := Lib.hid (And.intro hb hE); clear hb hE)
     | (go_at_call 57; refine (stream_calls _ _).mono ?_; rintro e w1 ⟨v, rfl, hb, hE⟩; have HX := Lib.hid (And.intro hb hE); clear hb hE)
     | (go_at_call 56; first | (refine (ended_two _).mono ?_; rintro e w1 ⟨rfl, rfl⟩) | (refine (ended_one _).mono ?_; rintro e w1 ⟨rfl, rfl⟩)))
   go_ret2
   first
     | exact ⟨_, rfl, HX.out.1, .inr ⟨_, HX.out.2⟩⟩
     | exact ⟨_, rfl, Below.refl _ _, .inl ⟨rfl, rfl, rfl⟩⟩)

/-- What Come tells. -/
def ComeOut (r : Int × Int × Int) (w : World) (ev : Ending) (w' : World) : Prop :=
  ev = .returned (.tuple #[.int .u8 r.1, .agg #[.int .u8 r.2.1, .int .u32 r.2.2]]) ∧ Below w.heap.size w w'

set_option maxHeartbeats 1000000 in
theorem Come_fault (s k : Int) (e : Bool) (c : Int) (hc : 6 < s ∧ c = 2 ∨ s ≤ 6 ∧ ¬ (k = 1 ∨ k = 0 ∨ k = 3 ∨ k = 8 ∨ k = 2) ∧ c = 1) (w : World) (hg : GV w) :
    Calls Tryd.prog 27 #[.int .u8 s, .int .u8 k, .bool e] w (ComeOut (s, 1, c) w) := by
  have hb0 := (Below.refl w.heap.size w).alloc (Nat.le_refl _) (.cells #[.int .u8 0, .int .u32 0] 36)
  have HB := Lib.hid hb0
  have HG := Lib.hid (hg.below hb0)
  clear hb0 hg
  rcases hc with ⟨h1, rfl⟩ | ⟨h1, h2, rfl⟩
  · have a1 : decide (6 < s) = true := by simpa using h1
    clear h1
    go_enter Tryd.func27, Tryd.ntmps27
    go_wp2_with (first
      | (go_at_call 43; refine (conn_calls _ _).mono ?_; rintro e w1 ⟨v, rfl, hb, hE⟩; have HX := Lib.hid (And.intro hb hE); clear hb hE)
      | (go_at_call 39; refine (of_err 0 _ _ _ _ (HG.out.below HX.out.1) HX.out.2).mono ?_; rintro e w2 ⟨rfl, hb⟩; have hk := blk_below (blk_below (blk_new w _) HX.out.1) hb; obtain ⟨c0, c1, f0, f1⟩ := blk2 hk; have HY := Lib.hid (And.intro hb hk); clear hb hk))
    refine bodyPost_ret (results_tc rfl _ _ w.heap.size 36 #[.int .u8 1, .int .u32 2] (0, 0) _ rfl (blk_set (blk_set HY.out.2 0 _) 1 _) Tryd.underlying36 rfl (by kernel_rfl)) rfl ⟨rfl, ?_⟩
    exact (((HB.out.trans (HX.out.1.mono (by simp))).trans (HY.out.1.mono (by have := HB.out.size; have := HX.out.1.size; simp at *; omega))).setCell (Nat.le_refl _) _).setCell (Nat.le_refl _) _
  · have a1 : decide (6 < s) = false := by simpa using h1
    have HK := Lib.hid h2
    clear h1 h2
    go_enter Tryd.func27, Tryd.ntmps27
    go_wp2_with (first
      | (go_at_call 44; refine (known_no _ HK.out _).mono ?_; rintro e w1 ⟨rfl, rfl⟩)
      | (go_at_call 43; refine (conn_calls _ _).mono ?_; rintro e w1 ⟨v, rfl, hb, hE⟩; have HX := Lib.hid (And.intro hb hE); clear hb hE)
      | (go_at_call 39; refine (of_err 0 _ _ _ _ (HG.out.below HX.out.1) HX.out.2).mono ?_; rintro e w2 ⟨rfl, hb⟩; have hk := blk_below (blk_below (blk_new w _) HX.out.1) hb; obtain ⟨c0, c1, f0, f1⟩ := blk2 hk; have HY := Lib.hid (And.intro hb hk); clear hb hk))
    refine bodyPost_ret (results_tc rfl _ _ w.heap.size 36 #[.int .u8 1, .int .u32 1] (0, 0) _ rfl (blk_set (blk_set HY.out.2 0 _) 1 _) Tryd.underlying36 rfl (by kernel_rfl)) rfl ⟨rfl, ?_⟩
    exact (((HB.out.trans (HX.out.1.mono (by simp))).trans (HY.out.1.mono (by have := HB.out.size; have := HX.out.1.size; simp at *; omega))).setCell (Nat.le_refl _) _).setCell (Nat.le_refl _) _

set_option maxHeartbeats 1000000 in
theorem Come_known (s k : Int) (e : Bool) (h0 : 0 ≤ s) (h1 : s ≤ 6) (hk : k = 1 ∨ k = 0 ∨ k = 3 ∨ k = 8) (w : World) (hg : GV w) :
    Calls Tryd.prog 27 #[.int .u8 s, .int .u8 k, .bool e] w (ComeOut (comeF s k e) w) := by
  have hb0 := (Below.refl w.heap.size w).alloc (Nat.le_refl _) (.cells #[.int .u8 0, .int .u32 0] 36)
  have HB := Lib.hid hb0
  have HG := Lib.hid (hg.below hb0)
  clear hb0 hg
  have a1 : decide (6 < s) = false := by simpa using h1
  have a2 : (k == 2) = false := by rw [beq_eq_false_iff_ne]; omega
  have HS := Lib.hid (show s = 0 ∨ s = 1 ∨ s = 2 ∨ s = 3 ∨ s = 4 ∨ s = 5 ∨ s = 6 by omega)
  have HK := Lib.hid hk
  clear h0 h1 hk
  generalize hr : comeF s k e = r
  have HR := Lib.hid hr
  clear hr
  go_enter Tryd.func27, Tryd.ntmps27
  go_wp2_with (first
    | (go_at_call 44; refine (known_yes _ (by have := HK.out; omega) _).mono ?_; rintro e w1 ⟨rfl, rfl⟩)
    | (go_at_call 45; refine (come_calls _ _ _ HS.out HK.out _).mono ?_; rw [HR.out]; rintro e w1 ⟨v, rfl, hb, hE⟩; have HX := Lib.hid (And.intro hb hE); clear hb hE)
    | (go_at_call 40; refine (wrap_eo _ _ _ _ _ HX.out.2).mono ?_; rintro e w2 ⟨v2, rfl, hb, hE⟩; have HY := Lib.hid (And.intro hb hE); clear hb hE)
    | (go_at_call 39; refine (of_eo _ _ _ _ ((HG.out.below HX.out.1).below HY.out.1) HY.out.2).mono ?_; rintro e w3 ⟨rfl, hb⟩; have hk := blk_below (blk_below (blk_below (blk_new w _) HX.out.1) HY.out.1) hb; obtain ⟨c0, c1, f0, f1⟩ := blk2 hk; have HZ := Lib.hid (And.intro hb hk); clear hb hk))
  refine bodyPost_ret (results_tc rfl _ _ w.heap.size 36 #[.int .u8 r.2.1, .int .u32 r.2.2] (0, 0) _ rfl (blk_set (blk_set HZ.out.2 0 _) 1 _) Tryd.underlying36 rfl (by kernel_rfl)) rfl ⟨rfl, ?_⟩
  have z1 := HB.out.size
  have z2 := HX.out.1.size
  have z3 := HY.out.1.size
  exact ((((HB.out.trans (HX.out.1.mono (by simp))).trans (HY.out.1.mono (by simp at *; omega))).trans (HZ.out.1.mono (by simp at *; omega))).setCell (Nat.le_refl _) _).setCell (Nat.le_refl _) _

theorem Come_priority (s : Int) (e : Bool) (h1 : s ≤ 6) (w : World) :
    Calls Tryd.prog 27 #[.int .u8 s, .int .u8 2, .bool e] w (ComeOut (s, 0, 0) w) := by
  have a1 : decide (6 < s) = false := by simpa using h1
  clear h1
  go_enter Tryd.func27, Tryd.ntmps27
  go_wp2_with (go_at_call 44; refine (known_yes _ (by omega) _).mono ?_; rintro e w1 ⟨rfl, rfl⟩)
  refine bodyPost_ret (results_tc rfl _ _ w.heap.size 36 #[.int .u8 0, .int .u32 0] (0, 0) _ rfl (blk_new w _) Tryd.underlying36 rfl (by kernel_rfl)) rfl ⟨rfl, ?_⟩
  exact (Below.refl w.heap.size w).alloc (Nat.le_refl _) _

theorem Come_calls (s k : Int) (e : Bool) (h0 : 0 ≤ s) (w : World) (hg : GV w) :
    Calls Tryd.prog 27 #[.int .u8 s, .int .u8 k, .bool e] w (ComeOut (comeF s k e) w) := by
  by_cases h1 : 6 < s
  · have : comeF s k e = (s, 1, 2) := by simp [comeF, h1]
    rw [this]
    exact Come_fault s k e 2 (.inl ⟨h1, rfl⟩) w hg
  by_cases h2 : k = 1 ∨ k = 0 ∨ k = 3 ∨ k = 8 ∨ k = 2
  · by_cases h3 : k = 2
    · subst h3
      have : comeF s 2 e = (s, 0, 0) := by simp [comeF, h1]
      rw [this]
      exact Come_priority s e (by omega) w
    · exact Come_known s k e h0 (by omega) (by omega) w hg
  · have : comeF s k e = (s, 1, 1) := by simp [comeF, h1, h2]
    rw [this]
    exact Come_fault s k e 1 (.inr ⟨by omega, h2, rfl⟩) w hg

/-! ### Send, and the reference's -/
def SendOut (r : Int × Bool) (w : World) (ev : Ending) (w' : World) : Prop := ev = .returned (.tuple #[.int .u8 r.1, .bool r.2]) ∧ w = w'

set_option maxHeartbeats 4000000 in
set_option maxRecDepth 100000 in
theorem Send_calls (s k : Int) (e : Bool) (w : World) :
    Calls Tryd.prog 25 #[.int .u8 s, .int .u8 k, .bool e] w (SendOut (sendF s k e) w) := by
  by_cases hk : k = 0 ∨ k = 1 ∨ k = 3 ∨ k = 8
  · by_cases hs : s = 0 ∨ s = 1 ∨ s = 2 ∨ s = 3
    · rcases hk with rfl | rfl | rfl | rfl <;> rcases hs with rfl | rfl | rfl | rfl <;> cases e <;>
      (go_enter Tryd.func25, Tryd.ntmps25
       go_wp2_with (go_at_call 29; refine (live_calls _ _).mono ?_; rintro e w1 ⟨rfl, rfl⟩)
       go_ret2
       exact ⟨rfl, rfl⟩)
    · have a0 : (s == 0) = false := by rw [beq_eq_false_iff_ne]; omega
      have a1 : (s == 1) = false := by rw [beq_eq_false_iff_ne]; omega
      have a2 : (s == 2) = false := by rw [beq_eq_false_iff_ne]; omega
      have a3 : (s == 3) = false := by rw [beq_eq_false_iff_ne]; omega
      have b1 : (s != 1) = true := by rw [bne_iff_ne]; omega
      have b3 : (s != 3) = true := by rw [bne_iff_ne]; omega
      have hl : liveF s = false := by simp [liveF]; omega
      have hr : sendF s k e = (s, false) := by
        have : ¬ s = 0 ∧ ¬ s = 1 ∧ ¬ s = 2 ∧ ¬ s = 3 := by omega
        unfold sendF; simp [this]
      rw [hr]
      clear hr hs
      rcases hk with rfl | rfl | rfl | rfl <;>
      (go_enter Tryd.func25, Tryd.ntmps25
       go_wp2_with (go_at_call 29; refine (live_calls _ _).mono ?_; rintro e w1 ⟨rfl, rfl⟩)
       go_ret2
       exact ⟨rfl, rfl⟩)
  · have a0 : (k == 0) = false := by rw [beq_eq_false_iff_ne]; omega
    have a1 : (k == 1) = false := by rw [beq_eq_false_iff_ne]; omega
    have a2 : (k == 3) = false := by rw [beq_eq_false_iff_ne]; omega
    have a3 : (k == 8) = false := by rw [beq_eq_false_iff_ne]; omega
    have hr : sendF s k e = (s, false) := by
      have : ¬ k = 0 ∧ ¬ k = 1 ∧ ¬ k = 3 ∧ ¬ k = 8 := by omega
      unfold sendF; simp [this]
    rw [hr]
    clear hr hk
    go_enter Tryd.func25, Tryd.ntmps25
    go_wp2
    go_ret2
    exact ⟨rfl, rfl⟩

set_option maxHeartbeats 4000000 in
set_option maxRecDepth 100000 in
theorem refSend_calls (s k : Int) (e : Bool) (h0 : 0 ≤ s) (hk0 : 0 ≤ k) (w : World) :
    Calls Tryd.prog 26 #[.int .u8 s, .int .u8 k, .bool e] w (SendOut (sendF s k e) w) := by
  by_cases hk : k = 0 ∨ k = 1 ∨ k = 3 ∨ k = 8
  · by_cases hs : s = 0 ∨ s = 1 ∨ s = 2 ∨ s = 3
    · rcases hk with rfl | rfl | rfl | rfl <;> rcases hs with rfl | rfl | rfl | rfl <;> cases e <;>
      (go_enter Tryd.func26, Tryd.ntmps26
       go_wp2
       go_ret2
       exact ⟨rfl, rfl⟩)
    · have hr : sendF s k e = (s, false) := by
        have : ¬ s = 0 ∧ ¬ s = 1 ∧ ¬ s = 2 ∧ ¬ s = 3 := by omega
        unfold sendF; simp [this]
      rw [hr]
      have a0 : (s == 0) = false := by rw [beq_eq_false_iff_ne]; omega
      have a1 : (s == 1) = false := by rw [beq_eq_false_iff_ne]; omega
      have a2 : (s == 2) = false := by rw [beq_eq_false_iff_ne]; omega
      have a3 : (s == 3) = false := by rw [beq_eq_false_iff_ne]; omega
      have b1 : decide (1 ≤ s) = true := by rw [decide_eq_true_iff]; omega
      have b3 : decide (s ≤ 3) = false := by rw [decide_eq_false_iff_not]; omega
      clear hr hs
      rcases hk with rfl | rfl | rfl | rfl <;>
      (go_enter Tryd.func26, Tryd.ntmps26
       go_wp2
       go_ret2
       exact ⟨rfl, rfl⟩)
  · have hr : sendF s k e = (s, false) := by
      have : ¬ k = 0 ∧ ¬ k = 1 ∧ ¬ k = 3 ∧ ¬ k = 8 := by omega
      unfold sendF; simp [this]
    rw [hr]
    have a1 : (k == 1) = false := by rw [beq_eq_false_iff_ne]; omega
    have a2 : (k == 3) = false := by rw [beq_eq_false_iff_ne]; omega
    have a3 : (k == 8) = false := by rw [beq_eq_false_iff_ne]; omega
    have b3 : decide (k < 2) = false := by rw [decide_eq_false_iff_not]; omega
    clear hr hk
    go_enter Tryd.func26, Tryd.ntmps26
    go_wp2
    all_goals
      go_ret2
      exact ⟨rfl, rfl⟩
end Go.Proofs.YtodfahcmgmleeaaDoor
