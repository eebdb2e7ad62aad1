/- Printed by a program of this claim's author (wip/pr.py); not trusted: Lean checks it. -/
import Derived.Test.YtodfahcmgmleeaaDoorQTopicx0
import Derived.Test.YtodfahcmgmleeaaDoorQTopicx1
import Derived.Test.YtodfahcmgmleeaaDoorQTopicx2
import Derived.Test.YtodfahcmgmleeaaDoorQTopicx3
namespace Go.Proofs.YtodfahcmgmleeaaDoor.QTopic
open Go.Proofs.YtodfahcmgmleeaaDoor.Given
open Go.RowKit Go.Proofs.YtodfahcmgmleeaaDoorW.PrintWords Go.Proofs.YtodfahcmgmleeaaDoorW.PrintLast Go.Proofs.YtodfahcmgmleeaaDoorW.PrintMore
attribute [local go_sem] max2_int min2_int max_two min_two max_three min_three max_four min_four   -- for this text's walks alone
set_option linter.unusedVariables false
set_option linter.unusedSimpArgs false

/-! ### louverlaw21_TopicNests: function 12 -/
mutual
def louverlaw21_TopicNests.j0 : Nat → ByteArray → ByteArray → ByteArray → ByteArray → Bool → Option (Bool)
  | 0, _, _, _, _, _ => none
  | k + 1, x0, x1, x2, x3, x27 => if x27 = true then ((louverlaw21_fixed.f).bind fun t172 => (some t172)) else ((topic_Under.f x0 x1).bind fun t173 => (if t173 = true then ((topic_Under.f x1 x2).bind fun t174 => (if t174 = true then ((topic_Under.f x0 x2).bind fun t175 => (if t175 = true then ((topic_Under.f x0 x1).bind fun t176 => (if t176 = true then ((topic_Under.f x1 x0).bind fun t177 => (louverlaw21_TopicNests.j1 k x0 x3 t177)) else (louverlaw21_TopicNests.j1 k x0 x3 false))) else (louverlaw21_TopicNests.j1 k x0 x3 true))) else ((topic_Under.f x0 x1).bind fun t178 => (if t178 = true then ((topic_Under.f x1 x0).bind fun t179 => (louverlaw21_TopicNests.j1 k x0 x3 t179)) else (louverlaw21_TopicNests.j1 k x0 x3 false))))) else ((topic_Under.f x0 x1).bind fun t180 => (if t180 = true then ((topic_Under.f x1 x0).bind fun t181 => (louverlaw21_TopicNests.j1 k x0 x3 t181)) else (louverlaw21_TopicNests.j1 k x0 x3 false)))))
def louverlaw21_TopicNests.j1 : Nat → ByteArray → ByteArray → Bool → Option (Bool)
  | 0, _, _, _ => none
  | k + 1, x0, x3, x52 => if x52 = true then (some false) else (if x0.size + 1 ≤ 9223372036854775807 then (if (x0 ++ (⟨#[47]⟩ : ByteArray)).size + x3.size ≤ 9223372036854775807 then ((louverlaw21_fixed.f).bind fun t182 => (if t182 = true then ((topic_Under.f ((x0 ++ (⟨#[47]⟩ : ByteArray)) ++ x3) x0).bind fun t183 => ((louverref21_May.f k ((x0 ++ (⟨#[47]⟩ : ByteArray)) ++ x3)).bind fun t184 => (if t184 = true then ((louverref21_May.f k x0).bind fun t185 => (some (t183 == t185))) else (some (t183 == false))))) else (some false))) else (none)) else (none))
end
def louverlaw21_TopicNests.f (k : Nat) (a0 : ByteArray) (a1 : ByteArray) (a2 : ByteArray) (a3 : ByteArray) : Option (Bool) := if (a0.size : Int) > 3000 then (louverlaw21_TopicNests.j0 k a0 a1 a2 a3 true) else (if (a1.size : Int) > 3000 then (louverlaw21_TopicNests.j0 k a0 a1 a2 a3 true) else (if (a2.size : Int) > 3000 then (louverlaw21_TopicNests.j0 k a0 a1 a2 a3 true) else (louverlaw21_TopicNests.j0 k a0 a1 a2 a3 (decide ((a3.size : Int) > 3000)))))
theorem louverlaw21_TopicNests.mono_l : ∀ k, (∀ y0 y1 y2 y3 y4, LeO (louverlaw21_TopicNests.j0 k y0 y1 y2 y3 y4) (louverlaw21_TopicNests.j0 (k + 1) y0 y1 y2 y3 y4)) ∧ (∀ y0 y1 y2, LeO (louverlaw21_TopicNests.j1 k y0 y1 y2) (louverlaw21_TopicNests.j1 (k + 1) y0 y1 y2))
  | 0 => ⟨fun _ _ _ _ _ r h => by simp [louverlaw21_TopicNests.j0] at h, fun _ _ _ r h => by simp [louverlaw21_TopicNests.j1] at h⟩
  | k + 1 => by
    obtain ⟨ih0, ih1⟩ := louverlaw21_TopicNests.mono_l k
    refine ⟨?_, ?_⟩
    · intro y0 y1 y2 y3 y4
      unfold louverlaw21_TopicNests.j0
      repeat' first
      | (with_reducible exact ih0 _ _ _ _ _)
      | (with_reducible exact ih1 _ _ _)
      | (with_reducible exact louverref21_May.mono _ _)
      | (with_reducible exact LeO.refl _)
      | (with_reducible exact LeO.none _)
      | (with_reducible refine LeO.ite ?_ ?_)
      | (with_reducible refine LeO.bind ?_ (fun _ => ?_))
      | exact ih0 _ _ _ _ _
      | exact ih1 _ _ _
      | exact louverref21_May.mono _ _
      | exact LeO.none _
      | refine LeO.ite ?_ ?_
      | refine LeO.bind ?_ (fun _ => ?_)
    · intro y0 y1 y2
      unfold louverlaw21_TopicNests.j1
      repeat' first
      | (with_reducible exact ih0 _ _ _ _ _)
      | (with_reducible exact ih1 _ _ _)
      | (with_reducible exact louverref21_May.mono _ _)
      | (with_reducible exact LeO.refl _)
      | (with_reducible exact LeO.none _)
      | (with_reducible refine LeO.ite ?_ ?_)
      | (with_reducible refine LeO.bind ?_ (fun _ => ?_))
      | exact ih0 _ _ _ _ _
      | exact ih1 _ _ _
      | exact louverref21_May.mono _ _
      | exact LeO.none _
      | refine LeO.ite ?_ ?_
      | refine LeO.bind ?_ (fun _ => ?_)
theorem louverlaw21_TopicNests.mono : ∀ a0 a1 a2 a3 k, LeO (louverlaw21_TopicNests.f k a0 a1 a2 a3) (louverlaw21_TopicNests.f (k + 1) a0 a1 a2 a3) := by
  intro a0 a1 a2 a3 k
  obtain ⟨ih0, ih1⟩ := louverlaw21_TopicNests.mono_l k
  unfold louverlaw21_TopicNests.f
  repeat' first
      | (with_reducible exact ih0 _ _ _ _ _)
      | (with_reducible exact ih1 _ _ _)
      | (with_reducible exact louverref21_May.mono _ _)
      | (with_reducible exact LeO.refl _)
      | (with_reducible exact LeO.none _)
      | (with_reducible refine LeO.ite ?_ ?_)
      | (with_reducible refine LeO.bind ?_ (fun _ => ?_))
      | exact ih0 _ _ _ _ _
      | exact ih1 _ _ _
      | exact louverref21_May.mono _ _
      | exact LeO.none _
      | refine LeO.ite ?_ ?_
      | refine LeO.bind ?_ (fun _ => ?_)
set_option maxHeartbeats 8000000 in
set_option maxRecDepth 100000 in
theorem louverlaw21_TopicNests.calls (k : Nat) (a0 : ByteArray) (a1 : ByteArray) (a2 : ByteArray) (a3 : ByteArray) (r : Bool) (w : World) (h : louverlaw21_TopicNests.f k a0 a1 a2 a3 = some r) :
    Calls Tryd.prog 12 #[.string a0, .string a1, .string a2, .string a3] w fun e w' => e = .returned (.bool r) ∧ Below w.heap.size w w' := by
  have HB := Aside0.mk (Below.refl w.heap.size w)
  have H : (if (a0.size : Int) > 3000 then (louverlaw21_TopicNests.j0 k a0 a1 a2 a3 true) else (if (a1.size : Int) > 3000 then (louverlaw21_TopicNests.j0 k a0 a1 a2 a3 true) else (if (a2.size : Int) > 3000 then (louverlaw21_TopicNests.j0 k a0 a1 a2 a3 true) else (louverlaw21_TopicNests.j0 k a0 a1 a2 a3 (decide ((a3.size : Int) > 3000)))))) = some r := h
  clear h
  have HC5 := Aside0.mk H
  clear H
  go_enter Tryd.func12, Tryd.ntmps12
  go_upto_region 1 with (fail)
  go_cut [27] (fun v27 wc => ∃ (kq : Nat) (x27_4 : Bool), v27 = .bool x27_4 ∧ Aside0 (louverlaw21_TopicNests.j0 kq a0 a1 a2 a3 x27_4 = some r) ∧ Aside0 (kq ≤ k) ∧ Aside0 (Below w.heap.size w wc))
  case first =>
    have H := HC5.out
    clear HC5
    by_cases c6 : (a0.size : Int) > 3000
    · rw [if_pos c6] at H
      have c6b0 : decide (3000 < (a0.size : Int)) = true := decide_eq_true c6
      have c6b1 : decide (3000 < a0.size) = true := decide_eq_true (by omega)
      clear c6
      (first | rw [c6b0] | (simp only [i64_w, i32_w]; rw [c6b0]) | skip)
      have H' := Aside0.mk H
      clear H
      go_wp2
      go_meet
      case rel => exact ⟨_, (true), (by first | rfl | (simp; done) | (simp [*]; done)), H', ⟨by first | omega | exact Nat.le_refl _⟩, ⟨by repeat (first | (with_reducible first | exact HB.out | apply below_alloc | apply pw_below_drewN | apply below_drew1) | exact HB.out)⟩⟩
    · rw [if_neg c6] at H
      have c6b0 : decide (3000 < (a0.size : Int)) = false := decide_eq_false c6
      have c6b1 : decide (3000 < a0.size) = false := decide_eq_false (by omega)
      clear c6
      (first | rw [c6b0] | (simp only [i64_w, i32_w]; rw [c6b0]) | skip)
      by_cases c7 : (a1.size : Int) > 3000
      · rw [if_pos c7] at H
        have c7b0 : decide (3000 < (a1.size : Int)) = true := decide_eq_true c7
        have c7b1 : decide (3000 < a1.size) = true := decide_eq_true (by omega)
        clear c7
        have H' := Aside0.mk H
        clear H
        go_wp2
        go_meet
        case rel => exact ⟨_, (true), (by first | rfl | (simp; done) | (simp [*]; done)), H', ⟨by first | omega | exact Nat.le_refl _⟩, ⟨by repeat (first | (with_reducible first | exact HB.out | apply below_alloc | apply pw_below_drewN | apply below_drew1) | exact HB.out)⟩⟩
      · rw [if_neg c7] at H
        have c7b0 : decide (3000 < (a1.size : Int)) = false := decide_eq_false c7
        have c7b1 : decide (3000 < a1.size) = false := decide_eq_false (by omega)
        clear c7
        by_cases c8 : (a2.size : Int) > 3000
        · rw [if_pos c8] at H
          have c8b0 : decide (3000 < (a2.size : Int)) = true := decide_eq_true c8
          have c8b1 : decide (3000 < a2.size) = true := decide_eq_true (by omega)
          clear c8
          have H' := Aside0.mk H
          clear H
          go_wp2
          go_meet
          case rel => exact ⟨_, (true), (by first | rfl | (simp; done) | (simp [*]; done)), H', ⟨by first | omega | exact Nat.le_refl _⟩, ⟨by repeat (first | (with_reducible first | exact HB.out | apply below_alloc | apply pw_below_drewN | apply below_drew1) | exact HB.out)⟩⟩
        · rw [if_neg c8] at H
          have c8b0 : decide (3000 < (a2.size : Int)) = false := decide_eq_false c8
          have c8b1 : decide (3000 < a2.size) = false := decide_eq_false (by omega)
          clear c8
          have H' := Aside0.mk H
          clear H
          go_wp2
          go_meet
          case rel => exact ⟨_, (decide ((a3.size : Int) > 3000)), (by first | rfl | (simp; done) | (simp [*]; done)), H', ⟨by first | omega | exact Nat.le_refl _⟩, ⟨by repeat (first | (with_reducible first | exact HB.out | apply below_alloc | apply pw_below_drewN | apply below_drew1) | exact HB.out)⟩⟩
  case rest =>
    clear HC5
    try clear c1
    try clear p2
    try clear c6
    try clear c6b0
    try clear c6b1
    try clear c7
    try clear c7b0
    try clear c7b1
    try clear c8
    try clear c8b0
    try clear c8b1
    obtain ⟨kq, x27_4, rfl, HA, HJ4, HB⟩ := hcut
    cases kq with
    | zero => exact absurd HA.out (by simp [louverlaw21_TopicNests.j0])
    | succ kj4 =>
      have H := HA.out
      clear HA
      simp only [louverlaw21_TopicNests.j0] at H
      by_cases c9 : x27_4 = true
      · subst c9
        have H1 : ((louverlaw21_fixed.f).bind fun t172 => (some t172)) = some r := by rw [if_pos rfl] at H; exact H
        clear H
        have H := H1
        clear H1
        replace H := Option.bind_eq_some_iff.mp H
        obtain ⟨t172, A100, H⟩ := H
        replace H : (some t172) = some r := H
        have A10 := Aside0.mk A100
        clear A100
        obtain rfl := Option.some.inj H
        go_wp2_with (first | ((with_reducible refine gate_callee (f := 30) rfl ?_); refine goesL_ (some 28) rfl rfl Tryd.func30 (by kernel_rfl) rfl #[] rfl (by (try simp only [List.map_toArray, List.map_cons, List.map_nil]); first | done | rfl | (simp only [List.length_drop, List.length_take]; rfl)) ?_; (with_reducible refine (louverlaw21_fixed.calls  t172 _ A10.out).mono ?_); rintro e w11 ⟨rfl, hb⟩; refine ⟨_, rfl, ?_⟩; have n0_ := Aside0.mk (below_step (by repeat (first | (with_reducible first | exact HB.out | apply below_alloc | apply pw_below_drewN | apply below_drew1) | exact HB.out)) hb); clear HB; have HB := n0_; clear n0_; (try clear hb); (try clear hb2); (try clear hk); (try clear hi)))
        go_ret
        exact ⟨by first | rfl | (simp [errW_none, errW_some] <;> rfl) | (simp [*, errW_none, errW_some] <;> rfl), by repeat (first | (with_reducible first | exact HB.out | apply below_alloc | apply pw_below_drewN | apply below_drew1) | exact HB.out)⟩
      · replace c9 := Bool.eq_false_iff.mpr c9
        subst c9
        have H1 : ((topic_Under.f a0 a1).bind fun t173 => (if t173 = true then ((topic_Under.f a1 a2).bind fun t174 => (if t174 = true then ((topic_Under.f a0 a2).bind fun t175 => (if t175 = true then ((topic_Under.f a0 a1).bind fun t176 => (if t176 = true then ((topic_Under.f a1 a0).bind fun t177 => (louverlaw21_TopicNests.j1 kj4 a0 a3 t177)) else (louverlaw21_TopicNests.j1 kj4 a0 a3 false))) else (louverlaw21_TopicNests.j1 kj4 a0 a3 true))) else ((topic_Under.f a0 a1).bind fun t178 => (if t178 = true then ((topic_Under.f a1 a0).bind fun t179 => (louverlaw21_TopicNests.j1 kj4 a0 a3 t179)) else (louverlaw21_TopicNests.j1 kj4 a0 a3 false))))) else ((topic_Under.f a0 a1).bind fun t180 => (if t180 = true then ((topic_Under.f a1 a0).bind fun t181 => (louverlaw21_TopicNests.j1 kj4 a0 a3 t181)) else (louverlaw21_TopicNests.j1 kj4 a0 a3 false))))) = some r := by rw [if_neg (show ¬ (false = true) by decide)] at H; exact H
        clear H
        have H := H1
        clear H1
        have HC12 := Aside0.mk H
        clear H
        go_upto_region 3 with (fail)
        go_cut [52] (fun v52 wc => ∃ (kq : Nat) (x52_11 : Bool), v52 = .bool x52_11 ∧ Aside0 (louverlaw21_TopicNests.j1 kq a0 a3 x52_11 = some r) ∧ Aside0 (kq ≤ kj4) ∧ Aside0 (Below w.heap.size w wc))
        case first =>
          have H := HC12.out
          clear HC12
          replace H := Option.bind_eq_some_iff.mp H
          obtain ⟨t173, A130, H⟩ := H
          replace H : (if t173 = true then ((topic_Under.f a1 a2).bind fun t174 => (if t174 = true then ((topic_Under.f a0 a2).bind fun t175 => (if t175 = true then ((topic_Under.f a0 a1).bind fun t176 => (if t176 = true then ((topic_Under.f a1 a0).bind fun t177 => (louverlaw21_TopicNests.j1 kj4 a0 a3 t177)) else (louverlaw21_TopicNests.j1 kj4 a0 a3 false))) else (louverlaw21_TopicNests.j1 kj4 a0 a3 true))) else ((topic_Under.f a0 a1).bind fun t178 => (if t178 = true then ((topic_Under.f a1 a0).bind fun t179 => (louverlaw21_TopicNests.j1 kj4 a0 a3 t179)) else (louverlaw21_TopicNests.j1 kj4 a0 a3 false))))) else ((topic_Under.f a0 a1).bind fun t180 => (if t180 = true then ((topic_Under.f a1 a0).bind fun t181 => (louverlaw21_TopicNests.j1 kj4 a0 a3 t181)) else (louverlaw21_TopicNests.j1 kj4 a0 a3 false)))) = some r := H
          have A13 := Aside0.mk A130
          clear A130
          by_cases c14 : t173 = true
          · subst c14
            have H1 : ((topic_Under.f a1 a2).bind fun t174 => (if t174 = true then ((topic_Under.f a0 a2).bind fun t175 => (if t175 = true then ((topic_Under.f a0 a1).bind fun t176 => (if t176 = true then ((topic_Under.f a1 a0).bind fun t177 => (louverlaw21_TopicNests.j1 kj4 a0 a3 t177)) else (louverlaw21_TopicNests.j1 kj4 a0 a3 false))) else (louverlaw21_TopicNests.j1 kj4 a0 a3 true))) else ((topic_Under.f a0 a1).bind fun t178 => (if t178 = true then ((topic_Under.f a1 a0).bind fun t179 => (louverlaw21_TopicNests.j1 kj4 a0 a3 t179)) else (louverlaw21_TopicNests.j1 kj4 a0 a3 false))))) = some r := by rw [if_pos rfl] at H; exact H
            clear H
            have H := H1
            clear H1
            replace H := Option.bind_eq_some_iff.mp H
            obtain ⟨t174, A150, H⟩ := H
            replace H : (if t174 = true then ((topic_Under.f a0 a2).bind fun t175 => (if t175 = true then ((topic_Under.f a0 a1).bind fun t176 => (if t176 = true then ((topic_Under.f a1 a0).bind fun t177 => (louverlaw21_TopicNests.j1 kj4 a0 a3 t177)) else (louverlaw21_TopicNests.j1 kj4 a0 a3 false))) else (louverlaw21_TopicNests.j1 kj4 a0 a3 true))) else ((topic_Under.f a0 a1).bind fun t178 => (if t178 = true then ((topic_Under.f a1 a0).bind fun t179 => (louverlaw21_TopicNests.j1 kj4 a0 a3 t179)) else (louverlaw21_TopicNests.j1 kj4 a0 a3 false)))) = some r := H
            have A15 := Aside0.mk A150
            clear A150
            by_cases c16 : t174 = true
            · subst c16
              have H1 : ((topic_Under.f a0 a2).bind fun t175 => (if t175 = true then ((topic_Under.f a0 a1).bind fun t176 => (if t176 = true then ((topic_Under.f a1 a0).bind fun t177 => (louverlaw21_TopicNests.j1 kj4 a0 a3 t177)) else (louverlaw21_TopicNests.j1 kj4 a0 a3 false))) else (louverlaw21_TopicNests.j1 kj4 a0 a3 true))) = some r := by rw [if_pos rfl] at H; exact H
              clear H
              have H := H1
              clear H1
              replace H := Option.bind_eq_some_iff.mp H
              obtain ⟨t175, A170, H⟩ := H
              replace H : (if t175 = true then ((topic_Under.f a0 a1).bind fun t176 => (if t176 = true then ((topic_Under.f a1 a0).bind fun t177 => (louverlaw21_TopicNests.j1 kj4 a0 a3 t177)) else (louverlaw21_TopicNests.j1 kj4 a0 a3 false))) else (louverlaw21_TopicNests.j1 kj4 a0 a3 true)) = some r := H
              have A17 := Aside0.mk A170
              clear A170
              by_cases c18 : t175 = true
              · subst c18
                have H1 : ((topic_Under.f a0 a1).bind fun t176 => (if t176 = true then ((topic_Under.f a1 a0).bind fun t177 => (louverlaw21_TopicNests.j1 kj4 a0 a3 t177)) else (louverlaw21_TopicNests.j1 kj4 a0 a3 false))) = some r := by rw [if_pos rfl] at H; exact H
                clear H
                have H := H1
                clear H1
                replace H := Option.bind_eq_some_iff.mp H
                obtain ⟨t176, A190, H⟩ := H
                replace H : (if t176 = true then ((topic_Under.f a1 a0).bind fun t177 => (louverlaw21_TopicNests.j1 kj4 a0 a3 t177)) else (louverlaw21_TopicNests.j1 kj4 a0 a3 false)) = some r := H
                have A19 := Aside0.mk A190
                clear A190
                by_cases c20 : t176 = true
                · subst c20
                  have H1 : ((topic_Under.f a1 a0).bind fun t177 => (louverlaw21_TopicNests.j1 kj4 a0 a3 t177)) = some r := by rw [if_pos rfl] at H; exact H
                  clear H
                  have H := H1
                  clear H1
                  replace H := Option.bind_eq_some_iff.mp H
                  obtain ⟨t177, A210, H⟩ := H
                  replace H : (louverlaw21_TopicNests.j1 kj4 a0 a3 t177) = some r := H
                  have A21 := Aside0.mk A210
                  clear A210
                  have H' := Aside0.mk H
                  clear H
                  go_wp2_with (first | ((with_reducible refine gate_callee (f := 34) rfl ?_); refine goesL_ (some 31) rfl rfl Tryd.func34 (by kernel_rfl) rfl #[.string a0, .string a1] rfl (by (try simp only [List.map_toArray, List.map_cons, List.map_nil]); first | done | rfl | (simp only [List.length_drop, List.length_take]; rfl)) ?_; (with_reducible refine (topic_Under.calls a0 a1 true _ A13.out).mono ?_); rintro e w22 ⟨rfl, hb⟩; refine ⟨_, rfl, ?_⟩; have n0_ := Aside0.mk (below_step (by repeat (first | (with_reducible first | exact HB.out | apply below_alloc | apply pw_below_drewN | apply below_drew1) | exact HB.out)) hb); clear HB; have HB := n0_; clear n0_; (try clear hb); (try clear hb2); (try clear hk); (try clear hi)) | (go_at_call 34; (with_reducible refine (topic_Under.calls a1 a2 true _ A15.out).mono ?_); rintro e w23 ⟨rfl, hb⟩; have n0_ := Aside0.mk (below_step (by repeat (first | (with_reducible first | exact HB.out | apply below_alloc | apply pw_below_drewN | apply below_drew1) | exact HB.out)) hb); clear HB; have HB := n0_; clear n0_; (try clear hb); (try clear hb2); (try clear hk); (try clear hi)) | (go_at_call 34; (with_reducible refine (topic_Under.calls a0 a2 true _ A17.out).mono ?_); rintro e w24 ⟨rfl, hb⟩; have n0_ := Aside0.mk (below_step (by repeat (first | (with_reducible first | exact HB.out | apply below_alloc | apply pw_below_drewN | apply below_drew1) | exact HB.out)) hb); clear HB; have HB := n0_; clear n0_; (try clear hb); (try clear hb2); (try clear hk); (try clear hi)) | (go_at_call 34; (with_reducible refine (topic_Under.calls a0 a1 true _ A19.out).mono ?_); rintro e w25 ⟨rfl, hb⟩; have n0_ := Aside0.mk (below_step (by repeat (first | (with_reducible first | exact HB.out | apply below_alloc | apply pw_below_drewN | apply below_drew1) | exact HB.out)) hb); clear HB; have HB := n0_; clear n0_; (try clear hb); (try clear hb2); (try clear hk); (try clear hi)) | (go_at_call 34; (with_reducible refine (topic_Under.calls a1 a0 t177 _ A21.out).mono ?_); rintro e w26 ⟨rfl, hb⟩; have n0_ := Aside0.mk (below_step (by repeat (first | (with_reducible first | exact HB.out | apply below_alloc | apply pw_below_drewN | apply below_drew1) | exact HB.out)) hb); clear HB; have HB := n0_; clear n0_; (try clear hb); (try clear hb2); (try clear hk); (try clear hi)))
                  go_meet
                  case rel => exact ⟨_, (t177), (by first | rfl | (simp; done) | (simp [*]; done)), H', ⟨by have := HJ4.out; first | omega | exact Nat.le_refl _⟩, ⟨by repeat (first | (with_reducible first | exact HB.out | apply below_alloc | apply pw_below_drewN | apply below_drew1) | exact HB.out)⟩⟩
                · replace c20 := Bool.eq_false_iff.mpr c20
                  subst c20
                  have H1 : (louverlaw21_TopicNests.j1 kj4 a0 a3 false) = some r := by rw [if_neg (show ¬ (false = true) by decide)] at H; exact H
                  clear H
                  have H := H1
                  clear H1
                  have H' := Aside0.mk H
                  clear H
                  go_wp2_with (first | ((with_reducible refine gate_callee (f := 34) rfl ?_); refine goesL_ (some 31) rfl rfl Tryd.func34 (by kernel_rfl) rfl #[.string a0, .string a1] rfl (by (try simp only [List.map_toArray, List.map_cons, List.map_nil]); first | done | rfl | (simp only [List.length_drop, List.length_take]; rfl)) ?_; (with_reducible refine (topic_Under.calls a0 a1 true _ A13.out).mono ?_); rintro e w27 ⟨rfl, hb⟩; refine ⟨_, rfl, ?_⟩; have n0_ := Aside0.mk (below_step (by repeat (first | (with_reducible first | exact HB.out | apply below_alloc | apply pw_below_drewN | apply below_drew1) | exact HB.out)) hb); clear HB; have HB := n0_; clear n0_; (try clear hb); (try clear hb2); (try clear hk); (try clear hi)) | (go_at_call 34; (with_reducible refine (topic_Under.calls a1 a2 true _ A15.out).mono ?_); rintro e w28 ⟨rfl, hb⟩; have n0_ := Aside0.mk (below_step (by repeat (first | (with_reducible first | exact HB.out | apply below_alloc | apply pw_below_drewN | apply below_drew1) | exact HB.out)) hb); clear HB; have HB := n0_; clear n0_; (try clear hb); (try clear hb2); (try clear hk); (try clear hi)) | (go_at_call 34; (with_reducible refine (topic_Under.calls a0 a2 true _ A17.out).mono ?_); rintro e w29 ⟨rfl, hb⟩; have n0_ := Aside0.mk (below_step (by repeat (first | (with_reducible first | exact HB.out | apply below_alloc | apply pw_below_drewN | apply below_drew1) | exact HB.out)) hb); clear HB; have HB := n0_; clear n0_; (try clear hb); (try clear hb2); (try clear hk); (try clear hi)) | (go_at_call 34; (with_reducible refine (topic_Under.calls a0 a1 false _ A19.out).mono ?_); rintro e w30 ⟨rfl, hb⟩; have n0_ := Aside0.mk (below_step (by repeat (first | (with_reducible first | exact HB.out | apply below_alloc | apply pw_below_drewN | apply below_drew1) | exact HB.out)) hb); clear HB; have HB := n0_; clear n0_; (try clear hb); (try clear hb2); (try clear hk); (try clear hi)))
                  go_meet
                  case rel => exact ⟨_, (false), (by first | rfl | (simp; done) | (simp [*]; done)), H', ⟨by have := HJ4.out; first | omega | exact Nat.le_refl _⟩, ⟨by repeat (first | (with_reducible first | exact HB.out | apply below_alloc | apply pw_below_drewN | apply below_drew1) | exact HB.out)⟩⟩
              · replace c18 := Bool.eq_false_iff.mpr c18
                subst c18
                have H1 : (louverlaw21_TopicNests.j1 kj4 a0 a3 true) = some r := by rw [if_neg (show ¬ (false = true) by decide)] at H; exact H
                clear H
                have H := H1
                clear H1
                have H' := Aside0.mk H
                clear H
                go_wp2_with (first | ((with_reducible refine gate_callee (f := 34) rfl ?_); refine goesL_ (some 31) rfl rfl Tryd.func34 (by kernel_rfl) rfl #[.string a0, .string a1] rfl (by (try simp only [List.map_toArray, List.map_cons, List.map_nil]); first | done | rfl | (simp only [List.length_drop, List.length_take]; rfl)) ?_; (with_reducible refine (topic_Under.calls a0 a1 true _ A13.out).mono ?_); rintro e w31 ⟨rfl, hb⟩; refine ⟨_, rfl, ?_⟩; have n0_ := Aside0.mk (below_step (by repeat (first | (with_reducible first | exact HB.out | apply below_alloc | apply pw_below_drewN | apply below_drew1) | exact HB.out)) hb); clear HB; have HB := n0_; clear n0_; (try clear hb); (try clear hb2); (try clear hk); (try clear hi)) | (go_at_call 34; (with_reducible refine (topic_Under.calls a1 a2 true _ A15.out).mono ?_); rintro e w32 ⟨rfl, hb⟩; have n0_ := Aside0.mk (below_step (by repeat (first | (with_reducible first | exact HB.out | apply below_alloc | apply pw_below_drewN | apply below_drew1) | exact HB.out)) hb); clear HB; have HB := n0_; clear n0_; (try clear hb); (try clear hb2); (try clear hk); (try clear hi)) | (go_at_call 34; (with_reducible refine (topic_Under.calls a0 a2 false _ A17.out).mono ?_); rintro e w33 ⟨rfl, hb⟩; have n0_ := Aside0.mk (below_step (by repeat (first | (with_reducible first | exact HB.out | apply below_alloc | apply pw_below_drewN | apply below_drew1) | exact HB.out)) hb); clear HB; have HB := n0_; clear n0_; (try clear hb); (try clear hb2); (try clear hk); (try clear hi)))
                go_meet
                case rel => exact ⟨_, (true), (by first | rfl | (simp; done) | (simp [*]; done)), H', ⟨by have := HJ4.out; first | omega | exact Nat.le_refl _⟩, ⟨by repeat (first | (with_reducible first | exact HB.out | apply below_alloc | apply pw_below_drewN | apply below_drew1) | exact HB.out)⟩⟩
            · replace c16 := Bool.eq_false_iff.mpr c16
              subst c16
              have H1 : ((topic_Under.f a0 a1).bind fun t178 => (if t178 = true then ((topic_Under.f a1 a0).bind fun t179 => (louverlaw21_TopicNests.j1 kj4 a0 a3 t179)) else (louverlaw21_TopicNests.j1 kj4 a0 a3 false))) = some r := by rw [if_neg (show ¬ (false = true) by decide)] at H; exact H
              clear H
              have H := H1
              clear H1
              replace H := Option.bind_eq_some_iff.mp H
              obtain ⟨t178, A340, H⟩ := H
              replace H : (if t178 = true then ((topic_Under.f a1 a0).bind fun t179 => (louverlaw21_TopicNests.j1 kj4 a0 a3 t179)) else (louverlaw21_TopicNests.j1 kj4 a0 a3 false)) = some r := H
              have A34 := Aside0.mk A340
              clear A340
              by_cases c35 : t178 = true
              · subst c35
                have H1 : ((topic_Under.f a1 a0).bind fun t179 => (louverlaw21_TopicNests.j1 kj4 a0 a3 t179)) = some r := by rw [if_pos rfl] at H; exact H
                clear H
                have H := H1
                clear H1
                replace H := Option.bind_eq_some_iff.mp H
                obtain ⟨t179, A360, H⟩ := H
                replace H : (louverlaw21_TopicNests.j1 kj4 a0 a3 t179) = some r := H
                have A36 := Aside0.mk A360
                clear A360
                have H' := Aside0.mk H
                clear H
                go_wp2_with (first | ((with_reducible refine gate_callee (f := 34) rfl ?_); refine goesL_ (some 31) rfl rfl Tryd.func34 (by kernel_rfl) rfl #[.string a0, .string a1] rfl (by (try simp only [List.map_toArray, List.map_cons, List.map_nil]); first | done | rfl | (simp only [List.length_drop, List.length_take]; rfl)) ?_; (with_reducible refine (topic_Under.calls a0 a1 true _ A13.out).mono ?_); rintro e w37 ⟨rfl, hb⟩; refine ⟨_, rfl, ?_⟩; have n0_ := Aside0.mk (below_step (by repeat (first | (with_reducible first | exact HB.out | apply below_alloc | apply pw_below_drewN | apply below_drew1) | exact HB.out)) hb); clear HB; have HB := n0_; clear n0_; (try clear hb); (try clear hb2); (try clear hk); (try clear hi)) | (go_at_call 34; (with_reducible refine (topic_Under.calls a1 a2 false _ A15.out).mono ?_); rintro e w38 ⟨rfl, hb⟩; have n0_ := Aside0.mk (below_step (by repeat (first | (with_reducible first | exact HB.out | apply below_alloc | apply pw_below_drewN | apply below_drew1) | exact HB.out)) hb); clear HB; have HB := n0_; clear n0_; (try clear hb); (try clear hb2); (try clear hk); (try clear hi)) | (go_at_call 34; (with_reducible refine (topic_Under.calls a0 a1 true _ A34.out).mono ?_); rintro e w39 ⟨rfl, hb⟩; have n0_ := Aside0.mk (below_step (by repeat (first | (with_reducible first | exact HB.out | apply below_alloc | apply pw_below_drewN | apply below_drew1) | exact HB.out)) hb); clear HB; have HB := n0_; clear n0_; (try clear hb); (try clear hb2); (try clear hk); (try clear hi)) | (go_at_call 34; (with_reducible refine (topic_Under.calls a1 a0 t179 _ A36.out).mono ?_); rintro e w40 ⟨rfl, hb⟩; have n0_ := Aside0.mk (below_step (by repeat (first | (with_reducible first | exact HB.out | apply below_alloc | apply pw_below_drewN | apply below_drew1) | exact HB.out)) hb); clear HB; have HB := n0_; clear n0_; (try clear hb); (try clear hb2); (try clear hk); (try clear hi)))
                go_meet
                case rel => exact ⟨_, (t179), (by first | rfl | (simp; done) | (simp [*]; done)), H', ⟨by have := HJ4.out; first | omega | exact Nat.le_refl _⟩, ⟨by repeat (first | (with_reducible first | exact HB.out | apply below_alloc | apply pw_below_drewN | apply below_drew1) | exact HB.out)⟩⟩
              · replace c35 := Bool.eq_false_iff.mpr c35
                subst c35
                have H1 : (louverlaw21_TopicNests.j1 kj4 a0 a3 false) = some r := by rw [if_neg (show ¬ (false = true) by decide)] at H; exact H
                clear H
                have H := H1
                clear H1
                have H' := Aside0.mk H
                clear H
                go_wp2_with (first | ((with_reducible refine gate_callee (f := 34) rfl ?_); refine goesL_ (some 31) rfl rfl Tryd.func34 (by kernel_rfl) rfl #[.string a0, .string a1] rfl (by (try simp only [List.map_toArray, List.map_cons, List.map_nil]); first | done | rfl | (simp only [List.length_drop, List.length_take]; rfl)) ?_; (with_reducible refine (topic_Under.calls a0 a1 true _ A13.out).mono ?_); rintro e w41 ⟨rfl, hb⟩; refine ⟨_, rfl, ?_⟩; have n0_ := Aside0.mk (below_step (by repeat (first | (with_reducible first | exact HB.out | apply below_alloc | apply pw_below_drewN | apply below_drew1) | exact HB.out)) hb); clear HB; have HB := n0_; clear n0_; (try clear hb); (try clear hb2); (try clear hk); (try clear hi)) | (go_at_call 34; (with_reducible refine (topic_Under.calls a1 a2 false _ A15.out).mono ?_); rintro e w42 ⟨rfl, hb⟩; have n0_ := Aside0.mk (below_step (by repeat (first | (with_reducible first | exact HB.out | apply below_alloc | apply pw_below_drewN | apply below_drew1) | exact HB.out)) hb); clear HB; have HB := n0_; clear n0_; (try clear hb); (try clear hb2); (try clear hk); (try clear hi)) | (go_at_call 34; (with_reducible refine (topic_Under.calls a0 a1 false _ A34.out).mono ?_); rintro e w43 ⟨rfl, hb⟩; have n0_ := Aside0.mk (below_step (by repeat (first | (with_reducible first | exact HB.out | apply below_alloc | apply pw_below_drewN | apply below_drew1) | exact HB.out)) hb); clear HB; have HB := n0_; clear n0_; (try clear hb); (try clear hb2); (try clear hk); (try clear hi)))
                go_meet
                case rel => exact ⟨_, (false), (by first | rfl | (simp; done) | (simp [*]; done)), H', ⟨by have := HJ4.out; first | omega | exact Nat.le_refl _⟩, ⟨by repeat (first | (with_reducible first | exact HB.out | apply below_alloc | apply pw_below_drewN | apply below_drew1) | exact HB.out)⟩⟩
          · replace c14 := Bool.eq_false_iff.mpr c14
            subst c14
            have H1 : ((topic_Under.f a0 a1).bind fun t180 => (if t180 = true then ((topic_Under.f a1 a0).bind fun t181 => (louverlaw21_TopicNests.j1 kj4 a0 a3 t181)) else (louverlaw21_TopicNests.j1 kj4 a0 a3 false))) = some r := by rw [if_neg (show ¬ (false = true) by decide)] at H; exact H
            clear H
            have H := H1
            clear H1
            replace H := Option.bind_eq_some_iff.mp H
            obtain ⟨t180, A440, H⟩ := H
            replace H : (if t180 = true then ((topic_Under.f a1 a0).bind fun t181 => (louverlaw21_TopicNests.j1 kj4 a0 a3 t181)) else (louverlaw21_TopicNests.j1 kj4 a0 a3 false)) = some r := H
            have A44 := Aside0.mk A440
            clear A440
            by_cases c45 : t180 = true
            · subst c45
              have H1 : ((topic_Under.f a1 a0).bind fun t181 => (louverlaw21_TopicNests.j1 kj4 a0 a3 t181)) = some r := by rw [if_pos rfl] at H; exact H
              clear H
              have H := H1
              clear H1
              replace H := Option.bind_eq_some_iff.mp H
              obtain ⟨t181, A460, H⟩ := H
              replace H : (louverlaw21_TopicNests.j1 kj4 a0 a3 t181) = some r := H
              have A46 := Aside0.mk A460
              clear A460
              have H' := Aside0.mk H
              clear H
              go_wp2_with (first | ((with_reducible refine gate_callee (f := 34) rfl ?_); refine goesL_ (some 31) rfl rfl Tryd.func34 (by kernel_rfl) rfl #[.string a0, .string a1] rfl (by (try simp only [List.map_toArray, List.map_cons, List.map_nil]); first | done | rfl | (simp only [List.length_drop, List.length_take]; rfl)) ?_; (with_reducible refine (topic_Under.calls a0 a1 false _ A13.out).mono ?_); rintro e w47 ⟨rfl, hb⟩; refine ⟨_, rfl, ?_⟩; have n0_ := Aside0.mk (below_step (by repeat (first | (with_reducible first | exact HB.out | apply below_alloc | apply pw_below_drewN | apply below_drew1) | exact HB.out)) hb); clear HB; have HB := n0_; clear n0_; (try clear hb); (try clear hb2); (try clear hk); (try clear hi)) | (go_at_call 34; (with_reducible refine (topic_Under.calls a0 a1 true _ A44.out).mono ?_); rintro e w48 ⟨rfl, hb⟩; have n0_ := Aside0.mk (below_step (by repeat (first | (with_reducible first | exact HB.out | apply below_alloc | apply pw_below_drewN | apply below_drew1) | exact HB.out)) hb); clear HB; have HB := n0_; clear n0_; (try clear hb); (try clear hb2); (try clear hk); (try clear hi)) | (go_at_call 34; (with_reducible refine (topic_Under.calls a1 a0 t181 _ A46.out).mono ?_); rintro e w49 ⟨rfl, hb⟩; have n0_ := Aside0.mk (below_step (by repeat (first | (with_reducible first | exact HB.out | apply below_alloc | apply pw_below_drewN | apply below_drew1) | exact HB.out)) hb); clear HB; have HB := n0_; clear n0_; (try clear hb); (try clear hb2); (try clear hk); (try clear hi)))
              go_meet
              case rel => exact ⟨_, (t181), (by first | rfl | (simp; done) | (simp [*]; done)), H', ⟨by have := HJ4.out; first | omega | exact Nat.le_refl _⟩, ⟨by repeat (first | (with_reducible first | exact HB.out | apply below_alloc | apply pw_below_drewN | apply below_drew1) | exact HB.out)⟩⟩
            · replace c45 := Bool.eq_false_iff.mpr c45
              subst c45
              have H1 : (louverlaw21_TopicNests.j1 kj4 a0 a3 false) = some r := by rw [if_neg (show ¬ (false = true) by decide)] at H; exact H
              clear H
              have H := H1
              clear H1
              have H' := Aside0.mk H
              clear H
              go_wp2_with (first | ((with_reducible refine gate_callee (f := 34) rfl ?_); refine goesL_ (some 31) rfl rfl Tryd.func34 (by kernel_rfl) rfl #[.string a0, .string a1] rfl (by (try simp only [List.map_toArray, List.map_cons, List.map_nil]); first | done | rfl | (simp only [List.length_drop, List.length_take]; rfl)) ?_; (with_reducible refine (topic_Under.calls a0 a1 false _ A13.out).mono ?_); rintro e w50 ⟨rfl, hb⟩; refine ⟨_, rfl, ?_⟩; have n0_ := Aside0.mk (below_step (by repeat (first | (with_reducible first | exact HB.out | apply below_alloc | apply pw_below_drewN | apply below_drew1) | exact HB.out)) hb); clear HB; have HB := n0_; clear n0_; (try clear hb); (try clear hb2); (try clear hk); (try clear hi)) | (go_at_call 34; (with_reducible refine (topic_Under.calls a0 a1 false _ A44.out).mono ?_); rintro e w51 ⟨rfl, hb⟩; have n0_ := Aside0.mk (below_step (by repeat (first | (with_reducible first | exact HB.out | apply below_alloc | apply pw_below_drewN | apply below_drew1) | exact HB.out)) hb); clear HB; have HB := n0_; clear n0_; (try clear hb); (try clear hb2); (try clear hk); (try clear hi)))
              go_meet
              case rel => exact ⟨_, (false), (by first | rfl | (simp; done) | (simp [*]; done)), H', ⟨by have := HJ4.out; first | omega | exact Nat.le_refl _⟩, ⟨by repeat (first | (with_reducible first | exact HB.out | apply below_alloc | apply pw_below_drewN | apply below_drew1) | exact HB.out)⟩⟩
        case rest =>
          clear HC12
          try clear c1
          try clear c2
          try clear p2
          try clear c3
          try clear c4
          try clear c6
          try clear c6b0
          try clear c6b1
          try clear c7
          try clear c7b0
          try clear c7b1
          try clear c8
          try clear c8b0
          try clear c8b1
          try clear c9
          try clear c12
          try clear c14
          try clear c16
          try clear c18
          try clear c20
          try clear c30
          try clear c34
          try clear c35
          try clear c45
          try clear p2
          obtain ⟨kq, x52_11, rfl, HA, HJ11, HB⟩ := hcut
          cases kq with
          | zero => exact absurd HA.out (by simp [louverlaw21_TopicNests.j1])
          | succ kj11 =>
            have H := HA.out
            clear HA
            simp only [louverlaw21_TopicNests.j1] at H
            by_cases c52 : x52_11 = true
            · subst c52
              have H1 : (some false) = some r := by rw [if_pos rfl] at H; exact H
              clear H
              have H := H1
              clear H1
              obtain rfl := Option.some.inj H
              go_wp2
              go_ret
              exact ⟨by first | rfl | (simp [errW_none, errW_some] <;> rfl) | (simp [*, errW_none, errW_some] <;> rfl), by repeat (first | (with_reducible first | exact HB.out | apply below_alloc | apply pw_below_drewN | apply below_drew1) | exact HB.out)⟩
            · replace c52 := Bool.eq_false_iff.mpr c52
              subst c52
              have H1 : (if a0.size + 1 ≤ 9223372036854775807 then (if (a0 ++ (⟨#[47]⟩ : ByteArray)).size + a3.size ≤ 9223372036854775807 then ((louverlaw21_fixed.f).bind fun t182 => (if t182 = true then ((topic_Under.f ((a0 ++ (⟨#[47]⟩ : ByteArray)) ++ a3) a0).bind fun t183 => ((louverref21_May.f kj11 ((a0 ++ (⟨#[47]⟩ : ByteArray)) ++ a3)).bind fun t184 => (if t184 = true then ((louverref21_May.f kj11 a0).bind fun t185 => (some (t183 == t185))) else (some (t183 == false))))) else (some false))) else (none)) else (none)) = some r := by rw [if_neg (show ¬ (false = true) by decide)] at H; exact H
              clear H
              have H := H1
              clear H1
              by_cases c53 : a0.size + 1 ≤ 9223372036854775807
              · rw [if_pos c53] at H
                have c53b0 := eq_true c53
                have c53b1 : decide (a0.size + 1 ≤ 9223372036854775807) = true := decide_eq_true c53
                try have c53b2 : (9223372036854775807 < a0.size + 1) = False := eq_false (Nat.not_lt.2 c53)
                by_cases c54 : (a0 ++ (⟨#[47]⟩ : ByteArray)).size + a3.size ≤ 9223372036854775807
                · rw [if_pos c54] at H
                  have c54b0 := eq_true c54
                  have c54b1 : decide ((a0 ++ (⟨#[47]⟩ : ByteArray)).size + a3.size ≤ 9223372036854775807) = true := decide_eq_true c54
                  try have c54b2 : (9223372036854775807 < (a0 ++ (⟨#[47]⟩ : ByteArray)).size + a3.size) = False := eq_false (Nat.not_lt.2 c54)
                  replace H := Option.bind_eq_some_iff.mp H
                  obtain ⟨t182, A550, H⟩ := H
                  replace H : (if t182 = true then ((topic_Under.f ((a0 ++ (⟨#[47]⟩ : ByteArray)) ++ a3) a0).bind fun t183 => ((louverref21_May.f kj11 ((a0 ++ (⟨#[47]⟩ : ByteArray)) ++ a3)).bind fun t184 => (if t184 = true then ((louverref21_May.f kj11 a0).bind fun t185 => (some (t183 == t185))) else (some (t183 == false))))) else (some false)) = some r := H
                  have A55 := Aside0.mk A550
                  clear A550
                  by_cases c56 : t182 = true
                  · subst c56
                    have H1 : ((topic_Under.f ((a0 ++ (⟨#[47]⟩ : ByteArray)) ++ a3) a0).bind fun t183 => ((louverref21_May.f kj11 ((a0 ++ (⟨#[47]⟩ : ByteArray)) ++ a3)).bind fun t184 => (if t184 = true then ((louverref21_May.f kj11 a0).bind fun t185 => (some (t183 == t185))) else (some (t183 == false))))) = some r := by rw [if_pos rfl] at H; exact H
                    clear H
                    have H := H1
                    clear H1
                    replace H := Option.bind_eq_some_iff.mp H
                    obtain ⟨t183, A570, H⟩ := H
                    replace H : ((louverref21_May.f kj11 ((a0 ++ (⟨#[47]⟩ : ByteArray)) ++ a3)).bind fun t184 => (if t184 = true then ((louverref21_May.f kj11 a0).bind fun t185 => (some (t183 == t185))) else (some (t183 == false)))) = some r := H
                    have A57 := Aside0.mk A570
                    clear A570
                    replace H := Option.bind_eq_some_iff.mp H
                    obtain ⟨t184, A580, H⟩ := H
                    replace H : (if t184 = true then ((louverref21_May.f kj11 a0).bind fun t185 => (some (t183 == t185))) else (some (t183 == false))) = some r := H
                    have A58 := Aside0.mk A580
                    clear A580
                    by_cases c59 : t184 = true
                    · subst c59
                      have H1 : ((louverref21_May.f kj11 a0).bind fun t185 => (some (t183 == t185))) = some r := by rw [if_pos rfl] at H; exact H
                      clear H
                      have H := H1
                      clear H1
                      replace H := Option.bind_eq_some_iff.mp H
                      obtain ⟨t185, A600, H⟩ := H
                      replace H : (some (t183 == t185)) = some r := H
                      have A60 := Aside0.mk A600
                      clear A600
                      obtain rfl := Option.some.inj H
                      go_wp2_with (first | ((with_reducible refine gate_callee (f := 30) rfl ?_); refine goesL_ (some 57) rfl rfl Tryd.func30 (by kernel_rfl) rfl #[] rfl (by (try simp only [List.map_toArray, List.map_cons, List.map_nil]); first | done | rfl | (simp only [List.length_drop, List.length_take]; rfl)) ?_; (with_reducible refine (louverlaw21_fixed.calls  true _ A55.out).mono ?_); rintro e w61 ⟨rfl, hb⟩; refine ⟨_, rfl, ?_⟩; have n0_ := Aside0.mk (below_step (by repeat (first | (with_reducible first | exact HB.out | apply below_alloc | apply pw_below_drewN | apply below_drew1) | exact HB.out)) hb); clear HB; have HB := n0_; clear n0_; (try clear hb); (try clear hb2); (try clear hk); (try clear hi)) | (go_at_call 34; (with_reducible refine (topic_Under.calls ((a0 ++ (⟨#[47]⟩ : ByteArray)) ++ a3) a0 t183 _ A57.out).mono ?_); rintro e w62 ⟨rfl, hb⟩; have n0_ := Aside0.mk (below_step (by repeat (first | (with_reducible first | exact HB.out | apply below_alloc | apply pw_below_drewN | apply below_drew1) | exact HB.out)) hb); clear HB; have HB := n0_; clear n0_; (try clear hb); (try clear hb2); (try clear hk); (try clear hi)) | (go_at_call 31; (with_reducible refine (louverref21_May.calls kj11 ((a0 ++ (⟨#[47]⟩ : ByteArray)) ++ a3) true _ A58.out).mono ?_); rintro e w63 ⟨rfl, hb⟩; have n0_ := Aside0.mk (below_step (by repeat (first | (with_reducible first | exact HB.out | apply below_alloc | apply pw_below_drewN | apply below_drew1) | exact HB.out)) hb); clear HB; have HB := n0_; clear n0_; (try clear hb); (try clear hb2); (try clear hk); (try clear hi)) | (go_at_call 31; (with_reducible refine (louverref21_May.calls kj11 a0 t185 _ A60.out).mono ?_); rintro e w64 ⟨rfl, hb⟩; have n0_ := Aside0.mk (below_step (by repeat (first | (with_reducible first | exact HB.out | apply below_alloc | apply pw_below_drewN | apply below_drew1) | exact HB.out)) hb); clear HB; have HB := n0_; clear n0_; (try clear hb); (try clear hb2); (try clear hk); (try clear hi)))
                      go_ret
                      exact ⟨by first | rfl | (simp [errW_none, errW_some] <;> rfl) | (simp [*, errW_none, errW_some] <;> rfl), by repeat (first | (with_reducible first | exact HB.out | apply below_alloc | apply pw_below_drewN | apply below_drew1) | exact HB.out)⟩
                    · replace c59 := Bool.eq_false_iff.mpr c59
                      subst c59
                      have H1 : (some (t183 == false)) = some r := by rw [if_neg (show ¬ (false = true) by decide)] at H; exact H
                      clear H
                      have H := H1
                      clear H1
                      obtain rfl := Option.some.inj H
                      go_wp2_with (first | ((with_reducible refine gate_callee (f := 30) rfl ?_); refine goesL_ (some 57) rfl rfl Tryd.func30 (by kernel_rfl) rfl #[] rfl (by (try simp only [List.map_toArray, List.map_cons, List.map_nil]); first | done | rfl | (simp only [List.length_drop, List.length_take]; rfl)) ?_; (with_reducible refine (louverlaw21_fixed.calls  true _ A55.out).mono ?_); rintro e w65 ⟨rfl, hb⟩; refine ⟨_, rfl, ?_⟩; have n0_ := Aside0.mk (below_step (by repeat (first | (with_reducible first | exact HB.out | apply below_alloc | apply pw_below_drewN | apply below_drew1) | exact HB.out)) hb); clear HB; have HB := n0_; clear n0_; (try clear hb); (try clear hb2); (try clear hk); (try clear hi)) | (go_at_call 34; (with_reducible refine (topic_Under.calls ((a0 ++ (⟨#[47]⟩ : ByteArray)) ++ a3) a0 t183 _ A57.out).mono ?_); rintro e w66 ⟨rfl, hb⟩; have n0_ := Aside0.mk (below_step (by repeat (first | (with_reducible first | exact HB.out | apply below_alloc | apply pw_below_drewN | apply below_drew1) | exact HB.out)) hb); clear HB; have HB := n0_; clear n0_; (try clear hb); (try clear hb2); (try clear hk); (try clear hi)) | (go_at_call 31; (with_reducible refine (louverref21_May.calls kj11 ((a0 ++ (⟨#[47]⟩ : ByteArray)) ++ a3) false _ A58.out).mono ?_); rintro e w67 ⟨rfl, hb⟩; have n0_ := Aside0.mk (below_step (by repeat (first | (with_reducible first | exact HB.out | apply below_alloc | apply pw_below_drewN | apply below_drew1) | exact HB.out)) hb); clear HB; have HB := n0_; clear n0_; (try clear hb); (try clear hb2); (try clear hk); (try clear hi)))
                      go_ret
                      exact ⟨by first | rfl | (simp [errW_none, errW_some] <;> rfl) | (simp [*, errW_none, errW_some] <;> rfl), by repeat (first | (with_reducible first | exact HB.out | apply below_alloc | apply pw_below_drewN | apply below_drew1) | exact HB.out)⟩
                  · replace c56 := Bool.eq_false_iff.mpr c56
                    subst c56
                    have H1 : (some false) = some r := by rw [if_neg (show ¬ (false = true) by decide)] at H; exact H
                    clear H
                    have H := H1
                    clear H1
                    obtain rfl := Option.some.inj H
                    go_wp2_with (first | ((with_reducible refine gate_callee (f := 30) rfl ?_); refine goesL_ (some 57) rfl rfl Tryd.func30 (by kernel_rfl) rfl #[] rfl (by (try simp only [List.map_toArray, List.map_cons, List.map_nil]); first | done | rfl | (simp only [List.length_drop, List.length_take]; rfl)) ?_; (with_reducible refine (louverlaw21_fixed.calls  false _ A55.out).mono ?_); rintro e w68 ⟨rfl, hb⟩; refine ⟨_, rfl, ?_⟩; have n0_ := Aside0.mk (below_step (by repeat (first | (with_reducible first | exact HB.out | apply below_alloc | apply pw_below_drewN | apply below_drew1) | exact HB.out)) hb); clear HB; have HB := n0_; clear n0_; (try clear hb); (try clear hb2); (try clear hk); (try clear hi)))
                    go_ret
                    exact ⟨by first | rfl | (simp [errW_none, errW_some] <;> rfl) | (simp [*, errW_none, errW_some] <;> rfl), by repeat (first | (with_reducible first | exact HB.out | apply below_alloc | apply pw_below_drewN | apply below_drew1) | exact HB.out)⟩
                · rw [if_neg c54] at H
                  exact absurd H (by simp)
              · rw [if_neg c53] at H
                exact absurd H (by simp)

/-- THE ONE PURE STATEMENT of louverlaw21_TopicNests: yours. -/
def louverlaw21_TopicNests.Pure : Prop := ∀ (a0 : ByteArray) (a1 : ByteArray) (a2 : ByteArray) (a3 : ByteArray), a0.size ≤ 140737488351232 → a1.size ≤ 140737488351232 → a2.size ≤ 140737488351232 → a3.size ≤ 140737488351232 → ∃ k, louverlaw21_TopicNests.f k a0 a1 a2 a3 = some true
theorem louverlaw21_TopicNests.walk (P : louverlaw21_TopicNests.Pure) (a0 : ByteArray) (a1 : ByteArray) (a2 : ByteArray) (a3 : ByteArray) (w : World) (w0 : a0.size ≤ 140737488351232) (w1 : a1.size ≤ 140737488351232) (w2 : a2.size ≤ 140737488351232) (w3 : a3.size ≤ 140737488351232) :
    Calls Tryd.prog 12 #[.string a0, .string a1, .string a2, .string a3] w fun e w' => e = .returned (.bool true) ∧ Below w.heap.size w w' := by
  obtain ⟨k, h⟩ := P a0 a1 a2 a3 w0 w1 w2 w3
  refine (louverlaw21_TopicNests.calls k a0 a1 a2 a3 true w h).mono ?_
  rintro e w' ⟨rfl, hd⟩
  exact ⟨rfl, hd⟩

end Go.Proofs.YtodfahcmgmleeaaDoor.QTopic
