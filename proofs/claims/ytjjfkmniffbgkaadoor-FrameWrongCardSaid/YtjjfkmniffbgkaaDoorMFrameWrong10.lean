/- Texts of this claim, put together: QFrmBx8, QFrmNx0, QFrmNx1. -/
import Derived.Test.YtjjfkmniffbgkaaDoorMFrameWrong5
import Derived.Test.YtjjfkmniffbgkaaDoorMFrameWrong8
import Derived.Test.YtjjfkmniffbgkaaDoorMFrameWrong9
import Derived.Test.YtjjfkmniffbgkaaDoorProg
import Derived.Below
import Derived.Deep.Draws
import Derived.Deep.AppendLies
import Derived.Maps.AppendAt
import Derived.OwnWalk
import Derived.Laws.BytesArg
import Derived.Laws.MakeOwn
import Derived.Laws.OwnMore
import Derived.Deep.OwnRows
import Derived.Tactics
import Derived.Lib.ConvBytes
import Derived.Laws.Slices
import Derived.WalkKit
import Derived.KernelRfl
import Derived.RowKit3
import Derived.Deep.LoopGhost
import Derived.Deep.QuietTactic
import Derived.BigQuiet
import Derived.WideLaws
import Derived.Deep.DeepCutAuto
import Derived.Deep.CutBlock
import Derived.Deep.RegionHeld3
import Derived.Laws.Rows
import Derived.Lib.AppendStr
import Derived.ArgAppend
import Derived.Laws.IdiomCopy
import Derived.OrdersHeld
import Derived.Laws.BitsLemmas
import Derived.RowKit
import Derived.Test.YtjjfkmniffbgkaaDoorMFrameWrong4
import Derived.Test.YtjjfkmniffbgkaaDoorMFrameWrongW2
/- Printed by a program of this claim's author (wip/pr.py); not trusted: Lean checks it. -/
namespace Go.Proofs.YtjjfkmniffbgkaaDoor.QFrmB
open Go.Proofs.YtjjfkmniffbgkaaDoor Go.Proofs.YtjjfkmniffbgkaaDoor.Given Go.Proofs.YtjjfkmniffbgkaaDoor.QFrmA
open Go.RowKit Go.Proofs.YtjjfkmniffbgkaaDoorW.PrintWords Go.Proofs.YtjjfkmniffbgkaaDoorW.PrintLast Go.Proofs.YtjjfkmniffbgkaaDoorW.PrintMore
attribute [local go_sem] max2_int min2_int max_two min_two max_three min_three max_four min_four   -- for this text's walks alone
set_option linter.unusedVariables false
set_option linter.unusedSimpArgs false

attribute [local go_sem high] eqA24
/-! ### louverlaw07_FrameBack: function 7 -/
mutual
def louverlaw07_FrameBack.j0 : Nat → List Int → Bool → Int → Int → Int → List Int → Int → Int → Int → Int → Bool → Int → List (S99) → Option (Bool)
 | 0, _, _, _, _, _, _, _, _, _, _, _, _, _ => none
 | k + 1, x0, x28, x224000, x224001, x224002, x224003, x224004, x224005, x224006, x224007, x224008, x224009, x224010 => if x28 = true then ((louverlaw07_fixed.f k).bind fun t226 => (some t226)) else (if x224000 = 5 then (if 0 ≤ (wrap64 ((wrap64 (9 + (mx x224004 (-1)))) + 1)) then (if (wrap64 ((wrap64 (9 + (mx x224004 (-1)))) + 1)) < (x0.length : Int) then (louverlaw07_FrameBack.j1 k x0 (decide ((rd x0 (wrap64 ((wrap64 (9 + (mx x224004 (-1)))) + 1))) > 127)) x224000 x224001 x224002 x224003 x224004 x224005 x224006 x224007 x224008 x224009 x224010) else (none)) else (none)) else (if x224000 = 7 then (if 0 ≤ (wrap64 ((wrap64 (9 + (mx x224004 (-1)))) + 1)) then (if (wrap64 ((wrap64 (9 + (mx x224004 (-1)))) + 1)) < (x0.length : Int) then (louverlaw07_FrameBack.j1 k x0 (decide ((rd x0 (wrap64 ((wrap64 (9 + (mx x224004 (-1)))) + 1))) > 127)) x224000 x224001 x224002 x224003 x224004 x224005 x224006 x224007 x224008 x224009 x224010) else (none)) else (none)) else (if x224000 = 8 then (if 0 ≤ (wrap64 ((wrap64 (9 + (mx x224004 (-1)))) + 1)) then (if (wrap64 ((wrap64 (9 + (mx x224004 (-1)))) + 1)) < (x0.length : Int) then (louverlaw07_FrameBack.j1 k x0 (decide ((rd x0 (wrap64 ((wrap64 (9 + (mx x224004 (-1)))) + 1))) > 127)) x224000 x224001 x224002 x224003 x224004 x224005 x224006 x224007 x224008 x224009 x224010) else (none)) else (none)) else (louverlaw07_FrameBack.j1 k x0 false x224000 x224001 x224002 x224003 x224004 x224005 x224006 x224007 x224008 x224009 x224010))))
def louverlaw07_FrameBack.j1 : Nat → List Int → Bool → Int → Int → Int → List Int → Int → Int → Int → Int → Bool → Int → List (S99) → Option (Bool)
 | 0, _, _, _, _, _, _, _, _, _, _, _, _, _ => none
 | k + 1, x0, x53, x224000, x224001, x224002, x224003, x224004, x224005, x224006, x224007, x224008, x224009, x224010 => if x53 = true then ((louverlaw07_fixed.f k).bind fun t230 => (some t230)) else ((frame_Put.f k x224000 x224001 x224002 x224003 x224004 x224005 x224006 x224007 x224008 x224009 x224010).bind fun t231 => ((louverlaw07_fixed.f k).bind fun t234 => (if t234 = true then ((frame_May.f k x224000 x224001 x224002 x224003 x224004 x224005 x224006 x224007 x224008 x224009 x224010).bind fun t235 => (if t235 = true then (some ((strOfNums t231).toList == (strOfNums x0).toList)) else (some false))) else (some false))))
end
def louverlaw07_FrameBack.f (k : Nat) (l0 : List Int) : Option (Bool) := if (l0.length : Int) > 20000 then ((louverlaw07_fixed.f k).bind fun t205 => (some t205)) else ((frame_Get.f l0).bind fun bt206 => (if (!(bt206.2.2.2.2.2.2.2.2.2.2.2.1 == 0) || (!(bt206.2.2.2.2.2.2.2.2.2.2.2.2 == 0))) = true then (louverlaw07_FrameBack.j0 k l0 true bt206.1 bt206.2.1 bt206.2.2.1 bt206.2.2.2.1 bt206.2.2.2.2.1 bt206.2.2.2.2.2.1 bt206.2.2.2.2.2.2.1 bt206.2.2.2.2.2.2.2.1 bt206.2.2.2.2.2.2.2.2.1 bt206.2.2.2.2.2.2.2.2.2.1 bt206.2.2.2.2.2.2.2.2.2.2.1) else (if bt206.2.2.2.2.1 > 0 then (louverlaw07_FrameBack.j0 k l0 true bt206.1 bt206.2.1 bt206.2.2.1 bt206.2.2.2.1 bt206.2.2.2.2.1 bt206.2.2.2.2.2.1 bt206.2.2.2.2.2.2.1 bt206.2.2.2.2.2.2.2.1 bt206.2.2.2.2.2.2.2.2.1 bt206.2.2.2.2.2.2.2.2.2.1 bt206.2.2.2.2.2.2.2.2.2.2.1) else (if 5 < (l0.length : Int) then (louverlaw07_FrameBack.j0 k l0 (decide ((rd l0 5) > 127)) bt206.1 bt206.2.1 bt206.2.2.1 bt206.2.2.2.1 bt206.2.2.2.2.1 bt206.2.2.2.2.2.1 bt206.2.2.2.2.2.2.1 bt206.2.2.2.2.2.2.2.1 bt206.2.2.2.2.2.2.2.2.1 bt206.2.2.2.2.2.2.2.2.2.1 bt206.2.2.2.2.2.2.2.2.2.2.1) else (none)))))
theorem louverlaw07_FrameBack.mono_l : ∀ k, (∀ y0 y1 y2 y3 y4 y5 y6 y7 y8 y9 y10 y11 y12, LeO (louverlaw07_FrameBack.j0 k y0 y1 y2 y3 y4 y5 y6 y7 y8 y9 y10 y11 y12) (louverlaw07_FrameBack.j0 (k + 1) y0 y1 y2 y3 y4 y5 y6 y7 y8 y9 y10 y11 y12)) ∧ (∀ y0 y1 y2 y3 y4 y5 y6 y7 y8 y9 y10 y11 y12, LeO (louverlaw07_FrameBack.j1 k y0 y1 y2 y3 y4 y5 y6 y7 y8 y9 y10 y11 y12) (louverlaw07_FrameBack.j1 (k + 1) y0 y1 y2 y3 y4 y5 y6 y7 y8 y9 y10 y11 y12))
 | 0 => ⟨fun _ _ _ _ _ _ _ _ _ _ _ _ _ r h => by simp [louverlaw07_FrameBack.j0] at h, fun _ _ _ _ _ _ _ _ _ _ _ _ _ r h => by simp [louverlaw07_FrameBack.j1] at h⟩
 | k + 1 => by
  obtain ⟨ih0, ih1⟩ := louverlaw07_FrameBack.mono_l k
  refine ⟨?_, ?_⟩
  ·intro y0 y1 y2 y3 y4 y5 y6 y7 y8 y9 y10 y11 y12
   unfold louverlaw07_FrameBack.j0
   repeat' first
   | (with_reducible exact ih0 _ _ _ _ _ _ _ _ _ _ _ _ _)
   | (with_reducible exact ih1 _ _ _ _ _ _ _ _ _ _ _ _ _)
   | (with_reducible exact frame_May.mono _ _ _ _ _ _ _ _ _ _ _ _)
   | (with_reducible exact frame_Put.mono _ _ _ _ _ _ _ _ _ _ _ _)
   | (with_reducible exact louverlaw07_fixed.mono _)
   | (with_reducible exact LeO.refl _)
   | (with_reducible exact LeO.none _)
   | (with_reducible refine LeO.ite ?_ ?_)
   | (with_reducible refine LeO.bind ?_ (fun _ => ?_))
   | exact ih0 _ _ _ _ _ _ _ _ _ _ _ _ _
   | exact ih1 _ _ _ _ _ _ _ _ _ _ _ _ _
   | exact frame_May.mono _ _ _ _ _ _ _ _ _ _ _ _
   | exact frame_Put.mono _ _ _ _ _ _ _ _ _ _ _ _
   | exact louverlaw07_fixed.mono _
   | exact LeO.none _
   | refine LeO.ite ?_ ?_
   | refine LeO.bind ?_ (fun _ => ?_)
  ·intro y0 y1 y2 y3 y4 y5 y6 y7 y8 y9 y10 y11 y12
   unfold louverlaw07_FrameBack.j1
   repeat' first
   | (with_reducible exact ih0 _ _ _ _ _ _ _ _ _ _ _ _ _)
   | (with_reducible exact ih1 _ _ _ _ _ _ _ _ _ _ _ _ _)
   | (with_reducible exact frame_May.mono _ _ _ _ _ _ _ _ _ _ _ _)
   | (with_reducible exact frame_Put.mono _ _ _ _ _ _ _ _ _ _ _ _)
   | (with_reducible exact louverlaw07_fixed.mono _)
   | (with_reducible exact LeO.refl _)
   | (with_reducible exact LeO.none _)
   | (with_reducible refine LeO.ite ?_ ?_)
   | (with_reducible refine LeO.bind ?_ (fun _ => ?_))
   | exact ih0 _ _ _ _ _ _ _ _ _ _ _ _ _
   | exact ih1 _ _ _ _ _ _ _ _ _ _ _ _ _
   | exact frame_May.mono _ _ _ _ _ _ _ _ _ _ _ _
   | exact frame_Put.mono _ _ _ _ _ _ _ _ _ _ _ _
   | exact louverlaw07_fixed.mono _
   | exact LeO.none _
   | refine LeO.ite ?_ ?_
   | refine LeO.bind ?_ (fun _ => ?_)
theorem louverlaw07_FrameBack.mono : ∀ a0 k, LeO (louverlaw07_FrameBack.f k a0) (louverlaw07_FrameBack.f (k + 1) a0) := by
 intro a0 k
 obtain ⟨ih0, ih1⟩ := louverlaw07_FrameBack.mono_l k
 unfold louverlaw07_FrameBack.f
 repeat' first
   | (with_reducible exact ih0 _ _ _ _ _ _ _ _ _ _ _ _ _)
   | (with_reducible exact ih1 _ _ _ _ _ _ _ _ _ _ _ _ _)
   | (with_reducible exact frame_May.mono _ _ _ _ _ _ _ _ _ _ _ _)
   | (with_reducible exact frame_Put.mono _ _ _ _ _ _ _ _ _ _ _ _)
   | (with_reducible exact louverlaw07_fixed.mono _)
   | (with_reducible exact LeO.refl _)
   | (with_reducible exact LeO.none _)
   | (with_reducible refine LeO.ite ?_ ?_)
   | (with_reducible refine LeO.bind ?_ (fun _ => ?_))
   | exact ih0 _ _ _ _ _ _ _ _ _ _ _ _ _
   | exact ih1 _ _ _ _ _ _ _ _ _ _ _ _ _
   | exact frame_May.mono _ _ _ _ _ _ _ _ _ _ _ _
   | exact frame_Put.mono _ _ _ _ _ _ _ _ _ _ _ _
   | exact louverlaw07_fixed.mono _
   | exact LeO.none _
   | refine LeO.ite ?_ ?_
   | refine LeO.bind ?_ (fun _ => ?_)
set_option maxHeartbeats 8000000 in
set_option maxRecDepth 100000 in
theorem louverlaw07_FrameBack.calls (k : Nat) (A0 : Option Addr) (c0 : Nat) (l0 : List Int) (r : Bool) (w : World) (hGV : Aside0 (WFact w)) (hr0 : Kd.C (Kd.int .u8) w A0 l0.length l0) (hc0 : l0.length ≤ c0) (h : louverlaw07_FrameBack.f k l0 = some r) :
  Calls Tryd.prog 7 #[.slice A0 l0.length c0] w fun e w' => e = .returned (.bool r) ∧ Below w.heap.size w w' := by
 have hu38 := Tryd.underlying38
 have hu24 := Tryd.underlying24
 have HR0 := Aside0.mk hr0
 have HC0 := Aside0.mk hc0
 clear hr0 hc0
 have HB := Aside0.mk (Below.refl w.heap.size w)
 have H : (if (l0.length : Int) > 20000 then ((louverlaw07_fixed.f k).bind fun t205 => (some t205)) else ((frame_Get.f l0).bind fun bt206 => (if (!(bt206.2.2.2.2.2.2.2.2.2.2.2.1 == 0) || (!(bt206.2.2.2.2.2.2.2.2.2.2.2.2 == 0))) = true then (louverlaw07_FrameBack.j0 k l0 true bt206.1 bt206.2.1 bt206.2.2.1 bt206.2.2.2.1 bt206.2.2.2.2.1 bt206.2.2.2.2.2.1 bt206.2.2.2.2.2.2.1 bt206.2.2.2.2.2.2.2.1 bt206.2.2.2.2.2.2.2.2.1 bt206.2.2.2.2.2.2.2.2.2.1 bt206.2.2.2.2.2.2.2.2.2.2.1) else (if bt206.2.2.2.2.1 > 0 then (louverlaw07_FrameBack.j0 k l0 true bt206.1 bt206.2.1 bt206.2.2.1 bt206.2.2.2.1 bt206.2.2.2.2.1 bt206.2.2.2.2.2.1 bt206.2.2.2.2.2.2.1 bt206.2.2.2.2.2.2.2.1 bt206.2.2.2.2.2.2.2.2.1 bt206.2.2.2.2.2.2.2.2.2.1 bt206.2.2.2.2.2.2.2.2.2.2.1) else (if 5 < (l0.length : Int) then (louverlaw07_FrameBack.j0 k l0 (decide ((rd l0 5) > 127)) bt206.1 bt206.2.1 bt206.2.2.1 bt206.2.2.2.1 bt206.2.2.2.2.1 bt206.2.2.2.2.2.1 bt206.2.2.2.2.2.2.1 bt206.2.2.2.2.2.2.2.1 bt206.2.2.2.2.2.2.2.2.1 bt206.2.2.2.2.2.2.2.2.2.1 bt206.2.2.2.2.2.2.2.2.2.2.1) else (none)))))) = some r := h
 clear h
 by_cases c2 : (l0.length : Int) > 20000
 ·rw [if_pos c2] at H
  have c2b0 : decide (20000 < (l0.length : Int)) = true := decide_eq_true c2
  have c2b1 : decide (20000 < l0.length) = true := decide_eq_true (by omega)
  clear c2
  replace H := Option.bind_eq_some_iff.mp H
  obtain ⟨t205, A30, H⟩ := H
  replace H : (some t205) = some r := H
  have A3 := Aside0.mk A30
  clear A30
  obtain rfl := Option.some.inj H
  go_enter Tryd.func7, Tryd.ntmps7
  go_wp2_with (first | ((with_reducible refine gate_callee (f := 20) rfl ?_); refine goesL_ (some 9) rfl rfl Tryd.func20 (by kernel_rfl) rfl #[] rfl (by (try simp only [List.map_toArray, List.map_cons, List.map_nil]); first | done | rfl | (simp only [List.length_drop, List.length_take]; rfl)) ?_; (with_reducible refine (louverlaw07_fixed.calls k  t205 _ A3.out).mono ?_); rintro e w4 ⟨rfl, hb⟩; refine ⟨_, rfl, ?_⟩; have n0_ := Aside0.mk (below_step (by repeat (first | (with_reducible first | exact HB.out | apply below_alloc | apply pw_below_drewN | apply below_drew1) | exact HB.out)) hb); clear HB; have HB := n0_; clear n0_; (try clear hb); (try clear hb2); (try clear hk); (try clear hi)))
  go_ret
  exact ⟨by first | rfl | (simp [errW_none, errW_some] <;> rfl) | (simp [*, errW_none, errW_some] <;> rfl), by repeat (first | (with_reducible first | exact HB.out | apply below_alloc | apply pw_below_drewN | apply below_drew1) | exact HB.out)⟩
 ·rw [if_neg c2] at H
  have c2b0 : decide (20000 < (l0.length : Int)) = false := decide_eq_false c2
  have c2b1 : decide (20000 < l0.length) = false := decide_eq_false (by omega)
  clear c2
  replace H := Option.bind_eq_some_iff.mp H
  obtain ⟨⟨t206, t207, t208, t209, t212, t213, t214, t215, t216, t217, t218, t221, t222⟩, A50, H⟩ := H
  replace H : (if (!(t221 == 0) || (!(t222 == 0))) = true then (louverlaw07_FrameBack.j0 k l0 true t206 t207 t208 t209 t212 t213 t214 t215 t216 t217 t218) else (if t212 > 0 then (louverlaw07_FrameBack.j0 k l0 true t206 t207 t208 t209 t212 t213 t214 t215 t216 t217 t218) else (if 5 < (l0.length : Int) then (louverlaw07_FrameBack.j0 k l0 (decide ((rd l0 5) > 127)) t206 t207 t208 t209 t212 t213 t214 t215 t216 t217 t218) else (none)))) = some r := H
  have A5 := Aside0.mk A50
  clear A50
  have HC6 := Aside0.mk H
  clear H
  go_enter Tryd.func7, Tryd.ntmps7
  go_upto_region 4 with (first | ((with_reducible refine gate_callee (f := 27) rfl ?_); refine goesL_ (some 12) rfl rfl Tryd.func27 (by kernel_rfl) rfl #[.slice A0 l0.length c0] rfl (by (try simp only [List.map_toArray, List.map_cons, List.map_nil]); first | done | rfl | (simp only [List.length_drop, List.length_take]; rfl)) ?_; (with_reducible refine (frame_Get.calls _ _ l0 t206 t207 t208 t209 t212 t213 t214 t215 t216 t217 t218 t221 t222 _ ?side99 ?side1 ?side2 A5.out).mono ?_); (case side99 => exact ⟨WFact.below hGV.out (by repeat (first | (with_reducible first | exact HB.out | apply below_alloc | apply pw_below_drewN | apply below_drew1) | exact HB.out))⟩); (case side1 => repeat (first | exact HR0.out | (with_reducible refine Kd.C_alloc ?_ _) | (with_reducible refine Kd.C_drewN ?_ _) | (with_reducible refine Kd.C_drew ?_))); (case side2 => exact HC0.out); rintro e w7 ⟨v210, v219, rfl, ho0, ho1, hb⟩; refine ⟨_, rfl, ?_⟩; have n0_ := Aside0.mk (Kd.R_lower ho0 (below_size (by repeat (first | (with_reducible first | exact HB.out | apply below_alloc | apply pw_below_drewN | apply below_drew1) | exact HB.out)))); have n1_ := Aside0.mk (Kd.R_lower ho1 (below_size (by repeat (first | (with_reducible first | exact HB.out | apply below_alloc | apply pw_below_drewN | apply below_drew1) | exact HB.out)))); have n2_ := Aside0.mk (below_step (by repeat (first | (with_reducible first | exact HB.out | apply below_alloc | apply pw_below_drewN | apply below_drew1) | exact HB.out)) hb); clear HB; have HO211 := n0_; have HO220 := n1_; have HB := n2_; clear n0_ n1_ n2_; (try clear hb); (try clear hb2); (try clear hk); (try clear hi); (try clear ho0); (try clear ho1)) | ((with_reducible refine gate_dst (N := 3) rfl ?_); (try (refine gate_guard (by rfl) ?_; dsimp only)); refine box_event ?hg (N := 3) ?hd (cs := #[.int .u8 0, .int .u8 0, .int .u32 0, .slice none 0 0, .int .i64 0, .int .u32 0, .int .u32 0, .int .u8 0, .bool false, .int .u32 0, .slice none 0 0]) (t := 38) ?hr ?_; (case hd => rfl); (case hg => rfl); (case hr => first | (go_simp; done) | (go_simp; rfl)); intro gb223 hg w8 hbox hb; have n0_ := Aside0.mk (Kd.R_below (by (with_reducible repeat (first | apply Kd.R_alloc | apply Kd.R_drewN | apply Kd.R_drew)); exact HO211.out) hb); have n1_ := Aside0.mk (Kd.R_below (by (with_reducible repeat (first | apply Kd.R_alloc | apply Kd.R_drewN | apply Kd.R_drew)); exact HO220.out) hb); have n2_ := Aside0.mk (below_step (by repeat (first | (with_reducible first | exact HB.out | apply below_alloc | apply pw_below_drewN | apply below_drew1) | exact HB.out)) hb); have n3_ := Aside0.mk (hbox); have n4_ := Aside0.mk ((by rw [hg]; exact (below_size (by repeat (first | (with_reducible first | exact HB.out | apply below_alloc | apply pw_below_drewN | apply below_drew1) | exact HB.out))) : w.heap.size ≤ gb223)); have n5_ := Aside0.mk ((by rw [hg]; exact (below_size (by repeat (first | (with_reducible first | exact HB.out | apply below_alloc | apply pw_below_drewN | apply below_drew1) | exact HB.out))) : w.heap.size ≤ gb223)); clear HO211; clear HO220; clear HB; have HO211 := n0_; have HO220 := n1_; have HB := n2_; have BK223 := n3_; have GW223 := n4_; have GE223 := n5_; clear n0_ n1_ n2_ n3_ n4_ n5_; clear hb hbox hg) | ((with_reducible refine gate_dst (N := 4) rfl ?_); (try (refine gate_guard (by rfl) ?_; dsimp only)); refine box_event ?hg (N := 4) ?hd (cs := #[.int .u8 0, .int .u32 0]) (t := 24) ?hr ?_; (case hd => rfl); (case hg => rfl); (case hr => first | (go_simp; done) | (go_simp; rfl)); intro gb224 hg w9 hbox hb; have n0_ := Aside0.mk (Kd.R_below (by (with_reducible repeat (first | apply Kd.R_alloc | apply Kd.R_drewN | apply Kd.R_drew)); exact HO211.out) hb); have n1_ := Aside0.mk (Kd.R_below (by (with_reducible repeat (first | apply Kd.R_alloc | apply Kd.R_drewN | apply Kd.R_drew)); exact HO220.out) hb); have n2_ := Aside0.mk (blk_below (g := gb223) (o := .cells #[.int .u8 0, .int .u8 0, .int .u32 0, .slice none 0 0, .int .i64 0, .int .u32 0, .int .u32 0, .int .u8 0, .bool false, .int .u32 0, .slice none 0 0] 38 (0, 0)) (by (with_reducible repeat (first | refine blk_drewN ?_ _ | refine blk_drew ?_ | refine blk_alloc ?_ _)); exact BK223.out) hb); have n3_ := Aside0.mk (below_step (by repeat (first | (with_reducible first | exact HB.out | apply below_alloc | apply pw_below_drewN | apply below_drew1 | refine below_set ?_ GE223.out) | exact HB.out)) hb); have n4_ := Aside0.mk (hbox); have n5_ := Aside0.mk ((by rw [hg]; exact (below_size (by repeat (first | (with_reducible first | exact HB.out | apply below_alloc | apply pw_below_drewN | apply below_drew1 | refine below_set ?_ GE223.out) | exact HB.out))) : w.heap.size ≤ gb224)); have n6_ := Aside0.mk ((by rw [hg]; exact (below_size (by repeat (first | (with_reducible first | exact HB.out | apply below_alloc | apply pw_below_drewN | apply below_drew1 | refine below_set ?_ GE223.out) | exact HB.out))) : w.heap.size ≤ gb224)); have n7_ := Aside0.mk ((by rw [hg]; exact Nat.ne_of_lt (blk_lt (g := gb223) (o := .cells #[.int .u8 0, .int .u8 0, .int .u32 0, .slice none 0 0, .int .i64 0, .int .u32 0, .int .u32 0, .int .u8 0, .bool false, .int .u32 0, .slice none 0 0] 38 (0, 0)) (by (with_reducible repeat (first | refine blk_drewN ?_ _ | refine blk_drew ?_ | refine blk_alloc ?_ _)); exact BK223.out)) : gb223 ≠ gb224)); have n8_ := Aside0.mk ((by rw [hg]; exact Nat.ne_of_gt (blk_lt (g := gb223) (o := .cells #[.int .u8 0, .int .u8 0, .int .u32 0, .slice none 0 0, .int .i64 0, .int .u32 0, .int .u32 0, .int .u8 0, .bool false, .int .u32 0, .slice none 0 0] 38 (0, 0)) (by (with_reducible repeat (first | refine blk_drewN ?_ _ | refine blk_drew ?_ | refine blk_alloc ?_ _)); exact BK223.out)) : gb224 ≠ gb223)); clear HO211; clear HO220; clear BK223; clear HB; have HO211 := n0_; have HO220 := n1_; have BK223 := n2_; have HB := n3_; have BK224 := n4_; have GW224 := n5_; have GE224 := n6_; have NB223_224 := n7_; have NB224_223 := n8_; clear n0_ n1_ n2_ n3_ n4_ n5_ n6_ n7_ n8_; clear hb hbox hg; have hnb10 := NB223_224.out; have hnc10 := NB224_223.out; have z11_0 : w9.cell? ⟨gb223, 0, none⟩ = some (.int .u8 0) := (blk_cell BK223.out 0).trans rfl; have z11_1 : w9.cell? ⟨gb223, 1, none⟩ = some (.int .u8 0) := (blk_cell BK223.out 1).trans rfl; have z11_2 : w9.cell? ⟨gb223, 2, none⟩ = some (.int .u32 0) := (blk_cell BK223.out 2).trans rfl; have z11_3 : w9.cell? ⟨gb223, 3, none⟩ = some (.slice none 0 0) := (blk_cell BK223.out 3).trans rfl; have z11_4 : w9.cell? ⟨gb223, 4, none⟩ = some (.int .i64 0) := (blk_cell BK223.out 4).trans rfl; have z11_5 : w9.cell? ⟨gb223, 5, none⟩ = some (.int .u32 0) := (blk_cell BK223.out 5).trans rfl; have z11_6 : w9.cell? ⟨gb223, 6, none⟩ = some (.int .u32 0) := (blk_cell BK223.out 6).trans rfl; have z11_7 : w9.cell? ⟨gb223, 7, none⟩ = some (.int .u8 0) := (blk_cell BK223.out 7).trans rfl; have z11_8 : w9.cell? ⟨gb223, 8, none⟩ = some (.bool false) := (blk_cell BK223.out 8).trans rfl; have z11_9 : w9.cell? ⟨gb223, 9, none⟩ = some (.int .u32 0) := (blk_cell BK223.out 9).trans rfl; have z11_10 : w9.cell? ⟨gb223, 10, none⟩ = some (.slice none 0 0) := (blk_cell BK223.out 10).trans rfl; have y11_0 := blk_frozen BK223.out 0; have y11_1 := blk_frozen BK223.out 1; have y11_2 := blk_frozen BK223.out 2; have y11_3 := blk_frozen BK223.out 3; have y11_4 := blk_frozen BK223.out 4; have y11_5 := blk_frozen BK223.out 5; have y11_6 := blk_frozen BK223.out 6; have y11_7 := blk_frozen BK223.out 7; have y11_8 := blk_frozen BK223.out 8; have y11_9 := blk_frozen BK223.out 9; have y11_10 := blk_frozen BK223.out 10; obtain ⟨Ao12, co12, eo12⟩ := Kd.R_slice HO211.out; subst eo12; obtain ⟨Ao13, co13, eo13⟩ := Kd.R_slice HO220.out; subst eo13; have z14_0 : w9.cell? ⟨gb224, 0, none⟩ = some (.int .u8 0) := (blk_cell BK224.out 0).trans rfl; have z14_1 : w9.cell? ⟨gb224, 1, none⟩ = some (.int .u32 0) := (blk_cell BK224.out 1).trans rfl; have y14_0 := blk_frozen BK224.out 0; have y14_1 := blk_frozen BK224.out 1))
  (try simp only [Act.put, List.setIfInBounds_toArray, List.set_cons_zero, List.set_cons_succ])
  go_cut [28] (fun v28 wc => ∃ (kq : Nat) (x28_5 : Bool), v28 = .bool x28_5 ∧ Aside0 (louverlaw07_FrameBack.j0 kq l0 x28_5 t206 t207 t208 t209 t212 t213 t214 t215 t216 t217 t218 = some r) ∧ Aside0 (kq ≤ k) ∧ Aside0 (Kd.R (Kd.int .u8) 5 wc w.heap.size (fun _ => True) (.slice Ao12 t209.length co12) t209) ∧ Aside0 (Kd.R k99 99 wc w.heap.size (fun _ => True) (.slice Ao13 t218.length co13) t218) ∧ Aside0 (wc.heap[gb223]? = some (.cells #[.int .u8 t206, .int .u8 t207, .int .u32 t208, (.slice Ao12 t209.length co12), .int .i64 t212, .int .u32 t213, .int .u32 t214, .int .u8 t215, .bool t216, .int .u32 t217, (.slice Ao13 t218.length co13)] 38 (0, 0))) ∧ Aside0 (wc.heap[gb224]? = some (.cells #[.int .u8 t221, .int .u32 t222] 24 (0, 0))) ∧ Aside0 (Below w.heap.size w wc))
  case first =>
   have H := HC6.out
   clear HC6
   by_cases c15 : (!(t221 == 0) || (!(t222 == 0))) = true
   ·rw [if_pos c15] at H
    have c15b0 : (!(t221 == 0) || (!(t222 == 0))) = true := c15
    clear c15
    (first | rw [c15b0] | (simp only [i64_w, i32_w]; rw [c15b0]) | skip)
    have H' := Aside0.mk H
    clear H
    have hnb16 := NB224_223.out
    have hnc16 := NB223_224.out
    have z17_0 : w9.cell? ⟨gb224, 0, none⟩ = some (.int .u8 0) := (blk_cell BK224.out 0).trans rfl
    have z17_1 : w9.cell? ⟨gb224, 1, none⟩ = some (.int .u32 0) := (blk_cell BK224.out 1).trans rfl
    have y17_0 := blk_frozen BK224.out 0
    have y17_1 := blk_frozen BK224.out 1
    go_wp2
    go_meet
    case rel => exact ⟨_, (true), (by first | rfl | (simp; done) | (simp [*]; done)), H', ⟨by first | omega | exact Nat.le_refl _⟩, ⟨by (with_reducible repeat (first | apply Kd.R_alloc | apply Kd.R_drewN | apply Kd.R_drew)); exact Kd.R_mono (Kd.R_far (p := ⟨gb224, 1, none⟩) (Kd.R_far (p := ⟨gb224, 0, none⟩) (Kd.R_far (p := ⟨gb223, 10, none⟩) (Kd.R_far (p := ⟨gb223, 9, none⟩) (Kd.R_far (p := ⟨gb223, 8, none⟩) (Kd.R_far (p := ⟨gb223, 7, none⟩) (Kd.R_far (p := ⟨gb223, 6, none⟩) (Kd.R_far (p := ⟨gb223, 5, none⟩) (Kd.R_far (p := ⟨gb223, 4, none⟩) (Kd.R_far (p := ⟨gb223, 3, none⟩) (Kd.R_far (p := ⟨gb223, 2, none⟩) (Kd.R_far (p := ⟨gb223, 1, none⟩) (Kd.R_far (p := ⟨gb223, 0, none⟩) (Kd.R_types (Kd.R_types HO211.out BK223.out (by decide)) BK224.out (by decide)) (fun _ hk => hk.1.2) (.int .u8 t206)) (fun _ hk => hk.1.2) (.int .u8 t207)) (fun _ hk => hk.1.2) (.int .u32 t208)) (fun _ hk => hk.1.2) (.slice Ao12 t209.length co12)) (fun _ hk => hk.1.2) (.int .i64 t212)) (fun _ hk => hk.1.2) (.int .u32 t213)) (fun _ hk => hk.1.2) (.int .u32 t214)) (fun _ hk => hk.1.2) (.int .u8 t215)) (fun _ hk => hk.1.2) (.bool t216)) (fun _ hk => hk.1.2) (.int .u32 t217)) (fun _ hk => hk.1.2) (.slice Ao13 t218.length co13)) (fun _ hk => hk.2) (.int .u8 t221)) (fun _ hk => hk.2) (.int .u32 t222)) (fun _ hk => trivial)⟩, ⟨by (with_reducible repeat (first | apply Kd.R_alloc | apply Kd.R_drewN | apply Kd.R_drew)); exact Kd.R_mono (Kd.R_far (p := ⟨gb224, 1, none⟩) (Kd.R_far (p := ⟨gb224, 0, none⟩) (Kd.R_far (p := ⟨gb223, 10, none⟩) (Kd.R_far (p := ⟨gb223, 9, none⟩) (Kd.R_far (p := ⟨gb223, 8, none⟩) (Kd.R_far (p := ⟨gb223, 7, none⟩) (Kd.R_far (p := ⟨gb223, 6, none⟩) (Kd.R_far (p := ⟨gb223, 5, none⟩) (Kd.R_far (p := ⟨gb223, 4, none⟩) (Kd.R_far (p := ⟨gb223, 3, none⟩) (Kd.R_far (p := ⟨gb223, 2, none⟩) (Kd.R_far (p := ⟨gb223, 1, none⟩) (Kd.R_far (p := ⟨gb223, 0, none⟩) (Kd.R_types (Kd.R_types HO220.out BK223.out (by decide)) BK224.out (by decide)) (fun _ hk => hk.1.2) (.int .u8 t206)) (fun _ hk => hk.1.2) (.int .u8 t207)) (fun _ hk => hk.1.2) (.int .u32 t208)) (fun _ hk => hk.1.2) (.slice Ao12 t209.length co12)) (fun _ hk => hk.1.2) (.int .i64 t212)) (fun _ hk => hk.1.2) (.int .u32 t213)) (fun _ hk => hk.1.2) (.int .u32 t214)) (fun _ hk => hk.1.2) (.int .u8 t215)) (fun _ hk => hk.1.2) (.bool t216)) (fun _ hk => hk.1.2) (.int .u32 t217)) (fun _ hk => hk.1.2) (.slice Ao13 t218.length co13)) (fun _ hk => hk.2) (.int .u8 t221)) (fun _ hk => hk.2) (.int .u32 t222)) (fun _ hk => trivial)⟩, ⟨by (with_reducible repeat (first | refine blk_drewN ?_ _ | refine blk_drew ?_ | refine blk_alloc ?_ _)); refine blk_far ?_ NB223_224.out _; (with_reducible repeat (first | refine blk_drewN ?_ _ | refine blk_drew ?_ | refine blk_alloc ?_ _)); refine blk_far ?_ NB223_224.out _; (with_reducible repeat (first | refine blk_drewN ?_ _ | refine blk_drew ?_ | refine blk_alloc ?_ _)); refine blk_put (cs := #[.int .u8 t206, .int .u8 t207, .int .u32 t208, .slice Ao12 t209.length co12, .int .i64 t212, .int .u32 t213, .int .u32 t214, .int .u8 t215, .bool t216, .int .u32 t217, .slice none 0 0]) ?_ 10 _ rfl; (with_reducible repeat (first | refine blk_drewN ?_ _ | refine blk_drew ?_ | refine blk_alloc ?_ _)); refine blk_put (cs := #[.int .u8 t206, .int .u8 t207, .int .u32 t208, .slice Ao12 t209.length co12, .int .i64 t212, .int .u32 t213, .int .u32 t214, .int .u8 t215, .bool t216, .int .u32 0, .slice none 0 0]) ?_ 9 _ rfl; (with_reducible repeat (first | refine blk_drewN ?_ _ | refine blk_drew ?_ | refine blk_alloc ?_ _)); refine blk_put (cs := #[.int .u8 t206, .int .u8 t207, .int .u32 t208, .slice Ao12 t209.length co12, .int .i64 t212, .int .u32 t213, .int .u32 t214, .int .u8 t215, .bool false, .int .u32 0, .slice none 0 0]) ?_ 8 _ rfl; (with_reducible repeat (first | refine blk_drewN ?_ _ | refine blk_drew ?_ | refine blk_alloc ?_ _)); refine blk_put (cs := #[.int .u8 t206, .int .u8 t207, .int .u32 t208, .slice Ao12 t209.length co12, .int .i64 t212, .int .u32 t213, .int .u32 t214, .int .u8 0, .bool false, .int .u32 0, .slice none 0 0]) ?_ 7 _ rfl; (with_reducible repeat (first | refine blk_drewN ?_ _ | refine blk_drew ?_ | refine blk_alloc ?_ _)); refine blk_put (cs := #[.int .u8 t206, .int .u8 t207, .int .u32 t208, .slice Ao12 t209.length co12, .int .i64 t212, .int .u32 t213, .int .u32 0, .int .u8 0, .bool false, .int .u32 0, .slice none 0 0]) ?_ 6 _ rfl; (with_reducible repeat (first | refine blk_drewN ?_ _ | refine blk_drew ?_ | refine blk_alloc ?_ _)); refine blk_put (cs := #[.int .u8 t206, .int .u8 t207, .int .u32 t208, .slice Ao12 t209.length co12, .int .i64 t212, .int .u32 0, .int .u32 0, .int .u8 0, .bool false, .int .u32 0, .slice none 0 0]) ?_ 5 _ rfl; (with_reducible repeat (first | refine blk_drewN ?_ _ | refine blk_drew ?_ | refine blk_alloc ?_ _)); refine blk_put (cs := #[.int .u8 t206, .int .u8 t207, .int .u32 t208, .slice Ao12 t209.length co12, .int .i64 0, .int .u32 0, .int .u32 0, .int .u8 0, .bool false, .int .u32 0, .slice none 0 0]) ?_ 4 _ rfl; (with_reducible repeat (first | refine blk_drewN ?_ _ | refine blk_drew ?_ | refine blk_alloc ?_ _)); refine blk_put (cs := #[.int .u8 t206, .int .u8 t207, .int .u32 t208, .slice none 0 0, .int .i64 0, .int .u32 0, .int .u32 0, .int .u8 0, .bool false, .int .u32 0, .slice none 0 0]) ?_ 3 _ rfl; (with_reducible repeat (first | refine blk_drewN ?_ _ | refine blk_drew ?_ | refine blk_alloc ?_ _)); refine blk_put (cs := #[.int .u8 t206, .int .u8 t207, .int .u32 0, .slice none 0 0, .int .i64 0, .int .u32 0, .int .u32 0, .int .u8 0, .bool false, .int .u32 0, .slice none 0 0]) ?_ 2 _ rfl; (with_reducible repeat (first | refine blk_drewN ?_ _ | refine blk_drew ?_ | refine blk_alloc ?_ _)); refine blk_put (cs := #[.int .u8 t206, .int .u8 0, .int .u32 0, .slice none 0 0, .int .i64 0, .int .u32 0, .int .u32 0, .int .u8 0, .bool false, .int .u32 0, .slice none 0 0]) ?_ 1 _ rfl; (with_reducible repeat (first | refine blk_drewN ?_ _ | refine blk_drew ?_ | refine blk_alloc ?_ _)); refine blk_put (cs := #[.int .u8 0, .int .u8 0, .int .u32 0, .slice none 0 0, .int .i64 0, .int .u32 0, .int .u32 0, .int .u8 0, .bool false, .int .u32 0, .slice none 0 0]) ?_ 0 _ rfl; (with_reducible repeat (first | refine blk_drewN ?_ _ | refine blk_drew ?_ | refine blk_alloc ?_ _)); exact BK223.out⟩, ⟨by (with_reducible repeat (first | refine blk_drewN ?_ _ | refine blk_drew ?_ | refine blk_alloc ?_ _)); refine blk_put (cs := #[.int .u8 t221, .int .u32 0]) ?_ 1 _ rfl; (with_reducible repeat (first | refine blk_drewN ?_ _ | refine blk_drew ?_ | refine blk_alloc ?_ _)); refine blk_put (cs := #[.int .u8 0, .int .u32 0]) ?_ 0 _ rfl; (with_reducible repeat (first | refine blk_drewN ?_ _ | refine blk_drew ?_ | refine blk_alloc ?_ _)); refine blk_far ?_ NB224_223.out _; (with_reducible repeat (first | refine blk_drewN ?_ _ | refine blk_drew ?_ | refine blk_alloc ?_ _)); refine blk_far ?_ NB224_223.out _; (with_reducible repeat (first | refine blk_drewN ?_ _ | refine blk_drew ?_ | refine blk_alloc ?_ _)); refine blk_far ?_ NB224_223.out _; (with_reducible repeat (first | refine blk_drewN ?_ _ | refine blk_drew ?_ | refine blk_alloc ?_ _)); refine blk_far ?_ NB224_223.out _; (with_reducible repeat (first | refine blk_drewN ?_ _ | refine blk_drew ?_ | refine blk_alloc ?_ _)); refine blk_far ?_ NB224_223.out _; (with_reducible repeat (first | refine blk_drewN ?_ _ | refine blk_drew ?_ | refine blk_alloc ?_ _)); refine blk_far ?_ NB224_223.out _; (with_reducible repeat (first | refine blk_drewN ?_ _ | refine blk_drew ?_ | refine blk_alloc ?_ _)); refine blk_far ?_ NB224_223.out _; (with_reducible repeat (first | refine blk_drewN ?_ _ | refine blk_drew ?_ | refine blk_alloc ?_ _)); refine blk_far ?_ NB224_223.out _; (with_reducible repeat (first | refine blk_drewN ?_ _ | refine blk_drew ?_ | refine blk_alloc ?_ _)); refine blk_far ?_ NB224_223.out _; (with_reducible repeat (first | refine blk_drewN ?_ _ | refine blk_drew ?_ | refine blk_alloc ?_ _)); refine blk_far ?_ NB224_223.out _; (with_reducible repeat (first | refine blk_drewN ?_ _ | refine blk_drew ?_ | refine blk_alloc ?_ _)); refine blk_far ?_ NB224_223.out _; (with_reducible repeat (first | refine blk_drewN ?_ _ | refine blk_drew ?_ | refine blk_alloc ?_ _)); exact BK224.out⟩, ⟨by repeat (first | (with_reducible first | exact HB.out | apply below_alloc | apply pw_below_drewN | apply below_drew1 | refine below_set ?_ GE223.out | refine below_set ?_ GE224.out) | exact HB.out)⟩⟩
   ·rw [if_neg c15] at H
    have c15b0 : (!(t221 == 0) || (!(t222 == 0))) = false := by simpa using c15
    clear c15
    (first | rw [c15b0] | (simp only [i64_w, i32_w]; rw [c15b0]) | skip)
    by_cases c18 : t212 > 0
    ·rw [if_pos c18] at H
     have c18b0 : decide (0 < t212) = true := decide_eq_true c18
     clear c18
     have H' := Aside0.mk H
     clear H
     have hnb19 := NB224_223.out
     have hnc19 := NB223_224.out
     have z20_0 : w9.cell? ⟨gb224, 0, none⟩ = some (.int .u8 0) := (blk_cell BK224.out 0).trans rfl
     have z20_1 : w9.cell? ⟨gb224, 1, none⟩ = some (.int .u32 0) := (blk_cell BK224.out 1).trans rfl
     have y20_0 := blk_frozen BK224.out 0
     have y20_1 := blk_frozen BK224.out 1
     have z21_0 : w9.cell? ⟨gb223, 0, none⟩ = some (.int .u8 0) := (blk_cell BK223.out 0).trans rfl
     have z21_1 : w9.cell? ⟨gb223, 1, none⟩ = some (.int .u8 0) := (blk_cell BK223.out 1).trans rfl
     have z21_2 : w9.cell? ⟨gb223, 2, none⟩ = some (.int .u32 0) := (blk_cell BK223.out 2).trans rfl
     have z21_3 : w9.cell? ⟨gb223, 3, none⟩ = some (.slice none 0 0) := (blk_cell BK223.out 3).trans rfl
     have z21_4 : w9.cell? ⟨gb223, 4, none⟩ = some (.int .i64 0) := (blk_cell BK223.out 4).trans rfl
     have z21_5 : w9.cell? ⟨gb223, 5, none⟩ = some (.int .u32 0) := (blk_cell BK223.out 5).trans rfl
     have z21_6 : w9.cell? ⟨gb223, 6, none⟩ = some (.int .u32 0) := (blk_cell BK223.out 6).trans rfl
     have z21_7 : w9.cell? ⟨gb223, 7, none⟩ = some (.int .u8 0) := (blk_cell BK223.out 7).trans rfl
     have z21_8 : w9.cell? ⟨gb223, 8, none⟩ = some (.bool false) := (blk_cell BK223.out 8).trans rfl
     have z21_9 : w9.cell? ⟨gb223, 9, none⟩ = some (.int .u32 0) := (blk_cell BK223.out 9).trans rfl
     have z21_10 : w9.cell? ⟨gb223, 10, none⟩ = some (.slice none 0 0) := (blk_cell BK223.out 10).trans rfl
     have y21_0 := blk_frozen BK223.out 0
     have y21_1 := blk_frozen BK223.out 1
     have y21_2 := blk_frozen BK223.out 2
     have y21_3 := blk_frozen BK223.out 3
     have y21_4 := blk_frozen BK223.out 4
     have y21_5 := blk_frozen BK223.out 5
     have y21_6 := blk_frozen BK223.out 6
     have y21_7 := blk_frozen BK223.out 7
     have y21_8 := blk_frozen BK223.out 8
     have y21_9 := blk_frozen BK223.out 9
     have y21_10 := blk_frozen BK223.out 10
     go_wp2
     go_meet
     case rel => exact ⟨_, (true), (by first | rfl | (simp; done) | (simp [*]; done)), H', ⟨by first | omega | exact Nat.le_refl _⟩, ⟨by (with_reducible repeat (first | apply Kd.R_alloc | apply Kd.R_drewN | apply Kd.R_drew)); exact Kd.R_mono (Kd.R_far (p := ⟨gb224, 1, none⟩) (Kd.R_far (p := ⟨gb224, 0, none⟩) (Kd.R_far (p := ⟨gb223, 10, none⟩) (Kd.R_far (p := ⟨gb223, 9, none⟩) (Kd.R_far (p := ⟨gb223, 8, none⟩) (Kd.R_far (p := ⟨gb223, 7, none⟩) (Kd.R_far (p := ⟨gb223, 6, none⟩) (Kd.R_far (p := ⟨gb223, 5, none⟩) (Kd.R_far (p := ⟨gb223, 4, none⟩) (Kd.R_far (p := ⟨gb223, 3, none⟩) (Kd.R_far (p := ⟨gb223, 2, none⟩) (Kd.R_far (p := ⟨gb223, 1, none⟩) (Kd.R_far (p := ⟨gb223, 0, none⟩) (Kd.R_types (Kd.R_types HO211.out BK223.out (by decide)) BK224.out (by decide)) (fun _ hk => hk.1.2) (.int .u8 t206)) (fun _ hk => hk.1.2) (.int .u8 t207)) (fun _ hk => hk.1.2) (.int .u32 t208)) (fun _ hk => hk.1.2) (.slice Ao12 t209.length co12)) (fun _ hk => hk.1.2) (.int .i64 t212)) (fun _ hk => hk.1.2) (.int .u32 t213)) (fun _ hk => hk.1.2) (.int .u32 t214)) (fun _ hk => hk.1.2) (.int .u8 t215)) (fun _ hk => hk.1.2) (.bool t216)) (fun _ hk => hk.1.2) (.int .u32 t217)) (fun _ hk => hk.1.2) (.slice Ao13 t218.length co13)) (fun _ hk => hk.2) (.int .u8 t221)) (fun _ hk => hk.2) (.int .u32 t222)) (fun _ hk => trivial)⟩, ⟨by (with_reducible repeat (first | apply Kd.R_alloc | apply Kd.R_drewN | apply Kd.R_drew)); exact Kd.R_mono (Kd.R_far (p := ⟨gb224, 1, none⟩) (Kd.R_far (p := ⟨gb224, 0, none⟩) (Kd.R_far (p := ⟨gb223, 10, none⟩) (Kd.R_far (p := ⟨gb223, 9, none⟩) (Kd.R_far (p := ⟨gb223, 8, none⟩) (Kd.R_far (p := ⟨gb223, 7, none⟩) (Kd.R_far (p := ⟨gb223, 6, none⟩) (Kd.R_far (p := ⟨gb223, 5, none⟩) (Kd.R_far (p := ⟨gb223, 4, none⟩) (Kd.R_far (p := ⟨gb223, 3, none⟩) (Kd.R_far (p := ⟨gb223, 2, none⟩) (Kd.R_far (p := ⟨gb223, 1, none⟩) (Kd.R_far (p := ⟨gb223, 0, none⟩) (Kd.R_types (Kd.R_types HO220.out BK223.out (by decide)) BK224.out (by decide)) (fun _ hk => hk.1.2) (.int .u8 t206)) (fun _ hk => hk.1.2) (.int .u8 t207)) (fun _ hk => hk.1.2) (.int .u32 t208)) (fun _ hk => hk.1.2) (.slice Ao12 t209.length co12)) (fun _ hk => hk.1.2) (.int .i64 t212)) (fun _ hk => hk.1.2) (.int .u32 t213)) (fun _ hk => hk.1.2) (.int .u32 t214)) (fun _ hk => hk.1.2) (.int .u8 t215)) (fun _ hk => hk.1.2) (.bool t216)) (fun _ hk => hk.1.2) (.int .u32 t217)) (fun _ hk => hk.1.2) (.slice Ao13 t218.length co13)) (fun _ hk => hk.2) (.int .u8 t221)) (fun _ hk => hk.2) (.int .u32 t222)) (fun _ hk => trivial)⟩, ⟨by (with_reducible repeat (first | refine blk_drewN ?_ _ | refine blk_drew ?_ | refine blk_alloc ?_ _)); refine blk_far ?_ NB223_224.out _; (with_reducible repeat (first | refine blk_drewN ?_ _ | refine blk_drew ?_ | refine blk_alloc ?_ _)); refine blk_far ?_ NB223_224.out _; (with_reducible repeat (first | refine blk_drewN ?_ _ | refine blk_drew ?_ | refine blk_alloc ?_ _)); refine blk_put (cs := #[.int .u8 t206, .int .u8 t207, .int .u32 t208, .slice Ao12 t209.length co12, .int .i64 t212, .int .u32 t213, .int .u32 t214, .int .u8 t215, .bool t216, .int .u32 t217, .slice none 0 0]) ?_ 10 _ rfl; (with_reducible repeat (first | refine blk_drewN ?_ _ | refine blk_drew ?_ | refine blk_alloc ?_ _)); refine blk_put (cs := #[.int .u8 t206, .int .u8 t207, .int .u32 t208, .slice Ao12 t209.length co12, .int .i64 t212, .int .u32 t213, .int .u32 t214, .int .u8 t215, .bool t216, .int .u32 0, .slice none 0 0]) ?_ 9 _ rfl; (with_reducible repeat (first | refine blk_drewN ?_ _ | refine blk_drew ?_ | refine blk_alloc ?_ _)); refine blk_put (cs := #[.int .u8 t206, .int .u8 t207, .int .u32 t208, .slice Ao12 t209.length co12, .int .i64 t212, .int .u32 t213, .int .u32 t214, .int .u8 t215, .bool false, .int .u32 0, .slice none 0 0]) ?_ 8 _ rfl; (with_reducible repeat (first | refine blk_drewN ?_ _ | refine blk_drew ?_ | refine blk_alloc ?_ _)); refine blk_put (cs := #[.int .u8 t206, .int .u8 t207, .int .u32 t208, .slice Ao12 t209.length co12, .int .i64 t212, .int .u32 t213, .int .u32 t214, .int .u8 0, .bool false, .int .u32 0, .slice none 0 0]) ?_ 7 _ rfl; (with_reducible repeat (first | refine blk_drewN ?_ _ | refine blk_drew ?_ | refine blk_alloc ?_ _)); refine blk_put (cs := #[.int .u8 t206, .int .u8 t207, .int .u32 t208, .slice Ao12 t209.length co12, .int .i64 t212, .int .u32 t213, .int .u32 0, .int .u8 0, .bool false, .int .u32 0, .slice none 0 0]) ?_ 6 _ rfl; (with_reducible repeat (first | refine blk_drewN ?_ _ | refine blk_drew ?_ | refine blk_alloc ?_ _)); refine blk_put (cs := #[.int .u8 t206, .int .u8 t207, .int .u32 t208, .slice Ao12 t209.length co12, .int .i64 t212, .int .u32 0, .int .u32 0, .int .u8 0, .bool false, .int .u32 0, .slice none 0 0]) ?_ 5 _ rfl; (with_reducible repeat (first | refine blk_drewN ?_ _ | refine blk_drew ?_ | refine blk_alloc ?_ _)); refine blk_put (cs := #[.int .u8 t206, .int .u8 t207, .int .u32 t208, .slice Ao12 t209.length co12, .int .i64 0, .int .u32 0, .int .u32 0, .int .u8 0, .bool false, .int .u32 0, .slice none 0 0]) ?_ 4 _ rfl; (with_reducible repeat (first | refine blk_drewN ?_ _ | refine blk_drew ?_ | refine blk_alloc ?_ _)); refine blk_put (cs := #[.int .u8 t206, .int .u8 t207, .int .u32 t208, .slice none 0 0, .int .i64 0, .int .u32 0, .int .u32 0, .int .u8 0, .bool false, .int .u32 0, .slice none 0 0]) ?_ 3 _ rfl; (with_reducible repeat (first | refine blk_drewN ?_ _ | refine blk_drew ?_ | refine blk_alloc ?_ _)); refine blk_put (cs := #[.int .u8 t206, .int .u8 t207, .int .u32 0, .slice none 0 0, .int .i64 0, .int .u32 0, .int .u32 0, .int .u8 0, .bool false, .int .u32 0, .slice none 0 0]) ?_ 2 _ rfl; (with_reducible repeat (first | refine blk_drewN ?_ _ | refine blk_drew ?_ | refine blk_alloc ?_ _)); refine blk_put (cs := #[.int .u8 t206, .int .u8 0, .int .u32 0, .slice none 0 0, .int .i64 0, .int .u32 0, .int .u32 0, .int .u8 0, .bool false, .int .u32 0, .slice none 0 0]) ?_ 1 _ rfl; (with_reducible repeat (first | refine blk_drewN ?_ _ | refine blk_drew ?_ | refine blk_alloc ?_ _)); refine blk_put (cs := #[.int .u8 0, .int .u8 0, .int .u32 0, .slice none 0 0, .int .i64 0, .int .u32 0, .int .u32 0, .int .u8 0, .bool false, .int .u32 0, .slice none 0 0]) ?_ 0 _ rfl; (with_reducible repeat (first | refine blk_drewN ?_ _ | refine blk_drew ?_ | refine blk_alloc ?_ _)); exact BK223.out⟩, ⟨by (with_reducible repeat (first | refine blk_drewN ?_ _ | refine blk_drew ?_ | refine blk_alloc ?_ _)); refine blk_put (cs := #[.int .u8 t221, .int .u32 0]) ?_ 1 _ rfl; (with_reducible repeat (first | refine blk_drewN ?_ _ | refine blk_drew ?_ | refine blk_alloc ?_ _)); refine blk_put (cs := #[.int .u8 0, .int .u32 0]) ?_ 0 _ rfl; (with_reducible repeat (first | refine blk_drewN ?_ _ | refine blk_drew ?_ | refine blk_alloc ?_ _)); refine blk_far ?_ NB224_223.out _; (with_reducible repeat (first | refine blk_drewN ?_ _ | refine blk_drew ?_ | refine blk_alloc ?_ _)); refine blk_far ?_ NB224_223.out _; (with_reducible repeat (first | refine blk_drewN ?_ _ | refine blk_drew ?_ | refine blk_alloc ?_ _)); refine blk_far ?_ NB224_223.out _; (with_reducible repeat (first | refine blk_drewN ?_ _ | refine blk_drew ?_ | refine blk_alloc ?_ _)); refine blk_far ?_ NB224_223.out _; (with_reducible repeat (first | refine blk_drewN ?_ _ | refine blk_drew ?_ | refine blk_alloc ?_ _)); refine blk_far ?_ NB224_223.out _; (with_reducible repeat (first | refine blk_drewN ?_ _ | refine blk_drew ?_ | refine blk_alloc ?_ _)); refine blk_far ?_ NB224_223.out _; (with_reducible repeat (first | refine blk_drewN ?_ _ | refine blk_drew ?_ | refine blk_alloc ?_ _)); refine blk_far ?_ NB224_223.out _; (with_reducible repeat (first | refine blk_drewN ?_ _ | refine blk_drew ?_ | refine blk_alloc ?_ _)); refine blk_far ?_ NB224_223.out _; (with_reducible repeat (first | refine blk_drewN ?_ _ | refine blk_drew ?_ | refine blk_alloc ?_ _)); refine blk_far ?_ NB224_223.out _; (with_reducible repeat (first | refine blk_drewN ?_ _ | refine blk_drew ?_ | refine blk_alloc ?_ _)); refine blk_far ?_ NB224_223.out _; (with_reducible repeat (first | refine blk_drewN ?_ _ | refine blk_drew ?_ | refine blk_alloc ?_ _)); refine blk_far ?_ NB224_223.out _; (with_reducible repeat (first | refine blk_drewN ?_ _ | refine blk_drew ?_ | refine blk_alloc ?_ _)); exact BK224.out⟩, ⟨by repeat (first | (with_reducible first | exact HB.out | apply below_alloc | apply pw_below_drewN | apply below_drew1 | refine below_set ?_ GE223.out | refine below_set ?_ GE224.out) | exact HB.out)⟩⟩
    ·rw [if_neg c18] at H
     have c18b0 : decide (0 < t212) = false := decide_eq_false c18
     clear c18
     by_cases c22 : 5 < (l0.length : Int)
     ·rw [if_pos c22] at H
      have c22b0 : decide (5 < (l0.length : Int)) = true := decide_eq_true c22
      have c22b1 : decide (5 < l0.length) = true := decide_eq_true (by omega)
      clear c22
      have H' := Aside0.mk H
      clear H
      have hnb23 := NB224_223.out
      have hnc23 := NB223_224.out
      have z24_0 : w9.cell? ⟨gb224, 0, none⟩ = some (.int .u8 0) := (blk_cell BK224.out 0).trans rfl
      have z24_1 : w9.cell? ⟨gb224, 1, none⟩ = some (.int .u32 0) := (blk_cell BK224.out 1).trans rfl
      have y24_0 := blk_frozen BK224.out 0
      have y24_1 := blk_frozen BK224.out 1
      have z25_0 : w9.cell? ⟨gb223, 0, none⟩ = some (.int .u8 0) := (blk_cell BK223.out 0).trans rfl
      have z25_1 : w9.cell? ⟨gb223, 1, none⟩ = some (.int .u8 0) := (blk_cell BK223.out 1).trans rfl
      have z25_2 : w9.cell? ⟨gb223, 2, none⟩ = some (.int .u32 0) := (blk_cell BK223.out 2).trans rfl
      have z25_3 : w9.cell? ⟨gb223, 3, none⟩ = some (.slice none 0 0) := (blk_cell BK223.out 3).trans rfl
      have z25_4 : w9.cell? ⟨gb223, 4, none⟩ = some (.int .i64 0) := (blk_cell BK223.out 4).trans rfl
      have z25_5 : w9.cell? ⟨gb223, 5, none⟩ = some (.int .u32 0) := (blk_cell BK223.out 5).trans rfl
      have z25_6 : w9.cell? ⟨gb223, 6, none⟩ = some (.int .u32 0) := (blk_cell BK223.out 6).trans rfl
      have z25_7 : w9.cell? ⟨gb223, 7, none⟩ = some (.int .u8 0) := (blk_cell BK223.out 7).trans rfl
      have z25_8 : w9.cell? ⟨gb223, 8, none⟩ = some (.bool false) := (blk_cell BK223.out 8).trans rfl
      have z25_9 : w9.cell? ⟨gb223, 9, none⟩ = some (.int .u32 0) := (blk_cell BK223.out 9).trans rfl
      have z25_10 : w9.cell? ⟨gb223, 10, none⟩ = some (.slice none 0 0) := (blk_cell BK223.out 10).trans rfl
      have y25_0 := blk_frozen BK223.out 0
      have y25_1 := blk_frozen BK223.out 1
      have y25_2 := blk_frozen BK223.out 2
      have y25_3 := blk_frozen BK223.out 3
      have y25_4 := blk_frozen BK223.out 4
      have y25_5 := blk_frozen BK223.out 5
      have y25_6 := blk_frozen BK223.out 6
      have y25_7 := blk_frozen BK223.out 7
      have y25_8 := blk_frozen BK223.out 8
      have y25_9 := blk_frozen BK223.out 9
      have y25_10 := blk_frozen BK223.out 10
      have p225 : 0 ≤ (5 : Int) := (by omega)
      have q225 : 5 < (l0.length : Int) := of_decide_eq_true (by first | (with_reducible assumption) | assumption)
      obtain ⟨ad225, e225, hx225_0⟩ := Kd.at_int HR0.out 5 p225 q225
      cases e225
      (try simp only [show (5 : Int).toNat = 5 from rfl, Nat.reduceMul, Nat.reduceEqDiff, Go.Addr.add, ↓reduceIte] at hx225_0)
      have qi225 : (5 < l0.length) = True := eq_true (by omega)
      (try rw [show ((5 : Int)).toNat = 5 from rfl] at hx225_0)
      have hn225_0 : ad225.block ≠ gb223 := Nat.ne_of_lt (Nat.lt_of_lt_of_le (by have := World.block_lt_of_cell? _ _ hx225_0; first | rwa [add_block] at this | exact this) GW223.out)
      have hn225_1 : ad225.block ≠ gb223 := Nat.ne_of_lt (Nat.lt_of_lt_of_le (by have := World.block_lt_of_cell? _ _ hx225_0; first | rwa [add_block] at this | exact this) GW223.out)
      have hn225_2 : ad225.block ≠ gb223 := Nat.ne_of_lt (Nat.lt_of_lt_of_le (by have := World.block_lt_of_cell? _ _ hx225_0; first | rwa [add_block] at this | exact this) GW223.out)
      have hn225_3 : ad225.block ≠ gb223 := Nat.ne_of_lt (Nat.lt_of_lt_of_le (by have := World.block_lt_of_cell? _ _ hx225_0; first | rwa [add_block] at this | exact this) GW223.out)
      have hn225_4 : ad225.block ≠ gb223 := Nat.ne_of_lt (Nat.lt_of_lt_of_le (by have := World.block_lt_of_cell? _ _ hx225_0; first | rwa [add_block] at this | exact this) GW223.out)
      have hn225_5 : ad225.block ≠ gb223 := Nat.ne_of_lt (Nat.lt_of_lt_of_le (by have := World.block_lt_of_cell? _ _ hx225_0; first | rwa [add_block] at this | exact this) GW223.out)
      have hn225_6 : ad225.block ≠ gb223 := Nat.ne_of_lt (Nat.lt_of_lt_of_le (by have := World.block_lt_of_cell? _ _ hx225_0; first | rwa [add_block] at this | exact this) GW223.out)
      have hn225_7 : ad225.block ≠ gb223 := Nat.ne_of_lt (Nat.lt_of_lt_of_le (by have := World.block_lt_of_cell? _ _ hx225_0; first | rwa [add_block] at this | exact this) GW223.out)
      have hn225_8 : ad225.block ≠ gb223 := Nat.ne_of_lt (Nat.lt_of_lt_of_le (by have := World.block_lt_of_cell? _ _ hx225_0; first | rwa [add_block] at this | exact this) GW223.out)
      have hn225_9 : ad225.block ≠ gb223 := Nat.ne_of_lt (Nat.lt_of_lt_of_le (by have := World.block_lt_of_cell? _ _ hx225_0; first | rwa [add_block] at this | exact this) GW223.out)
      have hn225_10 : ad225.block ≠ gb223 := Nat.ne_of_lt (Nat.lt_of_lt_of_le (by have := World.block_lt_of_cell? _ _ hx225_0; first | rwa [add_block] at this | exact this) GW223.out)
      have hn225_11 : ad225.block ≠ gb224 := Nat.ne_of_lt (Nat.lt_of_lt_of_le (by have := World.block_lt_of_cell? _ _ hx225_0; first | rwa [add_block] at this | exact this) GW224.out)
      have hn225_12 : ad225.block ≠ gb224 := Nat.ne_of_lt (Nat.lt_of_lt_of_le (by have := World.block_lt_of_cell? _ _ hx225_0; first | rwa [add_block] at this | exact this) GW224.out)
      replace hx225_0 := (HB.out.cell (World.block_lt_of_cell? w _ hx225_0)).trans hx225_0
      replace hx225_0 := (cell_far (p := ⟨gb223, 0, none⟩) (by first | (rw [add_block]; exact hn225_0) | (show (Addr.add _ _).block ≠ _; rw [add_block]; exact hn225_0) | exact hn225_0) (.int .u8 t206)).trans hx225_0
      replace hx225_0 := (cell_far (p := ⟨gb223, 1, none⟩) (by first | (rw [add_block]; exact hn225_1) | (show (Addr.add _ _).block ≠ _; rw [add_block]; exact hn225_1) | exact hn225_1) (.int .u8 t207)).trans hx225_0
      replace hx225_0 := (cell_far (p := ⟨gb223, 2, none⟩) (by first | (rw [add_block]; exact hn225_2) | (show (Addr.add _ _).block ≠ _; rw [add_block]; exact hn225_2) | exact hn225_2) (.int .u32 t208)).trans hx225_0
      replace hx225_0 := (cell_far (p := ⟨gb223, 3, none⟩) (by first | (rw [add_block]; exact hn225_3) | (show (Addr.add _ _).block ≠ _; rw [add_block]; exact hn225_3) | exact hn225_3) (.slice Ao12 t209.length co12)).trans hx225_0
      replace hx225_0 := (cell_far (p := ⟨gb223, 4, none⟩) (by first | (rw [add_block]; exact hn225_4) | (show (Addr.add _ _).block ≠ _; rw [add_block]; exact hn225_4) | exact hn225_4) (.int .i64 t212)).trans hx225_0
      replace hx225_0 := (cell_far (p := ⟨gb223, 5, none⟩) (by first | (rw [add_block]; exact hn225_5) | (show (Addr.add _ _).block ≠ _; rw [add_block]; exact hn225_5) | exact hn225_5) (.int .u32 t213)).trans hx225_0
      replace hx225_0 := (cell_far (p := ⟨gb223, 6, none⟩) (by first | (rw [add_block]; exact hn225_6) | (show (Addr.add _ _).block ≠ _; rw [add_block]; exact hn225_6) | exact hn225_6) (.int .u32 t214)).trans hx225_0
      replace hx225_0 := (cell_far (p := ⟨gb223, 7, none⟩) (by first | (rw [add_block]; exact hn225_7) | (show (Addr.add _ _).block ≠ _; rw [add_block]; exact hn225_7) | exact hn225_7) (.int .u8 t215)).trans hx225_0
      replace hx225_0 := (cell_far (p := ⟨gb223, 8, none⟩) (by first | (rw [add_block]; exact hn225_8) | (show (Addr.add _ _).block ≠ _; rw [add_block]; exact hn225_8) | exact hn225_8) (.bool t216)).trans hx225_0
      replace hx225_0 := (cell_far (p := ⟨gb223, 9, none⟩) (by first | (rw [add_block]; exact hn225_9) | (show (Addr.add _ _).block ≠ _; rw [add_block]; exact hn225_9) | exact hn225_9) (.int .u32 t217)).trans hx225_0
      replace hx225_0 := (cell_far (p := ⟨gb223, 10, none⟩) (by first | (rw [add_block]; exact hn225_10) | (show (Addr.add _ _).block ≠ _; rw [add_block]; exact hn225_10) | exact hn225_10) (.slice Ao13 t218.length co13)).trans hx225_0
      replace hx225_0 := (cell_far (p := ⟨gb224, 0, none⟩) (by first | (rw [add_block]; exact hn225_11) | (show (Addr.add _ _).block ≠ _; rw [add_block]; exact hn225_11) | exact hn225_11) (.int .u8 t221)).trans hx225_0
      replace hx225_0 := (cell_far (p := ⟨gb224, 1, none⟩) (by first | (rw [add_block]; exact hn225_12) | (show (Addr.add _ _).block ≠ _; rw [add_block]; exact hn225_12) | exact hn225_12) (.int .u32 t222)).trans hx225_0
      clear hn225_0
      clear hn225_1
      clear hn225_2
      clear hn225_3
      clear hn225_4
      clear hn225_5
      clear hn225_6
      clear hn225_7
      clear hn225_8
      clear hn225_9
      clear hn225_10
      clear hn225_11
      clear hn225_12
      replace p225 := eq_true p225
      replace q225 := eq_true q225
      go_wp2
      go_meet
      case rel => exact ⟨_, (decide ((rd l0 5) > 127)), (by first | rfl | (simp; done) | (simp [*]; done)), H', ⟨by first | omega | exact Nat.le_refl _⟩, ⟨by (with_reducible repeat (first | apply Kd.R_alloc | apply Kd.R_drewN | apply Kd.R_drew)); exact Kd.R_mono (Kd.R_far (p := ⟨gb224, 1, none⟩) (Kd.R_far (p := ⟨gb224, 0, none⟩) (Kd.R_far (p := ⟨gb223, 10, none⟩) (Kd.R_far (p := ⟨gb223, 9, none⟩) (Kd.R_far (p := ⟨gb223, 8, none⟩) (Kd.R_far (p := ⟨gb223, 7, none⟩) (Kd.R_far (p := ⟨gb223, 6, none⟩) (Kd.R_far (p := ⟨gb223, 5, none⟩) (Kd.R_far (p := ⟨gb223, 4, none⟩) (Kd.R_far (p := ⟨gb223, 3, none⟩) (Kd.R_far (p := ⟨gb223, 2, none⟩) (Kd.R_far (p := ⟨gb223, 1, none⟩) (Kd.R_far (p := ⟨gb223, 0, none⟩) (Kd.R_types (Kd.R_types HO211.out BK223.out (by decide)) BK224.out (by decide)) (fun _ hk => hk.1.2) (.int .u8 t206)) (fun _ hk => hk.1.2) (.int .u8 t207)) (fun _ hk => hk.1.2) (.int .u32 t208)) (fun _ hk => hk.1.2) (.slice Ao12 t209.length co12)) (fun _ hk => hk.1.2) (.int .i64 t212)) (fun _ hk => hk.1.2) (.int .u32 t213)) (fun _ hk => hk.1.2) (.int .u32 t214)) (fun _ hk => hk.1.2) (.int .u8 t215)) (fun _ hk => hk.1.2) (.bool t216)) (fun _ hk => hk.1.2) (.int .u32 t217)) (fun _ hk => hk.1.2) (.slice Ao13 t218.length co13)) (fun _ hk => hk.2) (.int .u8 t221)) (fun _ hk => hk.2) (.int .u32 t222)) (fun _ hk => trivial)⟩, ⟨by (with_reducible repeat (first | apply Kd.R_alloc | apply Kd.R_drewN | apply Kd.R_drew)); exact Kd.R_mono (Kd.R_far (p := ⟨gb224, 1, none⟩) (Kd.R_far (p := ⟨gb224, 0, none⟩) (Kd.R_far (p := ⟨gb223, 10, none⟩) (Kd.R_far (p := ⟨gb223, 9, none⟩) (Kd.R_far (p := ⟨gb223, 8, none⟩) (Kd.R_far (p := ⟨gb223, 7, none⟩) (Kd.R_far (p := ⟨gb223, 6, none⟩) (Kd.R_far (p := ⟨gb223, 5, none⟩) (Kd.R_far (p := ⟨gb223, 4, none⟩) (Kd.R_far (p := ⟨gb223, 3, none⟩) (Kd.R_far (p := ⟨gb223, 2, none⟩) (Kd.R_far (p := ⟨gb223, 1, none⟩) (Kd.R_far (p := ⟨gb223, 0, none⟩) (Kd.R_types (Kd.R_types HO220.out BK223.out (by decide)) BK224.out (by decide)) (fun _ hk => hk.1.2) (.int .u8 t206)) (fun _ hk => hk.1.2) (.int .u8 t207)) (fun _ hk => hk.1.2) (.int .u32 t208)) (fun _ hk => hk.1.2) (.slice Ao12 t209.length co12)) (fun _ hk => hk.1.2) (.int .i64 t212)) (fun _ hk => hk.1.2) (.int .u32 t213)) (fun _ hk => hk.1.2) (.int .u32 t214)) (fun _ hk => hk.1.2) (.int .u8 t215)) (fun _ hk => hk.1.2) (.bool t216)) (fun _ hk => hk.1.2) (.int .u32 t217)) (fun _ hk => hk.1.2) (.slice Ao13 t218.length co13)) (fun _ hk => hk.2) (.int .u8 t221)) (fun _ hk => hk.2) (.int .u32 t222)) (fun _ hk => trivial)⟩, ⟨by (with_reducible repeat (first | refine blk_drewN ?_ _ | refine blk_drew ?_ | refine blk_alloc ?_ _)); refine blk_far ?_ NB223_224.out _; (with_reducible repeat (first | refine blk_drewN ?_ _ | refine blk_drew ?_ | refine blk_alloc ?_ _)); refine blk_far ?_ NB223_224.out _; (with_reducible repeat (first | refine blk_drewN ?_ _ | refine blk_drew ?_ | refine blk_alloc ?_ _)); refine blk_put (cs := #[.int .u8 t206, .int .u8 t207, .int .u32 t208, .slice Ao12 t209.length co12, .int .i64 t212, .int .u32 t213, .int .u32 t214, .int .u8 t215, .bool t216, .int .u32 t217, .slice none 0 0]) ?_ 10 _ rfl; (with_reducible repeat (first | refine blk_drewN ?_ _ | refine blk_drew ?_ | refine blk_alloc ?_ _)); refine blk_put (cs := #[.int .u8 t206, .int .u8 t207, .int .u32 t208, .slice Ao12 t209.length co12, .int .i64 t212, .int .u32 t213, .int .u32 t214, .int .u8 t215, .bool t216, .int .u32 0, .slice none 0 0]) ?_ 9 _ rfl; (with_reducible repeat (first | refine blk_drewN ?_ _ | refine blk_drew ?_ | refine blk_alloc ?_ _)); refine blk_put (cs := #[.int .u8 t206, .int .u8 t207, .int .u32 t208, .slice Ao12 t209.length co12, .int .i64 t212, .int .u32 t213, .int .u32 t214, .int .u8 t215, .bool false, .int .u32 0, .slice none 0 0]) ?_ 8 _ rfl; (with_reducible repeat (first | refine blk_drewN ?_ _ | refine blk_drew ?_ | refine blk_alloc ?_ _)); refine blk_put (cs := #[.int .u8 t206, .int .u8 t207, .int .u32 t208, .slice Ao12 t209.length co12, .int .i64 t212, .int .u32 t213, .int .u32 t214, .int .u8 0, .bool false, .int .u32 0, .slice none 0 0]) ?_ 7 _ rfl; (with_reducible repeat (first | refine blk_drewN ?_ _ | refine blk_drew ?_ | refine blk_alloc ?_ _)); refine blk_put (cs := #[.int .u8 t206, .int .u8 t207, .int .u32 t208, .slice Ao12 t209.length co12, .int .i64 t212, .int .u32 t213, .int .u32 0, .int .u8 0, .bool false, .int .u32 0, .slice none 0 0]) ?_ 6 _ rfl; (with_reducible repeat (first | refine blk_drewN ?_ _ | refine blk_drew ?_ | refine blk_alloc ?_ _)); refine blk_put (cs := #[.int .u8 t206, .int .u8 t207, .int .u32 t208, .slice Ao12 t209.length co12, .int .i64 t212, .int .u32 0, .int .u32 0, .int .u8 0, .bool false, .int .u32 0, .slice none 0 0]) ?_ 5 _ rfl; (with_reducible repeat (first | refine blk_drewN ?_ _ | refine blk_drew ?_ | refine blk_alloc ?_ _)); refine blk_put (cs := #[.int .u8 t206, .int .u8 t207, .int .u32 t208, .slice Ao12 t209.length co12, .int .i64 0, .int .u32 0, .int .u32 0, .int .u8 0, .bool false, .int .u32 0, .slice none 0 0]) ?_ 4 _ rfl; (with_reducible repeat (first | refine blk_drewN ?_ _ | refine blk_drew ?_ | refine blk_alloc ?_ _)); refine blk_put (cs := #[.int .u8 t206, .int .u8 t207, .int .u32 t208, .slice none 0 0, .int .i64 0, .int .u32 0, .int .u32 0, .int .u8 0, .bool false, .int .u32 0, .slice none 0 0]) ?_ 3 _ rfl; (with_reducible repeat (first | refine blk_drewN ?_ _ | refine blk_drew ?_ | refine blk_alloc ?_ _)); refine blk_put (cs := #[.int .u8 t206, .int .u8 t207, .int .u32 0, .slice none 0 0, .int .i64 0, .int .u32 0, .int .u32 0, .int .u8 0, .bool false, .int .u32 0, .slice none 0 0]) ?_ 2 _ rfl; (with_reducible repeat (first | refine blk_drewN ?_ _ | refine blk_drew ?_ | refine blk_alloc ?_ _)); refine blk_put (cs := #[.int .u8 t206, .int .u8 0, .int .u32 0, .slice none 0 0, .int .i64 0, .int .u32 0, .int .u32 0, .int .u8 0, .bool false, .int .u32 0, .slice none 0 0]) ?_ 1 _ rfl; (with_reducible repeat (first | refine blk_drewN ?_ _ | refine blk_drew ?_ | refine blk_alloc ?_ _)); refine blk_put (cs := #[.int .u8 0, .int .u8 0, .int .u32 0, .slice none 0 0, .int .i64 0, .int .u32 0, .int .u32 0, .int .u8 0, .bool false, .int .u32 0, .slice none 0 0]) ?_ 0 _ rfl; (with_reducible repeat (first | refine blk_drewN ?_ _ | refine blk_drew ?_ | refine blk_alloc ?_ _)); exact BK223.out⟩, ⟨by (with_reducible repeat (first | refine blk_drewN ?_ _ | refine blk_drew ?_ | refine blk_alloc ?_ _)); refine blk_put (cs := #[.int .u8 t221, .int .u32 0]) ?_ 1 _ rfl; (with_reducible repeat (first | refine blk_drewN ?_ _ | refine blk_drew ?_ | refine blk_alloc ?_ _)); refine blk_put (cs := #[.int .u8 0, .int .u32 0]) ?_ 0 _ rfl; (with_reducible repeat (first | refine blk_drewN ?_ _ | refine blk_drew ?_ | refine blk_alloc ?_ _)); refine blk_far ?_ NB224_223.out _; (with_reducible repeat (first | refine blk_drewN ?_ _ | refine blk_drew ?_ | refine blk_alloc ?_ _)); refine blk_far ?_ NB224_223.out _; (with_reducible repeat (first | refine blk_drewN ?_ _ | refine blk_drew ?_ | refine blk_alloc ?_ _)); refine blk_far ?_ NB224_223.out _; (with_reducible repeat (first | refine blk_drewN ?_ _ | refine blk_drew ?_ | refine blk_alloc ?_ _)); refine blk_far ?_ NB224_223.out _; (with_reducible repeat (first | refine blk_drewN ?_ _ | refine blk_drew ?_ | refine blk_alloc ?_ _)); refine blk_far ?_ NB224_223.out _; (with_reducible repeat (first | refine blk_drewN ?_ _ | refine blk_drew ?_ | refine blk_alloc ?_ _)); refine blk_far ?_ NB224_223.out _; (with_reducible repeat (first | refine blk_drewN ?_ _ | refine blk_drew ?_ | refine blk_alloc ?_ _)); refine blk_far ?_ NB224_223.out _; (with_reducible repeat (first | refine blk_drewN ?_ _ | refine blk_drew ?_ | refine blk_alloc ?_ _)); refine blk_far ?_ NB224_223.out _; (with_reducible repeat (first | refine blk_drewN ?_ _ | refine blk_drew ?_ | refine blk_alloc ?_ _)); refine blk_far ?_ NB224_223.out _; (with_reducible repeat (first | refine blk_drewN ?_ _ | refine blk_drew ?_ | refine blk_alloc ?_ _)); refine blk_far ?_ NB224_223.out _; (with_reducible repeat (first | refine blk_drewN ?_ _ | refine blk_drew ?_ | refine blk_alloc ?_ _)); refine blk_far ?_ NB224_223.out _; (with_reducible repeat (first | refine blk_drewN ?_ _ | refine blk_drew ?_ | refine blk_alloc ?_ _)); exact BK224.out⟩, ⟨by repeat (first | (with_reducible first | exact HB.out | apply below_alloc | apply pw_below_drewN | apply below_drew1 | refine below_set ?_ GE223.out | refine below_set ?_ GE224.out) | exact HB.out)⟩⟩
     ·rw [if_neg c22] at H
      exact absurd H (by simp)
  case rest =>
   clear HC6
   try clear c1
   try clear c2
   try clear c2b0
   try clear c2b1
   try clear p2
   try clear q2
   try clear hx2
   try clear qi2
   try clear c7
   try clear c10
   try clear c15
   try clear c15b0
   try clear c16
   try clear c18
   try clear c18b0
   try clear c19
   try clear c20
   try clear c22
   try clear c22b0
   try clear c22b1
   try clear p22
   try clear q22
   try clear hx22
   try clear qi22
   try clear c23
   try clear z11_0 z11_1 z11_10 z11_2 z11_3 z11_4 z11_5 z11_6 z11_7 z11_8 z11_9 z14_0 z14_1 z17_0 z17_1 z20_0 z20_1 z21_0 z21_1 z21_10 z21_2 z21_3 z21_4 z21_5 z21_6 z21_7 z21_8 z21_9 z24_0 z24_1 z25_0 z25_1 z25_10 z25_2 z25_3 z25_4 z25_5 z25_6 z25_7 z25_8 z25_9 y11_0 y11_1 y11_10 y11_2 y11_3 y11_4 y11_5 y11_6 y11_7 y11_8 y11_9 y14_0 y14_1 y17_0 y17_1 y20_0 y20_1 y21_0 y21_1 y21_10 y21_2 y21_3 y21_4 y21_5 y21_6 y21_7 y21_8 y21_9 y24_0 y24_1 y25_0 y25_1 y25_10 y25_2 y25_3 y25_4 y25_5 y25_6 y25_7 y25_8 y25_9
   try clear hx225_0
   try clear p225
   try clear q225
   obtain ⟨kq, x28_5, rfl, HA, HJ5, HO_224003, HO_224010, BK223, BK224, HB⟩ := hcut
   cases kq with
   | zero => exact absurd HA.out (by simp [louverlaw07_FrameBack.j0])
   | succ kj5 =>
    have H := HA.out
    clear HA
    simp only [louverlaw07_FrameBack.j0] at H
    by_cases c26 : x28_5 = true
    ·subst c26
     have H1 : ((louverlaw07_fixed.f kj5).bind fun t226 => (some t226)) = some r := by rw [if_pos rfl] at H; exact H
     clear H
     have H := H1
     clear H1
     replace H := Option.bind_eq_some_iff.mp H
     obtain ⟨t226, A270, H⟩ := H
     replace H : (some t226) = some r := H
     have A27 := Aside0.mk A270
     clear A270
     obtain rfl := Option.some.inj H
     go_wp2_with (first | ((with_reducible refine gate_callee (f := 20) rfl ?_); refine goesL_ (some 29) rfl rfl Tryd.func20 (by kernel_rfl) rfl #[] rfl (by (try simp only [List.map_toArray, List.map_cons, List.map_nil]); first | done | rfl | (simp only [List.length_drop, List.length_take]; rfl)) ?_; (with_reducible refine (louverlaw07_fixed.calls kj5  t226 _ A27.out).mono ?_); rintro e w28 ⟨rfl, hb⟩; refine ⟨_, rfl, ?_⟩; have n0_ := Aside0.mk (Kd.R_below (by (with_reducible repeat (first | apply Kd.R_alloc | apply Kd.R_drewN | apply Kd.R_drew)); exact HO_224003.out) hb); have n1_ := Aside0.mk (Kd.R_below (by (with_reducible repeat (first | apply Kd.R_alloc | apply Kd.R_drewN | apply Kd.R_drew)); exact HO_224010.out) hb); have n2_ := Aside0.mk (blk_below (g := gb223) (o := .cells #[.int .u8 t206, .int .u8 t207, .int .u32 t208, .slice Ao12 t209.length co12, .int .i64 t212, .int .u32 t213, .int .u32 t214, .int .u8 t215, .bool t216, .int .u32 t217, .slice Ao13 t218.length co13] 38 (0, 0)) (by (with_reducible repeat (first | refine blk_drewN ?_ _ | refine blk_drew ?_ | refine blk_alloc ?_ _)); exact BK223.out) hb); have n3_ := Aside0.mk (blk_below (g := gb224) (o := .cells #[.int .u8 t221, .int .u32 t222] 24 (0, 0)) (by (with_reducible repeat (first | refine blk_drewN ?_ _ | refine blk_drew ?_ | refine blk_alloc ?_ _)); exact BK224.out) hb); have n4_ := Aside0.mk (below_step (by repeat (first | (with_reducible first | exact HB.out | apply below_alloc | apply pw_below_drewN | apply below_drew1 | refine below_set ?_ GE223.out | refine below_set ?_ GE224.out) | exact HB.out)) hb); clear HO_224003; clear HO_224010; clear BK223; clear BK224; clear HB; have HO_224003 := n0_; have HO_224010 := n1_; have BK223 := n2_; have BK224 := n3_; have HB := n4_; clear n0_ n1_ n2_ n3_ n4_; (try clear hb); (try clear hb2); (try clear hk); (try clear hi)))
     go_ret
     exact ⟨by first | rfl | (simp [errW_none, errW_some] <;> rfl) | (simp [*, errW_none, errW_some] <;> rfl), by repeat (first | (with_reducible first | exact HB.out | apply below_alloc | apply pw_below_drewN | apply below_drew1 | refine below_set ?_ GE223.out | refine below_set ?_ GE224.out) | exact HB.out)⟩
    ·replace c26 := Bool.eq_false_iff.mpr c26
     subst c26
     have H1 : (if t206 = 5 then (if 0 ≤ (wrap64 ((wrap64 (9 + (mx t212 (-1)))) + 1)) then (if (wrap64 ((wrap64 (9 + (mx t212 (-1)))) + 1)) < (l0.length : Int) then (louverlaw07_FrameBack.j1 kj5 l0 (decide ((rd l0 (wrap64 ((wrap64 (9 + (mx t212 (-1)))) + 1))) > 127)) t206 t207 t208 t209 t212 t213 t214 t215 t216 t217 t218) else (none)) else (none)) else (if t206 = 7 then (if 0 ≤ (wrap64 ((wrap64 (9 + (mx t212 (-1)))) + 1)) then (if (wrap64 ((wrap64 (9 + (mx t212 (-1)))) + 1)) < (l0.length : Int) then (louverlaw07_FrameBack.j1 kj5 l0 (decide ((rd l0 (wrap64 ((wrap64 (9 + (mx t212 (-1)))) + 1))) > 127)) t206 t207 t208 t209 t212 t213 t214 t215 t216 t217 t218) else (none)) else (none)) else (if t206 = 8 then (if 0 ≤ (wrap64 ((wrap64 (9 + (mx t212 (-1)))) + 1)) then (if (wrap64 ((wrap64 (9 + (mx t212 (-1)))) + 1)) < (l0.length : Int) then (louverlaw07_FrameBack.j1 kj5 l0 (decide ((rd l0 (wrap64 ((wrap64 (9 + (mx t212 (-1)))) + 1))) > 127)) t206 t207 t208 t209 t212 t213 t214 t215 t216 t217 t218) else (none)) else (none)) else (louverlaw07_FrameBack.j1 kj5 l0 false t206 t207 t208 t209 t212 t213 t214 t215 t216 t217 t218)))) = some r := by rw [if_neg (show ¬ (false = true) by decide)] at H; exact H
     clear H
     have H := H1
     clear H1
     have HC29 := Aside0.mk H
     clear H
     go_upto_region 6 with (fail)
     go_cut [53] (fun v53 wc => ∃ (kq : Nat) (x53_28 : Bool), v53 = .bool x53_28 ∧ Aside0 (louverlaw07_FrameBack.j1 kq l0 x53_28 t206 t207 t208 t209 t212 t213 t214 t215 t216 t217 t218 = some r) ∧ Aside0 (kq ≤ kj5) ∧ Aside0 (Kd.R (Kd.int .u8) 5 wc w.heap.size (fun _ => True) (.slice Ao12 t209.length co12) t209) ∧ Aside0 (Kd.R k99 99 wc w.heap.size (fun _ => True) (.slice Ao13 t218.length co13) t218) ∧ Aside0 (wc.heap[gb223]? = some (.cells #[.int .u8 t206, .int .u8 t207, .int .u32 t208, (.slice Ao12 t209.length co12), .int .i64 t212, .int .u32 t213, .int .u32 t214, .int .u8 t215, .bool t216, .int .u32 t217, (.slice Ao13 t218.length co13)] 38 (0, 0))) ∧ Aside0 (wc.heap[gb224]? = some (.cells #[.int .u8 t221, .int .u32 t222] 24 (0, 0))) ∧ Aside0 (Below w.heap.size w wc))
     case first =>
      have H := HC29.out
      clear HC29
      by_cases c30 : t206 = 5
      ·rw [if_pos c30] at H
       have c30b0 : (t206 == 5) = true := beq_iff_eq.mpr c30
       have c30b1 : (t206 != 5) = false := bne_eq_false_iff_eq.mpr c30
       clear c30
       (first | rw [c30b0] | (simp only [i64_w, i32_w]; rw [c30b0]) | skip)
       obtain ⟨ji31, hji31⟩ : ∃ j_ : Int, (mx t212 (-1)) = j_ := ⟨_, rfl⟩
       replace H : (if 0 ≤ (wrap64 ((wrap64 (9 + (ji31))) + 1)) then (if (wrap64 ((wrap64 (9 + (ji31))) + 1)) < (l0.length : Int) then (louverlaw07_FrameBack.j1 kj5 l0 (decide ((rd l0 (wrap64 ((wrap64 (9 + (ji31))) + 1))) > 127)) t206 t207 t208 t209 t212 t213 t214 t215 t216 t217 t218) else (none)) else (none)) = some r := by first | (rw [hji31] at H; exact H) | (simp only [hji31] at H ⊢; exact H)
       have hji31_ : (if t212 < (-1) then (-1) else t212) = ji31 := hji31
       obtain ⟨ji32, hji32⟩ : ∃ j_ : Int, (wrap64 ((wrap64 (9 + (ji31))) + 1)) = j_ := ⟨_, rfl⟩
       replace H : (if 0 ≤ (ji32) then (if (ji32) < (l0.length : Int) then (louverlaw07_FrameBack.j1 kj5 l0 (decide ((rd l0 (ji32)) > 127)) t206 t207 t208 t209 t212 t213 t214 t215 t216 t217 t218) else (none)) else (none)) = some r := by first | (rw [hji32] at H; exact H) | (simp only [hji32] at H ⊢; exact H)
       have hji32w : (IntKind.i64.wrap ((wrap64 (9 + (ji31))) + 1)) = ji32 := (i64_w _).trans hji32
       by_cases c33 : 0 ≤ (ji32)
       ·rw [if_pos c33] at H
        have c33b0 : decide (0 ≤ (ji32)) = true := decide_eq_true c33
        clear c33
        by_cases c34 : (ji32) < (l0.length : Int)
        ·rw [if_pos c34] at H
         have c34b0 : decide ((ji32) < (l0.length : Int)) = true := decide_eq_true c34
         clear c34
         have H' := Aside0.mk H
         clear H
         have hnb35 := NB223_224.out
         have hnc35 := NB224_223.out
         have z36_0 : wc.cell? ⟨gb223, 0, none⟩ = some (.int .u8 t206) := (blk_cell BK223.out 0).trans rfl
         have z36_1 : wc.cell? ⟨gb223, 1, none⟩ = some (.int .u8 t207) := (blk_cell BK223.out 1).trans rfl
         have z36_2 : wc.cell? ⟨gb223, 2, none⟩ = some (.int .u32 t208) := (blk_cell BK223.out 2).trans rfl
         have z36_3 : wc.cell? ⟨gb223, 3, none⟩ = some (.slice Ao12 t209.length co12) := (blk_cell BK223.out 3).trans rfl
         have z36_4 : wc.cell? ⟨gb223, 4, none⟩ = some (.int .i64 t212) := (blk_cell BK223.out 4).trans rfl
         have z36_5 : wc.cell? ⟨gb223, 5, none⟩ = some (.int .u32 t213) := (blk_cell BK223.out 5).trans rfl
         have z36_6 : wc.cell? ⟨gb223, 6, none⟩ = some (.int .u32 t214) := (blk_cell BK223.out 6).trans rfl
         have z36_7 : wc.cell? ⟨gb223, 7, none⟩ = some (.int .u8 t215) := (blk_cell BK223.out 7).trans rfl
         have z36_8 : wc.cell? ⟨gb223, 8, none⟩ = some (.bool t216) := (blk_cell BK223.out 8).trans rfl
         have z36_9 : wc.cell? ⟨gb223, 9, none⟩ = some (.int .u32 t217) := (blk_cell BK223.out 9).trans rfl
         have z36_10 : wc.cell? ⟨gb223, 10, none⟩ = some (.slice Ao13 t218.length co13) := (blk_cell BK223.out 10).trans rfl
         have y36_0 := blk_frozen BK223.out 0
         have y36_1 := blk_frozen BK223.out 1
         have y36_2 := blk_frozen BK223.out 2
         have y36_3 := blk_frozen BK223.out 3
         have y36_4 := blk_frozen BK223.out 4
         have y36_5 := blk_frozen BK223.out 5
         have y36_6 := blk_frozen BK223.out 6
         have y36_7 := blk_frozen BK223.out 7
         have y36_8 := blk_frozen BK223.out 8
         have y36_9 := blk_frozen BK223.out 9
         have y36_10 := blk_frozen BK223.out 10
         have p227 : 0 ≤ ((ji32) : Int) := of_decide_eq_true (by first | (with_reducible assumption) | assumption)
         have q227 : (ji32) < (l0.length : Int) := of_decide_eq_true (by first | (with_reducible assumption) | assumption)
         obtain ⟨ad227, e227, hx227_0⟩ := Kd.at_int HR0.out (ji32) p227 q227
         cases e227
         replace hx227_0 := (HB.out.cell (World.block_lt_of_cell? w _ hx227_0)).trans hx227_0
         replace p227 := eq_true p227
         replace q227 := eq_true q227
         go_wp2
         go_meet
         case rel => exact ⟨_, (decide ((rd l0 (ji32)) > 127)), (by first | rfl | (simp; done) | (simp only [← hji32] <;> (first | rfl | simp)) | (simp [*]; done)), H', ⟨by have := HJ5.out; first | omega | exact Nat.le_refl _⟩, ⟨by (with_reducible repeat (first | apply Kd.R_alloc | apply Kd.R_drewN | apply Kd.R_drew)); exact HO_224003.out⟩, ⟨by (with_reducible repeat (first | apply Kd.R_alloc | apply Kd.R_drewN | apply Kd.R_drew)); exact HO_224010.out⟩, ⟨by (with_reducible repeat (first | refine blk_drewN ?_ _ | refine blk_drew ?_ | refine blk_alloc ?_ _)); exact BK223.out⟩, ⟨by (with_reducible repeat (first | refine blk_drewN ?_ _ | refine blk_drew ?_ | refine blk_alloc ?_ _)); exact BK224.out⟩, ⟨by repeat (first | (with_reducible first | exact HB.out | apply below_alloc | apply pw_below_drewN | apply below_drew1 | refine below_set ?_ GE223.out | refine below_set ?_ GE224.out) | exact HB.out)⟩⟩
        ·rw [if_neg c34] at H
         exact absurd H (by simp)
       ·rw [if_neg c33] at H
        exact absurd H (by simp)
      ·rw [if_neg c30] at H
       have c30b0 : (t206 == 5) = false := beq_eq_false_iff_ne.mpr c30
       have c30b1 : (t206 != 5) = true := bne_iff_ne.mpr c30
       (first | rw [c30b0] | (simp only [i64_w, i32_w]; rw [c30b0]) | skip)
       by_cases c37 : t206 = 7
       ·rw [if_pos c37] at H
        have c37b0 : (t206 == 7) = true := beq_iff_eq.mpr c37
        have c37b1 : (t206 != 7) = false := bne_eq_false_iff_eq.mpr c37
        clear c37
        obtain ⟨ji38, hji38⟩ : ∃ j_ : Int, (mx t212 (-1)) = j_ := ⟨_, rfl⟩
        replace H : (if 0 ≤ (wrap64 ((wrap64 (9 + (ji38))) + 1)) then (if (wrap64 ((wrap64 (9 + (ji38))) + 1)) < (l0.length : Int) then (louverlaw07_FrameBack.j1 kj5 l0 (decide ((rd l0 (wrap64 ((wrap64 (9 + (ji38))) + 1))) > 127)) t206 t207 t208 t209 t212 t213 t214 t215 t216 t217 t218) else (none)) else (none)) = some r := by first | (rw [hji38] at H; exact H) | (simp only [hji38] at H ⊢; exact H)
        have hji38_ : (if t212 < (-1) then (-1) else t212) = ji38 := hji38
        obtain ⟨ji39, hji39⟩ : ∃ j_ : Int, (wrap64 ((wrap64 (9 + (ji38))) + 1)) = j_ := ⟨_, rfl⟩
        replace H : (if 0 ≤ (ji39) then (if (ji39) < (l0.length : Int) then (louverlaw07_FrameBack.j1 kj5 l0 (decide ((rd l0 (ji39)) > 127)) t206 t207 t208 t209 t212 t213 t214 t215 t216 t217 t218) else (none)) else (none)) = some r := by first | (rw [hji39] at H; exact H) | (simp only [hji39] at H ⊢; exact H)
        have hji39w : (IntKind.i64.wrap ((wrap64 (9 + (ji38))) + 1)) = ji39 := (i64_w _).trans hji39
        by_cases c40 : 0 ≤ (ji39)
        ·rw [if_pos c40] at H
         have c40b0 : decide (0 ≤ (ji39)) = true := decide_eq_true c40
         clear c40
         by_cases c41 : (ji39) < (l0.length : Int)
         ·rw [if_pos c41] at H
          have c41b0 : decide ((ji39) < (l0.length : Int)) = true := decide_eq_true c41
          clear c41
          have H' := Aside0.mk H
          clear H
          have hnb42 := NB223_224.out
          have hnc42 := NB224_223.out
          have z43_0 : wc.cell? ⟨gb223, 0, none⟩ = some (.int .u8 t206) := (blk_cell BK223.out 0).trans rfl
          have z43_1 : wc.cell? ⟨gb223, 1, none⟩ = some (.int .u8 t207) := (blk_cell BK223.out 1).trans rfl
          have z43_2 : wc.cell? ⟨gb223, 2, none⟩ = some (.int .u32 t208) := (blk_cell BK223.out 2).trans rfl
          have z43_3 : wc.cell? ⟨gb223, 3, none⟩ = some (.slice Ao12 t209.length co12) := (blk_cell BK223.out 3).trans rfl
          have z43_4 : wc.cell? ⟨gb223, 4, none⟩ = some (.int .i64 t212) := (blk_cell BK223.out 4).trans rfl
          have z43_5 : wc.cell? ⟨gb223, 5, none⟩ = some (.int .u32 t213) := (blk_cell BK223.out 5).trans rfl
          have z43_6 : wc.cell? ⟨gb223, 6, none⟩ = some (.int .u32 t214) := (blk_cell BK223.out 6).trans rfl
          have z43_7 : wc.cell? ⟨gb223, 7, none⟩ = some (.int .u8 t215) := (blk_cell BK223.out 7).trans rfl
          have z43_8 : wc.cell? ⟨gb223, 8, none⟩ = some (.bool t216) := (blk_cell BK223.out 8).trans rfl
          have z43_9 : wc.cell? ⟨gb223, 9, none⟩ = some (.int .u32 t217) := (blk_cell BK223.out 9).trans rfl
          have z43_10 : wc.cell? ⟨gb223, 10, none⟩ = some (.slice Ao13 t218.length co13) := (blk_cell BK223.out 10).trans rfl
          have y43_0 := blk_frozen BK223.out 0
          have y43_1 := blk_frozen BK223.out 1
          have y43_2 := blk_frozen BK223.out 2
          have y43_3 := blk_frozen BK223.out 3
          have y43_4 := blk_frozen BK223.out 4
          have y43_5 := blk_frozen BK223.out 5
          have y43_6 := blk_frozen BK223.out 6
          have y43_7 := blk_frozen BK223.out 7
          have y43_8 := blk_frozen BK223.out 8
          have y43_9 := blk_frozen BK223.out 9
          have y43_10 := blk_frozen BK223.out 10
          have p228 : 0 ≤ ((ji39) : Int) := of_decide_eq_true (by first | (with_reducible assumption) | assumption)
          have q228 : (ji39) < (l0.length : Int) := of_decide_eq_true (by first | (with_reducible assumption) | assumption)
          obtain ⟨ad228, e228, hx228_0⟩ := Kd.at_int HR0.out (ji39) p228 q228
          cases e228
          replace hx228_0 := (HB.out.cell (World.block_lt_of_cell? w _ hx228_0)).trans hx228_0
          replace p228 := eq_true p228
          replace q228 := eq_true q228
          go_wp2
          go_meet
          case rel => exact ⟨_, (decide ((rd l0 (ji39)) > 127)), (by first | rfl | (simp; done) | (simp only [← hji39] <;> (first | rfl | simp)) | (simp [*]; done)), H', ⟨by have := HJ5.out; first | omega | exact Nat.le_refl _⟩, ⟨by (with_reducible repeat (first | apply Kd.R_alloc | apply Kd.R_drewN | apply Kd.R_drew)); exact HO_224003.out⟩, ⟨by (with_reducible repeat (first | apply Kd.R_alloc | apply Kd.R_drewN | apply Kd.R_drew)); exact HO_224010.out⟩, ⟨by (with_reducible repeat (first | refine blk_drewN ?_ _ | refine blk_drew ?_ | refine blk_alloc ?_ _)); exact BK223.out⟩, ⟨by (with_reducible repeat (first | refine blk_drewN ?_ _ | refine blk_drew ?_ | refine blk_alloc ?_ _)); exact BK224.out⟩, ⟨by repeat (first | (with_reducible first | exact HB.out | apply below_alloc | apply pw_below_drewN | apply below_drew1 | refine below_set ?_ GE223.out | refine below_set ?_ GE224.out) | exact HB.out)⟩⟩
         ·rw [if_neg c41] at H
          exact absurd H (by simp)
        ·rw [if_neg c40] at H
         exact absurd H (by simp)
       ·rw [if_neg c37] at H
        have c37b0 : (t206 == 7) = false := beq_eq_false_iff_ne.mpr c37
        have c37b1 : (t206 != 7) = true := bne_iff_ne.mpr c37
        by_cases c44 : t206 = 8
        ·rw [if_pos c44] at H
         have c44b0 : (t206 == 8) = true := beq_iff_eq.mpr c44
         have c44b1 : (t206 != 8) = false := bne_eq_false_iff_eq.mpr c44
         clear c44
         obtain ⟨ji45, hji45⟩ : ∃ j_ : Int, (mx t212 (-1)) = j_ := ⟨_, rfl⟩
         replace H : (if 0 ≤ (wrap64 ((wrap64 (9 + (ji45))) + 1)) then (if (wrap64 ((wrap64 (9 + (ji45))) + 1)) < (l0.length : Int) then (louverlaw07_FrameBack.j1 kj5 l0 (decide ((rd l0 (wrap64 ((wrap64 (9 + (ji45))) + 1))) > 127)) t206 t207 t208 t209 t212 t213 t214 t215 t216 t217 t218) else (none)) else (none)) = some r := by first | (rw [hji45] at H; exact H) | (simp only [hji45] at H ⊢; exact H)
         have hji45_ : (if t212 < (-1) then (-1) else t212) = ji45 := hji45
         obtain ⟨ji46, hji46⟩ : ∃ j_ : Int, (wrap64 ((wrap64 (9 + (ji45))) + 1)) = j_ := ⟨_, rfl⟩
         replace H : (if 0 ≤ (ji46) then (if (ji46) < (l0.length : Int) then (louverlaw07_FrameBack.j1 kj5 l0 (decide ((rd l0 (ji46)) > 127)) t206 t207 t208 t209 t212 t213 t214 t215 t216 t217 t218) else (none)) else (none)) = some r := by first | (rw [hji46] at H; exact H) | (simp only [hji46] at H ⊢; exact H)
         have hji46w : (IntKind.i64.wrap ((wrap64 (9 + (ji45))) + 1)) = ji46 := (i64_w _).trans hji46
         by_cases c47 : 0 ≤ (ji46)
         ·rw [if_pos c47] at H
          have c47b0 : decide (0 ≤ (ji46)) = true := decide_eq_true c47
          clear c47
          by_cases c48 : (ji46) < (l0.length : Int)
          ·rw [if_pos c48] at H
           have c48b0 : decide ((ji46) < (l0.length : Int)) = true := decide_eq_true c48
           clear c48
           have H' := Aside0.mk H
           clear H
           have hnb49 := NB223_224.out
           have hnc49 := NB224_223.out
           have z50_0 : wc.cell? ⟨gb223, 0, none⟩ = some (.int .u8 t206) := (blk_cell BK223.out 0).trans rfl
           have z50_1 : wc.cell? ⟨gb223, 1, none⟩ = some (.int .u8 t207) := (blk_cell BK223.out 1).trans rfl
           have z50_2 : wc.cell? ⟨gb223, 2, none⟩ = some (.int .u32 t208) := (blk_cell BK223.out 2).trans rfl
           have z50_3 : wc.cell? ⟨gb223, 3, none⟩ = some (.slice Ao12 t209.length co12) := (blk_cell BK223.out 3).trans rfl
           have z50_4 : wc.cell? ⟨gb223, 4, none⟩ = some (.int .i64 t212) := (blk_cell BK223.out 4).trans rfl
           have z50_5 : wc.cell? ⟨gb223, 5, none⟩ = some (.int .u32 t213) := (blk_cell BK223.out 5).trans rfl
           have z50_6 : wc.cell? ⟨gb223, 6, none⟩ = some (.int .u32 t214) := (blk_cell BK223.out 6).trans rfl
           have z50_7 : wc.cell? ⟨gb223, 7, none⟩ = some (.int .u8 t215) := (blk_cell BK223.out 7).trans rfl
           have z50_8 : wc.cell? ⟨gb223, 8, none⟩ = some (.bool t216) := (blk_cell BK223.out 8).trans rfl
           have z50_9 : wc.cell? ⟨gb223, 9, none⟩ = some (.int .u32 t217) := (blk_cell BK223.out 9).trans rfl
           have z50_10 : wc.cell? ⟨gb223, 10, none⟩ = some (.slice Ao13 t218.length co13) := (blk_cell BK223.out 10).trans rfl
           have y50_0 := blk_frozen BK223.out 0
           have y50_1 := blk_frozen BK223.out 1
           have y50_2 := blk_frozen BK223.out 2
           have y50_3 := blk_frozen BK223.out 3
           have y50_4 := blk_frozen BK223.out 4
           have y50_5 := blk_frozen BK223.out 5
           have y50_6 := blk_frozen BK223.out 6
           have y50_7 := blk_frozen BK223.out 7
           have y50_8 := blk_frozen BK223.out 8
           have y50_9 := blk_frozen BK223.out 9
           have y50_10 := blk_frozen BK223.out 10
           have p229 : 0 ≤ ((ji46) : Int) := of_decide_eq_true (by first | (with_reducible assumption) | assumption)
           have q229 : (ji46) < (l0.length : Int) := of_decide_eq_true (by first | (with_reducible assumption) | assumption)
           obtain ⟨ad229, e229, hx229_0⟩ := Kd.at_int HR0.out (ji46) p229 q229
           cases e229
           replace hx229_0 := (HB.out.cell (World.block_lt_of_cell? w _ hx229_0)).trans hx229_0
           replace p229 := eq_true p229
           replace q229 := eq_true q229
           go_wp2
           go_meet
           case rel => exact ⟨_, (decide ((rd l0 (ji46)) > 127)), (by first | rfl | (simp; done) | (simp only [← hji46] <;> (first | rfl | simp)) | (simp [*]; done)), H', ⟨by have := HJ5.out; first | omega | exact Nat.le_refl _⟩, ⟨by (with_reducible repeat (first | apply Kd.R_alloc | apply Kd.R_drewN | apply Kd.R_drew)); exact HO_224003.out⟩, ⟨by (with_reducible repeat (first | apply Kd.R_alloc | apply Kd.R_drewN | apply Kd.R_drew)); exact HO_224010.out⟩, ⟨by (with_reducible repeat (first | refine blk_drewN ?_ _ | refine blk_drew ?_ | refine blk_alloc ?_ _)); exact BK223.out⟩, ⟨by (with_reducible repeat (first | refine blk_drewN ?_ _ | refine blk_drew ?_ | refine blk_alloc ?_ _)); exact BK224.out⟩, ⟨by repeat (first | (with_reducible first | exact HB.out | apply below_alloc | apply pw_below_drewN | apply below_drew1 | refine below_set ?_ GE223.out | refine below_set ?_ GE224.out) | exact HB.out)⟩⟩
          ·rw [if_neg c48] at H
           exact absurd H (by simp)
         ·rw [if_neg c47] at H
          exact absurd H (by simp)
        ·rw [if_neg c44] at H
         have c44b0 : (t206 == 8) = false := beq_eq_false_iff_ne.mpr c44
         have c44b1 : (t206 != 8) = true := bne_iff_ne.mpr c44
         have H' := Aside0.mk H
         clear H
         have hnb51 := NB223_224.out
         have hnc51 := NB224_223.out
         have z52_0 : wc.cell? ⟨gb223, 0, none⟩ = some (.int .u8 t206) := (blk_cell BK223.out 0).trans rfl
         have z52_1 : wc.cell? ⟨gb223, 1, none⟩ = some (.int .u8 t207) := (blk_cell BK223.out 1).trans rfl
         have z52_2 : wc.cell? ⟨gb223, 2, none⟩ = some (.int .u32 t208) := (blk_cell BK223.out 2).trans rfl
         have z52_3 : wc.cell? ⟨gb223, 3, none⟩ = some (.slice Ao12 t209.length co12) := (blk_cell BK223.out 3).trans rfl
         have z52_4 : wc.cell? ⟨gb223, 4, none⟩ = some (.int .i64 t212) := (blk_cell BK223.out 4).trans rfl
         have z52_5 : wc.cell? ⟨gb223, 5, none⟩ = some (.int .u32 t213) := (blk_cell BK223.out 5).trans rfl
         have z52_6 : wc.cell? ⟨gb223, 6, none⟩ = some (.int .u32 t214) := (blk_cell BK223.out 6).trans rfl
         have z52_7 : wc.cell? ⟨gb223, 7, none⟩ = some (.int .u8 t215) := (blk_cell BK223.out 7).trans rfl
         have z52_8 : wc.cell? ⟨gb223, 8, none⟩ = some (.bool t216) := (blk_cell BK223.out 8).trans rfl
         have z52_9 : wc.cell? ⟨gb223, 9, none⟩ = some (.int .u32 t217) := (blk_cell BK223.out 9).trans rfl
         have z52_10 : wc.cell? ⟨gb223, 10, none⟩ = some (.slice Ao13 t218.length co13) := (blk_cell BK223.out 10).trans rfl
         have y52_0 := blk_frozen BK223.out 0
         have y52_1 := blk_frozen BK223.out 1
         have y52_2 := blk_frozen BK223.out 2
         have y52_3 := blk_frozen BK223.out 3
         have y52_4 := blk_frozen BK223.out 4
         have y52_5 := blk_frozen BK223.out 5
         have y52_6 := blk_frozen BK223.out 6
         have y52_7 := blk_frozen BK223.out 7
         have y52_8 := blk_frozen BK223.out 8
         have y52_9 := blk_frozen BK223.out 9
         have y52_10 := blk_frozen BK223.out 10
         go_wp2
         go_meet
         case rel => exact ⟨_, (false), (by first | rfl | (simp; done) | (simp [*]; done)), H', ⟨by have := HJ5.out; first | omega | exact Nat.le_refl _⟩, ⟨by (with_reducible repeat (first | apply Kd.R_alloc | apply Kd.R_drewN | apply Kd.R_drew)); exact HO_224003.out⟩, ⟨by (with_reducible repeat (first | apply Kd.R_alloc | apply Kd.R_drewN | apply Kd.R_drew)); exact HO_224010.out⟩, ⟨by (with_reducible repeat (first | refine blk_drewN ?_ _ | refine blk_drew ?_ | refine blk_alloc ?_ _)); exact BK223.out⟩, ⟨by (with_reducible repeat (first | refine blk_drewN ?_ _ | refine blk_drew ?_ | refine blk_alloc ?_ _)); exact BK224.out⟩, ⟨by repeat (first | (with_reducible first | exact HB.out | apply below_alloc | apply pw_below_drewN | apply below_drew1 | refine below_set ?_ GE223.out | refine below_set ?_ GE224.out) | exact HB.out)⟩⟩
     case rest =>
      clear HC29
      try clear c1
      try clear c2
      try clear c2b0
      try clear c2b1
      try clear p2
      try clear q2
      try clear hx2
      try clear qi2
      try clear c3
      try clear c4
      try clear c5
      try clear p6
      try clear c7
      try clear c10
      try clear c15
      try clear c15b0
      try clear c16
      try clear c18
      try clear c18b0
      try clear c19
      try clear c20
      try clear c22
      try clear c22b0
      try clear c22b1
      try clear p22
      try clear q22
      try clear hx22
      try clear qi22
      try clear c23
      try clear c26
      try clear c27
      try clear c30
      try clear c30b0
      try clear c30b1
      try clear c33
      try clear c33b0
      try clear c34
      try clear c34b0
      try clear c35
      try clear c37
      try clear c37b0
      try clear c37b1
      try clear c40
      try clear c40b0
      try clear c41
      try clear c41b0
      try clear c42
      try clear c44
      try clear c44b0
      try clear c44b1
      try clear c47
      try clear c47b0
      try clear c48
      try clear c48b0
      try clear c49
      try clear c51
      try clear z11_0 z11_1 z11_10 z11_2 z11_3 z11_4 z11_5 z11_6 z11_7 z11_8 z11_9 z14_0 z14_1 z17_0 z17_1 z20_0 z20_1 z21_0 z21_1 z21_10 z21_2 z21_3 z21_4 z21_5 z21_6 z21_7 z21_8 z21_9 z24_0 z24_1 z25_0 z25_1 z25_10 z25_2 z25_3 z25_4 z25_5 z25_6 z25_7 z25_8 z25_9 z36_0 z36_1 z36_10 z36_2 z36_3 z36_4 z36_5 z36_6 z36_7 z36_8 z36_9 z43_0 z43_1 z43_10 z43_2 z43_3 z43_4 z43_5 z43_6 z43_7 z43_8 z43_9 z50_0 z50_1 z50_10 z50_2 z50_3 z50_4 z50_5 z50_6 z50_7 z50_8 z50_9 z52_0 z52_1 z52_10 z52_2 z52_3 z52_4 z52_5 z52_6 z52_7 z52_8 z52_9 y11_0 y11_1 y11_10 y11_2 y11_3 y11_4 y11_5 y11_6 y11_7 y11_8 y11_9 y14_0 y14_1 y17_0 y17_1 y20_0 y20_1 y21_0 y21_1 y21_10 y21_2 y21_3 y21_4 y21_5 y21_6 y21_7 y21_8 y21_9 y24_0 y24_1 y25_0 y25_1 y25_10 y25_2 y25_3 y25_4 y25_5 y25_6 y25_7 y25_8 y25_9 y36_0 y36_1 y36_10 y36_2 y36_3 y36_4 y36_5 y36_6 y36_7 y36_8 y36_9 y43_0 y43_1 y43_10 y43_2 y43_3 y43_4 y43_5 y43_6 y43_7 y43_8 y43_9 y50_0 y50_1 y50_10 y50_2 y50_3 y50_4 y50_5 y50_6 y50_7 y50_8 y50_9 y52_0 y52_1 y52_10 y52_2 y52_3 y52_4 y52_5 y52_6 y52_7 y52_8 y52_9
      try clear hx225_0
      try clear hx227_0
      try clear hx228_0
      try clear hx229_0
      try clear p2
      try clear p22
      try clear p225
      try clear p227
      try clear p228
      try clear p229
      try clear q2
      try clear q22
      try clear q225
      try clear q227
      try clear q228
      try clear q229
      obtain ⟨kq, x53_28, rfl, HA, HJ28, HO_224003, HO_224010, BK223, BK224, HB⟩ := hcut
      cases kq with
      | zero => exact absurd HA.out (by simp [louverlaw07_FrameBack.j1])
      | succ kj28 =>
       have H := HA.out
       clear HA
       simp only [louverlaw07_FrameBack.j1] at H
       by_cases c53 : x53_28 = true
       ·subst c53
        have H1 : ((louverlaw07_fixed.f kj28).bind fun t230 => (some t230)) = some r := by rw [if_pos rfl] at H; exact H
        clear H
        have H := H1
        clear H1
        replace H := Option.bind_eq_some_iff.mp H
        obtain ⟨t230, A540, H⟩ := H
        replace H : (some t230) = some r := H
        have A54 := Aside0.mk A540
        clear A540
        obtain rfl := Option.some.inj H
        go_wp2_with (first | ((with_reducible refine gate_callee (f := 20) rfl ?_); refine goesL_ (some 54) rfl rfl Tryd.func20 (by kernel_rfl) rfl #[] rfl (by (try simp only [List.map_toArray, List.map_cons, List.map_nil]); first | done | rfl | (simp only [List.length_drop, List.length_take]; rfl)) ?_; (with_reducible refine (louverlaw07_fixed.calls kj28  t230 _ A54.out).mono ?_); rintro e w55 ⟨rfl, hb⟩; refine ⟨_, rfl, ?_⟩; have n0_ := Aside0.mk (Kd.R_below (by (with_reducible repeat (first | apply Kd.R_alloc | apply Kd.R_drewN | apply Kd.R_drew)); exact HO_224003.out) hb); have n1_ := Aside0.mk (Kd.R_below (by (with_reducible repeat (first | apply Kd.R_alloc | apply Kd.R_drewN | apply Kd.R_drew)); exact HO_224010.out) hb); have n2_ := Aside0.mk (blk_below (g := gb223) (o := .cells #[.int .u8 t206, .int .u8 t207, .int .u32 t208, .slice Ao12 t209.length co12, .int .i64 t212, .int .u32 t213, .int .u32 t214, .int .u8 t215, .bool t216, .int .u32 t217, .slice Ao13 t218.length co13] 38 (0, 0)) (by (with_reducible repeat (first | refine blk_drewN ?_ _ | refine blk_drew ?_ | refine blk_alloc ?_ _)); exact BK223.out) hb); have n3_ := Aside0.mk (blk_below (g := gb224) (o := .cells #[.int .u8 t221, .int .u32 t222] 24 (0, 0)) (by (with_reducible repeat (first | refine blk_drewN ?_ _ | refine blk_drew ?_ | refine blk_alloc ?_ _)); exact BK224.out) hb); have n4_ := Aside0.mk (below_step (by repeat (first | (with_reducible first | exact HB.out | apply below_alloc | apply pw_below_drewN | apply below_drew1 | refine below_set ?_ GE223.out | refine below_set ?_ GE224.out) | exact HB.out)) hb); clear HO_224003; clear HO_224010; clear BK223; clear BK224; clear HB; have HO_224003 := n0_; have HO_224010 := n1_; have BK223 := n2_; have BK224 := n3_; have HB := n4_; clear n0_ n1_ n2_ n3_ n4_; (try clear hb); (try clear hb2); (try clear hk); (try clear hi)))
        go_ret
        exact ⟨by first | rfl | (simp [errW_none, errW_some] <;> rfl) | (simp [*, errW_none, errW_some] <;> rfl), by repeat (first | (with_reducible first | exact HB.out | apply below_alloc | apply pw_below_drewN | apply below_drew1 | refine below_set ?_ GE223.out | refine below_set ?_ GE224.out) | exact HB.out)⟩
       ·replace c53 := Bool.eq_false_iff.mpr c53
        subst c53
        have H1 : ((frame_Put.f kj28 t206 t207 t208 t209 t212 t213 t214 t215 t216 t217 t218).bind fun t231 => ((louverlaw07_fixed.f kj28).bind fun t234 => (if t234 = true then ((frame_May.f kj28 t206 t207 t208 t209 t212 t213 t214 t215 t216 t217 t218).bind fun t235 => (if t235 = true then (some ((strOfNums t231).toList == (strOfNums l0).toList)) else (some false))) else (some false)))) = some r := by rw [if_neg (show ¬ (false = true) by decide)] at H; exact H
        clear H
        have H := H1
        clear H1
        replace H := Option.bind_eq_some_iff.mp H
        obtain ⟨t231, A560, H⟩ := H
        replace H : ((louverlaw07_fixed.f kj28).bind fun t234 => (if t234 = true then ((frame_May.f kj28 t206 t207 t208 t209 t212 t213 t214 t215 t216 t217 t218).bind fun t235 => (if t235 = true then (some ((strOfNums t231).toList == (strOfNums l0).toList)) else (some false))) else (some false))) = some r := H
        have A56 := Aside0.mk A560
        clear A560
        replace H := Option.bind_eq_some_iff.mp H
        obtain ⟨t234, A570, H⟩ := H
        replace H : (if t234 = true then ((frame_May.f kj28 t206 t207 t208 t209 t212 t213 t214 t215 t216 t217 t218).bind fun t235 => (if t235 = true then (some ((strOfNums t231).toList == (strOfNums l0).toList)) else (some false))) else (some false)) = some r := H
        have A57 := Aside0.mk A570
        clear A570
        by_cases c58 : t234 = true
        ·subst c58
         have H1 : ((frame_May.f kj28 t206 t207 t208 t209 t212 t213 t214 t215 t216 t217 t218).bind fun t235 => (if t235 = true then (some ((strOfNums t231).toList == (strOfNums l0).toList)) else (some false))) = some r := by rw [if_pos rfl] at H; exact H
         clear H
         have H := H1
         clear H1
         replace H := Option.bind_eq_some_iff.mp H
         obtain ⟨t235, A590, H⟩ := H
         replace H : (if t235 = true then (some ((strOfNums t231).toList == (strOfNums l0).toList)) else (some false)) = some r := H
         have A59 := Aside0.mk A590
         clear A590
         by_cases c60 : t235 = true
         ·subst c60
          have H1 : (some ((strOfNums t231).toList == (strOfNums l0).toList)) = some r := by rw [if_pos rfl] at H; exact H
          clear H
          have H := H1
          clear H1
          obtain rfl := Option.some.inj H
          have hnb61 := NB223_224.out
          have hnc61 := NB224_223.out
          have z62_0 : wc.cell? ⟨gb223, 0, none⟩ = some (.int .u8 t206) := (blk_cell BK223.out 0).trans rfl
          have z62_1 : wc.cell? ⟨gb223, 1, none⟩ = some (.int .u8 t207) := (blk_cell BK223.out 1).trans rfl
          have z62_2 : wc.cell? ⟨gb223, 2, none⟩ = some (.int .u32 t208) := (blk_cell BK223.out 2).trans rfl
          have z62_3 : wc.cell? ⟨gb223, 3, none⟩ = some (.slice Ao12 t209.length co12) := (blk_cell BK223.out 3).trans rfl
          have z62_4 : wc.cell? ⟨gb223, 4, none⟩ = some (.int .i64 t212) := (blk_cell BK223.out 4).trans rfl
          have z62_5 : wc.cell? ⟨gb223, 5, none⟩ = some (.int .u32 t213) := (blk_cell BK223.out 5).trans rfl
          have z62_6 : wc.cell? ⟨gb223, 6, none⟩ = some (.int .u32 t214) := (blk_cell BK223.out 6).trans rfl
          have z62_7 : wc.cell? ⟨gb223, 7, none⟩ = some (.int .u8 t215) := (blk_cell BK223.out 7).trans rfl
          have z62_8 : wc.cell? ⟨gb223, 8, none⟩ = some (.bool t216) := (blk_cell BK223.out 8).trans rfl
          have z62_9 : wc.cell? ⟨gb223, 9, none⟩ = some (.int .u32 t217) := (blk_cell BK223.out 9).trans rfl
          have z62_10 : wc.cell? ⟨gb223, 10, none⟩ = some (.slice Ao13 t218.length co13) := (blk_cell BK223.out 10).trans rfl
          have y62_0 := blk_frozen BK223.out 0
          have y62_1 := blk_frozen BK223.out 1
          have y62_2 := blk_frozen BK223.out 2
          have y62_3 := blk_frozen BK223.out 3
          have y62_4 := blk_frozen BK223.out 4
          have y62_5 := blk_frozen BK223.out 5
          have y62_6 := blk_frozen BK223.out 6
          have y62_7 := blk_frozen BK223.out 7
          have y62_8 := blk_frozen BK223.out 8
          have y62_9 := blk_frozen BK223.out 9
          have y62_10 := blk_frozen BK223.out 10
          go_wp2_with (first | ((with_reducible refine gate_callee (f := 21) rfl ?_); refine goesL_ (some 56) rfl rfl Tryd.func21 (by kernel_rfl) rfl #[.agg #[.int .u8 t206, .int .u8 t207, .int .u32 t208, .slice Ao12 t209.length co12, .int .i64 t212, .int .u32 t213, .int .u32 t214, .int .u8 t215, .bool t216, .int .u32 t217, .slice Ao13 t218.length co13]] rfl (by (try simp only [List.map_toArray, List.map_cons, List.map_nil]); first | done | rfl | (simp only [List.length_drop, List.length_take]; rfl)) ?_; (with_reducible refine (frame_Put.calls kj28 t206 t207 t208 _ _ t209 t212 t213 t214 t215 t216 t217 _ _ t218 t231 _ ?side1 ?side2 ?side3 ?side4 A56.out).mono ?_); (case side1 => repeat (first | exact (Kd.R_reads' HO_224003.out).2.2 | (with_reducible refine Kd.C_alloc ?_ _) | (with_reducible refine Kd.C_drewN ?_ _) | (with_reducible refine Kd.C_drew ?_))); (case side2 => exact (Kd.R_reads' HO_224003.out).2.1); (case side3 => repeat (first | exact (Kd.R_reads' HO_224010.out).2.2 | (with_reducible refine Kd.C_alloc ?_ _) | (with_reducible refine Kd.C_drewN ?_ _) | (with_reducible refine Kd.C_drew ?_))); (case side4 => exact (Kd.R_reads' HO_224010.out).2.1); rintro e w63 ⟨v232, rfl, ho0, hb⟩; refine ⟨_, rfl, ?_⟩; have n0_ := Aside0.mk (Kd.R_elder' (by (with_reducible repeat (first | apply Kd.R_alloc | apply Kd.R_drewN | apply Kd.R_drew)); exact HO_224003.out) (Kd.R_base ho0) hb); have n1_ := Aside0.mk (Kd.R_below (by (with_reducible repeat (first | apply Kd.R_alloc | apply Kd.R_drewN | apply Kd.R_drew)); exact HO_224010.out) hb); have n2_ := Aside0.mk (Kd.R_lower (Kd.R_new' ho0 (Kd.R_lt (by (with_reducible repeat (first | apply Kd.R_alloc | apply Kd.R_drewN | apply Kd.R_drew)); exact HO_224003.out))) (below_size (by repeat (first | (with_reducible first | exact HB.out | apply below_alloc | apply pw_below_drewN | apply below_drew1 | refine below_set ?_ GE223.out | refine below_set ?_ GE224.out) | exact HB.out)))); have n3_ := Aside0.mk (blk_below (g := gb223) (o := .cells #[.int .u8 t206, .int .u8 t207, .int .u32 t208, .slice Ao12 t209.length co12, .int .i64 t212, .int .u32 t213, .int .u32 t214, .int .u8 t215, .bool t216, .int .u32 t217, .slice Ao13 t218.length co13] 38 (0, 0)) (by (with_reducible repeat (first | refine blk_drewN ?_ _ | refine blk_drew ?_ | refine blk_alloc ?_ _)); exact BK223.out) hb); have n4_ := Aside0.mk (blk_below (g := gb224) (o := .cells #[.int .u8 t221, .int .u32 t222] 24 (0, 0)) (by (with_reducible repeat (first | refine blk_drewN ?_ _ | refine blk_drew ?_ | refine blk_alloc ?_ _)); exact BK224.out) hb); have n5_ := Aside0.mk (below_step (by repeat (first | (with_reducible first | exact HB.out | apply below_alloc | apply pw_below_drewN | apply below_drew1 | refine below_set ?_ GE223.out | refine below_set ?_ GE224.out) | exact HB.out)) hb); clear HO_224003; clear HO_224010; clear BK223; clear BK224; clear HB; have HO_224003 := n0_; have HO_224010 := n1_; have HO233 := n2_; have BK223 := n3_; have BK224 := n4_; have HB := n5_; clear n0_ n1_ n2_ n3_ n4_ n5_; (try clear hb); (try clear hb2); (try clear hk); (try clear hi); (try clear ho0)) | ((with_reducible refine gate_callee (f := 20) rfl ?_); refine goesL_ (some 57) rfl rfl Tryd.func20 (by kernel_rfl) rfl #[] rfl (by (try simp only [List.map_toArray, List.map_cons, List.map_nil]); first | done | rfl | (simp only [List.length_drop, List.length_take]; rfl)) ?_; (with_reducible refine (louverlaw07_fixed.calls kj28  true _ A57.out).mono ?_); rintro e w64 ⟨rfl, hb⟩; refine ⟨_, rfl, ?_⟩; have n0_ := Aside0.mk (Kd.R_below (by (with_reducible repeat (first | apply Kd.R_alloc | apply Kd.R_drewN | apply Kd.R_drew)); exact HO_224003.out) hb); have n1_ := Aside0.mk (Kd.R_below (by (with_reducible repeat (first | apply Kd.R_alloc | apply Kd.R_drewN | apply Kd.R_drew)); exact HO_224010.out) hb); have n2_ := Aside0.mk (Kd.R_below (by (with_reducible repeat (first | apply Kd.R_alloc | apply Kd.R_drewN | apply Kd.R_drew)); exact HO233.out) hb); have n3_ := Aside0.mk (blk_below (g := gb223) (o := .cells #[.int .u8 t206, .int .u8 t207, .int .u32 t208, .slice Ao12 t209.length co12, .int .i64 t212, .int .u32 t213, .int .u32 t214, .int .u8 t215, .bool t216, .int .u32 t217, .slice Ao13 t218.length co13] 38 (0, 0)) (by (with_reducible repeat (first | refine blk_drewN ?_ _ | refine blk_drew ?_ | refine blk_alloc ?_ _)); exact BK223.out) hb); have n4_ := Aside0.mk (blk_below (g := gb224) (o := .cells #[.int .u8 t221, .int .u32 t222] 24 (0, 0)) (by (with_reducible repeat (first | refine blk_drewN ?_ _ | refine blk_drew ?_ | refine blk_alloc ?_ _)); exact BK224.out) hb); have n5_ := Aside0.mk (below_step (by repeat (first | (with_reducible first | exact HB.out | apply below_alloc | apply pw_below_drewN | apply below_drew1 | refine below_set ?_ GE223.out | refine below_set ?_ GE224.out) | exact HB.out)) hb); clear HO_224003; clear HO_224010; clear HO233; clear BK223; clear BK224; clear HB; have HO_224003 := n0_; have HO_224010 := n1_; have HO233 := n2_; have BK223 := n3_; have BK224 := n4_; have HB := n5_; clear n0_ n1_ n2_ n3_ n4_ n5_; (try clear hb); (try clear hb2); (try clear hk); (try clear hi); have z65_0 : w64.cell? ⟨gb223, 0, none⟩ = some (.int .u8 t206) := (blk_cell BK223.out 0).trans rfl; have z65_1 : w64.cell? ⟨gb223, 1, none⟩ = some (.int .u8 t207) := (blk_cell BK223.out 1).trans rfl; have z65_2 : w64.cell? ⟨gb223, 2, none⟩ = some (.int .u32 t208) := (blk_cell BK223.out 2).trans rfl; have z65_3 : w64.cell? ⟨gb223, 3, none⟩ = some (.slice Ao12 t209.length co12) := (blk_cell BK223.out 3).trans rfl; have z65_4 : w64.cell? ⟨gb223, 4, none⟩ = some (.int .i64 t212) := (blk_cell BK223.out 4).trans rfl; have z65_5 : w64.cell? ⟨gb223, 5, none⟩ = some (.int .u32 t213) := (blk_cell BK223.out 5).trans rfl; have z65_6 : w64.cell? ⟨gb223, 6, none⟩ = some (.int .u32 t214) := (blk_cell BK223.out 6).trans rfl; have z65_7 : w64.cell? ⟨gb223, 7, none⟩ = some (.int .u8 t215) := (blk_cell BK223.out 7).trans rfl; have z65_8 : w64.cell? ⟨gb223, 8, none⟩ = some (.bool t216) := (blk_cell BK223.out 8).trans rfl; have z65_9 : w64.cell? ⟨gb223, 9, none⟩ = some (.int .u32 t217) := (blk_cell BK223.out 9).trans rfl; have z65_10 : w64.cell? ⟨gb223, 10, none⟩ = some (.slice Ao13 t218.length co13) := (blk_cell BK223.out 10).trans rfl; have y65_0 := blk_frozen BK223.out 0; have y65_1 := blk_frozen BK223.out 1; have y65_2 := blk_frozen BK223.out 2; have y65_3 := blk_frozen BK223.out 3; have y65_4 := blk_frozen BK223.out 4; have y65_5 := blk_frozen BK223.out 5; have y65_6 := blk_frozen BK223.out 6; have y65_7 := blk_frozen BK223.out 7; have y65_8 := blk_frozen BK223.out 8; have y65_9 := blk_frozen BK223.out 9; have y65_10 := blk_frozen BK223.out 10) | (go_at_call 22; (with_reducible refine (frame_May.calls kj28 t206 t207 t208 _ _ t209 t212 t213 t214 t215 t216 t217 _ _ t218 true _ ?side1 ?side2 ?side3 ?side4 A59.out).mono ?_); (case side1 => repeat (first | exact (Kd.R_reads' HO_224003.out).2.2 | (with_reducible refine Kd.C_alloc ?_ _) | (with_reducible refine Kd.C_drewN ?_ _) | (with_reducible refine Kd.C_drew ?_))); (case side2 => exact (Kd.R_reads' HO_224003.out).2.1); (case side3 => repeat (first | exact (Kd.R_reads' HO_224010.out).2.2 | (with_reducible refine Kd.C_alloc ?_ _) | (with_reducible refine Kd.C_drewN ?_ _) | (with_reducible refine Kd.C_drew ?_))); (case side4 => exact (Kd.R_reads' HO_224010.out).2.1); rintro e w66 ⟨rfl, hb⟩; have n0_ := Aside0.mk (Kd.R_below (by (with_reducible repeat (first | apply Kd.R_alloc | apply Kd.R_drewN | apply Kd.R_drew)); exact HO_224003.out) hb); have n1_ := Aside0.mk (Kd.R_below (by (with_reducible repeat (first | apply Kd.R_alloc | apply Kd.R_drewN | apply Kd.R_drew)); exact HO_224010.out) hb); have n2_ := Aside0.mk (Kd.R_below (by (with_reducible repeat (first | apply Kd.R_alloc | apply Kd.R_drewN | apply Kd.R_drew)); exact HO233.out) hb); have n3_ := Aside0.mk (blk_below (g := gb223) (o := .cells #[.int .u8 t206, .int .u8 t207, .int .u32 t208, .slice Ao12 t209.length co12, .int .i64 t212, .int .u32 t213, .int .u32 t214, .int .u8 t215, .bool t216, .int .u32 t217, .slice Ao13 t218.length co13] 38 (0, 0)) (by (with_reducible repeat (first | refine blk_drewN ?_ _ | refine blk_drew ?_ | refine blk_alloc ?_ _)); exact BK223.out) hb); have n4_ := Aside0.mk (blk_below (g := gb224) (o := .cells #[.int .u8 t221, .int .u32 t222] 24 (0, 0)) (by (with_reducible repeat (first | refine blk_drewN ?_ _ | refine blk_drew ?_ | refine blk_alloc ?_ _)); exact BK224.out) hb); have n5_ := Aside0.mk (below_step (by repeat (first | (with_reducible first | exact HB.out | apply below_alloc | apply pw_below_drewN | apply below_drew1 | refine below_set ?_ GE223.out | refine below_set ?_ GE224.out) | exact HB.out)) hb); clear HO_224003; clear HO_224010; clear HO233; clear BK223; clear BK224; clear HB; have HO_224003 := n0_; have HO_224010 := n1_; have HO233 := n2_; have BK223 := n3_; have BK224 := n4_; have HB := n5_; clear n0_ n1_ n2_ n3_ n4_ n5_; (try clear hb); (try clear hb2); (try clear hk); (try clear hi); have hcv67 := own_string (P := Tryd.prog) Tryd.underlying35 Tryd.underlying5 Tryd.underlying9 (Kd.own_of_R HO233.out); have hcv68 := Kd.C_string (P := Tryd.prog) (A := A0) (c := c0) Tryd.underlying35 Tryd.underlying5 Tryd.underlying9 (Kd.C_below HR0.out HB.out)))
          go_ret
          exact ⟨by first | rfl | (simp [errW_none, errW_some] <;> rfl) | (simp [*, errW_none, errW_some] <;> rfl), by repeat (first | (with_reducible first | exact HB.out | apply below_alloc | apply pw_below_drewN | apply below_drew1 | refine below_set ?_ GE223.out | refine below_set ?_ GE224.out) | exact HB.out)⟩
         ·replace c60 := Bool.eq_false_iff.mpr c60
          subst c60
          have H1 : (some false) = some r := by rw [if_neg (show ¬ (false = true) by decide)] at H; exact H
          clear H
          have H := H1
          clear H1
          obtain rfl := Option.some.inj H
          have hnb69 := NB223_224.out
          have hnc69 := NB224_223.out
          have z70_0 : wc.cell? ⟨gb223, 0, none⟩ = some (.int .u8 t206) := (blk_cell BK223.out 0).trans rfl
          have z70_1 : wc.cell? ⟨gb223, 1, none⟩ = some (.int .u8 t207) := (blk_cell BK223.out 1).trans rfl
          have z70_2 : wc.cell? ⟨gb223, 2, none⟩ = some (.int .u32 t208) := (blk_cell BK223.out 2).trans rfl
          have z70_3 : wc.cell? ⟨gb223, 3, none⟩ = some (.slice Ao12 t209.length co12) := (blk_cell BK223.out 3).trans rfl
          have z70_4 : wc.cell? ⟨gb223, 4, none⟩ = some (.int .i64 t212) := (blk_cell BK223.out 4).trans rfl
          have z70_5 : wc.cell? ⟨gb223, 5, none⟩ = some (.int .u32 t213) := (blk_cell BK223.out 5).trans rfl
          have z70_6 : wc.cell? ⟨gb223, 6, none⟩ = some (.int .u32 t214) := (blk_cell BK223.out 6).trans rfl
          have z70_7 : wc.cell? ⟨gb223, 7, none⟩ = some (.int .u8 t215) := (blk_cell BK223.out 7).trans rfl
          have z70_8 : wc.cell? ⟨gb223, 8, none⟩ = some (.bool t216) := (blk_cell BK223.out 8).trans rfl
          have z70_9 : wc.cell? ⟨gb223, 9, none⟩ = some (.int .u32 t217) := (blk_cell BK223.out 9).trans rfl
          have z70_10 : wc.cell? ⟨gb223, 10, none⟩ = some (.slice Ao13 t218.length co13) := (blk_cell BK223.out 10).trans rfl
          have y70_0 := blk_frozen BK223.out 0
          have y70_1 := blk_frozen BK223.out 1
          have y70_2 := blk_frozen BK223.out 2
          have y70_3 := blk_frozen BK223.out 3
          have y70_4 := blk_frozen BK223.out 4
          have y70_5 := blk_frozen BK223.out 5
          have y70_6 := blk_frozen BK223.out 6
          have y70_7 := blk_frozen BK223.out 7
          have y70_8 := blk_frozen BK223.out 8
          have y70_9 := blk_frozen BK223.out 9
          have y70_10 := blk_frozen BK223.out 10
          go_wp2_with (first | ((with_reducible refine gate_callee (f := 21) rfl ?_); refine goesL_ (some 56) rfl rfl Tryd.func21 (by kernel_rfl) rfl #[.agg #[.int .u8 t206, .int .u8 t207, .int .u32 t208, .slice Ao12 t209.length co12, .int .i64 t212, .int .u32 t213, .int .u32 t214, .int .u8 t215, .bool t216, .int .u32 t217, .slice Ao13 t218.length co13]] rfl (by (try simp only [List.map_toArray, List.map_cons, List.map_nil]); first | done | rfl | (simp only [List.length_drop, List.length_take]; rfl)) ?_; (with_reducible refine (frame_Put.calls kj28 t206 t207 t208 _ _ t209 t212 t213 t214 t215 t216 t217 _ _ t218 t231 _ ?side1 ?side2 ?side3 ?side4 A56.out).mono ?_); (case side1 => repeat (first | exact (Kd.R_reads' HO_224003.out).2.2 | (with_reducible refine Kd.C_alloc ?_ _) | (with_reducible refine Kd.C_drewN ?_ _) | (with_reducible refine Kd.C_drew ?_))); (case side2 => exact (Kd.R_reads' HO_224003.out).2.1); (case side3 => repeat (first | exact (Kd.R_reads' HO_224010.out).2.2 | (with_reducible refine Kd.C_alloc ?_ _) | (with_reducible refine Kd.C_drewN ?_ _) | (with_reducible refine Kd.C_drew ?_))); (case side4 => exact (Kd.R_reads' HO_224010.out).2.1); rintro e w71 ⟨v232, rfl, ho0, hb⟩; refine ⟨_, rfl, ?_⟩; have n0_ := Aside0.mk (Kd.R_elder' (by (with_reducible repeat (first | apply Kd.R_alloc | apply Kd.R_drewN | apply Kd.R_drew)); exact HO_224003.out) (Kd.R_base ho0) hb); have n1_ := Aside0.mk (Kd.R_below (by (with_reducible repeat (first | apply Kd.R_alloc | apply Kd.R_drewN | apply Kd.R_drew)); exact HO_224010.out) hb); have n2_ := Aside0.mk (Kd.R_lower (Kd.R_new' ho0 (Kd.R_lt (by (with_reducible repeat (first | apply Kd.R_alloc | apply Kd.R_drewN | apply Kd.R_drew)); exact HO_224003.out))) (below_size (by repeat (first | (with_reducible first | exact HB.out | apply below_alloc | apply pw_below_drewN | apply below_drew1 | refine below_set ?_ GE223.out | refine below_set ?_ GE224.out) | exact HB.out)))); have n3_ := Aside0.mk (blk_below (g := gb223) (o := .cells #[.int .u8 t206, .int .u8 t207, .int .u32 t208, .slice Ao12 t209.length co12, .int .i64 t212, .int .u32 t213, .int .u32 t214, .int .u8 t215, .bool t216, .int .u32 t217, .slice Ao13 t218.length co13] 38 (0, 0)) (by (with_reducible repeat (first | refine blk_drewN ?_ _ | refine blk_drew ?_ | refine blk_alloc ?_ _)); exact BK223.out) hb); have n4_ := Aside0.mk (blk_below (g := gb224) (o := .cells #[.int .u8 t221, .int .u32 t222] 24 (0, 0)) (by (with_reducible repeat (first | refine blk_drewN ?_ _ | refine blk_drew ?_ | refine blk_alloc ?_ _)); exact BK224.out) hb); have n5_ := Aside0.mk (below_step (by repeat (first | (with_reducible first | exact HB.out | apply below_alloc | apply pw_below_drewN | apply below_drew1 | refine below_set ?_ GE223.out | refine below_set ?_ GE224.out) | exact HB.out)) hb); clear HO_224003; clear HO_224010; clear BK223; clear BK224; clear HB; have HO_224003 := n0_; have HO_224010 := n1_; have HO233 := n2_; have BK223 := n3_; have BK224 := n4_; have HB := n5_; clear n0_ n1_ n2_ n3_ n4_ n5_; (try clear hb); (try clear hb2); (try clear hk); (try clear hi); (try clear ho0)) | ((with_reducible refine gate_callee (f := 20) rfl ?_); refine goesL_ (some 57) rfl rfl Tryd.func20 (by kernel_rfl) rfl #[] rfl (by (try simp only [List.map_toArray, List.map_cons, List.map_nil]); first | done | rfl | (simp only [List.length_drop, List.length_take]; rfl)) ?_; (with_reducible refine (louverlaw07_fixed.calls kj28  true _ A57.out).mono ?_); rintro e w72 ⟨rfl, hb⟩; refine ⟨_, rfl, ?_⟩; have n0_ := Aside0.mk (Kd.R_below (by (with_reducible repeat (first | apply Kd.R_alloc | apply Kd.R_drewN | apply Kd.R_drew)); exact HO_224003.out) hb); have n1_ := Aside0.mk (Kd.R_below (by (with_reducible repeat (first | apply Kd.R_alloc | apply Kd.R_drewN | apply Kd.R_drew)); exact HO_224010.out) hb); have n2_ := Aside0.mk (Kd.R_below (by (with_reducible repeat (first | apply Kd.R_alloc | apply Kd.R_drewN | apply Kd.R_drew)); exact HO233.out) hb); have n3_ := Aside0.mk (blk_below (g := gb223) (o := .cells #[.int .u8 t206, .int .u8 t207, .int .u32 t208, .slice Ao12 t209.length co12, .int .i64 t212, .int .u32 t213, .int .u32 t214, .int .u8 t215, .bool t216, .int .u32 t217, .slice Ao13 t218.length co13] 38 (0, 0)) (by (with_reducible repeat (first | refine blk_drewN ?_ _ | refine blk_drew ?_ | refine blk_alloc ?_ _)); exact BK223.out) hb); have n4_ := Aside0.mk (blk_below (g := gb224) (o := .cells #[.int .u8 t221, .int .u32 t222] 24 (0, 0)) (by (with_reducible repeat (first | refine blk_drewN ?_ _ | refine blk_drew ?_ | refine blk_alloc ?_ _)); exact BK224.out) hb); have n5_ := Aside0.mk (below_step (by repeat (first | (with_reducible first | exact HB.out | apply below_alloc | apply pw_below_drewN | apply below_drew1 | refine below_set ?_ GE223.out | refine below_set ?_ GE224.out) | exact HB.out)) hb); clear HO_224003; clear HO_224010; clear HO233; clear BK223; clear BK224; clear HB; have HO_224003 := n0_; have HO_224010 := n1_; have HO233 := n2_; have BK223 := n3_; have BK224 := n4_; have HB := n5_; clear n0_ n1_ n2_ n3_ n4_ n5_; (try clear hb); (try clear hb2); (try clear hk); (try clear hi); have z73_0 : w72.cell? ⟨gb223, 0, none⟩ = some (.int .u8 t206) := (blk_cell BK223.out 0).trans rfl; have z73_1 : w72.cell? ⟨gb223, 1, none⟩ = some (.int .u8 t207) := (blk_cell BK223.out 1).trans rfl; have z73_2 : w72.cell? ⟨gb223, 2, none⟩ = some (.int .u32 t208) := (blk_cell BK223.out 2).trans rfl; have z73_3 : w72.cell? ⟨gb223, 3, none⟩ = some (.slice Ao12 t209.length co12) := (blk_cell BK223.out 3).trans rfl; have z73_4 : w72.cell? ⟨gb223, 4, none⟩ = some (.int .i64 t212) := (blk_cell BK223.out 4).trans rfl; have z73_5 : w72.cell? ⟨gb223, 5, none⟩ = some (.int .u32 t213) := (blk_cell BK223.out 5).trans rfl; have z73_6 : w72.cell? ⟨gb223, 6, none⟩ = some (.int .u32 t214) := (blk_cell BK223.out 6).trans rfl; have z73_7 : w72.cell? ⟨gb223, 7, none⟩ = some (.int .u8 t215) := (blk_cell BK223.out 7).trans rfl; have z73_8 : w72.cell? ⟨gb223, 8, none⟩ = some (.bool t216) := (blk_cell BK223.out 8).trans rfl; have z73_9 : w72.cell? ⟨gb223, 9, none⟩ = some (.int .u32 t217) := (blk_cell BK223.out 9).trans rfl; have z73_10 : w72.cell? ⟨gb223, 10, none⟩ = some (.slice Ao13 t218.length co13) := (blk_cell BK223.out 10).trans rfl; have y73_0 := blk_frozen BK223.out 0; have y73_1 := blk_frozen BK223.out 1; have y73_2 := blk_frozen BK223.out 2; have y73_3 := blk_frozen BK223.out 3; have y73_4 := blk_frozen BK223.out 4; have y73_5 := blk_frozen BK223.out 5; have y73_6 := blk_frozen BK223.out 6; have y73_7 := blk_frozen BK223.out 7; have y73_8 := blk_frozen BK223.out 8; have y73_9 := blk_frozen BK223.out 9; have y73_10 := blk_frozen BK223.out 10) | (go_at_call 22; (with_reducible refine (frame_May.calls kj28 t206 t207 t208 _ _ t209 t212 t213 t214 t215 t216 t217 _ _ t218 false _ ?side1 ?side2 ?side3 ?side4 A59.out).mono ?_); (case side1 => repeat (first | exact (Kd.R_reads' HO_224003.out).2.2 | (with_reducible refine Kd.C_alloc ?_ _) | (with_reducible refine Kd.C_drewN ?_ _) | (with_reducible refine Kd.C_drew ?_))); (case side2 => exact (Kd.R_reads' HO_224003.out).2.1); (case side3 => repeat (first | exact (Kd.R_reads' HO_224010.out).2.2 | (with_reducible refine Kd.C_alloc ?_ _) | (with_reducible refine Kd.C_drewN ?_ _) | (with_reducible refine Kd.C_drew ?_))); (case side4 => exact (Kd.R_reads' HO_224010.out).2.1); rintro e w74 ⟨rfl, hb⟩; have n0_ := Aside0.mk (Kd.R_below (by (with_reducible repeat (first | apply Kd.R_alloc | apply Kd.R_drewN | apply Kd.R_drew)); exact HO_224003.out) hb); have n1_ := Aside0.mk (Kd.R_below (by (with_reducible repeat (first | apply Kd.R_alloc | apply Kd.R_drewN | apply Kd.R_drew)); exact HO_224010.out) hb); have n2_ := Aside0.mk (Kd.R_below (by (with_reducible repeat (first | apply Kd.R_alloc | apply Kd.R_drewN | apply Kd.R_drew)); exact HO233.out) hb); have n3_ := Aside0.mk (blk_below (g := gb223) (o := .cells #[.int .u8 t206, .int .u8 t207, .int .u32 t208, .slice Ao12 t209.length co12, .int .i64 t212, .int .u32 t213, .int .u32 t214, .int .u8 t215, .bool t216, .int .u32 t217, .slice Ao13 t218.length co13] 38 (0, 0)) (by (with_reducible repeat (first | refine blk_drewN ?_ _ | refine blk_drew ?_ | refine blk_alloc ?_ _)); exact BK223.out) hb); have n4_ := Aside0.mk (blk_below (g := gb224) (o := .cells #[.int .u8 t221, .int .u32 t222] 24 (0, 0)) (by (with_reducible repeat (first | refine blk_drewN ?_ _ | refine blk_drew ?_ | refine blk_alloc ?_ _)); exact BK224.out) hb); have n5_ := Aside0.mk (below_step (by repeat (first | (with_reducible first | exact HB.out | apply below_alloc | apply pw_below_drewN | apply below_drew1 | refine below_set ?_ GE223.out | refine below_set ?_ GE224.out) | exact HB.out)) hb); clear HO_224003; clear HO_224010; clear HO233; clear BK223; clear BK224; clear HB; have HO_224003 := n0_; have HO_224010 := n1_; have HO233 := n2_; have BK223 := n3_; have BK224 := n4_; have HB := n5_; clear n0_ n1_ n2_ n3_ n4_ n5_; (try clear hb); (try clear hb2); (try clear hk); (try clear hi)))
          go_ret
          exact ⟨by first | rfl | (simp [errW_none, errW_some] <;> rfl) | (simp [*, errW_none, errW_some] <;> rfl), by repeat (first | (with_reducible first | exact HB.out | apply below_alloc | apply pw_below_drewN | apply below_drew1 | refine below_set ?_ GE223.out | refine below_set ?_ GE224.out) | exact HB.out)⟩
        ·replace c58 := Bool.eq_false_iff.mpr c58
         subst c58
         have H1 : (some false) = some r := by rw [if_neg (show ¬ (false = true) by decide)] at H; exact H
         clear H
         have H := H1
         clear H1
         obtain rfl := Option.some.inj H
         have hnb75 := NB223_224.out
         have hnc75 := NB224_223.out
         have z76_0 : wc.cell? ⟨gb223, 0, none⟩ = some (.int .u8 t206) := (blk_cell BK223.out 0).trans rfl
         have z76_1 : wc.cell? ⟨gb223, 1, none⟩ = some (.int .u8 t207) := (blk_cell BK223.out 1).trans rfl
         have z76_2 : wc.cell? ⟨gb223, 2, none⟩ = some (.int .u32 t208) := (blk_cell BK223.out 2).trans rfl
         have z76_3 : wc.cell? ⟨gb223, 3, none⟩ = some (.slice Ao12 t209.length co12) := (blk_cell BK223.out 3).trans rfl
         have z76_4 : wc.cell? ⟨gb223, 4, none⟩ = some (.int .i64 t212) := (blk_cell BK223.out 4).trans rfl
         have z76_5 : wc.cell? ⟨gb223, 5, none⟩ = some (.int .u32 t213) := (blk_cell BK223.out 5).trans rfl
         have z76_6 : wc.cell? ⟨gb223, 6, none⟩ = some (.int .u32 t214) := (blk_cell BK223.out 6).trans rfl
         have z76_7 : wc.cell? ⟨gb223, 7, none⟩ = some (.int .u8 t215) := (blk_cell BK223.out 7).trans rfl
         have z76_8 : wc.cell? ⟨gb223, 8, none⟩ = some (.bool t216) := (blk_cell BK223.out 8).trans rfl
         have z76_9 : wc.cell? ⟨gb223, 9, none⟩ = some (.int .u32 t217) := (blk_cell BK223.out 9).trans rfl
         have z76_10 : wc.cell? ⟨gb223, 10, none⟩ = some (.slice Ao13 t218.length co13) := (blk_cell BK223.out 10).trans rfl
         have y76_0 := blk_frozen BK223.out 0
         have y76_1 := blk_frozen BK223.out 1
         have y76_2 := blk_frozen BK223.out 2
         have y76_3 := blk_frozen BK223.out 3
         have y76_4 := blk_frozen BK223.out 4
         have y76_5 := blk_frozen BK223.out 5
         have y76_6 := blk_frozen BK223.out 6
         have y76_7 := blk_frozen BK223.out 7
         have y76_8 := blk_frozen BK223.out 8
         have y76_9 := blk_frozen BK223.out 9
         have y76_10 := blk_frozen BK223.out 10
         go_wp2_with (first | ((with_reducible refine gate_callee (f := 21) rfl ?_); refine goesL_ (some 56) rfl rfl Tryd.func21 (by kernel_rfl) rfl #[.agg #[.int .u8 t206, .int .u8 t207, .int .u32 t208, .slice Ao12 t209.length co12, .int .i64 t212, .int .u32 t213, .int .u32 t214, .int .u8 t215, .bool t216, .int .u32 t217, .slice Ao13 t218.length co13]] rfl (by (try simp only [List.map_toArray, List.map_cons, List.map_nil]); first | done | rfl | (simp only [List.length_drop, List.length_take]; rfl)) ?_; (with_reducible refine (frame_Put.calls kj28 t206 t207 t208 _ _ t209 t212 t213 t214 t215 t216 t217 _ _ t218 t231 _ ?side1 ?side2 ?side3 ?side4 A56.out).mono ?_); (case side1 => repeat (first | exact (Kd.R_reads' HO_224003.out).2.2 | (with_reducible refine Kd.C_alloc ?_ _) | (with_reducible refine Kd.C_drewN ?_ _) | (with_reducible refine Kd.C_drew ?_))); (case side2 => exact (Kd.R_reads' HO_224003.out).2.1); (case side3 => repeat (first | exact (Kd.R_reads' HO_224010.out).2.2 | (with_reducible refine Kd.C_alloc ?_ _) | (with_reducible refine Kd.C_drewN ?_ _) | (with_reducible refine Kd.C_drew ?_))); (case side4 => exact (Kd.R_reads' HO_224010.out).2.1); rintro e w77 ⟨v232, rfl, ho0, hb⟩; refine ⟨_, rfl, ?_⟩; have n0_ := Aside0.mk (Kd.R_elder' (by (with_reducible repeat (first | apply Kd.R_alloc | apply Kd.R_drewN | apply Kd.R_drew)); exact HO_224003.out) (Kd.R_base ho0) hb); have n1_ := Aside0.mk (Kd.R_below (by (with_reducible repeat (first | apply Kd.R_alloc | apply Kd.R_drewN | apply Kd.R_drew)); exact HO_224010.out) hb); have n2_ := Aside0.mk (Kd.R_lower (Kd.R_new' ho0 (Kd.R_lt (by (with_reducible repeat (first | apply Kd.R_alloc | apply Kd.R_drewN | apply Kd.R_drew)); exact HO_224003.out))) (below_size (by repeat (first | (with_reducible first | exact HB.out | apply below_alloc | apply pw_below_drewN | apply below_drew1 | refine below_set ?_ GE223.out | refine below_set ?_ GE224.out) | exact HB.out)))); have n3_ := Aside0.mk (blk_below (g := gb223) (o := .cells #[.int .u8 t206, .int .u8 t207, .int .u32 t208, .slice Ao12 t209.length co12, .int .i64 t212, .int .u32 t213, .int .u32 t214, .int .u8 t215, .bool t216, .int .u32 t217, .slice Ao13 t218.length co13] 38 (0, 0)) (by (with_reducible repeat (first | refine blk_drewN ?_ _ | refine blk_drew ?_ | refine blk_alloc ?_ _)); exact BK223.out) hb); have n4_ := Aside0.mk (blk_below (g := gb224) (o := .cells #[.int .u8 t221, .int .u32 t222] 24 (0, 0)) (by (with_reducible repeat (first | refine blk_drewN ?_ _ | refine blk_drew ?_ | refine blk_alloc ?_ _)); exact BK224.out) hb); have n5_ := Aside0.mk (below_step (by repeat (first | (with_reducible first | exact HB.out | apply below_alloc | apply pw_below_drewN | apply below_drew1 | refine below_set ?_ GE223.out | refine below_set ?_ GE224.out) | exact HB.out)) hb); clear HO_224003; clear HO_224010; clear BK223; clear BK224; clear HB; have HO_224003 := n0_; have HO_224010 := n1_; have HO233 := n2_; have BK223 := n3_; have BK224 := n4_; have HB := n5_; clear n0_ n1_ n2_ n3_ n4_ n5_; (try clear hb); (try clear hb2); (try clear hk); (try clear hi); (try clear ho0)) | ((with_reducible refine gate_callee (f := 20) rfl ?_); refine goesL_ (some 57) rfl rfl Tryd.func20 (by kernel_rfl) rfl #[] rfl (by (try simp only [List.map_toArray, List.map_cons, List.map_nil]); first | done | rfl | (simp only [List.length_drop, List.length_take]; rfl)) ?_; (with_reducible refine (louverlaw07_fixed.calls kj28  false _ A57.out).mono ?_); rintro e w78 ⟨rfl, hb⟩; refine ⟨_, rfl, ?_⟩; have n0_ := Aside0.mk (Kd.R_below (by (with_reducible repeat (first | apply Kd.R_alloc | apply Kd.R_drewN | apply Kd.R_drew)); exact HO_224003.out) hb); have n1_ := Aside0.mk (Kd.R_below (by (with_reducible repeat (first | apply Kd.R_alloc | apply Kd.R_drewN | apply Kd.R_drew)); exact HO_224010.out) hb); have n2_ := Aside0.mk (Kd.R_below (by (with_reducible repeat (first | apply Kd.R_alloc | apply Kd.R_drewN | apply Kd.R_drew)); exact HO233.out) hb); have n3_ := Aside0.mk (blk_below (g := gb223) (o := .cells #[.int .u8 t206, .int .u8 t207, .int .u32 t208, .slice Ao12 t209.length co12, .int .i64 t212, .int .u32 t213, .int .u32 t214, .int .u8 t215, .bool t216, .int .u32 t217, .slice Ao13 t218.length co13] 38 (0, 0)) (by (with_reducible repeat (first | refine blk_drewN ?_ _ | refine blk_drew ?_ | refine blk_alloc ?_ _)); exact BK223.out) hb); have n4_ := Aside0.mk (blk_below (g := gb224) (o := .cells #[.int .u8 t221, .int .u32 t222] 24 (0, 0)) (by (with_reducible repeat (first | refine blk_drewN ?_ _ | refine blk_drew ?_ | refine blk_alloc ?_ _)); exact BK224.out) hb); have n5_ := Aside0.mk (below_step (by repeat (first | (with_reducible first | exact HB.out | apply below_alloc | apply pw_below_drewN | apply below_drew1 | refine below_set ?_ GE223.out | refine below_set ?_ GE224.out) | exact HB.out)) hb); clear HO_224003; clear HO_224010; clear HO233; clear BK223; clear BK224; clear HB; have HO_224003 := n0_; have HO_224010 := n1_; have HO233 := n2_; have BK223 := n3_; have BK224 := n4_; have HB := n5_; clear n0_ n1_ n2_ n3_ n4_ n5_; (try clear hb); (try clear hb2); (try clear hk); (try clear hi)))
         go_ret
         exact ⟨by first | rfl | (simp [errW_none, errW_some] <;> rfl) | (simp [*, errW_none, errW_some] <;> rfl), by repeat (first | (with_reducible first | exact HB.out | apply below_alloc | apply pw_below_drewN | apply below_drew1 | refine below_set ?_ GE223.out | refine below_set ?_ GE224.out) | exact HB.out)⟩

/-- THE ONE PURE STATEMENT of louverlaw07_FrameBack: yours. -/
def louverlaw07_FrameBack.Pure : Prop := ∀ (l0 : List Int), l0.length ≤ maxLen → l0.length * 1 ≤ 140737488351232 → (∀ x ∈ l0, (Lit.int .u8 x).wf = true) → ∃ k, louverlaw07_FrameBack.f k l0 = some true
theorem louverlaw07_FrameBack.walk (P : louverlaw07_FrameBack.Pure) (a0 : Option Addr) (len0 cap0 : Nat) (z0 : List Int) (w : World) (hGV : Aside0 (WFact w)) (w0 : (a0 = none ∧ len0 = 0 ∧ cap0 = 0 ∧ z0 = []) ∨ ∃ x, a0 = some x ∧ len0 ≤ cap0 ∧ cap0 ≤ maxLen ∧ z0.length = cap0 ∧ (∀ i, i < z0.length → w.cell? (x.add i) = some (.int .u8 (z0.getD i 0))) ∧ ∀ n ∈ z0, (Lit.int .u8 n).wf = true) (y0 : len0 * 1 ≤ 140737488351232) :
  Calls Tryd.prog 7 #[.slice a0 len0 cap0] w fun e w' => e = .returned (.bool true) ∧ Below w.heap.size w w' := by
 obtain ⟨l0, rfl, hr0, hm0, hw0, hc0⟩ := ReadsInt.ofRowC w0
 obtain ⟨k, h⟩ := P l0 hm0 y0 hw0
 refine (louverlaw07_FrameBack.calls k _ _ l0 true w hGV (Kd.C_of_reads (d := (0 : Int)) (h1 := fun _ => rfl) hr0) hc0 h).mono ?_
 rintro e w' ⟨rfl, hd⟩
 exact ⟨rfl, hd⟩

end Go.Proofs.YtjjfkmniffbgkaaDoor.QFrmB

/- Printed by a program of this claim's author (wip/pr.py); not trusted: Lean checks it. -/
namespace Go.Proofs.YtjjfkmniffbgkaaDoor.QFrmN
open Go.Proofs.YtjjfkmniffbgkaaDoor Go.Proofs.YtjjfkmniffbgkaaDoor.Given Go.Proofs.YtjjfkmniffbgkaaDoor.QFrmA
open Go.RowKit Go.Proofs.YtjjfkmniffbgkaaDoorW.PrintWords Go.Proofs.YtjjfkmniffbgkaaDoorW.PrintLast Go.Proofs.YtjjfkmniffbgkaaDoorW.PrintMore
attribute [local go_sem] max2_int min2_int max_two min_two max_three min_three max_four min_four   -- for this text's walks alone
set_option linter.unusedVariables false
set_option linter.unusedSimpArgs false

def errW : Option Int → Value
 | none => .nilIface
 | some c => .iface 0 (.int .i64 c)
theorem errW_none : errW none = .nilIface := rfl
theorem errW_some (c : Int) : errW (some c) = .iface 0 (.int .i64 c) := rfl

theorem info5 : (Tryd.prog.info? 5).map (fun i => (i.zero, i.size, i.bytes)) = some (some (.int .u8 0), 1, 1) := by kernel_rfl
-- the values' own types

end Go.Proofs.YtjjfkmniffbgkaaDoor.QFrmN

/- Printed by a program of this claim's author (wip/pr.py); not trusted: Lean checks it. -/
namespace Go.Proofs.YtjjfkmniffbgkaaDoor.QFrmN
open Go.Proofs.YtjjfkmniffbgkaaDoor Go.Proofs.YtjjfkmniffbgkaaDoor.Given Go.Proofs.YtjjfkmniffbgkaaDoor.QFrmA
open Go.RowKit Go.Proofs.YtjjfkmniffbgkaaDoorW.PrintWords Go.Proofs.YtjjfkmniffbgkaaDoorW.PrintLast Go.Proofs.YtjjfkmniffbgkaaDoorW.PrintMore
attribute [local go_sem] max2_int min2_int max_two min_two max_three min_three max_four min_four   -- for this text's walks alone
set_option linter.unusedVariables false
set_option linter.unusedSimpArgs false

/-! ### louverref07_Value: function 29 -/
def louverref07_Value.l0 : Nat → ByteArray → Int → Int → Option (Int)
 | 0, _, _, _ => none
 | k + 1, x0, x3, x4 => if x4 < (x0.size : Int) then (if 0 ≤ x4 then (louverref07_Value.l0 k x0 ((((256 * x3) % 4294967296) + ((bt x0 x4) % 4294967296)) % 4294967296) (wrap64 (x4 + 1))) else (none)) else (some x3)
def louverref07_Value.f (k : Nat) (a0 : ByteArray) : Option (Int) := louverref07_Value.l0 k a0 0 0
theorem louverref07_Value.mono_l : ∀ k, (∀ y0 y1 y2, LeO (louverref07_Value.l0 k y0 y1 y2) (louverref07_Value.l0 (k + 1) y0 y1 y2))
 | 0 => fun _ _ _ r h => by simp [louverref07_Value.l0] at h
 | k + 1 => by
  have ih0 := louverref07_Value.mono_l k
  ·intro y0 y1 y2
   unfold louverref07_Value.l0
   repeat' first
   | (with_reducible exact ih0 _ _ _)
   | (with_reducible exact LeO.refl _)
   | (with_reducible exact LeO.none _)
   | (with_reducible refine LeO.ite ?_ ?_)
   | (with_reducible refine LeO.bind ?_ (fun _ => ?_))
   | exact ih0 _ _ _
   | exact LeO.none _
   | refine LeO.ite ?_ ?_
   | refine LeO.bind ?_ (fun _ => ?_)
theorem louverref07_Value.mono : ∀ a0 k, LeO (louverref07_Value.f k a0) (louverref07_Value.f (k + 1) a0) := by
 intro a0 k
 have ih0 := louverref07_Value.mono_l k
 unfold louverref07_Value.f
 repeat' first
   | (with_reducible exact ih0 _ _ _)
   | (with_reducible exact LeO.refl _)
   | (with_reducible exact LeO.none _)
   | (with_reducible refine LeO.ite ?_ ?_)
   | (with_reducible refine LeO.bind ?_ (fun _ => ?_))
   | exact ih0 _ _ _
   | exact LeO.none _
   | refine LeO.ite ?_ ?_
   | refine LeO.bind ?_ (fun _ => ?_)
set_option maxHeartbeats 8000000 in
set_option maxRecDepth 100000 in
theorem louverref07_Value.calls (k : Nat) (a0 : ByteArray) (r : Int) (w : World) (h : louverref07_Value.f k a0 = some r) :
  Calls Tryd.prog 29 #[.string a0] w fun e w' => e = .returned (.int .u32 r) ∧ Drawn0 w w' := by
 have H : (louverref07_Value.l0 k a0 0 0) = some r := h
 clear h
 have H' := Aside0.mk H
 clear H
 go_enter Tryd.func29, Tryd.ntmps29
 go_wp2
 go_loopg [3, 4] k (fun kq v3 v4 w' => ∃ (x3_1 : Int) (x4_1 : Int), v3 = .int .u32 x3_1 ∧ v4 = .int .i64 x4_1 ∧ Aside0 (louverref07_Value.l0 kq a0 x3_1 x4_1 = some r) ∧ Aside0 (kq ≤ k) ∧ Drawn0 w w')
 case atStart => exact ⟨(0), (0), (by first | rfl | (simp; done) | (simp [*]; done)), (by first | rfl | (simp; done) | (simp [*]; done)), H', ⟨Nat.le_refl _⟩, by repeat (first | exact Drawn0.refl _ | apply Drawn0.step)⟩
 case round =>
  clear H'
  obtain ⟨x3_1, x4_1, rfl, rfl, HA, HK1, ⟨m1, rfl⟩⟩ := hrel
  cases gk with
  | zero => exact absurd HA.out (by simp [louverref07_Value.l0])
  | succ k1 =>
   have H := HA.out
   clear HA
   simp only [louverref07_Value.l0] at H
   by_cases c2 : x4_1 < (a0.size : Int)
   ·rw [if_pos c2] at H
    have c2b0 : decide (x4_1 < (a0.size : Int)) = true := decide_eq_true c2
    clear c2
    by_cases c3 : 0 ≤ x4_1
    ·rw [if_pos c3] at H
     have c3b0 : decide (0 ≤ x4_1) = true := decide_eq_true c3
     clear c3
     have H' := Aside0.mk H
     clear H
     have p4 : 0 ≤ (x4_1 : Int) := of_decide_eq_true (by first | (with_reducible assumption) | assumption)
     have q4 : x4_1 < (a0.size : Int) := of_decide_eq_true (by first | (with_reducible assumption) | assumption)
     have hx4 := bt_at a0 x4_1
     replace p4 := eq_true p4
     replace q4 := eq_true q4
     go_wp2
     go_roundg k1
     case measure => have := HK1.out; omega
     case rel => exact ⟨((((256 * x3_1) % 4294967296) + ((bt a0 x4_1) % 4294967296)) % 4294967296), (wrap64 (x4_1 + 1)), (by first | rfl | (simp; done) | (simp [*]; done)), (by first | rfl | (simp; done) | (simp [*]; done)), H', ⟨by have := HK1.out; omega⟩, by repeat (first | exact Drawn0.refl _ | apply Drawn0.step)⟩
    ·rw [if_neg c3] at H
     exact absurd H (by simp)
   ·rw [if_neg c2] at H
    have c2b0 : decide (x4_1 < (a0.size : Int)) = false := decide_eq_false c2
    clear c2
    obtain rfl := Option.some.inj H
    go_wp2
    go_ret
    exact ⟨by first | rfl | (simp; done) | (simp [*]; done), by repeat (first | exact Drawn0.refl _ | apply Drawn0.step)⟩

/-! ### louverref07_Number: function 30 -/
def louverref07_Number.l0 : Nat → Int → Int → ByteArray → Int → Option (ByteArray)
 | 0, _, _, _, _ => none
 | k + 1, x0, x1, x5, x6 => if x6 < x1 then ((some (([(Int.tmod x0 256) % 256] : List Int) : List Int)).bind fun y101 => (if (strOfNums y101).size + x5.size ≤ 9223372036854775807 then (louverref07_Number.l0 k (IntKind.u64.wrap (Int.tdiv x0 256)) x1 ((strOfNums y101) ++ x5) (wrap64 (x6 + 1))) else (none))) else (some x5)
def louverref07_Number.f (k : Nat) (a0 : Int) (a1 : Int) : Option (ByteArray) := louverref07_Number.l0 k a0 a1 (⟨#[]⟩ : ByteArray) 0
theorem louverref07_Number.mono_l : ∀ k, (∀ y0 y1 y2 y3, LeO (louverref07_Number.l0 k y0 y1 y2 y3) (louverref07_Number.l0 (k + 1) y0 y1 y2 y3))
 | 0 => fun _ _ _ _ r h => by simp [louverref07_Number.l0] at h
 | k + 1 => by
  have ih0 := louverref07_Number.mono_l k
  ·intro y0 y1 y2 y3
   unfold louverref07_Number.l0
   repeat' first
   | (with_reducible exact ih0 _ _ _ _)
   | (with_reducible exact LeO.refl _)
   | (with_reducible exact LeO.none _)
   | (with_reducible refine LeO.ite ?_ ?_)
   | (with_reducible refine LeO.bind ?_ (fun _ => ?_))
   | exact ih0 _ _ _ _
   | exact LeO.none _
   | refine LeO.ite ?_ ?_
   | refine LeO.bind ?_ (fun _ => ?_)
theorem louverref07_Number.mono : ∀ a0 a1 k, LeO (louverref07_Number.f k a0 a1) (louverref07_Number.f (k + 1) a0 a1) := by
 intro a0 a1 k
 have ih0 := louverref07_Number.mono_l k
 unfold louverref07_Number.f
 repeat' first
   | (with_reducible exact ih0 _ _ _ _)
   | (with_reducible exact LeO.refl _)
   | (with_reducible exact LeO.none _)
   | (with_reducible refine LeO.ite ?_ ?_)
   | (with_reducible refine LeO.bind ?_ (fun _ => ?_))
   | exact ih0 _ _ _ _
   | exact LeO.none _
   | refine LeO.ite ?_ ?_
   | refine LeO.bind ?_ (fun _ => ?_)
set_option maxHeartbeats 8000000 in
set_option maxRecDepth 100000 in
theorem louverref07_Number.calls (k : Nat) (a0 : Int) (a1 : Int) (r : ByteArray) (w : World) (h : louverref07_Number.f k a0 a1 = some r) :
  Calls Tryd.prog 30 #[.int .u64 a0, .int .i64 a1] w fun e w' => e = .returned (.string r) ∧ Below w.heap.size w w' := by
 have HB := Aside0.mk (Below.refl w.heap.size w)
 have H : (louverref07_Number.l0 k a0 a1 (⟨#[]⟩ : ByteArray) 0) = some r := h
 clear h
 have H' := Aside0.mk H
 clear H
 go_enter Tryd.func30, Tryd.ntmps30
 go_wp2
 go_loopg [0, 5, 6] k (fun kq v0 v5 v6 w' => ∃ (x0_1 : Int) (x5_1 : ByteArray) (x6_1 : Int), v0 = .int .u64 x0_1 ∧ v5 = .string x5_1 ∧ v6 = .int .i64 x6_1 ∧ Aside0 (louverref07_Number.l0 kq x0_1 a1 x5_1 x6_1 = some r) ∧ Aside0 (kq ≤ k) ∧ Aside0 (Below w.heap.size w w'))
 case atStart => exact ⟨(a0), ((⟨#[]⟩ : ByteArray)), (0), (by first | rfl | (simp; done) | (simp [*]; done)), (by first | rfl | (simp; done) | (simp [*]; done)), (by first | rfl | (simp; done) | (simp [*]; done)), H', ⟨Nat.le_refl _⟩, ⟨by repeat (first | (with_reducible first | exact HB.out | apply below_alloc | apply pw_below_drewN | apply below_drew1) | exact HB.out)⟩⟩
 case round =>
  clear H'
  try clear p2
  obtain ⟨x0_1, x5_1, x6_1, rfl, rfl, rfl, HA, HK1, HB⟩ := hrel
  cases gk with
  | zero => exact absurd HA.out (by simp [louverref07_Number.l0])
  | succ k1 =>
   have H := HA.out
   clear HA
   simp only [louverref07_Number.l0] at H
   by_cases c3 : x6_1 < a1
   ·rw [if_pos c3] at H
    have c3b0 : decide (x6_1 < a1) = true := decide_eq_true c3
    clear c3
    obtain ⟨y101, hy101⟩ : ∃ y_ : List Int, y_ = (([(Int.tmod x0_1 256) % 256] : List Int)) := ⟨_, rfl⟩
    replace H : (if (strOfNums y101).size + x5_1.size ≤ 9223372036854775807 then (louverref07_Number.l0 k1 (IntKind.u64.wrap (Int.tdiv x0_1 256)) a1 ((strOfNums y101) ++ x5_1) (wrap64 (x6_1 + 1))) else (none)) = some r := by first | (rw [hy101]; with_reducible exact H) | (have H2_ := (Option.bind_some _ _).symm.trans H; rw [hy101]; with_reducible exact H2_) | (have H2_ := (Option.bind_some _ _).symm.trans H; with_reducible exact H2_) | with_reducible exact H | (rw [hy101]; exact H) | exact H
    have Ny101 := Aside0.mk hy101
    clear hy101
    by_cases c4 : (strOfNums y101).size + x5_1.size ≤ 9223372036854775807
    ·rw [if_pos c4] at H
     have c4b0 := eq_true c4
     have c4b1 : decide ((strOfNums y101).size + x5_1.size ≤ 9223372036854775807) = true := decide_eq_true c4
     try have c4b2 : (9223372036854775807 < (strOfNums y101).size + x5_1.size) = False := eq_false (Nat.not_lt.2 c4)
     have H' := Aside0.mk H
     clear H
     go_wp2_with (first | ((with_reducible refine gate_dst (N := 15) rfl ?_); refine Kd.R_lit (Kd.int .u8) _ 5 ?hg (N := 15) ?hd (xs := ([(Int.tmod x0_1 256) % 256] : List Int)) (inner := [.int .u8 ((Int.tmod x0_1 256) % 256)]) (ok := fun _ => True) (okp := fun _ => True) ?hr ?hp (fun _ hk => hk) trivial (Below.refl _ _) (Nat.le_refl _) (by simp) ?_; (case hd => rfl); (case hg => rfl); (case hr => first | (go_simp; done) | (go_simp; rfl)); (case hp => exact (Reps.one (show Kd.M (Kd.int .u8) _ _ _ ((Int.tmod x0_1 256) % 256) [.int .u8 ((Int.tmod x0_1 256) % 256)] from rfl) (Reps.none _ _))); intro v102 w5 ho6 hb hg_ hnew_; clear hg_ hnew_; (first | rw [← Ny101.out] at ho6 | (simp only [Int.reduceToNat] at ho6; rw [← Ny101.out] at ho6)); have n0_ := Aside0.mk (Kd.R_lower ho6 (below_size (by repeat (first | (with_reducible first | exact HB.out | apply below_alloc | apply pw_below_drewN | apply below_drew1) | exact HB.out)))); have n1_ := Aside0.mk (below_step (by repeat (first | (with_reducible first | exact HB.out | apply below_alloc | apply pw_below_drewN | apply below_drew1) | exact HB.out)) hb); clear HB; have HO103 := n0_; have HB := n1_; clear n0_ n1_; clear hb ho6; have hcv7 := own_string (P := Tryd.prog) Tryd.underlying35 Tryd.underlying5 Tryd.underlying9 (Kd.own_of_R HO103.out)))
     go_roundg k1
     case measure => have := HK1.out; omega
     case rel => exact ⟨(IntKind.u64.wrap (Int.tdiv x0_1 256)), ((strOfNums y101) ++ x5_1), (wrap64 (x6_1 + 1)), (by first | rfl | (simp; done) | (simp [*]; done)), (by first | rfl | (simp; done) | (simp [*]; done)), (by first | rfl | (simp; done) | (simp [*]; done)), H', ⟨by have := HK1.out; omega⟩, ⟨by repeat (first | (with_reducible first | exact HB.out | apply below_alloc | apply pw_below_drewN | apply below_drew1) | exact HB.out)⟩⟩
    ·rw [if_neg c4] at H
     exact absurd H (by simp)
   ·rw [if_neg c3] at H
    have c3b0 : decide (x6_1 < a1) = false := decide_eq_false c3
    clear c3
    obtain rfl := Option.some.inj H
    go_wp2
    go_ret
    exact ⟨by first | rfl | (simp [errW_none, errW_some] <;> rfl) | (simp [*, errW_none, errW_some] <;> rfl), by repeat (first | (with_reducible first | exact HB.out | apply below_alloc | apply pw_below_drewN | apply below_drew1) | exact HB.out)⟩

/-! ### louverref07_low: function 55 -/
def louverref07_low.f (a0 : Int) : Option (Int) := some (Int.tmod a0 2147483648)
set_option maxHeartbeats 8000000 in
set_option maxRecDepth 100000 in
theorem louverref07_low.calls (a0 : Int) (r : Int) (w : World) (h : louverref07_low.f a0 = some r) :
  Calls Tryd.prog 55 #[.int .u32 a0] w fun e w' => e = .returned (.int .u32 r) ∧ Drawn0 w w' := by
 have H : (some (Int.tmod a0 2147483648)) = some r := h
 clear h
 obtain rfl := Option.some.inj H
 go_enter Tryd.func55, Tryd.ntmps55
 go_wp2
 go_ret
 exact ⟨by first | rfl | (simp; done) | (simp [*]; done), by repeat (first | exact Drawn0.refl _ | apply Drawn0.step)⟩

/-! ### louverref07_pads: function 50 -/
def louverref07_pads.f (a0 : Int) : Option (Bool) := if a0 = 0 then (some true) else (if a0 = 1 then (some true) else (some (a0 == 5)))
set_option maxHeartbeats 8000000 in
set_option maxRecDepth 100000 in
theorem louverref07_pads.calls (a0 : Int) (r : Bool) (w : World) (h : louverref07_pads.f a0 = some r) :
  Calls Tryd.prog 50 #[.int .u8 a0] w fun e w' => e = .returned (.bool r) ∧ Drawn0 w w' := by
 have H : (if a0 = 0 then (some true) else (if a0 = 1 then (some true) else (some (a0 == 5)))) = some r := h
 clear h
 by_cases c2 : a0 = 0
 ·rw [if_pos c2] at H
  have c2b0 : (a0 == 0) = true := beq_iff_eq.mpr c2
  have c2b1 : (a0 != 0) = false := bne_eq_false_iff_eq.mpr c2
  clear c2
  obtain rfl := Option.some.inj H
  go_enter Tryd.func50, Tryd.ntmps50
  go_wp2
  go_ret
  exact ⟨by first | rfl | (simp; done) | (simp [*]; done), by repeat (first | exact Drawn0.refl _ | apply Drawn0.step)⟩
 ·rw [if_neg c2] at H
  have c2b0 : (a0 == 0) = false := beq_eq_false_iff_ne.mpr c2
  have c2b1 : (a0 != 0) = true := bne_iff_ne.mpr c2
  by_cases c3 : a0 = 1
  ·rw [if_pos c3] at H
   have c3b0 : (a0 == 1) = true := beq_iff_eq.mpr c3
   have c3b1 : (a0 != 1) = false := bne_eq_false_iff_eq.mpr c3
   clear c3
   obtain rfl := Option.some.inj H
   go_enter Tryd.func50, Tryd.ntmps50
   go_wp2
   go_ret
   exact ⟨by first | rfl | (simp; done) | (simp [*]; done), by repeat (first | exact Drawn0.refl _ | apply Drawn0.step)⟩
  ·rw [if_neg c3] at H
   have c3b0 : (a0 == 1) = false := beq_eq_false_iff_ne.mpr c3
   have c3b1 : (a0 != 1) = true := bne_iff_ne.mpr c3
   obtain rfl := Option.some.inj H
   go_enter Tryd.func50, Tryd.ntmps50
   go_wp2
   go_ret
   exact ⟨by first | rfl | (simp; done) | (simp [*]; done), by repeat (first | exact Drawn0.refl _ | apply Drawn0.step)⟩

/-- THE ONE PURE STATEMENT of louverref07_pads: yours. -/
def louverref07_pads.Pure : Prop := ∀ (a0 : Int), (Lit.int .u8 a0).wf = true → louverref07_pads.f a0 = some true
theorem louverref07_pads.walk (P : louverref07_pads.Pure) (a0 : Int) (w : World) (w0 : (Lit.int .u8 a0).wf = true) :
  Calls Tryd.prog 50 #[.int .u8 a0] w fun e w' => e = .returned (.bool true) ∧ Below w.heap.size w w' := by
 have h := P a0 w0
 refine (louverref07_pads.calls a0 true w h).mono ?_
 rintro e w' ⟨rfl, hd⟩
 exact ⟨rfl, hd.below⟩

end Go.Proofs.YtjjfkmniffbgkaaDoor.QFrmN
