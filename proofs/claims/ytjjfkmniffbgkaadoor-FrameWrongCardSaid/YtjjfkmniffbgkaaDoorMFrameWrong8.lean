/- Texts of this claim, put together: QFrmBx6. -/
import Derived.Test.YtjjfkmniffbgkaaDoorMFrameWrong5
import Derived.Test.YtjjfkmniffbgkaaDoorMFrameWrong6
import Derived.Test.YtjjfkmniffbgkaaDoorMFrameWrong7
/- Printed by a program of this claim's author (wip/pr.py); not trusted: Lean checks it. -/
namespace Go.Proofs.YtjjfkmniffbgkaaDoor.QFrmB
open Go.Proofs.YtjjfkmniffbgkaaDoor Go.Proofs.YtjjfkmniffbgkaaDoor.Given Go.Proofs.YtjjfkmniffbgkaaDoor.QFrmA
open Go.RowKit Go.Proofs.YtjjfkmniffbgkaaDoorW.PrintWords Go.Proofs.YtjjfkmniffbgkaaDoorW.PrintLast Go.Proofs.YtjjfkmniffbgkaaDoorW.PrintMore
attribute [local go_sem] max2_int min2_int max_two min_two max_three min_three max_four min_four   -- for this text's walks alone
set_option linter.unusedVariables false
set_option linter.unusedSimpArgs false

/-! ### frame_May: function 22 -/
mutual
def frame_May.j0 : Nat → Bool → Int → Int → Int → List Int → Int → Int → Int → Int → Bool → Int → List (S99) → Option (Bool)
 | 0, _, _, _, _, _, _, _, _, _, _, _, _ => none
 | k + 1, x3, x171000, x171001, x171002, x171003, x171004, x171005, x171006, x171007, x171008, x171009, x171010 => if x171002 > 2147483647 then (frame_May.j1 k x3 (decide (x171002 > 2147483647)) x171000 x171001 x171002 x171003 x171004 x171005 x171006 x171007 x171008 x171009 x171010) else (if x171006 > 2147483647 then (frame_May.j1 k x3 (decide (x171006 > 2147483647)) x171000 x171001 x171002 x171003 x171004 x171005 x171006 x171007 x171008 x171009 x171010) else (if x171009 > 2147483647 then (frame_May.j1 k x3 (decide (x171009 > 2147483647)) x171000 x171001 x171002 x171003 x171004 x171005 x171006 x171007 x171008 x171009 x171010) else ((frame_fields.f k x171000 x171001 x171002 x171003 x171004 x171005 x171006 x171007 x171008 x171009 x171010).bind fun t172 => (frame_May.j1 k x3 (!t172) x171000 x171001 x171002 x171003 x171004 x171005 x171006 x171007 x171008 x171009 x171010))))
def frame_May.j1 : Nat → Bool → Bool → Int → Int → Int → List Int → Int → Int → Int → Int → Bool → Int → List (S99) → Option (Bool)
 | 0, _, _, _, _, _, _, _, _, _, _, _, _, _ => none
 | k + 1, x3, x13, x171000, x171001, x171002, x171003, x171004, x171005, x171006, x171007, x171008, x171009, x171010 => if x13 = true then (some false) else (if x3 = true then (if x171004 < 0 then (frame_May.j2 k x3 true x171000 x171001 x171002 x171003 x171004 x171005 x171006 x171007 x171008 x171009 x171010) else (frame_May.j2 k x3 (decide (x171004 > 255)) x171000 x171001 x171002 x171003 x171004 x171005 x171006 x171007 x171008 x171009 x171010)) else (frame_May.j2 k x3 false x171000 x171001 x171002 x171003 x171004 x171005 x171006 x171007 x171008 x171009 x171010))
def frame_May.j2 : Nat → Bool → Bool → Int → Int → Int → List Int → Int → Int → Int → Int → Bool → Int → List (S99) → Option (Bool)
 | 0, _, _, _, _, _, _, _, _, _, _, _, _, _ => none
 | k + 1, x3, x26, x171000, x171001, x171002, x171003, x171004, x171005, x171006, x171007, x171008, x171009, x171010 => if x26 = true then (frame_May.j3 k x26 x171000 x171001 x171002 x171003 x171004 x171005 x171006 x171007 x171008 x171009 x171010) else (if x3 = true then (frame_May.j3 k false x171000 x171001 x171002 x171003 x171004 x171005 x171006 x171007 x171008 x171009 x171010) else (frame_May.j3 k (x171004 != (-1)) x171000 x171001 x171002 x171003 x171004 x171005 x171006 x171007 x171008 x171009 x171010))
def frame_May.j3 : Nat → Bool → Int → Int → Int → List Int → Int → Int → Int → Int → Bool → Int → List (S99) → Option (Bool)
 | 0, _, _, _, _, _, _, _, _, _, _, _, _ => none
 | k + 1, x26, x171000, x171001, x171002, x171003, x171004, x171005, x171006, x171007, x171008, x171009, x171010 => if x26 = true then (some false) else (if x171000 = 6 then (if (x171003.length : Int) = 8 then (if (x171003.length : Int) ≤ 16384 then (if (x171010.length : Int) ≤ 2730 then ((frame_payload.f k x171000 x171001 x171002 x171003 x171004 x171005 x171006 x171007 x171008 x171009 x171010).bind fun t173 => (some (decide ((t173.length : Int) ≤ 16384)))) else (some false)) else (some false)) else (some false)) else (if (x171003.length : Int) ≤ 16384 then (if (x171010.length : Int) ≤ 2730 then ((frame_payload.f k x171000 x171001 x171002 x171003 x171004 x171005 x171006 x171007 x171008 x171009 x171010).bind fun t176 => (some (decide ((t176.length : Int) ≤ 16384)))) else (some false)) else (some false)))
end
def frame_May.f (k : Nat) (a0_0 : Int) (a0_1 : Int) (a0_2 : Int) (l0_3 : List Int) (a0_4 : Int) (a0_5 : Int) (a0_6 : Int) (a0_7 : Int) (a0_8 : Bool) (a0_9 : Int) (l0_10 : List (S99)) : Option (Bool) := (frame_pads.f a0_0).bind fun t171 => (if t171 = true then (frame_May.j0 k ((Go.bits .and .u8 a0_1 8) != 0) a0_0 a0_1 a0_2 l0_3 a0_4 a0_5 a0_6 a0_7 a0_8 a0_9 l0_10) else (frame_May.j0 k false a0_0 a0_1 a0_2 l0_3 a0_4 a0_5 a0_6 a0_7 a0_8 a0_9 l0_10))
theorem frame_May.mono_l : ∀ k, (∀ y0 y1 y2 y3 y4 y5 y6 y7 y8 y9 y10 y11, LeO (frame_May.j0 k y0 y1 y2 y3 y4 y5 y6 y7 y8 y9 y10 y11) (frame_May.j0 (k + 1) y0 y1 y2 y3 y4 y5 y6 y7 y8 y9 y10 y11)) ∧ (∀ y0 y1 y2 y3 y4 y5 y6 y7 y8 y9 y10 y11 y12, LeO (frame_May.j1 k y0 y1 y2 y3 y4 y5 y6 y7 y8 y9 y10 y11 y12) (frame_May.j1 (k + 1) y0 y1 y2 y3 y4 y5 y6 y7 y8 y9 y10 y11 y12)) ∧ (∀ y0 y1 y2 y3 y4 y5 y6 y7 y8 y9 y10 y11 y12, LeO (frame_May.j2 k y0 y1 y2 y3 y4 y5 y6 y7 y8 y9 y10 y11 y12) (frame_May.j2 (k + 1) y0 y1 y2 y3 y4 y5 y6 y7 y8 y9 y10 y11 y12)) ∧ (∀ y0 y1 y2 y3 y4 y5 y6 y7 y8 y9 y10 y11, LeO (frame_May.j3 k y0 y1 y2 y3 y4 y5 y6 y7 y8 y9 y10 y11) (frame_May.j3 (k + 1) y0 y1 y2 y3 y4 y5 y6 y7 y8 y9 y10 y11))
 | 0 => ⟨fun _ _ _ _ _ _ _ _ _ _ _ _ r h => by simp [frame_May.j0] at h, fun _ _ _ _ _ _ _ _ _ _ _ _ _ r h => by simp [frame_May.j1] at h, fun _ _ _ _ _ _ _ _ _ _ _ _ _ r h => by simp [frame_May.j2] at h, fun _ _ _ _ _ _ _ _ _ _ _ _ r h => by simp [frame_May.j3] at h⟩
 | k + 1 => by
  obtain ⟨ih0, ih1, ih2, ih3⟩ := frame_May.mono_l k
  refine ⟨?_, ?_, ?_, ?_⟩
  ·intro y0 y1 y2 y3 y4 y5 y6 y7 y8 y9 y10 y11
   unfold frame_May.j0
   repeat' first
   | (with_reducible exact ih0 _ _ _ _ _ _ _ _ _ _ _ _)
   | (with_reducible exact ih1 _ _ _ _ _ _ _ _ _ _ _ _ _)
   | (with_reducible exact ih2 _ _ _ _ _ _ _ _ _ _ _ _ _)
   | (with_reducible exact ih3 _ _ _ _ _ _ _ _ _ _ _ _)
   | (with_reducible exact frame_fields.mono _ _ _ _ _ _ _ _ _ _ _ _)
   | (with_reducible exact frame_payload.mono _ _ _ _ _ _ _ _ _ _ _ _)
   | (with_reducible exact LeO.refl _)
   | (with_reducible exact LeO.none _)
   | (with_reducible refine LeO.ite ?_ ?_)
   | (with_reducible refine LeO.bind ?_ (fun _ => ?_))
   | exact ih0 _ _ _ _ _ _ _ _ _ _ _ _
   | exact ih1 _ _ _ _ _ _ _ _ _ _ _ _ _
   | exact ih2 _ _ _ _ _ _ _ _ _ _ _ _ _
   | exact ih3 _ _ _ _ _ _ _ _ _ _ _ _
   | exact frame_fields.mono _ _ _ _ _ _ _ _ _ _ _ _
   | exact frame_payload.mono _ _ _ _ _ _ _ _ _ _ _ _
   | exact LeO.none _
   | refine LeO.ite ?_ ?_
   | refine LeO.bind ?_ (fun _ => ?_)
  ·intro y0 y1 y2 y3 y4 y5 y6 y7 y8 y9 y10 y11 y12
   unfold frame_May.j1
   repeat' first
   | (with_reducible exact ih0 _ _ _ _ _ _ _ _ _ _ _ _)
   | (with_reducible exact ih1 _ _ _ _ _ _ _ _ _ _ _ _ _)
   | (with_reducible exact ih2 _ _ _ _ _ _ _ _ _ _ _ _ _)
   | (with_reducible exact ih3 _ _ _ _ _ _ _ _ _ _ _ _)
   | (with_reducible exact frame_fields.mono _ _ _ _ _ _ _ _ _ _ _ _)
   | (with_reducible exact frame_payload.mono _ _ _ _ _ _ _ _ _ _ _ _)
   | (with_reducible exact LeO.refl _)
   | (with_reducible exact LeO.none _)
   | (with_reducible refine LeO.ite ?_ ?_)
   | (with_reducible refine LeO.bind ?_ (fun _ => ?_))
   | exact ih0 _ _ _ _ _ _ _ _ _ _ _ _
   | exact ih1 _ _ _ _ _ _ _ _ _ _ _ _ _
   | exact ih2 _ _ _ _ _ _ _ _ _ _ _ _ _
   | exact ih3 _ _ _ _ _ _ _ _ _ _ _ _
   | exact frame_fields.mono _ _ _ _ _ _ _ _ _ _ _ _
   | exact frame_payload.mono _ _ _ _ _ _ _ _ _ _ _ _
   | exact LeO.none _
   | refine LeO.ite ?_ ?_
   | refine LeO.bind ?_ (fun _ => ?_)
  ·intro y0 y1 y2 y3 y4 y5 y6 y7 y8 y9 y10 y11 y12
   unfold frame_May.j2
   repeat' first
   | (with_reducible exact ih0 _ _ _ _ _ _ _ _ _ _ _ _)
   | (with_reducible exact ih1 _ _ _ _ _ _ _ _ _ _ _ _ _)
   | (with_reducible exact ih2 _ _ _ _ _ _ _ _ _ _ _ _ _)
   | (with_reducible exact ih3 _ _ _ _ _ _ _ _ _ _ _ _)
   | (with_reducible exact frame_fields.mono _ _ _ _ _ _ _ _ _ _ _ _)
   | (with_reducible exact frame_payload.mono _ _ _ _ _ _ _ _ _ _ _ _)
   | (with_reducible exact LeO.refl _)
   | (with_reducible exact LeO.none _)
   | (with_reducible refine LeO.ite ?_ ?_)
   | (with_reducible refine LeO.bind ?_ (fun _ => ?_))
   | exact ih0 _ _ _ _ _ _ _ _ _ _ _ _
   | exact ih1 _ _ _ _ _ _ _ _ _ _ _ _ _
   | exact ih2 _ _ _ _ _ _ _ _ _ _ _ _ _
   | exact ih3 _ _ _ _ _ _ _ _ _ _ _ _
   | exact frame_fields.mono _ _ _ _ _ _ _ _ _ _ _ _
   | exact frame_payload.mono _ _ _ _ _ _ _ _ _ _ _ _
   | exact LeO.none _
   | refine LeO.ite ?_ ?_
   | refine LeO.bind ?_ (fun _ => ?_)
  ·intro y0 y1 y2 y3 y4 y5 y6 y7 y8 y9 y10 y11
   unfold frame_May.j3
   repeat' first
   | (with_reducible exact ih0 _ _ _ _ _ _ _ _ _ _ _ _)
   | (with_reducible exact ih1 _ _ _ _ _ _ _ _ _ _ _ _ _)
   | (with_reducible exact ih2 _ _ _ _ _ _ _ _ _ _ _ _ _)
   | (with_reducible exact ih3 _ _ _ _ _ _ _ _ _ _ _ _)
   | (with_reducible exact frame_fields.mono _ _ _ _ _ _ _ _ _ _ _ _)
   | (with_reducible exact frame_payload.mono _ _ _ _ _ _ _ _ _ _ _ _)
   | (with_reducible exact LeO.refl _)
   | (with_reducible exact LeO.none _)
   | (with_reducible refine LeO.ite ?_ ?_)
   | (with_reducible refine LeO.bind ?_ (fun _ => ?_))
   | exact ih0 _ _ _ _ _ _ _ _ _ _ _ _
   | exact ih1 _ _ _ _ _ _ _ _ _ _ _ _ _
   | exact ih2 _ _ _ _ _ _ _ _ _ _ _ _ _
   | exact ih3 _ _ _ _ _ _ _ _ _ _ _ _
   | exact frame_fields.mono _ _ _ _ _ _ _ _ _ _ _ _
   | exact frame_payload.mono _ _ _ _ _ _ _ _ _ _ _ _
   | exact LeO.none _
   | refine LeO.ite ?_ ?_
   | refine LeO.bind ?_ (fun _ => ?_)
theorem frame_May.mono : ∀ a0 a1 a2 a3 a4 a5 a6 a7 a8 a9 a10 k, LeO (frame_May.f k a0 a1 a2 a3 a4 a5 a6 a7 a8 a9 a10) (frame_May.f (k + 1) a0 a1 a2 a3 a4 a5 a6 a7 a8 a9 a10) := by
 intro a0 a1 a2 a3 a4 a5 a6 a7 a8 a9 a10 k
 obtain ⟨ih0, ih1, ih2, ih3⟩ := frame_May.mono_l k
 unfold frame_May.f
 repeat' first
   | (with_reducible exact ih0 _ _ _ _ _ _ _ _ _ _ _ _)
   | (with_reducible exact ih1 _ _ _ _ _ _ _ _ _ _ _ _ _)
   | (with_reducible exact ih2 _ _ _ _ _ _ _ _ _ _ _ _ _)
   | (with_reducible exact ih3 _ _ _ _ _ _ _ _ _ _ _ _)
   | (with_reducible exact frame_fields.mono _ _ _ _ _ _ _ _ _ _ _ _)
   | (with_reducible exact frame_payload.mono _ _ _ _ _ _ _ _ _ _ _ _)
   | (with_reducible exact LeO.refl _)
   | (with_reducible exact LeO.none _)
   | (with_reducible refine LeO.ite ?_ ?_)
   | (with_reducible refine LeO.bind ?_ (fun _ => ?_))
   | exact ih0 _ _ _ _ _ _ _ _ _ _ _ _
   | exact ih1 _ _ _ _ _ _ _ _ _ _ _ _ _
   | exact ih2 _ _ _ _ _ _ _ _ _ _ _ _ _
   | exact ih3 _ _ _ _ _ _ _ _ _ _ _ _
   | exact frame_fields.mono _ _ _ _ _ _ _ _ _ _ _ _
   | exact frame_payload.mono _ _ _ _ _ _ _ _ _ _ _ _
   | exact LeO.none _
   | refine LeO.ite ?_ ?_
   | refine LeO.bind ?_ (fun _ => ?_)
set_option maxHeartbeats 8000000 in
set_option maxRecDepth 100000 in
theorem frame_May.calls (k : Nat) (a0_0 : Int) (a0_1 : Int) (a0_2 : Int) (A0_3 : Option Addr) (c0_3 : Nat) (l0_3 : List Int) (a0_4 : Int) (a0_5 : Int) (a0_6 : Int) (a0_7 : Int) (a0_8 : Bool) (a0_9 : Int) (A0_10 : Option Addr) (c0_10 : Nat) (l0_10 : List (S99)) (r : Bool) (w : World) (hr0_3 : Kd.C (Kd.int .u8) w A0_3 l0_3.length l0_3) (hc0_3 : l0_3.length ≤ c0_3) (hr0_10 : Kd.C k99 w A0_10 l0_10.length l0_10) (hc0_10 : l0_10.length ≤ c0_10) (h : frame_May.f k a0_0 a0_1 a0_2 l0_3 a0_4 a0_5 a0_6 a0_7 a0_8 a0_9 l0_10 = some r) :
  Calls Tryd.prog 22 #[.agg #[.int .u8 a0_0, .int .u8 a0_1, .int .u32 a0_2, .slice A0_3 l0_3.length c0_3, .int .i64 a0_4, .int .u32 a0_5, .int .u32 a0_6, .int .u8 a0_7, .bool a0_8, .int .u32 a0_9, .slice A0_10 l0_10.length c0_10]] w fun e w' => e = .returned (.bool r) ∧ Below w.heap.size w w' := by
 have hu38 := Tryd.underlying38
 have HR0_3 := Aside0.mk hr0_3
 have HC0_3 := Aside0.mk hc0_3
 clear hr0_3 hc0_3
 have HR0_10 := Aside0.mk hr0_10
 have HC0_10 := Aside0.mk hc0_10
 clear hr0_10 hc0_10
 have HB := Aside0.mk (Below.refl w.heap.size w)
 have H : ((frame_pads.f a0_0).bind fun t171 => (if t171 = true then (frame_May.j0 k ((Go.bits .and .u8 a0_1 8) != 0) a0_0 a0_1 a0_2 l0_3 a0_4 a0_5 a0_6 a0_7 a0_8 a0_9 l0_10) else (frame_May.j0 k false a0_0 a0_1 a0_2 l0_3 a0_4 a0_5 a0_6 a0_7 a0_8 a0_9 l0_10))) = some r := h
 clear h
 have HC2 := Aside0.mk H
 clear H
 go_enter Tryd.func22, Tryd.ntmps22
 go_upto_region 1 with (first | ((with_reducible refine gate_dst (N := 1) rfl ?_); (try (refine gate_guard (by rfl) ?_; dsimp only)); refine box_event ?hg (N := 1) ?hd (cs := #[.int .u8 a0_0, .int .u8 a0_1, .int .u32 a0_2, .slice A0_3 l0_3.length c0_3, .int .i64 a0_4, .int .u32 a0_5, .int .u32 a0_6, .int .u8 a0_7, .bool a0_8, .int .u32 a0_9, .slice A0_10 l0_10.length c0_10]) (t := 38) ?hr ?_; (case hd => rfl); (case hg => rfl); (case hr => first | (go_simp; done) | (go_simp; rfl)); intro gb170 hg w3 hbox hb; have n0_ := Aside0.mk (below_step (by repeat (first | (with_reducible first | exact HB.out | apply below_alloc | apply pw_below_drewN | apply below_drew1) | exact HB.out)) hb); have n1_ := Aside0.mk (hbox); have n2_ := Aside0.mk ((by rw [hg]; exact (below_size (by repeat (first | (with_reducible first | exact HB.out | apply below_alloc | apply pw_below_drewN | apply below_drew1) | exact HB.out))) : w.heap.size ≤ gb170)); have n3_ := Aside0.mk ((by rw [hg]; exact (below_size (by repeat (first | (with_reducible first | exact HB.out | apply below_alloc | apply pw_below_drewN | apply below_drew1) | exact HB.out))) : w.heap.size ≤ gb170)); clear HB; have HB := n0_; have BK170 := n1_; have GW170 := n2_; have GE170 := n3_; clear n0_ n1_ n2_ n3_; clear hb hbox hg))
 (try simp only [Act.put, List.setIfInBounds_toArray, List.set_cons_zero, List.set_cons_succ])
 go_cut [3] (fun v3 wc => ∃ (kq : Nat) (x3_1 : Bool), v3 = .bool x3_1 ∧ Aside0 (frame_May.j0 kq x3_1 a0_0 a0_1 a0_2 l0_3 a0_4 a0_5 a0_6 a0_7 a0_8 a0_9 l0_10 = some r) ∧ Aside0 (kq ≤ k) ∧ Aside0 (wc.heap[gb170]? = some (.cells #[.int .u8 a0_0, .int .u8 a0_1, .int .u32 a0_2, (.slice A0_3 l0_3.length c0_3), .int .i64 a0_4, .int .u32 a0_5, .int .u32 a0_6, .int .u8 a0_7, .bool a0_8, .int .u32 a0_9, (.slice A0_10 l0_10.length c0_10)] 38 (0, 0))) ∧ Aside0 (Below w.heap.size w wc))
 case first =>
  have H := HC2.out
  clear HC2
  replace H := Option.bind_eq_some_iff.mp H
  obtain ⟨t171, A40, H⟩ := H
  replace H : (if t171 = true then (frame_May.j0 k ((Go.bits .and .u8 a0_1 8) != 0) a0_0 a0_1 a0_2 l0_3 a0_4 a0_5 a0_6 a0_7 a0_8 a0_9 l0_10) else (frame_May.j0 k false a0_0 a0_1 a0_2 l0_3 a0_4 a0_5 a0_6 a0_7 a0_8 a0_9 l0_10)) = some r := H
  have A4 := Aside0.mk A40
  clear A40
  by_cases c5 : t171 = true
  ·subst c5
   have H1 : (frame_May.j0 k ((Go.bits .and .u8 a0_1 8) != 0) a0_0 a0_1 a0_2 l0_3 a0_4 a0_5 a0_6 a0_7 a0_8 a0_9 l0_10) = some r := by rw [if_pos rfl] at H; exact H
   clear H
   have H := H1
   clear H1
   have H' := Aside0.mk H
   clear H
   have z6_0 : w3.cell? ⟨gb170, 0, none⟩ = some (.int .u8 a0_0) := (blk_cell BK170.out 0).trans rfl
   have z6_1 : w3.cell? ⟨gb170, 1, none⟩ = some (.int .u8 a0_1) := (blk_cell BK170.out 1).trans rfl
   have z6_2 : w3.cell? ⟨gb170, 2, none⟩ = some (.int .u32 a0_2) := (blk_cell BK170.out 2).trans rfl
   have z6_3 : w3.cell? ⟨gb170, 3, none⟩ = some (.slice A0_3 l0_3.length c0_3) := (blk_cell BK170.out 3).trans rfl
   have z6_4 : w3.cell? ⟨gb170, 4, none⟩ = some (.int .i64 a0_4) := (blk_cell BK170.out 4).trans rfl
   have z6_5 : w3.cell? ⟨gb170, 5, none⟩ = some (.int .u32 a0_5) := (blk_cell BK170.out 5).trans rfl
   have z6_6 : w3.cell? ⟨gb170, 6, none⟩ = some (.int .u32 a0_6) := (blk_cell BK170.out 6).trans rfl
   have z6_7 : w3.cell? ⟨gb170, 7, none⟩ = some (.int .u8 a0_7) := (blk_cell BK170.out 7).trans rfl
   have z6_8 : w3.cell? ⟨gb170, 8, none⟩ = some (.bool a0_8) := (blk_cell BK170.out 8).trans rfl
   have z6_9 : w3.cell? ⟨gb170, 9, none⟩ = some (.int .u32 a0_9) := (blk_cell BK170.out 9).trans rfl
   have z6_10 : w3.cell? ⟨gb170, 10, none⟩ = some (.slice A0_10 l0_10.length c0_10) := (blk_cell BK170.out 10).trans rfl
   have y6_0 := blk_frozen BK170.out 0
   have y6_1 := blk_frozen BK170.out 1
   have y6_2 := blk_frozen BK170.out 2
   have y6_3 := blk_frozen BK170.out 3
   have y6_4 := blk_frozen BK170.out 4
   have y6_5 := blk_frozen BK170.out 5
   have y6_6 := blk_frozen BK170.out 6
   have y6_7 := blk_frozen BK170.out 7
   have y6_8 := blk_frozen BK170.out 8
   have y6_9 := blk_frozen BK170.out 9
   have y6_10 := blk_frozen BK170.out 10
   go_wp2_with (first | ((with_reducible refine gate_callee (f := 48) rfl ?_); refine goesL_ (some 6) rfl rfl Tryd.func48 (by kernel_rfl) rfl #[.int .u8 a0_0] rfl (by (try simp only [List.map_toArray, List.map_cons, List.map_nil]); first | done | rfl | (simp only [List.length_drop, List.length_take]; rfl)) ?_; (with_reducible refine (frame_pads.calls a0_0 true _ A4.out).mono ?_); rintro e w' ⟨rfl, ⟨nd, rfl⟩⟩; refine ⟨_, rfl, ?_⟩))
   go_meet
   case rel => exact ⟨_, (((Go.bits .and .u8 a0_1 8) != 0)), (by first | rfl | (simp; done) | (simp [*]; done)), H', ⟨by first | omega | exact Nat.le_refl _⟩, ⟨by (with_reducible repeat (first | refine blk_drewN ?_ _ | refine blk_drew ?_ | refine blk_alloc ?_ _)); exact BK170.out⟩, ⟨by repeat (first | (with_reducible first | exact HB.out | apply below_alloc | apply pw_below_drewN | apply below_drew1 | refine below_set ?_ GE170.out) | exact HB.out)⟩⟩
  ·replace c5 := Bool.eq_false_iff.mpr c5
   subst c5
   have H1 : (frame_May.j0 k false a0_0 a0_1 a0_2 l0_3 a0_4 a0_5 a0_6 a0_7 a0_8 a0_9 l0_10) = some r := by rw [if_neg (show ¬ (false = true) by decide)] at H; exact H
   clear H
   have H := H1
   clear H1
   have H' := Aside0.mk H
   clear H
   have z7_0 : w3.cell? ⟨gb170, 0, none⟩ = some (.int .u8 a0_0) := (blk_cell BK170.out 0).trans rfl
   have z7_1 : w3.cell? ⟨gb170, 1, none⟩ = some (.int .u8 a0_1) := (blk_cell BK170.out 1).trans rfl
   have z7_2 : w3.cell? ⟨gb170, 2, none⟩ = some (.int .u32 a0_2) := (blk_cell BK170.out 2).trans rfl
   have z7_3 : w3.cell? ⟨gb170, 3, none⟩ = some (.slice A0_3 l0_3.length c0_3) := (blk_cell BK170.out 3).trans rfl
   have z7_4 : w3.cell? ⟨gb170, 4, none⟩ = some (.int .i64 a0_4) := (blk_cell BK170.out 4).trans rfl
   have z7_5 : w3.cell? ⟨gb170, 5, none⟩ = some (.int .u32 a0_5) := (blk_cell BK170.out 5).trans rfl
   have z7_6 : w3.cell? ⟨gb170, 6, none⟩ = some (.int .u32 a0_6) := (blk_cell BK170.out 6).trans rfl
   have z7_7 : w3.cell? ⟨gb170, 7, none⟩ = some (.int .u8 a0_7) := (blk_cell BK170.out 7).trans rfl
   have z7_8 : w3.cell? ⟨gb170, 8, none⟩ = some (.bool a0_8) := (blk_cell BK170.out 8).trans rfl
   have z7_9 : w3.cell? ⟨gb170, 9, none⟩ = some (.int .u32 a0_9) := (blk_cell BK170.out 9).trans rfl
   have z7_10 : w3.cell? ⟨gb170, 10, none⟩ = some (.slice A0_10 l0_10.length c0_10) := (blk_cell BK170.out 10).trans rfl
   have y7_0 := blk_frozen BK170.out 0
   have y7_1 := blk_frozen BK170.out 1
   have y7_2 := blk_frozen BK170.out 2
   have y7_3 := blk_frozen BK170.out 3
   have y7_4 := blk_frozen BK170.out 4
   have y7_5 := blk_frozen BK170.out 5
   have y7_6 := blk_frozen BK170.out 6
   have y7_7 := blk_frozen BK170.out 7
   have y7_8 := blk_frozen BK170.out 8
   have y7_9 := blk_frozen BK170.out 9
   have y7_10 := blk_frozen BK170.out 10
   go_wp2_with (first | ((with_reducible refine gate_callee (f := 48) rfl ?_); refine goesL_ (some 6) rfl rfl Tryd.func48 (by kernel_rfl) rfl #[.int .u8 a0_0] rfl (by (try simp only [List.map_toArray, List.map_cons, List.map_nil]); first | done | rfl | (simp only [List.length_drop, List.length_take]; rfl)) ?_; (with_reducible refine (frame_pads.calls a0_0 false _ A4.out).mono ?_); rintro e w' ⟨rfl, ⟨nd, rfl⟩⟩; refine ⟨_, rfl, ?_⟩))
   go_meet
   case rel => exact ⟨_, (false), (by first | rfl | (simp; done) | (simp [*]; done)), H', ⟨by first | omega | exact Nat.le_refl _⟩, ⟨by (with_reducible repeat (first | refine blk_drewN ?_ _ | refine blk_drew ?_ | refine blk_alloc ?_ _)); exact BK170.out⟩, ⟨by repeat (first | (with_reducible first | exact HB.out | apply below_alloc | apply pw_below_drewN | apply below_drew1 | refine below_set ?_ GE170.out) | exact HB.out)⟩⟩
 case rest =>
  clear HC2
  try clear c2
  try clear p2
  try clear c4
  try clear c5
  try clear z6_0 z6_1 z6_10 z6_2 z6_3 z6_4 z6_5 z6_6 z6_7 z6_8 z6_9 z7_0 z7_1 z7_10 z7_2 z7_3 z7_4 z7_5 z7_6 z7_7 z7_8 z7_9 y6_0 y6_1 y6_10 y6_2 y6_3 y6_4 y6_5 y6_6 y6_7 y6_8 y6_9 y7_0 y7_1 y7_10 y7_2 y7_3 y7_4 y7_5 y7_6 y7_7 y7_8 y7_9
  obtain ⟨kq, x3_1, rfl, HA, HJ1, BK170, HB⟩ := hcut
  cases kq with
  | zero => exact absurd HA.out (by simp [frame_May.j0])
  | succ kj1 =>
   have H := HA.out
   clear HA
   simp only [frame_May.j0] at H
   have HC8 := Aside0.mk H
   clear H
   have z9_0 : wc.cell? ⟨gb170, 0, none⟩ = some (.int .u8 a0_0) := (blk_cell BK170.out 0).trans rfl
   have z9_1 : wc.cell? ⟨gb170, 1, none⟩ = some (.int .u8 a0_1) := (blk_cell BK170.out 1).trans rfl
   have z9_2 : wc.cell? ⟨gb170, 2, none⟩ = some (.int .u32 a0_2) := (blk_cell BK170.out 2).trans rfl
   have z9_3 : wc.cell? ⟨gb170, 3, none⟩ = some (.slice A0_3 l0_3.length c0_3) := (blk_cell BK170.out 3).trans rfl
   have z9_4 : wc.cell? ⟨gb170, 4, none⟩ = some (.int .i64 a0_4) := (blk_cell BK170.out 4).trans rfl
   have z9_5 : wc.cell? ⟨gb170, 5, none⟩ = some (.int .u32 a0_5) := (blk_cell BK170.out 5).trans rfl
   have z9_6 : wc.cell? ⟨gb170, 6, none⟩ = some (.int .u32 a0_6) := (blk_cell BK170.out 6).trans rfl
   have z9_7 : wc.cell? ⟨gb170, 7, none⟩ = some (.int .u8 a0_7) := (blk_cell BK170.out 7).trans rfl
   have z9_8 : wc.cell? ⟨gb170, 8, none⟩ = some (.bool a0_8) := (blk_cell BK170.out 8).trans rfl
   have z9_9 : wc.cell? ⟨gb170, 9, none⟩ = some (.int .u32 a0_9) := (blk_cell BK170.out 9).trans rfl
   have z9_10 : wc.cell? ⟨gb170, 10, none⟩ = some (.slice A0_10 l0_10.length c0_10) := (blk_cell BK170.out 10).trans rfl
   have y9_0 := blk_frozen BK170.out 0
   have y9_1 := blk_frozen BK170.out 1
   have y9_2 := blk_frozen BK170.out 2
   have y9_3 := blk_frozen BK170.out 3
   have y9_4 := blk_frozen BK170.out 4
   have y9_5 := blk_frozen BK170.out 5
   have y9_6 := blk_frozen BK170.out 6
   have y9_7 := blk_frozen BK170.out 7
   have y9_8 := blk_frozen BK170.out 8
   have y9_9 := blk_frozen BK170.out 9
   have y9_10 := blk_frozen BK170.out 10
   go_upto_if 13 with (fail)
   go_cut [13] (fun v13 wc => ∃ (kq : Nat) (x13_7 : Bool), v13 = .bool x13_7 ∧ Aside0 (frame_May.j1 kq x3_1 x13_7 a0_0 a0_1 a0_2 l0_3 a0_4 a0_5 a0_6 a0_7 a0_8 a0_9 l0_10 = some r) ∧ Aside0 (kq ≤ kj1) ∧ Aside0 (wc.heap[gb170]? = some (.cells #[.int .u8 a0_0, .int .u8 a0_1, .int .u32 a0_2, (.slice A0_3 l0_3.length c0_3), .int .i64 a0_4, .int .u32 a0_5, .int .u32 a0_6, .int .u8 a0_7, .bool a0_8, .int .u32 a0_9, (.slice A0_10 l0_10.length c0_10)] 38 (0, 0))) ∧ Aside0 (Below w.heap.size w wc))
   case first =>
    have H := HC8.out
    clear HC8
    by_cases c10 : a0_2 > 2147483647
    ·rw [if_pos c10] at H
     have c10b0 : decide (2147483647 < a0_2) = true := decide_eq_true c10
     clear c10
     (first | rw [c10b0] | (simp only [i64_w, i32_w]; rw [c10b0]) | skip)
     have H' := Aside0.mk H
     clear H
     go_wp2
     go_meet
     case rel => exact ⟨_, (decide (a0_2 > 2147483647)), (by first | rfl | (simp; done) | (simp [*]; done)), H', ⟨by have := HJ1.out; first | omega | exact Nat.le_refl _⟩, ⟨by (with_reducible repeat (first | refine blk_drewN ?_ _ | refine blk_drew ?_ | refine blk_alloc ?_ _)); exact BK170.out⟩, ⟨by repeat (first | (with_reducible first | exact HB.out | apply below_alloc | apply pw_below_drewN | apply below_drew1 | refine below_set ?_ GE170.out) | exact HB.out)⟩⟩
    ·rw [if_neg c10] at H
     have c10b0 : decide (2147483647 < a0_2) = false := decide_eq_false c10
     clear c10
     (first | rw [c10b0] | (simp only [i64_w, i32_w]; rw [c10b0]) | skip)
     by_cases c11 : a0_6 > 2147483647
     ·rw [if_pos c11] at H
      have c11b0 : decide (2147483647 < a0_6) = true := decide_eq_true c11
      clear c11
      have H' := Aside0.mk H
      clear H
      have z12_0 : wc.cell? ⟨gb170, 0, none⟩ = some (.int .u8 a0_0) := (blk_cell BK170.out 0).trans rfl
      have z12_1 : wc.cell? ⟨gb170, 1, none⟩ = some (.int .u8 a0_1) := (blk_cell BK170.out 1).trans rfl
      have z12_2 : wc.cell? ⟨gb170, 2, none⟩ = some (.int .u32 a0_2) := (blk_cell BK170.out 2).trans rfl
      have z12_3 : wc.cell? ⟨gb170, 3, none⟩ = some (.slice A0_3 l0_3.length c0_3) := (blk_cell BK170.out 3).trans rfl
      have z12_4 : wc.cell? ⟨gb170, 4, none⟩ = some (.int .i64 a0_4) := (blk_cell BK170.out 4).trans rfl
      have z12_5 : wc.cell? ⟨gb170, 5, none⟩ = some (.int .u32 a0_5) := (blk_cell BK170.out 5).trans rfl
      have z12_6 : wc.cell? ⟨gb170, 6, none⟩ = some (.int .u32 a0_6) := (blk_cell BK170.out 6).trans rfl
      have z12_7 : wc.cell? ⟨gb170, 7, none⟩ = some (.int .u8 a0_7) := (blk_cell BK170.out 7).trans rfl
      have z12_8 : wc.cell? ⟨gb170, 8, none⟩ = some (.bool a0_8) := (blk_cell BK170.out 8).trans rfl
      have z12_9 : wc.cell? ⟨gb170, 9, none⟩ = some (.int .u32 a0_9) := (blk_cell BK170.out 9).trans rfl
      have z12_10 : wc.cell? ⟨gb170, 10, none⟩ = some (.slice A0_10 l0_10.length c0_10) := (blk_cell BK170.out 10).trans rfl
      have y12_0 := blk_frozen BK170.out 0
      have y12_1 := blk_frozen BK170.out 1
      have y12_2 := blk_frozen BK170.out 2
      have y12_3 := blk_frozen BK170.out 3
      have y12_4 := blk_frozen BK170.out 4
      have y12_5 := blk_frozen BK170.out 5
      have y12_6 := blk_frozen BK170.out 6
      have y12_7 := blk_frozen BK170.out 7
      have y12_8 := blk_frozen BK170.out 8
      have y12_9 := blk_frozen BK170.out 9
      have y12_10 := blk_frozen BK170.out 10
      go_wp2
      go_meet
      case rel => exact ⟨_, (decide (a0_6 > 2147483647)), (by first | rfl | (simp; done) | (simp [*]; done)), H', ⟨by have := HJ1.out; first | omega | exact Nat.le_refl _⟩, ⟨by (with_reducible repeat (first | refine blk_drewN ?_ _ | refine blk_drew ?_ | refine blk_alloc ?_ _)); exact BK170.out⟩, ⟨by repeat (first | (with_reducible first | exact HB.out | apply below_alloc | apply pw_below_drewN | apply below_drew1 | refine below_set ?_ GE170.out) | exact HB.out)⟩⟩
     ·rw [if_neg c11] at H
      have c11b0 : decide (2147483647 < a0_6) = false := decide_eq_false c11
      clear c11
      by_cases c13 : a0_9 > 2147483647
      ·rw [if_pos c13] at H
       have c13b0 : decide (2147483647 < a0_9) = true := decide_eq_true c13
       clear c13
       have H' := Aside0.mk H
       clear H
       have z14_0 : wc.cell? ⟨gb170, 0, none⟩ = some (.int .u8 a0_0) := (blk_cell BK170.out 0).trans rfl
       have z14_1 : wc.cell? ⟨gb170, 1, none⟩ = some (.int .u8 a0_1) := (blk_cell BK170.out 1).trans rfl
       have z14_2 : wc.cell? ⟨gb170, 2, none⟩ = some (.int .u32 a0_2) := (blk_cell BK170.out 2).trans rfl
       have z14_3 : wc.cell? ⟨gb170, 3, none⟩ = some (.slice A0_3 l0_3.length c0_3) := (blk_cell BK170.out 3).trans rfl
       have z14_4 : wc.cell? ⟨gb170, 4, none⟩ = some (.int .i64 a0_4) := (blk_cell BK170.out 4).trans rfl
       have z14_5 : wc.cell? ⟨gb170, 5, none⟩ = some (.int .u32 a0_5) := (blk_cell BK170.out 5).trans rfl
       have z14_6 : wc.cell? ⟨gb170, 6, none⟩ = some (.int .u32 a0_6) := (blk_cell BK170.out 6).trans rfl
       have z14_7 : wc.cell? ⟨gb170, 7, none⟩ = some (.int .u8 a0_7) := (blk_cell BK170.out 7).trans rfl
       have z14_8 : wc.cell? ⟨gb170, 8, none⟩ = some (.bool a0_8) := (blk_cell BK170.out 8).trans rfl
       have z14_9 : wc.cell? ⟨gb170, 9, none⟩ = some (.int .u32 a0_9) := (blk_cell BK170.out 9).trans rfl
       have z14_10 : wc.cell? ⟨gb170, 10, none⟩ = some (.slice A0_10 l0_10.length c0_10) := (blk_cell BK170.out 10).trans rfl
       have y14_0 := blk_frozen BK170.out 0
       have y14_1 := blk_frozen BK170.out 1
       have y14_2 := blk_frozen BK170.out 2
       have y14_3 := blk_frozen BK170.out 3
       have y14_4 := blk_frozen BK170.out 4
       have y14_5 := blk_frozen BK170.out 5
       have y14_6 := blk_frozen BK170.out 6
       have y14_7 := blk_frozen BK170.out 7
       have y14_8 := blk_frozen BK170.out 8
       have y14_9 := blk_frozen BK170.out 9
       have y14_10 := blk_frozen BK170.out 10
       go_wp2
       go_meet
       case rel => exact ⟨_, (decide (a0_9 > 2147483647)), (by first | rfl | (simp; done) | (simp [*]; done)), H', ⟨by have := HJ1.out; first | omega | exact Nat.le_refl _⟩, ⟨by (with_reducible repeat (first | refine blk_drewN ?_ _ | refine blk_drew ?_ | refine blk_alloc ?_ _)); exact BK170.out⟩, ⟨by repeat (first | (with_reducible first | exact HB.out | apply below_alloc | apply pw_below_drewN | apply below_drew1 | refine below_set ?_ GE170.out) | exact HB.out)⟩⟩
      ·rw [if_neg c13] at H
       have c13b0 : decide (2147483647 < a0_9) = false := decide_eq_false c13
       clear c13
       replace H := Option.bind_eq_some_iff.mp H
       obtain ⟨t172, A150, H⟩ := H
       replace H : (frame_May.j1 kj1 x3_1 (!t172) a0_0 a0_1 a0_2 l0_3 a0_4 a0_5 a0_6 a0_7 a0_8 a0_9 l0_10) = some r := H
       have A15 := Aside0.mk A150
       clear A150
       have H' := Aside0.mk H
       clear H
       have z16_0 : wc.cell? ⟨gb170, 0, none⟩ = some (.int .u8 a0_0) := (blk_cell BK170.out 0).trans rfl
       have z16_1 : wc.cell? ⟨gb170, 1, none⟩ = some (.int .u8 a0_1) := (blk_cell BK170.out 1).trans rfl
       have z16_2 : wc.cell? ⟨gb170, 2, none⟩ = some (.int .u32 a0_2) := (blk_cell BK170.out 2).trans rfl
       have z16_3 : wc.cell? ⟨gb170, 3, none⟩ = some (.slice A0_3 l0_3.length c0_3) := (blk_cell BK170.out 3).trans rfl
       have z16_4 : wc.cell? ⟨gb170, 4, none⟩ = some (.int .i64 a0_4) := (blk_cell BK170.out 4).trans rfl
       have z16_5 : wc.cell? ⟨gb170, 5, none⟩ = some (.int .u32 a0_5) := (blk_cell BK170.out 5).trans rfl
       have z16_6 : wc.cell? ⟨gb170, 6, none⟩ = some (.int .u32 a0_6) := (blk_cell BK170.out 6).trans rfl
       have z16_7 : wc.cell? ⟨gb170, 7, none⟩ = some (.int .u8 a0_7) := (blk_cell BK170.out 7).trans rfl
       have z16_8 : wc.cell? ⟨gb170, 8, none⟩ = some (.bool a0_8) := (blk_cell BK170.out 8).trans rfl
       have z16_9 : wc.cell? ⟨gb170, 9, none⟩ = some (.int .u32 a0_9) := (blk_cell BK170.out 9).trans rfl
       have z16_10 : wc.cell? ⟨gb170, 10, none⟩ = some (.slice A0_10 l0_10.length c0_10) := (blk_cell BK170.out 10).trans rfl
       have y16_0 := blk_frozen BK170.out 0
       have y16_1 := blk_frozen BK170.out 1
       have y16_2 := blk_frozen BK170.out 2
       have y16_3 := blk_frozen BK170.out 3
       have y16_4 := blk_frozen BK170.out 4
       have y16_5 := blk_frozen BK170.out 5
       have y16_6 := blk_frozen BK170.out 6
       have y16_7 := blk_frozen BK170.out 7
       have y16_8 := blk_frozen BK170.out 8
       have y16_9 := blk_frozen BK170.out 9
       have y16_10 := blk_frozen BK170.out 10
       go_wp2_with (first | ((with_reducible refine gate_callee (f := 49) rfl ?_); refine goesL_ (some 24) rfl rfl Tryd.func49 (by kernel_rfl) rfl #[.agg #[.int .u8 a0_0, .int .u8 a0_1, .int .u32 a0_2, .slice A0_3 l0_3.length c0_3, .int .i64 a0_4, .int .u32 a0_5, .int .u32 a0_6, .int .u8 a0_7, .bool a0_8, .int .u32 a0_9, .slice A0_10 l0_10.length c0_10]] rfl (by (try simp only [List.map_toArray, List.map_cons, List.map_nil]); first | done | rfl | (simp only [List.length_drop, List.length_take]; rfl)) ?_; (with_reducible refine (frame_fields.calls kj1 a0_0 a0_1 a0_2 _ _ l0_3 a0_4 a0_5 a0_6 a0_7 a0_8 a0_9 _ _ l0_10 t172 _ ?side1 ?side2 ?side3 ?side4 A15.out).mono ?_); (case side1 => repeat (first | exact (Kd.C_below HR0_3.out HB.out) | (with_reducible refine Kd.C_alloc ?_ _) | (with_reducible refine Kd.C_drewN ?_ _) | (with_reducible refine Kd.C_drew ?_))); (case side2 => exact HC0_3.out); (case side3 => repeat (first | exact (Kd.C_below HR0_10.out HB.out) | (with_reducible refine Kd.C_alloc ?_ _) | (with_reducible refine Kd.C_drewN ?_ _) | (with_reducible refine Kd.C_drew ?_))); (case side4 => exact HC0_10.out); rintro e w17 ⟨rfl, hb⟩; refine ⟨_, rfl, ?_⟩; have n0_ := Aside0.mk (blk_below (g := gb170) (o := .cells #[.int .u8 a0_0, .int .u8 a0_1, .int .u32 a0_2, .slice A0_3 l0_3.length c0_3, .int .i64 a0_4, .int .u32 a0_5, .int .u32 a0_6, .int .u8 a0_7, .bool a0_8, .int .u32 a0_9, .slice A0_10 l0_10.length c0_10] 38 (0, 0)) (by (with_reducible repeat (first | refine blk_drewN ?_ _ | refine blk_drew ?_ | refine blk_alloc ?_ _)); exact BK170.out) hb); have n1_ := Aside0.mk (below_step (by repeat (first | (with_reducible first | exact HB.out | apply below_alloc | apply pw_below_drewN | apply below_drew1 | refine below_set ?_ GE170.out) | exact HB.out)) hb); clear BK170; clear HB; have BK170 := n0_; have HB := n1_; clear n0_ n1_; (try clear hb); (try clear hb2); (try clear hk); (try clear hi)))
       go_meet
       case rel => exact ⟨_, (!t172), (by first | rfl | (simp; done) | (simp [*]; done)), H', ⟨by have := HJ1.out; first | omega | exact Nat.le_refl _⟩, ⟨by (with_reducible repeat (first | refine blk_drewN ?_ _ | refine blk_drew ?_ | refine blk_alloc ?_ _)); exact BK170.out⟩, ⟨by repeat (first | (with_reducible first | exact HB.out | apply below_alloc | apply pw_below_drewN | apply below_drew1 | refine below_set ?_ GE170.out) | exact HB.out)⟩⟩
   case rest =>
    clear HC8
    try clear c1
    try clear c2
    try clear p2
    try clear c4
    try clear c5
    try clear c10
    try clear c10b0
    try clear c11
    try clear c11b0
    try clear c13
    try clear c13b0
    try clear z12_0 z12_1 z12_10 z12_2 z12_3 z12_4 z12_5 z12_6 z12_7 z12_8 z12_9 z14_0 z14_1 z14_10 z14_2 z14_3 z14_4 z14_5 z14_6 z14_7 z14_8 z14_9 z16_0 z16_1 z16_10 z16_2 z16_3 z16_4 z16_5 z16_6 z16_7 z16_8 z16_9 z6_0 z6_1 z6_10 z6_2 z6_3 z6_4 z6_5 z6_6 z6_7 z6_8 z6_9 z7_0 z7_1 z7_10 z7_2 z7_3 z7_4 z7_5 z7_6 z7_7 z7_8 z7_9 z9_0 z9_1 z9_10 z9_2 z9_3 z9_4 z9_5 z9_6 z9_7 z9_8 z9_9 y12_0 y12_1 y12_10 y12_2 y12_3 y12_4 y12_5 y12_6 y12_7 y12_8 y12_9 y14_0 y14_1 y14_10 y14_2 y14_3 y14_4 y14_5 y14_6 y14_7 y14_8 y14_9 y16_0 y16_1 y16_10 y16_2 y16_3 y16_4 y16_5 y16_6 y16_7 y16_8 y16_9 y6_0 y6_1 y6_10 y6_2 y6_3 y6_4 y6_5 y6_6 y6_7 y6_8 y6_9 y7_0 y7_1 y7_10 y7_2 y7_3 y7_4 y7_5 y7_6 y7_7 y7_8 y7_9 y9_0 y9_1 y9_10 y9_2 y9_3 y9_4 y9_5 y9_6 y9_7 y9_8 y9_9
    try clear p2
    obtain ⟨kq, x13_7, rfl, HA, HJ7, BK170, HB⟩ := hcut
    cases kq with
    | zero => exact absurd HA.out (by simp [frame_May.j1])
    | succ kj7 =>
     have H := HA.out
     clear HA
     simp only [frame_May.j1] at H
     by_cases c18 : x13_7 = true
     ·subst c18
      have H1 : (some false) = some r := by rw [if_pos rfl] at H; exact H
      clear H
      have H := H1
      clear H1
      obtain rfl := Option.some.inj H
      go_wp2
      go_ret
      exact ⟨by first | rfl | (simp [errW_none, errW_some] <;> rfl) | (simp [*, errW_none, errW_some] <;> rfl), by repeat (first | (with_reducible first | exact HB.out | apply below_alloc | apply pw_below_drewN | apply below_drew1 | refine below_set ?_ GE170.out) | exact HB.out)⟩
     ·replace c18 := Bool.eq_false_iff.mpr c18
      subst c18
      have H1 : (if x3_1 = true then (if a0_4 < 0 then (frame_May.j2 kj7 x3_1 true a0_0 a0_1 a0_2 l0_3 a0_4 a0_5 a0_6 a0_7 a0_8 a0_9 l0_10) else (frame_May.j2 kj7 x3_1 (decide (a0_4 > 255)) a0_0 a0_1 a0_2 l0_3 a0_4 a0_5 a0_6 a0_7 a0_8 a0_9 l0_10)) else (frame_May.j2 kj7 x3_1 false a0_0 a0_1 a0_2 l0_3 a0_4 a0_5 a0_6 a0_7 a0_8 a0_9 l0_10)) = some r := by rw [if_neg (show ¬ (false = true) by decide)] at H; exact H
      clear H
      have H := H1
      clear H1
      have HC19 := Aside0.mk H
      clear H
      go_upto_region 7 with (fail)
      go_cut [26] (fun v26 wc => ∃ (kq : Nat) (x26_18 : Bool), v26 = .bool x26_18 ∧ Aside0 (frame_May.j2 kq x3_1 x26_18 a0_0 a0_1 a0_2 l0_3 a0_4 a0_5 a0_6 a0_7 a0_8 a0_9 l0_10 = some r) ∧ Aside0 (kq ≤ kj7) ∧ Aside0 (wc.heap[gb170]? = some (.cells #[.int .u8 a0_0, .int .u8 a0_1, .int .u32 a0_2, (.slice A0_3 l0_3.length c0_3), .int .i64 a0_4, .int .u32 a0_5, .int .u32 a0_6, .int .u8 a0_7, .bool a0_8, .int .u32 a0_9, (.slice A0_10 l0_10.length c0_10)] 38 (0, 0))) ∧ Aside0 (Below w.heap.size w wc))
      case first =>
       have H := HC19.out
       clear HC19
       by_cases c20 : x3_1 = true
       ·subst c20
        have H1 : (if a0_4 < 0 then (frame_May.j2 kj7 true true a0_0 a0_1 a0_2 l0_3 a0_4 a0_5 a0_6 a0_7 a0_8 a0_9 l0_10) else (frame_May.j2 kj7 true (decide (a0_4 > 255)) a0_0 a0_1 a0_2 l0_3 a0_4 a0_5 a0_6 a0_7 a0_8 a0_9 l0_10)) = some r := by rw [if_pos rfl] at H; exact H
        clear H
        have H := H1
        clear H1
        by_cases c21 : a0_4 < 0
        ·rw [if_pos c21] at H
         have c21b0 : decide (a0_4 < 0) = true := decide_eq_true c21
         clear c21
         (first | rw [c21b0] | (simp only [i64_w, i32_w]; rw [c21b0]) | skip)
         have H' := Aside0.mk H
         clear H
         have z22_0 : wc.cell? ⟨gb170, 0, none⟩ = some (.int .u8 a0_0) := (blk_cell BK170.out 0).trans rfl
         have z22_1 : wc.cell? ⟨gb170, 1, none⟩ = some (.int .u8 a0_1) := (blk_cell BK170.out 1).trans rfl
         have z22_2 : wc.cell? ⟨gb170, 2, none⟩ = some (.int .u32 a0_2) := (blk_cell BK170.out 2).trans rfl
         have z22_3 : wc.cell? ⟨gb170, 3, none⟩ = some (.slice A0_3 l0_3.length c0_3) := (blk_cell BK170.out 3).trans rfl
         have z22_4 : wc.cell? ⟨gb170, 4, none⟩ = some (.int .i64 a0_4) := (blk_cell BK170.out 4).trans rfl
         have z22_5 : wc.cell? ⟨gb170, 5, none⟩ = some (.int .u32 a0_5) := (blk_cell BK170.out 5).trans rfl
         have z22_6 : wc.cell? ⟨gb170, 6, none⟩ = some (.int .u32 a0_6) := (blk_cell BK170.out 6).trans rfl
         have z22_7 : wc.cell? ⟨gb170, 7, none⟩ = some (.int .u8 a0_7) := (blk_cell BK170.out 7).trans rfl
         have z22_8 : wc.cell? ⟨gb170, 8, none⟩ = some (.bool a0_8) := (blk_cell BK170.out 8).trans rfl
         have z22_9 : wc.cell? ⟨gb170, 9, none⟩ = some (.int .u32 a0_9) := (blk_cell BK170.out 9).trans rfl
         have z22_10 : wc.cell? ⟨gb170, 10, none⟩ = some (.slice A0_10 l0_10.length c0_10) := (blk_cell BK170.out 10).trans rfl
         have y22_0 := blk_frozen BK170.out 0
         have y22_1 := blk_frozen BK170.out 1
         have y22_2 := blk_frozen BK170.out 2
         have y22_3 := blk_frozen BK170.out 3
         have y22_4 := blk_frozen BK170.out 4
         have y22_5 := blk_frozen BK170.out 5
         have y22_6 := blk_frozen BK170.out 6
         have y22_7 := blk_frozen BK170.out 7
         have y22_8 := blk_frozen BK170.out 8
         have y22_9 := blk_frozen BK170.out 9
         have y22_10 := blk_frozen BK170.out 10
         go_wp2
         go_meet
         case rel => exact ⟨_, (true), (by first | rfl | (simp; done) | (simp [*]; done)), H', ⟨by have := HJ1.out; have := HJ7.out; first | omega | exact Nat.le_refl _⟩, ⟨by (with_reducible repeat (first | refine blk_drewN ?_ _ | refine blk_drew ?_ | refine blk_alloc ?_ _)); exact BK170.out⟩, ⟨by repeat (first | (with_reducible first | exact HB.out | apply below_alloc | apply pw_below_drewN | apply below_drew1 | refine below_set ?_ GE170.out) | exact HB.out)⟩⟩
        ·rw [if_neg c21] at H
         have c21b0 : decide (a0_4 < 0) = false := decide_eq_false c21
         clear c21
         (first | rw [c21b0] | (simp only [i64_w, i32_w]; rw [c21b0]) | skip)
         have H' := Aside0.mk H
         clear H
         have z23_0 : wc.cell? ⟨gb170, 0, none⟩ = some (.int .u8 a0_0) := (blk_cell BK170.out 0).trans rfl
         have z23_1 : wc.cell? ⟨gb170, 1, none⟩ = some (.int .u8 a0_1) := (blk_cell BK170.out 1).trans rfl
         have z23_2 : wc.cell? ⟨gb170, 2, none⟩ = some (.int .u32 a0_2) := (blk_cell BK170.out 2).trans rfl
         have z23_3 : wc.cell? ⟨gb170, 3, none⟩ = some (.slice A0_3 l0_3.length c0_3) := (blk_cell BK170.out 3).trans rfl
         have z23_4 : wc.cell? ⟨gb170, 4, none⟩ = some (.int .i64 a0_4) := (blk_cell BK170.out 4).trans rfl
         have z23_5 : wc.cell? ⟨gb170, 5, none⟩ = some (.int .u32 a0_5) := (blk_cell BK170.out 5).trans rfl
         have z23_6 : wc.cell? ⟨gb170, 6, none⟩ = some (.int .u32 a0_6) := (blk_cell BK170.out 6).trans rfl
         have z23_7 : wc.cell? ⟨gb170, 7, none⟩ = some (.int .u8 a0_7) := (blk_cell BK170.out 7).trans rfl
         have z23_8 : wc.cell? ⟨gb170, 8, none⟩ = some (.bool a0_8) := (blk_cell BK170.out 8).trans rfl
         have z23_9 : wc.cell? ⟨gb170, 9, none⟩ = some (.int .u32 a0_9) := (blk_cell BK170.out 9).trans rfl
         have z23_10 : wc.cell? ⟨gb170, 10, none⟩ = some (.slice A0_10 l0_10.length c0_10) := (blk_cell BK170.out 10).trans rfl
         have y23_0 := blk_frozen BK170.out 0
         have y23_1 := blk_frozen BK170.out 1
         have y23_2 := blk_frozen BK170.out 2
         have y23_3 := blk_frozen BK170.out 3
         have y23_4 := blk_frozen BK170.out 4
         have y23_5 := blk_frozen BK170.out 5
         have y23_6 := blk_frozen BK170.out 6
         have y23_7 := blk_frozen BK170.out 7
         have y23_8 := blk_frozen BK170.out 8
         have y23_9 := blk_frozen BK170.out 9
         have y23_10 := blk_frozen BK170.out 10
         go_wp2
         go_meet
         case rel => exact ⟨_, (decide (a0_4 > 255)), (by first | rfl | (simp; done) | (simp [*]; done)), H', ⟨by have := HJ1.out; have := HJ7.out; first | omega | exact Nat.le_refl _⟩, ⟨by (with_reducible repeat (first | refine blk_drewN ?_ _ | refine blk_drew ?_ | refine blk_alloc ?_ _)); exact BK170.out⟩, ⟨by repeat (first | (with_reducible first | exact HB.out | apply below_alloc | apply pw_below_drewN | apply below_drew1 | refine below_set ?_ GE170.out) | exact HB.out)⟩⟩
       ·replace c20 := Bool.eq_false_iff.mpr c20
        subst c20
        have H1 : (frame_May.j2 kj7 false false a0_0 a0_1 a0_2 l0_3 a0_4 a0_5 a0_6 a0_7 a0_8 a0_9 l0_10) = some r := by rw [if_neg (show ¬ (false = true) by decide)] at H; exact H
        clear H
        have H := H1
        clear H1
        have H' := Aside0.mk H
        clear H
        go_wp2
        go_meet
        case rel => exact ⟨_, (false), (by first | rfl | (simp; done) | (simp [*]; done)), H', ⟨by have := HJ1.out; have := HJ7.out; first | omega | exact Nat.le_refl _⟩, ⟨by (with_reducible repeat (first | refine blk_drewN ?_ _ | refine blk_drew ?_ | refine blk_alloc ?_ _)); exact BK170.out⟩, ⟨by repeat (first | (with_reducible first | exact HB.out | apply below_alloc | apply pw_below_drewN | apply below_drew1 | refine below_set ?_ GE170.out) | exact HB.out)⟩⟩
      case rest =>
       clear HC19
       try clear c1
       try clear c2
       try clear p2
       try clear c4
       try clear c5
       try clear c10
       try clear c10b0
       try clear c11
       try clear c11b0
       try clear c13
       try clear c13b0
       try clear c18
       try clear c20
       try clear c21
       try clear c21b0
       try clear c22
       try clear z12_0 z12_1 z12_10 z12_2 z12_3 z12_4 z12_5 z12_6 z12_7 z12_8 z12_9 z14_0 z14_1 z14_10 z14_2 z14_3 z14_4 z14_5 z14_6 z14_7 z14_8 z14_9 z16_0 z16_1 z16_10 z16_2 z16_3 z16_4 z16_5 z16_6 z16_7 z16_8 z16_9 z22_0 z22_1 z22_10 z22_2 z22_3 z22_4 z22_5 z22_6 z22_7 z22_8 z22_9 z23_0 z23_1 z23_10 z23_2 z23_3 z23_4 z23_5 z23_6 z23_7 z23_8 z23_9 z6_0 z6_1 z6_10 z6_2 z6_3 z6_4 z6_5 z6_6 z6_7 z6_8 z6_9 z7_0 z7_1 z7_10 z7_2 z7_3 z7_4 z7_5 z7_6 z7_7 z7_8 z7_9 z9_0 z9_1 z9_10 z9_2 z9_3 z9_4 z9_5 z9_6 z9_7 z9_8 z9_9 y12_0 y12_1 y12_10 y12_2 y12_3 y12_4 y12_5 y12_6 y12_7 y12_8 y12_9 y14_0 y14_1 y14_10 y14_2 y14_3 y14_4 y14_5 y14_6 y14_7 y14_8 y14_9 y16_0 y16_1 y16_10 y16_2 y16_3 y16_4 y16_5 y16_6 y16_7 y16_8 y16_9 y22_0 y22_1 y22_10 y22_2 y22_3 y22_4 y22_5 y22_6 y22_7 y22_8 y22_9 y23_0 y23_1 y23_10 y23_2 y23_3 y23_4 y23_5 y23_6 y23_7 y23_8 y23_9 y6_0 y6_1 y6_10 y6_2 y6_3 y6_4 y6_5 y6_6 y6_7 y6_8 y6_9 y7_0 y7_1 y7_10 y7_2 y7_3 y7_4 y7_5 y7_6 y7_7 y7_8 y7_9 y9_0 y9_1 y9_10 y9_2 y9_3 y9_4 y9_5 y9_6 y9_7 y9_8 y9_9
       try clear p2
       obtain ⟨kq, x26_18, rfl, HA, HJ18, BK170, HB⟩ := hcut
       cases kq with
       | zero => exact absurd HA.out (by simp [frame_May.j2])
       | succ kj18 =>
        have H := HA.out
        clear HA
        simp only [frame_May.j2] at H
        have HC24 := Aside0.mk H
        clear H
        go_upto_if 26 with (fail)
        go_cut [26] (fun v26 wc => ∃ (kq : Nat) (x26_23 : Bool), v26 = .bool x26_23 ∧ Aside0 (frame_May.j3 kq x26_23 a0_0 a0_1 a0_2 l0_3 a0_4 a0_5 a0_6 a0_7 a0_8 a0_9 l0_10 = some r) ∧ Aside0 (kq ≤ kj18) ∧ Aside0 (wc.heap[gb170]? = some (.cells #[.int .u8 a0_0, .int .u8 a0_1, .int .u32 a0_2, (.slice A0_3 l0_3.length c0_3), .int .i64 a0_4, .int .u32 a0_5, .int .u32 a0_6, .int .u8 a0_7, .bool a0_8, .int .u32 a0_9, (.slice A0_10 l0_10.length c0_10)] 38 (0, 0))) ∧ Aside0 (Below w.heap.size w wc))
        case first =>
         have H := HC24.out
         clear HC24
         by_cases c25 : x26_18 = true
         ·subst c25
          have H1 : (frame_May.j3 kj18 true a0_0 a0_1 a0_2 l0_3 a0_4 a0_5 a0_6 a0_7 a0_8 a0_9 l0_10) = some r := by rw [if_pos rfl] at H; exact H
          clear H
          have H := H1
          clear H1
          have H' := Aside0.mk H
          clear H
          go_wp2
          go_meet
          case rel => exact ⟨_, (true), (by first | rfl | (simp; done) | (simp [*]; done)), H', ⟨by have := HJ1.out; have := HJ7.out; have := HJ18.out; first | omega | exact Nat.le_refl _⟩, ⟨by (with_reducible repeat (first | refine blk_drewN ?_ _ | refine blk_drew ?_ | refine blk_alloc ?_ _)); exact BK170.out⟩, ⟨by repeat (first | (with_reducible first | exact HB.out | apply below_alloc | apply pw_below_drewN | apply below_drew1 | refine below_set ?_ GE170.out) | exact HB.out)⟩⟩
         ·replace c25 := Bool.eq_false_iff.mpr c25
          subst c25
          have H1 : (if x3_1 = true then (frame_May.j3 kj18 false a0_0 a0_1 a0_2 l0_3 a0_4 a0_5 a0_6 a0_7 a0_8 a0_9 l0_10) else (frame_May.j3 kj18 (a0_4 != (-1)) a0_0 a0_1 a0_2 l0_3 a0_4 a0_5 a0_6 a0_7 a0_8 a0_9 l0_10)) = some r := by rw [if_neg (show ¬ (false = true) by decide)] at H; exact H
          clear H
          have H := H1
          clear H1
          by_cases c26 : x3_1 = true
          ·subst c26
           have H1 : (frame_May.j3 kj18 false a0_0 a0_1 a0_2 l0_3 a0_4 a0_5 a0_6 a0_7 a0_8 a0_9 l0_10) = some r := by rw [if_pos rfl] at H; exact H
           clear H
           have H := H1
           clear H1
           have H' := Aside0.mk H
           clear H
           go_wp2
           go_meet
           case rel => exact ⟨_, (false), (by first | rfl | (simp; done) | (simp [*]; done)), H', ⟨by have := HJ1.out; have := HJ7.out; have := HJ18.out; first | omega | exact Nat.le_refl _⟩, ⟨by (with_reducible repeat (first | refine blk_drewN ?_ _ | refine blk_drew ?_ | refine blk_alloc ?_ _)); exact BK170.out⟩, ⟨by repeat (first | (with_reducible first | exact HB.out | apply below_alloc | apply pw_below_drewN | apply below_drew1 | refine below_set ?_ GE170.out) | exact HB.out)⟩⟩
          ·replace c26 := Bool.eq_false_iff.mpr c26
           subst c26
           have H1 : (frame_May.j3 kj18 (a0_4 != (-1)) a0_0 a0_1 a0_2 l0_3 a0_4 a0_5 a0_6 a0_7 a0_8 a0_9 l0_10) = some r := by rw [if_neg (show ¬ (false = true) by decide)] at H; exact H
           clear H
           have H := H1
           clear H1
           have H' := Aside0.mk H
           clear H
           have z27_0 : wc.cell? ⟨gb170, 0, none⟩ = some (.int .u8 a0_0) := (blk_cell BK170.out 0).trans rfl
           have z27_1 : wc.cell? ⟨gb170, 1, none⟩ = some (.int .u8 a0_1) := (blk_cell BK170.out 1).trans rfl
           have z27_2 : wc.cell? ⟨gb170, 2, none⟩ = some (.int .u32 a0_2) := (blk_cell BK170.out 2).trans rfl
           have z27_3 : wc.cell? ⟨gb170, 3, none⟩ = some (.slice A0_3 l0_3.length c0_3) := (blk_cell BK170.out 3).trans rfl
           have z27_4 : wc.cell? ⟨gb170, 4, none⟩ = some (.int .i64 a0_4) := (blk_cell BK170.out 4).trans rfl
           have z27_5 : wc.cell? ⟨gb170, 5, none⟩ = some (.int .u32 a0_5) := (blk_cell BK170.out 5).trans rfl
           have z27_6 : wc.cell? ⟨gb170, 6, none⟩ = some (.int .u32 a0_6) := (blk_cell BK170.out 6).trans rfl
           have z27_7 : wc.cell? ⟨gb170, 7, none⟩ = some (.int .u8 a0_7) := (blk_cell BK170.out 7).trans rfl
           have z27_8 : wc.cell? ⟨gb170, 8, none⟩ = some (.bool a0_8) := (blk_cell BK170.out 8).trans rfl
           have z27_9 : wc.cell? ⟨gb170, 9, none⟩ = some (.int .u32 a0_9) := (blk_cell BK170.out 9).trans rfl
           have z27_10 : wc.cell? ⟨gb170, 10, none⟩ = some (.slice A0_10 l0_10.length c0_10) := (blk_cell BK170.out 10).trans rfl
           have y27_0 := blk_frozen BK170.out 0
           have y27_1 := blk_frozen BK170.out 1
           have y27_2 := blk_frozen BK170.out 2
           have y27_3 := blk_frozen BK170.out 3
           have y27_4 := blk_frozen BK170.out 4
           have y27_5 := blk_frozen BK170.out 5
           have y27_6 := blk_frozen BK170.out 6
           have y27_7 := blk_frozen BK170.out 7
           have y27_8 := blk_frozen BK170.out 8
           have y27_9 := blk_frozen BK170.out 9
           have y27_10 := blk_frozen BK170.out 10
           go_wp2
           go_meet
           case rel => exact ⟨_, ((a0_4 != (-1))), (by first | rfl | (simp; done) | (simp [*]; done)), H', ⟨by have := HJ1.out; have := HJ7.out; have := HJ18.out; first | omega | exact Nat.le_refl _⟩, ⟨by (with_reducible repeat (first | refine blk_drewN ?_ _ | refine blk_drew ?_ | refine blk_alloc ?_ _)); exact BK170.out⟩, ⟨by repeat (first | (with_reducible first | exact HB.out | apply below_alloc | apply pw_below_drewN | apply below_drew1 | refine below_set ?_ GE170.out) | exact HB.out)⟩⟩
        case rest =>
         clear HC24
         try clear c1
         try clear c2
         try clear p2
         try clear c4
         try clear c5
         try clear c10
         try clear c10b0
         try clear c11
         try clear c11b0
         try clear c13
         try clear c13b0
         try clear c18
         try clear c20
         try clear c21
         try clear c21b0
         try clear c22
         try clear c25
         try clear c26
         try clear z12_0 z12_1 z12_10 z12_2 z12_3 z12_4 z12_5 z12_6 z12_7 z12_8 z12_9 z14_0 z14_1 z14_10 z14_2 z14_3 z14_4 z14_5 z14_6 z14_7 z14_8 z14_9 z16_0 z16_1 z16_10 z16_2 z16_3 z16_4 z16_5 z16_6 z16_7 z16_8 z16_9 z22_0 z22_1 z22_10 z22_2 z22_3 z22_4 z22_5 z22_6 z22_7 z22_8 z22_9 z23_0 z23_1 z23_10 z23_2 z23_3 z23_4 z23_5 z23_6 z23_7 z23_8 z23_9 z27_0 z27_1 z27_10 z27_2 z27_3 z27_4 z27_5 z27_6 z27_7 z27_8 z27_9 z6_0 z6_1 z6_10 z6_2 z6_3 z6_4 z6_5 z6_6 z6_7 z6_8 z6_9 z7_0 z7_1 z7_10 z7_2 z7_3 z7_4 z7_5 z7_6 z7_7 z7_8 z7_9 z9_0 z9_1 z9_10 z9_2 z9_3 z9_4 z9_5 z9_6 z9_7 z9_8 z9_9 y12_0 y12_1 y12_10 y12_2 y12_3 y12_4 y12_5 y12_6 y12_7 y12_8 y12_9 y14_0 y14_1 y14_10 y14_2 y14_3 y14_4 y14_5 y14_6 y14_7 y14_8 y14_9 y16_0 y16_1 y16_10 y16_2 y16_3 y16_4 y16_5 y16_6 y16_7 y16_8 y16_9 y22_0 y22_1 y22_10 y22_2 y22_3 y22_4 y22_5 y22_6 y22_7 y22_8 y22_9 y23_0 y23_1 y23_10 y23_2 y23_3 y23_4 y23_5 y23_6 y23_7 y23_8 y23_9 y27_0 y27_1 y27_10 y27_2 y27_3 y27_4 y27_5 y27_6 y27_7 y27_8 y27_9 y6_0 y6_1 y6_10 y6_2 y6_3 y6_4 y6_5 y6_6 y6_7 y6_8 y6_9 y7_0 y7_1 y7_10 y7_2 y7_3 y7_4 y7_5 y7_6 y7_7 y7_8 y7_9 y9_0 y9_1 y9_10 y9_2 y9_3 y9_4 y9_5 y9_6 y9_7 y9_8 y9_9
         try clear p2
         obtain ⟨kq, x26_23, rfl, HA, HJ23, BK170, HB⟩ := hcut
         cases kq with
         | zero => exact absurd HA.out (by simp [frame_May.j3])
         | succ kj23 =>
          have H := HA.out
          clear HA
          simp only [frame_May.j3] at H
          by_cases c28 : x26_23 = true
          ·subst c28
           have H1 : (some false) = some r := by rw [if_pos rfl] at H; exact H
           clear H
           have H := H1
           clear H1
           obtain rfl := Option.some.inj H
           go_wp2
           go_ret
           exact ⟨by first | rfl | (simp [errW_none, errW_some] <;> rfl) | (simp [*, errW_none, errW_some] <;> rfl), by repeat (first | (with_reducible first | exact HB.out | apply below_alloc | apply pw_below_drewN | apply below_drew1 | refine below_set ?_ GE170.out) | exact HB.out)⟩
          ·replace c28 := Bool.eq_false_iff.mpr c28
           subst c28
           have H1 : (if a0_0 = 6 then (if (l0_3.length : Int) = 8 then (if (l0_3.length : Int) ≤ 16384 then (if (l0_10.length : Int) ≤ 2730 then ((frame_payload.f kj23 a0_0 a0_1 a0_2 l0_3 a0_4 a0_5 a0_6 a0_7 a0_8 a0_9 l0_10).bind fun t173 => (some (decide ((t173.length : Int) ≤ 16384)))) else (some false)) else (some false)) else (some false)) else (if (l0_3.length : Int) ≤ 16384 then (if (l0_10.length : Int) ≤ 2730 then ((frame_payload.f kj23 a0_0 a0_1 a0_2 l0_3 a0_4 a0_5 a0_6 a0_7 a0_8 a0_9 l0_10).bind fun t176 => (some (decide ((t176.length : Int) ≤ 16384)))) else (some false)) else (some false))) = some r := by rw [if_neg (show ¬ (false = true) by decide)] at H; exact H
           clear H
           have H := H1
           clear H1
           by_cases c29 : a0_0 = 6
           ·rw [if_pos c29] at H
            have c29b0 : (a0_0 == 6) = true := beq_iff_eq.mpr c29
            have c29b1 : (a0_0 != 6) = false := bne_eq_false_iff_eq.mpr c29
            clear c29
            by_cases c30 : (l0_3.length : Int) = 8
            ·rw [if_pos c30] at H
             have c30b0 : ((l0_3.length : Int) == 8) = true := beq_iff_eq.mpr c30
             have c30b1 : ((l0_3.length : Int) != 8) = false := bne_eq_false_iff_eq.mpr c30
             clear c30
             by_cases c31 : (l0_3.length : Int) ≤ 16384
             ·rw [if_pos c31] at H
              have c31b0 : decide ((l0_3.length : Int) ≤ 16384) = true := decide_eq_true c31
              have c31b1 : decide (l0_3.length ≤ 16384) = true := decide_eq_true (by omega)
              clear c31
              by_cases c32 : (l0_10.length : Int) ≤ 2730
              ·rw [if_pos c32] at H
               have c32b0 : decide ((l0_10.length : Int) ≤ 2730) = true := decide_eq_true c32
               have c32b1 : decide (l0_10.length ≤ 2730) = true := decide_eq_true (by omega)
               clear c32
               replace H := Option.bind_eq_some_iff.mp H
               obtain ⟨t173, A330, H⟩ := H
               replace H : (some (decide ((t173.length : Int) ≤ 16384))) = some r := H
               have A33 := Aside0.mk A330
               clear A330
               obtain rfl := Option.some.inj H
               have z34_0 : wc.cell? ⟨gb170, 0, none⟩ = some (.int .u8 a0_0) := (blk_cell BK170.out 0).trans rfl
               have z34_1 : wc.cell? ⟨gb170, 1, none⟩ = some (.int .u8 a0_1) := (blk_cell BK170.out 1).trans rfl
               have z34_2 : wc.cell? ⟨gb170, 2, none⟩ = some (.int .u32 a0_2) := (blk_cell BK170.out 2).trans rfl
               have z34_3 : wc.cell? ⟨gb170, 3, none⟩ = some (.slice A0_3 l0_3.length c0_3) := (blk_cell BK170.out 3).trans rfl
               have z34_4 : wc.cell? ⟨gb170, 4, none⟩ = some (.int .i64 a0_4) := (blk_cell BK170.out 4).trans rfl
               have z34_5 : wc.cell? ⟨gb170, 5, none⟩ = some (.int .u32 a0_5) := (blk_cell BK170.out 5).trans rfl
               have z34_6 : wc.cell? ⟨gb170, 6, none⟩ = some (.int .u32 a0_6) := (blk_cell BK170.out 6).trans rfl
               have z34_7 : wc.cell? ⟨gb170, 7, none⟩ = some (.int .u8 a0_7) := (blk_cell BK170.out 7).trans rfl
               have z34_8 : wc.cell? ⟨gb170, 8, none⟩ = some (.bool a0_8) := (blk_cell BK170.out 8).trans rfl
               have z34_9 : wc.cell? ⟨gb170, 9, none⟩ = some (.int .u32 a0_9) := (blk_cell BK170.out 9).trans rfl
               have z34_10 : wc.cell? ⟨gb170, 10, none⟩ = some (.slice A0_10 l0_10.length c0_10) := (blk_cell BK170.out 10).trans rfl
               have y34_0 := blk_frozen BK170.out 0
               have y34_1 := blk_frozen BK170.out 1
               have y34_2 := blk_frozen BK170.out 2
               have y34_3 := blk_frozen BK170.out 3
               have y34_4 := blk_frozen BK170.out 4
               have y34_5 := blk_frozen BK170.out 5
               have y34_6 := blk_frozen BK170.out 6
               have y34_7 := blk_frozen BK170.out 7
               have y34_8 := blk_frozen BK170.out 8
               have y34_9 := blk_frozen BK170.out 9
               have y34_10 := blk_frozen BK170.out 10
               go_wp2_with (first | (go_at_call 46; (with_reducible refine (frame_payload.calls kj23 a0_0 a0_1 a0_2 _ _ l0_3 a0_4 a0_5 a0_6 a0_7 a0_8 a0_9 _ _ l0_10 t173 _ ?side1 ?side2 ?side3 ?side4 A33.out).mono ?_); (case side1 => repeat (first | exact (Kd.C_below HR0_3.out HB.out) | (with_reducible refine Kd.C_alloc ?_ _) | (with_reducible refine Kd.C_drewN ?_ _) | (with_reducible refine Kd.C_drew ?_))); (case side2 => exact HC0_3.out); (case side3 => repeat (first | exact (Kd.C_below HR0_10.out HB.out) | (with_reducible refine Kd.C_alloc ?_ _) | (with_reducible refine Kd.C_drewN ?_ _) | (with_reducible refine Kd.C_drew ?_))); (case side4 => exact HC0_10.out); rintro e w35 ⟨v174, rfl, ho0, hb⟩; have n0_ := Aside0.mk (Kd.R_lower ho0 (below_size (by repeat (first | (with_reducible first | exact HB.out | apply below_alloc | apply pw_below_drewN | apply below_drew1 | refine below_set ?_ GE170.out) | exact HB.out)))); have n1_ := Aside0.mk (blk_below (g := gb170) (o := .cells #[.int .u8 a0_0, .int .u8 a0_1, .int .u32 a0_2, .slice A0_3 l0_3.length c0_3, .int .i64 a0_4, .int .u32 a0_5, .int .u32 a0_6, .int .u8 a0_7, .bool a0_8, .int .u32 a0_9, .slice A0_10 l0_10.length c0_10] 38 (0, 0)) (by (with_reducible repeat (first | refine blk_drewN ?_ _ | refine blk_drew ?_ | refine blk_alloc ?_ _)); exact BK170.out) hb); have n2_ := Aside0.mk (below_step (by repeat (first | (with_reducible first | exact HB.out | apply below_alloc | apply pw_below_drewN | apply below_drew1 | refine below_set ?_ GE170.out) | exact HB.out)) hb); clear BK170; clear HB; have HO175 := n0_; have BK170 := n1_; have HB := n2_; clear n0_ n1_ n2_; (try clear hb); (try clear hb2); (try clear hk); (try clear hi); (try clear ho0); obtain ⟨Ao36, co36, eo36⟩ := Kd.R_slice HO175.out; subst eo36))
               go_ret
               exact ⟨by first | rfl | (simp [errW_none, errW_some] <;> rfl) | (simp [*, errW_none, errW_some] <;> rfl), by repeat (first | (with_reducible first | exact HB.out | apply below_alloc | apply pw_below_drewN | apply below_drew1 | refine below_set ?_ GE170.out) | exact HB.out)⟩
              ·rw [if_neg c32] at H
               have c32b0 : decide ((l0_10.length : Int) ≤ 2730) = false := decide_eq_false c32
               have c32b1 : decide (l0_10.length ≤ 2730) = false := decide_eq_false (by omega)
               clear c32
               obtain rfl := Option.some.inj H
               have z37_0 : wc.cell? ⟨gb170, 0, none⟩ = some (.int .u8 a0_0) := (blk_cell BK170.out 0).trans rfl
               have z37_1 : wc.cell? ⟨gb170, 1, none⟩ = some (.int .u8 a0_1) := (blk_cell BK170.out 1).trans rfl
               have z37_2 : wc.cell? ⟨gb170, 2, none⟩ = some (.int .u32 a0_2) := (blk_cell BK170.out 2).trans rfl
               have z37_3 : wc.cell? ⟨gb170, 3, none⟩ = some (.slice A0_3 l0_3.length c0_3) := (blk_cell BK170.out 3).trans rfl
               have z37_4 : wc.cell? ⟨gb170, 4, none⟩ = some (.int .i64 a0_4) := (blk_cell BK170.out 4).trans rfl
               have z37_5 : wc.cell? ⟨gb170, 5, none⟩ = some (.int .u32 a0_5) := (blk_cell BK170.out 5).trans rfl
               have z37_6 : wc.cell? ⟨gb170, 6, none⟩ = some (.int .u32 a0_6) := (blk_cell BK170.out 6).trans rfl
               have z37_7 : wc.cell? ⟨gb170, 7, none⟩ = some (.int .u8 a0_7) := (blk_cell BK170.out 7).trans rfl
               have z37_8 : wc.cell? ⟨gb170, 8, none⟩ = some (.bool a0_8) := (blk_cell BK170.out 8).trans rfl
               have z37_9 : wc.cell? ⟨gb170, 9, none⟩ = some (.int .u32 a0_9) := (blk_cell BK170.out 9).trans rfl
               have z37_10 : wc.cell? ⟨gb170, 10, none⟩ = some (.slice A0_10 l0_10.length c0_10) := (blk_cell BK170.out 10).trans rfl
               have y37_0 := blk_frozen BK170.out 0
               have y37_1 := blk_frozen BK170.out 1
               have y37_2 := blk_frozen BK170.out 2
               have y37_3 := blk_frozen BK170.out 3
               have y37_4 := blk_frozen BK170.out 4
               have y37_5 := blk_frozen BK170.out 5
               have y37_6 := blk_frozen BK170.out 6
               have y37_7 := blk_frozen BK170.out 7
               have y37_8 := blk_frozen BK170.out 8
               have y37_9 := blk_frozen BK170.out 9
               have y37_10 := blk_frozen BK170.out 10
               go_wp2
               go_ret
               exact ⟨by first | rfl | (simp [errW_none, errW_some] <;> rfl) | (simp [*, errW_none, errW_some] <;> rfl), by repeat (first | (with_reducible first | exact HB.out | apply below_alloc | apply pw_below_drewN | apply below_drew1 | refine below_set ?_ GE170.out) | exact HB.out)⟩
             ·rw [if_neg c31] at H
              have c31b0 : decide ((l0_3.length : Int) ≤ 16384) = false := decide_eq_false c31
              have c31b1 : decide (l0_3.length ≤ 16384) = false := decide_eq_false (by omega)
              clear c31
              obtain rfl := Option.some.inj H
              have z38_0 : wc.cell? ⟨gb170, 0, none⟩ = some (.int .u8 a0_0) := (blk_cell BK170.out 0).trans rfl
              have z38_1 : wc.cell? ⟨gb170, 1, none⟩ = some (.int .u8 a0_1) := (blk_cell BK170.out 1).trans rfl
              have z38_2 : wc.cell? ⟨gb170, 2, none⟩ = some (.int .u32 a0_2) := (blk_cell BK170.out 2).trans rfl
              have z38_3 : wc.cell? ⟨gb170, 3, none⟩ = some (.slice A0_3 l0_3.length c0_3) := (blk_cell BK170.out 3).trans rfl
              have z38_4 : wc.cell? ⟨gb170, 4, none⟩ = some (.int .i64 a0_4) := (blk_cell BK170.out 4).trans rfl
              have z38_5 : wc.cell? ⟨gb170, 5, none⟩ = some (.int .u32 a0_5) := (blk_cell BK170.out 5).trans rfl
              have z38_6 : wc.cell? ⟨gb170, 6, none⟩ = some (.int .u32 a0_6) := (blk_cell BK170.out 6).trans rfl
              have z38_7 : wc.cell? ⟨gb170, 7, none⟩ = some (.int .u8 a0_7) := (blk_cell BK170.out 7).trans rfl
              have z38_8 : wc.cell? ⟨gb170, 8, none⟩ = some (.bool a0_8) := (blk_cell BK170.out 8).trans rfl
              have z38_9 : wc.cell? ⟨gb170, 9, none⟩ = some (.int .u32 a0_9) := (blk_cell BK170.out 9).trans rfl
              have z38_10 : wc.cell? ⟨gb170, 10, none⟩ = some (.slice A0_10 l0_10.length c0_10) := (blk_cell BK170.out 10).trans rfl
              have y38_0 := blk_frozen BK170.out 0
              have y38_1 := blk_frozen BK170.out 1
              have y38_2 := blk_frozen BK170.out 2
              have y38_3 := blk_frozen BK170.out 3
              have y38_4 := blk_frozen BK170.out 4
              have y38_5 := blk_frozen BK170.out 5
              have y38_6 := blk_frozen BK170.out 6
              have y38_7 := blk_frozen BK170.out 7
              have y38_8 := blk_frozen BK170.out 8
              have y38_9 := blk_frozen BK170.out 9
              have y38_10 := blk_frozen BK170.out 10
              go_wp2
              go_ret
              exact ⟨by first | rfl | (simp [errW_none, errW_some] <;> rfl) | (simp [*, errW_none, errW_some] <;> rfl), by repeat (first | (with_reducible first | exact HB.out | apply below_alloc | apply pw_below_drewN | apply below_drew1 | refine below_set ?_ GE170.out) | exact HB.out)⟩
            ·rw [if_neg c30] at H
             have c30b0 : ((l0_3.length : Int) == 8) = false := beq_eq_false_iff_ne.mpr c30
             have c30b1 : ((l0_3.length : Int) != 8) = true := bne_iff_ne.mpr c30
             obtain rfl := Option.some.inj H
             have z39_0 : wc.cell? ⟨gb170, 0, none⟩ = some (.int .u8 a0_0) := (blk_cell BK170.out 0).trans rfl
             have z39_1 : wc.cell? ⟨gb170, 1, none⟩ = some (.int .u8 a0_1) := (blk_cell BK170.out 1).trans rfl
             have z39_2 : wc.cell? ⟨gb170, 2, none⟩ = some (.int .u32 a0_2) := (blk_cell BK170.out 2).trans rfl
             have z39_3 : wc.cell? ⟨gb170, 3, none⟩ = some (.slice A0_3 l0_3.length c0_3) := (blk_cell BK170.out 3).trans rfl
             have z39_4 : wc.cell? ⟨gb170, 4, none⟩ = some (.int .i64 a0_4) := (blk_cell BK170.out 4).trans rfl
             have z39_5 : wc.cell? ⟨gb170, 5, none⟩ = some (.int .u32 a0_5) := (blk_cell BK170.out 5).trans rfl
             have z39_6 : wc.cell? ⟨gb170, 6, none⟩ = some (.int .u32 a0_6) := (blk_cell BK170.out 6).trans rfl
             have z39_7 : wc.cell? ⟨gb170, 7, none⟩ = some (.int .u8 a0_7) := (blk_cell BK170.out 7).trans rfl
             have z39_8 : wc.cell? ⟨gb170, 8, none⟩ = some (.bool a0_8) := (blk_cell BK170.out 8).trans rfl
             have z39_9 : wc.cell? ⟨gb170, 9, none⟩ = some (.int .u32 a0_9) := (blk_cell BK170.out 9).trans rfl
             have z39_10 : wc.cell? ⟨gb170, 10, none⟩ = some (.slice A0_10 l0_10.length c0_10) := (blk_cell BK170.out 10).trans rfl
             have y39_0 := blk_frozen BK170.out 0
             have y39_1 := blk_frozen BK170.out 1
             have y39_2 := blk_frozen BK170.out 2
             have y39_3 := blk_frozen BK170.out 3
             have y39_4 := blk_frozen BK170.out 4
             have y39_5 := blk_frozen BK170.out 5
             have y39_6 := blk_frozen BK170.out 6
             have y39_7 := blk_frozen BK170.out 7
             have y39_8 := blk_frozen BK170.out 8
             have y39_9 := blk_frozen BK170.out 9
             have y39_10 := blk_frozen BK170.out 10
             go_wp2
             go_ret
             exact ⟨by first | rfl | (simp [errW_none, errW_some] <;> rfl) | (simp [*, errW_none, errW_some] <;> rfl), by repeat (first | (with_reducible first | exact HB.out | apply below_alloc | apply pw_below_drewN | apply below_drew1 | refine below_set ?_ GE170.out) | exact HB.out)⟩
           ·rw [if_neg c29] at H
            have c29b0 : (a0_0 == 6) = false := beq_eq_false_iff_ne.mpr c29
            have c29b1 : (a0_0 != 6) = true := bne_iff_ne.mpr c29
            by_cases c40 : (l0_3.length : Int) ≤ 16384
            ·rw [if_pos c40] at H
             have c40b0 : decide ((l0_3.length : Int) ≤ 16384) = true := decide_eq_true c40
             have c40b1 : decide (l0_3.length ≤ 16384) = true := decide_eq_true (by omega)
             clear c40
             by_cases c41 : (l0_10.length : Int) ≤ 2730
             ·rw [if_pos c41] at H
              have c41b0 : decide ((l0_10.length : Int) ≤ 2730) = true := decide_eq_true c41
              have c41b1 : decide (l0_10.length ≤ 2730) = true := decide_eq_true (by omega)
              clear c41
              replace H := Option.bind_eq_some_iff.mp H
              obtain ⟨t176, A420, H⟩ := H
              replace H : (some (decide ((t176.length : Int) ≤ 16384))) = some r := H
              have A42 := Aside0.mk A420
              clear A420
              obtain rfl := Option.some.inj H
              have z43_0 : wc.cell? ⟨gb170, 0, none⟩ = some (.int .u8 a0_0) := (blk_cell BK170.out 0).trans rfl
              have z43_1 : wc.cell? ⟨gb170, 1, none⟩ = some (.int .u8 a0_1) := (blk_cell BK170.out 1).trans rfl
              have z43_2 : wc.cell? ⟨gb170, 2, none⟩ = some (.int .u32 a0_2) := (blk_cell BK170.out 2).trans rfl
              have z43_3 : wc.cell? ⟨gb170, 3, none⟩ = some (.slice A0_3 l0_3.length c0_3) := (blk_cell BK170.out 3).trans rfl
              have z43_4 : wc.cell? ⟨gb170, 4, none⟩ = some (.int .i64 a0_4) := (blk_cell BK170.out 4).trans rfl
              have z43_5 : wc.cell? ⟨gb170, 5, none⟩ = some (.int .u32 a0_5) := (blk_cell BK170.out 5).trans rfl
              have z43_6 : wc.cell? ⟨gb170, 6, none⟩ = some (.int .u32 a0_6) := (blk_cell BK170.out 6).trans rfl
              have z43_7 : wc.cell? ⟨gb170, 7, none⟩ = some (.int .u8 a0_7) := (blk_cell BK170.out 7).trans rfl
              have z43_8 : wc.cell? ⟨gb170, 8, none⟩ = some (.bool a0_8) := (blk_cell BK170.out 8).trans rfl
              have z43_9 : wc.cell? ⟨gb170, 9, none⟩ = some (.int .u32 a0_9) := (blk_cell BK170.out 9).trans rfl
              have z43_10 : wc.cell? ⟨gb170, 10, none⟩ = some (.slice A0_10 l0_10.length c0_10) := (blk_cell BK170.out 10).trans rfl
              have y43_0 := blk_frozen BK170.out 0
              have y43_1 := blk_frozen BK170.out 1
              have y43_2 := blk_frozen BK170.out 2
              have y43_3 := blk_frozen BK170.out 3
              have y43_4 := blk_frozen BK170.out 4
              have y43_5 := blk_frozen BK170.out 5
              have y43_6 := blk_frozen BK170.out 6
              have y43_7 := blk_frozen BK170.out 7
              have y43_8 := blk_frozen BK170.out 8
              have y43_9 := blk_frozen BK170.out 9
              have y43_10 := blk_frozen BK170.out 10
              go_wp2_with (first | (go_at_call 46; (with_reducible refine (frame_payload.calls kj23 a0_0 a0_1 a0_2 _ _ l0_3 a0_4 a0_5 a0_6 a0_7 a0_8 a0_9 _ _ l0_10 t176 _ ?side1 ?side2 ?side3 ?side4 A42.out).mono ?_); (case side1 => repeat (first | exact (Kd.C_below HR0_3.out HB.out) | (with_reducible refine Kd.C_alloc ?_ _) | (with_reducible refine Kd.C_drewN ?_ _) | (with_reducible refine Kd.C_drew ?_))); (case side2 => exact HC0_3.out); (case side3 => repeat (first | exact (Kd.C_below HR0_10.out HB.out) | (with_reducible refine Kd.C_alloc ?_ _) | (with_reducible refine Kd.C_drewN ?_ _) | (with_reducible refine Kd.C_drew ?_))); (case side4 => exact HC0_10.out); rintro e w44 ⟨v177, rfl, ho0, hb⟩; have n0_ := Aside0.mk (Kd.R_lower ho0 (below_size (by repeat (first | (with_reducible first | exact HB.out | apply below_alloc | apply pw_below_drewN | apply below_drew1 | refine below_set ?_ GE170.out) | exact HB.out)))); have n1_ := Aside0.mk (blk_below (g := gb170) (o := .cells #[.int .u8 a0_0, .int .u8 a0_1, .int .u32 a0_2, .slice A0_3 l0_3.length c0_3, .int .i64 a0_4, .int .u32 a0_5, .int .u32 a0_6, .int .u8 a0_7, .bool a0_8, .int .u32 a0_9, .slice A0_10 l0_10.length c0_10] 38 (0, 0)) (by (with_reducible repeat (first | refine blk_drewN ?_ _ | refine blk_drew ?_ | refine blk_alloc ?_ _)); exact BK170.out) hb); have n2_ := Aside0.mk (below_step (by repeat (first | (with_reducible first | exact HB.out | apply below_alloc | apply pw_below_drewN | apply below_drew1 | refine below_set ?_ GE170.out) | exact HB.out)) hb); clear BK170; clear HB; have HO178 := n0_; have BK170 := n1_; have HB := n2_; clear n0_ n1_ n2_; (try clear hb); (try clear hb2); (try clear hk); (try clear hi); (try clear ho0); obtain ⟨Ao45, co45, eo45⟩ := Kd.R_slice HO178.out; subst eo45))
              go_ret
              exact ⟨by first | rfl | (simp [errW_none, errW_some] <;> rfl) | (simp [*, errW_none, errW_some] <;> rfl), by repeat (first | (with_reducible first | exact HB.out | apply below_alloc | apply pw_below_drewN | apply below_drew1 | refine below_set ?_ GE170.out) | exact HB.out)⟩
             ·rw [if_neg c41] at H
              have c41b0 : decide ((l0_10.length : Int) ≤ 2730) = false := decide_eq_false c41
              have c41b1 : decide (l0_10.length ≤ 2730) = false := decide_eq_false (by omega)
              clear c41
              obtain rfl := Option.some.inj H
              have z46_0 : wc.cell? ⟨gb170, 0, none⟩ = some (.int .u8 a0_0) := (blk_cell BK170.out 0).trans rfl
              have z46_1 : wc.cell? ⟨gb170, 1, none⟩ = some (.int .u8 a0_1) := (blk_cell BK170.out 1).trans rfl
              have z46_2 : wc.cell? ⟨gb170, 2, none⟩ = some (.int .u32 a0_2) := (blk_cell BK170.out 2).trans rfl
              have z46_3 : wc.cell? ⟨gb170, 3, none⟩ = some (.slice A0_3 l0_3.length c0_3) := (blk_cell BK170.out 3).trans rfl
              have z46_4 : wc.cell? ⟨gb170, 4, none⟩ = some (.int .i64 a0_4) := (blk_cell BK170.out 4).trans rfl
              have z46_5 : wc.cell? ⟨gb170, 5, none⟩ = some (.int .u32 a0_5) := (blk_cell BK170.out 5).trans rfl
              have z46_6 : wc.cell? ⟨gb170, 6, none⟩ = some (.int .u32 a0_6) := (blk_cell BK170.out 6).trans rfl
              have z46_7 : wc.cell? ⟨gb170, 7, none⟩ = some (.int .u8 a0_7) := (blk_cell BK170.out 7).trans rfl
              have z46_8 : wc.cell? ⟨gb170, 8, none⟩ = some (.bool a0_8) := (blk_cell BK170.out 8).trans rfl
              have z46_9 : wc.cell? ⟨gb170, 9, none⟩ = some (.int .u32 a0_9) := (blk_cell BK170.out 9).trans rfl
              have z46_10 : wc.cell? ⟨gb170, 10, none⟩ = some (.slice A0_10 l0_10.length c0_10) := (blk_cell BK170.out 10).trans rfl
              have y46_0 := blk_frozen BK170.out 0
              have y46_1 := blk_frozen BK170.out 1
              have y46_2 := blk_frozen BK170.out 2
              have y46_3 := blk_frozen BK170.out 3
              have y46_4 := blk_frozen BK170.out 4
              have y46_5 := blk_frozen BK170.out 5
              have y46_6 := blk_frozen BK170.out 6
              have y46_7 := blk_frozen BK170.out 7
              have y46_8 := blk_frozen BK170.out 8
              have y46_9 := blk_frozen BK170.out 9
              have y46_10 := blk_frozen BK170.out 10
              go_wp2
              go_ret
              exact ⟨by first | rfl | (simp [errW_none, errW_some] <;> rfl) | (simp [*, errW_none, errW_some] <;> rfl), by repeat (first | (with_reducible first | exact HB.out | apply below_alloc | apply pw_below_drewN | apply below_drew1 | refine below_set ?_ GE170.out) | exact HB.out)⟩
            ·rw [if_neg c40] at H
             have c40b0 : decide ((l0_3.length : Int) ≤ 16384) = false := decide_eq_false c40
             have c40b1 : decide (l0_3.length ≤ 16384) = false := decide_eq_false (by omega)
             clear c40
             obtain rfl := Option.some.inj H
             have z47_0 : wc.cell? ⟨gb170, 0, none⟩ = some (.int .u8 a0_0) := (blk_cell BK170.out 0).trans rfl
             have z47_1 : wc.cell? ⟨gb170, 1, none⟩ = some (.int .u8 a0_1) := (blk_cell BK170.out 1).trans rfl
             have z47_2 : wc.cell? ⟨gb170, 2, none⟩ = some (.int .u32 a0_2) := (blk_cell BK170.out 2).trans rfl
             have z47_3 : wc.cell? ⟨gb170, 3, none⟩ = some (.slice A0_3 l0_3.length c0_3) := (blk_cell BK170.out 3).trans rfl
             have z47_4 : wc.cell? ⟨gb170, 4, none⟩ = some (.int .i64 a0_4) := (blk_cell BK170.out 4).trans rfl
             have z47_5 : wc.cell? ⟨gb170, 5, none⟩ = some (.int .u32 a0_5) := (blk_cell BK170.out 5).trans rfl
             have z47_6 : wc.cell? ⟨gb170, 6, none⟩ = some (.int .u32 a0_6) := (blk_cell BK170.out 6).trans rfl
             have z47_7 : wc.cell? ⟨gb170, 7, none⟩ = some (.int .u8 a0_7) := (blk_cell BK170.out 7).trans rfl
             have z47_8 : wc.cell? ⟨gb170, 8, none⟩ = some (.bool a0_8) := (blk_cell BK170.out 8).trans rfl
             have z47_9 : wc.cell? ⟨gb170, 9, none⟩ = some (.int .u32 a0_9) := (blk_cell BK170.out 9).trans rfl
             have z47_10 : wc.cell? ⟨gb170, 10, none⟩ = some (.slice A0_10 l0_10.length c0_10) := (blk_cell BK170.out 10).trans rfl
             have y47_0 := blk_frozen BK170.out 0
             have y47_1 := blk_frozen BK170.out 1
             have y47_2 := blk_frozen BK170.out 2
             have y47_3 := blk_frozen BK170.out 3
             have y47_4 := blk_frozen BK170.out 4
             have y47_5 := blk_frozen BK170.out 5
             have y47_6 := blk_frozen BK170.out 6
             have y47_7 := blk_frozen BK170.out 7
             have y47_8 := blk_frozen BK170.out 8
             have y47_9 := blk_frozen BK170.out 9
             have y47_10 := blk_frozen BK170.out 10
             go_wp2
             go_ret
             exact ⟨by first | rfl | (simp [errW_none, errW_some] <;> rfl) | (simp [*, errW_none, errW_some] <;> rfl), by repeat (first | (with_reducible first | exact HB.out | apply below_alloc | apply pw_below_drewN | apply below_drew1 | refine below_set ?_ GE170.out) | exact HB.out)⟩

end Go.Proofs.YtjjfkmniffbgkaaDoor.QFrmB
