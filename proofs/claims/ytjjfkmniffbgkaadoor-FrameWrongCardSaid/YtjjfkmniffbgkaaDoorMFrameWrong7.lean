/- Texts of this claim, put together: QFrmBx5. -/
import Derived.Test.YtjjfkmniffbgkaaDoorMFrameWrong5
/- Printed by a program of this claim's author (wip/pr.py); not trusted: Lean checks it. -/
namespace Go.Proofs.YtjjfkmniffbgkaaDoor.QFrmB
open Go.Proofs.YtjjfkmniffbgkaaDoor Go.Proofs.YtjjfkmniffbgkaaDoor.Given Go.Proofs.YtjjfkmniffbgkaaDoor.QFrmA
open Go.RowKit Go.Proofs.YtjjfkmniffbgkaaDoorW.PrintWords Go.Proofs.YtjjfkmniffbgkaaDoorW.PrintLast Go.Proofs.YtjjfkmniffbgkaaDoorW.PrintMore
attribute [local go_sem] max2_int min2_int max_two min_two max_three min_three max_four min_four   -- for this text's walks alone
set_option linter.unusedVariables false
set_option linter.unusedSimpArgs false

/-! ### frame_fields: function 49 -/
mutual
def frame_fields.j0 : Nat → Bool → Int → Int → Int → List Int → Int → Int → Int → Int → Bool → Int → List (S99) → Option (Bool)
 | 0, _, _, _, _, _, _, _, _, _, _, _, _ => none
 | k + 1, x3, x168000, x168001, x168002, x168003, x168004, x168005, x168006, x168007, x168008, x168009, x168010 => if x168000 = 2 then (frame_fields.j1 k x3 false x168000 x168001 x168002 x168003 x168004 x168005 x168006 x168007 x168008 x168009 x168010) else (if x168000 = 3 then (frame_fields.j1 k x3 false x168000 x168001 x168002 x168003 x168004 x168005 x168006 x168007 x168008 x168009 x168010) else (if x168000 = 4 then (frame_fields.j1 k x3 false x168000 x168001 x168002 x168003 x168004 x168005 x168006 x168007 x168008 x168009 x168010) else (frame_fields.j1 k x3 (x168000 != 8) x168000 x168001 x168002 x168003 x168004 x168005 x168006 x168007 x168008 x168009 x168010)))
def frame_fields.j1 : Nat → Bool → Bool → Int → Int → Int → List Int → Int → Int → Int → Int → Bool → Int → List (S99) → Option (Bool)
 | 0, _, _, _, _, _, _, _, _, _, _, _, _, _ => none
 | k + 1, x3, x4, x168000, x168001, x168002, x168003, x168004, x168005, x168006, x168007, x168008, x168009, x168010 => if x168000 = 3 then (frame_fields.j2 k x3 x4 true x168000 x168001 x168002 x168003 x168004 x168005 x168006 x168007 x168008 x168009 x168010) else (frame_fields.j2 k x3 x4 (x168000 == 7) x168000 x168001 x168002 x168003 x168004 x168005 x168006 x168007 x168008 x168009 x168010)
def frame_fields.j2 : Nat → Bool → Bool → Bool → Int → Int → Int → List Int → Int → Int → Int → Int → Bool → Int → List (S99) → Option (Bool)
 | 0, _, _, _, _, _, _, _, _, _, _, _, _, _, _ => none
 | k + 1, x3, x4, x5, x168000, x168001, x168002, x168003, x168004, x168005, x168006, x168007, x168008, x168009, x168010 => (frame_leans.f x168000 x168001 x168002 x168003 x168004 x168005 x168006 x168007 x168008 x168009 x168010).bind fun t169 => (if t169 = true then (frame_fields.j3 k x3 x4 x5 false x168000 x168001 x168002 x168003 x168004 x168005 x168006 x168007 x168008 x168009 x168010) else (if x168007 = 0 then (frame_fields.j3 k x3 x4 x5 x168008 x168000 x168001 x168002 x168003 x168004 x168005 x168006 x168007 x168008 x168009 x168010) else (frame_fields.j3 k x3 x4 x5 true x168000 x168001 x168002 x168003 x168004 x168005 x168006 x168007 x168008 x168009 x168010)))
def frame_fields.j3 : Nat → Bool → Bool → Bool → Bool → Int → Int → Int → List Int → Int → Int → Int → Int → Bool → Int → List (S99) → Option (Bool)
 | 0, _, _, _, _, _, _, _, _, _, _, _, _, _, _, _ => none
 | k + 1, x3, x4, x5, x44, x168000, x168001, x168002, x168003, x168004, x168005, x168006, x168007, x168008, x168009, x168010 => if x44 = true then (frame_fields.j4 k x4 x44 x168000 x168001 x168002 x168003 x168004 x168005 x168006 x168007 x168008 x168009 x168010) else (if x3 = true then (if x5 = true then (frame_fields.j4 k x4 false x168000 x168001 x168002 x168003 x168004 x168005 x168006 x168007 x168008 x168009 x168010) else (frame_fields.j4 k x4 (x168005 != 0) x168000 x168001 x168002 x168003 x168004 x168005 x168006 x168007 x168008 x168009 x168010)) else (if x168006 = 0 then (if x5 = true then (frame_fields.j4 k x4 false x168000 x168001 x168002 x168003 x168004 x168005 x168006 x168007 x168008 x168009 x168010) else (frame_fields.j4 k x4 (x168005 != 0) x168000 x168001 x168002 x168003 x168004 x168005 x168006 x168007 x168008 x168009 x168010)) else (frame_fields.j4 k x4 (x168006 != 0) x168000 x168001 x168002 x168003 x168004 x168005 x168006 x168007 x168008 x168009 x168010)))
def frame_fields.j4 : Nat → Bool → Bool → Int → Int → Int → List Int → Int → Int → Int → Int → Bool → Int → List (S99) → Option (Bool)
 | 0, _, _, _, _, _, _, _, _, _, _, _, _, _ => none
 | k + 1, x4, x44, x168000, x168001, x168002, x168003, x168004, x168005, x168006, x168007, x168008, x168009, x168010 => if x44 = true then (some false) else (if x168000 = 8 then (frame_fields.j5 k x4 false x168000 x168001 x168002 x168003 x168004 x168005 x168006 x168007 x168008 x168009 x168010) else (frame_fields.j5 k x4 (x168009 != 0) x168000 x168001 x168002 x168003 x168004 x168005 x168006 x168007 x168008 x168009 x168010))
def frame_fields.j5 : Nat → Bool → Bool → Int → Int → Int → List Int → Int → Int → Int → Int → Bool → Int → List (S99) → Option (Bool)
 | 0, _, _, _, _, _, _, _, _, _, _, _, _, _ => none
 | k + 1, x4, x71, x168000, x168001, x168002, x168003, x168004, x168005, x168006, x168007, x168008, x168009, x168010 => if x71 = true then (some false) else (if x168000 = 4 then (if x4 = true then (some true) else (some ((x168003.length : Int) == 0))) else (if (x168010.length : Int) > 0 then (some false) else (if x4 = true then (some true) else (some ((x168003.length : Int) == 0)))))
end
def frame_fields.f (k : Nat) (a0_0 : Int) (a0_1 : Int) (a0_2 : Int) (l0_3 : List Int) (a0_4 : Int) (a0_5 : Int) (a0_6 : Int) (a0_7 : Int) (a0_8 : Bool) (a0_9 : Int) (l0_10 : List (S99)) : Option (Bool) := (frame_leans.f a0_0 a0_1 a0_2 l0_3 a0_4 a0_5 a0_6 a0_7 a0_8 a0_9 l0_10).bind fun t168 => (if t168 = true then (frame_fields.j0 k true a0_0 a0_1 a0_2 l0_3 a0_4 a0_5 a0_6 a0_7 a0_8 a0_9 l0_10) else (if a0_0 = 5 then (frame_fields.j0 k true a0_0 a0_1 a0_2 l0_3 a0_4 a0_5 a0_6 a0_7 a0_8 a0_9 l0_10) else (frame_fields.j0 k (a0_0 == 7) a0_0 a0_1 a0_2 l0_3 a0_4 a0_5 a0_6 a0_7 a0_8 a0_9 l0_10)))
theorem frame_fields.mono_l : ∀ k, (∀ y0 y1 y2 y3 y4 y5 y6 y7 y8 y9 y10 y11, LeO (frame_fields.j0 k y0 y1 y2 y3 y4 y5 y6 y7 y8 y9 y10 y11) (frame_fields.j0 (k + 1) y0 y1 y2 y3 y4 y5 y6 y7 y8 y9 y10 y11)) ∧ (∀ y0 y1 y2 y3 y4 y5 y6 y7 y8 y9 y10 y11 y12, LeO (frame_fields.j1 k y0 y1 y2 y3 y4 y5 y6 y7 y8 y9 y10 y11 y12) (frame_fields.j1 (k + 1) y0 y1 y2 y3 y4 y5 y6 y7 y8 y9 y10 y11 y12)) ∧ (∀ y0 y1 y2 y3 y4 y5 y6 y7 y8 y9 y10 y11 y12 y13, LeO (frame_fields.j2 k y0 y1 y2 y3 y4 y5 y6 y7 y8 y9 y10 y11 y12 y13) (frame_fields.j2 (k + 1) y0 y1 y2 y3 y4 y5 y6 y7 y8 y9 y10 y11 y12 y13)) ∧ (∀ y0 y1 y2 y3 y4 y5 y6 y7 y8 y9 y10 y11 y12 y13 y14, LeO (frame_fields.j3 k y0 y1 y2 y3 y4 y5 y6 y7 y8 y9 y10 y11 y12 y13 y14) (frame_fields.j3 (k + 1) y0 y1 y2 y3 y4 y5 y6 y7 y8 y9 y10 y11 y12 y13 y14)) ∧ (∀ y0 y1 y2 y3 y4 y5 y6 y7 y8 y9 y10 y11 y12, LeO (frame_fields.j4 k y0 y1 y2 y3 y4 y5 y6 y7 y8 y9 y10 y11 y12) (frame_fields.j4 (k + 1) y0 y1 y2 y3 y4 y5 y6 y7 y8 y9 y10 y11 y12)) ∧ (∀ y0 y1 y2 y3 y4 y5 y6 y7 y8 y9 y10 y11 y12, LeO (frame_fields.j5 k y0 y1 y2 y3 y4 y5 y6 y7 y8 y9 y10 y11 y12) (frame_fields.j5 (k + 1) y0 y1 y2 y3 y4 y5 y6 y7 y8 y9 y10 y11 y12))
 | 0 => ⟨fun _ _ _ _ _ _ _ _ _ _ _ _ r h => by simp [frame_fields.j0] at h, fun _ _ _ _ _ _ _ _ _ _ _ _ _ r h => by simp [frame_fields.j1] at h, fun _ _ _ _ _ _ _ _ _ _ _ _ _ _ r h => by simp [frame_fields.j2] at h, fun _ _ _ _ _ _ _ _ _ _ _ _ _ _ _ r h => by simp [frame_fields.j3] at h, fun _ _ _ _ _ _ _ _ _ _ _ _ _ r h => by simp [frame_fields.j4] at h, fun _ _ _ _ _ _ _ _ _ _ _ _ _ r h => by simp [frame_fields.j5] at h⟩
 | k + 1 => by
  obtain ⟨ih0, ih1, ih2, ih3, ih4, ih5⟩ := frame_fields.mono_l k
  refine ⟨?_, ?_, ?_, ?_, ?_, ?_⟩
  ·intro y0 y1 y2 y3 y4 y5 y6 y7 y8 y9 y10 y11
   unfold frame_fields.j0
   repeat' first
   | (with_reducible exact ih0 _ _ _ _ _ _ _ _ _ _ _ _)
   | (with_reducible exact ih1 _ _ _ _ _ _ _ _ _ _ _ _ _)
   | (with_reducible exact ih2 _ _ _ _ _ _ _ _ _ _ _ _ _ _)
   | (with_reducible exact ih3 _ _ _ _ _ _ _ _ _ _ _ _ _ _ _)
   | (with_reducible exact ih4 _ _ _ _ _ _ _ _ _ _ _ _ _)
   | (with_reducible exact ih5 _ _ _ _ _ _ _ _ _ _ _ _ _)
   | (with_reducible exact LeO.refl _)
   | (with_reducible exact LeO.none _)
   | (with_reducible refine LeO.ite ?_ ?_)
   | (with_reducible refine LeO.bind ?_ (fun _ => ?_))
   | exact ih0 _ _ _ _ _ _ _ _ _ _ _ _
   | exact ih1 _ _ _ _ _ _ _ _ _ _ _ _ _
   | exact ih2 _ _ _ _ _ _ _ _ _ _ _ _ _ _
   | exact ih3 _ _ _ _ _ _ _ _ _ _ _ _ _ _ _
   | exact ih4 _ _ _ _ _ _ _ _ _ _ _ _ _
   | exact ih5 _ _ _ _ _ _ _ _ _ _ _ _ _
   | exact LeO.none _
   | refine LeO.ite ?_ ?_
   | refine LeO.bind ?_ (fun _ => ?_)
  ·intro y0 y1 y2 y3 y4 y5 y6 y7 y8 y9 y10 y11 y12
   unfold frame_fields.j1
   repeat' first
   | (with_reducible exact ih0 _ _ _ _ _ _ _ _ _ _ _ _)
   | (with_reducible exact ih1 _ _ _ _ _ _ _ _ _ _ _ _ _)
   | (with_reducible exact ih2 _ _ _ _ _ _ _ _ _ _ _ _ _ _)
   | (with_reducible exact ih3 _ _ _ _ _ _ _ _ _ _ _ _ _ _ _)
   | (with_reducible exact ih4 _ _ _ _ _ _ _ _ _ _ _ _ _)
   | (with_reducible exact ih5 _ _ _ _ _ _ _ _ _ _ _ _ _)
   | (with_reducible exact LeO.refl _)
   | (with_reducible exact LeO.none _)
   | (with_reducible refine LeO.ite ?_ ?_)
   | (with_reducible refine LeO.bind ?_ (fun _ => ?_))
   | exact ih0 _ _ _ _ _ _ _ _ _ _ _ _
   | exact ih1 _ _ _ _ _ _ _ _ _ _ _ _ _
   | exact ih2 _ _ _ _ _ _ _ _ _ _ _ _ _ _
   | exact ih3 _ _ _ _ _ _ _ _ _ _ _ _ _ _ _
   | exact ih4 _ _ _ _ _ _ _ _ _ _ _ _ _
   | exact ih5 _ _ _ _ _ _ _ _ _ _ _ _ _
   | exact LeO.none _
   | refine LeO.ite ?_ ?_
   | refine LeO.bind ?_ (fun _ => ?_)
  ·intro y0 y1 y2 y3 y4 y5 y6 y7 y8 y9 y10 y11 y12 y13
   unfold frame_fields.j2
   repeat' first
   | (with_reducible exact ih0 _ _ _ _ _ _ _ _ _ _ _ _)
   | (with_reducible exact ih1 _ _ _ _ _ _ _ _ _ _ _ _ _)
   | (with_reducible exact ih2 _ _ _ _ _ _ _ _ _ _ _ _ _ _)
   | (with_reducible exact ih3 _ _ _ _ _ _ _ _ _ _ _ _ _ _ _)
   | (with_reducible exact ih4 _ _ _ _ _ _ _ _ _ _ _ _ _)
   | (with_reducible exact ih5 _ _ _ _ _ _ _ _ _ _ _ _ _)
   | (with_reducible exact LeO.refl _)
   | (with_reducible exact LeO.none _)
   | (with_reducible refine LeO.ite ?_ ?_)
   | (with_reducible refine LeO.bind ?_ (fun _ => ?_))
   | exact ih0 _ _ _ _ _ _ _ _ _ _ _ _
   | exact ih1 _ _ _ _ _ _ _ _ _ _ _ _ _
   | exact ih2 _ _ _ _ _ _ _ _ _ _ _ _ _ _
   | exact ih3 _ _ _ _ _ _ _ _ _ _ _ _ _ _ _
   | exact ih4 _ _ _ _ _ _ _ _ _ _ _ _ _
   | exact ih5 _ _ _ _ _ _ _ _ _ _ _ _ _
   | exact LeO.none _
   | refine LeO.ite ?_ ?_
   | refine LeO.bind ?_ (fun _ => ?_)
  ·intro y0 y1 y2 y3 y4 y5 y6 y7 y8 y9 y10 y11 y12 y13 y14
   unfold frame_fields.j3
   repeat' first
   | (with_reducible exact ih0 _ _ _ _ _ _ _ _ _ _ _ _)
   | (with_reducible exact ih1 _ _ _ _ _ _ _ _ _ _ _ _ _)
   | (with_reducible exact ih2 _ _ _ _ _ _ _ _ _ _ _ _ _ _)
   | (with_reducible exact ih3 _ _ _ _ _ _ _ _ _ _ _ _ _ _ _)
   | (with_reducible exact ih4 _ _ _ _ _ _ _ _ _ _ _ _ _)
   | (with_reducible exact ih5 _ _ _ _ _ _ _ _ _ _ _ _ _)
   | (with_reducible exact LeO.refl _)
   | (with_reducible exact LeO.none _)
   | (with_reducible refine LeO.ite ?_ ?_)
   | (with_reducible refine LeO.bind ?_ (fun _ => ?_))
   | exact ih0 _ _ _ _ _ _ _ _ _ _ _ _
   | exact ih1 _ _ _ _ _ _ _ _ _ _ _ _ _
   | exact ih2 _ _ _ _ _ _ _ _ _ _ _ _ _ _
   | exact ih3 _ _ _ _ _ _ _ _ _ _ _ _ _ _ _
   | exact ih4 _ _ _ _ _ _ _ _ _ _ _ _ _
   | exact ih5 _ _ _ _ _ _ _ _ _ _ _ _ _
   | exact LeO.none _
   | refine LeO.ite ?_ ?_
   | refine LeO.bind ?_ (fun _ => ?_)
  ·intro y0 y1 y2 y3 y4 y5 y6 y7 y8 y9 y10 y11 y12
   unfold frame_fields.j4
   repeat' first
   | (with_reducible exact ih0 _ _ _ _ _ _ _ _ _ _ _ _)
   | (with_reducible exact ih1 _ _ _ _ _ _ _ _ _ _ _ _ _)
   | (with_reducible exact ih2 _ _ _ _ _ _ _ _ _ _ _ _ _ _)
   | (with_reducible exact ih3 _ _ _ _ _ _ _ _ _ _ _ _ _ _ _)
   | (with_reducible exact ih4 _ _ _ _ _ _ _ _ _ _ _ _ _)
   | (with_reducible exact ih5 _ _ _ _ _ _ _ _ _ _ _ _ _)
   | (with_reducible exact LeO.refl _)
   | (with_reducible exact LeO.none _)
   | (with_reducible refine LeO.ite ?_ ?_)
   | (with_reducible refine LeO.bind ?_ (fun _ => ?_))
   | exact ih0 _ _ _ _ _ _ _ _ _ _ _ _
   | exact ih1 _ _ _ _ _ _ _ _ _ _ _ _ _
   | exact ih2 _ _ _ _ _ _ _ _ _ _ _ _ _ _
   | exact ih3 _ _ _ _ _ _ _ _ _ _ _ _ _ _ _
   | exact ih4 _ _ _ _ _ _ _ _ _ _ _ _ _
   | exact ih5 _ _ _ _ _ _ _ _ _ _ _ _ _
   | exact LeO.none _
   | refine LeO.ite ?_ ?_
   | refine LeO.bind ?_ (fun _ => ?_)
  ·intro y0 y1 y2 y3 y4 y5 y6 y7 y8 y9 y10 y11 y12
   unfold frame_fields.j5
   repeat' first
   | (with_reducible exact ih0 _ _ _ _ _ _ _ _ _ _ _ _)
   | (with_reducible exact ih1 _ _ _ _ _ _ _ _ _ _ _ _ _)
   | (with_reducible exact ih2 _ _ _ _ _ _ _ _ _ _ _ _ _ _)
   | (with_reducible exact ih3 _ _ _ _ _ _ _ _ _ _ _ _ _ _ _)
   | (with_reducible exact ih4 _ _ _ _ _ _ _ _ _ _ _ _ _)
   | (with_reducible exact ih5 _ _ _ _ _ _ _ _ _ _ _ _ _)
   | (with_reducible exact LeO.refl _)
   | (with_reducible exact LeO.none _)
   | (with_reducible refine LeO.ite ?_ ?_)
   | (with_reducible refine LeO.bind ?_ (fun _ => ?_))
   | exact ih0 _ _ _ _ _ _ _ _ _ _ _ _
   | exact ih1 _ _ _ _ _ _ _ _ _ _ _ _ _
   | exact ih2 _ _ _ _ _ _ _ _ _ _ _ _ _ _
   | exact ih3 _ _ _ _ _ _ _ _ _ _ _ _ _ _ _
   | exact ih4 _ _ _ _ _ _ _ _ _ _ _ _ _
   | exact ih5 _ _ _ _ _ _ _ _ _ _ _ _ _
   | exact LeO.none _
   | refine LeO.ite ?_ ?_
   | refine LeO.bind ?_ (fun _ => ?_)
theorem frame_fields.mono : ∀ a0 a1 a2 a3 a4 a5 a6 a7 a8 a9 a10 k, LeO (frame_fields.f k a0 a1 a2 a3 a4 a5 a6 a7 a8 a9 a10) (frame_fields.f (k + 1) a0 a1 a2 a3 a4 a5 a6 a7 a8 a9 a10) := by
 intro a0 a1 a2 a3 a4 a5 a6 a7 a8 a9 a10 k
 obtain ⟨ih0, ih1, ih2, ih3, ih4, ih5⟩ := frame_fields.mono_l k
 unfold frame_fields.f
 repeat' first
   | (with_reducible exact ih0 _ _ _ _ _ _ _ _ _ _ _ _)
   | (with_reducible exact ih1 _ _ _ _ _ _ _ _ _ _ _ _ _)
   | (with_reducible exact ih2 _ _ _ _ _ _ _ _ _ _ _ _ _ _)
   | (with_reducible exact ih3 _ _ _ _ _ _ _ _ _ _ _ _ _ _ _)
   | (with_reducible exact ih4 _ _ _ _ _ _ _ _ _ _ _ _ _)
   | (with_reducible exact ih5 _ _ _ _ _ _ _ _ _ _ _ _ _)
   | (with_reducible exact LeO.refl _)
   | (with_reducible exact LeO.none _)
   | (with_reducible refine LeO.ite ?_ ?_)
   | (with_reducible refine LeO.bind ?_ (fun _ => ?_))
   | exact ih0 _ _ _ _ _ _ _ _ _ _ _ _
   | exact ih1 _ _ _ _ _ _ _ _ _ _ _ _ _
   | exact ih2 _ _ _ _ _ _ _ _ _ _ _ _ _ _
   | exact ih3 _ _ _ _ _ _ _ _ _ _ _ _ _ _ _
   | exact ih4 _ _ _ _ _ _ _ _ _ _ _ _ _
   | exact ih5 _ _ _ _ _ _ _ _ _ _ _ _ _
   | exact LeO.none _
   | refine LeO.ite ?_ ?_
   | refine LeO.bind ?_ (fun _ => ?_)
set_option maxHeartbeats 8000000 in
set_option maxRecDepth 100000 in
theorem frame_fields.calls (k : Nat) (a0_0 : Int) (a0_1 : Int) (a0_2 : Int) (A0_3 : Option Addr) (c0_3 : Nat) (l0_3 : List Int) (a0_4 : Int) (a0_5 : Int) (a0_6 : Int) (a0_7 : Int) (a0_8 : Bool) (a0_9 : Int) (A0_10 : Option Addr) (c0_10 : Nat) (l0_10 : List (S99)) (r : Bool) (w : World) (hr0_3 : Kd.C (Kd.int .u8) w A0_3 l0_3.length l0_3) (hc0_3 : l0_3.length ≤ c0_3) (hr0_10 : Kd.C k99 w A0_10 l0_10.length l0_10) (hc0_10 : l0_10.length ≤ c0_10) (h : frame_fields.f k a0_0 a0_1 a0_2 l0_3 a0_4 a0_5 a0_6 a0_7 a0_8 a0_9 l0_10 = some r) :
  Calls Tryd.prog 49 #[.agg #[.int .u8 a0_0, .int .u8 a0_1, .int .u32 a0_2, .slice A0_3 l0_3.length c0_3, .int .i64 a0_4, .int .u32 a0_5, .int .u32 a0_6, .int .u8 a0_7, .bool a0_8, .int .u32 a0_9, .slice A0_10 l0_10.length c0_10]] w fun e w' => e = .returned (.bool r) ∧ Below w.heap.size w w' := by
 have hu38 := Tryd.underlying38
 have HR0_3 := Aside0.mk hr0_3
 have HC0_3 := Aside0.mk hc0_3
 clear hr0_3 hc0_3
 have HR0_10 := Aside0.mk hr0_10
 have HC0_10 := Aside0.mk hc0_10
 clear hr0_10 hc0_10
 have HB := Aside0.mk (Below.refl w.heap.size w)
 have H : ((frame_leans.f a0_0 a0_1 a0_2 l0_3 a0_4 a0_5 a0_6 a0_7 a0_8 a0_9 l0_10).bind fun t168 => (if t168 = true then (frame_fields.j0 k true a0_0 a0_1 a0_2 l0_3 a0_4 a0_5 a0_6 a0_7 a0_8 a0_9 l0_10) else (if a0_0 = 5 then (frame_fields.j0 k true a0_0 a0_1 a0_2 l0_3 a0_4 a0_5 a0_6 a0_7 a0_8 a0_9 l0_10) else (frame_fields.j0 k (a0_0 == 7) a0_0 a0_1 a0_2 l0_3 a0_4 a0_5 a0_6 a0_7 a0_8 a0_9 l0_10)))) = some r := h
 clear h
 have HC2 := Aside0.mk H
 clear H
 go_enter Tryd.func49, Tryd.ntmps49
 go_upto_region 1 with (first | ((with_reducible refine gate_dst (N := 1) rfl ?_); (try (refine gate_guard (by rfl) ?_; dsimp only)); refine box_event ?hg (N := 1) ?hd (cs := #[.int .u8 a0_0, .int .u8 a0_1, .int .u32 a0_2, .slice A0_3 l0_3.length c0_3, .int .i64 a0_4, .int .u32 a0_5, .int .u32 a0_6, .int .u8 a0_7, .bool a0_8, .int .u32 a0_9, .slice A0_10 l0_10.length c0_10]) (t := 38) ?hr ?_; (case hd => rfl); (case hg => rfl); (case hr => first | (go_simp; done) | (go_simp; rfl)); intro gb167 hg w3 hbox hb; have n0_ := Aside0.mk (below_step (by repeat (first | (with_reducible first | exact HB.out | apply below_alloc | apply pw_below_drewN | apply below_drew1) | exact HB.out)) hb); have n1_ := Aside0.mk (hbox); have n2_ := Aside0.mk ((by rw [hg]; exact (below_size (by repeat (first | (with_reducible first | exact HB.out | apply below_alloc | apply pw_below_drewN | apply below_drew1) | exact HB.out))) : w.heap.size ≤ gb167)); have n3_ := Aside0.mk ((by rw [hg]; exact (below_size (by repeat (first | (with_reducible first | exact HB.out | apply below_alloc | apply pw_below_drewN | apply below_drew1) | exact HB.out))) : w.heap.size ≤ gb167)); clear HB; have HB := n0_; have BK167 := n1_; have GW167 := n2_; have GE167 := n3_; clear n0_ n1_ n2_ n3_; clear hb hbox hg))
 (try simp only [Act.put, List.setIfInBounds_toArray, List.set_cons_zero, List.set_cons_succ])
 go_cut [3] (fun v3 wc => ∃ (kq : Nat) (x3_1 : Bool), v3 = .bool x3_1 ∧ Aside0 (frame_fields.j0 kq x3_1 a0_0 a0_1 a0_2 l0_3 a0_4 a0_5 a0_6 a0_7 a0_8 a0_9 l0_10 = some r) ∧ Aside0 (kq ≤ k) ∧ Aside0 (wc.heap[gb167]? = some (.cells #[.int .u8 a0_0, .int .u8 a0_1, .int .u32 a0_2, (.slice A0_3 l0_3.length c0_3), .int .i64 a0_4, .int .u32 a0_5, .int .u32 a0_6, .int .u8 a0_7, .bool a0_8, .int .u32 a0_9, (.slice A0_10 l0_10.length c0_10)] 38 (0, 0))) ∧ Aside0 (Below w.heap.size w wc))
 case first =>
  have H := HC2.out
  clear HC2
  replace H := Option.bind_eq_some_iff.mp H
  obtain ⟨t168, A40, H⟩ := H
  replace H : (if t168 = true then (frame_fields.j0 k true a0_0 a0_1 a0_2 l0_3 a0_4 a0_5 a0_6 a0_7 a0_8 a0_9 l0_10) else (if a0_0 = 5 then (frame_fields.j0 k true a0_0 a0_1 a0_2 l0_3 a0_4 a0_5 a0_6 a0_7 a0_8 a0_9 l0_10) else (frame_fields.j0 k (a0_0 == 7) a0_0 a0_1 a0_2 l0_3 a0_4 a0_5 a0_6 a0_7 a0_8 a0_9 l0_10))) = some r := H
  have A4 := Aside0.mk A40
  clear A40
  by_cases c5 : t168 = true
  ·subst c5
   have H1 : (frame_fields.j0 k true a0_0 a0_1 a0_2 l0_3 a0_4 a0_5 a0_6 a0_7 a0_8 a0_9 l0_10) = some r := by rw [if_pos rfl] at H; exact H
   clear H
   have H := H1
   clear H1
   have H' := Aside0.mk H
   clear H
   have z6_0 : w3.cell? ⟨gb167, 0, none⟩ = some (.int .u8 a0_0) := (blk_cell BK167.out 0).trans rfl
   have z6_1 : w3.cell? ⟨gb167, 1, none⟩ = some (.int .u8 a0_1) := (blk_cell BK167.out 1).trans rfl
   have z6_2 : w3.cell? ⟨gb167, 2, none⟩ = some (.int .u32 a0_2) := (blk_cell BK167.out 2).trans rfl
   have z6_3 : w3.cell? ⟨gb167, 3, none⟩ = some (.slice A0_3 l0_3.length c0_3) := (blk_cell BK167.out 3).trans rfl
   have z6_4 : w3.cell? ⟨gb167, 4, none⟩ = some (.int .i64 a0_4) := (blk_cell BK167.out 4).trans rfl
   have z6_5 : w3.cell? ⟨gb167, 5, none⟩ = some (.int .u32 a0_5) := (blk_cell BK167.out 5).trans rfl
   have z6_6 : w3.cell? ⟨gb167, 6, none⟩ = some (.int .u32 a0_6) := (blk_cell BK167.out 6).trans rfl
   have z6_7 : w3.cell? ⟨gb167, 7, none⟩ = some (.int .u8 a0_7) := (blk_cell BK167.out 7).trans rfl
   have z6_8 : w3.cell? ⟨gb167, 8, none⟩ = some (.bool a0_8) := (blk_cell BK167.out 8).trans rfl
   have z6_9 : w3.cell? ⟨gb167, 9, none⟩ = some (.int .u32 a0_9) := (blk_cell BK167.out 9).trans rfl
   have z6_10 : w3.cell? ⟨gb167, 10, none⟩ = some (.slice A0_10 l0_10.length c0_10) := (blk_cell BK167.out 10).trans rfl
   have y6_0 := blk_frozen BK167.out 0
   have y6_1 := blk_frozen BK167.out 1
   have y6_2 := blk_frozen BK167.out 2
   have y6_3 := blk_frozen BK167.out 3
   have y6_4 := blk_frozen BK167.out 4
   have y6_5 := blk_frozen BK167.out 5
   have y6_6 := blk_frozen BK167.out 6
   have y6_7 := blk_frozen BK167.out 7
   have y6_8 := blk_frozen BK167.out 8
   have y6_9 := blk_frozen BK167.out 9
   have y6_10 := blk_frozen BK167.out 10
   go_wp2_with (first | ((with_reducible refine gate_callee (f := 74) rfl ?_); refine goesL_ (some 7) rfl rfl Tryd.func74 (by kernel_rfl) rfl #[.agg #[.int .u8 a0_0, .int .u8 a0_1, .int .u32 a0_2, .slice A0_3 l0_3.length c0_3, .int .i64 a0_4, .int .u32 a0_5, .int .u32 a0_6, .int .u8 a0_7, .bool a0_8, .int .u32 a0_9, .slice A0_10 l0_10.length c0_10]] rfl (by (try simp only [List.map_toArray, List.map_cons, List.map_nil]); first | done | rfl | (simp only [List.length_drop, List.length_take]; rfl)) ?_; (with_reducible refine (frame_leans.calls a0_0 a0_1 a0_2 _ _ l0_3 a0_4 a0_5 a0_6 a0_7 a0_8 a0_9 _ _ l0_10 true _ ?side1 ?side2 ?side3 ?side4 A4.out).mono ?_); (case side1 => repeat (first | exact (Kd.C_below HR0_3.out HB.out) | (with_reducible refine Kd.C_alloc ?_ _) | (with_reducible refine Kd.C_drewN ?_ _) | (with_reducible refine Kd.C_drew ?_))); (case side2 => exact HC0_3.out); (case side3 => repeat (first | exact (Kd.C_below HR0_10.out HB.out) | (with_reducible refine Kd.C_alloc ?_ _) | (with_reducible refine Kd.C_drewN ?_ _) | (with_reducible refine Kd.C_drew ?_))); (case side4 => exact HC0_10.out); rintro e w7 ⟨rfl, hb⟩; refine ⟨_, rfl, ?_⟩; have n0_ := Aside0.mk (blk_below (g := gb167) (o := .cells #[.int .u8 a0_0, .int .u8 a0_1, .int .u32 a0_2, .slice A0_3 l0_3.length c0_3, .int .i64 a0_4, .int .u32 a0_5, .int .u32 a0_6, .int .u8 a0_7, .bool a0_8, .int .u32 a0_9, .slice A0_10 l0_10.length c0_10] 38 (0, 0)) (by (with_reducible repeat (first | refine blk_drewN ?_ _ | refine blk_drew ?_ | refine blk_alloc ?_ _)); exact BK167.out) hb); have n1_ := Aside0.mk (below_step (by repeat (first | (with_reducible first | exact HB.out | apply below_alloc | apply pw_below_drewN | apply below_drew1 | refine below_set ?_ GE167.out) | exact HB.out)) hb); clear BK167; clear HB; have BK167 := n0_; have HB := n1_; clear n0_ n1_; (try clear hb); (try clear hb2); (try clear hk); (try clear hi)))
   go_meet
   case rel => exact ⟨_, (true), (by first | rfl | (simp; done) | (simp [*]; done)), H', ⟨by first | omega | exact Nat.le_refl _⟩, ⟨by (with_reducible repeat (first | refine blk_drewN ?_ _ | refine blk_drew ?_ | refine blk_alloc ?_ _)); exact BK167.out⟩, ⟨by repeat (first | (with_reducible first | exact HB.out | apply below_alloc | apply pw_below_drewN | apply below_drew1 | refine below_set ?_ GE167.out) | exact HB.out)⟩⟩
  ·replace c5 := Bool.eq_false_iff.mpr c5
   subst c5
   have H1 : (if a0_0 = 5 then (frame_fields.j0 k true a0_0 a0_1 a0_2 l0_3 a0_4 a0_5 a0_6 a0_7 a0_8 a0_9 l0_10) else (frame_fields.j0 k (a0_0 == 7) a0_0 a0_1 a0_2 l0_3 a0_4 a0_5 a0_6 a0_7 a0_8 a0_9 l0_10)) = some r := by rw [if_neg (show ¬ (false = true) by decide)] at H; exact H
   clear H
   have H := H1
   clear H1
   by_cases c8 : a0_0 = 5
   ·rw [if_pos c8] at H
    have c8b0 : (a0_0 == 5) = true := beq_iff_eq.mpr c8
    have c8b1 : (a0_0 != 5) = false := bne_eq_false_iff_eq.mpr c8
    clear c8
    (first | rw [c8b0] | (simp only [i64_w, i32_w]; rw [c8b0]) | skip)
    have H' := Aside0.mk H
    clear H
    have z9_0 : w3.cell? ⟨gb167, 0, none⟩ = some (.int .u8 a0_0) := (blk_cell BK167.out 0).trans rfl
    have z9_1 : w3.cell? ⟨gb167, 1, none⟩ = some (.int .u8 a0_1) := (blk_cell BK167.out 1).trans rfl
    have z9_2 : w3.cell? ⟨gb167, 2, none⟩ = some (.int .u32 a0_2) := (blk_cell BK167.out 2).trans rfl
    have z9_3 : w3.cell? ⟨gb167, 3, none⟩ = some (.slice A0_3 l0_3.length c0_3) := (blk_cell BK167.out 3).trans rfl
    have z9_4 : w3.cell? ⟨gb167, 4, none⟩ = some (.int .i64 a0_4) := (blk_cell BK167.out 4).trans rfl
    have z9_5 : w3.cell? ⟨gb167, 5, none⟩ = some (.int .u32 a0_5) := (blk_cell BK167.out 5).trans rfl
    have z9_6 : w3.cell? ⟨gb167, 6, none⟩ = some (.int .u32 a0_6) := (blk_cell BK167.out 6).trans rfl
    have z9_7 : w3.cell? ⟨gb167, 7, none⟩ = some (.int .u8 a0_7) := (blk_cell BK167.out 7).trans rfl
    have z9_8 : w3.cell? ⟨gb167, 8, none⟩ = some (.bool a0_8) := (blk_cell BK167.out 8).trans rfl
    have z9_9 : w3.cell? ⟨gb167, 9, none⟩ = some (.int .u32 a0_9) := (blk_cell BK167.out 9).trans rfl
    have z9_10 : w3.cell? ⟨gb167, 10, none⟩ = some (.slice A0_10 l0_10.length c0_10) := (blk_cell BK167.out 10).trans rfl
    have y9_0 := blk_frozen BK167.out 0
    have y9_1 := blk_frozen BK167.out 1
    have y9_2 := blk_frozen BK167.out 2
    have y9_3 := blk_frozen BK167.out 3
    have y9_4 := blk_frozen BK167.out 4
    have y9_5 := blk_frozen BK167.out 5
    have y9_6 := blk_frozen BK167.out 6
    have y9_7 := blk_frozen BK167.out 7
    have y9_8 := blk_frozen BK167.out 8
    have y9_9 := blk_frozen BK167.out 9
    have y9_10 := blk_frozen BK167.out 10
    go_wp2_with (first | ((with_reducible refine gate_callee (f := 74) rfl ?_); refine goesL_ (some 7) rfl rfl Tryd.func74 (by kernel_rfl) rfl #[.agg #[.int .u8 a0_0, .int .u8 a0_1, .int .u32 a0_2, .slice A0_3 l0_3.length c0_3, .int .i64 a0_4, .int .u32 a0_5, .int .u32 a0_6, .int .u8 a0_7, .bool a0_8, .int .u32 a0_9, .slice A0_10 l0_10.length c0_10]] rfl (by (try simp only [List.map_toArray, List.map_cons, List.map_nil]); first | done | rfl | (simp only [List.length_drop, List.length_take]; rfl)) ?_; (with_reducible refine (frame_leans.calls a0_0 a0_1 a0_2 _ _ l0_3 a0_4 a0_5 a0_6 a0_7 a0_8 a0_9 _ _ l0_10 false _ ?side1 ?side2 ?side3 ?side4 A4.out).mono ?_); (case side1 => repeat (first | exact (Kd.C_below HR0_3.out HB.out) | (with_reducible refine Kd.C_alloc ?_ _) | (with_reducible refine Kd.C_drewN ?_ _) | (with_reducible refine Kd.C_drew ?_))); (case side2 => exact HC0_3.out); (case side3 => repeat (first | exact (Kd.C_below HR0_10.out HB.out) | (with_reducible refine Kd.C_alloc ?_ _) | (with_reducible refine Kd.C_drewN ?_ _) | (with_reducible refine Kd.C_drew ?_))); (case side4 => exact HC0_10.out); rintro e w10 ⟨rfl, hb⟩; refine ⟨_, rfl, ?_⟩; have n0_ := Aside0.mk (blk_below (g := gb167) (o := .cells #[.int .u8 a0_0, .int .u8 a0_1, .int .u32 a0_2, .slice A0_3 l0_3.length c0_3, .int .i64 a0_4, .int .u32 a0_5, .int .u32 a0_6, .int .u8 a0_7, .bool a0_8, .int .u32 a0_9, .slice A0_10 l0_10.length c0_10] 38 (0, 0)) (by (with_reducible repeat (first | refine blk_drewN ?_ _ | refine blk_drew ?_ | refine blk_alloc ?_ _)); exact BK167.out) hb); have n1_ := Aside0.mk (below_step (by repeat (first | (with_reducible first | exact HB.out | apply below_alloc | apply pw_below_drewN | apply below_drew1 | refine below_set ?_ GE167.out) | exact HB.out)) hb); clear BK167; clear HB; have BK167 := n0_; have HB := n1_; clear n0_ n1_; (try clear hb); (try clear hb2); (try clear hk); (try clear hi); have z11_0 : w10.cell? ⟨gb167, 0, none⟩ = some (.int .u8 a0_0) := (blk_cell BK167.out 0).trans rfl; have z11_1 : w10.cell? ⟨gb167, 1, none⟩ = some (.int .u8 a0_1) := (blk_cell BK167.out 1).trans rfl; have z11_2 : w10.cell? ⟨gb167, 2, none⟩ = some (.int .u32 a0_2) := (blk_cell BK167.out 2).trans rfl; have z11_3 : w10.cell? ⟨gb167, 3, none⟩ = some (.slice A0_3 l0_3.length c0_3) := (blk_cell BK167.out 3).trans rfl; have z11_4 : w10.cell? ⟨gb167, 4, none⟩ = some (.int .i64 a0_4) := (blk_cell BK167.out 4).trans rfl; have z11_5 : w10.cell? ⟨gb167, 5, none⟩ = some (.int .u32 a0_5) := (blk_cell BK167.out 5).trans rfl; have z11_6 : w10.cell? ⟨gb167, 6, none⟩ = some (.int .u32 a0_6) := (blk_cell BK167.out 6).trans rfl; have z11_7 : w10.cell? ⟨gb167, 7, none⟩ = some (.int .u8 a0_7) := (blk_cell BK167.out 7).trans rfl; have z11_8 : w10.cell? ⟨gb167, 8, none⟩ = some (.bool a0_8) := (blk_cell BK167.out 8).trans rfl; have z11_9 : w10.cell? ⟨gb167, 9, none⟩ = some (.int .u32 a0_9) := (blk_cell BK167.out 9).trans rfl; have z11_10 : w10.cell? ⟨gb167, 10, none⟩ = some (.slice A0_10 l0_10.length c0_10) := (blk_cell BK167.out 10).trans rfl; have y11_0 := blk_frozen BK167.out 0; have y11_1 := blk_frozen BK167.out 1; have y11_2 := blk_frozen BK167.out 2; have y11_3 := blk_frozen BK167.out 3; have y11_4 := blk_frozen BK167.out 4; have y11_5 := blk_frozen BK167.out 5; have y11_6 := blk_frozen BK167.out 6; have y11_7 := blk_frozen BK167.out 7; have y11_8 := blk_frozen BK167.out 8; have y11_9 := blk_frozen BK167.out 9; have y11_10 := blk_frozen BK167.out 10))
    go_meet
    case rel => exact ⟨_, (true), (by first | rfl | (simp; done) | (simp [*]; done)), H', ⟨by first | omega | exact Nat.le_refl _⟩, ⟨by (with_reducible repeat (first | refine blk_drewN ?_ _ | refine blk_drew ?_ | refine blk_alloc ?_ _)); exact BK167.out⟩, ⟨by repeat (first | (with_reducible first | exact HB.out | apply below_alloc | apply pw_below_drewN | apply below_drew1 | refine below_set ?_ GE167.out) | exact HB.out)⟩⟩
   ·rw [if_neg c8] at H
    have c8b0 : (a0_0 == 5) = false := beq_eq_false_iff_ne.mpr c8
    have c8b1 : (a0_0 != 5) = true := bne_iff_ne.mpr c8
    (first | rw [c8b0] | (simp only [i64_w, i32_w]; rw [c8b0]) | skip)
    have H' := Aside0.mk H
    clear H
    have z12_0 : w3.cell? ⟨gb167, 0, none⟩ = some (.int .u8 a0_0) := (blk_cell BK167.out 0).trans rfl
    have z12_1 : w3.cell? ⟨gb167, 1, none⟩ = some (.int .u8 a0_1) := (blk_cell BK167.out 1).trans rfl
    have z12_2 : w3.cell? ⟨gb167, 2, none⟩ = some (.int .u32 a0_2) := (blk_cell BK167.out 2).trans rfl
    have z12_3 : w3.cell? ⟨gb167, 3, none⟩ = some (.slice A0_3 l0_3.length c0_3) := (blk_cell BK167.out 3).trans rfl
    have z12_4 : w3.cell? ⟨gb167, 4, none⟩ = some (.int .i64 a0_4) := (blk_cell BK167.out 4).trans rfl
    have z12_5 : w3.cell? ⟨gb167, 5, none⟩ = some (.int .u32 a0_5) := (blk_cell BK167.out 5).trans rfl
    have z12_6 : w3.cell? ⟨gb167, 6, none⟩ = some (.int .u32 a0_6) := (blk_cell BK167.out 6).trans rfl
    have z12_7 : w3.cell? ⟨gb167, 7, none⟩ = some (.int .u8 a0_7) := (blk_cell BK167.out 7).trans rfl
    have z12_8 : w3.cell? ⟨gb167, 8, none⟩ = some (.bool a0_8) := (blk_cell BK167.out 8).trans rfl
    have z12_9 : w3.cell? ⟨gb167, 9, none⟩ = some (.int .u32 a0_9) := (blk_cell BK167.out 9).trans rfl
    have z12_10 : w3.cell? ⟨gb167, 10, none⟩ = some (.slice A0_10 l0_10.length c0_10) := (blk_cell BK167.out 10).trans rfl
    have y12_0 := blk_frozen BK167.out 0
    have y12_1 := blk_frozen BK167.out 1
    have y12_2 := blk_frozen BK167.out 2
    have y12_3 := blk_frozen BK167.out 3
    have y12_4 := blk_frozen BK167.out 4
    have y12_5 := blk_frozen BK167.out 5
    have y12_6 := blk_frozen BK167.out 6
    have y12_7 := blk_frozen BK167.out 7
    have y12_8 := blk_frozen BK167.out 8
    have y12_9 := blk_frozen BK167.out 9
    have y12_10 := blk_frozen BK167.out 10
    go_wp2_with (first | ((with_reducible refine gate_callee (f := 74) rfl ?_); refine goesL_ (some 7) rfl rfl Tryd.func74 (by kernel_rfl) rfl #[.agg #[.int .u8 a0_0, .int .u8 a0_1, .int .u32 a0_2, .slice A0_3 l0_3.length c0_3, .int .i64 a0_4, .int .u32 a0_5, .int .u32 a0_6, .int .u8 a0_7, .bool a0_8, .int .u32 a0_9, .slice A0_10 l0_10.length c0_10]] rfl (by (try simp only [List.map_toArray, List.map_cons, List.map_nil]); first | done | rfl | (simp only [List.length_drop, List.length_take]; rfl)) ?_; (with_reducible refine (frame_leans.calls a0_0 a0_1 a0_2 _ _ l0_3 a0_4 a0_5 a0_6 a0_7 a0_8 a0_9 _ _ l0_10 false _ ?side1 ?side2 ?side3 ?side4 A4.out).mono ?_); (case side1 => repeat (first | exact (Kd.C_below HR0_3.out HB.out) | (with_reducible refine Kd.C_alloc ?_ _) | (with_reducible refine Kd.C_drewN ?_ _) | (with_reducible refine Kd.C_drew ?_))); (case side2 => exact HC0_3.out); (case side3 => repeat (first | exact (Kd.C_below HR0_10.out HB.out) | (with_reducible refine Kd.C_alloc ?_ _) | (with_reducible refine Kd.C_drewN ?_ _) | (with_reducible refine Kd.C_drew ?_))); (case side4 => exact HC0_10.out); rintro e w13 ⟨rfl, hb⟩; refine ⟨_, rfl, ?_⟩; have n0_ := Aside0.mk (blk_below (g := gb167) (o := .cells #[.int .u8 a0_0, .int .u8 a0_1, .int .u32 a0_2, .slice A0_3 l0_3.length c0_3, .int .i64 a0_4, .int .u32 a0_5, .int .u32 a0_6, .int .u8 a0_7, .bool a0_8, .int .u32 a0_9, .slice A0_10 l0_10.length c0_10] 38 (0, 0)) (by (with_reducible repeat (first | refine blk_drewN ?_ _ | refine blk_drew ?_ | refine blk_alloc ?_ _)); exact BK167.out) hb); have n1_ := Aside0.mk (below_step (by repeat (first | (with_reducible first | exact HB.out | apply below_alloc | apply pw_below_drewN | apply below_drew1 | refine below_set ?_ GE167.out) | exact HB.out)) hb); clear BK167; clear HB; have BK167 := n0_; have HB := n1_; clear n0_ n1_; (try clear hb); (try clear hb2); (try clear hk); (try clear hi); have z14_0 : w13.cell? ⟨gb167, 0, none⟩ = some (.int .u8 a0_0) := (blk_cell BK167.out 0).trans rfl; have z14_1 : w13.cell? ⟨gb167, 1, none⟩ = some (.int .u8 a0_1) := (blk_cell BK167.out 1).trans rfl; have z14_2 : w13.cell? ⟨gb167, 2, none⟩ = some (.int .u32 a0_2) := (blk_cell BK167.out 2).trans rfl; have z14_3 : w13.cell? ⟨gb167, 3, none⟩ = some (.slice A0_3 l0_3.length c0_3) := (blk_cell BK167.out 3).trans rfl; have z14_4 : w13.cell? ⟨gb167, 4, none⟩ = some (.int .i64 a0_4) := (blk_cell BK167.out 4).trans rfl; have z14_5 : w13.cell? ⟨gb167, 5, none⟩ = some (.int .u32 a0_5) := (blk_cell BK167.out 5).trans rfl; have z14_6 : w13.cell? ⟨gb167, 6, none⟩ = some (.int .u32 a0_6) := (blk_cell BK167.out 6).trans rfl; have z14_7 : w13.cell? ⟨gb167, 7, none⟩ = some (.int .u8 a0_7) := (blk_cell BK167.out 7).trans rfl; have z14_8 : w13.cell? ⟨gb167, 8, none⟩ = some (.bool a0_8) := (blk_cell BK167.out 8).trans rfl; have z14_9 : w13.cell? ⟨gb167, 9, none⟩ = some (.int .u32 a0_9) := (blk_cell BK167.out 9).trans rfl; have z14_10 : w13.cell? ⟨gb167, 10, none⟩ = some (.slice A0_10 l0_10.length c0_10) := (blk_cell BK167.out 10).trans rfl; have y14_0 := blk_frozen BK167.out 0; have y14_1 := blk_frozen BK167.out 1; have y14_2 := blk_frozen BK167.out 2; have y14_3 := blk_frozen BK167.out 3; have y14_4 := blk_frozen BK167.out 4; have y14_5 := blk_frozen BK167.out 5; have y14_6 := blk_frozen BK167.out 6; have y14_7 := blk_frozen BK167.out 7; have y14_8 := blk_frozen BK167.out 8; have y14_9 := blk_frozen BK167.out 9; have y14_10 := blk_frozen BK167.out 10))
    go_meet
    case rel => exact ⟨_, ((a0_0 == 7)), (by first | rfl | (simp; done) | (simp [*]; done)), H', ⟨by first | omega | exact Nat.le_refl _⟩, ⟨by (with_reducible repeat (first | refine blk_drewN ?_ _ | refine blk_drew ?_ | refine blk_alloc ?_ _)); exact BK167.out⟩, ⟨by repeat (first | (with_reducible first | exact HB.out | apply below_alloc | apply pw_below_drewN | apply below_drew1 | refine below_set ?_ GE167.out) | exact HB.out)⟩⟩
 case rest =>
  clear HC2
  try clear p2
  try clear c4
  try clear c5
  try clear c7
  try clear c8
  try clear c8b0
  try clear c8b1
  try clear z11_0 z11_1 z11_10 z11_2 z11_3 z11_4 z11_5 z11_6 z11_7 z11_8 z11_9 z12_0 z12_1 z12_10 z12_2 z12_3 z12_4 z12_5 z12_6 z12_7 z12_8 z12_9 z14_0 z14_1 z14_10 z14_2 z14_3 z14_4 z14_5 z14_6 z14_7 z14_8 z14_9 z6_0 z6_1 z6_10 z6_2 z6_3 z6_4 z6_5 z6_6 z6_7 z6_8 z6_9 z9_0 z9_1 z9_10 z9_2 z9_3 z9_4 z9_5 z9_6 z9_7 z9_8 z9_9 y11_0 y11_1 y11_10 y11_2 y11_3 y11_4 y11_5 y11_6 y11_7 y11_8 y11_9 y12_0 y12_1 y12_10 y12_2 y12_3 y12_4 y12_5 y12_6 y12_7 y12_8 y12_9 y14_0 y14_1 y14_10 y14_2 y14_3 y14_4 y14_5 y14_6 y14_7 y14_8 y14_9 y6_0 y6_1 y6_10 y6_2 y6_3 y6_4 y6_5 y6_6 y6_7 y6_8 y6_9 y9_0 y9_1 y9_10 y9_2 y9_3 y9_4 y9_5 y9_6 y9_7 y9_8 y9_9
  obtain ⟨kq, x3_1, rfl, HA, HJ1, BK167, HB⟩ := hcut
  cases kq with
  | zero => exact absurd HA.out (by simp [frame_fields.j0])
  | succ kj1 =>
   have H := HA.out
   clear HA
   simp only [frame_fields.j0] at H
   have HC15 := Aside0.mk H
   clear H
   go_upto_region 2 with (fail)
   go_cut [4] (fun v4 wc => ∃ (kq : Nat) (x4_14 : Bool), v4 = .bool x4_14 ∧ Aside0 (frame_fields.j1 kq x3_1 x4_14 a0_0 a0_1 a0_2 l0_3 a0_4 a0_5 a0_6 a0_7 a0_8 a0_9 l0_10 = some r) ∧ Aside0 (kq ≤ kj1) ∧ Aside0 (wc.heap[gb167]? = some (.cells #[.int .u8 a0_0, .int .u8 a0_1, .int .u32 a0_2, (.slice A0_3 l0_3.length c0_3), .int .i64 a0_4, .int .u32 a0_5, .int .u32 a0_6, .int .u8 a0_7, .bool a0_8, .int .u32 a0_9, (.slice A0_10 l0_10.length c0_10)] 38 (0, 0))) ∧ Aside0 (Below w.heap.size w wc))
   case first =>
    have H := HC15.out
    clear HC15
    by_cases c16 : a0_0 = 2
    ·rw [if_pos c16] at H
     have c16b0 : (a0_0 == 2) = true := beq_iff_eq.mpr c16
     have c16b1 : (a0_0 != 2) = false := bne_eq_false_iff_eq.mpr c16
     clear c16
     (first | rw [c16b0] | (simp only [i64_w, i32_w]; rw [c16b0]) | skip)
     have H' := Aside0.mk H
     clear H
     have z17_0 : wc.cell? ⟨gb167, 0, none⟩ = some (.int .u8 a0_0) := (blk_cell BK167.out 0).trans rfl
     have z17_1 : wc.cell? ⟨gb167, 1, none⟩ = some (.int .u8 a0_1) := (blk_cell BK167.out 1).trans rfl
     have z17_2 : wc.cell? ⟨gb167, 2, none⟩ = some (.int .u32 a0_2) := (blk_cell BK167.out 2).trans rfl
     have z17_3 : wc.cell? ⟨gb167, 3, none⟩ = some (.slice A0_3 l0_3.length c0_3) := (blk_cell BK167.out 3).trans rfl
     have z17_4 : wc.cell? ⟨gb167, 4, none⟩ = some (.int .i64 a0_4) := (blk_cell BK167.out 4).trans rfl
     have z17_5 : wc.cell? ⟨gb167, 5, none⟩ = some (.int .u32 a0_5) := (blk_cell BK167.out 5).trans rfl
     have z17_6 : wc.cell? ⟨gb167, 6, none⟩ = some (.int .u32 a0_6) := (blk_cell BK167.out 6).trans rfl
     have z17_7 : wc.cell? ⟨gb167, 7, none⟩ = some (.int .u8 a0_7) := (blk_cell BK167.out 7).trans rfl
     have z17_8 : wc.cell? ⟨gb167, 8, none⟩ = some (.bool a0_8) := (blk_cell BK167.out 8).trans rfl
     have z17_9 : wc.cell? ⟨gb167, 9, none⟩ = some (.int .u32 a0_9) := (blk_cell BK167.out 9).trans rfl
     have z17_10 : wc.cell? ⟨gb167, 10, none⟩ = some (.slice A0_10 l0_10.length c0_10) := (blk_cell BK167.out 10).trans rfl
     have y17_0 := blk_frozen BK167.out 0
     have y17_1 := blk_frozen BK167.out 1
     have y17_2 := blk_frozen BK167.out 2
     have y17_3 := blk_frozen BK167.out 3
     have y17_4 := blk_frozen BK167.out 4
     have y17_5 := blk_frozen BK167.out 5
     have y17_6 := blk_frozen BK167.out 6
     have y17_7 := blk_frozen BK167.out 7
     have y17_8 := blk_frozen BK167.out 8
     have y17_9 := blk_frozen BK167.out 9
     have y17_10 := blk_frozen BK167.out 10
     go_wp2
     go_meet
     case rel => exact ⟨_, (false), (by first | rfl | (simp; done) | (simp [*]; done)), H', ⟨by have := HJ1.out; first | omega | exact Nat.le_refl _⟩, ⟨by (with_reducible repeat (first | refine blk_drewN ?_ _ | refine blk_drew ?_ | refine blk_alloc ?_ _)); exact BK167.out⟩, ⟨by repeat (first | (with_reducible first | exact HB.out | apply below_alloc | apply pw_below_drewN | apply below_drew1 | refine below_set ?_ GE167.out) | exact HB.out)⟩⟩
    ·rw [if_neg c16] at H
     have c16b0 : (a0_0 == 2) = false := beq_eq_false_iff_ne.mpr c16
     have c16b1 : (a0_0 != 2) = true := bne_iff_ne.mpr c16
     (first | rw [c16b0] | (simp only [i64_w, i32_w]; rw [c16b0]) | skip)
     by_cases c18 : a0_0 = 3
     ·rw [if_pos c18] at H
      have c18b0 : (a0_0 == 3) = true := beq_iff_eq.mpr c18
      have c18b1 : (a0_0 != 3) = false := bne_eq_false_iff_eq.mpr c18
      clear c18
      have H' := Aside0.mk H
      clear H
      have z19_0 : wc.cell? ⟨gb167, 0, none⟩ = some (.int .u8 a0_0) := (blk_cell BK167.out 0).trans rfl
      have z19_1 : wc.cell? ⟨gb167, 1, none⟩ = some (.int .u8 a0_1) := (blk_cell BK167.out 1).trans rfl
      have z19_2 : wc.cell? ⟨gb167, 2, none⟩ = some (.int .u32 a0_2) := (blk_cell BK167.out 2).trans rfl
      have z19_3 : wc.cell? ⟨gb167, 3, none⟩ = some (.slice A0_3 l0_3.length c0_3) := (blk_cell BK167.out 3).trans rfl
      have z19_4 : wc.cell? ⟨gb167, 4, none⟩ = some (.int .i64 a0_4) := (blk_cell BK167.out 4).trans rfl
      have z19_5 : wc.cell? ⟨gb167, 5, none⟩ = some (.int .u32 a0_5) := (blk_cell BK167.out 5).trans rfl
      have z19_6 : wc.cell? ⟨gb167, 6, none⟩ = some (.int .u32 a0_6) := (blk_cell BK167.out 6).trans rfl
      have z19_7 : wc.cell? ⟨gb167, 7, none⟩ = some (.int .u8 a0_7) := (blk_cell BK167.out 7).trans rfl
      have z19_8 : wc.cell? ⟨gb167, 8, none⟩ = some (.bool a0_8) := (blk_cell BK167.out 8).trans rfl
      have z19_9 : wc.cell? ⟨gb167, 9, none⟩ = some (.int .u32 a0_9) := (blk_cell BK167.out 9).trans rfl
      have z19_10 : wc.cell? ⟨gb167, 10, none⟩ = some (.slice A0_10 l0_10.length c0_10) := (blk_cell BK167.out 10).trans rfl
      have y19_0 := blk_frozen BK167.out 0
      have y19_1 := blk_frozen BK167.out 1
      have y19_2 := blk_frozen BK167.out 2
      have y19_3 := blk_frozen BK167.out 3
      have y19_4 := blk_frozen BK167.out 4
      have y19_5 := blk_frozen BK167.out 5
      have y19_6 := blk_frozen BK167.out 6
      have y19_7 := blk_frozen BK167.out 7
      have y19_8 := blk_frozen BK167.out 8
      have y19_9 := blk_frozen BK167.out 9
      have y19_10 := blk_frozen BK167.out 10
      go_wp2
      go_meet
      case rel => exact ⟨_, (false), (by first | rfl | (simp; done) | (simp [*]; done)), H', ⟨by have := HJ1.out; first | omega | exact Nat.le_refl _⟩, ⟨by (with_reducible repeat (first | refine blk_drewN ?_ _ | refine blk_drew ?_ | refine blk_alloc ?_ _)); exact BK167.out⟩, ⟨by repeat (first | (with_reducible first | exact HB.out | apply below_alloc | apply pw_below_drewN | apply below_drew1 | refine below_set ?_ GE167.out) | exact HB.out)⟩⟩
     ·rw [if_neg c18] at H
      have c18b0 : (a0_0 == 3) = false := beq_eq_false_iff_ne.mpr c18
      have c18b1 : (a0_0 != 3) = true := bne_iff_ne.mpr c18
      by_cases c20 : a0_0 = 4
      ·rw [if_pos c20] at H
       have c20b0 : (a0_0 == 4) = true := beq_iff_eq.mpr c20
       have c20b1 : (a0_0 != 4) = false := bne_eq_false_iff_eq.mpr c20
       clear c20
       have H' := Aside0.mk H
       clear H
       have z21_0 : wc.cell? ⟨gb167, 0, none⟩ = some (.int .u8 a0_0) := (blk_cell BK167.out 0).trans rfl
       have z21_1 : wc.cell? ⟨gb167, 1, none⟩ = some (.int .u8 a0_1) := (blk_cell BK167.out 1).trans rfl
       have z21_2 : wc.cell? ⟨gb167, 2, none⟩ = some (.int .u32 a0_2) := (blk_cell BK167.out 2).trans rfl
       have z21_3 : wc.cell? ⟨gb167, 3, none⟩ = some (.slice A0_3 l0_3.length c0_3) := (blk_cell BK167.out 3).trans rfl
       have z21_4 : wc.cell? ⟨gb167, 4, none⟩ = some (.int .i64 a0_4) := (blk_cell BK167.out 4).trans rfl
       have z21_5 : wc.cell? ⟨gb167, 5, none⟩ = some (.int .u32 a0_5) := (blk_cell BK167.out 5).trans rfl
       have z21_6 : wc.cell? ⟨gb167, 6, none⟩ = some (.int .u32 a0_6) := (blk_cell BK167.out 6).trans rfl
       have z21_7 : wc.cell? ⟨gb167, 7, none⟩ = some (.int .u8 a0_7) := (blk_cell BK167.out 7).trans rfl
       have z21_8 : wc.cell? ⟨gb167, 8, none⟩ = some (.bool a0_8) := (blk_cell BK167.out 8).trans rfl
       have z21_9 : wc.cell? ⟨gb167, 9, none⟩ = some (.int .u32 a0_9) := (blk_cell BK167.out 9).trans rfl
       have z21_10 : wc.cell? ⟨gb167, 10, none⟩ = some (.slice A0_10 l0_10.length c0_10) := (blk_cell BK167.out 10).trans rfl
       have y21_0 := blk_frozen BK167.out 0
       have y21_1 := blk_frozen BK167.out 1
       have y21_2 := blk_frozen BK167.out 2
       have y21_3 := blk_frozen BK167.out 3
       have y21_4 := blk_frozen BK167.out 4
       have y21_5 := blk_frozen BK167.out 5
       have y21_6 := blk_frozen BK167.out 6
       have y21_7 := blk_frozen BK167.out 7
       have y21_8 := blk_frozen BK167.out 8
       have y21_9 := blk_frozen BK167.out 9
       have y21_10 := blk_frozen BK167.out 10
       go_wp2
       go_meet
       case rel => exact ⟨_, (false), (by first | rfl | (simp; done) | (simp [*]; done)), H', ⟨by have := HJ1.out; first | omega | exact Nat.le_refl _⟩, ⟨by (with_reducible repeat (first | refine blk_drewN ?_ _ | refine blk_drew ?_ | refine blk_alloc ?_ _)); exact BK167.out⟩, ⟨by repeat (first | (with_reducible first | exact HB.out | apply below_alloc | apply pw_below_drewN | apply below_drew1 | refine below_set ?_ GE167.out) | exact HB.out)⟩⟩
      ·rw [if_neg c20] at H
       have c20b0 : (a0_0 == 4) = false := beq_eq_false_iff_ne.mpr c20
       have c20b1 : (a0_0 != 4) = true := bne_iff_ne.mpr c20
       have H' := Aside0.mk H
       clear H
       have z22_0 : wc.cell? ⟨gb167, 0, none⟩ = some (.int .u8 a0_0) := (blk_cell BK167.out 0).trans rfl
       have z22_1 : wc.cell? ⟨gb167, 1, none⟩ = some (.int .u8 a0_1) := (blk_cell BK167.out 1).trans rfl
       have z22_2 : wc.cell? ⟨gb167, 2, none⟩ = some (.int .u32 a0_2) := (blk_cell BK167.out 2).trans rfl
       have z22_3 : wc.cell? ⟨gb167, 3, none⟩ = some (.slice A0_3 l0_3.length c0_3) := (blk_cell BK167.out 3).trans rfl
       have z22_4 : wc.cell? ⟨gb167, 4, none⟩ = some (.int .i64 a0_4) := (blk_cell BK167.out 4).trans rfl
       have z22_5 : wc.cell? ⟨gb167, 5, none⟩ = some (.int .u32 a0_5) := (blk_cell BK167.out 5).trans rfl
       have z22_6 : wc.cell? ⟨gb167, 6, none⟩ = some (.int .u32 a0_6) := (blk_cell BK167.out 6).trans rfl
       have z22_7 : wc.cell? ⟨gb167, 7, none⟩ = some (.int .u8 a0_7) := (blk_cell BK167.out 7).trans rfl
       have z22_8 : wc.cell? ⟨gb167, 8, none⟩ = some (.bool a0_8) := (blk_cell BK167.out 8).trans rfl
       have z22_9 : wc.cell? ⟨gb167, 9, none⟩ = some (.int .u32 a0_9) := (blk_cell BK167.out 9).trans rfl
       have z22_10 : wc.cell? ⟨gb167, 10, none⟩ = some (.slice A0_10 l0_10.length c0_10) := (blk_cell BK167.out 10).trans rfl
       have y22_0 := blk_frozen BK167.out 0
       have y22_1 := blk_frozen BK167.out 1
       have y22_2 := blk_frozen BK167.out 2
       have y22_3 := blk_frozen BK167.out 3
       have y22_4 := blk_frozen BK167.out 4
       have y22_5 := blk_frozen BK167.out 5
       have y22_6 := blk_frozen BK167.out 6
       have y22_7 := blk_frozen BK167.out 7
       have y22_8 := blk_frozen BK167.out 8
       have y22_9 := blk_frozen BK167.out 9
       have y22_10 := blk_frozen BK167.out 10
       go_wp2
       go_meet
       case rel => exact ⟨_, ((a0_0 != 8)), (by first | rfl | (simp; done) | (simp [*]; done)), H', ⟨by have := HJ1.out; first | omega | exact Nat.le_refl _⟩, ⟨by (with_reducible repeat (first | refine blk_drewN ?_ _ | refine blk_drew ?_ | refine blk_alloc ?_ _)); exact BK167.out⟩, ⟨by repeat (first | (with_reducible first | exact HB.out | apply below_alloc | apply pw_below_drewN | apply below_drew1 | refine below_set ?_ GE167.out) | exact HB.out)⟩⟩
   case rest =>
    clear HC15
    try clear c1
    try clear c2
    try clear p2
    try clear c4
    try clear c5
    try clear c7
    try clear c8
    try clear c8b0
    try clear c8b1
    try clear c16
    try clear c16b0
    try clear c16b1
    try clear c18
    try clear c18b0
    try clear c18b1
    try clear c20
    try clear c20b0
    try clear c20b1
    try clear z11_0 z11_1 z11_10 z11_2 z11_3 z11_4 z11_5 z11_6 z11_7 z11_8 z11_9 z12_0 z12_1 z12_10 z12_2 z12_3 z12_4 z12_5 z12_6 z12_7 z12_8 z12_9 z14_0 z14_1 z14_10 z14_2 z14_3 z14_4 z14_5 z14_6 z14_7 z14_8 z14_9 z17_0 z17_1 z17_10 z17_2 z17_3 z17_4 z17_5 z17_6 z17_7 z17_8 z17_9 z19_0 z19_1 z19_10 z19_2 z19_3 z19_4 z19_5 z19_6 z19_7 z19_8 z19_9 z21_0 z21_1 z21_10 z21_2 z21_3 z21_4 z21_5 z21_6 z21_7 z21_8 z21_9 z22_0 z22_1 z22_10 z22_2 z22_3 z22_4 z22_5 z22_6 z22_7 z22_8 z22_9 z6_0 z6_1 z6_10 z6_2 z6_3 z6_4 z6_5 z6_6 z6_7 z6_8 z6_9 z9_0 z9_1 z9_10 z9_2 z9_3 z9_4 z9_5 z9_6 z9_7 z9_8 z9_9 y11_0 y11_1 y11_10 y11_2 y11_3 y11_4 y11_5 y11_6 y11_7 y11_8 y11_9 y12_0 y12_1 y12_10 y12_2 y12_3 y12_4 y12_5 y12_6 y12_7 y12_8 y12_9 y14_0 y14_1 y14_10 y14_2 y14_3 y14_4 y14_5 y14_6 y14_7 y14_8 y14_9 y17_0 y17_1 y17_10 y17_2 y17_3 y17_4 y17_5 y17_6 y17_7 y17_8 y17_9 y19_0 y19_1 y19_10 y19_2 y19_3 y19_4 y19_5 y19_6 y19_7 y19_8 y19_9 y21_0 y21_1 y21_10 y21_2 y21_3 y21_4 y21_5 y21_6 y21_7 y21_8 y21_9 y22_0 y22_1 y22_10 y22_2 y22_3 y22_4 y22_5 y22_6 y22_7 y22_8 y22_9 y6_0 y6_1 y6_10 y6_2 y6_3 y6_4 y6_5 y6_6 y6_7 y6_8 y6_9 y9_0 y9_1 y9_10 y9_2 y9_3 y9_4 y9_5 y9_6 y9_7 y9_8 y9_9
    try clear p2
    obtain ⟨kq, x4_14, rfl, HA, HJ14, BK167, HB⟩ := hcut
    cases kq with
    | zero => exact absurd HA.out (by simp [frame_fields.j1])
    | succ kj14 =>
     have H := HA.out
     clear HA
     simp only [frame_fields.j1] at H
     have HC23 := Aside0.mk H
     clear H
     go_upto_region 3 with (fail)
     go_cut [5] (fun v5 wc => ∃ (kq : Nat) (x5_22 : Bool), v5 = .bool x5_22 ∧ Aside0 (frame_fields.j2 kq x3_1 x4_14 x5_22 a0_0 a0_1 a0_2 l0_3 a0_4 a0_5 a0_6 a0_7 a0_8 a0_9 l0_10 = some r) ∧ Aside0 (kq ≤ kj14) ∧ Aside0 (wc.heap[gb167]? = some (.cells #[.int .u8 a0_0, .int .u8 a0_1, .int .u32 a0_2, (.slice A0_3 l0_3.length c0_3), .int .i64 a0_4, .int .u32 a0_5, .int .u32 a0_6, .int .u8 a0_7, .bool a0_8, .int .u32 a0_9, (.slice A0_10 l0_10.length c0_10)] 38 (0, 0))) ∧ Aside0 (Below w.heap.size w wc))
     case first =>
      have H := HC23.out
      clear HC23
      by_cases c24 : a0_0 = 3
      ·rw [if_pos c24] at H
       have c24b0 : (a0_0 == 3) = true := beq_iff_eq.mpr c24
       have c24b1 : (a0_0 != 3) = false := bne_eq_false_iff_eq.mpr c24
       clear c24
       (first | rw [c24b0] | (simp only [i64_w, i32_w]; rw [c24b0]) | skip)
       have H' := Aside0.mk H
       clear H
       have z25_0 : wc.cell? ⟨gb167, 0, none⟩ = some (.int .u8 a0_0) := (blk_cell BK167.out 0).trans rfl
       have z25_1 : wc.cell? ⟨gb167, 1, none⟩ = some (.int .u8 a0_1) := (blk_cell BK167.out 1).trans rfl
       have z25_2 : wc.cell? ⟨gb167, 2, none⟩ = some (.int .u32 a0_2) := (blk_cell BK167.out 2).trans rfl
       have z25_3 : wc.cell? ⟨gb167, 3, none⟩ = some (.slice A0_3 l0_3.length c0_3) := (blk_cell BK167.out 3).trans rfl
       have z25_4 : wc.cell? ⟨gb167, 4, none⟩ = some (.int .i64 a0_4) := (blk_cell BK167.out 4).trans rfl
       have z25_5 : wc.cell? ⟨gb167, 5, none⟩ = some (.int .u32 a0_5) := (blk_cell BK167.out 5).trans rfl
       have z25_6 : wc.cell? ⟨gb167, 6, none⟩ = some (.int .u32 a0_6) := (blk_cell BK167.out 6).trans rfl
       have z25_7 : wc.cell? ⟨gb167, 7, none⟩ = some (.int .u8 a0_7) := (blk_cell BK167.out 7).trans rfl
       have z25_8 : wc.cell? ⟨gb167, 8, none⟩ = some (.bool a0_8) := (blk_cell BK167.out 8).trans rfl
       have z25_9 : wc.cell? ⟨gb167, 9, none⟩ = some (.int .u32 a0_9) := (blk_cell BK167.out 9).trans rfl
       have z25_10 : wc.cell? ⟨gb167, 10, none⟩ = some (.slice A0_10 l0_10.length c0_10) := (blk_cell BK167.out 10).trans rfl
       have y25_0 := blk_frozen BK167.out 0
       have y25_1 := blk_frozen BK167.out 1
       have y25_2 := blk_frozen BK167.out 2
       have y25_3 := blk_frozen BK167.out 3
       have y25_4 := blk_frozen BK167.out 4
       have y25_5 := blk_frozen BK167.out 5
       have y25_6 := blk_frozen BK167.out 6
       have y25_7 := blk_frozen BK167.out 7
       have y25_8 := blk_frozen BK167.out 8
       have y25_9 := blk_frozen BK167.out 9
       have y25_10 := blk_frozen BK167.out 10
       go_wp2
       go_meet
       case rel => exact ⟨_, (true), (by first | rfl | (simp; done) | (simp [*]; done)), H', ⟨by have := HJ1.out; have := HJ14.out; first | omega | exact Nat.le_refl _⟩, ⟨by (with_reducible repeat (first | refine blk_drewN ?_ _ | refine blk_drew ?_ | refine blk_alloc ?_ _)); exact BK167.out⟩, ⟨by repeat (first | (with_reducible first | exact HB.out | apply below_alloc | apply pw_below_drewN | apply below_drew1 | refine below_set ?_ GE167.out) | exact HB.out)⟩⟩
      ·rw [if_neg c24] at H
       have c24b0 : (a0_0 == 3) = false := beq_eq_false_iff_ne.mpr c24
       have c24b1 : (a0_0 != 3) = true := bne_iff_ne.mpr c24
       (first | rw [c24b0] | (simp only [i64_w, i32_w]; rw [c24b0]) | skip)
       have H' := Aside0.mk H
       clear H
       have z26_0 : wc.cell? ⟨gb167, 0, none⟩ = some (.int .u8 a0_0) := (blk_cell BK167.out 0).trans rfl
       have z26_1 : wc.cell? ⟨gb167, 1, none⟩ = some (.int .u8 a0_1) := (blk_cell BK167.out 1).trans rfl
       have z26_2 : wc.cell? ⟨gb167, 2, none⟩ = some (.int .u32 a0_2) := (blk_cell BK167.out 2).trans rfl
       have z26_3 : wc.cell? ⟨gb167, 3, none⟩ = some (.slice A0_3 l0_3.length c0_3) := (blk_cell BK167.out 3).trans rfl
       have z26_4 : wc.cell? ⟨gb167, 4, none⟩ = some (.int .i64 a0_4) := (blk_cell BK167.out 4).trans rfl
       have z26_5 : wc.cell? ⟨gb167, 5, none⟩ = some (.int .u32 a0_5) := (blk_cell BK167.out 5).trans rfl
       have z26_6 : wc.cell? ⟨gb167, 6, none⟩ = some (.int .u32 a0_6) := (blk_cell BK167.out 6).trans rfl
       have z26_7 : wc.cell? ⟨gb167, 7, none⟩ = some (.int .u8 a0_7) := (blk_cell BK167.out 7).trans rfl
       have z26_8 : wc.cell? ⟨gb167, 8, none⟩ = some (.bool a0_8) := (blk_cell BK167.out 8).trans rfl
       have z26_9 : wc.cell? ⟨gb167, 9, none⟩ = some (.int .u32 a0_9) := (blk_cell BK167.out 9).trans rfl
       have z26_10 : wc.cell? ⟨gb167, 10, none⟩ = some (.slice A0_10 l0_10.length c0_10) := (blk_cell BK167.out 10).trans rfl
       have y26_0 := blk_frozen BK167.out 0
       have y26_1 := blk_frozen BK167.out 1
       have y26_2 := blk_frozen BK167.out 2
       have y26_3 := blk_frozen BK167.out 3
       have y26_4 := blk_frozen BK167.out 4
       have y26_5 := blk_frozen BK167.out 5
       have y26_6 := blk_frozen BK167.out 6
       have y26_7 := blk_frozen BK167.out 7
       have y26_8 := blk_frozen BK167.out 8
       have y26_9 := blk_frozen BK167.out 9
       have y26_10 := blk_frozen BK167.out 10
       go_wp2
       go_meet
       case rel => exact ⟨_, ((a0_0 == 7)), (by first | rfl | (simp; done) | (simp [*]; done)), H', ⟨by have := HJ1.out; have := HJ14.out; first | omega | exact Nat.le_refl _⟩, ⟨by (with_reducible repeat (first | refine blk_drewN ?_ _ | refine blk_drew ?_ | refine blk_alloc ?_ _)); exact BK167.out⟩, ⟨by repeat (first | (with_reducible first | exact HB.out | apply below_alloc | apply pw_below_drewN | apply below_drew1 | refine below_set ?_ GE167.out) | exact HB.out)⟩⟩
     case rest =>
      clear HC23
      try clear c1
      try clear c2
      try clear p2
      try clear c4
      try clear c5
      try clear c7
      try clear c8
      try clear c8b0
      try clear c8b1
      try clear c16
      try clear c16b0
      try clear c16b1
      try clear c18
      try clear c18b0
      try clear c18b1
      try clear c20
      try clear c20b0
      try clear c20b1
      try clear c24
      try clear c24b0
      try clear c24b1
      try clear z11_0 z11_1 z11_10 z11_2 z11_3 z11_4 z11_5 z11_6 z11_7 z11_8 z11_9 z12_0 z12_1 z12_10 z12_2 z12_3 z12_4 z12_5 z12_6 z12_7 z12_8 z12_9 z14_0 z14_1 z14_10 z14_2 z14_3 z14_4 z14_5 z14_6 z14_7 z14_8 z14_9 z17_0 z17_1 z17_10 z17_2 z17_3 z17_4 z17_5 z17_6 z17_7 z17_8 z17_9 z19_0 z19_1 z19_10 z19_2 z19_3 z19_4 z19_5 z19_6 z19_7 z19_8 z19_9 z21_0 z21_1 z21_10 z21_2 z21_3 z21_4 z21_5 z21_6 z21_7 z21_8 z21_9 z22_0 z22_1 z22_10 z22_2 z22_3 z22_4 z22_5 z22_6 z22_7 z22_8 z22_9 z25_0 z25_1 z25_10 z25_2 z25_3 z25_4 z25_5 z25_6 z25_7 z25_8 z25_9 z26_0 z26_1 z26_10 z26_2 z26_3 z26_4 z26_5 z26_6 z26_7 z26_8 z26_9 z6_0 z6_1 z6_10 z6_2 z6_3 z6_4 z6_5 z6_6 z6_7 z6_8 z6_9 z9_0 z9_1 z9_10 z9_2 z9_3 z9_4 z9_5 z9_6 z9_7 z9_8 z9_9 y11_0 y11_1 y11_10 y11_2 y11_3 y11_4 y11_5 y11_6 y11_7 y11_8 y11_9 y12_0 y12_1 y12_10 y12_2 y12_3 y12_4 y12_5 y12_6 y12_7 y12_8 y12_9 y14_0 y14_1 y14_10 y14_2 y14_3 y14_4 y14_5 y14_6 y14_7 y14_8 y14_9 y17_0 y17_1 y17_10 y17_2 y17_3 y17_4 y17_5 y17_6 y17_7 y17_8 y17_9 y19_0 y19_1 y19_10 y19_2 y19_3 y19_4 y19_5 y19_6 y19_7 y19_8 y19_9 y21_0 y21_1 y21_10 y21_2 y21_3 y21_4 y21_5 y21_6 y21_7 y21_8 y21_9 y22_0 y22_1 y22_10 y22_2 y22_3 y22_4 y22_5 y22_6 y22_7 y22_8 y22_9 y25_0 y25_1 y25_10 y25_2 y25_3 y25_4 y25_5 y25_6 y25_7 y25_8 y25_9 y26_0 y26_1 y26_10 y26_2 y26_3 y26_4 y26_5 y26_6 y26_7 y26_8 y26_9 y6_0 y6_1 y6_10 y6_2 y6_3 y6_4 y6_5 y6_6 y6_7 y6_8 y6_9 y9_0 y9_1 y9_10 y9_2 y9_3 y9_4 y9_5 y9_6 y9_7 y9_8 y9_9
      try clear p2
      obtain ⟨kq, x5_22, rfl, HA, HJ22, BK167, HB⟩ := hcut
      cases kq with
      | zero => exact absurd HA.out (by simp [frame_fields.j2])
      | succ kj22 =>
       have H := HA.out
       clear HA
       simp only [frame_fields.j2] at H
       have HC27 := Aside0.mk H
       clear H
       go_upto_region 4 with (fail)
       go_cut [44] (fun v44 wc => ∃ (kq : Nat) (x44_26 : Bool), v44 = .bool x44_26 ∧ Aside0 (frame_fields.j3 kq x3_1 x4_14 x5_22 x44_26 a0_0 a0_1 a0_2 l0_3 a0_4 a0_5 a0_6 a0_7 a0_8 a0_9 l0_10 = some r) ∧ Aside0 (kq ≤ kj22) ∧ Aside0 (wc.heap[gb167]? = some (.cells #[.int .u8 a0_0, .int .u8 a0_1, .int .u32 a0_2, (.slice A0_3 l0_3.length c0_3), .int .i64 a0_4, .int .u32 a0_5, .int .u32 a0_6, .int .u8 a0_7, .bool a0_8, .int .u32 a0_9, (.slice A0_10 l0_10.length c0_10)] 38 (0, 0))) ∧ Aside0 (Below w.heap.size w wc))
       case first =>
        have H := HC27.out
        clear HC27
        replace H := Option.bind_eq_some_iff.mp H
        obtain ⟨t169, A280, H⟩ := H
        replace H : (if t169 = true then (frame_fields.j3 kj22 x3_1 x4_14 x5_22 false a0_0 a0_1 a0_2 l0_3 a0_4 a0_5 a0_6 a0_7 a0_8 a0_9 l0_10) else (if a0_7 = 0 then (frame_fields.j3 kj22 x3_1 x4_14 x5_22 a0_8 a0_0 a0_1 a0_2 l0_3 a0_4 a0_5 a0_6 a0_7 a0_8 a0_9 l0_10) else (frame_fields.j3 kj22 x3_1 x4_14 x5_22 true a0_0 a0_1 a0_2 l0_3 a0_4 a0_5 a0_6 a0_7 a0_8 a0_9 l0_10))) = some r := H
        have A28 := Aside0.mk A280
        clear A280
        by_cases c29 : t169 = true
        ·subst c29
         have H1 : (frame_fields.j3 kj22 x3_1 x4_14 x5_22 false a0_0 a0_1 a0_2 l0_3 a0_4 a0_5 a0_6 a0_7 a0_8 a0_9 l0_10) = some r := by rw [if_pos rfl] at H; exact H
         clear H
         have H := H1
         clear H1
         have H' := Aside0.mk H
         clear H
         have z30_0 : wc.cell? ⟨gb167, 0, none⟩ = some (.int .u8 a0_0) := (blk_cell BK167.out 0).trans rfl
         have z30_1 : wc.cell? ⟨gb167, 1, none⟩ = some (.int .u8 a0_1) := (blk_cell BK167.out 1).trans rfl
         have z30_2 : wc.cell? ⟨gb167, 2, none⟩ = some (.int .u32 a0_2) := (blk_cell BK167.out 2).trans rfl
         have z30_3 : wc.cell? ⟨gb167, 3, none⟩ = some (.slice A0_3 l0_3.length c0_3) := (blk_cell BK167.out 3).trans rfl
         have z30_4 : wc.cell? ⟨gb167, 4, none⟩ = some (.int .i64 a0_4) := (blk_cell BK167.out 4).trans rfl
         have z30_5 : wc.cell? ⟨gb167, 5, none⟩ = some (.int .u32 a0_5) := (blk_cell BK167.out 5).trans rfl
         have z30_6 : wc.cell? ⟨gb167, 6, none⟩ = some (.int .u32 a0_6) := (blk_cell BK167.out 6).trans rfl
         have z30_7 : wc.cell? ⟨gb167, 7, none⟩ = some (.int .u8 a0_7) := (blk_cell BK167.out 7).trans rfl
         have z30_8 : wc.cell? ⟨gb167, 8, none⟩ = some (.bool a0_8) := (blk_cell BK167.out 8).trans rfl
         have z30_9 : wc.cell? ⟨gb167, 9, none⟩ = some (.int .u32 a0_9) := (blk_cell BK167.out 9).trans rfl
         have z30_10 : wc.cell? ⟨gb167, 10, none⟩ = some (.slice A0_10 l0_10.length c0_10) := (blk_cell BK167.out 10).trans rfl
         have y30_0 := blk_frozen BK167.out 0
         have y30_1 := blk_frozen BK167.out 1
         have y30_2 := blk_frozen BK167.out 2
         have y30_3 := blk_frozen BK167.out 3
         have y30_4 := blk_frozen BK167.out 4
         have y30_5 := blk_frozen BK167.out 5
         have y30_6 := blk_frozen BK167.out 6
         have y30_7 := blk_frozen BK167.out 7
         have y30_8 := blk_frozen BK167.out 8
         have y30_9 := blk_frozen BK167.out 9
         have y30_10 := blk_frozen BK167.out 10
         go_wp2_with (first | ((with_reducible refine gate_callee (f := 74) rfl ?_); refine goesL_ (some 46) rfl rfl Tryd.func74 (by kernel_rfl) rfl #[.agg #[.int .u8 a0_0, .int .u8 a0_1, .int .u32 a0_2, .slice A0_3 l0_3.length c0_3, .int .i64 a0_4, .int .u32 a0_5, .int .u32 a0_6, .int .u8 a0_7, .bool a0_8, .int .u32 a0_9, .slice A0_10 l0_10.length c0_10]] rfl (by (try simp only [List.map_toArray, List.map_cons, List.map_nil]); first | done | rfl | (simp only [List.length_drop, List.length_take]; rfl)) ?_; (with_reducible refine (frame_leans.calls a0_0 a0_1 a0_2 _ _ l0_3 a0_4 a0_5 a0_6 a0_7 a0_8 a0_9 _ _ l0_10 true _ ?side1 ?side2 ?side3 ?side4 A28.out).mono ?_); (case side1 => repeat (first | exact (Kd.C_below HR0_3.out HB.out) | (with_reducible refine Kd.C_alloc ?_ _) | (with_reducible refine Kd.C_drewN ?_ _) | (with_reducible refine Kd.C_drew ?_))); (case side2 => exact HC0_3.out); (case side3 => repeat (first | exact (Kd.C_below HR0_10.out HB.out) | (with_reducible refine Kd.C_alloc ?_ _) | (with_reducible refine Kd.C_drewN ?_ _) | (with_reducible refine Kd.C_drew ?_))); (case side4 => exact HC0_10.out); rintro e w31 ⟨rfl, hb⟩; refine ⟨_, rfl, ?_⟩; have n0_ := Aside0.mk (blk_below (g := gb167) (o := .cells #[.int .u8 a0_0, .int .u8 a0_1, .int .u32 a0_2, .slice A0_3 l0_3.length c0_3, .int .i64 a0_4, .int .u32 a0_5, .int .u32 a0_6, .int .u8 a0_7, .bool a0_8, .int .u32 a0_9, .slice A0_10 l0_10.length c0_10] 38 (0, 0)) (by (with_reducible repeat (first | refine blk_drewN ?_ _ | refine blk_drew ?_ | refine blk_alloc ?_ _)); exact BK167.out) hb); have n1_ := Aside0.mk (below_step (by repeat (first | (with_reducible first | exact HB.out | apply below_alloc | apply pw_below_drewN | apply below_drew1 | refine below_set ?_ GE167.out) | exact HB.out)) hb); clear BK167; clear HB; have BK167 := n0_; have HB := n1_; clear n0_ n1_; (try clear hb); (try clear hb2); (try clear hk); (try clear hi)))
         go_meet
         case rel => exact ⟨_, (false), (by first | rfl | (simp; done) | (simp [*]; done)), H', ⟨by have := HJ1.out; have := HJ14.out; have := HJ22.out; first | omega | exact Nat.le_refl _⟩, ⟨by (with_reducible repeat (first | refine blk_drewN ?_ _ | refine blk_drew ?_ | refine blk_alloc ?_ _)); exact BK167.out⟩, ⟨by repeat (first | (with_reducible first | exact HB.out | apply below_alloc | apply pw_below_drewN | apply below_drew1 | refine below_set ?_ GE167.out) | exact HB.out)⟩⟩
        ·replace c29 := Bool.eq_false_iff.mpr c29
         subst c29
         have H1 : (if a0_7 = 0 then (frame_fields.j3 kj22 x3_1 x4_14 x5_22 a0_8 a0_0 a0_1 a0_2 l0_3 a0_4 a0_5 a0_6 a0_7 a0_8 a0_9 l0_10) else (frame_fields.j3 kj22 x3_1 x4_14 x5_22 true a0_0 a0_1 a0_2 l0_3 a0_4 a0_5 a0_6 a0_7 a0_8 a0_9 l0_10)) = some r := by rw [if_neg (show ¬ (false = true) by decide)] at H; exact H
         clear H
         have H := H1
         clear H1
         by_cases c32 : a0_7 = 0
         ·rw [if_pos c32] at H
          have c32b0 : (a0_7 == 0) = true := beq_iff_eq.mpr c32
          have c32b1 : (a0_7 != 0) = false := bne_eq_false_iff_eq.mpr c32
          clear c32
          (first | rw [c32b0] | (simp only [i64_w, i32_w]; rw [c32b0]) | skip)
          have H' := Aside0.mk H
          clear H
          have z33_0 : wc.cell? ⟨gb167, 0, none⟩ = some (.int .u8 a0_0) := (blk_cell BK167.out 0).trans rfl
          have z33_1 : wc.cell? ⟨gb167, 1, none⟩ = some (.int .u8 a0_1) := (blk_cell BK167.out 1).trans rfl
          have z33_2 : wc.cell? ⟨gb167, 2, none⟩ = some (.int .u32 a0_2) := (blk_cell BK167.out 2).trans rfl
          have z33_3 : wc.cell? ⟨gb167, 3, none⟩ = some (.slice A0_3 l0_3.length c0_3) := (blk_cell BK167.out 3).trans rfl
          have z33_4 : wc.cell? ⟨gb167, 4, none⟩ = some (.int .i64 a0_4) := (blk_cell BK167.out 4).trans rfl
          have z33_5 : wc.cell? ⟨gb167, 5, none⟩ = some (.int .u32 a0_5) := (blk_cell BK167.out 5).trans rfl
          have z33_6 : wc.cell? ⟨gb167, 6, none⟩ = some (.int .u32 a0_6) := (blk_cell BK167.out 6).trans rfl
          have z33_7 : wc.cell? ⟨gb167, 7, none⟩ = some (.int .u8 a0_7) := (blk_cell BK167.out 7).trans rfl
          have z33_8 : wc.cell? ⟨gb167, 8, none⟩ = some (.bool a0_8) := (blk_cell BK167.out 8).trans rfl
          have z33_9 : wc.cell? ⟨gb167, 9, none⟩ = some (.int .u32 a0_9) := (blk_cell BK167.out 9).trans rfl
          have z33_10 : wc.cell? ⟨gb167, 10, none⟩ = some (.slice A0_10 l0_10.length c0_10) := (blk_cell BK167.out 10).trans rfl
          have y33_0 := blk_frozen BK167.out 0
          have y33_1 := blk_frozen BK167.out 1
          have y33_2 := blk_frozen BK167.out 2
          have y33_3 := blk_frozen BK167.out 3
          have y33_4 := blk_frozen BK167.out 4
          have y33_5 := blk_frozen BK167.out 5
          have y33_6 := blk_frozen BK167.out 6
          have y33_7 := blk_frozen BK167.out 7
          have y33_8 := blk_frozen BK167.out 8
          have y33_9 := blk_frozen BK167.out 9
          have y33_10 := blk_frozen BK167.out 10
          go_wp2_with (first | ((with_reducible refine gate_callee (f := 74) rfl ?_); refine goesL_ (some 46) rfl rfl Tryd.func74 (by kernel_rfl) rfl #[.agg #[.int .u8 a0_0, .int .u8 a0_1, .int .u32 a0_2, .slice A0_3 l0_3.length c0_3, .int .i64 a0_4, .int .u32 a0_5, .int .u32 a0_6, .int .u8 a0_7, .bool a0_8, .int .u32 a0_9, .slice A0_10 l0_10.length c0_10]] rfl (by (try simp only [List.map_toArray, List.map_cons, List.map_nil]); first | done | rfl | (simp only [List.length_drop, List.length_take]; rfl)) ?_; (with_reducible refine (frame_leans.calls a0_0 a0_1 a0_2 _ _ l0_3 a0_4 a0_5 a0_6 a0_7 a0_8 a0_9 _ _ l0_10 false _ ?side1 ?side2 ?side3 ?side4 A28.out).mono ?_); (case side1 => repeat (first | exact (Kd.C_below HR0_3.out HB.out) | (with_reducible refine Kd.C_alloc ?_ _) | (with_reducible refine Kd.C_drewN ?_ _) | (with_reducible refine Kd.C_drew ?_))); (case side2 => exact HC0_3.out); (case side3 => repeat (first | exact (Kd.C_below HR0_10.out HB.out) | (with_reducible refine Kd.C_alloc ?_ _) | (with_reducible refine Kd.C_drewN ?_ _) | (with_reducible refine Kd.C_drew ?_))); (case side4 => exact HC0_10.out); rintro e w34 ⟨rfl, hb⟩; refine ⟨_, rfl, ?_⟩; have n0_ := Aside0.mk (blk_below (g := gb167) (o := .cells #[.int .u8 a0_0, .int .u8 a0_1, .int .u32 a0_2, .slice A0_3 l0_3.length c0_3, .int .i64 a0_4, .int .u32 a0_5, .int .u32 a0_6, .int .u8 a0_7, .bool a0_8, .int .u32 a0_9, .slice A0_10 l0_10.length c0_10] 38 (0, 0)) (by (with_reducible repeat (first | refine blk_drewN ?_ _ | refine blk_drew ?_ | refine blk_alloc ?_ _)); exact BK167.out) hb); have n1_ := Aside0.mk (below_step (by repeat (first | (with_reducible first | exact HB.out | apply below_alloc | apply pw_below_drewN | apply below_drew1 | refine below_set ?_ GE167.out) | exact HB.out)) hb); clear BK167; clear HB; have BK167 := n0_; have HB := n1_; clear n0_ n1_; (try clear hb); (try clear hb2); (try clear hk); (try clear hi); have z35_0 : w34.cell? ⟨gb167, 0, none⟩ = some (.int .u8 a0_0) := (blk_cell BK167.out 0).trans rfl; have z35_1 : w34.cell? ⟨gb167, 1, none⟩ = some (.int .u8 a0_1) := (blk_cell BK167.out 1).trans rfl; have z35_2 : w34.cell? ⟨gb167, 2, none⟩ = some (.int .u32 a0_2) := (blk_cell BK167.out 2).trans rfl; have z35_3 : w34.cell? ⟨gb167, 3, none⟩ = some (.slice A0_3 l0_3.length c0_3) := (blk_cell BK167.out 3).trans rfl; have z35_4 : w34.cell? ⟨gb167, 4, none⟩ = some (.int .i64 a0_4) := (blk_cell BK167.out 4).trans rfl; have z35_5 : w34.cell? ⟨gb167, 5, none⟩ = some (.int .u32 a0_5) := (blk_cell BK167.out 5).trans rfl; have z35_6 : w34.cell? ⟨gb167, 6, none⟩ = some (.int .u32 a0_6) := (blk_cell BK167.out 6).trans rfl; have z35_7 : w34.cell? ⟨gb167, 7, none⟩ = some (.int .u8 a0_7) := (blk_cell BK167.out 7).trans rfl; have z35_8 : w34.cell? ⟨gb167, 8, none⟩ = some (.bool a0_8) := (blk_cell BK167.out 8).trans rfl; have z35_9 : w34.cell? ⟨gb167, 9, none⟩ = some (.int .u32 a0_9) := (blk_cell BK167.out 9).trans rfl; have z35_10 : w34.cell? ⟨gb167, 10, none⟩ = some (.slice A0_10 l0_10.length c0_10) := (blk_cell BK167.out 10).trans rfl; have y35_0 := blk_frozen BK167.out 0; have y35_1 := blk_frozen BK167.out 1; have y35_2 := blk_frozen BK167.out 2; have y35_3 := blk_frozen BK167.out 3; have y35_4 := blk_frozen BK167.out 4; have y35_5 := blk_frozen BK167.out 5; have y35_6 := blk_frozen BK167.out 6; have y35_7 := blk_frozen BK167.out 7; have y35_8 := blk_frozen BK167.out 8; have y35_9 := blk_frozen BK167.out 9; have y35_10 := blk_frozen BK167.out 10))
          go_meet
          case rel => exact ⟨_, (a0_8), (by first | rfl | (simp; done) | (simp [*]; done)), H', ⟨by have := HJ1.out; have := HJ14.out; have := HJ22.out; first | omega | exact Nat.le_refl _⟩, ⟨by (with_reducible repeat (first | refine blk_drewN ?_ _ | refine blk_drew ?_ | refine blk_alloc ?_ _)); exact BK167.out⟩, ⟨by repeat (first | (with_reducible first | exact HB.out | apply below_alloc | apply pw_below_drewN | apply below_drew1 | refine below_set ?_ GE167.out) | exact HB.out)⟩⟩
         ·rw [if_neg c32] at H
          have c32b0 : (a0_7 == 0) = false := beq_eq_false_iff_ne.mpr c32
          have c32b1 : (a0_7 != 0) = true := bne_iff_ne.mpr c32
          (first | rw [c32b0] | (simp only [i64_w, i32_w]; rw [c32b0]) | skip)
          have H' := Aside0.mk H
          clear H
          have z36_0 : wc.cell? ⟨gb167, 0, none⟩ = some (.int .u8 a0_0) := (blk_cell BK167.out 0).trans rfl
          have z36_1 : wc.cell? ⟨gb167, 1, none⟩ = some (.int .u8 a0_1) := (blk_cell BK167.out 1).trans rfl
          have z36_2 : wc.cell? ⟨gb167, 2, none⟩ = some (.int .u32 a0_2) := (blk_cell BK167.out 2).trans rfl
          have z36_3 : wc.cell? ⟨gb167, 3, none⟩ = some (.slice A0_3 l0_3.length c0_3) := (blk_cell BK167.out 3).trans rfl
          have z36_4 : wc.cell? ⟨gb167, 4, none⟩ = some (.int .i64 a0_4) := (blk_cell BK167.out 4).trans rfl
          have z36_5 : wc.cell? ⟨gb167, 5, none⟩ = some (.int .u32 a0_5) := (blk_cell BK167.out 5).trans rfl
          have z36_6 : wc.cell? ⟨gb167, 6, none⟩ = some (.int .u32 a0_6) := (blk_cell BK167.out 6).trans rfl
          have z36_7 : wc.cell? ⟨gb167, 7, none⟩ = some (.int .u8 a0_7) := (blk_cell BK167.out 7).trans rfl
          have z36_8 : wc.cell? ⟨gb167, 8, none⟩ = some (.bool a0_8) := (blk_cell BK167.out 8).trans rfl
          have z36_9 : wc.cell? ⟨gb167, 9, none⟩ = some (.int .u32 a0_9) := (blk_cell BK167.out 9).trans rfl
          have z36_10 : wc.cell? ⟨gb167, 10, none⟩ = some (.slice A0_10 l0_10.length c0_10) := (blk_cell BK167.out 10).trans rfl
          have y36_0 := blk_frozen BK167.out 0
          have y36_1 := blk_frozen BK167.out 1
          have y36_2 := blk_frozen BK167.out 2
          have y36_3 := blk_frozen BK167.out 3
          have y36_4 := blk_frozen BK167.out 4
          have y36_5 := blk_frozen BK167.out 5
          have y36_6 := blk_frozen BK167.out 6
          have y36_7 := blk_frozen BK167.out 7
          have y36_8 := blk_frozen BK167.out 8
          have y36_9 := blk_frozen BK167.out 9
          have y36_10 := blk_frozen BK167.out 10
          go_wp2_with (first | ((with_reducible refine gate_callee (f := 74) rfl ?_); refine goesL_ (some 46) rfl rfl Tryd.func74 (by kernel_rfl) rfl #[.agg #[.int .u8 a0_0, .int .u8 a0_1, .int .u32 a0_2, .slice A0_3 l0_3.length c0_3, .int .i64 a0_4, .int .u32 a0_5, .int .u32 a0_6, .int .u8 a0_7, .bool a0_8, .int .u32 a0_9, .slice A0_10 l0_10.length c0_10]] rfl (by (try simp only [List.map_toArray, List.map_cons, List.map_nil]); first | done | rfl | (simp only [List.length_drop, List.length_take]; rfl)) ?_; (with_reducible refine (frame_leans.calls a0_0 a0_1 a0_2 _ _ l0_3 a0_4 a0_5 a0_6 a0_7 a0_8 a0_9 _ _ l0_10 false _ ?side1 ?side2 ?side3 ?side4 A28.out).mono ?_); (case side1 => repeat (first | exact (Kd.C_below HR0_3.out HB.out) | (with_reducible refine Kd.C_alloc ?_ _) | (with_reducible refine Kd.C_drewN ?_ _) | (with_reducible refine Kd.C_drew ?_))); (case side2 => exact HC0_3.out); (case side3 => repeat (first | exact (Kd.C_below HR0_10.out HB.out) | (with_reducible refine Kd.C_alloc ?_ _) | (with_reducible refine Kd.C_drewN ?_ _) | (with_reducible refine Kd.C_drew ?_))); (case side4 => exact HC0_10.out); rintro e w37 ⟨rfl, hb⟩; refine ⟨_, rfl, ?_⟩; have n0_ := Aside0.mk (blk_below (g := gb167) (o := .cells #[.int .u8 a0_0, .int .u8 a0_1, .int .u32 a0_2, .slice A0_3 l0_3.length c0_3, .int .i64 a0_4, .int .u32 a0_5, .int .u32 a0_6, .int .u8 a0_7, .bool a0_8, .int .u32 a0_9, .slice A0_10 l0_10.length c0_10] 38 (0, 0)) (by (with_reducible repeat (first | refine blk_drewN ?_ _ | refine blk_drew ?_ | refine blk_alloc ?_ _)); exact BK167.out) hb); have n1_ := Aside0.mk (below_step (by repeat (first | (with_reducible first | exact HB.out | apply below_alloc | apply pw_below_drewN | apply below_drew1 | refine below_set ?_ GE167.out) | exact HB.out)) hb); clear BK167; clear HB; have BK167 := n0_; have HB := n1_; clear n0_ n1_; (try clear hb); (try clear hb2); (try clear hk); (try clear hi); have z38_0 : w37.cell? ⟨gb167, 0, none⟩ = some (.int .u8 a0_0) := (blk_cell BK167.out 0).trans rfl; have z38_1 : w37.cell? ⟨gb167, 1, none⟩ = some (.int .u8 a0_1) := (blk_cell BK167.out 1).trans rfl; have z38_2 : w37.cell? ⟨gb167, 2, none⟩ = some (.int .u32 a0_2) := (blk_cell BK167.out 2).trans rfl; have z38_3 : w37.cell? ⟨gb167, 3, none⟩ = some (.slice A0_3 l0_3.length c0_3) := (blk_cell BK167.out 3).trans rfl; have z38_4 : w37.cell? ⟨gb167, 4, none⟩ = some (.int .i64 a0_4) := (blk_cell BK167.out 4).trans rfl; have z38_5 : w37.cell? ⟨gb167, 5, none⟩ = some (.int .u32 a0_5) := (blk_cell BK167.out 5).trans rfl; have z38_6 : w37.cell? ⟨gb167, 6, none⟩ = some (.int .u32 a0_6) := (blk_cell BK167.out 6).trans rfl; have z38_7 : w37.cell? ⟨gb167, 7, none⟩ = some (.int .u8 a0_7) := (blk_cell BK167.out 7).trans rfl; have z38_8 : w37.cell? ⟨gb167, 8, none⟩ = some (.bool a0_8) := (blk_cell BK167.out 8).trans rfl; have z38_9 : w37.cell? ⟨gb167, 9, none⟩ = some (.int .u32 a0_9) := (blk_cell BK167.out 9).trans rfl; have z38_10 : w37.cell? ⟨gb167, 10, none⟩ = some (.slice A0_10 l0_10.length c0_10) := (blk_cell BK167.out 10).trans rfl; have y38_0 := blk_frozen BK167.out 0; have y38_1 := blk_frozen BK167.out 1; have y38_2 := blk_frozen BK167.out 2; have y38_3 := blk_frozen BK167.out 3; have y38_4 := blk_frozen BK167.out 4; have y38_5 := blk_frozen BK167.out 5; have y38_6 := blk_frozen BK167.out 6; have y38_7 := blk_frozen BK167.out 7; have y38_8 := blk_frozen BK167.out 8; have y38_9 := blk_frozen BK167.out 9; have y38_10 := blk_frozen BK167.out 10))
          go_meet
          case rel => exact ⟨_, (true), (by first | rfl | (simp; done) | (simp [*]; done)), H', ⟨by have := HJ1.out; have := HJ14.out; have := HJ22.out; first | omega | exact Nat.le_refl _⟩, ⟨by (with_reducible repeat (first | refine blk_drewN ?_ _ | refine blk_drew ?_ | refine blk_alloc ?_ _)); exact BK167.out⟩, ⟨by repeat (first | (with_reducible first | exact HB.out | apply below_alloc | apply pw_below_drewN | apply below_drew1 | refine below_set ?_ GE167.out) | exact HB.out)⟩⟩
       case rest =>
        clear HC27
        try clear c1
        try clear c2
        try clear p2
        try clear c3
        try clear c4
        try clear c5
        try clear c7
        try clear c8
        try clear c8b0
        try clear c8b1
        try clear c16
        try clear c16b0
        try clear c16b1
        try clear c18
        try clear c18b0
        try clear c18b1
        try clear c20
        try clear c20b0
        try clear c20b1
        try clear c24
        try clear c24b0
        try clear c24b1
        try clear c29
        try clear c32
        try clear c32b0
        try clear c32b1
        try clear z11_0 z11_1 z11_10 z11_2 z11_3 z11_4 z11_5 z11_6 z11_7 z11_8 z11_9 z12_0 z12_1 z12_10 z12_2 z12_3 z12_4 z12_5 z12_6 z12_7 z12_8 z12_9 z14_0 z14_1 z14_10 z14_2 z14_3 z14_4 z14_5 z14_6 z14_7 z14_8 z14_9 z17_0 z17_1 z17_10 z17_2 z17_3 z17_4 z17_5 z17_6 z17_7 z17_8 z17_9 z19_0 z19_1 z19_10 z19_2 z19_3 z19_4 z19_5 z19_6 z19_7 z19_8 z19_9 z21_0 z21_1 z21_10 z21_2 z21_3 z21_4 z21_5 z21_6 z21_7 z21_8 z21_9 z22_0 z22_1 z22_10 z22_2 z22_3 z22_4 z22_5 z22_6 z22_7 z22_8 z22_9 z25_0 z25_1 z25_10 z25_2 z25_3 z25_4 z25_5 z25_6 z25_7 z25_8 z25_9 z26_0 z26_1 z26_10 z26_2 z26_3 z26_4 z26_5 z26_6 z26_7 z26_8 z26_9 z30_0 z30_1 z30_10 z30_2 z30_3 z30_4 z30_5 z30_6 z30_7 z30_8 z30_9 z33_0 z33_1 z33_10 z33_2 z33_3 z33_4 z33_5 z33_6 z33_7 z33_8 z33_9 z35_0 z35_1 z35_10 z35_2 z35_3 z35_4 z35_5 z35_6 z35_7 z35_8 z35_9 z36_0 z36_1 z36_10 z36_2 z36_3 z36_4 z36_5 z36_6 z36_7 z36_8 z36_9 z38_0 z38_1 z38_10 z38_2 z38_3 z38_4 z38_5 z38_6 z38_7 z38_8 z38_9 z6_0 z6_1 z6_10 z6_2 z6_3 z6_4 z6_5 z6_6 z6_7 z6_8 z6_9 z9_0 z9_1 z9_10 z9_2 z9_3 z9_4 z9_5 z9_6 z9_7 z9_8 z9_9 y11_0 y11_1 y11_10 y11_2 y11_3 y11_4 y11_5 y11_6 y11_7 y11_8 y11_9 y12_0 y12_1 y12_10 y12_2 y12_3 y12_4 y12_5 y12_6 y12_7 y12_8 y12_9 y14_0 y14_1 y14_10 y14_2 y14_3 y14_4 y14_5 y14_6 y14_7 y14_8 y14_9 y17_0 y17_1 y17_10 y17_2 y17_3 y17_4 y17_5 y17_6 y17_7 y17_8 y17_9 y19_0 y19_1 y19_10 y19_2 y19_3 y19_4 y19_5 y19_6 y19_7 y19_8 y19_9 y21_0 y21_1 y21_10 y21_2 y21_3 y21_4 y21_5 y21_6 y21_7 y21_8 y21_9 y22_0 y22_1 y22_10 y22_2 y22_3 y22_4 y22_5 y22_6 y22_7 y22_8 y22_9 y25_0 y25_1 y25_10 y25_2 y25_3 y25_4 y25_5 y25_6 y25_7 y25_8 y25_9 y26_0 y26_1 y26_10 y26_2 y26_3 y26_4 y26_5 y26_6 y26_7 y26_8 y26_9 y30_0 y30_1 y30_10 y30_2 y30_3 y30_4 y30_5 y30_6 y30_7 y30_8 y30_9 y33_0 y33_1 y33_10 y33_2 y33_3 y33_4 y33_5 y33_6 y33_7 y33_8 y33_9 y35_0 y35_1 y35_10 y35_2 y35_3 y35_4 y35_5 y35_6 y35_7 y35_8 y35_9 y36_0 y36_1 y36_10 y36_2 y36_3 y36_4 y36_5 y36_6 y36_7 y36_8 y36_9 y38_0 y38_1 y38_10 y38_2 y38_3 y38_4 y38_5 y38_6 y38_7 y38_8 y38_9 y6_0 y6_1 y6_10 y6_2 y6_3 y6_4 y6_5 y6_6 y6_7 y6_8 y6_9 y9_0 y9_1 y9_10 y9_2 y9_3 y9_4 y9_5 y9_6 y9_7 y9_8 y9_9
        try clear p2
        obtain ⟨kq, x44_26, rfl, HA, HJ26, BK167, HB⟩ := hcut
        cases kq with
        | zero => exact absurd HA.out (by simp [frame_fields.j3])
        | succ kj26 =>
         have H := HA.out
         clear HA
         simp only [frame_fields.j3] at H
         have HC39 := Aside0.mk H
         clear H
         go_upto_if 44 with (fail)
         go_cut [44] (fun v44 wc => ∃ (kq : Nat) (x44_38 : Bool), v44 = .bool x44_38 ∧ Aside0 (frame_fields.j4 kq x4_14 x44_38 a0_0 a0_1 a0_2 l0_3 a0_4 a0_5 a0_6 a0_7 a0_8 a0_9 l0_10 = some r) ∧ Aside0 (kq ≤ kj26) ∧ Aside0 (wc.heap[gb167]? = some (.cells #[.int .u8 a0_0, .int .u8 a0_1, .int .u32 a0_2, (.slice A0_3 l0_3.length c0_3), .int .i64 a0_4, .int .u32 a0_5, .int .u32 a0_6, .int .u8 a0_7, .bool a0_8, .int .u32 a0_9, (.slice A0_10 l0_10.length c0_10)] 38 (0, 0))) ∧ Aside0 (Below w.heap.size w wc))
         case first =>
          have H := HC39.out
          clear HC39
          by_cases c40 : x44_26 = true
          ·subst c40
           have H1 : (frame_fields.j4 kj26 x4_14 true a0_0 a0_1 a0_2 l0_3 a0_4 a0_5 a0_6 a0_7 a0_8 a0_9 l0_10) = some r := by rw [if_pos rfl] at H; exact H
           clear H
           have H := H1
           clear H1
           have H' := Aside0.mk H
           clear H
           go_wp2
           go_meet
           case rel => exact ⟨_, (true), (by first | rfl | (simp; done) | (simp [*]; done)), H', ⟨by have := HJ1.out; have := HJ14.out; have := HJ22.out; have := HJ26.out; first | omega | exact Nat.le_refl _⟩, ⟨by (with_reducible repeat (first | refine blk_drewN ?_ _ | refine blk_drew ?_ | refine blk_alloc ?_ _)); exact BK167.out⟩, ⟨by repeat (first | (with_reducible first | exact HB.out | apply below_alloc | apply pw_below_drewN | apply below_drew1 | refine below_set ?_ GE167.out) | exact HB.out)⟩⟩
          ·replace c40 := Bool.eq_false_iff.mpr c40
           subst c40
           have H1 : (if x3_1 = true then (if x5_22 = true then (frame_fields.j4 kj26 x4_14 false a0_0 a0_1 a0_2 l0_3 a0_4 a0_5 a0_6 a0_7 a0_8 a0_9 l0_10) else (frame_fields.j4 kj26 x4_14 (a0_5 != 0) a0_0 a0_1 a0_2 l0_3 a0_4 a0_5 a0_6 a0_7 a0_8 a0_9 l0_10)) else (if a0_6 = 0 then (if x5_22 = true then (frame_fields.j4 kj26 x4_14 false a0_0 a0_1 a0_2 l0_3 a0_4 a0_5 a0_6 a0_7 a0_8 a0_9 l0_10) else (frame_fields.j4 kj26 x4_14 (a0_5 != 0) a0_0 a0_1 a0_2 l0_3 a0_4 a0_5 a0_6 a0_7 a0_8 a0_9 l0_10)) else (frame_fields.j4 kj26 x4_14 (a0_6 != 0) a0_0 a0_1 a0_2 l0_3 a0_4 a0_5 a0_6 a0_7 a0_8 a0_9 l0_10))) = some r := by rw [if_neg (show ¬ (false = true) by decide)] at H; exact H
           clear H
           have H := H1
           clear H1
           by_cases c41 : x3_1 = true
           ·subst c41
            have H1 : (if x5_22 = true then (frame_fields.j4 kj26 x4_14 false a0_0 a0_1 a0_2 l0_3 a0_4 a0_5 a0_6 a0_7 a0_8 a0_9 l0_10) else (frame_fields.j4 kj26 x4_14 (a0_5 != 0) a0_0 a0_1 a0_2 l0_3 a0_4 a0_5 a0_6 a0_7 a0_8 a0_9 l0_10)) = some r := by rw [if_pos rfl] at H; exact H
            clear H
            have H := H1
            clear H1
            by_cases c42 : x5_22 = true
            ·subst c42
             have H1 : (frame_fields.j4 kj26 x4_14 false a0_0 a0_1 a0_2 l0_3 a0_4 a0_5 a0_6 a0_7 a0_8 a0_9 l0_10) = some r := by rw [if_pos rfl] at H; exact H
             clear H
             have H := H1
             clear H1
             have H' := Aside0.mk H
             clear H
             go_wp2
             go_meet
             case rel => exact ⟨_, (false), (by first | rfl | (simp; done) | (simp [*]; done)), H', ⟨by have := HJ1.out; have := HJ14.out; have := HJ22.out; have := HJ26.out; first | omega | exact Nat.le_refl _⟩, ⟨by (with_reducible repeat (first | refine blk_drewN ?_ _ | refine blk_drew ?_ | refine blk_alloc ?_ _)); exact BK167.out⟩, ⟨by repeat (first | (with_reducible first | exact HB.out | apply below_alloc | apply pw_below_drewN | apply below_drew1 | refine below_set ?_ GE167.out) | exact HB.out)⟩⟩
            ·replace c42 := Bool.eq_false_iff.mpr c42
             subst c42
             have H1 : (frame_fields.j4 kj26 x4_14 (a0_5 != 0) a0_0 a0_1 a0_2 l0_3 a0_4 a0_5 a0_6 a0_7 a0_8 a0_9 l0_10) = some r := by rw [if_neg (show ¬ (false = true) by decide)] at H; exact H
             clear H
             have H := H1
             clear H1
             have H' := Aside0.mk H
             clear H
             have z43_0 : wc.cell? ⟨gb167, 0, none⟩ = some (.int .u8 a0_0) := (blk_cell BK167.out 0).trans rfl
             have z43_1 : wc.cell? ⟨gb167, 1, none⟩ = some (.int .u8 a0_1) := (blk_cell BK167.out 1).trans rfl
             have z43_2 : wc.cell? ⟨gb167, 2, none⟩ = some (.int .u32 a0_2) := (blk_cell BK167.out 2).trans rfl
             have z43_3 : wc.cell? ⟨gb167, 3, none⟩ = some (.slice A0_3 l0_3.length c0_3) := (blk_cell BK167.out 3).trans rfl
             have z43_4 : wc.cell? ⟨gb167, 4, none⟩ = some (.int .i64 a0_4) := (blk_cell BK167.out 4).trans rfl
             have z43_5 : wc.cell? ⟨gb167, 5, none⟩ = some (.int .u32 a0_5) := (blk_cell BK167.out 5).trans rfl
             have z43_6 : wc.cell? ⟨gb167, 6, none⟩ = some (.int .u32 a0_6) := (blk_cell BK167.out 6).trans rfl
             have z43_7 : wc.cell? ⟨gb167, 7, none⟩ = some (.int .u8 a0_7) := (blk_cell BK167.out 7).trans rfl
             have z43_8 : wc.cell? ⟨gb167, 8, none⟩ = some (.bool a0_8) := (blk_cell BK167.out 8).trans rfl
             have z43_9 : wc.cell? ⟨gb167, 9, none⟩ = some (.int .u32 a0_9) := (blk_cell BK167.out 9).trans rfl
             have z43_10 : wc.cell? ⟨gb167, 10, none⟩ = some (.slice A0_10 l0_10.length c0_10) := (blk_cell BK167.out 10).trans rfl
             have y43_0 := blk_frozen BK167.out 0
             have y43_1 := blk_frozen BK167.out 1
             have y43_2 := blk_frozen BK167.out 2
             have y43_3 := blk_frozen BK167.out 3
             have y43_4 := blk_frozen BK167.out 4
             have y43_5 := blk_frozen BK167.out 5
             have y43_6 := blk_frozen BK167.out 6
             have y43_7 := blk_frozen BK167.out 7
             have y43_8 := blk_frozen BK167.out 8
             have y43_9 := blk_frozen BK167.out 9
             have y43_10 := blk_frozen BK167.out 10
             go_wp2
             go_meet
             case rel => exact ⟨_, ((a0_5 != 0)), (by first | rfl | (simp; done) | (simp [*]; done)), H', ⟨by have := HJ1.out; have := HJ14.out; have := HJ22.out; have := HJ26.out; first | omega | exact Nat.le_refl _⟩, ⟨by (with_reducible repeat (first | refine blk_drewN ?_ _ | refine blk_drew ?_ | refine blk_alloc ?_ _)); exact BK167.out⟩, ⟨by repeat (first | (with_reducible first | exact HB.out | apply below_alloc | apply pw_below_drewN | apply below_drew1 | refine below_set ?_ GE167.out) | exact HB.out)⟩⟩
           ·replace c41 := Bool.eq_false_iff.mpr c41
            subst c41
            have H1 : (if a0_6 = 0 then (if x5_22 = true then (frame_fields.j4 kj26 x4_14 false a0_0 a0_1 a0_2 l0_3 a0_4 a0_5 a0_6 a0_7 a0_8 a0_9 l0_10) else (frame_fields.j4 kj26 x4_14 (a0_5 != 0) a0_0 a0_1 a0_2 l0_3 a0_4 a0_5 a0_6 a0_7 a0_8 a0_9 l0_10)) else (frame_fields.j4 kj26 x4_14 (a0_6 != 0) a0_0 a0_1 a0_2 l0_3 a0_4 a0_5 a0_6 a0_7 a0_8 a0_9 l0_10)) = some r := by rw [if_neg (show ¬ (false = true) by decide)] at H; exact H
            clear H
            have H := H1
            clear H1
            by_cases c44 : a0_6 = 0
            ·rw [if_pos c44] at H
             have c44b0 : (a0_6 == 0) = true := beq_iff_eq.mpr c44
             have c44b1 : (a0_6 != 0) = false := bne_eq_false_iff_eq.mpr c44
             clear c44
             (first | rw [c44b0] | (simp only [i64_w, i32_w]; rw [c44b0]) | skip)
             by_cases c45 : x5_22 = true
             ·subst c45
              have H1 : (frame_fields.j4 kj26 x4_14 false a0_0 a0_1 a0_2 l0_3 a0_4 a0_5 a0_6 a0_7 a0_8 a0_9 l0_10) = some r := by rw [if_pos rfl] at H; exact H
              clear H
              have H := H1
              clear H1
              have H' := Aside0.mk H
              clear H
              have z46_0 : wc.cell? ⟨gb167, 0, none⟩ = some (.int .u8 a0_0) := (blk_cell BK167.out 0).trans rfl
              have z46_1 : wc.cell? ⟨gb167, 1, none⟩ = some (.int .u8 a0_1) := (blk_cell BK167.out 1).trans rfl
              have z46_2 : wc.cell? ⟨gb167, 2, none⟩ = some (.int .u32 a0_2) := (blk_cell BK167.out 2).trans rfl
              have z46_3 : wc.cell? ⟨gb167, 3, none⟩ = some (.slice A0_3 l0_3.length c0_3) := (blk_cell BK167.out 3).trans rfl
              have z46_4 : wc.cell? ⟨gb167, 4, none⟩ = some (.int .i64 a0_4) := (blk_cell BK167.out 4).trans rfl
              have z46_5 : wc.cell? ⟨gb167, 5, none⟩ = some (.int .u32 a0_5) := (blk_cell BK167.out 5).trans rfl
              have z46_6 : wc.cell? ⟨gb167, 6, none⟩ = some (.int .u32 a0_6) := (blk_cell BK167.out 6).trans rfl
              have z46_7 : wc.cell? ⟨gb167, 7, none⟩ = some (.int .u8 a0_7) := (blk_cell BK167.out 7).trans rfl
              have z46_8 : wc.cell? ⟨gb167, 8, none⟩ = some (.bool a0_8) := (blk_cell BK167.out 8).trans rfl
              have z46_9 : wc.cell? ⟨gb167, 9, none⟩ = some (.int .u32 a0_9) := (blk_cell BK167.out 9).trans rfl
              have z46_10 : wc.cell? ⟨gb167, 10, none⟩ = some (.slice A0_10 l0_10.length c0_10) := (blk_cell BK167.out 10).trans rfl
              have y46_0 := blk_frozen BK167.out 0
              have y46_1 := blk_frozen BK167.out 1
              have y46_2 := blk_frozen BK167.out 2
              have y46_3 := blk_frozen BK167.out 3
              have y46_4 := blk_frozen BK167.out 4
              have y46_5 := blk_frozen BK167.out 5
              have y46_6 := blk_frozen BK167.out 6
              have y46_7 := blk_frozen BK167.out 7
              have y46_8 := blk_frozen BK167.out 8
              have y46_9 := blk_frozen BK167.out 9
              have y46_10 := blk_frozen BK167.out 10
              go_wp2
              go_meet
              case rel => exact ⟨_, (false), (by first | rfl | (simp; done) | (simp [*]; done)), H', ⟨by have := HJ1.out; have := HJ14.out; have := HJ22.out; have := HJ26.out; first | omega | exact Nat.le_refl _⟩, ⟨by (with_reducible repeat (first | refine blk_drewN ?_ _ | refine blk_drew ?_ | refine blk_alloc ?_ _)); exact BK167.out⟩, ⟨by repeat (first | (with_reducible first | exact HB.out | apply below_alloc | apply pw_below_drewN | apply below_drew1 | refine below_set ?_ GE167.out) | exact HB.out)⟩⟩
             ·replace c45 := Bool.eq_false_iff.mpr c45
              subst c45
              have H1 : (frame_fields.j4 kj26 x4_14 (a0_5 != 0) a0_0 a0_1 a0_2 l0_3 a0_4 a0_5 a0_6 a0_7 a0_8 a0_9 l0_10) = some r := by rw [if_neg (show ¬ (false = true) by decide)] at H; exact H
              clear H
              have H := H1
              clear H1
              have H' := Aside0.mk H
              clear H
              have z47_0 : wc.cell? ⟨gb167, 0, none⟩ = some (.int .u8 a0_0) := (blk_cell BK167.out 0).trans rfl
              have z47_1 : wc.cell? ⟨gb167, 1, none⟩ = some (.int .u8 a0_1) := (blk_cell BK167.out 1).trans rfl
              have z47_2 : wc.cell? ⟨gb167, 2, none⟩ = some (.int .u32 a0_2) := (blk_cell BK167.out 2).trans rfl
              have z47_3 : wc.cell? ⟨gb167, 3, none⟩ = some (.slice A0_3 l0_3.length c0_3) := (blk_cell BK167.out 3).trans rfl
              have z47_4 : wc.cell? ⟨gb167, 4, none⟩ = some (.int .i64 a0_4) := (blk_cell BK167.out 4).trans rfl
              have z47_5 : wc.cell? ⟨gb167, 5, none⟩ = some (.int .u32 a0_5) := (blk_cell BK167.out 5).trans rfl
              have z47_6 : wc.cell? ⟨gb167, 6, none⟩ = some (.int .u32 a0_6) := (blk_cell BK167.out 6).trans rfl
              have z47_7 : wc.cell? ⟨gb167, 7, none⟩ = some (.int .u8 a0_7) := (blk_cell BK167.out 7).trans rfl
              have z47_8 : wc.cell? ⟨gb167, 8, none⟩ = some (.bool a0_8) := (blk_cell BK167.out 8).trans rfl
              have z47_9 : wc.cell? ⟨gb167, 9, none⟩ = some (.int .u32 a0_9) := (blk_cell BK167.out 9).trans rfl
              have z47_10 : wc.cell? ⟨gb167, 10, none⟩ = some (.slice A0_10 l0_10.length c0_10) := (blk_cell BK167.out 10).trans rfl
              have y47_0 := blk_frozen BK167.out 0
              have y47_1 := blk_frozen BK167.out 1
              have y47_2 := blk_frozen BK167.out 2
              have y47_3 := blk_frozen BK167.out 3
              have y47_4 := blk_frozen BK167.out 4
              have y47_5 := blk_frozen BK167.out 5
              have y47_6 := blk_frozen BK167.out 6
              have y47_7 := blk_frozen BK167.out 7
              have y47_8 := blk_frozen BK167.out 8
              have y47_9 := blk_frozen BK167.out 9
              have y47_10 := blk_frozen BK167.out 10
              go_wp2
              go_meet
              case rel => exact ⟨_, ((a0_5 != 0)), (by first | rfl | (simp; done) | (simp [*]; done)), H', ⟨by have := HJ1.out; have := HJ14.out; have := HJ22.out; have := HJ26.out; first | omega | exact Nat.le_refl _⟩, ⟨by (with_reducible repeat (first | refine blk_drewN ?_ _ | refine blk_drew ?_ | refine blk_alloc ?_ _)); exact BK167.out⟩, ⟨by repeat (first | (with_reducible first | exact HB.out | apply below_alloc | apply pw_below_drewN | apply below_drew1 | refine below_set ?_ GE167.out) | exact HB.out)⟩⟩
            ·rw [if_neg c44] at H
             have c44b0 : (a0_6 == 0) = false := beq_eq_false_iff_ne.mpr c44
             have c44b1 : (a0_6 != 0) = true := bne_iff_ne.mpr c44
             (first | rw [c44b0] | (simp only [i64_w, i32_w]; rw [c44b0]) | skip)
             have H' := Aside0.mk H
             clear H
             have z48_0 : wc.cell? ⟨gb167, 0, none⟩ = some (.int .u8 a0_0) := (blk_cell BK167.out 0).trans rfl
             have z48_1 : wc.cell? ⟨gb167, 1, none⟩ = some (.int .u8 a0_1) := (blk_cell BK167.out 1).trans rfl
             have z48_2 : wc.cell? ⟨gb167, 2, none⟩ = some (.int .u32 a0_2) := (blk_cell BK167.out 2).trans rfl
             have z48_3 : wc.cell? ⟨gb167, 3, none⟩ = some (.slice A0_3 l0_3.length c0_3) := (blk_cell BK167.out 3).trans rfl
             have z48_4 : wc.cell? ⟨gb167, 4, none⟩ = some (.int .i64 a0_4) := (blk_cell BK167.out 4).trans rfl
             have z48_5 : wc.cell? ⟨gb167, 5, none⟩ = some (.int .u32 a0_5) := (blk_cell BK167.out 5).trans rfl
             have z48_6 : wc.cell? ⟨gb167, 6, none⟩ = some (.int .u32 a0_6) := (blk_cell BK167.out 6).trans rfl
             have z48_7 : wc.cell? ⟨gb167, 7, none⟩ = some (.int .u8 a0_7) := (blk_cell BK167.out 7).trans rfl
             have z48_8 : wc.cell? ⟨gb167, 8, none⟩ = some (.bool a0_8) := (blk_cell BK167.out 8).trans rfl
             have z48_9 : wc.cell? ⟨gb167, 9, none⟩ = some (.int .u32 a0_9) := (blk_cell BK167.out 9).trans rfl
             have z48_10 : wc.cell? ⟨gb167, 10, none⟩ = some (.slice A0_10 l0_10.length c0_10) := (blk_cell BK167.out 10).trans rfl
             have y48_0 := blk_frozen BK167.out 0
             have y48_1 := blk_frozen BK167.out 1
             have y48_2 := blk_frozen BK167.out 2
             have y48_3 := blk_frozen BK167.out 3
             have y48_4 := blk_frozen BK167.out 4
             have y48_5 := blk_frozen BK167.out 5
             have y48_6 := blk_frozen BK167.out 6
             have y48_7 := blk_frozen BK167.out 7
             have y48_8 := blk_frozen BK167.out 8
             have y48_9 := blk_frozen BK167.out 9
             have y48_10 := blk_frozen BK167.out 10
             go_wp2
             go_meet
             case rel => exact ⟨_, ((a0_6 != 0)), (by first | rfl | (simp; done) | (simp [*]; done)), H', ⟨by have := HJ1.out; have := HJ14.out; have := HJ22.out; have := HJ26.out; first | omega | exact Nat.le_refl _⟩, ⟨by (with_reducible repeat (first | refine blk_drewN ?_ _ | refine blk_drew ?_ | refine blk_alloc ?_ _)); exact BK167.out⟩, ⟨by repeat (first | (with_reducible first | exact HB.out | apply below_alloc | apply pw_below_drewN | apply below_drew1 | refine below_set ?_ GE167.out) | exact HB.out)⟩⟩
         case rest =>
          clear HC39
          try clear c1
          try clear c2
          try clear p2
          try clear c3
          try clear c4
          try clear c5
          try clear c7
          try clear c8
          try clear c8b0
          try clear c8b1
          try clear c16
          try clear c16b0
          try clear c16b1
          try clear c18
          try clear c18b0
          try clear c18b1
          try clear c20
          try clear c20b0
          try clear c20b1
          try clear c24
          try clear c24b0
          try clear c24b1
          try clear c29
          try clear c32
          try clear c32b0
          try clear c32b1
          try clear c40
          try clear c41
          try clear c42
          try clear c44
          try clear c44b0
          try clear c44b1
          try clear c45
          try clear z11_0 z11_1 z11_10 z11_2 z11_3 z11_4 z11_5 z11_6 z11_7 z11_8 z11_9 z12_0 z12_1 z12_10 z12_2 z12_3 z12_4 z12_5 z12_6 z12_7 z12_8 z12_9 z14_0 z14_1 z14_10 z14_2 z14_3 z14_4 z14_5 z14_6 z14_7 z14_8 z14_9 z17_0 z17_1 z17_10 z17_2 z17_3 z17_4 z17_5 z17_6 z17_7 z17_8 z17_9 z19_0 z19_1 z19_10 z19_2 z19_3 z19_4 z19_5 z19_6 z19_7 z19_8 z19_9 z21_0 z21_1 z21_10 z21_2 z21_3 z21_4 z21_5 z21_6 z21_7 z21_8 z21_9 z22_0 z22_1 z22_10 z22_2 z22_3 z22_4 z22_5 z22_6 z22_7 z22_8 z22_9 z25_0 z25_1 z25_10 z25_2 z25_3 z25_4 z25_5 z25_6 z25_7 z25_8 z25_9 z26_0 z26_1 z26_10 z26_2 z26_3 z26_4 z26_5 z26_6 z26_7 z26_8 z26_9 z30_0 z30_1 z30_10 z30_2 z30_3 z30_4 z30_5 z30_6 z30_7 z30_8 z30_9 z33_0 z33_1 z33_10 z33_2 z33_3 z33_4 z33_5 z33_6 z33_7 z33_8 z33_9 z35_0 z35_1 z35_10 z35_2 z35_3 z35_4 z35_5 z35_6 z35_7 z35_8 z35_9 z36_0 z36_1 z36_10 z36_2 z36_3 z36_4 z36_5 z36_6 z36_7 z36_8 z36_9 z38_0 z38_1 z38_10 z38_2 z38_3 z38_4 z38_5 z38_6 z38_7 z38_8 z38_9 z43_0 z43_1 z43_10 z43_2 z43_3 z43_4 z43_5 z43_6 z43_7 z43_8 z43_9 z46_0 z46_1 z46_10 z46_2 z46_3 z46_4 z46_5 z46_6 z46_7 z46_8 z46_9 z47_0 z47_1 z47_10 z47_2 z47_3 z47_4 z47_5 z47_6 z47_7 z47_8 z47_9 z48_0 z48_1 z48_10 z48_2 z48_3 z48_4 z48_5 z48_6 z48_7 z48_8 z48_9 z6_0 z6_1 z6_10 z6_2 z6_3 z6_4 z6_5 z6_6 z6_7 z6_8 z6_9 z9_0 z9_1 z9_10 z9_2 z9_3 z9_4 z9_5 z9_6 z9_7 z9_8 z9_9 y11_0 y11_1 y11_10 y11_2 y11_3 y11_4 y11_5 y11_6 y11_7 y11_8 y11_9 y12_0 y12_1 y12_10 y12_2 y12_3 y12_4 y12_5 y12_6 y12_7 y12_8 y12_9 y14_0 y14_1 y14_10 y14_2 y14_3 y14_4 y14_5 y14_6 y14_7 y14_8 y14_9 y17_0 y17_1 y17_10 y17_2 y17_3 y17_4 y17_5 y17_6 y17_7 y17_8 y17_9 y19_0 y19_1 y19_10 y19_2 y19_3 y19_4 y19_5 y19_6 y19_7 y19_8 y19_9 y21_0 y21_1 y21_10 y21_2 y21_3 y21_4 y21_5 y21_6 y21_7 y21_8 y21_9 y22_0 y22_1 y22_10 y22_2 y22_3 y22_4 y22_5 y22_6 y22_7 y22_8 y22_9 y25_0 y25_1 y25_10 y25_2 y25_3 y25_4 y25_5 y25_6 y25_7 y25_8 y25_9 y26_0 y26_1 y26_10 y26_2 y26_3 y26_4 y26_5 y26_6 y26_7 y26_8 y26_9 y30_0 y30_1 y30_10 y30_2 y30_3 y30_4 y30_5 y30_6 y30_7 y30_8 y30_9 y33_0 y33_1 y33_10 y33_2 y33_3 y33_4 y33_5 y33_6 y33_7 y33_8 y33_9 y35_0 y35_1 y35_10 y35_2 y35_3 y35_4 y35_5 y35_6 y35_7 y35_8 y35_9 y36_0 y36_1 y36_10 y36_2 y36_3 y36_4 y36_5 y36_6 y36_7 y36_8 y36_9 y38_0 y38_1 y38_10 y38_2 y38_3 y38_4 y38_5 y38_6 y38_7 y38_8 y38_9 y43_0 y43_1 y43_10 y43_2 y43_3 y43_4 y43_5 y43_6 y43_7 y43_8 y43_9 y46_0 y46_1 y46_10 y46_2 y46_3 y46_4 y46_5 y46_6 y46_7 y46_8 y46_9 y47_0 y47_1 y47_10 y47_2 y47_3 y47_4 y47_5 y47_6 y47_7 y47_8 y47_9 y48_0 y48_1 y48_10 y48_2 y48_3 y48_4 y48_5 y48_6 y48_7 y48_8 y48_9 y6_0 y6_1 y6_10 y6_2 y6_3 y6_4 y6_5 y6_6 y6_7 y6_8 y6_9 y9_0 y9_1 y9_10 y9_2 y9_3 y9_4 y9_5 y9_6 y9_7 y9_8 y9_9
          try clear p2
          obtain ⟨kq, x44_38, rfl, HA, HJ38, BK167, HB⟩ := hcut
          cases kq with
          | zero => exact absurd HA.out (by simp [frame_fields.j4])
          | succ kj38 =>
           have H := HA.out
           clear HA
           simp only [frame_fields.j4] at H
           by_cases c49 : x44_38 = true
           ·subst c49
            have H1 : (some false) = some r := by rw [if_pos rfl] at H; exact H
            clear H
            have H := H1
            clear H1
            obtain rfl := Option.some.inj H
            go_wp2
            go_ret
            exact ⟨by first | rfl | (simp [errW_none, errW_some] <;> rfl) | (simp [*, errW_none, errW_some] <;> rfl), by repeat (first | (with_reducible first | exact HB.out | apply below_alloc | apply pw_below_drewN | apply below_drew1 | refine below_set ?_ GE167.out) | exact HB.out)⟩
           ·replace c49 := Bool.eq_false_iff.mpr c49
            subst c49
            have H1 : (if a0_0 = 8 then (frame_fields.j5 kj38 x4_14 false a0_0 a0_1 a0_2 l0_3 a0_4 a0_5 a0_6 a0_7 a0_8 a0_9 l0_10) else (frame_fields.j5 kj38 x4_14 (a0_9 != 0) a0_0 a0_1 a0_2 l0_3 a0_4 a0_5 a0_6 a0_7 a0_8 a0_9 l0_10)) = some r := by rw [if_neg (show ¬ (false = true) by decide)] at H; exact H
            clear H
            have H := H1
            clear H1
            have HC50 := Aside0.mk H
            clear H
            go_upto_region 8 with (fail)
            go_cut [71] (fun v71 wc => ∃ (kq : Nat) (x71_49 : Bool), v71 = .bool x71_49 ∧ Aside0 (frame_fields.j5 kq x4_14 x71_49 a0_0 a0_1 a0_2 l0_3 a0_4 a0_5 a0_6 a0_7 a0_8 a0_9 l0_10 = some r) ∧ Aside0 (kq ≤ kj38) ∧ Aside0 (wc.heap[gb167]? = some (.cells #[.int .u8 a0_0, .int .u8 a0_1, .int .u32 a0_2, (.slice A0_3 l0_3.length c0_3), .int .i64 a0_4, .int .u32 a0_5, .int .u32 a0_6, .int .u8 a0_7, .bool a0_8, .int .u32 a0_9, (.slice A0_10 l0_10.length c0_10)] 38 (0, 0))) ∧ Aside0 (Below w.heap.size w wc))
            case first =>
             have H := HC50.out
             clear HC50
             by_cases c51 : a0_0 = 8
             ·rw [if_pos c51] at H
              have c51b0 : (a0_0 == 8) = true := beq_iff_eq.mpr c51
              have c51b1 : (a0_0 != 8) = false := bne_eq_false_iff_eq.mpr c51
              clear c51
              (first | rw [c51b0] | (simp only [i64_w, i32_w]; rw [c51b0]) | skip)
              have H' := Aside0.mk H
              clear H
              have z52_0 : wc.cell? ⟨gb167, 0, none⟩ = some (.int .u8 a0_0) := (blk_cell BK167.out 0).trans rfl
              have z52_1 : wc.cell? ⟨gb167, 1, none⟩ = some (.int .u8 a0_1) := (blk_cell BK167.out 1).trans rfl
              have z52_2 : wc.cell? ⟨gb167, 2, none⟩ = some (.int .u32 a0_2) := (blk_cell BK167.out 2).trans rfl
              have z52_3 : wc.cell? ⟨gb167, 3, none⟩ = some (.slice A0_3 l0_3.length c0_3) := (blk_cell BK167.out 3).trans rfl
              have z52_4 : wc.cell? ⟨gb167, 4, none⟩ = some (.int .i64 a0_4) := (blk_cell BK167.out 4).trans rfl
              have z52_5 : wc.cell? ⟨gb167, 5, none⟩ = some (.int .u32 a0_5) := (blk_cell BK167.out 5).trans rfl
              have z52_6 : wc.cell? ⟨gb167, 6, none⟩ = some (.int .u32 a0_6) := (blk_cell BK167.out 6).trans rfl
              have z52_7 : wc.cell? ⟨gb167, 7, none⟩ = some (.int .u8 a0_7) := (blk_cell BK167.out 7).trans rfl
              have z52_8 : wc.cell? ⟨gb167, 8, none⟩ = some (.bool a0_8) := (blk_cell BK167.out 8).trans rfl
              have z52_9 : wc.cell? ⟨gb167, 9, none⟩ = some (.int .u32 a0_9) := (blk_cell BK167.out 9).trans rfl
              have z52_10 : wc.cell? ⟨gb167, 10, none⟩ = some (.slice A0_10 l0_10.length c0_10) := (blk_cell BK167.out 10).trans rfl
              have y52_0 := blk_frozen BK167.out 0
              have y52_1 := blk_frozen BK167.out 1
              have y52_2 := blk_frozen BK167.out 2
              have y52_3 := blk_frozen BK167.out 3
              have y52_4 := blk_frozen BK167.out 4
              have y52_5 := blk_frozen BK167.out 5
              have y52_6 := blk_frozen BK167.out 6
              have y52_7 := blk_frozen BK167.out 7
              have y52_8 := blk_frozen BK167.out 8
              have y52_9 := blk_frozen BK167.out 9
              have y52_10 := blk_frozen BK167.out 10
              go_wp2
              go_meet
              case rel => exact ⟨_, (false), (by first | rfl | (simp; done) | (simp [*]; done)), H', ⟨by have := HJ1.out; have := HJ14.out; have := HJ22.out; have := HJ26.out; have := HJ38.out; first | omega | exact Nat.le_refl _⟩, ⟨by (with_reducible repeat (first | refine blk_drewN ?_ _ | refine blk_drew ?_ | refine blk_alloc ?_ _)); exact BK167.out⟩, ⟨by repeat (first | (with_reducible first | exact HB.out | apply below_alloc | apply pw_below_drewN | apply below_drew1 | refine below_set ?_ GE167.out) | exact HB.out)⟩⟩
             ·rw [if_neg c51] at H
              have c51b0 : (a0_0 == 8) = false := beq_eq_false_iff_ne.mpr c51
              have c51b1 : (a0_0 != 8) = true := bne_iff_ne.mpr c51
              (first | rw [c51b0] | (simp only [i64_w, i32_w]; rw [c51b0]) | skip)
              have H' := Aside0.mk H
              clear H
              have z53_0 : wc.cell? ⟨gb167, 0, none⟩ = some (.int .u8 a0_0) := (blk_cell BK167.out 0).trans rfl
              have z53_1 : wc.cell? ⟨gb167, 1, none⟩ = some (.int .u8 a0_1) := (blk_cell BK167.out 1).trans rfl
              have z53_2 : wc.cell? ⟨gb167, 2, none⟩ = some (.int .u32 a0_2) := (blk_cell BK167.out 2).trans rfl
              have z53_3 : wc.cell? ⟨gb167, 3, none⟩ = some (.slice A0_3 l0_3.length c0_3) := (blk_cell BK167.out 3).trans rfl
              have z53_4 : wc.cell? ⟨gb167, 4, none⟩ = some (.int .i64 a0_4) := (blk_cell BK167.out 4).trans rfl
              have z53_5 : wc.cell? ⟨gb167, 5, none⟩ = some (.int .u32 a0_5) := (blk_cell BK167.out 5).trans rfl
              have z53_6 : wc.cell? ⟨gb167, 6, none⟩ = some (.int .u32 a0_6) := (blk_cell BK167.out 6).trans rfl
              have z53_7 : wc.cell? ⟨gb167, 7, none⟩ = some (.int .u8 a0_7) := (blk_cell BK167.out 7).trans rfl
              have z53_8 : wc.cell? ⟨gb167, 8, none⟩ = some (.bool a0_8) := (blk_cell BK167.out 8).trans rfl
              have z53_9 : wc.cell? ⟨gb167, 9, none⟩ = some (.int .u32 a0_9) := (blk_cell BK167.out 9).trans rfl
              have z53_10 : wc.cell? ⟨gb167, 10, none⟩ = some (.slice A0_10 l0_10.length c0_10) := (blk_cell BK167.out 10).trans rfl
              have y53_0 := blk_frozen BK167.out 0
              have y53_1 := blk_frozen BK167.out 1
              have y53_2 := blk_frozen BK167.out 2
              have y53_3 := blk_frozen BK167.out 3
              have y53_4 := blk_frozen BK167.out 4
              have y53_5 := blk_frozen BK167.out 5
              have y53_6 := blk_frozen BK167.out 6
              have y53_7 := blk_frozen BK167.out 7
              have y53_8 := blk_frozen BK167.out 8
              have y53_9 := blk_frozen BK167.out 9
              have y53_10 := blk_frozen BK167.out 10
              go_wp2
              go_meet
              case rel => exact ⟨_, ((a0_9 != 0)), (by first | rfl | (simp; done) | (simp [*]; done)), H', ⟨by have := HJ1.out; have := HJ14.out; have := HJ22.out; have := HJ26.out; have := HJ38.out; first | omega | exact Nat.le_refl _⟩, ⟨by (with_reducible repeat (first | refine blk_drewN ?_ _ | refine blk_drew ?_ | refine blk_alloc ?_ _)); exact BK167.out⟩, ⟨by repeat (first | (with_reducible first | exact HB.out | apply below_alloc | apply pw_below_drewN | apply below_drew1 | refine below_set ?_ GE167.out) | exact HB.out)⟩⟩
            case rest =>
             clear HC50
             try clear c1
             try clear c2
             try clear p2
             try clear c3
             try clear c4
             try clear c5
             try clear c7
             try clear c8
             try clear c8b0
             try clear c8b1
             try clear c16
             try clear c16b0
             try clear c16b1
             try clear c18
             try clear c18b0
             try clear c18b1
             try clear c20
             try clear c20b0
             try clear c20b1
             try clear c24
             try clear c24b0
             try clear c24b1
             try clear c29
             try clear c32
             try clear c32b0
             try clear c32b1
             try clear c40
             try clear c41
             try clear c42
             try clear c44
             try clear c44b0
             try clear c44b1
             try clear c45
             try clear c49
             try clear c51
             try clear c51b0
             try clear c51b1
             try clear z11_0 z11_1 z11_10 z11_2 z11_3 z11_4 z11_5 z11_6 z11_7 z11_8 z11_9 z12_0 z12_1 z12_10 z12_2 z12_3 z12_4 z12_5 z12_6 z12_7 z12_8 z12_9 z14_0 z14_1 z14_10 z14_2 z14_3 z14_4 z14_5 z14_6 z14_7 z14_8 z14_9 z17_0 z17_1 z17_10 z17_2 z17_3 z17_4 z17_5 z17_6 z17_7 z17_8 z17_9 z19_0 z19_1 z19_10 z19_2 z19_3 z19_4 z19_5 z19_6 z19_7 z19_8 z19_9 z21_0 z21_1 z21_10 z21_2 z21_3 z21_4 z21_5 z21_6 z21_7 z21_8 z21_9 z22_0 z22_1 z22_10 z22_2 z22_3 z22_4 z22_5 z22_6 z22_7 z22_8 z22_9 z25_0 z25_1 z25_10 z25_2 z25_3 z25_4 z25_5 z25_6 z25_7 z25_8 z25_9 z26_0 z26_1 z26_10 z26_2 z26_3 z26_4 z26_5 z26_6 z26_7 z26_8 z26_9 z30_0 z30_1 z30_10 z30_2 z30_3 z30_4 z30_5 z30_6 z30_7 z30_8 z30_9 z33_0 z33_1 z33_10 z33_2 z33_3 z33_4 z33_5 z33_6 z33_7 z33_8 z33_9 z35_0 z35_1 z35_10 z35_2 z35_3 z35_4 z35_5 z35_6 z35_7 z35_8 z35_9 z36_0 z36_1 z36_10 z36_2 z36_3 z36_4 z36_5 z36_6 z36_7 z36_8 z36_9 z38_0 z38_1 z38_10 z38_2 z38_3 z38_4 z38_5 z38_6 z38_7 z38_8 z38_9 z43_0 z43_1 z43_10 z43_2 z43_3 z43_4 z43_5 z43_6 z43_7 z43_8 z43_9 z46_0 z46_1 z46_10 z46_2 z46_3 z46_4 z46_5 z46_6 z46_7 z46_8 z46_9 z47_0 z47_1 z47_10 z47_2 z47_3 z47_4 z47_5 z47_6 z47_7 z47_8 z47_9 z48_0 z48_1 z48_10 z48_2 z48_3 z48_4 z48_5 z48_6 z48_7 z48_8 z48_9 z52_0 z52_1 z52_10 z52_2 z52_3 z52_4 z52_5 z52_6 z52_7 z52_8 z52_9 z53_0 z53_1 z53_10 z53_2 z53_3 z53_4 z53_5 z53_6 z53_7 z53_8 z53_9 z6_0 z6_1 z6_10 z6_2 z6_3 z6_4 z6_5 z6_6 z6_7 z6_8 z6_9 z9_0 z9_1 z9_10 z9_2 z9_3 z9_4 z9_5 z9_6 z9_7 z9_8 z9_9 y11_0 y11_1 y11_10 y11_2 y11_3 y11_4 y11_5 y11_6 y11_7 y11_8 y11_9 y12_0 y12_1 y12_10 y12_2 y12_3 y12_4 y12_5 y12_6 y12_7 y12_8 y12_9 y14_0 y14_1 y14_10 y14_2 y14_3 y14_4 y14_5 y14_6 y14_7 y14_8 y14_9 y17_0 y17_1 y17_10 y17_2 y17_3 y17_4 y17_5 y17_6 y17_7 y17_8 y17_9 y19_0 y19_1 y19_10 y19_2 y19_3 y19_4 y19_5 y19_6 y19_7 y19_8 y19_9 y21_0 y21_1 y21_10 y21_2 y21_3 y21_4 y21_5 y21_6 y21_7 y21_8 y21_9 y22_0 y22_1 y22_10 y22_2 y22_3 y22_4 y22_5 y22_6 y22_7 y22_8 y22_9 y25_0 y25_1 y25_10 y25_2 y25_3 y25_4 y25_5 y25_6 y25_7 y25_8 y25_9 y26_0 y26_1 y26_10 y26_2 y26_3 y26_4 y26_5 y26_6 y26_7 y26_8 y26_9 y30_0 y30_1 y30_10 y30_2 y30_3 y30_4 y30_5 y30_6 y30_7 y30_8 y30_9 y33_0 y33_1 y33_10 y33_2 y33_3 y33_4 y33_5 y33_6 y33_7 y33_8 y33_9 y35_0 y35_1 y35_10 y35_2 y35_3 y35_4 y35_5 y35_6 y35_7 y35_8 y35_9 y36_0 y36_1 y36_10 y36_2 y36_3 y36_4 y36_5 y36_6 y36_7 y36_8 y36_9 y38_0 y38_1 y38_10 y38_2 y38_3 y38_4 y38_5 y38_6 y38_7 y38_8 y38_9 y43_0 y43_1 y43_10 y43_2 y43_3 y43_4 y43_5 y43_6 y43_7 y43_8 y43_9 y46_0 y46_1 y46_10 y46_2 y46_3 y46_4 y46_5 y46_6 y46_7 y46_8 y46_9 y47_0 y47_1 y47_10 y47_2 y47_3 y47_4 y47_5 y47_6 y47_7 y47_8 y47_9 y48_0 y48_1 y48_10 y48_2 y48_3 y48_4 y48_5 y48_6 y48_7 y48_8 y48_9 y52_0 y52_1 y52_10 y52_2 y52_3 y52_4 y52_5 y52_6 y52_7 y52_8 y52_9 y53_0 y53_1 y53_10 y53_2 y53_3 y53_4 y53_5 y53_6 y53_7 y53_8 y53_9 y6_0 y6_1 y6_10 y6_2 y6_3 y6_4 y6_5 y6_6 y6_7 y6_8 y6_9 y9_0 y9_1 y9_10 y9_2 y9_3 y9_4 y9_5 y9_6 y9_7 y9_8 y9_9
             try clear p2
             obtain ⟨kq, x71_49, rfl, HA, HJ49, BK167, HB⟩ := hcut
             cases kq with
             | zero => exact absurd HA.out (by simp [frame_fields.j5])
             | succ kj49 =>
              have H := HA.out
              clear HA
              simp only [frame_fields.j5] at H
              by_cases c54 : x71_49 = true
              ·subst c54
               have H1 : (some false) = some r := by rw [if_pos rfl] at H; exact H
               clear H
               have H := H1
               clear H1
               obtain rfl := Option.some.inj H
               go_wp2
               go_ret
               exact ⟨by first | rfl | (simp [errW_none, errW_some] <;> rfl) | (simp [*, errW_none, errW_some] <;> rfl), by repeat (first | (with_reducible first | exact HB.out | apply below_alloc | apply pw_below_drewN | apply below_drew1 | refine below_set ?_ GE167.out) | exact HB.out)⟩
              ·replace c54 := Bool.eq_false_iff.mpr c54
               subst c54
               have H1 : (if a0_0 = 4 then (if x4_14 = true then (some true) else (some ((l0_3.length : Int) == 0))) else (if (l0_10.length : Int) > 0 then (some false) else (if x4_14 = true then (some true) else (some ((l0_3.length : Int) == 0))))) = some r := by rw [if_neg (show ¬ (false = true) by decide)] at H; exact H
               clear H
               have H := H1
               clear H1
               by_cases c55 : a0_0 = 4
               ·rw [if_pos c55] at H
                have c55b0 : (a0_0 == 4) = true := beq_iff_eq.mpr c55
                have c55b1 : (a0_0 != 4) = false := bne_eq_false_iff_eq.mpr c55
                clear c55
                by_cases c56 : x4_14 = true
                ·subst c56
                 have H1 : (some true) = some r := by rw [if_pos rfl] at H; exact H
                 clear H
                 have H := H1
                 clear H1
                 obtain rfl := Option.some.inj H
                 have z57_0 : wc.cell? ⟨gb167, 0, none⟩ = some (.int .u8 a0_0) := (blk_cell BK167.out 0).trans rfl
                 have z57_1 : wc.cell? ⟨gb167, 1, none⟩ = some (.int .u8 a0_1) := (blk_cell BK167.out 1).trans rfl
                 have z57_2 : wc.cell? ⟨gb167, 2, none⟩ = some (.int .u32 a0_2) := (blk_cell BK167.out 2).trans rfl
                 have z57_3 : wc.cell? ⟨gb167, 3, none⟩ = some (.slice A0_3 l0_3.length c0_3) := (blk_cell BK167.out 3).trans rfl
                 have z57_4 : wc.cell? ⟨gb167, 4, none⟩ = some (.int .i64 a0_4) := (blk_cell BK167.out 4).trans rfl
                 have z57_5 : wc.cell? ⟨gb167, 5, none⟩ = some (.int .u32 a0_5) := (blk_cell BK167.out 5).trans rfl
                 have z57_6 : wc.cell? ⟨gb167, 6, none⟩ = some (.int .u32 a0_6) := (blk_cell BK167.out 6).trans rfl
                 have z57_7 : wc.cell? ⟨gb167, 7, none⟩ = some (.int .u8 a0_7) := (blk_cell BK167.out 7).trans rfl
                 have z57_8 : wc.cell? ⟨gb167, 8, none⟩ = some (.bool a0_8) := (blk_cell BK167.out 8).trans rfl
                 have z57_9 : wc.cell? ⟨gb167, 9, none⟩ = some (.int .u32 a0_9) := (blk_cell BK167.out 9).trans rfl
                 have z57_10 : wc.cell? ⟨gb167, 10, none⟩ = some (.slice A0_10 l0_10.length c0_10) := (blk_cell BK167.out 10).trans rfl
                 have y57_0 := blk_frozen BK167.out 0
                 have y57_1 := blk_frozen BK167.out 1
                 have y57_2 := blk_frozen BK167.out 2
                 have y57_3 := blk_frozen BK167.out 3
                 have y57_4 := blk_frozen BK167.out 4
                 have y57_5 := blk_frozen BK167.out 5
                 have y57_6 := blk_frozen BK167.out 6
                 have y57_7 := blk_frozen BK167.out 7
                 have y57_8 := blk_frozen BK167.out 8
                 have y57_9 := blk_frozen BK167.out 9
                 have y57_10 := blk_frozen BK167.out 10
                 go_wp2
                 go_ret
                 exact ⟨by first | rfl | (simp [errW_none, errW_some] <;> rfl) | (simp [*, errW_none, errW_some] <;> rfl), by repeat (first | (with_reducible first | exact HB.out | apply below_alloc | apply pw_below_drewN | apply below_drew1 | refine below_set ?_ GE167.out) | exact HB.out)⟩
                ·replace c56 := Bool.eq_false_iff.mpr c56
                 subst c56
                 have H1 : (some ((l0_3.length : Int) == 0)) = some r := by rw [if_neg (show ¬ (false = true) by decide)] at H; exact H
                 clear H
                 have H := H1
                 clear H1
                 obtain rfl := Option.some.inj H
                 have z58_0 : wc.cell? ⟨gb167, 0, none⟩ = some (.int .u8 a0_0) := (blk_cell BK167.out 0).trans rfl
                 have z58_1 : wc.cell? ⟨gb167, 1, none⟩ = some (.int .u8 a0_1) := (blk_cell BK167.out 1).trans rfl
                 have z58_2 : wc.cell? ⟨gb167, 2, none⟩ = some (.int .u32 a0_2) := (blk_cell BK167.out 2).trans rfl
                 have z58_3 : wc.cell? ⟨gb167, 3, none⟩ = some (.slice A0_3 l0_3.length c0_3) := (blk_cell BK167.out 3).trans rfl
                 have z58_4 : wc.cell? ⟨gb167, 4, none⟩ = some (.int .i64 a0_4) := (blk_cell BK167.out 4).trans rfl
                 have z58_5 : wc.cell? ⟨gb167, 5, none⟩ = some (.int .u32 a0_5) := (blk_cell BK167.out 5).trans rfl
                 have z58_6 : wc.cell? ⟨gb167, 6, none⟩ = some (.int .u32 a0_6) := (blk_cell BK167.out 6).trans rfl
                 have z58_7 : wc.cell? ⟨gb167, 7, none⟩ = some (.int .u8 a0_7) := (blk_cell BK167.out 7).trans rfl
                 have z58_8 : wc.cell? ⟨gb167, 8, none⟩ = some (.bool a0_8) := (blk_cell BK167.out 8).trans rfl
                 have z58_9 : wc.cell? ⟨gb167, 9, none⟩ = some (.int .u32 a0_9) := (blk_cell BK167.out 9).trans rfl
                 have z58_10 : wc.cell? ⟨gb167, 10, none⟩ = some (.slice A0_10 l0_10.length c0_10) := (blk_cell BK167.out 10).trans rfl
                 have y58_0 := blk_frozen BK167.out 0
                 have y58_1 := blk_frozen BK167.out 1
                 have y58_2 := blk_frozen BK167.out 2
                 have y58_3 := blk_frozen BK167.out 3
                 have y58_4 := blk_frozen BK167.out 4
                 have y58_5 := blk_frozen BK167.out 5
                 have y58_6 := blk_frozen BK167.out 6
                 have y58_7 := blk_frozen BK167.out 7
                 have y58_8 := blk_frozen BK167.out 8
                 have y58_9 := blk_frozen BK167.out 9
                 have y58_10 := blk_frozen BK167.out 10
                 go_wp2
                 go_ret
                 exact ⟨by first | rfl | (simp [errW_none, errW_some] <;> rfl) | (simp [*, errW_none, errW_some] <;> rfl), by repeat (first | (with_reducible first | exact HB.out | apply below_alloc | apply pw_below_drewN | apply below_drew1 | refine below_set ?_ GE167.out) | exact HB.out)⟩
               ·rw [if_neg c55] at H
                have c55b0 : (a0_0 == 4) = false := beq_eq_false_iff_ne.mpr c55
                have c55b1 : (a0_0 != 4) = true := bne_iff_ne.mpr c55
                by_cases c59 : (l0_10.length : Int) > 0
                ·rw [if_pos c59] at H
                 have c59b0 : decide (0 < (l0_10.length : Int)) = true := decide_eq_true c59
                 have c59b1 : decide (0 < l0_10.length) = true := decide_eq_true (by omega)
                 clear c59
                 obtain rfl := Option.some.inj H
                 have z60_0 : wc.cell? ⟨gb167, 0, none⟩ = some (.int .u8 a0_0) := (blk_cell BK167.out 0).trans rfl
                 have z60_1 : wc.cell? ⟨gb167, 1, none⟩ = some (.int .u8 a0_1) := (blk_cell BK167.out 1).trans rfl
                 have z60_2 : wc.cell? ⟨gb167, 2, none⟩ = some (.int .u32 a0_2) := (blk_cell BK167.out 2).trans rfl
                 have z60_3 : wc.cell? ⟨gb167, 3, none⟩ = some (.slice A0_3 l0_3.length c0_3) := (blk_cell BK167.out 3).trans rfl
                 have z60_4 : wc.cell? ⟨gb167, 4, none⟩ = some (.int .i64 a0_4) := (blk_cell BK167.out 4).trans rfl
                 have z60_5 : wc.cell? ⟨gb167, 5, none⟩ = some (.int .u32 a0_5) := (blk_cell BK167.out 5).trans rfl
                 have z60_6 : wc.cell? ⟨gb167, 6, none⟩ = some (.int .u32 a0_6) := (blk_cell BK167.out 6).trans rfl
                 have z60_7 : wc.cell? ⟨gb167, 7, none⟩ = some (.int .u8 a0_7) := (blk_cell BK167.out 7).trans rfl
                 have z60_8 : wc.cell? ⟨gb167, 8, none⟩ = some (.bool a0_8) := (blk_cell BK167.out 8).trans rfl
                 have z60_9 : wc.cell? ⟨gb167, 9, none⟩ = some (.int .u32 a0_9) := (blk_cell BK167.out 9).trans rfl
                 have z60_10 : wc.cell? ⟨gb167, 10, none⟩ = some (.slice A0_10 l0_10.length c0_10) := (blk_cell BK167.out 10).trans rfl
                 have y60_0 := blk_frozen BK167.out 0
                 have y60_1 := blk_frozen BK167.out 1
                 have y60_2 := blk_frozen BK167.out 2
                 have y60_3 := blk_frozen BK167.out 3
                 have y60_4 := blk_frozen BK167.out 4
                 have y60_5 := blk_frozen BK167.out 5
                 have y60_6 := blk_frozen BK167.out 6
                 have y60_7 := blk_frozen BK167.out 7
                 have y60_8 := blk_frozen BK167.out 8
                 have y60_9 := blk_frozen BK167.out 9
                 have y60_10 := blk_frozen BK167.out 10
                 go_wp2
                 go_ret
                 exact ⟨by first | rfl | (simp [errW_none, errW_some] <;> rfl) | (simp [*, errW_none, errW_some] <;> rfl), by repeat (first | (with_reducible first | exact HB.out | apply below_alloc | apply pw_below_drewN | apply below_drew1 | refine below_set ?_ GE167.out) | exact HB.out)⟩
                ·rw [if_neg c59] at H
                 have c59b0 : decide (0 < (l0_10.length : Int)) = false := decide_eq_false c59
                 have c59b1 : decide (0 < l0_10.length) = false := decide_eq_false (by omega)
                 clear c59
                 by_cases c61 : x4_14 = true
                 ·subst c61
                  have H1 : (some true) = some r := by rw [if_pos rfl] at H; exact H
                  clear H
                  have H := H1
                  clear H1
                  obtain rfl := Option.some.inj H
                  have z62_0 : wc.cell? ⟨gb167, 0, none⟩ = some (.int .u8 a0_0) := (blk_cell BK167.out 0).trans rfl
                  have z62_1 : wc.cell? ⟨gb167, 1, none⟩ = some (.int .u8 a0_1) := (blk_cell BK167.out 1).trans rfl
                  have z62_2 : wc.cell? ⟨gb167, 2, none⟩ = some (.int .u32 a0_2) := (blk_cell BK167.out 2).trans rfl
                  have z62_3 : wc.cell? ⟨gb167, 3, none⟩ = some (.slice A0_3 l0_3.length c0_3) := (blk_cell BK167.out 3).trans rfl
                  have z62_4 : wc.cell? ⟨gb167, 4, none⟩ = some (.int .i64 a0_4) := (blk_cell BK167.out 4).trans rfl
                  have z62_5 : wc.cell? ⟨gb167, 5, none⟩ = some (.int .u32 a0_5) := (blk_cell BK167.out 5).trans rfl
                  have z62_6 : wc.cell? ⟨gb167, 6, none⟩ = some (.int .u32 a0_6) := (blk_cell BK167.out 6).trans rfl
                  have z62_7 : wc.cell? ⟨gb167, 7, none⟩ = some (.int .u8 a0_7) := (blk_cell BK167.out 7).trans rfl
                  have z62_8 : wc.cell? ⟨gb167, 8, none⟩ = some (.bool a0_8) := (blk_cell BK167.out 8).trans rfl
                  have z62_9 : wc.cell? ⟨gb167, 9, none⟩ = some (.int .u32 a0_9) := (blk_cell BK167.out 9).trans rfl
                  have z62_10 : wc.cell? ⟨gb167, 10, none⟩ = some (.slice A0_10 l0_10.length c0_10) := (blk_cell BK167.out 10).trans rfl
                  have y62_0 := blk_frozen BK167.out 0
                  have y62_1 := blk_frozen BK167.out 1
                  have y62_2 := blk_frozen BK167.out 2
                  have y62_3 := blk_frozen BK167.out 3
                  have y62_4 := blk_frozen BK167.out 4
                  have y62_5 := blk_frozen BK167.out 5
                  have y62_6 := blk_frozen BK167.out 6
                  have y62_7 := blk_frozen BK167.out 7
                  have y62_8 := blk_frozen BK167.out 8
                  have y62_9 := blk_frozen BK167.out 9
                  have y62_10 := blk_frozen BK167.out 10
                  go_wp2
                  go_ret
                  exact ⟨by first | rfl | (simp [errW_none, errW_some] <;> rfl) | (simp [*, errW_none, errW_some] <;> rfl), by repeat (first | (with_reducible first | exact HB.out | apply below_alloc | apply pw_below_drewN | apply below_drew1 | refine below_set ?_ GE167.out) | exact HB.out)⟩
                 ·replace c61 := Bool.eq_false_iff.mpr c61
                  subst c61
                  have H1 : (some ((l0_3.length : Int) == 0)) = some r := by rw [if_neg (show ¬ (false = true) by decide)] at H; exact H
                  clear H
                  have H := H1
                  clear H1
                  obtain rfl := Option.some.inj H
                  have z63_0 : wc.cell? ⟨gb167, 0, none⟩ = some (.int .u8 a0_0) := (blk_cell BK167.out 0).trans rfl
                  have z63_1 : wc.cell? ⟨gb167, 1, none⟩ = some (.int .u8 a0_1) := (blk_cell BK167.out 1).trans rfl
                  have z63_2 : wc.cell? ⟨gb167, 2, none⟩ = some (.int .u32 a0_2) := (blk_cell BK167.out 2).trans rfl
                  have z63_3 : wc.cell? ⟨gb167, 3, none⟩ = some (.slice A0_3 l0_3.length c0_3) := (blk_cell BK167.out 3).trans rfl
                  have z63_4 : wc.cell? ⟨gb167, 4, none⟩ = some (.int .i64 a0_4) := (blk_cell BK167.out 4).trans rfl
                  have z63_5 : wc.cell? ⟨gb167, 5, none⟩ = some (.int .u32 a0_5) := (blk_cell BK167.out 5).trans rfl
                  have z63_6 : wc.cell? ⟨gb167, 6, none⟩ = some (.int .u32 a0_6) := (blk_cell BK167.out 6).trans rfl
                  have z63_7 : wc.cell? ⟨gb167, 7, none⟩ = some (.int .u8 a0_7) := (blk_cell BK167.out 7).trans rfl
                  have z63_8 : wc.cell? ⟨gb167, 8, none⟩ = some (.bool a0_8) := (blk_cell BK167.out 8).trans rfl
                  have z63_9 : wc.cell? ⟨gb167, 9, none⟩ = some (.int .u32 a0_9) := (blk_cell BK167.out 9).trans rfl
                  have z63_10 : wc.cell? ⟨gb167, 10, none⟩ = some (.slice A0_10 l0_10.length c0_10) := (blk_cell BK167.out 10).trans rfl
                  have y63_0 := blk_frozen BK167.out 0
                  have y63_1 := blk_frozen BK167.out 1
                  have y63_2 := blk_frozen BK167.out 2
                  have y63_3 := blk_frozen BK167.out 3
                  have y63_4 := blk_frozen BK167.out 4
                  have y63_5 := blk_frozen BK167.out 5
                  have y63_6 := blk_frozen BK167.out 6
                  have y63_7 := blk_frozen BK167.out 7
                  have y63_8 := blk_frozen BK167.out 8
                  have y63_9 := blk_frozen BK167.out 9
                  have y63_10 := blk_frozen BK167.out 10
                  go_wp2
                  go_ret
                  exact ⟨by first | rfl | (simp [errW_none, errW_some] <;> rfl) | (simp [*, errW_none, errW_some] <;> rfl), by repeat (first | (with_reducible first | exact HB.out | apply below_alloc | apply pw_below_drewN | apply below_drew1 | refine below_set ?_ GE167.out) | exact HB.out)⟩

end Go.Proofs.YtjjfkmniffbgkaaDoor.QFrmB
