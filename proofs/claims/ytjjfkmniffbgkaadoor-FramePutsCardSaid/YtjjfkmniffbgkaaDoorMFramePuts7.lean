/- Texts of this claim, put together: QFrmBx5, QFrmBx6. -/
import Derived.Test.YtjjfkmniffbgkaaDoorMFramePuts5
import Derived.Test.YtjjfkmniffbgkaaDoorMFramePuts6
import Derived.Test.YtjjfkmniffbgkaaDoorMFramePuts0
/- Printed by a program of this claim's author (wip/pr.py); not trusted: Lean checks it. -/
namespace Go.Proofs.YtjjfkmniffbgkaaDoor.QFrmB
open Go.Proofs.YtjjfkmniffbgkaaDoor Go.Proofs.YtjjfkmniffbgkaaDoor.Given Go.Proofs.YtjjfkmniffbgkaaDoor.QFrmA
open Go.RowKit Go.Proofs.YtjjfkmniffbgkaaDoorW.PrintWords Go.Proofs.YtjjfkmniffbgkaaDoorW.PrintLast Go.Proofs.YtjjfkmniffbgkaaDoorW.PrintMore
attribute [local go_sem] max2_int min2_int max_two min_two max_three min_three max_four min_four   -- for this text's walks alone
set_option linter.unusedVariables false
set_option linter.unusedSimpArgs false
/-! ### frame_fields: function 49 -/
mutual
def frame_fields.j0 : Nat → Bool → Int → Int → Int → List Int → Int → Int → Int → Int → Bool → Int → List (S99) → Option (Bool)
 | 0, _, _, _, _, _, _, _, _, _, _, _, _ => none
 | k + 1, x3, x168000, x168001, x168002, x168003, x168004, x168005, x168006, x168007, x168008, x168009, x168010 => if x168000 = 2 then (frame_fields.j1 k x3 false x168000 x168001 x168002 x168003 x168004 x168005 x168006 x168007 x168008 x168009 x168010) else (if x168000 = 3 then (frame_fields.j1 k x3 false x168000 x168001 x168002 x168003 x168004 x168005 x168006 x168007 x168008 x168009 x168010) else (if x168000 = 4 then (frame_fields.j1 k x3 false x168000 x168001 x168002 x168003 x168004 x168005 x168006 x168007 x168008 x168009 x168010) else (frame_fields.j1 k x3 (x168000 != 8) x168000 x168001 x168002 x168003 x168004 x168005 x168006 x168007 x168008 x168009 x168010)))
def frame_fields.j1 : Nat → Bool → Bool → Int → Int → Int → List Int → Int → Int → Int → Int → Bool → Int → List (S99) → Option (Bool)
 | 0, _, _, _, _, _, _, _, _, _, _, _, _, _ => none
 | k + 1, x3, x4, x168000, x168001, x168002, x168003, x168004, x168005, x168006, x168007, x168008, x168009, x168010 => if x168000 = 3 then (frame_fields.j2 k x3 x4 true x168000 x168001 x168002 x168003 x168004 x168005 x168006 x168007 x168008 x168009 x168010) else (frame_fields.j2 k x3 x4 (x168000 == 7) x168000 x168001 x168002 x168003 x168004 x168005 x168006 x168007 x168008 x168009 x168010)
def frame_fields.j2 : Nat → Bool → Bool → Bool → Int → Int → Int → List Int → Int → Int → Int → Int → Bool → Int → List (S99) → Option (Bool)
 | 0, _, _, _, _, _, _, _, _, _, _, _, _, _, _ => none
 | k + 1, x3, x4, x5, x168000, x168001, x168002, x168003, x168004, x168005, x168006, x168007, x168008, x168009, x168010 => (frame_leans.f x168000 x168001 x168002 x168003 x168004 x168005 x168006 x168007 x168008 x168009 x168010).bind fun t169 => (if t169 = true then (frame_fields.j3 k x3 x4 x5 false x168000 x168001 x168002 x168003 x168004 x168005 x168006 x168007 x168008 x168009 x168010) else (if x168007 = 0 then (frame_fields.j3 k x3 x4 x5 x168008 x168000 x168001 x168002 x168003 x168004 x168005 x168006 x168007 x168008 x168009 x168010) else (frame_fields.j3 k x3 x4 x5 true x168000 x168001 x168002 x168003 x168004 x168005 x168006 x168007 x168008 x168009 x168010)))
def frame_fields.j3 : Nat → Bool → Bool → Bool → Bool → Int → Int → Int → List Int → Int → Int → Int → Int → Bool → Int → List (S99) → Option (Bool)
 | 0, _, _, _, _, _, _, _, _, _, _, _, _, _, _, _ => none
 | k + 1, x3, x4, x5, x44, x168000, x168001, x168002, x168003, x168004, x168005, x168006, x168007, x168008, x168009, x168010 => if x44 = true then (frame_fields.j4 k x4 x44 x168000 x168001 x168002 x168003 x168004 x168005 x168006 x168007 x168008 x168009 x168010) else (if x3 = true then (if x5 = true then (frame_fields.j4 k x4 false x168000 x168001 x168002 x168003 x168004 x168005 x168006 x168007 x168008 x168009 x168010) else (frame_fields.j4 k x4 (x168005 != 0) x168000 x168001 x168002 x168003 x168004 x168005 x168006 x168007 x168008 x168009 x168010)) else (if x168006 = 0 then (if x5 = true then (frame_fields.j4 k x4 false x168000 x168001 x168002 x168003 x168004 x168005 x168006 x168007 x168008 x168009 x168010) else (frame_fields.j4 k x4 (x168005 != 0) x168000 x168001 x168002 x168003 x168004 x168005 x168006 x168007 x168008 x168009 x168010)) else (frame_fields.j4 k x4 (x168006 != 0) x168000 x168001 x168002 x168003 x168004 x168005 x168006 x168007 x168008 x168009 x168010)))
def frame_fields.j4 : Nat → Bool → Bool → Int → Int → Int → List Int → Int → Int → Int → Int → Bool → Int → List (S99) → Option (Bool)
 | 0, _, _, _, _, _, _, _, _, _, _, _, _, _ => none
 | k + 1, x4, x44, x168000, x168001, x168002, x168003, x168004, x168005, x168006, x168007, x168008, x168009, x168010 => if x44 = true then (some false) else (if x168000 = 8 then (frame_fields.j5 k x4 false x168000 x168001 x168002 x168003 x168004 x168005 x168006 x168007 x168008 x168009 x168010) else (frame_fields.j5 k x4 (x168009 != 0) x168000 x168001 x168002 x168003 x168004 x168005 x168006 x168007 x168008 x168009 x168010))
def frame_fields.j5 : Nat → Bool → Bool → Int → Int → Int → List Int → Int → Int → Int → Int → Bool → Int → List (S99) → Option (Bool)
 | 0, _, _, _, _, _, _, _, _, _, _, _, _, _ => none
 | k + 1, x4, x71, x168000, x168001, x168002, x168003, x168004, x168005, x168006, x168007, x168008, x168009, x168010 => if x71 = true then (some false) else (if x168000 = 4 then (if x4 = true then (some true) else (some ((x168003.length : Int) == 0))) else (if (x168010.length : Int) > 0 then (some false) else (if x4 = true then (some true) else (some ((x168003.length : Int) == 0)))))
end
def frame_fields.f (k : Nat) (a0_0 : Int) (a0_1 : Int) (a0_2 : Int) (l0_3 : List Int) (a0_4 : Int) (a0_5 : Int) (a0_6 : Int) (a0_7 : Int) (a0_8 : Bool) (a0_9 : Int) (l0_10 : List (S99)) : Option (Bool) := (frame_leans.f a0_0 a0_1 a0_2 l0_3 a0_4 a0_5 a0_6 a0_7 a0_8 a0_9 l0_10).bind fun t168 => (if t168 = true then (frame_fields.j0 k true a0_0 a0_1 a0_2 l0_3 a0_4 a0_5 a0_6 a0_7 a0_8 a0_9 l0_10) else (if a0_0 = 5 then (frame_fields.j0 k true a0_0 a0_1 a0_2 l0_3 a0_4 a0_5 a0_6 a0_7 a0_8 a0_9 l0_10) else (frame_fields.j0 k (a0_0 == 7) a0_0 a0_1 a0_2 l0_3 a0_4 a0_5 a0_6 a0_7 a0_8 a0_9 l0_10)))
set_option maxHeartbeats 8000000 in
set_option maxRecDepth 100000 in
theorem frame_fields.calls (k : Nat) (a0_0 : Int) (a0_1 : Int) (a0_2 : Int) (A0_3 : Option Addr) (c0_3 : Nat) (l0_3 : List Int) (a0_4 : Int) (a0_5 : Int) (a0_6 : Int) (a0_7 : Int) (a0_8 : Bool) (a0_9 : Int) (A0_10 : Option Addr) (c0_10 : Nat) (l0_10 : List (S99)) (r : Bool) (w : World) (hr0_3 : Kd.C (Kd.int .u8) w A0_3 l0_3.length l0_3) (hc0_3 : l0_3.length ≤ c0_3) (hr0_10 : Kd.C k99 w A0_10 l0_10.length l0_10) (hc0_10 : l0_10.length ≤ c0_10) (h : frame_fields.f k a0_0 a0_1 a0_2 l0_3 a0_4 a0_5 a0_6 a0_7 a0_8 a0_9 l0_10 = some r) :
  Calls Tryd.prog 49 #[.agg #[.int .u8 a0_0, .int .u8 a0_1, .int .u32 a0_2, .slice A0_3 l0_3.length c0_3, .int .i64 a0_4, .int .u32 a0_5, .int .u32 a0_6, .int .u8 a0_7, .bool a0_8, .int .u32 a0_9, .slice A0_10 l0_10.length c0_10]] w fun e w' => e = .returned (.bool r) ∧ Below w.heap.size w w' := by
 have hu38 := Tryd.underlying38
 have HR0_3 := Aside0.mk hr0_3
 have HC0_3 := Aside0.mk hc0_3
 clear hr0_3 hc0_3
 have HR0_10 := Aside0.mk hr0_10
 have HC0_10 := Aside0.mk hc0_10
 clear hr0_10 hc0_10
 have HB := Aside0.mk (Below.refl w.heap.size w)
 have H : ((frame_leans.f a0_0 a0_1 a0_2 l0_3 a0_4 a0_5 a0_6 a0_7 a0_8 a0_9 l0_10).bind fun t168 => (if t168 = true then (frame_fields.j0 k true a0_0 a0_1 a0_2 l0_3 a0_4 a0_5 a0_6 a0_7 a0_8 a0_9 l0_10) else (if a0_0 = 5 then (frame_fields.j0 k true a0_0 a0_1 a0_2 l0_3 a0_4 a0_5 a0_6 a0_7 a0_8 a0_9 l0_10) else (frame_fields.j0 k (a0_0 == 7) a0_0 a0_1 a0_2 l0_3 a0_4 a0_5 a0_6 a0_7 a0_8 a0_9 l0_10)))) = some r := h
 clear h
 have HC2 := Aside0.mk H
 clear H
 go_enter Tryd.func49, Tryd.ntmps49
 go_upto_region 1 with (first | ((with_reducible refine gate_dst (N := 1) rfl ?_); (try (refine gate_guard (by rfl) ?_; dsimp only)); refine box_event ?hg (N := 1) ?hd (cs := #[.int .u8 a0_0, .int .u8 a0_1, .int .u32 a0_2, .slice A0_3 l0_3.length c0_3, .int .i64 a0_4, .int .u32 a0_5, .int .u32 a0_6, .int .u8 a0_7, .bool a0_8, .int .u32 a0_9, .slice A0_10 l0_10.length c0_10]) (t := 38) ?hr ?_; (case hd => rfl); (case hg => rfl); (case hr => first | (go_simp; done) | (go_simp; rfl)); intro gb167 hg w3 hbox hb; have n0_ := Aside0.mk (below_step (by repeat (first | (with_reducible first | exact HB.out | apply below_alloc | apply pw_below_drewN | apply below_drew1) | exact HB.out)) hb); have n1_ := Aside0.mk (hbox); have n2_ := Aside0.mk ((by rw [hg]; exact (below_size (by repeat (first | (with_reducible first | exact HB.out | apply below_alloc | apply pw_below_drewN | apply below_drew1) | exact HB.out))) : w.heap.size ≤ gb167)); have n3_ := Aside0.mk ((by rw [hg]; exact (below_size (by repeat (first | (with_reducible first | exact HB.out | apply below_alloc | apply pw_below_drewN | apply below_drew1) | exact HB.out))) : w.heap.size ≤ gb167)); clear HB; have HB := n0_; have BK167 := n1_; have GW167 := n2_; have GE167 := n3_; clear n0_ n1_ n2_ n3_; clear hb hbox hg))
 (try simp only [Act.put, putA, putB, putC])
 go_cut [3] (fun v3 wc => ∃ (kq : Nat) (x3_1 : Bool), v3 = .bool x3_1 ∧ Aside0 (frame_fields.j0 kq x3_1 a0_0 a0_1 a0_2 l0_3 a0_4 a0_5 a0_6 a0_7 a0_8 a0_9 l0_10 = some r) ∧ Aside0 (kq ≤ k) ∧ Aside0 (wc.heap[gb167]? = some (.cells #[.int .u8 a0_0, .int .u8 a0_1, .int .u32 a0_2, (.slice A0_3 l0_3.length c0_3), .int .i64 a0_4, .int .u32 a0_5, .int .u32 a0_6, .int .u8 a0_7, .bool a0_8, .int .u32 a0_9, (.slice A0_10 l0_10.length c0_10)] 38 (0, 0))) ∧ Aside0 (Below w.heap.size w wc))
 case first =>
  have H := HC2.out
  clear HC2
  replace H := Option.bind_eq_some_iff.mp H
  obtain ⟨t168, A40, H⟩ := H
  replace H : (if t168 = true then (frame_fields.j0 k true a0_0 a0_1 a0_2 l0_3 a0_4 a0_5 a0_6 a0_7 a0_8 a0_9 l0_10) else (if a0_0 = 5 then (frame_fields.j0 k true a0_0 a0_1 a0_2 l0_3 a0_4 a0_5 a0_6 a0_7 a0_8 a0_9 l0_10) else (frame_fields.j0 k (a0_0 == 7) a0_0 a0_1 a0_2 l0_3 a0_4 a0_5 a0_6 a0_7 a0_8 a0_9 l0_10))) = some r := H
  have A4 := Aside0.mk A40
  clear A40
  by_cases c5 : t168 = true
  ·subst c5
   have H1 : (frame_fields.j0 k true a0_0 a0_1 a0_2 l0_3 a0_4 a0_5 a0_6 a0_7 a0_8 a0_9 l0_10) = some r := by rw [if_pos rfl] at H; exact H
   clear H
   have H := H1
   clear H1
   have H' := Aside0.mk H
   clear H
   obtain ⟨z6_0, z6_1, z6_2, z6_3, z6_4, z6_5, z6_6, z6_7, z6_8, z6_9, z6_10, y6_0, y6_1, y6_2, y6_3, y6_4, y6_5, y6_6, y6_7, y6_8, y6_9, y6_10⟩ := cf11 BK167.out
   go_wp2_with (first | ((with_reducible refine gate_callee (f := 74) rfl ?_); refine goesL_ (some 7) rfl rfl Tryd.func74 (by kernel_rfl) rfl #[.agg #[.int .u8 a0_0, .int .u8 a0_1, .int .u32 a0_2, .slice A0_3 l0_3.length c0_3, .int .i64 a0_4, .int .u32 a0_5, .int .u32 a0_6, .int .u8 a0_7, .bool a0_8, .int .u32 a0_9, .slice A0_10 l0_10.length c0_10]] rfl (by (try simp only [List.map_toArray, List.map_cons, List.map_nil]); first | done | rfl | (simp only [List.length_drop, List.length_take]; rfl)) ?_; (with_reducible refine (frame_leans.calls a0_0 a0_1 a0_2 _ _ l0_3 a0_4 a0_5 a0_6 a0_7 a0_8 a0_9 _ _ l0_10 true _ ?side1 ?side2 ?side3 ?side4 A4.out).mono ?_); (case side1 => repeat (first | exact (Kd.C_below HR0_3.out HB.out) | (with_reducible refine Kd.C_alloc ?_ _) | (with_reducible refine Kd.C_drewN ?_ _) | (with_reducible refine Kd.C_drew ?_))); (case side2 => exact HC0_3.out); (case side3 => repeat (first | exact (Kd.C_below HR0_10.out HB.out) | (with_reducible refine Kd.C_alloc ?_ _) | (with_reducible refine Kd.C_drewN ?_ _) | (with_reducible refine Kd.C_drew ?_))); (case side4 => exact HC0_10.out); rintro e w7 ⟨rfl, hb⟩; refine ⟨_, rfl, ?_⟩; have n0_ := Aside0.mk (blk_below (g := gb167) (o := .cells #[.int .u8 a0_0, .int .u8 a0_1, .int .u32 a0_2, .slice A0_3 l0_3.length c0_3, .int .i64 a0_4, .int .u32 a0_5, .int .u32 a0_6, .int .u8 a0_7, .bool a0_8, .int .u32 a0_9, .slice A0_10 l0_10.length c0_10] 38 (0, 0)) (by (with_reducible repeat (first | refine blk_drewN ?_ _ | refine blk_drew ?_ | refine blk_alloc ?_ _)); exact BK167.out) hb); have n1_ := Aside0.mk (below_step (by repeat (first | (with_reducible first | exact HB.out | apply below_alloc | apply pw_below_drewN | apply below_drew1 | refine below_set ?_ GE167.out) | exact HB.out)) hb); clear BK167; clear HB; have BK167 := n0_; have HB := n1_; clear n0_ n1_; (try clear hb); (try clear hb2); (try clear hk); (try clear hi)))
   go_meet
   case rel => exact ⟨_, (true), (by first | rfl | (simp; done) | (simp [*]; done)), H', ⟨by first | omega | exact Nat.le_refl _⟩, ⟨by (with_reducible repeat (first | refine blk_drewN ?_ _ | refine blk_drew ?_ | refine blk_alloc ?_ _)); exact BK167.out⟩, ⟨by repeat (first | (with_reducible first | exact HB.out | apply below_alloc | apply pw_below_drewN | apply below_drew1 | refine below_set ?_ GE167.out) | exact HB.out)⟩⟩
  ·replace c5 := Bool.eq_false_iff.mpr c5
   subst c5
   have H1 : (if a0_0 = 5 then (frame_fields.j0 k true a0_0 a0_1 a0_2 l0_3 a0_4 a0_5 a0_6 a0_7 a0_8 a0_9 l0_10) else (frame_fields.j0 k (a0_0 == 7) a0_0 a0_1 a0_2 l0_3 a0_4 a0_5 a0_6 a0_7 a0_8 a0_9 l0_10)) = some r := by rw [if_neg (show ¬ (false = true) by decide)] at H; exact H
   clear H
   have H := H1
   clear H1
   by_cases c8 : a0_0 = 5
   ·rw [if_pos c8] at H
    have c8b0 : (a0_0 == 5) = true := beq_iff_eq.mpr c8
    have c8b1 : (a0_0 != 5) = false := bne_eq_false_iff_eq.mpr c8
    clear c8
    (first | rw [c8b0] | (simp only [i64_w, i32_w]; rw [c8b0]) | skip)
    have H' := Aside0.mk H
    clear H
    obtain ⟨z9_0, z9_1, z9_2, z9_3, z9_4, z9_5, z9_6, z9_7, z9_8, z9_9, z9_10, y9_0, y9_1, y9_2, y9_3, y9_4, y9_5, y9_6, y9_7, y9_8, y9_9, y9_10⟩ := cf11 BK167.out
    go_wp2_with (first | ((with_reducible refine gate_callee (f := 74) rfl ?_); refine goesL_ (some 7) rfl rfl Tryd.func74 (by kernel_rfl) rfl #[.agg #[.int .u8 a0_0, .int .u8 a0_1, .int .u32 a0_2, .slice A0_3 l0_3.length c0_3, .int .i64 a0_4, .int .u32 a0_5, .int .u32 a0_6, .int .u8 a0_7, .bool a0_8, .int .u32 a0_9, .slice A0_10 l0_10.length c0_10]] rfl (by (try simp only [List.map_toArray, List.map_cons, List.map_nil]); first | done | rfl | (simp only [List.length_drop, List.length_take]; rfl)) ?_; (with_reducible refine (frame_leans.calls a0_0 a0_1 a0_2 _ _ l0_3 a0_4 a0_5 a0_6 a0_7 a0_8 a0_9 _ _ l0_10 false _ ?side1 ?side2 ?side3 ?side4 A4.out).mono ?_); (case side1 => repeat (first | exact (Kd.C_below HR0_3.out HB.out) | (with_reducible refine Kd.C_alloc ?_ _) | (with_reducible refine Kd.C_drewN ?_ _) | (with_reducible refine Kd.C_drew ?_))); (case side2 => exact HC0_3.out); (case side3 => repeat (first | exact (Kd.C_below HR0_10.out HB.out) | (with_reducible refine Kd.C_alloc ?_ _) | (with_reducible refine Kd.C_drewN ?_ _) | (with_reducible refine Kd.C_drew ?_))); (case side4 => exact HC0_10.out); rintro e w10 ⟨rfl, hb⟩; refine ⟨_, rfl, ?_⟩; have n0_ := Aside0.mk (blk_below (g := gb167) (o := .cells #[.int .u8 a0_0, .int .u8 a0_1, .int .u32 a0_2, .slice A0_3 l0_3.length c0_3, .int .i64 a0_4, .int .u32 a0_5, .int .u32 a0_6, .int .u8 a0_7, .bool a0_8, .int .u32 a0_9, .slice A0_10 l0_10.length c0_10] 38 (0, 0)) (by (with_reducible repeat (first | refine blk_drewN ?_ _ | refine blk_drew ?_ | refine blk_alloc ?_ _)); exact BK167.out) hb); have n1_ := Aside0.mk (below_step (by repeat (first | (with_reducible first | exact HB.out | apply below_alloc | apply pw_below_drewN | apply below_drew1 | refine below_set ?_ GE167.out) | exact HB.out)) hb); clear BK167; clear HB; have BK167 := n0_; have HB := n1_; clear n0_ n1_; (try clear hb); (try clear hb2); (try clear hk); (try clear hi); obtain ⟨z11_0, z11_1, z11_2, z11_3, z11_4, z11_5, z11_6, z11_7, z11_8, z11_9, z11_10, y11_0, y11_1, y11_2, y11_3, y11_4, y11_5, y11_6, y11_7, y11_8, y11_9, y11_10⟩ := cf11 BK167.out))
    go_meet
    case rel => exact ⟨_, (true), (by first | rfl | (simp; done) | (simp [*]; done)), H', ⟨by first | omega | exact Nat.le_refl _⟩, ⟨by (with_reducible repeat (first | refine blk_drewN ?_ _ | refine blk_drew ?_ | refine blk_alloc ?_ _)); exact BK167.out⟩, ⟨by repeat (first | (with_reducible first | exact HB.out | apply below_alloc | apply pw_below_drewN | apply below_drew1 | refine below_set ?_ GE167.out) | exact HB.out)⟩⟩
   ·rw [if_neg c8] at H
    have c8b0 : (a0_0 == 5) = false := beq_eq_false_iff_ne.mpr c8
    have c8b1 : (a0_0 != 5) = true := bne_iff_ne.mpr c8
    (first | rw [c8b0] | (simp only [i64_w, i32_w]; rw [c8b0]) | skip)
    have H' := Aside0.mk H
    clear H
    obtain ⟨z12_0, z12_1, z12_2, z12_3, z12_4, z12_5, z12_6, z12_7, z12_8, z12_9, z12_10, y12_0, y12_1, y12_2, y12_3, y12_4, y12_5, y12_6, y12_7, y12_8, y12_9, y12_10⟩ := cf11 BK167.out
    go_wp2_with (first | ((with_reducible refine gate_callee (f := 74) rfl ?_); refine goesL_ (some 7) rfl rfl Tryd.func74 (by kernel_rfl) rfl #[.agg #[.int .u8 a0_0, .int .u8 a0_1, .int .u32 a0_2, .slice A0_3 l0_3.length c0_3, .int .i64 a0_4, .int .u32 a0_5, .int .u32 a0_6, .int .u8 a0_7, .bool a0_8, .int .u32 a0_9, .slice A0_10 l0_10.length c0_10]] rfl (by (try simp only [List.map_toArray, List.map_cons, List.map_nil]); first | done | rfl | (simp only [List.length_drop, List.length_take]; rfl)) ?_; (with_reducible refine (frame_leans.calls a0_0 a0_1 a0_2 _ _ l0_3 a0_4 a0_5 a0_6 a0_7 a0_8 a0_9 _ _ l0_10 false _ ?side1 ?side2 ?side3 ?side4 A4.out).mono ?_); (case side1 => repeat (first | exact (Kd.C_below HR0_3.out HB.out) | (with_reducible refine Kd.C_alloc ?_ _) | (with_reducible refine Kd.C_drewN ?_ _) | (with_reducible refine Kd.C_drew ?_))); (case side2 => exact HC0_3.out); (case side3 => repeat (first | exact (Kd.C_below HR0_10.out HB.out) | (with_reducible refine Kd.C_alloc ?_ _) | (with_reducible refine Kd.C_drewN ?_ _) | (with_reducible refine Kd.C_drew ?_))); (case side4 => exact HC0_10.out); rintro e w13 ⟨rfl, hb⟩; refine ⟨_, rfl, ?_⟩; have n0_ := Aside0.mk (blk_below (g := gb167) (o := .cells #[.int .u8 a0_0, .int .u8 a0_1, .int .u32 a0_2, .slice A0_3 l0_3.length c0_3, .int .i64 a0_4, .int .u32 a0_5, .int .u32 a0_6, .int .u8 a0_7, .bool a0_8, .int .u32 a0_9, .slice A0_10 l0_10.length c0_10] 38 (0, 0)) (by (with_reducible repeat (first | refine blk_drewN ?_ _ | refine blk_drew ?_ | refine blk_alloc ?_ _)); exact BK167.out) hb); have n1_ := Aside0.mk (below_step (by repeat (first | (with_reducible first | exact HB.out | apply below_alloc | apply pw_below_drewN | apply below_drew1 | refine below_set ?_ GE167.out) | exact HB.out)) hb); clear BK167; clear HB; have BK167 := n0_; have HB := n1_; clear n0_ n1_; (try clear hb); (try clear hb2); (try clear hk); (try clear hi); obtain ⟨z14_0, z14_1, z14_2, z14_3, z14_4, z14_5, z14_6, z14_7, z14_8, z14_9, z14_10, y14_0, y14_1, y14_2, y14_3, y14_4, y14_5, y14_6, y14_7, y14_8, y14_9, y14_10⟩ := cf11 BK167.out))
    go_meet
    case rel => exact ⟨_, ((a0_0 == 7)), (by first | rfl | (simp; done) | (simp [*]; done)), H', ⟨by first | omega | exact Nat.le_refl _⟩, ⟨by (with_reducible repeat (first | refine blk_drewN ?_ _ | refine blk_drew ?_ | refine blk_alloc ?_ _)); exact BK167.out⟩, ⟨by repeat (first | (with_reducible first | exact HB.out | apply below_alloc | apply pw_below_drewN | apply below_drew1 | refine below_set ?_ GE167.out) | exact HB.out)⟩⟩
 case rest =>
  clear HC2
  try clear p2
  try clear c4
  try clear c5
  try clear c7
  try clear c8
  try clear c8b0
  try clear c8b1
  try clear z11_0 z11_1 z11_10 z11_2 z11_3 z11_4 z11_5 z11_6 z11_7 z11_8 z11_9 z12_0 z12_1 z12_10 z12_2 z12_3 z12_4 z12_5 z12_6 z12_7 z12_8 z12_9 z14_0 z14_1 z14_10 z14_2 z14_3 z14_4 z14_5 z14_6 z14_7 z14_8 z14_9 z6_0 z6_1 z6_10 z6_2 z6_3 z6_4 z6_5 z6_6 z6_7 z6_8 z6_9 z9_0 z9_1 z9_10 z9_2 z9_3 z9_4 z9_5 z9_6 z9_7 z9_8 z9_9 y11_0 y11_1 y11_10 y11_2 y11_3 y11_4 y11_5 y11_6 y11_7 y11_8 y11_9 y12_0 y12_1 y12_10 y12_2 y12_3 y12_4 y12_5 y12_6 y12_7 y12_8 y12_9 y14_0 y14_1 y14_10 y14_2 y14_3 y14_4 y14_5 y14_6 y14_7 y14_8 y14_9 y6_0 y6_1 y6_10 y6_2 y6_3 y6_4 y6_5 y6_6 y6_7 y6_8 y6_9 y9_0 y9_1 y9_10 y9_2 y9_3 y9_4 y9_5 y9_6 y9_7 y9_8 y9_9
  obtain ⟨kq, x3_1, rfl, HA, HJ1, BK167, HB⟩ := hcut
  cases kq with
  | zero => exact absurd HA.out (by simp [frame_fields.j0])
  | succ kj1 =>
   have H := HA.out
   clear HA
   simp only [frame_fields.j0] at H
   have HC15 := Aside0.mk H
   clear H
   go_upto_region 2 with (fail)
   go_cut [4] (fun v4 wc => ∃ (kq : Nat) (x4_14 : Bool), v4 = .bool x4_14 ∧ Aside0 (frame_fields.j1 kq x3_1 x4_14 a0_0 a0_1 a0_2 l0_3 a0_4 a0_5 a0_6 a0_7 a0_8 a0_9 l0_10 = some r) ∧ Aside0 (kq ≤ kj1) ∧ Aside0 (wc.heap[gb167]? = some (.cells #[.int .u8 a0_0, .int .u8 a0_1, .int .u32 a0_2, (.slice A0_3 l0_3.length c0_3), .int .i64 a0_4, .int .u32 a0_5, .int .u32 a0_6, .int .u8 a0_7, .bool a0_8, .int .u32 a0_9, (.slice A0_10 l0_10.length c0_10)] 38 (0, 0))) ∧ Aside0 (Below w.heap.size w wc))
   case first =>
    have H := HC15.out
    clear HC15
    by_cases c16 : a0_0 = 2
    ·rw [if_pos c16] at H
     have c16b0 : (a0_0 == 2) = true := beq_iff_eq.mpr c16
     have c16b1 : (a0_0 != 2) = false := bne_eq_false_iff_eq.mpr c16
     clear c16
     (first | rw [c16b0] | (simp only [i64_w, i32_w]; rw [c16b0]) | skip)
     have H' := Aside0.mk H
     clear H
     obtain ⟨z17_0, z17_1, z17_2, z17_3, z17_4, z17_5, z17_6, z17_7, z17_8, z17_9, z17_10, y17_0, y17_1, y17_2, y17_3, y17_4, y17_5, y17_6, y17_7, y17_8, y17_9, y17_10⟩ := cf11 BK167.out
     go_wp2
     go_meet
     case rel => exact ⟨_, (false), (by first | rfl | (simp; done) | (simp [*]; done)), H', ⟨by have := HJ1.out; first | omega | exact Nat.le_refl _⟩, ⟨by (with_reducible repeat (first | refine blk_drewN ?_ _ | refine blk_drew ?_ | refine blk_alloc ?_ _)); exact BK167.out⟩, ⟨by repeat (first | (with_reducible first | exact HB.out | apply below_alloc | apply pw_below_drewN | apply below_drew1 | refine below_set ?_ GE167.out) | exact HB.out)⟩⟩
    ·rw [if_neg c16] at H
     have c16b0 : (a0_0 == 2) = false := beq_eq_false_iff_ne.mpr c16
     have c16b1 : (a0_0 != 2) = true := bne_iff_ne.mpr c16
     (first | rw [c16b0] | (simp only [i64_w, i32_w]; rw [c16b0]) | skip)
     by_cases c18 : a0_0 = 3
     ·rw [if_pos c18] at H
      have c18b0 : (a0_0 == 3) = true := beq_iff_eq.mpr c18
      have c18b1 : (a0_0 != 3) = false := bne_eq_false_iff_eq.mpr c18
      clear c18
      have H' := Aside0.mk H
      clear H
      obtain ⟨z19_0, z19_1, z19_2, z19_3, z19_4, z19_5, z19_6, z19_7, z19_8, z19_9, z19_10, y19_0, y19_1, y19_2, y19_3, y19_4, y19_5, y19_6, y19_7, y19_8, y19_9, y19_10⟩ := cf11 BK167.out
      go_wp2
      go_meet
      case rel => exact ⟨_, (false), (by first | rfl | (simp; done) | (simp [*]; done)), H', ⟨by have := HJ1.out; first | omega | exact Nat.le_refl _⟩, ⟨by (with_reducible repeat (first | refine blk_drewN ?_ _ | refine blk_drew ?_ | refine blk_alloc ?_ _)); exact BK167.out⟩, ⟨by repeat (first | (with_reducible first | exact HB.out | apply below_alloc | apply pw_below_drewN | apply below_drew1 | refine below_set ?_ GE167.out) | exact HB.out)⟩⟩
     ·rw [if_neg c18] at H
      have c18b0 : (a0_0 == 3) = false := beq_eq_false_iff_ne.mpr c18
      have c18b1 : (a0_0 != 3) = true := bne_iff_ne.mpr c18
      by_cases c20 : a0_0 = 4
      ·rw [if_pos c20] at H
       have c20b0 : (a0_0 == 4) = true := beq_iff_eq.mpr c20
       have c20b1 : (a0_0 != 4) = false := bne_eq_false_iff_eq.mpr c20
       clear c20
       have H' := Aside0.mk H
       clear H
       obtain ⟨z21_0, z21_1, z21_2, z21_3, z21_4, z21_5, z21_6, z21_7, z21_8, z21_9, z21_10, y21_0, y21_1, y21_2, y21_3, y21_4, y21_5, y21_6, y21_7, y21_8, y21_9, y21_10⟩ := cf11 BK167.out
       go_wp2
       go_meet
       case rel => exact ⟨_, (false), (by first | rfl | (simp; done) | (simp [*]; done)), H', ⟨by have := HJ1.out; first | omega | exact Nat.le_refl _⟩, ⟨by (with_reducible repeat (first | refine blk_drewN ?_ _ | refine blk_drew ?_ | refine blk_alloc ?_ _)); exact BK167.out⟩, ⟨by repeat (first | (with_reducible first | exact HB.out | apply below_alloc | apply pw_below_drewN | apply below_drew1 | refine below_set ?_ GE167.out) | exact HB.out)⟩⟩
      ·rw [if_neg c20] at H
       have c20b0 : (a0_0 == 4) = false := beq_eq_false_iff_ne.mpr c20
       have c20b1 : (a0_0 != 4) = true := bne_iff_ne.mpr c20
       have H' := Aside0.mk H
       clear H
       obtain ⟨z22_0, z22_1, z22_2, z22_3, z22_4, z22_5, z22_6, z22_7, z22_8, z22_9, z22_10, y22_0, y22_1, y22_2, y22_3, y22_4, y22_5, y22_6, y22_7, y22_8, y22_9, y22_10⟩ := cf11 BK167.out
       go_wp2
       go_meet
       case rel => exact ⟨_, ((a0_0 != 8)), (by first | rfl | (simp; done) | (simp [*]; done)), H', ⟨by have := HJ1.out; first | omega | exact Nat.le_refl _⟩, ⟨by (with_reducible repeat (first | refine blk_drewN ?_ _ | refine blk_drew ?_ | refine blk_alloc ?_ _)); exact BK167.out⟩, ⟨by repeat (first | (with_reducible first | exact HB.out | apply below_alloc | apply pw_below_drewN | apply below_drew1 | refine below_set ?_ GE167.out) | exact HB.out)⟩⟩
   case rest =>
    clear HC15
    try clear c1
    try clear c2
    try clear p2
    try clear c4
    try clear c5
    try clear c7
    try clear c8
    try clear c8b0
    try clear c8b1
    try clear c16
    try clear c16b0
    try clear c16b1
    try clear c18
    try clear c18b0
    try clear c18b1
    try clear c20
    try clear c20b0
    try clear c20b1
    try clear z11_0 z11_1 z11_10 z11_2 z11_3 z11_4 z11_5 z11_6 z11_7 z11_8 z11_9 z12_0 z12_1 z12_10 z12_2 z12_3 z12_4 z12_5 z12_6 z12_7 z12_8 z12_9 z14_0 z14_1 z14_10 z14_2 z14_3 z14_4 z14_5 z14_6 z14_7 z14_8 z14_9 z17_0 z17_1 z17_10 z17_2 z17_3 z17_4 z17_5 z17_6 z17_7 z17_8 z17_9 z19_0 z19_1 z19_10 z19_2 z19_3 z19_4 z19_5 z19_6 z19_7 z19_8 z19_9 z21_0 z21_1 z21_10 z21_2 z21_3 z21_4 z21_5 z21_6 z21_7 z21_8 z21_9 z22_0 z22_1 z22_10 z22_2 z22_3 z22_4 z22_5 z22_6 z22_7 z22_8 z22_9 z6_0 z6_1 z6_10 z6_2 z6_3 z6_4 z6_5 z6_6 z6_7 z6_8 z6_9 z9_0 z9_1 z9_10 z9_2 z9_3 z9_4 z9_5 z9_6 z9_7 z9_8 z9_9 y11_0 y11_1 y11_10 y11_2 y11_3 y11_4 y11_5 y11_6 y11_7 y11_8 y11_9 y12_0 y12_1 y12_10 y12_2 y12_3 y12_4 y12_5 y12_6 y12_7 y12_8 y12_9 y14_0 y14_1 y14_10 y14_2 y14_3 y14_4 y14_5 y14_6 y14_7 y14_8 y14_9 y17_0 y17_1 y17_10 y17_2 y17_3 y17_4 y17_5 y17_6 y17_7 y17_8 y17_9 y19_0 y19_1 y19_10 y19_2 y19_3 y19_4 y19_5 y19_6 y19_7 y19_8 y19_9 y21_0 y21_1 y21_10 y21_2 y21_3 y21_4 y21_5 y21_6 y21_7 y21_8 y21_9 y22_0 y22_1 y22_10 y22_2 y22_3 y22_4 y22_5 y22_6 y22_7 y22_8 y22_9 y6_0 y6_1 y6_10 y6_2 y6_3 y6_4 y6_5 y6_6 y6_7 y6_8 y6_9 y9_0 y9_1 y9_10 y9_2 y9_3 y9_4 y9_5 y9_6 y9_7 y9_8 y9_9
    try clear p2
    obtain ⟨kq, x4_14, rfl, HA, HJ14, BK167, HB⟩ := hcut
    cases kq with
    | zero => exact absurd HA.out (by simp [frame_fields.j1])
    | succ kj14 =>
     have H := HA.out
     clear HA
     simp only [frame_fields.j1] at H
     have HC23 := Aside0.mk H
     clear H
     go_upto_region 3 with (fail)
     go_cut [5] (fun v5 wc => ∃ (kq : Nat) (x5_22 : Bool), v5 = .bool x5_22 ∧ Aside0 (frame_fields.j2 kq x3_1 x4_14 x5_22 a0_0 a0_1 a0_2 l0_3 a0_4 a0_5 a0_6 a0_7 a0_8 a0_9 l0_10 = some r) ∧ Aside0 (kq ≤ kj14) ∧ Aside0 (wc.heap[gb167]? = some (.cells #[.int .u8 a0_0, .int .u8 a0_1, .int .u32 a0_2, (.slice A0_3 l0_3.length c0_3), .int .i64 a0_4, .int .u32 a0_5, .int .u32 a0_6, .int .u8 a0_7, .bool a0_8, .int .u32 a0_9, (.slice A0_10 l0_10.length c0_10)] 38 (0, 0))) ∧ Aside0 (Below w.heap.size w wc))
     case first =>
      have H := HC23.out
      clear HC23
      by_cases c24 : a0_0 = 3
      ·rw [if_pos c24] at H
       have c24b0 : (a0_0 == 3) = true := beq_iff_eq.mpr c24
       have c24b1 : (a0_0 != 3) = false := bne_eq_false_iff_eq.mpr c24
       clear c24
       (first | rw [c24b0] | (simp only [i64_w, i32_w]; rw [c24b0]) | skip)
       have H' := Aside0.mk H
       clear H
       obtain ⟨z25_0, z25_1, z25_2, z25_3, z25_4, z25_5, z25_6, z25_7, z25_8, z25_9, z25_10, y25_0, y25_1, y25_2, y25_3, y25_4, y25_5, y25_6, y25_7, y25_8, y25_9, y25_10⟩ := cf11 BK167.out
       go_wp2
       go_meet
       case rel => exact ⟨_, (true), (by first | rfl | (simp; done) | (simp [*]; done)), H', ⟨by have := HJ1.out; have := HJ14.out; first | omega | exact Nat.le_refl _⟩, ⟨by (with_reducible repeat (first | refine blk_drewN ?_ _ | refine blk_drew ?_ | refine blk_alloc ?_ _)); exact BK167.out⟩, ⟨by repeat (first | (with_reducible first | exact HB.out | apply below_alloc | apply pw_below_drewN | apply below_drew1 | refine below_set ?_ GE167.out) | exact HB.out)⟩⟩
      ·rw [if_neg c24] at H
       have c24b0 : (a0_0 == 3) = false := beq_eq_false_iff_ne.mpr c24
       have c24b1 : (a0_0 != 3) = true := bne_iff_ne.mpr c24
       (first | rw [c24b0] | (simp only [i64_w, i32_w]; rw [c24b0]) | skip)
       have H' := Aside0.mk H
       clear H
       obtain ⟨z26_0, z26_1, z26_2, z26_3, z26_4, z26_5, z26_6, z26_7, z26_8, z26_9, z26_10, y26_0, y26_1, y26_2, y26_3, y26_4, y26_5, y26_6, y26_7, y26_8, y26_9, y26_10⟩ := cf11 BK167.out
       go_wp2
       go_meet
       case rel => exact ⟨_, ((a0_0 == 7)), (by first | rfl | (simp; done) | (simp [*]; done)), H', ⟨by have := HJ1.out; have := HJ14.out; first | omega | exact Nat.le_refl _⟩, ⟨by (with_reducible repeat (first | refine blk_drewN ?_ _ | refine blk_drew ?_ | refine blk_alloc ?_ _)); exact BK167.out⟩, ⟨by repeat (first | (with_reducible first | exact HB.out | apply below_alloc | apply pw_below_drewN | apply below_drew1 | refine below_set ?_ GE167.out) | exact HB.out)⟩⟩
     case rest =>
      clear HC23
      try clear c1
      try clear c2
      try clear p2
      try clear c4
      try clear c5
      try clear c7
      try clear c8
      try clear c8b0
      try clear c8b1
      try clear c16
      try clear c16b0
      try clear c16b1
      try clear c18
      try clear c18b0
      try clear c18b1
      try clear c20
      try clear c20b0
      try clear c20b1
      try clear c24
      try clear c24b0
      try clear c24b1
      try clear z11_0 z11_1 z11_10 z11_2 z11_3 z11_4 z11_5 z11_6 z11_7 z11_8 z11_9 z12_0 z12_1 z12_10 z12_2 z12_3 z12_4 z12_5 z12_6 z12_7 z12_8 z12_9 z14_0 z14_1 z14_10 z14_2 z14_3 z14_4 z14_5 z14_6 z14_7 z14_8 z14_9 z17_0 z17_1 z17_10 z17_2 z17_3 z17_4 z17_5 z17_6 z17_7 z17_8 z17_9 z19_0 z19_1 z19_10 z19_2 z19_3 z19_4 z19_5 z19_6 z19_7 z19_8 z19_9 z21_0 z21_1 z21_10 z21_2 z21_3 z21_4 z21_5 z21_6 z21_7 z21_8 z21_9 z22_0 z22_1 z22_10 z22_2 z22_3 z22_4 z22_5 z22_6 z22_7 z22_8 z22_9 z25_0 z25_1 z25_10 z25_2 z25_3 z25_4 z25_5 z25_6 z25_7 z25_8 z25_9 z26_0 z26_1 z26_10 z26_2 z26_3 z26_4 z26_5 z26_6 z26_7 z26_8 z26_9 z6_0 z6_1 z6_10 z6_2 z6_3 z6_4 z6_5 z6_6 z6_7 z6_8 z6_9 z9_0 z9_1 z9_10 z9_2 z9_3 z9_4 z9_5 z9_6 z9_7 z9_8 z9_9 y11_0 y11_1 y11_10 y11_2 y11_3 y11_4 y11_5 y11_6 y11_7 y11_8 y11_9 y12_0 y12_1 y12_10 y12_2 y12_3 y12_4 y12_5 y12_6 y12_7 y12_8 y12_9 y14_0 y14_1 y14_10 y14_2 y14_3 y14_4 y14_5 y14_6 y14_7 y14_8 y14_9 y17_0 y17_1 y17_10 y17_2 y17_3 y17_4 y17_5 y17_6 y17_7 y17_8 y17_9 y19_0 y19_1 y19_10 y19_2 y19_3 y19_4 y19_5 y19_6 y19_7 y19_8 y19_9 y21_0 y21_1 y21_10 y21_2 y21_3 y21_4 y21_5 y21_6 y21_7 y21_8 y21_9 y22_0 y22_1 y22_10 y22_2 y22_3 y22_4 y22_5 y22_6 y22_7 y22_8 y22_9 y25_0 y25_1 y25_10 y25_2 y25_3 y25_4 y25_5 y25_6 y25_7 y25_8 y25_9 y26_0 y26_1 y26_10 y26_2 y26_3 y26_4 y26_5 y26_6 y26_7 y26_8 y26_9 y6_0 y6_1 y6_10 y6_2 y6_3 y6_4 y6_5 y6_6 y6_7 y6_8 y6_9 y9_0 y9_1 y9_10 y9_2 y9_3 y9_4 y9_5 y9_6 y9_7 y9_8 y9_9
      try clear p2
      obtain ⟨kq, x5_22, rfl, HA, HJ22, BK167, HB⟩ := hcut
      cases kq with
      | zero => exact absurd HA.out (by simp [frame_fields.j2])
      | succ kj22 =>
       have H := HA.out
       clear HA
       simp only [frame_fields.j2] at H
       have HC27 := Aside0.mk H
       clear H
       go_upto_region 4 with (fail)
       go_cut [44] (fun v44 wc => ∃ (kq : Nat) (x44_26 : Bool), v44 = .bool x44_26 ∧ Aside0 (frame_fields.j3 kq x3_1 x4_14 x5_22 x44_26 a0_0 a0_1 a0_2 l0_3 a0_4 a0_5 a0_6 a0_7 a0_8 a0_9 l0_10 = some r) ∧ Aside0 (kq ≤ kj22) ∧ Aside0 (wc.heap[gb167]? = some (.cells #[.int .u8 a0_0, .int .u8 a0_1, .int .u32 a0_2, (.slice A0_3 l0_3.length c0_3), .int .i64 a0_4, .int .u32 a0_5, .int .u32 a0_6, .int .u8 a0_7, .bool a0_8, .int .u32 a0_9, (.slice A0_10 l0_10.length c0_10)] 38 (0, 0))) ∧ Aside0 (Below w.heap.size w wc))
       case first =>
        have H := HC27.out
        clear HC27
        replace H := Option.bind_eq_some_iff.mp H
        obtain ⟨t169, A280, H⟩ := H
        replace H : (if t169 = true then (frame_fields.j3 kj22 x3_1 x4_14 x5_22 false a0_0 a0_1 a0_2 l0_3 a0_4 a0_5 a0_6 a0_7 a0_8 a0_9 l0_10) else (if a0_7 = 0 then (frame_fields.j3 kj22 x3_1 x4_14 x5_22 a0_8 a0_0 a0_1 a0_2 l0_3 a0_4 a0_5 a0_6 a0_7 a0_8 a0_9 l0_10) else (frame_fields.j3 kj22 x3_1 x4_14 x5_22 true a0_0 a0_1 a0_2 l0_3 a0_4 a0_5 a0_6 a0_7 a0_8 a0_9 l0_10))) = some r := H
        have A28 := Aside0.mk A280
        clear A280
        by_cases c29 : t169 = true
        ·subst c29
         have H1 : (frame_fields.j3 kj22 x3_1 x4_14 x5_22 false a0_0 a0_1 a0_2 l0_3 a0_4 a0_5 a0_6 a0_7 a0_8 a0_9 l0_10) = some r := by rw [if_pos rfl] at H; exact H
         clear H
         have H := H1
         clear H1
         have H' := Aside0.mk H
         clear H
         obtain ⟨z30_0, z30_1, z30_2, z30_3, z30_4, z30_5, z30_6, z30_7, z30_8, z30_9, z30_10, y30_0, y30_1, y30_2, y30_3, y30_4, y30_5, y30_6, y30_7, y30_8, y30_9, y30_10⟩ := cf11 BK167.out
         go_wp2_with (first | ((with_reducible refine gate_callee (f := 74) rfl ?_); refine goesL_ (some 46) rfl rfl Tryd.func74 (by kernel_rfl) rfl #[.agg #[.int .u8 a0_0, .int .u8 a0_1, .int .u32 a0_2, .slice A0_3 l0_3.length c0_3, .int .i64 a0_4, .int .u32 a0_5, .int .u32 a0_6, .int .u8 a0_7, .bool a0_8, .int .u32 a0_9, .slice A0_10 l0_10.length c0_10]] rfl (by (try simp only [List.map_toArray, List.map_cons, List.map_nil]); first | done | rfl | (simp only [List.length_drop, List.length_take]; rfl)) ?_; (with_reducible refine (frame_leans.calls a0_0 a0_1 a0_2 _ _ l0_3 a0_4 a0_5 a0_6 a0_7 a0_8 a0_9 _ _ l0_10 true _ ?side1 ?side2 ?side3 ?side4 A28.out).mono ?_); (case side1 => repeat (first | exact (Kd.C_below HR0_3.out HB.out) | (with_reducible refine Kd.C_alloc ?_ _) | (with_reducible refine Kd.C_drewN ?_ _) | (with_reducible refine Kd.C_drew ?_))); (case side2 => exact HC0_3.out); (case side3 => repeat (first | exact (Kd.C_below HR0_10.out HB.out) | (with_reducible refine Kd.C_alloc ?_ _) | (with_reducible refine Kd.C_drewN ?_ _) | (with_reducible refine Kd.C_drew ?_))); (case side4 => exact HC0_10.out); rintro e w31 ⟨rfl, hb⟩; refine ⟨_, rfl, ?_⟩; have n0_ := Aside0.mk (blk_below (g := gb167) (o := .cells #[.int .u8 a0_0, .int .u8 a0_1, .int .u32 a0_2, .slice A0_3 l0_3.length c0_3, .int .i64 a0_4, .int .u32 a0_5, .int .u32 a0_6, .int .u8 a0_7, .bool a0_8, .int .u32 a0_9, .slice A0_10 l0_10.length c0_10] 38 (0, 0)) (by (with_reducible repeat (first | refine blk_drewN ?_ _ | refine blk_drew ?_ | refine blk_alloc ?_ _)); exact BK167.out) hb); have n1_ := Aside0.mk (below_step (by repeat (first | (with_reducible first | exact HB.out | apply below_alloc | apply pw_below_drewN | apply below_drew1 | refine below_set ?_ GE167.out) | exact HB.out)) hb); clear BK167; clear HB; have BK167 := n0_; have HB := n1_; clear n0_ n1_; (try clear hb); (try clear hb2); (try clear hk); (try clear hi)))
         go_meet
         case rel => exact ⟨_, (false), (by first | rfl | (simp; done) | (simp [*]; done)), H', ⟨by have := HJ1.out; have := HJ14.out; have := HJ22.out; first | omega | exact Nat.le_refl _⟩, ⟨by (with_reducible repeat (first | refine blk_drewN ?_ _ | refine blk_drew ?_ | refine blk_alloc ?_ _)); exact BK167.out⟩, ⟨by repeat (first | (with_reducible first | exact HB.out | apply below_alloc | apply pw_below_drewN | apply below_drew1 | refine below_set ?_ GE167.out) | exact HB.out)⟩⟩
        ·replace c29 := Bool.eq_false_iff.mpr c29
         subst c29
         have H1 : (if a0_7 = 0 then (frame_fields.j3 kj22 x3_1 x4_14 x5_22 a0_8 a0_0 a0_1 a0_2 l0_3 a0_4 a0_5 a0_6 a0_7 a0_8 a0_9 l0_10) else (frame_fields.j3 kj22 x3_1 x4_14 x5_22 true a0_0 a0_1 a0_2 l0_3 a0_4 a0_5 a0_6 a0_7 a0_8 a0_9 l0_10)) = some r := by rw [if_neg (show ¬ (false = true) by decide)] at H; exact H
         clear H
         have H := H1
         clear H1
         by_cases c32 : a0_7 = 0
         ·rw [if_pos c32] at H
          have c32b0 : (a0_7 == 0) = true := beq_iff_eq.mpr c32
          have c32b1 : (a0_7 != 0) = false := bne_eq_false_iff_eq.mpr c32
          clear c32
          (first | rw [c32b0] | (simp only [i64_w, i32_w]; rw [c32b0]) | skip)
          have H' := Aside0.mk H
          clear H
          obtain ⟨z33_0, z33_1, z33_2, z33_3, z33_4, z33_5, z33_6, z33_7, z33_8, z33_9, z33_10, y33_0, y33_1, y33_2, y33_3, y33_4, y33_5, y33_6, y33_7, y33_8, y33_9, y33_10⟩ := cf11 BK167.out
          go_wp2_with (first | ((with_reducible refine gate_callee (f := 74) rfl ?_); refine goesL_ (some 46) rfl rfl Tryd.func74 (by kernel_rfl) rfl #[.agg #[.int .u8 a0_0, .int .u8 a0_1, .int .u32 a0_2, .slice A0_3 l0_3.length c0_3, .int .i64 a0_4, .int .u32 a0_5, .int .u32 a0_6, .int .u8 a0_7, .bool a0_8, .int .u32 a0_9, .slice A0_10 l0_10.length c0_10]] rfl (by (try simp only [List.map_toArray, List.map_cons, List.map_nil]); first | done | rfl | (simp only [List.length_drop, List.length_take]; rfl)) ?_; (with_reducible refine (frame_leans.calls a0_0 a0_1 a0_2 _ _ l0_3 a0_4 a0_5 a0_6 a0_7 a0_8 a0_9 _ _ l0_10 false _ ?side1 ?side2 ?side3 ?side4 A28.out).mono ?_); (case side1 => repeat (first | exact (Kd.C_below HR0_3.out HB.out) | (with_reducible refine Kd.C_alloc ?_ _) | (with_reducible refine Kd.C_drewN ?_ _) | (with_reducible refine Kd.C_drew ?_))); (case side2 => exact HC0_3.out); (case side3 => repeat (first | exact (Kd.C_below HR0_10.out HB.out) | (with_reducible refine Kd.C_alloc ?_ _) | (with_reducible refine Kd.C_drewN ?_ _) | (with_reducible refine Kd.C_drew ?_))); (case side4 => exact HC0_10.out); rintro e w34 ⟨rfl, hb⟩; refine ⟨_, rfl, ?_⟩; have n0_ := Aside0.mk (blk_below (g := gb167) (o := .cells #[.int .u8 a0_0, .int .u8 a0_1, .int .u32 a0_2, .slice A0_3 l0_3.length c0_3, .int .i64 a0_4, .int .u32 a0_5, .int .u32 a0_6, .int .u8 a0_7, .bool a0_8, .int .u32 a0_9, .slice A0_10 l0_10.length c0_10] 38 (0, 0)) (by (with_reducible repeat (first | refine blk_drewN ?_ _ | refine blk_drew ?_ | refine blk_alloc ?_ _)); exact BK167.out) hb); have n1_ := Aside0.mk (below_step (by repeat (first | (with_reducible first | exact HB.out | apply below_alloc | apply pw_below_drewN | apply below_drew1 | refine below_set ?_ GE167.out) | exact HB.out)) hb); clear BK167; clear HB; have BK167 := n0_; have HB := n1_; clear n0_ n1_; (try clear hb); (try clear hb2); (try clear hk); (try clear hi); obtain ⟨z35_0, z35_1, z35_2, z35_3, z35_4, z35_5, z35_6, z35_7, z35_8, z35_9, z35_10, y35_0, y35_1, y35_2, y35_3, y35_4, y35_5, y35_6, y35_7, y35_8, y35_9, y35_10⟩ := cf11 BK167.out))
          go_meet
          case rel => exact ⟨_, (a0_8), (by first | rfl | (simp; done) | (simp [*]; done)), H', ⟨by have := HJ1.out; have := HJ14.out; have := HJ22.out; first | omega | exact Nat.le_refl _⟩, ⟨by (with_reducible repeat (first | refine blk_drewN ?_ _ | refine blk_drew ?_ | refine blk_alloc ?_ _)); exact BK167.out⟩, ⟨by repeat (first | (with_reducible first | exact HB.out | apply below_alloc | apply pw_below_drewN | apply below_drew1 | refine below_set ?_ GE167.out) | exact HB.out)⟩⟩
         ·rw [if_neg c32] at H
          have c32b0 : (a0_7 == 0) = false := beq_eq_false_iff_ne.mpr c32
          have c32b1 : (a0_7 != 0) = true := bne_iff_ne.mpr c32
          (first | rw [c32b0] | (simp only [i64_w, i32_w]; rw [c32b0]) | skip)
          have H' := Aside0.mk H
          clear H
          obtain ⟨z36_0, z36_1, z36_2, z36_3, z36_4, z36_5, z36_6, z36_7, z36_8, z36_9, z36_10, y36_0, y36_1, y36_2, y36_3, y36_4, y36_5, y36_6, y36_7, y36_8, y36_9, y36_10⟩ := cf11 BK167.out
          go_wp2_with (first | ((with_reducible refine gate_callee (f := 74) rfl ?_); refine goesL_ (some 46) rfl rfl Tryd.func74 (by kernel_rfl) rfl #[.agg #[.int .u8 a0_0, .int .u8 a0_1, .int .u32 a0_2, .slice A0_3 l0_3.length c0_3, .int .i64 a0_4, .int .u32 a0_5, .int .u32 a0_6, .int .u8 a0_7, .bool a0_8, .int .u32 a0_9, .slice A0_10 l0_10.length c0_10]] rfl (by (try simp only [List.map_toArray, List.map_cons, List.map_nil]); first | done | rfl | (simp only [List.length_drop, List.length_take]; rfl)) ?_; (with_reducible refine (frame_leans.calls a0_0 a0_1 a0_2 _ _ l0_3 a0_4 a0_5 a0_6 a0_7 a0_8 a0_9 _ _ l0_10 false _ ?side1 ?side2 ?side3 ?side4 A28.out).mono ?_); (case side1 => repeat (first | exact (Kd.C_below HR0_3.out HB.out) | (with_reducible refine Kd.C_alloc ?_ _) | (with_reducible refine Kd.C_drewN ?_ _) | (with_reducible refine Kd.C_drew ?_))); (case side2 => exact HC0_3.out); (case side3 => repeat (first | exact (Kd.C_below HR0_10.out HB.out) | (with_reducible refine Kd.C_alloc ?_ _) | (with_reducible refine Kd.C_drewN ?_ _) | (with_reducible refine Kd.C_drew ?_))); (case side4 => exact HC0_10.out); rintro e w37 ⟨rfl, hb⟩; refine ⟨_, rfl, ?_⟩; have n0_ := Aside0.mk (blk_below (g := gb167) (o := .cells #[.int .u8 a0_0, .int .u8 a0_1, .int .u32 a0_2, .slice A0_3 l0_3.length c0_3, .int .i64 a0_4, .int .u32 a0_5, .int .u32 a0_6, .int .u8 a0_7, .bool a0_8, .int .u32 a0_9, .slice A0_10 l0_10.length c0_10] 38 (0, 0)) (by (with_reducible repeat (first | refine blk_drewN ?_ _ | refine blk_drew ?_ | refine blk_alloc ?_ _)); exact BK167.out) hb); have n1_ := Aside0.mk (below_step (by repeat (first | (with_reducible first | exact HB.out | apply below_alloc | apply pw_below_drewN | apply below_drew1 | refine below_set ?_ GE167.out) | exact HB.out)) hb); clear BK167; clear HB; have BK167 := n0_; have HB := n1_; clear n0_ n1_; (try clear hb); (try clear hb2); (try clear hk); (try clear hi); obtain ⟨z38_0, z38_1, z38_2, z38_3, z38_4, z38_5, z38_6, z38_7, z38_8, z38_9, z38_10, y38_0, y38_1, y38_2, y38_3, y38_4, y38_5, y38_6, y38_7, y38_8, y38_9, y38_10⟩ := cf11 BK167.out))
          go_meet
          case rel => exact ⟨_, (true), (by first | rfl | (simp; done) | (simp [*]; done)), H', ⟨by have := HJ1.out; have := HJ14.out; have := HJ22.out; first | omega | exact Nat.le_refl _⟩, ⟨by (with_reducible repeat (first | refine blk_drewN ?_ _ | refine blk_drew ?_ | refine blk_alloc ?_ _)); exact BK167.out⟩, ⟨by repeat (first | (with_reducible first | exact HB.out | apply below_alloc | apply pw_below_drewN | apply below_drew1 | refine below_set ?_ GE167.out) | exact HB.out)⟩⟩
       case rest =>
        clear HC27
        try clear c1
        try clear c2
        try clear p2
        try clear c3
        try clear c4
        try clear c5
        try clear c7
        try clear c8
        try clear c8b0
        try clear c8b1
        try clear c16
        try clear c16b0
        try clear c16b1
        try clear c18
        try clear c18b0
        try clear c18b1
        try clear c20
        try clear c20b0
        try clear c20b1
        try clear c24
        try clear c24b0
        try clear c24b1
        try clear c29
        try clear c32
        try clear c32b0
        try clear c32b1
        try clear z11_0 z11_1 z11_10 z11_2 z11_3 z11_4 z11_5 z11_6 z11_7 z11_8 z11_9 z12_0 z12_1 z12_10 z12_2 z12_3 z12_4 z12_5 z12_6 z12_7 z12_8 z12_9 z14_0 z14_1 z14_10 z14_2 z14_3 z14_4 z14_5 z14_6 z14_7 z14_8 z14_9 z17_0 z17_1 z17_10 z17_2 z17_3 z17_4 z17_5 z17_6 z17_7 z17_8 z17_9 z19_0 z19_1 z19_10 z19_2 z19_3 z19_4 z19_5 z19_6 z19_7 z19_8 z19_9 z21_0 z21_1 z21_10 z21_2 z21_3 z21_4 z21_5 z21_6 z21_7 z21_8 z21_9 z22_0 z22_1 z22_10 z22_2 z22_3 z22_4 z22_5 z22_6 z22_7 z22_8 z22_9 z25_0 z25_1 z25_10 z25_2 z25_3 z25_4 z25_5 z25_6 z25_7 z25_8 z25_9 z26_0 z26_1 z26_10 z26_2 z26_3 z26_4 z26_5 z26_6 z26_7 z26_8 z26_9 z30_0 z30_1 z30_10 z30_2 z30_3 z30_4 z30_5 z30_6 z30_7 z30_8 z30_9 z33_0 z33_1 z33_10 z33_2 z33_3 z33_4 z33_5 z33_6 z33_7 z33_8 z33_9 z35_0 z35_1 z35_10 z35_2 z35_3 z35_4 z35_5 z35_6 z35_7 z35_8 z35_9 z36_0 z36_1 z36_10 z36_2 z36_3 z36_4 z36_5 z36_6 z36_7 z36_8 z36_9 z38_0 z38_1 z38_10 z38_2 z38_3 z38_4 z38_5 z38_6 z38_7 z38_8 z38_9 z6_0 z6_1 z6_10 z6_2 z6_3 z6_4 z6_5 z6_6 z6_7 z6_8 z6_9 z9_0 z9_1 z9_10 z9_2 z9_3 z9_4 z9_5 z9_6 z9_7 z9_8 z9_9 y11_0 y11_1 y11_10 y11_2 y11_3 y11_4 y11_5 y11_6 y11_7 y11_8 y11_9 y12_0 y12_1 y12_10 y12_2 y12_3 y12_4 y12_5 y12_6 y12_7 y12_8 y12_9 y14_0 y14_1 y14_10 y14_2 y14_3 y14_4 y14_5 y14_6 y14_7 y14_8 y14_9 y17_0 y17_1 y17_10 y17_2 y17_3 y17_4 y17_5 y17_6 y17_7 y17_8 y17_9 y19_0 y19_1 y19_10 y19_2 y19_3 y19_4 y19_5 y19_6 y19_7 y19_8 y19_9 y21_0 y21_1 y21_10 y21_2 y21_3 y21_4 y21_5 y21_6 y21_7 y21_8 y21_9 y22_0 y22_1 y22_10 y22_2 y22_3 y22_4 y22_5 y22_6 y22_7 y22_8 y22_9 y25_0 y25_1 y25_10 y25_2 y25_3 y25_4 y25_5 y25_6 y25_7 y25_8 y25_9 y26_0 y26_1 y26_10 y26_2 y26_3 y26_4 y26_5 y26_6 y26_7 y26_8 y26_9 y30_0 y30_1 y30_10 y30_2 y30_3 y30_4 y30_5 y30_6 y30_7 y30_8 y30_9 y33_0 y33_1 y33_10 y33_2 y33_3 y33_4 y33_5 y33_6 y33_7 y33_8 y33_9 y35_0 y35_1 y35_10 y35_2 y35_3 y35_4 y35_5 y35_6 y35_7 y35_8 y35_9 y36_0 y36_1 y36_10 y36_2 y36_3 y36_4 y36_5 y36_6 y36_7 y36_8 y36_9 y38_0 y38_1 y38_10 y38_2 y38_3 y38_4 y38_5 y38_6 y38_7 y38_8 y38_9 y6_0 y6_1 y6_10 y6_2 y6_3 y6_4 y6_5 y6_6 y6_7 y6_8 y6_9 y9_0 y9_1 y9_10 y9_2 y9_3 y9_4 y9_5 y9_6 y9_7 y9_8 y9_9
        try clear p2
        obtain ⟨kq, x44_26, rfl, HA, HJ26, BK167, HB⟩ := hcut
        cases kq with
        | zero => exact absurd HA.out (by simp [frame_fields.j3])
        | succ kj26 =>
         have H := HA.out
         clear HA
         simp only [frame_fields.j3] at H
         have HC39 := Aside0.mk H
         clear H
         go_upto_if 44 with (fail)
         go_cut [44] (fun v44 wc => ∃ (kq : Nat) (x44_38 : Bool), v44 = .bool x44_38 ∧ Aside0 (frame_fields.j4 kq x4_14 x44_38 a0_0 a0_1 a0_2 l0_3 a0_4 a0_5 a0_6 a0_7 a0_8 a0_9 l0_10 = some r) ∧ Aside0 (kq ≤ kj26) ∧ Aside0 (wc.heap[gb167]? = some (.cells #[.int .u8 a0_0, .int .u8 a0_1, .int .u32 a0_2, (.slice A0_3 l0_3.length c0_3), .int .i64 a0_4, .int .u32 a0_5, .int .u32 a0_6, .int .u8 a0_7, .bool a0_8, .int .u32 a0_9, (.slice A0_10 l0_10.length c0_10)] 38 (0, 0))) ∧ Aside0 (Below w.heap.size w wc))
         case first =>
          have H := HC39.out
          clear HC39
          by_cases c40 : x44_26 = true
          ·subst c40
           have H1 : (frame_fields.j4 kj26 x4_14 true a0_0 a0_1 a0_2 l0_3 a0_4 a0_5 a0_6 a0_7 a0_8 a0_9 l0_10) = some r := by rw [if_pos rfl] at H; exact H
           clear H
           have H := H1
           clear H1
           have H' := Aside0.mk H
           clear H
           go_wp2
           go_meet
           case rel => exact ⟨_, (true), (by first | rfl | (simp; done) | (simp [*]; done)), H', ⟨by have := HJ1.out; have := HJ14.out; have := HJ22.out; have := HJ26.out; first | omega | exact Nat.le_refl _⟩, ⟨by (with_reducible repeat (first | refine blk_drewN ?_ _ | refine blk_drew ?_ | refine blk_alloc ?_ _)); exact BK167.out⟩, ⟨by repeat (first | (with_reducible first | exact HB.out | apply below_alloc | apply pw_below_drewN | apply below_drew1 | refine below_set ?_ GE167.out) | exact HB.out)⟩⟩
          ·replace c40 := Bool.eq_false_iff.mpr c40
           subst c40
           have H1 : (if x3_1 = true then (if x5_22 = true then (frame_fields.j4 kj26 x4_14 false a0_0 a0_1 a0_2 l0_3 a0_4 a0_5 a0_6 a0_7 a0_8 a0_9 l0_10) else (frame_fields.j4 kj26 x4_14 (a0_5 != 0) a0_0 a0_1 a0_2 l0_3 a0_4 a0_5 a0_6 a0_7 a0_8 a0_9 l0_10)) else (if a0_6 = 0 then (if x5_22 = true then (frame_fields.j4 kj26 x4_14 false a0_0 a0_1 a0_2 l0_3 a0_4 a0_5 a0_6 a0_7 a0_8 a0_9 l0_10) else (frame_fields.j4 kj26 x4_14 (a0_5 != 0) a0_0 a0_1 a0_2 l0_3 a0_4 a0_5 a0_6 a0_7 a0_8 a0_9 l0_10)) else (frame_fields.j4 kj26 x4_14 (a0_6 != 0) a0_0 a0_1 a0_2 l0_3 a0_4 a0_5 a0_6 a0_7 a0_8 a0_9 l0_10))) = some r := by rw [if_neg (show ¬ (false = true) by decide)] at H; exact H
           clear H
           have H := H1
           clear H1
           by_cases c41 : x3_1 = true
           ·subst c41
            have H1 : (if x5_22 = true then (frame_fields.j4 kj26 x4_14 false a0_0 a0_1 a0_2 l0_3 a0_4 a0_5 a0_6 a0_7 a0_8 a0_9 l0_10) else (frame_fields.j4 kj26 x4_14 (a0_5 != 0) a0_0 a0_1 a0_2 l0_3 a0_4 a0_5 a0_6 a0_7 a0_8 a0_9 l0_10)) = some r := by rw [if_pos rfl] at H; exact H
            clear H
            have H := H1
            clear H1
            by_cases c42 : x5_22 = true
            ·subst c42
             have H1 : (frame_fields.j4 kj26 x4_14 false a0_0 a0_1 a0_2 l0_3 a0_4 a0_5 a0_6 a0_7 a0_8 a0_9 l0_10) = some r := by rw [if_pos rfl] at H; exact H
             clear H
             have H := H1
             clear H1
             have H' := Aside0.mk H
             clear H
             go_wp2
             go_meet
             case rel => exact ⟨_, (false), (by first | rfl | (simp; done) | (simp [*]; done)), H', ⟨by have := HJ1.out; have := HJ14.out; have := HJ22.out; have := HJ26.out; first | omega | exact Nat.le_refl _⟩, ⟨by (with_reducible repeat (first | refine blk_drewN ?_ _ | refine blk_drew ?_ | refine blk_alloc ?_ _)); exact BK167.out⟩, ⟨by repeat (first | (with_reducible first | exact HB.out | apply below_alloc | apply pw_below_drewN | apply below_drew1 | refine below_set ?_ GE167.out) | exact HB.out)⟩⟩
            ·replace c42 := Bool.eq_false_iff.mpr c42
             subst c42
             have H1 : (frame_fields.j4 kj26 x4_14 (a0_5 != 0) a0_0 a0_1 a0_2 l0_3 a0_4 a0_5 a0_6 a0_7 a0_8 a0_9 l0_10) = some r := by rw [if_neg (show ¬ (false = true) by decide)] at H; exact H
             clear H
             have H := H1
             clear H1
             have H' := Aside0.mk H
             clear H
             obtain ⟨z43_0, z43_1, z43_2, z43_3, z43_4, z43_5, z43_6, z43_7, z43_8, z43_9, z43_10, y43_0, y43_1, y43_2, y43_3, y43_4, y43_5, y43_6, y43_7, y43_8, y43_9, y43_10⟩ := cf11 BK167.out
             go_wp2
             go_meet
             case rel => exact ⟨_, ((a0_5 != 0)), (by first | rfl | (simp; done) | (simp [*]; done)), H', ⟨by have := HJ1.out; have := HJ14.out; have := HJ22.out; have := HJ26.out; first | omega | exact Nat.le_refl _⟩, ⟨by (with_reducible repeat (first | refine blk_drewN ?_ _ | refine blk_drew ?_ | refine blk_alloc ?_ _)); exact BK167.out⟩, ⟨by repeat (first | (with_reducible first | exact HB.out | apply below_alloc | apply pw_below_drewN | apply below_drew1 | refine below_set ?_ GE167.out) | exact HB.out)⟩⟩
           ·replace c41 := Bool.eq_false_iff.mpr c41
            subst c41
            have H1 : (if a0_6 = 0 then (if x5_22 = true then (frame_fields.j4 kj26 x4_14 false a0_0 a0_1 a0_2 l0_3 a0_4 a0_5 a0_6 a0_7 a0_8 a0_9 l0_10) else (frame_fields.j4 kj26 x4_14 (a0_5 != 0) a0_0 a0_1 a0_2 l0_3 a0_4 a0_5 a0_6 a0_7 a0_8 a0_9 l0_10)) else (frame_fields.j4 kj26 x4_14 (a0_6 != 0) a0_0 a0_1 a0_2 l0_3 a0_4 a0_5 a0_6 a0_7 a0_8 a0_9 l0_10)) = some r := by rw [if_neg (show ¬ (false = true) by decide)] at H; exact H
            clear H
            have H := H1
            clear H1
            by_cases c44 : a0_6 = 0
            ·rw [if_pos c44] at H
             have c44b0 : (a0_6 == 0) = true := beq_iff_eq.mpr c44
             have c44b1 : (a0_6 != 0) = false := bne_eq_false_iff_eq.mpr c44
             clear c44
             (first | rw [c44b0] | (simp only [i64_w, i32_w]; rw [c44b0]) | skip)
             by_cases c45 : x5_22 = true
             ·subst c45
              have H1 : (frame_fields.j4 kj26 x4_14 false a0_0 a0_1 a0_2 l0_3 a0_4 a0_5 a0_6 a0_7 a0_8 a0_9 l0_10) = some r := by rw [if_pos rfl] at H; exact H
              clear H
              have H := H1
              clear H1
              have H' := Aside0.mk H
              clear H
              obtain ⟨z46_0, z46_1, z46_2, z46_3, z46_4, z46_5, z46_6, z46_7, z46_8, z46_9, z46_10, y46_0, y46_1, y46_2, y46_3, y46_4, y46_5, y46_6, y46_7, y46_8, y46_9, y46_10⟩ := cf11 BK167.out
              go_wp2
              go_meet
              case rel => exact ⟨_, (false), (by first | rfl | (simp; done) | (simp [*]; done)), H', ⟨by have := HJ1.out; have := HJ14.out; have := HJ22.out; have := HJ26.out; first | omega | exact Nat.le_refl _⟩, ⟨by (with_reducible repeat (first | refine blk_drewN ?_ _ | refine blk_drew ?_ | refine blk_alloc ?_ _)); exact BK167.out⟩, ⟨by repeat (first | (with_reducible first | exact HB.out | apply below_alloc | apply pw_below_drewN | apply below_drew1 | refine below_set ?_ GE167.out) | exact HB.out)⟩⟩
             ·replace c45 := Bool.eq_false_iff.mpr c45
              subst c45
              have H1 : (frame_fields.j4 kj26 x4_14 (a0_5 != 0) a0_0 a0_1 a0_2 l0_3 a0_4 a0_5 a0_6 a0_7 a0_8 a0_9 l0_10) = some r := by rw [if_neg (show ¬ (false = true) by decide)] at H; exact H
              clear H
              have H := H1
              clear H1
              have H' := Aside0.mk H
              clear H
              obtain ⟨z47_0, z47_1, z47_2, z47_3, z47_4, z47_5, z47_6, z47_7, z47_8, z47_9, z47_10, y47_0, y47_1, y47_2, y47_3, y47_4, y47_5, y47_6, y47_7, y47_8, y47_9, y47_10⟩ := cf11 BK167.out
              go_wp2
              go_meet
              case rel => exact ⟨_, ((a0_5 != 0)), (by first | rfl | (simp; done) | (simp [*]; done)), H', ⟨by have := HJ1.out; have := HJ14.out; have := HJ22.out; have := HJ26.out; first | omega | exact Nat.le_refl _⟩, ⟨by (with_reducible repeat (first | refine blk_drewN ?_ _ | refine blk_drew ?_ | refine blk_alloc ?_ _)); exact BK167.out⟩, ⟨by repeat (first | (with_reducible first | exact HB.out | apply below_alloc | apply pw_below_drewN | apply below_drew1 | refine below_set ?_ GE167.out) | exact HB.out)⟩⟩
            ·rw [if_neg c44] at H
             have c44b0 : (a0_6 == 0) = false := beq_eq_false_iff_ne.mpr c44
             have c44b1 : (a0_6 != 0) = true := bne_iff_ne.mpr c44
             (first | rw [c44b0] | (simp only [i64_w, i32_w]; rw [c44b0]) | skip)
             have H' := Aside0.mk H
             clear H
             obtain ⟨z48_0, z48_1, z48_2, z48_3, z48_4, z48_5, z48_6, z48_7, z48_8, z48_9, z48_10, y48_0, y48_1, y48_2, y48_3, y48_4, y48_5, y48_6, y48_7, y48_8, y48_9, y48_10⟩ := cf11 BK167.out
             go_wp2
             go_meet
             case rel => exact ⟨_, ((a0_6 != 0)), (by first | rfl | (simp; done) | (simp [*]; done)), H', ⟨by have := HJ1.out; have := HJ14.out; have := HJ22.out; have := HJ26.out; first | omega | exact Nat.le_refl _⟩, ⟨by (with_reducible repeat (first | refine blk_drewN ?_ _ | refine blk_drew ?_ | refine blk_alloc ?_ _)); exact BK167.out⟩, ⟨by repeat (first | (with_reducible first | exact HB.out | apply below_alloc | apply pw_below_drewN | apply below_drew1 | refine below_set ?_ GE167.out) | exact HB.out)⟩⟩
         case rest =>
          clear HC39
          try clear c1
          try clear c2
          try clear p2
          try clear c3
          try clear c4
          try clear c5
          try clear c7
          try clear c8
          try clear c8b0
          try clear c8b1
          try clear c16
          try clear c16b0
          try clear c16b1
          try clear c18
          try clear c18b0
          try clear c18b1
          try clear c20
          try clear c20b0
          try clear c20b1
          try clear c24
          try clear c24b0
          try clear c24b1
          try clear c29
          try clear c32
          try clear c32b0
          try clear c32b1
          try clear c40
          try clear c41
          try clear c42
          try clear c44
          try clear c44b0
          try clear c44b1
          try clear c45
          try clear z11_0 z11_1 z11_10 z11_2 z11_3 z11_4 z11_5 z11_6 z11_7 z11_8 z11_9 z12_0 z12_1 z12_10 z12_2 z12_3 z12_4 z12_5 z12_6 z12_7 z12_8 z12_9 z14_0 z14_1 z14_10 z14_2 z14_3 z14_4 z14_5 z14_6 z14_7 z14_8 z14_9 z17_0 z17_1 z17_10 z17_2 z17_3 z17_4 z17_5 z17_6 z17_7 z17_8 z17_9 z19_0 z19_1 z19_10 z19_2 z19_3 z19_4 z19_5 z19_6 z19_7 z19_8 z19_9 z21_0 z21_1 z21_10 z21_2 z21_3 z21_4 z21_5 z21_6 z21_7 z21_8 z21_9 z22_0 z22_1 z22_10 z22_2 z22_3 z22_4 z22_5 z22_6 z22_7 z22_8 z22_9 z25_0 z25_1 z25_10 z25_2 z25_3 z25_4 z25_5 z25_6 z25_7 z25_8 z25_9 z26_0 z26_1 z26_10 z26_2 z26_3 z26_4 z26_5 z26_6 z26_7 z26_8 z26_9 z30_0 z30_1 z30_10 z30_2 z30_3 z30_4 z30_5 z30_6 z30_7 z30_8 z30_9 z33_0 z33_1 z33_10 z33_2 z33_3 z33_4 z33_5 z33_6 z33_7 z33_8 z33_9 z35_0 z35_1 z35_10 z35_2 z35_3 z35_4 z35_5 z35_6 z35_7 z35_8 z35_9 z36_0 z36_1 z36_10 z36_2 z36_3 z36_4 z36_5 z36_6 z36_7 z36_8 z36_9 z38_0 z38_1 z38_10 z38_2 z38_3 z38_4 z38_5 z38_6 z38_7 z38_8 z38_9 z43_0 z43_1 z43_10 z43_2 z43_3 z43_4 z43_5 z43_6 z43_7 z43_8 z43_9 z46_0 z46_1 z46_10 z46_2 z46_3 z46_4 z46_5 z46_6 z46_7 z46_8 z46_9 z47_0 z47_1 z47_10 z47_2 z47_3 z47_4 z47_5 z47_6 z47_7 z47_8 z47_9 z48_0 z48_1 z48_10 z48_2 z48_3 z48_4 z48_5 z48_6 z48_7 z48_8 z48_9 z6_0 z6_1 z6_10 z6_2 z6_3 z6_4 z6_5 z6_6 z6_7 z6_8 z6_9 z9_0 z9_1 z9_10 z9_2 z9_3 z9_4 z9_5 z9_6 z9_7 z9_8 z9_9 y11_0 y11_1 y11_10 y11_2 y11_3 y11_4 y11_5 y11_6 y11_7 y11_8 y11_9 y12_0 y12_1 y12_10 y12_2 y12_3 y12_4 y12_5 y12_6 y12_7 y12_8 y12_9 y14_0 y14_1 y14_10 y14_2 y14_3 y14_4 y14_5 y14_6 y14_7 y14_8 y14_9 y17_0 y17_1 y17_10 y17_2 y17_3 y17_4 y17_5 y17_6 y17_7 y17_8 y17_9 y19_0 y19_1 y19_10 y19_2 y19_3 y19_4 y19_5 y19_6 y19_7 y19_8 y19_9 y21_0 y21_1 y21_10 y21_2 y21_3 y21_4 y21_5 y21_6 y21_7 y21_8 y21_9 y22_0 y22_1 y22_10 y22_2 y22_3 y22_4 y22_5 y22_6 y22_7 y22_8 y22_9 y25_0 y25_1 y25_10 y25_2 y25_3 y25_4 y25_5 y25_6 y25_7 y25_8 y25_9 y26_0 y26_1 y26_10 y26_2 y26_3 y26_4 y26_5 y26_6 y26_7 y26_8 y26_9 y30_0 y30_1 y30_10 y30_2 y30_3 y30_4 y30_5 y30_6 y30_7 y30_8 y30_9 y33_0 y33_1 y33_10 y33_2 y33_3 y33_4 y33_5 y33_6 y33_7 y33_8 y33_9 y35_0 y35_1 y35_10 y35_2 y35_3 y35_4 y35_5 y35_6 y35_7 y35_8 y35_9 y36_0 y36_1 y36_10 y36_2 y36_3 y36_4 y36_5 y36_6 y36_7 y36_8 y36_9 y38_0 y38_1 y38_10 y38_2 y38_3 y38_4 y38_5 y38_6 y38_7 y38_8 y38_9 y43_0 y43_1 y43_10 y43_2 y43_3 y43_4 y43_5 y43_6 y43_7 y43_8 y43_9 y46_0 y46_1 y46_10 y46_2 y46_3 y46_4 y46_5 y46_6 y46_7 y46_8 y46_9 y47_0 y47_1 y47_10 y47_2 y47_3 y47_4 y47_5 y47_6 y47_7 y47_8 y47_9 y48_0 y48_1 y48_10 y48_2 y48_3 y48_4 y48_5 y48_6 y48_7 y48_8 y48_9 y6_0 y6_1 y6_10 y6_2 y6_3 y6_4 y6_5 y6_6 y6_7 y6_8 y6_9 y9_0 y9_1 y9_10 y9_2 y9_3 y9_4 y9_5 y9_6 y9_7 y9_8 y9_9
          try clear p2
          obtain ⟨kq, x44_38, rfl, HA, HJ38, BK167, HB⟩ := hcut
          cases kq with
          | zero => exact absurd HA.out (by simp [frame_fields.j4])
          | succ kj38 =>
           have H := HA.out
           clear HA
           simp only [frame_fields.j4] at H
           by_cases c49 : x44_38 = true
           ·subst c49
            have H1 : (some false) = some r := by rw [if_pos rfl] at H; exact H
            clear H
            have H := H1
            clear H1
            obtain rfl := Option.some.inj H
            go_wp2
            go_ret
            exact ⟨by first | rfl | (simp [errW_none, errW_some] <;> rfl) | (simp [*, errW_none, errW_some] <;> rfl), by repeat (first | (with_reducible first | exact HB.out | apply below_alloc | apply pw_below_drewN | apply below_drew1 | refine below_set ?_ GE167.out) | exact HB.out)⟩
           ·replace c49 := Bool.eq_false_iff.mpr c49
            subst c49
            have H1 : (if a0_0 = 8 then (frame_fields.j5 kj38 x4_14 false a0_0 a0_1 a0_2 l0_3 a0_4 a0_5 a0_6 a0_7 a0_8 a0_9 l0_10) else (frame_fields.j5 kj38 x4_14 (a0_9 != 0) a0_0 a0_1 a0_2 l0_3 a0_4 a0_5 a0_6 a0_7 a0_8 a0_9 l0_10)) = some r := by rw [if_neg (show ¬ (false = true) by decide)] at H; exact H
            clear H
            have H := H1
            clear H1
            have HC50 := Aside0.mk H
            clear H
            go_upto_region 8 with (fail)
            go_cut [71] (fun v71 wc => ∃ (kq : Nat) (x71_49 : Bool), v71 = .bool x71_49 ∧ Aside0 (frame_fields.j5 kq x4_14 x71_49 a0_0 a0_1 a0_2 l0_3 a0_4 a0_5 a0_6 a0_7 a0_8 a0_9 l0_10 = some r) ∧ Aside0 (kq ≤ kj38) ∧ Aside0 (wc.heap[gb167]? = some (.cells #[.int .u8 a0_0, .int .u8 a0_1, .int .u32 a0_2, (.slice A0_3 l0_3.length c0_3), .int .i64 a0_4, .int .u32 a0_5, .int .u32 a0_6, .int .u8 a0_7, .bool a0_8, .int .u32 a0_9, (.slice A0_10 l0_10.length c0_10)] 38 (0, 0))) ∧ Aside0 (Below w.heap.size w wc))
            case first =>
             have H := HC50.out
             clear HC50
             by_cases c51 : a0_0 = 8
             ·rw [if_pos c51] at H
              have c51b0 : (a0_0 == 8) = true := beq_iff_eq.mpr c51
              have c51b1 : (a0_0 != 8) = false := bne_eq_false_iff_eq.mpr c51
              clear c51
              (first | rw [c51b0] | (simp only [i64_w, i32_w]; rw [c51b0]) | skip)
              have H' := Aside0.mk H
              clear H
              obtain ⟨z52_0, z52_1, z52_2, z52_3, z52_4, z52_5, z52_6, z52_7, z52_8, z52_9, z52_10, y52_0, y52_1, y52_2, y52_3, y52_4, y52_5, y52_6, y52_7, y52_8, y52_9, y52_10⟩ := cf11 BK167.out
              go_wp2
              go_meet
              case rel => exact ⟨_, (false), (by first | rfl | (simp; done) | (simp [*]; done)), H', ⟨by have := HJ1.out; have := HJ14.out; have := HJ22.out; have := HJ26.out; have := HJ38.out; first | omega | exact Nat.le_refl _⟩, ⟨by (with_reducible repeat (first | refine blk_drewN ?_ _ | refine blk_drew ?_ | refine blk_alloc ?_ _)); exact BK167.out⟩, ⟨by repeat (first | (with_reducible first | exact HB.out | apply below_alloc | apply pw_below_drewN | apply below_drew1 | refine below_set ?_ GE167.out) | exact HB.out)⟩⟩
             ·rw [if_neg c51] at H
              have c51b0 : (a0_0 == 8) = false := beq_eq_false_iff_ne.mpr c51
              have c51b1 : (a0_0 != 8) = true := bne_iff_ne.mpr c51
              (first | rw [c51b0] | (simp only [i64_w, i32_w]; rw [c51b0]) | skip)
              have H' := Aside0.mk H
              clear H
              obtain ⟨z53_0, z53_1, z53_2, z53_3, z53_4, z53_5, z53_6, z53_7, z53_8, z53_9, z53_10, y53_0, y53_1, y53_2, y53_3, y53_4, y53_5, y53_6, y53_7, y53_8, y53_9, y53_10⟩ := cf11 BK167.out
              go_wp2
              go_meet
              case rel => exact ⟨_, ((a0_9 != 0)), (by first | rfl | (simp; done) | (simp [*]; done)), H', ⟨by have := HJ1.out; have := HJ14.out; have := HJ22.out; have := HJ26.out; have := HJ38.out; first | omega | exact Nat.le_refl _⟩, ⟨by (with_reducible repeat (first | refine blk_drewN ?_ _ | refine blk_drew ?_ | refine blk_alloc ?_ _)); exact BK167.out⟩, ⟨by repeat (first | (with_reducible first | exact HB.out | apply below_alloc | apply pw_below_drewN | apply below_drew1 | refine below_set ?_ GE167.out) | exact HB.out)⟩⟩
            case rest =>
             clear HC50
             try clear c1
             try clear c2
             try clear p2
             try clear c3
             try clear c4
             try clear c5
             try clear c7
             try clear c8
             try clear c8b0
             try clear c8b1
             try clear c16
             try clear c16b0
             try clear c16b1
             try clear c18
             try clear c18b0
             try clear c18b1
             try clear c20
             try clear c20b0
             try clear c20b1
             try clear c24
             try clear c24b0
             try clear c24b1
             try clear c29
             try clear c32
             try clear c32b0
             try clear c32b1
             try clear c40
             try clear c41
             try clear c42
             try clear c44
             try clear c44b0
             try clear c44b1
             try clear c45
             try clear c49
             try clear c51
             try clear c51b0
             try clear c51b1
             try clear z11_0 z11_1 z11_10 z11_2 z11_3 z11_4 z11_5 z11_6 z11_7 z11_8 z11_9 z12_0 z12_1 z12_10 z12_2 z12_3 z12_4 z12_5 z12_6 z12_7 z12_8 z12_9 z14_0 z14_1 z14_10 z14_2 z14_3 z14_4 z14_5 z14_6 z14_7 z14_8 z14_9 z17_0 z17_1 z17_10 z17_2 z17_3 z17_4 z17_5 z17_6 z17_7 z17_8 z17_9 z19_0 z19_1 z19_10 z19_2 z19_3 z19_4 z19_5 z19_6 z19_7 z19_8 z19_9 z21_0 z21_1 z21_10 z21_2 z21_3 z21_4 z21_5 z21_6 z21_7 z21_8 z21_9 z22_0 z22_1 z22_10 z22_2 z22_3 z22_4 z22_5 z22_6 z22_7 z22_8 z22_9 z25_0 z25_1 z25_10 z25_2 z25_3 z25_4 z25_5 z25_6 z25_7 z25_8 z25_9 z26_0 z26_1 z26_10 z26_2 z26_3 z26_4 z26_5 z26_6 z26_7 z26_8 z26_9 z30_0 z30_1 z30_10 z30_2 z30_3 z30_4 z30_5 z30_6 z30_7 z30_8 z30_9 z33_0 z33_1 z33_10 z33_2 z33_3 z33_4 z33_5 z33_6 z33_7 z33_8 z33_9 z35_0 z35_1 z35_10 z35_2 z35_3 z35_4 z35_5 z35_6 z35_7 z35_8 z35_9 z36_0 z36_1 z36_10 z36_2 z36_3 z36_4 z36_5 z36_6 z36_7 z36_8 z36_9 z38_0 z38_1 z38_10 z38_2 z38_3 z38_4 z38_5 z38_6 z38_7 z38_8 z38_9 z43_0 z43_1 z43_10 z43_2 z43_3 z43_4 z43_5 z43_6 z43_7 z43_8 z43_9 z46_0 z46_1 z46_10 z46_2 z46_3 z46_4 z46_5 z46_6 z46_7 z46_8 z46_9 z47_0 z47_1 z47_10 z47_2 z47_3 z47_4 z47_5 z47_6 z47_7 z47_8 z47_9 z48_0 z48_1 z48_10 z48_2 z48_3 z48_4 z48_5 z48_6 z48_7 z48_8 z48_9 z52_0 z52_1 z52_10 z52_2 z52_3 z52_4 z52_5 z52_6 z52_7 z52_8 z52_9 z53_0 z53_1 z53_10 z53_2 z53_3 z53_4 z53_5 z53_6 z53_7 z53_8 z53_9 z6_0 z6_1 z6_10 z6_2 z6_3 z6_4 z6_5 z6_6 z6_7 z6_8 z6_9 z9_0 z9_1 z9_10 z9_2 z9_3 z9_4 z9_5 z9_6 z9_7 z9_8 z9_9 y11_0 y11_1 y11_10 y11_2 y11_3 y11_4 y11_5 y11_6 y11_7 y11_8 y11_9 y12_0 y12_1 y12_10 y12_2 y12_3 y12_4 y12_5 y12_6 y12_7 y12_8 y12_9 y14_0 y14_1 y14_10 y14_2 y14_3 y14_4 y14_5 y14_6 y14_7 y14_8 y14_9 y17_0 y17_1 y17_10 y17_2 y17_3 y17_4 y17_5 y17_6 y17_7 y17_8 y17_9 y19_0 y19_1 y19_10 y19_2 y19_3 y19_4 y19_5 y19_6 y19_7 y19_8 y19_9 y21_0 y21_1 y21_10 y21_2 y21_3 y21_4 y21_5 y21_6 y21_7 y21_8 y21_9 y22_0 y22_1 y22_10 y22_2 y22_3 y22_4 y22_5 y22_6 y22_7 y22_8 y22_9 y25_0 y25_1 y25_10 y25_2 y25_3 y25_4 y25_5 y25_6 y25_7 y25_8 y25_9 y26_0 y26_1 y26_10 y26_2 y26_3 y26_4 y26_5 y26_6 y26_7 y26_8 y26_9 y30_0 y30_1 y30_10 y30_2 y30_3 y30_4 y30_5 y30_6 y30_7 y30_8 y30_9 y33_0 y33_1 y33_10 y33_2 y33_3 y33_4 y33_5 y33_6 y33_7 y33_8 y33_9 y35_0 y35_1 y35_10 y35_2 y35_3 y35_4 y35_5 y35_6 y35_7 y35_8 y35_9 y36_0 y36_1 y36_10 y36_2 y36_3 y36_4 y36_5 y36_6 y36_7 y36_8 y36_9 y38_0 y38_1 y38_10 y38_2 y38_3 y38_4 y38_5 y38_6 y38_7 y38_8 y38_9 y43_0 y43_1 y43_10 y43_2 y43_3 y43_4 y43_5 y43_6 y43_7 y43_8 y43_9 y46_0 y46_1 y46_10 y46_2 y46_3 y46_4 y46_5 y46_6 y46_7 y46_8 y46_9 y47_0 y47_1 y47_10 y47_2 y47_3 y47_4 y47_5 y47_6 y47_7 y47_8 y47_9 y48_0 y48_1 y48_10 y48_2 y48_3 y48_4 y48_5 y48_6 y48_7 y48_8 y48_9 y52_0 y52_1 y52_10 y52_2 y52_3 y52_4 y52_5 y52_6 y52_7 y52_8 y52_9 y53_0 y53_1 y53_10 y53_2 y53_3 y53_4 y53_5 y53_6 y53_7 y53_8 y53_9 y6_0 y6_1 y6_10 y6_2 y6_3 y6_4 y6_5 y6_6 y6_7 y6_8 y6_9 y9_0 y9_1 y9_10 y9_2 y9_3 y9_4 y9_5 y9_6 y9_7 y9_8 y9_9
             try clear p2
             obtain ⟨kq, x71_49, rfl, HA, HJ49, BK167, HB⟩ := hcut
             cases kq with
             | zero => exact absurd HA.out (by simp [frame_fields.j5])
             | succ kj49 =>
              have H := HA.out
              clear HA
              simp only [frame_fields.j5] at H
              by_cases c54 : x71_49 = true
              ·subst c54
               have H1 : (some false) = some r := by rw [if_pos rfl] at H; exact H
               clear H
               have H := H1
               clear H1
               obtain rfl := Option.some.inj H
               go_wp2
               go_ret
               exact ⟨by first | rfl | (simp [errW_none, errW_some] <;> rfl) | (simp [*, errW_none, errW_some] <;> rfl), by repeat (first | (with_reducible first | exact HB.out | apply below_alloc | apply pw_below_drewN | apply below_drew1 | refine below_set ?_ GE167.out) | exact HB.out)⟩
              ·replace c54 := Bool.eq_false_iff.mpr c54
               subst c54
               have H1 : (if a0_0 = 4 then (if x4_14 = true then (some true) else (some ((l0_3.length : Int) == 0))) else (if (l0_10.length : Int) > 0 then (some false) else (if x4_14 = true then (some true) else (some ((l0_3.length : Int) == 0))))) = some r := by rw [if_neg (show ¬ (false = true) by decide)] at H; exact H
               clear H
               have H := H1
               clear H1
               by_cases c55 : a0_0 = 4
               ·rw [if_pos c55] at H
                have c55b0 : (a0_0 == 4) = true := beq_iff_eq.mpr c55
                have c55b1 : (a0_0 != 4) = false := bne_eq_false_iff_eq.mpr c55
                clear c55
                by_cases c56 : x4_14 = true
                ·subst c56
                 have H1 : (some true) = some r := by rw [if_pos rfl] at H; exact H
                 clear H
                 have H := H1
                 clear H1
                 obtain rfl := Option.some.inj H
                 obtain ⟨z57_0, z57_1, z57_2, z57_3, z57_4, z57_5, z57_6, z57_7, z57_8, z57_9, z57_10, y57_0, y57_1, y57_2, y57_3, y57_4, y57_5, y57_6, y57_7, y57_8, y57_9, y57_10⟩ := cf11 BK167.out
                 go_wp2
                 go_ret
                 exact ⟨by first | rfl | (simp [errW_none, errW_some] <;> rfl) | (simp [*, errW_none, errW_some] <;> rfl), by repeat (first | (with_reducible first | exact HB.out | apply below_alloc | apply pw_below_drewN | apply below_drew1 | refine below_set ?_ GE167.out) | exact HB.out)⟩
                ·replace c56 := Bool.eq_false_iff.mpr c56
                 subst c56
                 have H1 : (some ((l0_3.length : Int) == 0)) = some r := by rw [if_neg (show ¬ (false = true) by decide)] at H; exact H
                 clear H
                 have H := H1
                 clear H1
                 obtain rfl := Option.some.inj H
                 obtain ⟨z58_0, z58_1, z58_2, z58_3, z58_4, z58_5, z58_6, z58_7, z58_8, z58_9, z58_10, y58_0, y58_1, y58_2, y58_3, y58_4, y58_5, y58_6, y58_7, y58_8, y58_9, y58_10⟩ := cf11 BK167.out
                 go_wp2
                 go_ret
                 exact ⟨by first | rfl | (simp [errW_none, errW_some] <;> rfl) | (simp [*, errW_none, errW_some] <;> rfl), by repeat (first | (with_reducible first | exact HB.out | apply below_alloc | apply pw_below_drewN | apply below_drew1 | refine below_set ?_ GE167.out) | exact HB.out)⟩
               ·rw [if_neg c55] at H
                have c55b0 : (a0_0 == 4) = false := beq_eq_false_iff_ne.mpr c55
                have c55b1 : (a0_0 != 4) = true := bne_iff_ne.mpr c55
                by_cases c59 : (l0_10.length : Int) > 0
                ·rw [if_pos c59] at H
                 have c59b0 : decide (0 < (l0_10.length : Int)) = true := decide_eq_true c59
                 have c59b1 : decide (0 < l0_10.length) = true := decide_eq_true (by omega)
                 clear c59
                 obtain rfl := Option.some.inj H
                 obtain ⟨z60_0, z60_1, z60_2, z60_3, z60_4, z60_5, z60_6, z60_7, z60_8, z60_9, z60_10, y60_0, y60_1, y60_2, y60_3, y60_4, y60_5, y60_6, y60_7, y60_8, y60_9, y60_10⟩ := cf11 BK167.out
                 go_wp2
                 go_ret
                 exact ⟨by first | rfl | (simp [errW_none, errW_some] <;> rfl) | (simp [*, errW_none, errW_some] <;> rfl), by repeat (first | (with_reducible first | exact HB.out | apply below_alloc | apply pw_below_drewN | apply below_drew1 | refine below_set ?_ GE167.out) | exact HB.out)⟩
                ·rw [if_neg c59] at H
                 have c59b0 : decide (0 < (l0_10.length : Int)) = false := decide_eq_false c59
                 have c59b1 : decide (0 < l0_10.length) = false := decide_eq_false (by omega)
                 clear c59
                 by_cases c61 : x4_14 = true
                 ·subst c61
                  have H1 : (some true) = some r := by rw [if_pos rfl] at H; exact H
                  clear H
                  have H := H1
                  clear H1
                  obtain rfl := Option.some.inj H
                  obtain ⟨z62_0, z62_1, z62_2, z62_3, z62_4, z62_5, z62_6, z62_7, z62_8, z62_9, z62_10, y62_0, y62_1, y62_2, y62_3, y62_4, y62_5, y62_6, y62_7, y62_8, y62_9, y62_10⟩ := cf11 BK167.out
                  go_wp2
                  go_ret
                  exact ⟨by first | rfl | (simp [errW_none, errW_some] <;> rfl) | (simp [*, errW_none, errW_some] <;> rfl), by repeat (first | (with_reducible first | exact HB.out | apply below_alloc | apply pw_below_drewN | apply below_drew1 | refine below_set ?_ GE167.out) | exact HB.out)⟩
                 ·replace c61 := Bool.eq_false_iff.mpr c61
                  subst c61
                  have H1 : (some ((l0_3.length : Int) == 0)) = some r := by rw [if_neg (show ¬ (false = true) by decide)] at H; exact H
                  clear H
                  have H := H1
                  clear H1
                  obtain rfl := Option.some.inj H
                  obtain ⟨z63_0, z63_1, z63_2, z63_3, z63_4, z63_5, z63_6, z63_7, z63_8, z63_9, z63_10, y63_0, y63_1, y63_2, y63_3, y63_4, y63_5, y63_6, y63_7, y63_8, y63_9, y63_10⟩ := cf11 BK167.out
                  go_wp2
                  go_ret
                  exact ⟨by first | rfl | (simp [errW_none, errW_some] <;> rfl) | (simp [*, errW_none, errW_some] <;> rfl), by repeat (first | (with_reducible first | exact HB.out | apply below_alloc | apply pw_below_drewN | apply below_drew1 | refine below_set ?_ GE167.out) | exact HB.out)⟩
end Go.Proofs.YtjjfkmniffbgkaaDoor.QFrmB

/- Printed by a program of this claim's author (wip/pr.py); not trusted: Lean checks it. -/
namespace Go.Proofs.YtjjfkmniffbgkaaDoor.QFrmB
open Go.Proofs.YtjjfkmniffbgkaaDoor Go.Proofs.YtjjfkmniffbgkaaDoor.Given Go.Proofs.YtjjfkmniffbgkaaDoor.QFrmA
open Go.RowKit Go.Proofs.YtjjfkmniffbgkaaDoorW.PrintWords Go.Proofs.YtjjfkmniffbgkaaDoorW.PrintLast Go.Proofs.YtjjfkmniffbgkaaDoorW.PrintMore
attribute [local go_sem] max2_int min2_int max_two min_two max_three min_three max_four min_four   -- for this text's walks alone
set_option linter.unusedVariables false
set_option linter.unusedSimpArgs false
/-! ### frame_May: function 22 -/
mutual
def frame_May.j0 : Nat → Bool → Int → Int → Int → List Int → Int → Int → Int → Int → Bool → Int → List (S99) → Option (Bool)
 | 0, _, _, _, _, _, _, _, _, _, _, _, _ => none
 | k + 1, x3, x171000, x171001, x171002, x171003, x171004, x171005, x171006, x171007, x171008, x171009, x171010 => if x171002 > 2147483647 then (frame_May.j1 k x3 (decide (x171002 > 2147483647)) x171000 x171001 x171002 x171003 x171004 x171005 x171006 x171007 x171008 x171009 x171010) else (if x171006 > 2147483647 then (frame_May.j1 k x3 (decide (x171006 > 2147483647)) x171000 x171001 x171002 x171003 x171004 x171005 x171006 x171007 x171008 x171009 x171010) else (if x171009 > 2147483647 then (frame_May.j1 k x3 (decide (x171009 > 2147483647)) x171000 x171001 x171002 x171003 x171004 x171005 x171006 x171007 x171008 x171009 x171010) else ((frame_fields.f k x171000 x171001 x171002 x171003 x171004 x171005 x171006 x171007 x171008 x171009 x171010).bind fun t172 => (frame_May.j1 k x3 (!t172) x171000 x171001 x171002 x171003 x171004 x171005 x171006 x171007 x171008 x171009 x171010))))
def frame_May.j1 : Nat → Bool → Bool → Int → Int → Int → List Int → Int → Int → Int → Int → Bool → Int → List (S99) → Option (Bool)
 | 0, _, _, _, _, _, _, _, _, _, _, _, _, _ => none
 | k + 1, x3, x13, x171000, x171001, x171002, x171003, x171004, x171005, x171006, x171007, x171008, x171009, x171010 => if x13 = true then (some false) else (if x3 = true then (if x171004 < 0 then (frame_May.j2 k x3 true x171000 x171001 x171002 x171003 x171004 x171005 x171006 x171007 x171008 x171009 x171010) else (frame_May.j2 k x3 (decide (x171004 > 255)) x171000 x171001 x171002 x171003 x171004 x171005 x171006 x171007 x171008 x171009 x171010)) else (frame_May.j2 k x3 false x171000 x171001 x171002 x171003 x171004 x171005 x171006 x171007 x171008 x171009 x171010))
def frame_May.j2 : Nat → Bool → Bool → Int → Int → Int → List Int → Int → Int → Int → Int → Bool → Int → List (S99) → Option (Bool)
 | 0, _, _, _, _, _, _, _, _, _, _, _, _, _ => none
 | k + 1, x3, x26, x171000, x171001, x171002, x171003, x171004, x171005, x171006, x171007, x171008, x171009, x171010 => if x26 = true then (frame_May.j3 k x26 x171000 x171001 x171002 x171003 x171004 x171005 x171006 x171007 x171008 x171009 x171010) else (if x3 = true then (frame_May.j3 k false x171000 x171001 x171002 x171003 x171004 x171005 x171006 x171007 x171008 x171009 x171010) else (frame_May.j3 k (x171004 != (-1)) x171000 x171001 x171002 x171003 x171004 x171005 x171006 x171007 x171008 x171009 x171010))
def frame_May.j3 : Nat → Bool → Int → Int → Int → List Int → Int → Int → Int → Int → Bool → Int → List (S99) → Option (Bool)
 | 0, _, _, _, _, _, _, _, _, _, _, _, _ => none
 | k + 1, x26, x171000, x171001, x171002, x171003, x171004, x171005, x171006, x171007, x171008, x171009, x171010 => if x26 = true then (some false) else (if x171000 = 6 then (if (x171003.length : Int) = 8 then (if (x171003.length : Int) ≤ 16384 then (if (x171010.length : Int) ≤ 2730 then ((frame_payload.f k x171000 x171001 x171002 x171003 x171004 x171005 x171006 x171007 x171008 x171009 x171010).bind fun t173 => (some (decide ((t173.length : Int) ≤ 16384)))) else (some false)) else (some false)) else (some false)) else (if (x171003.length : Int) ≤ 16384 then (if (x171010.length : Int) ≤ 2730 then ((frame_payload.f k x171000 x171001 x171002 x171003 x171004 x171005 x171006 x171007 x171008 x171009 x171010).bind fun t176 => (some (decide ((t176.length : Int) ≤ 16384)))) else (some false)) else (some false)))
end
def frame_May.f (k : Nat) (a0_0 : Int) (a0_1 : Int) (a0_2 : Int) (l0_3 : List Int) (a0_4 : Int) (a0_5 : Int) (a0_6 : Int) (a0_7 : Int) (a0_8 : Bool) (a0_9 : Int) (l0_10 : List (S99)) : Option (Bool) := (frame_pads.f a0_0).bind fun t171 => (if t171 = true then (frame_May.j0 k ((Go.bits .and .u8 a0_1 8) != 0) a0_0 a0_1 a0_2 l0_3 a0_4 a0_5 a0_6 a0_7 a0_8 a0_9 l0_10) else (frame_May.j0 k false a0_0 a0_1 a0_2 l0_3 a0_4 a0_5 a0_6 a0_7 a0_8 a0_9 l0_10))
set_option maxHeartbeats 8000000 in
set_option maxRecDepth 100000 in
theorem frame_May.calls (k : Nat) (a0_0 : Int) (a0_1 : Int) (a0_2 : Int) (A0_3 : Option Addr) (c0_3 : Nat) (l0_3 : List Int) (a0_4 : Int) (a0_5 : Int) (a0_6 : Int) (a0_7 : Int) (a0_8 : Bool) (a0_9 : Int) (A0_10 : Option Addr) (c0_10 : Nat) (l0_10 : List (S99)) (r : Bool) (w : World) (hr0_3 : Kd.C (Kd.int .u8) w A0_3 l0_3.length l0_3) (hc0_3 : l0_3.length ≤ c0_3) (hr0_10 : Kd.C k99 w A0_10 l0_10.length l0_10) (hc0_10 : l0_10.length ≤ c0_10) (h : frame_May.f k a0_0 a0_1 a0_2 l0_3 a0_4 a0_5 a0_6 a0_7 a0_8 a0_9 l0_10 = some r) :
  Calls Tryd.prog 22 #[.agg #[.int .u8 a0_0, .int .u8 a0_1, .int .u32 a0_2, .slice A0_3 l0_3.length c0_3, .int .i64 a0_4, .int .u32 a0_5, .int .u32 a0_6, .int .u8 a0_7, .bool a0_8, .int .u32 a0_9, .slice A0_10 l0_10.length c0_10]] w fun e w' => e = .returned (.bool r) ∧ Below w.heap.size w w' := by
 have hu38 := Tryd.underlying38
 have HR0_3 := Aside0.mk hr0_3
 have HC0_3 := Aside0.mk hc0_3
 clear hr0_3 hc0_3
 have HR0_10 := Aside0.mk hr0_10
 have HC0_10 := Aside0.mk hc0_10
 clear hr0_10 hc0_10
 have HB := Aside0.mk (Below.refl w.heap.size w)
 have H : ((frame_pads.f a0_0).bind fun t171 => (if t171 = true then (frame_May.j0 k ((Go.bits .and .u8 a0_1 8) != 0) a0_0 a0_1 a0_2 l0_3 a0_4 a0_5 a0_6 a0_7 a0_8 a0_9 l0_10) else (frame_May.j0 k false a0_0 a0_1 a0_2 l0_3 a0_4 a0_5 a0_6 a0_7 a0_8 a0_9 l0_10))) = some r := h
 clear h
 have HC2 := Aside0.mk H
 clear H
 go_enter Tryd.func22, Tryd.ntmps22
 go_upto_region 1 with (first | ((with_reducible refine gate_dst (N := 1) rfl ?_); (try (refine gate_guard (by rfl) ?_; dsimp only)); refine box_event ?hg (N := 1) ?hd (cs := #[.int .u8 a0_0, .int .u8 a0_1, .int .u32 a0_2, .slice A0_3 l0_3.length c0_3, .int .i64 a0_4, .int .u32 a0_5, .int .u32 a0_6, .int .u8 a0_7, .bool a0_8, .int .u32 a0_9, .slice A0_10 l0_10.length c0_10]) (t := 38) ?hr ?_; (case hd => rfl); (case hg => rfl); (case hr => first | (go_simp; done) | (go_simp; rfl)); intro gb170 hg w3 hbox hb; have n0_ := Aside0.mk (below_step (by repeat (first | (with_reducible first | exact HB.out | apply below_alloc | apply pw_below_drewN | apply below_drew1) | exact HB.out)) hb); have n1_ := Aside0.mk (hbox); have n2_ := Aside0.mk ((by rw [hg]; exact (below_size (by repeat (first | (with_reducible first | exact HB.out | apply below_alloc | apply pw_below_drewN | apply below_drew1) | exact HB.out))) : w.heap.size ≤ gb170)); have n3_ := Aside0.mk ((by rw [hg]; exact (below_size (by repeat (first | (with_reducible first | exact HB.out | apply below_alloc | apply pw_below_drewN | apply below_drew1) | exact HB.out))) : w.heap.size ≤ gb170)); clear HB; have HB := n0_; have BK170 := n1_; have GW170 := n2_; have GE170 := n3_; clear n0_ n1_ n2_ n3_; clear hb hbox hg))
 (try simp only [Act.put, putA, putB, putC])
 go_cut [3] (fun v3 wc => ∃ (kq : Nat) (x3_1 : Bool), v3 = .bool x3_1 ∧ Aside0 (frame_May.j0 kq x3_1 a0_0 a0_1 a0_2 l0_3 a0_4 a0_5 a0_6 a0_7 a0_8 a0_9 l0_10 = some r) ∧ Aside0 (kq ≤ k) ∧ Aside0 (wc.heap[gb170]? = some (.cells #[.int .u8 a0_0, .int .u8 a0_1, .int .u32 a0_2, (.slice A0_3 l0_3.length c0_3), .int .i64 a0_4, .int .u32 a0_5, .int .u32 a0_6, .int .u8 a0_7, .bool a0_8, .int .u32 a0_9, (.slice A0_10 l0_10.length c0_10)] 38 (0, 0))) ∧ Aside0 (Below w.heap.size w wc))
 case first =>
  have H := HC2.out
  clear HC2
  replace H := Option.bind_eq_some_iff.mp H
  obtain ⟨t171, A40, H⟩ := H
  replace H : (if t171 = true then (frame_May.j0 k ((Go.bits .and .u8 a0_1 8) != 0) a0_0 a0_1 a0_2 l0_3 a0_4 a0_5 a0_6 a0_7 a0_8 a0_9 l0_10) else (frame_May.j0 k false a0_0 a0_1 a0_2 l0_3 a0_4 a0_5 a0_6 a0_7 a0_8 a0_9 l0_10)) = some r := H
  have A4 := Aside0.mk A40
  clear A40
  by_cases c5 : t171 = true
  ·subst c5
   have H1 : (frame_May.j0 k ((Go.bits .and .u8 a0_1 8) != 0) a0_0 a0_1 a0_2 l0_3 a0_4 a0_5 a0_6 a0_7 a0_8 a0_9 l0_10) = some r := by rw [if_pos rfl] at H; exact H
   clear H
   have H := H1
   clear H1
   have H' := Aside0.mk H
   clear H
   obtain ⟨z6_0, z6_1, z6_2, z6_3, z6_4, z6_5, z6_6, z6_7, z6_8, z6_9, z6_10, y6_0, y6_1, y6_2, y6_3, y6_4, y6_5, y6_6, y6_7, y6_8, y6_9, y6_10⟩ := cf11 BK170.out
   go_wp2_with (first | ((with_reducible refine gate_callee (f := 48) rfl ?_); refine goesL_ (some 6) rfl rfl Tryd.func48 (by kernel_rfl) rfl #[.int .u8 a0_0] rfl (by (try simp only [List.map_toArray, List.map_cons, List.map_nil]); first | done | rfl | (simp only [List.length_drop, List.length_take]; rfl)) ?_; (with_reducible refine (frame_pads.calls a0_0 true _ A4.out).mono ?_); rintro e w' ⟨rfl, ⟨nd, rfl⟩⟩; refine ⟨_, rfl, ?_⟩))
   go_meet
   case rel => exact ⟨_, (((Go.bits .and .u8 a0_1 8) != 0)), (by first | rfl | (simp; done) | (simp [*]; done)), H', ⟨by first | omega | exact Nat.le_refl _⟩, ⟨by (with_reducible repeat (first | refine blk_drewN ?_ _ | refine blk_drew ?_ | refine blk_alloc ?_ _)); exact BK170.out⟩, ⟨by repeat (first | (with_reducible first | exact HB.out | apply below_alloc | apply pw_below_drewN | apply below_drew1 | refine below_set ?_ GE170.out) | exact HB.out)⟩⟩
  ·replace c5 := Bool.eq_false_iff.mpr c5
   subst c5
   have H1 : (frame_May.j0 k false a0_0 a0_1 a0_2 l0_3 a0_4 a0_5 a0_6 a0_7 a0_8 a0_9 l0_10) = some r := by rw [if_neg (show ¬ (false = true) by decide)] at H; exact H
   clear H
   have H := H1
   clear H1
   have H' := Aside0.mk H
   clear H
   obtain ⟨z7_0, z7_1, z7_2, z7_3, z7_4, z7_5, z7_6, z7_7, z7_8, z7_9, z7_10, y7_0, y7_1, y7_2, y7_3, y7_4, y7_5, y7_6, y7_7, y7_8, y7_9, y7_10⟩ := cf11 BK170.out
   go_wp2_with (first | ((with_reducible refine gate_callee (f := 48) rfl ?_); refine goesL_ (some 6) rfl rfl Tryd.func48 (by kernel_rfl) rfl #[.int .u8 a0_0] rfl (by (try simp only [List.map_toArray, List.map_cons, List.map_nil]); first | done | rfl | (simp only [List.length_drop, List.length_take]; rfl)) ?_; (with_reducible refine (frame_pads.calls a0_0 false _ A4.out).mono ?_); rintro e w' ⟨rfl, ⟨nd, rfl⟩⟩; refine ⟨_, rfl, ?_⟩))
   go_meet
   case rel => exact ⟨_, (false), (by first | rfl | (simp; done) | (simp [*]; done)), H', ⟨by first | omega | exact Nat.le_refl _⟩, ⟨by (with_reducible repeat (first | refine blk_drewN ?_ _ | refine blk_drew ?_ | refine blk_alloc ?_ _)); exact BK170.out⟩, ⟨by repeat (first | (with_reducible first | exact HB.out | apply below_alloc | apply pw_below_drewN | apply below_drew1 | refine below_set ?_ GE170.out) | exact HB.out)⟩⟩
 case rest =>
  clear HC2
  try clear c2
  try clear p2
  try clear c4
  try clear c5
  try clear z6_0 z6_1 z6_10 z6_2 z6_3 z6_4 z6_5 z6_6 z6_7 z6_8 z6_9 z7_0 z7_1 z7_10 z7_2 z7_3 z7_4 z7_5 z7_6 z7_7 z7_8 z7_9 y6_0 y6_1 y6_10 y6_2 y6_3 y6_4 y6_5 y6_6 y6_7 y6_8 y6_9 y7_0 y7_1 y7_10 y7_2 y7_3 y7_4 y7_5 y7_6 y7_7 y7_8 y7_9
  obtain ⟨kq, x3_1, rfl, HA, HJ1, BK170, HB⟩ := hcut
  cases kq with
  | zero => exact absurd HA.out (by simp [frame_May.j0])
  | succ kj1 =>
   have H := HA.out
   clear HA
   simp only [frame_May.j0] at H
   have HC8 := Aside0.mk H
   clear H
   obtain ⟨z9_0, z9_1, z9_2, z9_3, z9_4, z9_5, z9_6, z9_7, z9_8, z9_9, z9_10, y9_0, y9_1, y9_2, y9_3, y9_4, y9_5, y9_6, y9_7, y9_8, y9_9, y9_10⟩ := cf11 BK170.out
   go_upto_if 13 with (fail)
   go_cut [13] (fun v13 wc => ∃ (kq : Nat) (x13_7 : Bool), v13 = .bool x13_7 ∧ Aside0 (frame_May.j1 kq x3_1 x13_7 a0_0 a0_1 a0_2 l0_3 a0_4 a0_5 a0_6 a0_7 a0_8 a0_9 l0_10 = some r) ∧ Aside0 (kq ≤ kj1) ∧ Aside0 (wc.heap[gb170]? = some (.cells #[.int .u8 a0_0, .int .u8 a0_1, .int .u32 a0_2, (.slice A0_3 l0_3.length c0_3), .int .i64 a0_4, .int .u32 a0_5, .int .u32 a0_6, .int .u8 a0_7, .bool a0_8, .int .u32 a0_9, (.slice A0_10 l0_10.length c0_10)] 38 (0, 0))) ∧ Aside0 (Below w.heap.size w wc))
   case first =>
    have H := HC8.out
    clear HC8
    by_cases c10 : a0_2 > 2147483647
    ·rw [if_pos c10] at H
     have c10b0 : decide (2147483647 < a0_2) = true := decide_eq_true c10
     clear c10
     (first | rw [c10b0] | (simp only [i64_w, i32_w]; rw [c10b0]) | skip)
     have H' := Aside0.mk H
     clear H
     go_wp2
     go_meet
     case rel => exact ⟨_, (decide (a0_2 > 2147483647)), (by first | rfl | (simp; done) | (simp [*]; done)), H', ⟨by have := HJ1.out; first | omega | exact Nat.le_refl _⟩, ⟨by (with_reducible repeat (first | refine blk_drewN ?_ _ | refine blk_drew ?_ | refine blk_alloc ?_ _)); exact BK170.out⟩, ⟨by repeat (first | (with_reducible first | exact HB.out | apply below_alloc | apply pw_below_drewN | apply below_drew1 | refine below_set ?_ GE170.out) | exact HB.out)⟩⟩
    ·rw [if_neg c10] at H
     have c10b0 : decide (2147483647 < a0_2) = false := decide_eq_false c10
     clear c10
     (first | rw [c10b0] | (simp only [i64_w, i32_w]; rw [c10b0]) | skip)
     by_cases c11 : a0_6 > 2147483647
     ·rw [if_pos c11] at H
      have c11b0 : decide (2147483647 < a0_6) = true := decide_eq_true c11
      clear c11
      have H' := Aside0.mk H
      clear H
      obtain ⟨z12_0, z12_1, z12_2, z12_3, z12_4, z12_5, z12_6, z12_7, z12_8, z12_9, z12_10, y12_0, y12_1, y12_2, y12_3, y12_4, y12_5, y12_6, y12_7, y12_8, y12_9, y12_10⟩ := cf11 BK170.out
      go_wp2
      go_meet
      case rel => exact ⟨_, (decide (a0_6 > 2147483647)), (by first | rfl | (simp; done) | (simp [*]; done)), H', ⟨by have := HJ1.out; first | omega | exact Nat.le_refl _⟩, ⟨by (with_reducible repeat (first | refine blk_drewN ?_ _ | refine blk_drew ?_ | refine blk_alloc ?_ _)); exact BK170.out⟩, ⟨by repeat (first | (with_reducible first | exact HB.out | apply below_alloc | apply pw_below_drewN | apply below_drew1 | refine below_set ?_ GE170.out) | exact HB.out)⟩⟩
     ·rw [if_neg c11] at H
      have c11b0 : decide (2147483647 < a0_6) = false := decide_eq_false c11
      clear c11
      by_cases c13 : a0_9 > 2147483647
      ·rw [if_pos c13] at H
       have c13b0 : decide (2147483647 < a0_9) = true := decide_eq_true c13
       clear c13
       have H' := Aside0.mk H
       clear H
       obtain ⟨z14_0, z14_1, z14_2, z14_3, z14_4, z14_5, z14_6, z14_7, z14_8, z14_9, z14_10, y14_0, y14_1, y14_2, y14_3, y14_4, y14_5, y14_6, y14_7, y14_8, y14_9, y14_10⟩ := cf11 BK170.out
       go_wp2
       go_meet
       case rel => exact ⟨_, (decide (a0_9 > 2147483647)), (by first | rfl | (simp; done) | (simp [*]; done)), H', ⟨by have := HJ1.out; first | omega | exact Nat.le_refl _⟩, ⟨by (with_reducible repeat (first | refine blk_drewN ?_ _ | refine blk_drew ?_ | refine blk_alloc ?_ _)); exact BK170.out⟩, ⟨by repeat (first | (with_reducible first | exact HB.out | apply below_alloc | apply pw_below_drewN | apply below_drew1 | refine below_set ?_ GE170.out) | exact HB.out)⟩⟩
      ·rw [if_neg c13] at H
       have c13b0 : decide (2147483647 < a0_9) = false := decide_eq_false c13
       clear c13
       replace H := Option.bind_eq_some_iff.mp H
       obtain ⟨t172, A150, H⟩ := H
       replace H : (frame_May.j1 kj1 x3_1 (!t172) a0_0 a0_1 a0_2 l0_3 a0_4 a0_5 a0_6 a0_7 a0_8 a0_9 l0_10) = some r := H
       have A15 := Aside0.mk A150
       clear A150
       have H' := Aside0.mk H
       clear H
       obtain ⟨z16_0, z16_1, z16_2, z16_3, z16_4, z16_5, z16_6, z16_7, z16_8, z16_9, z16_10, y16_0, y16_1, y16_2, y16_3, y16_4, y16_5, y16_6, y16_7, y16_8, y16_9, y16_10⟩ := cf11 BK170.out
       go_wp2_with (first | ((with_reducible refine gate_callee (f := 49) rfl ?_); refine goesL_ (some 24) rfl rfl Tryd.func49 (by kernel_rfl) rfl #[.agg #[.int .u8 a0_0, .int .u8 a0_1, .int .u32 a0_2, .slice A0_3 l0_3.length c0_3, .int .i64 a0_4, .int .u32 a0_5, .int .u32 a0_6, .int .u8 a0_7, .bool a0_8, .int .u32 a0_9, .slice A0_10 l0_10.length c0_10]] rfl (by (try simp only [List.map_toArray, List.map_cons, List.map_nil]); first | done | rfl | (simp only [List.length_drop, List.length_take]; rfl)) ?_; (with_reducible refine (frame_fields.calls kj1 a0_0 a0_1 a0_2 _ _ l0_3 a0_4 a0_5 a0_6 a0_7 a0_8 a0_9 _ _ l0_10 t172 _ ?side1 ?side2 ?side3 ?side4 A15.out).mono ?_); (case side1 => repeat (first | exact (Kd.C_below HR0_3.out HB.out) | (with_reducible refine Kd.C_alloc ?_ _) | (with_reducible refine Kd.C_drewN ?_ _) | (with_reducible refine Kd.C_drew ?_))); (case side2 => exact HC0_3.out); (case side3 => repeat (first | exact (Kd.C_below HR0_10.out HB.out) | (with_reducible refine Kd.C_alloc ?_ _) | (with_reducible refine Kd.C_drewN ?_ _) | (with_reducible refine Kd.C_drew ?_))); (case side4 => exact HC0_10.out); rintro e w17 ⟨rfl, hb⟩; refine ⟨_, rfl, ?_⟩; have n0_ := Aside0.mk (blk_below (g := gb170) (o := .cells #[.int .u8 a0_0, .int .u8 a0_1, .int .u32 a0_2, .slice A0_3 l0_3.length c0_3, .int .i64 a0_4, .int .u32 a0_5, .int .u32 a0_6, .int .u8 a0_7, .bool a0_8, .int .u32 a0_9, .slice A0_10 l0_10.length c0_10] 38 (0, 0)) (by (with_reducible repeat (first | refine blk_drewN ?_ _ | refine blk_drew ?_ | refine blk_alloc ?_ _)); exact BK170.out) hb); have n1_ := Aside0.mk (below_step (by repeat (first | (with_reducible first | exact HB.out | apply below_alloc | apply pw_below_drewN | apply below_drew1 | refine below_set ?_ GE170.out) | exact HB.out)) hb); clear BK170; clear HB; have BK170 := n0_; have HB := n1_; clear n0_ n1_; (try clear hb); (try clear hb2); (try clear hk); (try clear hi)))
       go_meet
       case rel => exact ⟨_, (!t172), (by first | rfl | (simp; done) | (simp [*]; done)), H', ⟨by have := HJ1.out; first | omega | exact Nat.le_refl _⟩, ⟨by (with_reducible repeat (first | refine blk_drewN ?_ _ | refine blk_drew ?_ | refine blk_alloc ?_ _)); exact BK170.out⟩, ⟨by repeat (first | (with_reducible first | exact HB.out | apply below_alloc | apply pw_below_drewN | apply below_drew1 | refine below_set ?_ GE170.out) | exact HB.out)⟩⟩
   case rest =>
    clear HC8
    try clear c1
    try clear c2
    try clear p2
    try clear c4
    try clear c5
    try clear c10
    try clear c10b0
    try clear c11
    try clear c11b0
    try clear c13
    try clear c13b0
    try clear z12_0 z12_1 z12_10 z12_2 z12_3 z12_4 z12_5 z12_6 z12_7 z12_8 z12_9 z14_0 z14_1 z14_10 z14_2 z14_3 z14_4 z14_5 z14_6 z14_7 z14_8 z14_9 z16_0 z16_1 z16_10 z16_2 z16_3 z16_4 z16_5 z16_6 z16_7 z16_8 z16_9 z6_0 z6_1 z6_10 z6_2 z6_3 z6_4 z6_5 z6_6 z6_7 z6_8 z6_9 z7_0 z7_1 z7_10 z7_2 z7_3 z7_4 z7_5 z7_6 z7_7 z7_8 z7_9 z9_0 z9_1 z9_10 z9_2 z9_3 z9_4 z9_5 z9_6 z9_7 z9_8 z9_9 y12_0 y12_1 y12_10 y12_2 y12_3 y12_4 y12_5 y12_6 y12_7 y12_8 y12_9 y14_0 y14_1 y14_10 y14_2 y14_3 y14_4 y14_5 y14_6 y14_7 y14_8 y14_9 y16_0 y16_1 y16_10 y16_2 y16_3 y16_4 y16_5 y16_6 y16_7 y16_8 y16_9 y6_0 y6_1 y6_10 y6_2 y6_3 y6_4 y6_5 y6_6 y6_7 y6_8 y6_9 y7_0 y7_1 y7_10 y7_2 y7_3 y7_4 y7_5 y7_6 y7_7 y7_8 y7_9 y9_0 y9_1 y9_10 y9_2 y9_3 y9_4 y9_5 y9_6 y9_7 y9_8 y9_9
    try clear p2
    obtain ⟨kq, x13_7, rfl, HA, HJ7, BK170, HB⟩ := hcut
    cases kq with
    | zero => exact absurd HA.out (by simp [frame_May.j1])
    | succ kj7 =>
     have H := HA.out
     clear HA
     simp only [frame_May.j1] at H
     by_cases c18 : x13_7 = true
     ·subst c18
      have H1 : (some false) = some r := by rw [if_pos rfl] at H; exact H
      clear H
      have H := H1
      clear H1
      obtain rfl := Option.some.inj H
      go_wp2
      go_ret
      exact ⟨by first | rfl | (simp [errW_none, errW_some] <;> rfl) | (simp [*, errW_none, errW_some] <;> rfl), by repeat (first | (with_reducible first | exact HB.out | apply below_alloc | apply pw_below_drewN | apply below_drew1 | refine below_set ?_ GE170.out) | exact HB.out)⟩
     ·replace c18 := Bool.eq_false_iff.mpr c18
      subst c18
      have H1 : (if x3_1 = true then (if a0_4 < 0 then (frame_May.j2 kj7 x3_1 true a0_0 a0_1 a0_2 l0_3 a0_4 a0_5 a0_6 a0_7 a0_8 a0_9 l0_10) else (frame_May.j2 kj7 x3_1 (decide (a0_4 > 255)) a0_0 a0_1 a0_2 l0_3 a0_4 a0_5 a0_6 a0_7 a0_8 a0_9 l0_10)) else (frame_May.j2 kj7 x3_1 false a0_0 a0_1 a0_2 l0_3 a0_4 a0_5 a0_6 a0_7 a0_8 a0_9 l0_10)) = some r := by rw [if_neg (show ¬ (false = true) by decide)] at H; exact H
      clear H
      have H := H1
      clear H1
      have HC19 := Aside0.mk H
      clear H
      go_upto_region 7 with (fail)
      go_cut [26] (fun v26 wc => ∃ (kq : Nat) (x26_18 : Bool), v26 = .bool x26_18 ∧ Aside0 (frame_May.j2 kq x3_1 x26_18 a0_0 a0_1 a0_2 l0_3 a0_4 a0_5 a0_6 a0_7 a0_8 a0_9 l0_10 = some r) ∧ Aside0 (kq ≤ kj7) ∧ Aside0 (wc.heap[gb170]? = some (.cells #[.int .u8 a0_0, .int .u8 a0_1, .int .u32 a0_2, (.slice A0_3 l0_3.length c0_3), .int .i64 a0_4, .int .u32 a0_5, .int .u32 a0_6, .int .u8 a0_7, .bool a0_8, .int .u32 a0_9, (.slice A0_10 l0_10.length c0_10)] 38 (0, 0))) ∧ Aside0 (Below w.heap.size w wc))
      case first =>
       have H := HC19.out
       clear HC19
       by_cases c20 : x3_1 = true
       ·subst c20
        have H1 : (if a0_4 < 0 then (frame_May.j2 kj7 true true a0_0 a0_1 a0_2 l0_3 a0_4 a0_5 a0_6 a0_7 a0_8 a0_9 l0_10) else (frame_May.j2 kj7 true (decide (a0_4 > 255)) a0_0 a0_1 a0_2 l0_3 a0_4 a0_5 a0_6 a0_7 a0_8 a0_9 l0_10)) = some r := by rw [if_pos rfl] at H; exact H
        clear H
        have H := H1
        clear H1
        by_cases c21 : a0_4 < 0
        ·rw [if_pos c21] at H
         have c21b0 : decide (a0_4 < 0) = true := decide_eq_true c21
         clear c21
         (first | rw [c21b0] | (simp only [i64_w, i32_w]; rw [c21b0]) | skip)
         have H' := Aside0.mk H
         clear H
         obtain ⟨z22_0, z22_1, z22_2, z22_3, z22_4, z22_5, z22_6, z22_7, z22_8, z22_9, z22_10, y22_0, y22_1, y22_2, y22_3, y22_4, y22_5, y22_6, y22_7, y22_8, y22_9, y22_10⟩ := cf11 BK170.out
         go_wp2
         go_meet
         case rel => exact ⟨_, (true), (by first | rfl | (simp; done) | (simp [*]; done)), H', ⟨by have := HJ1.out; have := HJ7.out; first | omega | exact Nat.le_refl _⟩, ⟨by (with_reducible repeat (first | refine blk_drewN ?_ _ | refine blk_drew ?_ | refine blk_alloc ?_ _)); exact BK170.out⟩, ⟨by repeat (first | (with_reducible first | exact HB.out | apply below_alloc | apply pw_below_drewN | apply below_drew1 | refine below_set ?_ GE170.out) | exact HB.out)⟩⟩
        ·rw [if_neg c21] at H
         have c21b0 : decide (a0_4 < 0) = false := decide_eq_false c21
         clear c21
         (first | rw [c21b0] | (simp only [i64_w, i32_w]; rw [c21b0]) | skip)
         have H' := Aside0.mk H
         clear H
         obtain ⟨z23_0, z23_1, z23_2, z23_3, z23_4, z23_5, z23_6, z23_7, z23_8, z23_9, z23_10, y23_0, y23_1, y23_2, y23_3, y23_4, y23_5, y23_6, y23_7, y23_8, y23_9, y23_10⟩ := cf11 BK170.out
         go_wp2
         go_meet
         case rel => exact ⟨_, (decide (a0_4 > 255)), (by first | rfl | (simp; done) | (simp [*]; done)), H', ⟨by have := HJ1.out; have := HJ7.out; first | omega | exact Nat.le_refl _⟩, ⟨by (with_reducible repeat (first | refine blk_drewN ?_ _ | refine blk_drew ?_ | refine blk_alloc ?_ _)); exact BK170.out⟩, ⟨by repeat (first | (with_reducible first | exact HB.out | apply below_alloc | apply pw_below_drewN | apply below_drew1 | refine below_set ?_ GE170.out) | exact HB.out)⟩⟩
       ·replace c20 := Bool.eq_false_iff.mpr c20
        subst c20
        have H1 : (frame_May.j2 kj7 false false a0_0 a0_1 a0_2 l0_3 a0_4 a0_5 a0_6 a0_7 a0_8 a0_9 l0_10) = some r := by rw [if_neg (show ¬ (false = true) by decide)] at H; exact H
        clear H
        have H := H1
        clear H1
        have H' := Aside0.mk H
        clear H
        go_wp2
        go_meet
        case rel => exact ⟨_, (false), (by first | rfl | (simp; done) | (simp [*]; done)), H', ⟨by have := HJ1.out; have := HJ7.out; first | omega | exact Nat.le_refl _⟩, ⟨by (with_reducible repeat (first | refine blk_drewN ?_ _ | refine blk_drew ?_ | refine blk_alloc ?_ _)); exact BK170.out⟩, ⟨by repeat (first | (with_reducible first | exact HB.out | apply below_alloc | apply pw_below_drewN | apply below_drew1 | refine below_set ?_ GE170.out) | exact HB.out)⟩⟩
      case rest =>
       clear HC19
       try clear c1
       try clear c2
       try clear p2
       try clear c4
       try clear c5
       try clear c10
       try clear c10b0
       try clear c11
       try clear c11b0
       try clear c13
       try clear c13b0
       try clear c18
       try clear c20
       try clear c21
       try clear c21b0
       try clear c22
       try clear z12_0 z12_1 z12_10 z12_2 z12_3 z12_4 z12_5 z12_6 z12_7 z12_8 z12_9 z14_0 z14_1 z14_10 z14_2 z14_3 z14_4 z14_5 z14_6 z14_7 z14_8 z14_9 z16_0 z16_1 z16_10 z16_2 z16_3 z16_4 z16_5 z16_6 z16_7 z16_8 z16_9 z22_0 z22_1 z22_10 z22_2 z22_3 z22_4 z22_5 z22_6 z22_7 z22_8 z22_9 z23_0 z23_1 z23_10 z23_2 z23_3 z23_4 z23_5 z23_6 z23_7 z23_8 z23_9 z6_0 z6_1 z6_10 z6_2 z6_3 z6_4 z6_5 z6_6 z6_7 z6_8 z6_9 z7_0 z7_1 z7_10 z7_2 z7_3 z7_4 z7_5 z7_6 z7_7 z7_8 z7_9 z9_0 z9_1 z9_10 z9_2 z9_3 z9_4 z9_5 z9_6 z9_7 z9_8 z9_9 y12_0 y12_1 y12_10 y12_2 y12_3 y12_4 y12_5 y12_6 y12_7 y12_8 y12_9 y14_0 y14_1 y14_10 y14_2 y14_3 y14_4 y14_5 y14_6 y14_7 y14_8 y14_9 y16_0 y16_1 y16_10 y16_2 y16_3 y16_4 y16_5 y16_6 y16_7 y16_8 y16_9 y22_0 y22_1 y22_10 y22_2 y22_3 y22_4 y22_5 y22_6 y22_7 y22_8 y22_9 y23_0 y23_1 y23_10 y23_2 y23_3 y23_4 y23_5 y23_6 y23_7 y23_8 y23_9 y6_0 y6_1 y6_10 y6_2 y6_3 y6_4 y6_5 y6_6 y6_7 y6_8 y6_9 y7_0 y7_1 y7_10 y7_2 y7_3 y7_4 y7_5 y7_6 y7_7 y7_8 y7_9 y9_0 y9_1 y9_10 y9_2 y9_3 y9_4 y9_5 y9_6 y9_7 y9_8 y9_9
       try clear p2
       obtain ⟨kq, x26_18, rfl, HA, HJ18, BK170, HB⟩ := hcut
       cases kq with
       | zero => exact absurd HA.out (by simp [frame_May.j2])
       | succ kj18 =>
        have H := HA.out
        clear HA
        simp only [frame_May.j2] at H
        have HC24 := Aside0.mk H
        clear H
        go_upto_if 26 with (fail)
        go_cut [26] (fun v26 wc => ∃ (kq : Nat) (x26_23 : Bool), v26 = .bool x26_23 ∧ Aside0 (frame_May.j3 kq x26_23 a0_0 a0_1 a0_2 l0_3 a0_4 a0_5 a0_6 a0_7 a0_8 a0_9 l0_10 = some r) ∧ Aside0 (kq ≤ kj18) ∧ Aside0 (wc.heap[gb170]? = some (.cells #[.int .u8 a0_0, .int .u8 a0_1, .int .u32 a0_2, (.slice A0_3 l0_3.length c0_3), .int .i64 a0_4, .int .u32 a0_5, .int .u32 a0_6, .int .u8 a0_7, .bool a0_8, .int .u32 a0_9, (.slice A0_10 l0_10.length c0_10)] 38 (0, 0))) ∧ Aside0 (Below w.heap.size w wc))
        case first =>
         have H := HC24.out
         clear HC24
         by_cases c25 : x26_18 = true
         ·subst c25
          have H1 : (frame_May.j3 kj18 true a0_0 a0_1 a0_2 l0_3 a0_4 a0_5 a0_6 a0_7 a0_8 a0_9 l0_10) = some r := by rw [if_pos rfl] at H; exact H
          clear H
          have H := H1
          clear H1
          have H' := Aside0.mk H
          clear H
          go_wp2
          go_meet
          case rel => exact ⟨_, (true), (by first | rfl | (simp; done) | (simp [*]; done)), H', ⟨by have := HJ1.out; have := HJ7.out; have := HJ18.out; first | omega | exact Nat.le_refl _⟩, ⟨by (with_reducible repeat (first | refine blk_drewN ?_ _ | refine blk_drew ?_ | refine blk_alloc ?_ _)); exact BK170.out⟩, ⟨by repeat (first | (with_reducible first | exact HB.out | apply below_alloc | apply pw_below_drewN | apply below_drew1 | refine below_set ?_ GE170.out) | exact HB.out)⟩⟩
         ·replace c25 := Bool.eq_false_iff.mpr c25
          subst c25
          have H1 : (if x3_1 = true then (frame_May.j3 kj18 false a0_0 a0_1 a0_2 l0_3 a0_4 a0_5 a0_6 a0_7 a0_8 a0_9 l0_10) else (frame_May.j3 kj18 (a0_4 != (-1)) a0_0 a0_1 a0_2 l0_3 a0_4 a0_5 a0_6 a0_7 a0_8 a0_9 l0_10)) = some r := by rw [if_neg (show ¬ (false = true) by decide)] at H; exact H
          clear H
          have H := H1
          clear H1
          by_cases c26 : x3_1 = true
          ·subst c26
           have H1 : (frame_May.j3 kj18 false a0_0 a0_1 a0_2 l0_3 a0_4 a0_5 a0_6 a0_7 a0_8 a0_9 l0_10) = some r := by rw [if_pos rfl] at H; exact H
           clear H
           have H := H1
           clear H1
           have H' := Aside0.mk H
           clear H
           go_wp2
           go_meet
           case rel => exact ⟨_, (false), (by first | rfl | (simp; done) | (simp [*]; done)), H', ⟨by have := HJ1.out; have := HJ7.out; have := HJ18.out; first | omega | exact Nat.le_refl _⟩, ⟨by (with_reducible repeat (first | refine blk_drewN ?_ _ | refine blk_drew ?_ | refine blk_alloc ?_ _)); exact BK170.out⟩, ⟨by repeat (first | (with_reducible first | exact HB.out | apply below_alloc | apply pw_below_drewN | apply below_drew1 | refine below_set ?_ GE170.out) | exact HB.out)⟩⟩
          ·replace c26 := Bool.eq_false_iff.mpr c26
           subst c26
           have H1 : (frame_May.j3 kj18 (a0_4 != (-1)) a0_0 a0_1 a0_2 l0_3 a0_4 a0_5 a0_6 a0_7 a0_8 a0_9 l0_10) = some r := by rw [if_neg (show ¬ (false = true) by decide)] at H; exact H
           clear H
           have H := H1
           clear H1
           have H' := Aside0.mk H
           clear H
           obtain ⟨z27_0, z27_1, z27_2, z27_3, z27_4, z27_5, z27_6, z27_7, z27_8, z27_9, z27_10, y27_0, y27_1, y27_2, y27_3, y27_4, y27_5, y27_6, y27_7, y27_8, y27_9, y27_10⟩ := cf11 BK170.out
           go_wp2
           go_meet
           case rel => exact ⟨_, ((a0_4 != (-1))), (by first | rfl | (simp; done) | (simp [*]; done)), H', ⟨by have := HJ1.out; have := HJ7.out; have := HJ18.out; first | omega | exact Nat.le_refl _⟩, ⟨by (with_reducible repeat (first | refine blk_drewN ?_ _ | refine blk_drew ?_ | refine blk_alloc ?_ _)); exact BK170.out⟩, ⟨by repeat (first | (with_reducible first | exact HB.out | apply below_alloc | apply pw_below_drewN | apply below_drew1 | refine below_set ?_ GE170.out) | exact HB.out)⟩⟩
        case rest =>
         clear HC24
         try clear c1
         try clear c2
         try clear p2
         try clear c4
         try clear c5
         try clear c10
         try clear c10b0
         try clear c11
         try clear c11b0
         try clear c13
         try clear c13b0
         try clear c18
         try clear c20
         try clear c21
         try clear c21b0
         try clear c22
         try clear c25
         try clear c26
         try clear z12_0 z12_1 z12_10 z12_2 z12_3 z12_4 z12_5 z12_6 z12_7 z12_8 z12_9 z14_0 z14_1 z14_10 z14_2 z14_3 z14_4 z14_5 z14_6 z14_7 z14_8 z14_9 z16_0 z16_1 z16_10 z16_2 z16_3 z16_4 z16_5 z16_6 z16_7 z16_8 z16_9 z22_0 z22_1 z22_10 z22_2 z22_3 z22_4 z22_5 z22_6 z22_7 z22_8 z22_9 z23_0 z23_1 z23_10 z23_2 z23_3 z23_4 z23_5 z23_6 z23_7 z23_8 z23_9 z27_0 z27_1 z27_10 z27_2 z27_3 z27_4 z27_5 z27_6 z27_7 z27_8 z27_9 z6_0 z6_1 z6_10 z6_2 z6_3 z6_4 z6_5 z6_6 z6_7 z6_8 z6_9 z7_0 z7_1 z7_10 z7_2 z7_3 z7_4 z7_5 z7_6 z7_7 z7_8 z7_9 z9_0 z9_1 z9_10 z9_2 z9_3 z9_4 z9_5 z9_6 z9_7 z9_8 z9_9 y12_0 y12_1 y12_10 y12_2 y12_3 y12_4 y12_5 y12_6 y12_7 y12_8 y12_9 y14_0 y14_1 y14_10 y14_2 y14_3 y14_4 y14_5 y14_6 y14_7 y14_8 y14_9 y16_0 y16_1 y16_10 y16_2 y16_3 y16_4 y16_5 y16_6 y16_7 y16_8 y16_9 y22_0 y22_1 y22_10 y22_2 y22_3 y22_4 y22_5 y22_6 y22_7 y22_8 y22_9 y23_0 y23_1 y23_10 y23_2 y23_3 y23_4 y23_5 y23_6 y23_7 y23_8 y23_9 y27_0 y27_1 y27_10 y27_2 y27_3 y27_4 y27_5 y27_6 y27_7 y27_8 y27_9 y6_0 y6_1 y6_10 y6_2 y6_3 y6_4 y6_5 y6_6 y6_7 y6_8 y6_9 y7_0 y7_1 y7_10 y7_2 y7_3 y7_4 y7_5 y7_6 y7_7 y7_8 y7_9 y9_0 y9_1 y9_10 y9_2 y9_3 y9_4 y9_5 y9_6 y9_7 y9_8 y9_9
         try clear p2
         obtain ⟨kq, x26_23, rfl, HA, HJ23, BK170, HB⟩ := hcut
         cases kq with
         | zero => exact absurd HA.out (by simp [frame_May.j3])
         | succ kj23 =>
          have H := HA.out
          clear HA
          simp only [frame_May.j3] at H
          by_cases c28 : x26_23 = true
          ·subst c28
           have H1 : (some false) = some r := by rw [if_pos rfl] at H; exact H
           clear H
           have H := H1
           clear H1
           obtain rfl := Option.some.inj H
           go_wp2
           go_ret
           exact ⟨by first | rfl | (simp [errW_none, errW_some] <;> rfl) | (simp [*, errW_none, errW_some] <;> rfl), by repeat (first | (with_reducible first | exact HB.out | apply below_alloc | apply pw_below_drewN | apply below_drew1 | refine below_set ?_ GE170.out) | exact HB.out)⟩
          ·replace c28 := Bool.eq_false_iff.mpr c28
           subst c28
           have H1 : (if a0_0 = 6 then (if (l0_3.length : Int) = 8 then (if (l0_3.length : Int) ≤ 16384 then (if (l0_10.length : Int) ≤ 2730 then ((frame_payload.f kj23 a0_0 a0_1 a0_2 l0_3 a0_4 a0_5 a0_6 a0_7 a0_8 a0_9 l0_10).bind fun t173 => (some (decide ((t173.length : Int) ≤ 16384)))) else (some false)) else (some false)) else (some false)) else (if (l0_3.length : Int) ≤ 16384 then (if (l0_10.length : Int) ≤ 2730 then ((frame_payload.f kj23 a0_0 a0_1 a0_2 l0_3 a0_4 a0_5 a0_6 a0_7 a0_8 a0_9 l0_10).bind fun t176 => (some (decide ((t176.length : Int) ≤ 16384)))) else (some false)) else (some false))) = some r := by rw [if_neg (show ¬ (false = true) by decide)] at H; exact H
           clear H
           have H := H1
           clear H1
           by_cases c29 : a0_0 = 6
           ·rw [if_pos c29] at H
            have c29b0 : (a0_0 == 6) = true := beq_iff_eq.mpr c29
            have c29b1 : (a0_0 != 6) = false := bne_eq_false_iff_eq.mpr c29
            clear c29
            by_cases c30 : (l0_3.length : Int) = 8
            ·rw [if_pos c30] at H
             have c30b0 : ((l0_3.length : Int) == 8) = true := beq_iff_eq.mpr c30
             have c30b1 : ((l0_3.length : Int) != 8) = false := bne_eq_false_iff_eq.mpr c30
             clear c30
             by_cases c31 : (l0_3.length : Int) ≤ 16384
             ·rw [if_pos c31] at H
              have c31b0 : decide ((l0_3.length : Int) ≤ 16384) = true := decide_eq_true c31
              have c31b1 : decide (l0_3.length ≤ 16384) = true := decide_eq_true (by omega)
              clear c31
              by_cases c32 : (l0_10.length : Int) ≤ 2730
              ·rw [if_pos c32] at H
               have c32b0 : decide ((l0_10.length : Int) ≤ 2730) = true := decide_eq_true c32
               have c32b1 : decide (l0_10.length ≤ 2730) = true := decide_eq_true (by omega)
               clear c32
               replace H := Option.bind_eq_some_iff.mp H
               obtain ⟨t173, A330, H⟩ := H
               replace H : (some (decide ((t173.length : Int) ≤ 16384))) = some r := H
               have A33 := Aside0.mk A330
               clear A330
               obtain rfl := Option.some.inj H
               obtain ⟨z34_0, z34_1, z34_2, z34_3, z34_4, z34_5, z34_6, z34_7, z34_8, z34_9, z34_10, y34_0, y34_1, y34_2, y34_3, y34_4, y34_5, y34_6, y34_7, y34_8, y34_9, y34_10⟩ := cf11 BK170.out
               go_wp2_with (first | (go_at_call 46; (with_reducible refine (frame_payload.calls kj23 a0_0 a0_1 a0_2 _ _ l0_3 a0_4 a0_5 a0_6 a0_7 a0_8 a0_9 _ _ l0_10 t173 _ ?side1 ?side2 ?side3 ?side4 A33.out).mono ?_); (case side1 => repeat (first | exact (Kd.C_below HR0_3.out HB.out) | (with_reducible refine Kd.C_alloc ?_ _) | (with_reducible refine Kd.C_drewN ?_ _) | (with_reducible refine Kd.C_drew ?_))); (case side2 => exact HC0_3.out); (case side3 => repeat (first | exact (Kd.C_below HR0_10.out HB.out) | (with_reducible refine Kd.C_alloc ?_ _) | (with_reducible refine Kd.C_drewN ?_ _) | (with_reducible refine Kd.C_drew ?_))); (case side4 => exact HC0_10.out); rintro e w35 ⟨v174, rfl, ho0, hb⟩; have n0_ := Aside0.mk (Kd.R_lower ho0 (below_size (by repeat (first | (with_reducible first | exact HB.out | apply below_alloc | apply pw_below_drewN | apply below_drew1 | refine below_set ?_ GE170.out) | exact HB.out)))); have n1_ := Aside0.mk (blk_below (g := gb170) (o := .cells #[.int .u8 a0_0, .int .u8 a0_1, .int .u32 a0_2, .slice A0_3 l0_3.length c0_3, .int .i64 a0_4, .int .u32 a0_5, .int .u32 a0_6, .int .u8 a0_7, .bool a0_8, .int .u32 a0_9, .slice A0_10 l0_10.length c0_10] 38 (0, 0)) (by (with_reducible repeat (first | refine blk_drewN ?_ _ | refine blk_drew ?_ | refine blk_alloc ?_ _)); exact BK170.out) hb); have n2_ := Aside0.mk (below_step (by repeat (first | (with_reducible first | exact HB.out | apply below_alloc | apply pw_below_drewN | apply below_drew1 | refine below_set ?_ GE170.out) | exact HB.out)) hb); clear BK170; clear HB; have HO175 := n0_; have BK170 := n1_; have HB := n2_; clear n0_ n1_ n2_; (try clear hb); (try clear hb2); (try clear hk); (try clear hi); (try clear ho0); obtain ⟨Ao36, co36, eo36⟩ := Kd.R_slice HO175.out; subst eo36))
               go_ret
               exact ⟨by first | rfl | (simp [errW_none, errW_some] <;> rfl) | (simp [*, errW_none, errW_some] <;> rfl), by repeat (first | (with_reducible first | exact HB.out | apply below_alloc | apply pw_below_drewN | apply below_drew1 | refine below_set ?_ GE170.out) | exact HB.out)⟩
              ·rw [if_neg c32] at H
               have c32b0 : decide ((l0_10.length : Int) ≤ 2730) = false := decide_eq_false c32
               have c32b1 : decide (l0_10.length ≤ 2730) = false := decide_eq_false (by omega)
               clear c32
               obtain rfl := Option.some.inj H
               obtain ⟨z37_0, z37_1, z37_2, z37_3, z37_4, z37_5, z37_6, z37_7, z37_8, z37_9, z37_10, y37_0, y37_1, y37_2, y37_3, y37_4, y37_5, y37_6, y37_7, y37_8, y37_9, y37_10⟩ := cf11 BK170.out
               go_wp2
               go_ret
               exact ⟨by first | rfl | (simp [errW_none, errW_some] <;> rfl) | (simp [*, errW_none, errW_some] <;> rfl), by repeat (first | (with_reducible first | exact HB.out | apply below_alloc | apply pw_below_drewN | apply below_drew1 | refine below_set ?_ GE170.out) | exact HB.out)⟩
             ·rw [if_neg c31] at H
              have c31b0 : decide ((l0_3.length : Int) ≤ 16384) = false := decide_eq_false c31
              have c31b1 : decide (l0_3.length ≤ 16384) = false := decide_eq_false (by omega)
              clear c31
              obtain rfl := Option.some.inj H
              obtain ⟨z38_0, z38_1, z38_2, z38_3, z38_4, z38_5, z38_6, z38_7, z38_8, z38_9, z38_10, y38_0, y38_1, y38_2, y38_3, y38_4, y38_5, y38_6, y38_7, y38_8, y38_9, y38_10⟩ := cf11 BK170.out
              go_wp2
              go_ret
              exact ⟨by first | rfl | (simp [errW_none, errW_some] <;> rfl) | (simp [*, errW_none, errW_some] <;> rfl), by repeat (first | (with_reducible first | exact HB.out | apply below_alloc | apply pw_below_drewN | apply below_drew1 | refine below_set ?_ GE170.out) | exact HB.out)⟩
            ·rw [if_neg c30] at H
             have c30b0 : ((l0_3.length : Int) == 8) = false := beq_eq_false_iff_ne.mpr c30
             have c30b1 : ((l0_3.length : Int) != 8) = true := bne_iff_ne.mpr c30
             obtain rfl := Option.some.inj H
             obtain ⟨z39_0, z39_1, z39_2, z39_3, z39_4, z39_5, z39_6, z39_7, z39_8, z39_9, z39_10, y39_0, y39_1, y39_2, y39_3, y39_4, y39_5, y39_6, y39_7, y39_8, y39_9, y39_10⟩ := cf11 BK170.out
             go_wp2
             go_ret
             exact ⟨by first | rfl | (simp [errW_none, errW_some] <;> rfl) | (simp [*, errW_none, errW_some] <;> rfl), by repeat (first | (with_reducible first | exact HB.out | apply below_alloc | apply pw_below_drewN | apply below_drew1 | refine below_set ?_ GE170.out) | exact HB.out)⟩
           ·rw [if_neg c29] at H
            have c29b0 : (a0_0 == 6) = false := beq_eq_false_iff_ne.mpr c29
            have c29b1 : (a0_0 != 6) = true := bne_iff_ne.mpr c29
            by_cases c40 : (l0_3.length : Int) ≤ 16384
            ·rw [if_pos c40] at H
             have c40b0 : decide ((l0_3.length : Int) ≤ 16384) = true := decide_eq_true c40
             have c40b1 : decide (l0_3.length ≤ 16384) = true := decide_eq_true (by omega)
             clear c40
             by_cases c41 : (l0_10.length : Int) ≤ 2730
             ·rw [if_pos c41] at H
              have c41b0 : decide ((l0_10.length : Int) ≤ 2730) = true := decide_eq_true c41
              have c41b1 : decide (l0_10.length ≤ 2730) = true := decide_eq_true (by omega)
              clear c41
              replace H := Option.bind_eq_some_iff.mp H
              obtain ⟨t176, A420, H⟩ := H
              replace H : (some (decide ((t176.length : Int) ≤ 16384))) = some r := H
              have A42 := Aside0.mk A420
              clear A420
              obtain rfl := Option.some.inj H
              obtain ⟨z43_0, z43_1, z43_2, z43_3, z43_4, z43_5, z43_6, z43_7, z43_8, z43_9, z43_10, y43_0, y43_1, y43_2, y43_3, y43_4, y43_5, y43_6, y43_7, y43_8, y43_9, y43_10⟩ := cf11 BK170.out
              go_wp2_with (first | (go_at_call 46; (with_reducible refine (frame_payload.calls kj23 a0_0 a0_1 a0_2 _ _ l0_3 a0_4 a0_5 a0_6 a0_7 a0_8 a0_9 _ _ l0_10 t176 _ ?side1 ?side2 ?side3 ?side4 A42.out).mono ?_); (case side1 => repeat (first | exact (Kd.C_below HR0_3.out HB.out) | (with_reducible refine Kd.C_alloc ?_ _) | (with_reducible refine Kd.C_drewN ?_ _) | (with_reducible refine Kd.C_drew ?_))); (case side2 => exact HC0_3.out); (case side3 => repeat (first | exact (Kd.C_below HR0_10.out HB.out) | (with_reducible refine Kd.C_alloc ?_ _) | (with_reducible refine Kd.C_drewN ?_ _) | (with_reducible refine Kd.C_drew ?_))); (case side4 => exact HC0_10.out); rintro e w44 ⟨v177, rfl, ho0, hb⟩; have n0_ := Aside0.mk (Kd.R_lower ho0 (below_size (by repeat (first | (with_reducible first | exact HB.out | apply below_alloc | apply pw_below_drewN | apply below_drew1 | refine below_set ?_ GE170.out) | exact HB.out)))); have n1_ := Aside0.mk (blk_below (g := gb170) (o := .cells #[.int .u8 a0_0, .int .u8 a0_1, .int .u32 a0_2, .slice A0_3 l0_3.length c0_3, .int .i64 a0_4, .int .u32 a0_5, .int .u32 a0_6, .int .u8 a0_7, .bool a0_8, .int .u32 a0_9, .slice A0_10 l0_10.length c0_10] 38 (0, 0)) (by (with_reducible repeat (first | refine blk_drewN ?_ _ | refine blk_drew ?_ | refine blk_alloc ?_ _)); exact BK170.out) hb); have n2_ := Aside0.mk (below_step (by repeat (first | (with_reducible first | exact HB.out | apply below_alloc | apply pw_below_drewN | apply below_drew1 | refine below_set ?_ GE170.out) | exact HB.out)) hb); clear BK170; clear HB; have HO178 := n0_; have BK170 := n1_; have HB := n2_; clear n0_ n1_ n2_; (try clear hb); (try clear hb2); (try clear hk); (try clear hi); (try clear ho0); obtain ⟨Ao45, co45, eo45⟩ := Kd.R_slice HO178.out; subst eo45))
              go_ret
              exact ⟨by first | rfl | (simp [errW_none, errW_some] <;> rfl) | (simp [*, errW_none, errW_some] <;> rfl), by repeat (first | (with_reducible first | exact HB.out | apply below_alloc | apply pw_below_drewN | apply below_drew1 | refine below_set ?_ GE170.out) | exact HB.out)⟩
             ·rw [if_neg c41] at H
              have c41b0 : decide ((l0_10.length : Int) ≤ 2730) = false := decide_eq_false c41
              have c41b1 : decide (l0_10.length ≤ 2730) = false := decide_eq_false (by omega)
              clear c41
              obtain rfl := Option.some.inj H
              obtain ⟨z46_0, z46_1, z46_2, z46_3, z46_4, z46_5, z46_6, z46_7, z46_8, z46_9, z46_10, y46_0, y46_1, y46_2, y46_3, y46_4, y46_5, y46_6, y46_7, y46_8, y46_9, y46_10⟩ := cf11 BK170.out
              go_wp2
              go_ret
              exact ⟨by first | rfl | (simp [errW_none, errW_some] <;> rfl) | (simp [*, errW_none, errW_some] <;> rfl), by repeat (first | (with_reducible first | exact HB.out | apply below_alloc | apply pw_below_drewN | apply below_drew1 | refine below_set ?_ GE170.out) | exact HB.out)⟩
            ·rw [if_neg c40] at H
             have c40b0 : decide ((l0_3.length : Int) ≤ 16384) = false := decide_eq_false c40
             have c40b1 : decide (l0_3.length ≤ 16384) = false := decide_eq_false (by omega)
             clear c40
             obtain rfl := Option.some.inj H
             obtain ⟨z47_0, z47_1, z47_2, z47_3, z47_4, z47_5, z47_6, z47_7, z47_8, z47_9, z47_10, y47_0, y47_1, y47_2, y47_3, y47_4, y47_5, y47_6, y47_7, y47_8, y47_9, y47_10⟩ := cf11 BK170.out
             go_wp2
             go_ret
             exact ⟨by first | rfl | (simp [errW_none, errW_some] <;> rfl) | (simp [*, errW_none, errW_some] <;> rfl), by repeat (first | (with_reducible first | exact HB.out | apply below_alloc | apply pw_below_drewN | apply below_drew1 | refine below_set ?_ GE170.out) | exact HB.out)⟩
end Go.Proofs.YtjjfkmniffbgkaaDoor.QFrmB
