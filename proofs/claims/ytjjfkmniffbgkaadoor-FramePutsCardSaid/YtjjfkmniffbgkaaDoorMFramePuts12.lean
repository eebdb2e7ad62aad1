/- Texts of this claim, put together: RfPut, FPure3, Hold3, RfMay, Clear2, Eq, FGets, FPuts, OpenBytes. -/
import Derived.Test.YtjjfkmniffbgkaaDoorMFramePuts11
import Derived.Test.YtjjfkmniffbgkaaDoorMFramePutsW2
import Derived.Deep.CutRange
import Derived.Test.YtjjfkmniffbgkaaDoorMFramePuts2
import Derived.Lib.SliceRun
import Derived.Lib.LazyBuf
import Derived.Deep.Upon
import Derived.Test.YtjjfkmniffbgkaaDoorProg
import Derived.Test.YtjjfkmniffbgkaaDoorMFramePuts10
import Derived.ChangeSlices
import Derived.Deep.Slices
import Derived.ChangeArms
import Derived.ChangeSame
import Derived.WideLaws
import Derived.OpenShut
import Derived.Lib.SmallJoins
import Derived.WideShapes
import Derived.ChangeShapes
import Derived.Test.YtjjfkmniffbgkaaDoorMFramePuts0
/- The reference of frames: Put, walked. (This text is printed by wip/gen/rput.py.) -/
namespace Go.Proofs.YtjjfkmniffbgkaaDoor
set_option linter.unusedVariables false
set_option linter.unusedSimpArgs false
open Go.RowKit Go.Proofs.YtjjfkmniffbgkaaDoorW.PrintWords Go.Proofs.YtjjfkmniffbgkaaDoorW.PrintLast Go.Proofs.YtjjfkmniffbgkaaDoorW.PrintMore Go.Proofs.YtjjfkmniffbgkaaDoor.QFrmA Go.Proofs.YtjjfkmniffbgkaaDoor.Given Go.Extern.Stop Go.Stop Go.Extern Go.Maps
def rputL (F : Fr) : List Int := beL ((rpayL F).length : Int) 3 ++ [F.ty, F.fl] ++ beL F.st 4 ++ rpayL F
set_option maxHeartbeats 8000000 in
set_option maxRecDepth 100000 in
theorem rput_calls (w : World) (F : Fr) (A B : Option Addr) (c m : Nat) (hA : Kd.C (Kd.int .u8) w A F.data.length F.data) (hc : F.data.length ≤ c) (hB : Kd.C k99 w B F.sets.length F.sets) (hm : F.sets.length ≤ m) (h : FrOk F)
  (hp0 : -1 ≤ F.pad) (hp1 : F.pad ≤ 255) (hd : F.data.length ≤ 100000) (hs : F.sets.length ≤ 10000) (hst : 0 ≤ F.st) (hst1 : F.st ≤ 4294967295) (hl : (rpayL F).length ≤ 16384) :
  Calls Tryd.prog 24 #[.agg (frC F (.slice A F.data.length c) (.slice B F.sets.length m))] w fun e w' => e = .returned (.string (strOfNums (rputL F))) ∧ Below w.heap.size w w' := by
 refine of_post0 fun R hRR => ?_
 have HP := Lib.hid hRR
 have HC := Lib.hid (fun W (H : Below w.heap.size w W) => rpay_calls W F A B c m (Kd.C_below hA H) hc (Kd.C_below hB H) hm h hp0 hp1 hd hs)
 have hzp := str_size (rpayL F)
 have HE := Lib.hid (show strOfNums (rputL F) = strOfNums (beL ((rpayL F).length : Int) 3) ++ strOfNums [F.ty, F.fl] ++ strOfNums (beL F.st 4) ++ strOfNums (rpayL F) by unfold rputL; simp only [strs_append])
 generalize (rpayL F).length = n at hzp hl HE
 have u1 : IntKind.u64.wrap ((n : Nat) : Int) = (n : Int) := u64_wrap (by omega) (by omega)
 have u2 : IntKind.u64.wrap F.st = F.st := u64_wrap hst (by omega)
 have N3 := Lib.hid (fun W => rnumber_calls W (n : Int) 3 (by decide) (by omega) (by omega))
 have N4 := Lib.hid (fun W => rnumber_calls W F.st 4 (by decide) hst (by omega))
 have z3 : (strOfNums (beL (n : Int) 3)).size = 3 := by rw [str_size, beL_length]
 have z4 : (strOfNums (beL F.st 4)).size = 4 := by rw [str_size, beL_length]
 have z2 : (strOfNums [F.ty, F.fl]).size = 2 := by rw [str_size]; rfl
 generalize strOfNums (beL (n : Int) 3) = s3 at N3 z3 HE
 generalize strOfNums (beL F.st 4) = s4 at N4 z4 HE
 generalize strOfNums (rpayL F) = sP at HC hzp HE
 have c1 := eq_false (Nat.not_lt.2 (show s3.size + (strOfNums [F.ty, F.fl]).size ≤ 9223372036854775807 by rw [z3, z2]; decide))
 have c2 := eq_false (Nat.not_lt.2 (show s3.size + (strOfNums [F.ty, F.fl]).size + s4.size ≤ 9223372036854775807 by rw [z3, z2, z4]; decide))
 have c3 := eq_false (Nat.not_lt.2 (show s3.size + (strOfNums [F.ty, F.fl]).size + s4.size + n ≤ 9223372036854775807 by rw [z3, z2, z4]; omega))
 clear hRR h hA hc hB hm hp0 hp1 hd hs hst hst1 hl z3 z4 z2
 have H : Hold w w [] [] := Hold.nothing (Kept.refl _ _)
 go_enter Tryd.func24, Tryd.ntmps24
 go_upto_region 2 with (first
  | (refine box_h H rfl rfl rfl rfl ?_; clear H; intro g w_ H)
  | (refine load_h H rfl rfl rfl (by repeat (first | exact List.Mem.head _ | apply List.Mem.tail)) (by kernel_rfl) (by kernel_rfl) ?_)
  | (go_at_call 52; refine (HC.out _ H.all).mono ?_; rintro e_ w_ ⟨rfl, h_⟩; replace H := H.below h_; clear h_))
 replace H := H.below (below_drew (Below.refl _ _))
 refine start_ (n := 19) (S := fun w' => w'.cell? ⟨g, 0, none⟩ = some (.int .u8 F.ty) ∧ w'.cell? ⟨g, 1, none⟩ = some (.int .u8 F.fl) ∧ w'.cell? ⟨g, 2, none⟩ = some (.int .u32 F.st)) (ds := []) #[false, false, false, false, false, false, false, false, false, false, false, false, false, false, false, false, false, false, false] (by kernel_rfl) rfl rfl ⟨((H.cell (by repeat (first | exact List.Mem.head _ | apply List.Mem.tail)) 0).trans rfl), ((H.cell (by repeat (first | exact List.Mem.head _ | apply List.Mem.tail)) 1).trans rfl), ((H.cell (by repeat (first | exact List.Mem.head _ | apply List.Mem.tail)) 2).trans rfl)⟩ (fun hHeld => ?_)
 generalize World.drew _ = wy at H hHeld ⊢
 refine pure_ (i := 0) (N := some 6) (v := ?_) (a' := ?_) #[true, false, false, false, false, false, false, false, false, false, false, false, false, false, false, false, false, false, false] rfl rfl (by kernel_rfl) (fun _ _ _ h => h) (Or.inl ⟨by rfl, ?_⟩) ?_ ?_
 rotate_left
 ·intro w'
  go_simp
  with_reducible rfl
 rotate_left
 ·simp only [Act.put, putA, putB, putC]
  rfl
 refine pure_ (i := 1) (N := some 7) (v := ?_) (a' := ?_) #[true, true, false, false, false, false, false, false, false, false, false, false, false, false, false, false, false, false, false] rfl rfl (by kernel_rfl) (fun _ _ _ h => h) (Or.inl ⟨by rfl, ?_⟩) ?_ ?_
 rotate_left
 ·intro w'
  go_simp
  with_reducible rfl
 rotate_left
 ·simp only [Act.put, putA, putB, putC]
  rfl
 refine pure_ (i := 2) (N := some 8) (v := ?_) (a' := ?_) #[true, true, true, false, false, false, false, false, false, false, false, false, false, false, false, false, false, false, false] rfl rfl (by kernel_rfl) (fun _ _ _ h => h) (Or.inl ⟨by rfl, ?_⟩) ?_ ?_
 rotate_left
 ·intro w'
  go_simp
  with_reducible rfl
 rotate_left
 ·simp only [Act.put, putA, putB, putC]
  rfl
 refine pure_ (i := 4) (N := some 10) (v := ?_) (a' := ?_) #[true, true, true, false, true, false, false, false, false, false, false, false, false, false, false, false, false, false, false] rfl rfl (by kernel_rfl) (fun _ _ _ h => h) (Or.inl ⟨by rfl, ?_⟩) ?_ ?_
 rotate_left
 ·intro w'
  go_simp
  with_reducible rfl
 rotate_left
 ·simp only [Act.put, putA, putB, putC]
  rfl
 refine take_ (i := 5) (N := some 11) (v := ?_) (a' := ?_) #[true, true, true, false, true, true, false, false, false, false, false, false, false, false, false, false, false, false, false] rfl rfl (by kernel_rfl) (fun _ _ _ h => h) (Or.inl ⟨by rfl, ?_⟩) hHeld ?_ ?_
 rotate_left
 ·rintro w' ⟨s0, s1, s2⟩
  go_simp
  with_reducible rfl
 rotate_left
 ·simp only [Act.put, putA, putB, putC]
  rfl
 refine pure_ (i := 6) (N := some 12) (v := ?_) (a' := ?_) #[true, true, true, false, true, true, true, false, false, false, false, false, false, false, false, false, false, false, false] rfl rfl (by kernel_rfl) (fun _ _ _ h => h) (Or.inl ⟨by rfl, ?_⟩) ?_ ?_
 rotate_left
 ·intro w'
  go_simp
  with_reducible rfl
 rotate_left
 ·simp only [Act.put, putA, putB, putC]
  rfl
 refine take_ (i := 7) (N := some 13) (v := ?_) (a' := ?_) #[true, true, true, false, true, true, true, true, false, false, false, false, false, false, false, false, false, false, false] rfl rfl (by kernel_rfl) (fun _ _ _ h => h) (Or.inl ⟨by rfl, ?_⟩) hHeld ?_ ?_
 rotate_left
 ·rintro w' ⟨s0, s1, s2⟩
  go_simp
  with_reducible rfl
 rotate_left
 ·simp only [Act.put, putA, putB, putC]
  rfl
 refine pure_ (i := 11) (N := some 17) (v := ?_) (a' := ?_) #[true, true, true, false, true, true, true, true, false, false, false, true, false, false, false, false, false, false, false] rfl rfl (by kernel_rfl) (fun _ _ _ h => h) (Or.inl ⟨by rfl, ?_⟩) ?_ ?_
 rotate_left
 ·intro w'
  go_simp
  with_reducible rfl
 rotate_left
 ·simp only [Act.put, putA, putB, putC]
  rfl
 refine take_ (i := 12) (N := some 18) (v := ?_) (a' := ?_) #[true, true, true, false, true, true, true, true, false, false, false, true, true, false, false, false, false, false, false] rfl rfl (by kernel_rfl) (fun _ _ _ h => h) (Or.inl ⟨by rfl, ?_⟩) hHeld ?_ ?_
 rotate_left
 ·rintro w' ⟨s0, s1, s2⟩
  go_simp
  with_reducible rfl
 rotate_left
 ·simp only [Act.put, putA, putB, putC]
  rfl
 refine pure_ (i := 13) (N := some 19) (v := ?_) (a' := ?_) #[true, true, true, false, true, true, true, true, false, false, false, true, true, true, false, false, false, false, false] rfl rfl (by kernel_rfl) (fun _ _ _ h => h) (Or.inl ⟨by rfl, ?_⟩) ?_ ?_
 rotate_left
 ·intro w'
  go_simp
  with_reducible rfl
 rotate_left
 ·simp only [Act.put, putA, putB, putC]
  rfl
 refine pure_ (i := 16) (N := some 22) (v := ?_) (a' := ?_) #[true, true, true, false, true, true, true, true, false, false, false, true, true, true, false, false, true, false, false] rfl rfl (by kernel_rfl) (fun _ _ _ h => h) (Or.inl ⟨by rfl, ?_⟩) ?_ ?_
 rotate_left
 ·intro w'
  go_simp
  with_reducible rfl
 rotate_left
 ·simp only [Act.put, putA, putB, putC]
  rfl
 refine two_ (i := 3) (j := 8) (Ni := some 9) (Nj := some 14) #[true, true, true, true, true, true, true, true, false, false, false, true, true, true, false, false, true, false, false] #[true, true, true, false, true, true, true, true, true, false, false, true, true, true, false, false, true, false, false] rfl rfl rfl rfl (by kernel_rfl) (by decide) (by decide) (fun K hK => ?_) (fun K hK => ?_)
 ·refine goes_ Tryd.func30 (by kernel_rfl) rfl #[.int .u64 (n : Int), .int .i64 ((3 : Nat) : Int)] (by rfl) rfl rfl (by (try simp only [List.map_toArray, List.map_cons, List.map_nil]); first | done | rfl) ?_
  refine (N3.out _).mono ?_
  rintro e_ w9 ⟨rfl, h_⟩
  replace H := H.below h_
  refine ⟨_, rfl, ?_⟩
  have hS := Lib.hid (show (fun w' : World => w'.cell? ⟨g, 0, none⟩ = some (.int .u8 F.ty) ∧ w'.cell? ⟨g, 1, none⟩ = some (.int .u8 F.fl) ∧ w'.cell? ⟨g, 2, none⟩ = some (.int .u32 F.st)) _ from ⟨pw_cell_below h_ hHeld.1, pw_cell_below h_ hHeld.2.1, pw_cell_below h_ hHeld.2.2⟩)
  clear h_
  refine hK.out _ _ hS.out (fun hHeld => ?_)
  clear hK K
  clear hS
  refine norm_ (a' := ?_) ?_ ?_
  rotate_left
  ·show Act.put _ (some 9) _ = _
   simp only [Act.put, putA, putB, putC]
   rfl
  refine two_ (i := 8) (j := 14) (Ni := some 14) (Nj := some 20) #[true, true, true, true, true, true, true, true, true, false, false, true, true, true, false, false, true, false, false] #[true, true, true, true, true, true, true, true, false, false, false, true, true, true, true, false, true, false, false] rfl rfl rfl rfl (by kernel_rfl) (by decide) (by decide) (fun K hK => ?_) (fun K hK => ?_)
  ·refine lit_o H (by rfl) (e := 5) (k := .u8) [F.ty, F.fl] (by first | (go_simp; done) | (go_simp; rfl)) (Nat.le_of_ble_eq_true rfl) ?_
   clear H
   intro g_ w_ H h_
   have hS := Lib.hid (show (fun w' : World => w'.cell? ⟨g, 0, none⟩ = some (.int .u8 F.ty) ∧ w'.cell? ⟨g, 1, none⟩ = some (.int .u8 F.fl) ∧ w'.cell? ⟨g, 2, none⟩ = some (.int .u32 F.st)) _ from ⟨pw_cell_below h_ hHeld.1, pw_cell_below h_ hHeld.2.1, pw_cell_below h_ hHeld.2.2⟩)
   clear h_
   refine hK.out _ _ hS.out (fun hHeld => ?_)
   clear hK K
   clear hS
   refine norm_ (a' := ?_) ?_ ?_
   rotate_left
   ·show Act.put _ (some 14) _ = _
    simp only [Act.put, putA, putB, putC]
    rfl
   refine two_ (i := 9) (j := 14) (Ni := some 15) (Nj := some 20) #[true, true, true, true, true, true, true, true, true, true, false, true, true, true, false, false, true, false, false] #[true, true, true, true, true, true, true, true, true, false, false, true, true, true, true, false, true, false, false] rfl rfl rfl rfl (by kernel_rfl) (by decide) (by decide) (fun K hK => ?_) (fun K hK => ?_)
   ·refine conv_o H (by rfl) rfl rfl (by repeat (first | exact List.Mem.head _ | apply List.Mem.tail)) Tryd.underlying35 Tryd.underlying5 Tryd.underlying9 ?_
    refine hK.out _ _ hHeld (fun hHeld => ?_)
    clear hK K
    refine norm_ (a' := ?_) ?_ ?_
    rotate_left
    ·show Act.put _ (some 15) _ = _
     simp only [Act.put, putA, putB, putC]
     rfl
    refine pure_ (i := 10) (N := some 16) (v := ?_) (a' := ?_) #[true, true, true, true, true, true, true, true, true, true, true, true, true, true, false, false, true, false, false] rfl rfl (by kernel_rfl) (fun _ _ _ h => h) (Or.inl ⟨by rfl, ?_⟩) ?_ ?_
    rotate_left
    ·intro w'
     go_simp
     with_reducible rfl
    rotate_left
    ·simp only [Act.put, putA, putB, putC]
     rfl
    refine one_ (i := 14) (N := some 20) #[true, true, true, true, true, true, true, true, true, true, true, true, true, true, true, false, true, false, false] rfl rfl (by kernel_rfl) (by decide) (fun K hK => ?_)
    refine goes_ Tryd.func30 (by kernel_rfl) rfl #[.int .u64 F.st, .int .i64 ((4 : Nat) : Int)] (by rfl) rfl rfl (by (try simp only [List.map_toArray, List.map_cons, List.map_nil]); first | done | rfl) ?_
    refine (N4.out _).mono ?_
    rintro e_ w9 ⟨rfl, h_⟩
    replace H := H.below h_
    refine ⟨_, rfl, ?_⟩
    have hS := Lib.hid (show (fun w' : World => w'.cell? ⟨g, 0, none⟩ = some (.int .u8 F.ty) ∧ w'.cell? ⟨g, 1, none⟩ = some (.int .u8 F.fl) ∧ w'.cell? ⟨g, 2, none⟩ = some (.int .u32 F.st)) _ from ⟨pw_cell_below h_ hHeld.1, pw_cell_below h_ hHeld.2.1, pw_cell_below h_ hHeld.2.2⟩)
    clear h_
    refine hK.out _ _ hS.out (fun hHeld => ?_)
    clear hK K
    clear hS
    refine norm_ (a' := ?_) ?_ ?_
    rotate_left
    ·show Act.put _ (some 20) _ = _
     simp only [Act.put, putA, putB, putC]
     rfl
    refine pure_ (i := 15) (N := some 21) (v := ?_) (a' := ?_) #[true, true, true, true, true, true, true, true, true, true, true, true, true, true, true, true, true, false, false] rfl rfl (by kernel_rfl) (fun _ _ _ h => h) (Or.inl ⟨by rfl, ?_⟩) ?_ ?_
    rotate_left
    ·intro w'
     go_simp
     with_reducible rfl
    rotate_left
    ·simp only [Act.put, putA, putB, putC]
     rfl
    refine pure_ (i := 17) (N := some 23) (v := ?_) (a' := ?_) #[true, true, true, true, true, true, true, true, true, true, true, true, true, true, true, true, true, true, false] rfl rfl (by kernel_rfl) (fun _ _ _ h => h) (Or.inl ⟨by rfl, ?_⟩) ?_ ?_
    rotate_left
    ·intro w'
     go_simp
     with_reducible rfl
    rotate_left
    ·simp only [Act.put, putA, putB, putC]
     rfl
    refine pure_ (i := 18) (N := some 2) (v := ?_) (a' := ?_) #[true, true, true, true, true, true, true, true, true, true, true, true, true, true, true, true, true, true, true] rfl rfl (by kernel_rfl) (fun _ _ _ h => h) (Or.inl ⟨by rfl, ?_⟩) ?_ ?_
    rotate_left
    ·intro w'
     go_simp
     with_reducible rfl
    rotate_left
    ·simp only [Act.put, putA, putB, putC]
     rfl
    refine done_ (by kernel_rfl) ?_
    go_wp2_with fail
    exact HP.out _ _ ⟨by rw [HE.out]; rfl, H.all⟩
   ·refine goes_ Tryd.func30 (by kernel_rfl) rfl #[.int .u64 F.st, .int .i64 ((4 : Nat) : Int)] (by rfl) rfl rfl (by (try simp only [List.map_toArray, List.map_cons, List.map_nil]); first | done | rfl) ?_
    refine (N4.out _).mono ?_
    rintro e_ w9 ⟨rfl, h_⟩
    replace H := H.below h_
    refine ⟨_, rfl, ?_⟩
    have hS := Lib.hid (show (fun w' : World => w'.cell? ⟨g, 0, none⟩ = some (.int .u8 F.ty) ∧ w'.cell? ⟨g, 1, none⟩ = some (.int .u8 F.fl) ∧ w'.cell? ⟨g, 2, none⟩ = some (.int .u32 F.st)) _ from ⟨pw_cell_below h_ hHeld.1, pw_cell_below h_ hHeld.2.1, pw_cell_below h_ hHeld.2.2⟩)
    clear h_
    refine hK.out _ _ hS.out (fun hHeld => ?_)
    clear hK K
    clear hS
    refine norm_ (a' := ?_) ?_ ?_
    rotate_left
    ·show Act.put _ (some 20) _ = _
     simp only [Act.put, putA, putB, putC]
     rfl
    refine one_ (i := 9) (N := some 15) #[true, true, true, true, true, true, true, true, true, true, false, true, true, true, true, false, true, false, false] rfl rfl (by kernel_rfl) (by decide) (fun K hK => ?_)
    refine conv_o H (by rfl) rfl rfl (by repeat (first | exact List.Mem.head _ | apply List.Mem.tail)) Tryd.underlying35 Tryd.underlying5 Tryd.underlying9 ?_
    refine hK.out _ _ hHeld (fun hHeld => ?_)
    clear hK K
    refine norm_ (a' := ?_) ?_ ?_
    rotate_left
    ·show Act.put _ (some 15) _ = _
     simp only [Act.put, putA, putB, putC]
     rfl
    refine pure_ (i := 10) (N := some 16) (v := ?_) (a' := ?_) #[true, true, true, true, true, true, true, true, true, true, true, true, true, true, true, false, true, false, false] rfl rfl (by kernel_rfl) (fun _ _ _ h => h) (Or.inl ⟨by rfl, ?_⟩) ?_ ?_
    rotate_left
    ·intro w'
     go_simp
     with_reducible rfl
    rotate_left
    ·simp only [Act.put, putA, putB, putC]
     rfl
    refine pure_ (i := 15) (N := some 21) (v := ?_) (a' := ?_) #[true, true, true, true, true, true, true, true, true, true, true, true, true, true, true, true, true, false, false] rfl rfl (by kernel_rfl) (fun _ _ _ h => h) (Or.inl ⟨by rfl, ?_⟩) ?_ ?_
    rotate_left
    ·intro w'
     go_simp
     with_reducible rfl
    rotate_left
    ·simp only [Act.put, putA, putB, putC]
     rfl
    refine pure_ (i := 17) (N := some 23) (v := ?_) (a' := ?_) #[true, true, true, true, true, true, true, true, true, true, true, true, true, true, true, true, true, true, false] rfl rfl (by kernel_rfl) (fun _ _ _ h => h) (Or.inl ⟨by rfl, ?_⟩) ?_ ?_
    rotate_left
    ·intro w'
     go_simp
     with_reducible rfl
    rotate_left
    ·simp only [Act.put, putA, putB, putC]
     rfl
    refine pure_ (i := 18) (N := some 2) (v := ?_) (a' := ?_) #[true, true, true, true, true, true, true, true, true, true, true, true, true, true, true, true, true, true, true] rfl rfl (by kernel_rfl) (fun _ _ _ h => h) (Or.inl ⟨by rfl, ?_⟩) ?_ ?_
    rotate_left
    ·intro w'
     go_simp
     with_reducible rfl
    rotate_left
    ·simp only [Act.put, putA, putB, putC]
     rfl
    refine done_ (by kernel_rfl) ?_
    go_wp2_with fail
    exact HP.out _ _ ⟨by rw [HE.out]; rfl, H.all⟩
  ·refine goes_ Tryd.func30 (by kernel_rfl) rfl #[.int .u64 F.st, .int .i64 ((4 : Nat) : Int)] (by rfl) rfl rfl (by (try simp only [List.map_toArray, List.map_cons, List.map_nil]); first | done | rfl) ?_
   refine (N4.out _).mono ?_
   rintro e_ w9 ⟨rfl, h_⟩
   replace H := H.below h_
   refine ⟨_, rfl, ?_⟩
   have hS := Lib.hid (show (fun w' : World => w'.cell? ⟨g, 0, none⟩ = some (.int .u8 F.ty) ∧ w'.cell? ⟨g, 1, none⟩ = some (.int .u8 F.fl) ∧ w'.cell? ⟨g, 2, none⟩ = some (.int .u32 F.st)) _ from ⟨pw_cell_below h_ hHeld.1, pw_cell_below h_ hHeld.2.1, pw_cell_below h_ hHeld.2.2⟩)
   clear h_
   refine hK.out _ _ hS.out (fun hHeld => ?_)
   clear hK K
   clear hS
   refine norm_ (a' := ?_) ?_ ?_
   rotate_left
   ·show Act.put _ (some 20) _ = _
    simp only [Act.put, putA, putB, putC]
    rfl
   refine one_ (i := 8) (N := some 14) #[true, true, true, true, true, true, true, true, true, false, false, true, true, true, true, false, true, false, false] rfl rfl (by kernel_rfl) (by decide) (fun K hK => ?_)
   refine lit_o H (by rfl) (e := 5) (k := .u8) [F.ty, F.fl] (by first | (go_simp; done) | (go_simp; rfl)) (Nat.le_of_ble_eq_true rfl) ?_
   clear H
   intro g_ w_ H h_
   have hS := Lib.hid (show (fun w' : World => w'.cell? ⟨g, 0, none⟩ = some (.int .u8 F.ty) ∧ w'.cell? ⟨g, 1, none⟩ = some (.int .u8 F.fl) ∧ w'.cell? ⟨g, 2, none⟩ = some (.int .u32 F.st)) _ from ⟨pw_cell_below h_ hHeld.1, pw_cell_below h_ hHeld.2.1, pw_cell_below h_ hHeld.2.2⟩)
   clear h_
   refine hK.out _ _ hS.out (fun hHeld => ?_)
   clear hK K
   clear hS
   refine norm_ (a' := ?_) ?_ ?_
   rotate_left
   ·show Act.put _ (some 14) _ = _
    simp only [Act.put, putA, putB, putC]
    rfl
   refine one_ (i := 9) (N := some 15) #[true, true, true, true, true, true, true, true, true, true, false, true, true, true, true, false, true, false, false] rfl rfl (by kernel_rfl) (by decide) (fun K hK => ?_)
   refine conv_o H (by rfl) rfl rfl (by repeat (first | exact List.Mem.head _ | apply List.Mem.tail)) Tryd.underlying35 Tryd.underlying5 Tryd.underlying9 ?_
   refine hK.out _ _ hHeld (fun hHeld => ?_)
   clear hK K
   refine norm_ (a' := ?_) ?_ ?_
   rotate_left
   ·show Act.put _ (some 15) _ = _
    simp only [Act.put, putA, putB, putC]
    rfl
   refine pure_ (i := 10) (N := some 16) (v := ?_) (a' := ?_) #[true, true, true, true, true, true, true, true, true, true, true, true, true, true, true, false, true, false, false] rfl rfl (by kernel_rfl) (fun _ _ _ h => h) (Or.inl ⟨by rfl, ?_⟩) ?_ ?_
   rotate_left
   ·intro w'
    go_simp
    with_reducible rfl
   rotate_left
   ·simp only [Act.put, putA, putB, putC]
    rfl
   refine pure_ (i := 15) (N := some 21) (v := ?_) (a' := ?_) #[true, true, true, true, true, true, true, true, true, true, true, true, true, true, true, true, true, false, false] rfl rfl (by kernel_rfl) (fun _ _ _ h => h) (Or.inl ⟨by rfl, ?_⟩) ?_ ?_
   rotate_left
   ·intro w'
    go_simp
    with_reducible rfl
   rotate_left
   ·simp only [Act.put, putA, putB, putC]
    rfl
   refine pure_ (i := 17) (N := some 23) (v := ?_) (a' := ?_) #[true, true, true, true, true, true, true, true, true, true, true, true, true, true, true, true, true, true, false] rfl rfl (by kernel_rfl) (fun _ _ _ h => h) (Or.inl ⟨by rfl, ?_⟩) ?_ ?_
   rotate_left
   ·intro w'
    go_simp
    with_reducible rfl
   rotate_left
   ·simp only [Act.put, putA, putB, putC]
    rfl
   refine pure_ (i := 18) (N := some 2) (v := ?_) (a' := ?_) #[true, true, true, true, true, true, true, true, true, true, true, true, true, true, true, true, true, true, true] rfl rfl (by kernel_rfl) (fun _ _ _ h => h) (Or.inl ⟨by rfl, ?_⟩) ?_ ?_
   rotate_left
   ·intro w'
    go_simp
    with_reducible rfl
   rotate_left
   ·simp only [Act.put, putA, putB, putC]
    rfl
   refine done_ (by kernel_rfl) ?_
   go_wp2_with fail
   exact HP.out _ _ ⟨by rw [HE.out]; rfl, H.all⟩
 ·refine lit_o H (by rfl) (e := 5) (k := .u8) [F.ty, F.fl] (by first | (go_simp; done) | (go_simp; rfl)) (Nat.le_of_ble_eq_true rfl) ?_
  clear H
  intro g_ w_ H h_
  have hS := Lib.hid (show (fun w' : World => w'.cell? ⟨g, 0, none⟩ = some (.int .u8 F.ty) ∧ w'.cell? ⟨g, 1, none⟩ = some (.int .u8 F.fl) ∧ w'.cell? ⟨g, 2, none⟩ = some (.int .u32 F.st)) _ from ⟨pw_cell_below h_ hHeld.1, pw_cell_below h_ hHeld.2.1, pw_cell_below h_ hHeld.2.2⟩)
  clear h_
  refine hK.out _ _ hS.out (fun hHeld => ?_)
  clear hK K
  clear hS
  refine norm_ (a' := ?_) ?_ ?_
  rotate_left
  ·show Act.put _ (some 14) _ = _
   simp only [Act.put, putA, putB, putC]
   rfl
  refine two_ (i := 3) (j := 9) (Ni := some 9) (Nj := some 15) #[true, true, true, true, true, true, true, true, true, false, false, true, true, true, false, false, true, false, false] #[true, true, true, false, true, true, true, true, true, true, false, true, true, true, false, false, true, false, false] rfl rfl rfl rfl (by kernel_rfl) (by decide) (by decide) (fun K hK => ?_) (fun K hK => ?_)
  ·refine goes_ Tryd.func30 (by kernel_rfl) rfl #[.int .u64 (n : Int), .int .i64 ((3 : Nat) : Int)] (by rfl) rfl rfl (by (try simp only [List.map_toArray, List.map_cons, List.map_nil]); first | done | rfl) ?_
   refine (N3.out _).mono ?_
   rintro e_ w9 ⟨rfl, h_⟩
   replace H := H.below h_
   refine ⟨_, rfl, ?_⟩
   have hS := Lib.hid (show (fun w' : World => w'.cell? ⟨g, 0, none⟩ = some (.int .u8 F.ty) ∧ w'.cell? ⟨g, 1, none⟩ = some (.int .u8 F.fl) ∧ w'.cell? ⟨g, 2, none⟩ = some (.int .u32 F.st)) _ from ⟨pw_cell_below h_ hHeld.1, pw_cell_below h_ hHeld.2.1, pw_cell_below h_ hHeld.2.2⟩)
   clear h_
   refine hK.out _ _ hS.out (fun hHeld => ?_)
   clear hK K
   clear hS
   refine norm_ (a' := ?_) ?_ ?_
   rotate_left
   ·show Act.put _ (some 9) _ = _
    simp only [Act.put, putA, putB, putC]
    rfl
   refine two_ (i := 9) (j := 14) (Ni := some 15) (Nj := some 20) #[true, true, true, true, true, true, true, true, true, true, false, true, true, true, false, false, true, false, false] #[true, true, true, true, true, true, true, true, true, false, false, true, true, true, true, false, true, false, false] rfl rfl rfl rfl (by kernel_rfl) (by decide) (by decide) (fun K hK => ?_) (fun K hK => ?_)
   ·refine conv_o H (by rfl) rfl rfl (by repeat (first | exact List.Mem.head _ | apply List.Mem.tail)) Tryd.underlying35 Tryd.underlying5 Tryd.underlying9 ?_
    refine hK.out _ _ hHeld (fun hHeld => ?_)
    clear hK K
    refine norm_ (a' := ?_) ?_ ?_
    rotate_left
    ·show Act.put _ (some 15) _ = _
     simp only [Act.put, putA, putB, putC]
     rfl
    refine pure_ (i := 10) (N := some 16) (v := ?_) (a' := ?_) #[true, true, true, true, true, true, true, true, true, true, true, true, true, true, false, false, true, false, false] rfl rfl (by kernel_rfl) (fun _ _ _ h => h) (Or.inl ⟨by rfl, ?_⟩) ?_ ?_
    rotate_left
    ·intro w'
     go_simp
     with_reducible rfl
    rotate_left
    ·simp only [Act.put, putA, putB, putC]
     rfl
    refine one_ (i := 14) (N := some 20) #[true, true, true, true, true, true, true, true, true, true, true, true, true, true, true, false, true, false, false] rfl rfl (by kernel_rfl) (by decide) (fun K hK => ?_)
    refine goes_ Tryd.func30 (by kernel_rfl) rfl #[.int .u64 F.st, .int .i64 ((4 : Nat) : Int)] (by rfl) rfl rfl (by (try simp only [List.map_toArray, List.map_cons, List.map_nil]); first | done | rfl) ?_
    refine (N4.out _).mono ?_
    rintro e_ w9 ⟨rfl, h_⟩
    replace H := H.below h_
    refine ⟨_, rfl, ?_⟩
    have hS := Lib.hid (show (fun w' : World => w'.cell? ⟨g, 0, none⟩ = some (.int .u8 F.ty) ∧ w'.cell? ⟨g, 1, none⟩ = some (.int .u8 F.fl) ∧ w'.cell? ⟨g, 2, none⟩ = some (.int .u32 F.st)) _ from ⟨pw_cell_below h_ hHeld.1, pw_cell_below h_ hHeld.2.1, pw_cell_below h_ hHeld.2.2⟩)
    clear h_
    refine hK.out _ _ hS.out (fun hHeld => ?_)
    clear hK K
    clear hS
    refine norm_ (a' := ?_) ?_ ?_
    rotate_left
    ·show Act.put _ (some 20) _ = _
     simp only [Act.put, putA, putB, putC]
     rfl
    refine pure_ (i := 15) (N := some 21) (v := ?_) (a' := ?_) #[true, true, true, true, true, true, true, true, true, true, true, true, true, true, true, true, true, false, false] rfl rfl (by kernel_rfl) (fun _ _ _ h => h) (Or.inl ⟨by rfl, ?_⟩) ?_ ?_
    rotate_left
    ·intro w'
     go_simp
     with_reducible rfl
    rotate_left
    ·simp only [Act.put, putA, putB, putC]
     rfl
    refine pure_ (i := 17) (N := some 23) (v := ?_) (a' := ?_) #[true, true, true, true, true, true, true, true, true, true, true, true, true, true, true, true, true, true, false] rfl rfl (by kernel_rfl) (fun _ _ _ h => h) (Or.inl ⟨by rfl, ?_⟩) ?_ ?_
    rotate_left
    ·intro w'
     go_simp
     with_reducible rfl
    rotate_left
    ·simp only [Act.put, putA, putB, putC]
     rfl
    refine pure_ (i := 18) (N := some 2) (v := ?_) (a' := ?_) #[true, true, true, true, true, true, true, true, true, true, true, true, true, true, true, true, true, true, true] rfl rfl (by kernel_rfl) (fun _ _ _ h => h) (Or.inl ⟨by rfl, ?_⟩) ?_ ?_
    rotate_left
    ·intro w'
     go_simp
     with_reducible rfl
    rotate_left
    ·simp only [Act.put, putA, putB, putC]
     rfl
    refine done_ (by kernel_rfl) ?_
    go_wp2_with fail
    exact HP.out _ _ ⟨by rw [HE.out]; rfl, H.all⟩
   ·refine goes_ Tryd.func30 (by kernel_rfl) rfl #[.int .u64 F.st, .int .i64 ((4 : Nat) : Int)] (by rfl) rfl rfl (by (try simp only [List.map_toArray, List.map_cons, List.map_nil]); first | done | rfl) ?_
    refine (N4.out _).mono ?_
    rintro e_ w9 ⟨rfl, h_⟩
    replace H := H.below h_
    refine ⟨_, rfl, ?_⟩
    have hS := Lib.hid (show (fun w' : World => w'.cell? ⟨g, 0, none⟩ = some (.int .u8 F.ty) ∧ w'.cell? ⟨g, 1, none⟩ = some (.int .u8 F.fl) ∧ w'.cell? ⟨g, 2, none⟩ = some (.int .u32 F.st)) _ from ⟨pw_cell_below h_ hHeld.1, pw_cell_below h_ hHeld.2.1, pw_cell_below h_ hHeld.2.2⟩)
    clear h_
    refine hK.out _ _ hS.out (fun hHeld => ?_)
    clear hK K
    clear hS
    refine norm_ (a' := ?_) ?_ ?_
    rotate_left
    ·show Act.put _ (some 20) _ = _
     simp only [Act.put, putA, putB, putC]
     rfl
    refine one_ (i := 9) (N := some 15) #[true, true, true, true, true, true, true, true, true, true, false, true, true, true, true, false, true, false, false] rfl rfl (by kernel_rfl) (by decide) (fun K hK => ?_)
    refine conv_o H (by rfl) rfl rfl (by repeat (first | exact List.Mem.head _ | apply List.Mem.tail)) Tryd.underlying35 Tryd.underlying5 Tryd.underlying9 ?_
    refine hK.out _ _ hHeld (fun hHeld => ?_)
    clear hK K
    refine norm_ (a' := ?_) ?_ ?_
    rotate_left
    ·show Act.put _ (some 15) _ = _
     simp only [Act.put, putA, putB, putC]
     rfl
    refine pure_ (i := 10) (N := some 16) (v := ?_) (a' := ?_) #[true, true, true, true, true, true, true, true, true, true, true, true, true, true, true, false, true, false, false] rfl rfl (by kernel_rfl) (fun _ _ _ h => h) (Or.inl ⟨by rfl, ?_⟩) ?_ ?_
    rotate_left
    ·intro w'
     go_simp
     with_reducible rfl
    rotate_left
    ·simp only [Act.put, putA, putB, putC]
     rfl
    refine pure_ (i := 15) (N := some 21) (v := ?_) (a' := ?_) #[true, true, true, true, true, true, true, true, true, true, true, true, true, true, true, true, true, false, false] rfl rfl (by kernel_rfl) (fun _ _ _ h => h) (Or.inl ⟨by rfl, ?_⟩) ?_ ?_
    rotate_left
    ·intro w'
     go_simp
     with_reducible rfl
    rotate_left
    ·simp only [Act.put, putA, putB, putC]
     rfl
    refine pure_ (i := 17) (N := some 23) (v := ?_) (a' := ?_) #[true, true, true, true, true, true, true, true, true, true, true, true, true, true, true, true, true, true, false] rfl rfl (by kernel_rfl) (fun _ _ _ h => h) (Or.inl ⟨by rfl, ?_⟩) ?_ ?_
    rotate_left
    ·intro w'
     go_simp
     with_reducible rfl
    rotate_left
    ·simp only [Act.put, putA, putB, putC]
     rfl
    refine pure_ (i := 18) (N := some 2) (v := ?_) (a' := ?_) #[true, true, true, true, true, true, true, true, true, true, true, true, true, true, true, true, true, true, true] rfl rfl (by kernel_rfl) (fun _ _ _ h => h) (Or.inl ⟨by rfl, ?_⟩) ?_ ?_
    rotate_left
    ·intro w'
     go_simp
     with_reducible rfl
    rotate_left
    ·simp only [Act.put, putA, putB, putC]
     rfl
    refine done_ (by kernel_rfl) ?_
    go_wp2_with fail
    exact HP.out _ _ ⟨by rw [HE.out]; rfl, H.all⟩
  ·refine conv_o H (by rfl) rfl rfl (by repeat (first | exact List.Mem.head _ | apply List.Mem.tail)) Tryd.underlying35 Tryd.underlying5 Tryd.underlying9 ?_
   refine hK.out _ _ hHeld (fun hHeld => ?_)
   clear hK K
   refine norm_ (a' := ?_) ?_ ?_
   rotate_left
   ·show Act.put _ (some 15) _ = _
    simp only [Act.put, putA, putB, putC]
    rfl
   refine one_ (i := 3) (N := some 9) #[true, true, true, true, true, true, true, true, true, true, false, true, true, true, false, false, true, false, false] rfl rfl (by kernel_rfl) (by decide) (fun K hK => ?_)
   refine goes_ Tryd.func30 (by kernel_rfl) rfl #[.int .u64 (n : Int), .int .i64 ((3 : Nat) : Int)] (by rfl) rfl rfl (by (try simp only [List.map_toArray, List.map_cons, List.map_nil]); first | done | rfl) ?_
   refine (N3.out _).mono ?_
   rintro e_ w9 ⟨rfl, h_⟩
   replace H := H.below h_
   refine ⟨_, rfl, ?_⟩
   have hS := Lib.hid (show (fun w' : World => w'.cell? ⟨g, 0, none⟩ = some (.int .u8 F.ty) ∧ w'.cell? ⟨g, 1, none⟩ = some (.int .u8 F.fl) ∧ w'.cell? ⟨g, 2, none⟩ = some (.int .u32 F.st)) _ from ⟨pw_cell_below h_ hHeld.1, pw_cell_below h_ hHeld.2.1, pw_cell_below h_ hHeld.2.2⟩)
   clear h_
   refine hK.out _ _ hS.out (fun hHeld => ?_)
   clear hK K
   clear hS
   refine norm_ (a' := ?_) ?_ ?_
   rotate_left
   ·show Act.put _ (some 9) _ = _
    simp only [Act.put, putA, putB, putC]
    rfl
   refine pure_ (i := 10) (N := some 16) (v := ?_) (a' := ?_) #[true, true, true, true, true, true, true, true, true, true, true, true, true, true, false, false, true, false, false] rfl rfl (by kernel_rfl) (fun _ _ _ h => h) (Or.inl ⟨by rfl, ?_⟩) ?_ ?_
   rotate_left
   ·intro w'
    go_simp
    with_reducible rfl
   rotate_left
   ·simp only [Act.put, putA, putB, putC]
    rfl
   refine one_ (i := 14) (N := some 20) #[true, true, true, true, true, true, true, true, true, true, true, true, true, true, true, false, true, false, false] rfl rfl (by kernel_rfl) (by decide) (fun K hK => ?_)
   refine goes_ Tryd.func30 (by kernel_rfl) rfl #[.int .u64 F.st, .int .i64 ((4 : Nat) : Int)] (by rfl) rfl rfl (by (try simp only [List.map_toArray, List.map_cons, List.map_nil]); first | done | rfl) ?_
   refine (N4.out _).mono ?_
   rintro e_ w9 ⟨rfl, h_⟩
   replace H := H.below h_
   refine ⟨_, rfl, ?_⟩
   have hS := Lib.hid (show (fun w' : World => w'.cell? ⟨g, 0, none⟩ = some (.int .u8 F.ty) ∧ w'.cell? ⟨g, 1, none⟩ = some (.int .u8 F.fl) ∧ w'.cell? ⟨g, 2, none⟩ = some (.int .u32 F.st)) _ from ⟨pw_cell_below h_ hHeld.1, pw_cell_below h_ hHeld.2.1, pw_cell_below h_ hHeld.2.2⟩)
   clear h_
   refine hK.out _ _ hS.out (fun hHeld => ?_)
   clear hK K
   clear hS
   refine norm_ (a' := ?_) ?_ ?_
   rotate_left
   ·show Act.put _ (some 20) _ = _
    simp only [Act.put, putA, putB, putC]
    rfl
   refine pure_ (i := 15) (N := some 21) (v := ?_) (a' := ?_) #[true, true, true, true, true, true, true, true, true, true, true, true, true, true, true, true, true, false, false] rfl rfl (by kernel_rfl) (fun _ _ _ h => h) (Or.inl ⟨by rfl, ?_⟩) ?_ ?_
   rotate_left
   ·intro w'
    go_simp
    with_reducible rfl
   rotate_left
   ·simp only [Act.put, putA, putB, putC]
    rfl
   refine pure_ (i := 17) (N := some 23) (v := ?_) (a' := ?_) #[true, true, true, true, true, true, true, true, true, true, true, true, true, true, true, true, true, true, false] rfl rfl (by kernel_rfl) (fun _ _ _ h => h) (Or.inl ⟨by rfl, ?_⟩) ?_ ?_
   rotate_left
   ·intro w'
    go_simp
    with_reducible rfl
   rotate_left
   ·simp only [Act.put, putA, putB, putC]
    rfl
   refine pure_ (i := 18) (N := some 2) (v := ?_) (a' := ?_) #[true, true, true, true, true, true, true, true, true, true, true, true, true, true, true, true, true, true, true] rfl rfl (by kernel_rfl) (fun _ _ _ h => h) (Or.inl ⟨by rfl, ?_⟩) ?_ ?_
   rotate_left
   ·intro w'
    go_simp
    with_reducible rfl
   rotate_left
   ·simp only [Act.put, putA, putB, putC]
    rfl
   refine done_ (by kernel_rfl) ?_
   go_wp2_with fail
   exact HP.out _ _ ⟨by rw [HE.out]; rfl, H.all⟩
end Go.Proofs.YtjjfkmniffbgkaaDoor

/- FramePuts' pure part: both say the same of whether a frame may be. -/
namespace Go.Proofs.YtjjfkmniffbgkaaDoor
set_option linter.unusedVariables false
set_option linter.unusedSimpArgs false
open Go.RowKit Go.Proofs.YtjjfkmniffbgkaaDoorW.PrintWords Go.Proofs.YtjjfkmniffbgkaaDoorW.PrintLast Go.Proofs.YtjjfkmniffbgkaaDoorW.PrintMore Go.Proofs.YtjjfkmniffbgkaaDoor.QFrmA Go.Proofs.YtjjfkmniffbgkaaDoor.Given
theorem mayPad_iff {F : Fr} (h : FrWf F) : mayPad F = true ↔ ((F.ty = 0 ∨ F.ty = 1 ∨ F.ty = 5) ∧ Go.bits .and .u8 F.fl 8 ≠ 0) := by
 unfold mayPad
 rw [bit8' h.fl0 h.fl1, Bool.and_eq_true, decide_eq_true_iff, bne_iff_ne]
theorem mayT2_iff (F : Fr) (pd : Bool) : mayT2 F pd = false ↔ (if pd = true then 0 ≤ F.pad ∧ F.pad ≤ 255 else F.pad = -1) := by
 unfold mayT2
 cases pd
 ·simp
 ·simp
  try omega
theorem mayT4_iff (F : Fr) : mayT4 F = false ↔ F.st ≤ 2147483647 ∧ F.oth ≤ 2147483647 ∧ F.win ≤ 2147483647 := by
 unfold mayT4
 simp [Bool.or_eq_false_iff]
 try omega
theorem mayT6_iff (F : Fr) : mayT6 F = false ↔ (leansB F.ty F.fl = true ∨ (F.wgt = 0 ∧ F.al = false)) ∧ ((leansB F.ty F.fl = true ∨ F.ty = 5 ∨ F.ty = 7) ∨ F.oth = 0) := by
 unfold mayT6
 cases leansB F.ty F.fl <;> cases F.al <;> by_cases hw : F.wgt = 0 <;> by_cases ho : F.oth = 0 <;> by_cases h5 : F.ty = 5 <;> by_cases h7 : F.ty = 7 <;> simp [hw, ho, h5, h7]
theorem mayT8_iff (F : Fr) : mayT8 F = false ↔ ((F.ty = 3 ∨ F.ty = 7) ∨ F.code = 0) ∧ (F.ty = 8 ∨ F.win = 0) ∧ (F.ty = 4 ∨ F.sets = []) := by
 unfold mayT8
 have e : decide (0 < (F.sets.length : Int)) = !decide (F.sets = []) := by
  rw [Bool.eq_iff_iff, Bool.not_eq_true', decide_eq_true_iff, decide_eq_false_iff_not, ← nil_len]
  omega
 rw [e]
 by_cases hc : F.code = 0 <;> by_cases hw : F.win = 0 <;> by_cases hs : F.sets = [] <;> by_cases h3 : F.ty = 3 <;> by_cases h7 : F.ty = 7 <;> by_cases h8 : F.ty = 8 <;> by_cases h4 : F.ty = 4 <;> simp [hc, hw, hs, h3, h7, h8, h4]
theorem mayT10_iff (F : Fr) : mayT10 F = false ↔ ((F.ty ≠ 2 ∧ F.ty ≠ 3 ∧ F.ty ≠ 4 ∧ F.ty ≠ 8) ∨ F.data = []) ∧ (F.ty = 6 → F.data.length = 8) := by
 unfold mayT10
 have e : decide (0 < (F.data.length : Int)) = !decide (F.data = []) := by
  rw [Bool.eq_iff_iff, Bool.not_eq_true', decide_eq_true_iff, decide_eq_false_iff_not, ← nil_len]
  omega
 have e8 : ((F.data.length : Int) != 8) = !decide (F.data.length = 8) := by
  rw [Bool.eq_iff_iff, Bool.not_eq_true', bne_iff_ne, decide_eq_false_iff_not]
  omega
 rw [e, e8]
 by_cases hd : F.data = [] <;> by_cases h8d : F.data.length = 8 <;> by_cases h2 : F.ty = 2 <;> by_cases h3 : F.ty = 3 <;> by_cases h4 : F.ty = 4 <;> by_cases h8 : F.ty = 8 <;> by_cases h6 : F.ty = 6 <;> simp [hd, h8d, h2, h3, h4, h8, h6] <;> omega
theorem mayT12_iff (F : Fr) : mayT12 F = true ↔ F.data.length ≤ 16384 ∧ F.sets.length ≤ 3000 ∧ (rpayL F).length ≤ 16384 := by
 unfold mayT12
 rw [Bool.and_eq_true, Bool.and_eq_true, decide_eq_true_iff, decide_eq_true_iff, decide_eq_true_iff]
 omega
theorem rmayB_iff (F : Fr) : rmayB F = true ↔ mayT2 F (mayPad F) = false ∧ mayT4 F = false ∧ mayT6 F = false ∧ mayT8 F = false ∧ mayT10 F = false ∧ mayT12 F = true := by
 unfold rmayB
 cases mayT2 F (mayPad F) <;> cases mayT4 F <;> cases mayT6 F <;> cases mayT8 F <;> cases mayT10 F <;> simp
theorem rmay_ok {F : Fr} (h : FrWf F) : rmayB F = true ↔ MayOk F := by
 rw [rmayB_iff, mayT2_iff, mayT4_iff, mayT6_iff, mayT8_iff, mayT10_iff, mayT12_iff]
 have hp := mayPad_iff h
 constructor
 ·rintro ⟨h2, ⟨s1, s2, s3⟩, ⟨a1, a2⟩, ⟨b1, b2, b3⟩, ⟨c1, c2⟩, ⟨d1, d2, d3⟩⟩
  have e := pay_rpay h s2
  refine ⟨⟨a1, a2, b1, b2, b3, c1⟩, s1, s2, s3, ?_, c2, d1, ?_, by rw [e]; exact d3⟩
  ·by_cases hq : (F.ty = 0 ∨ F.ty = 1 ∨ F.ty = 5) ∧ Go.bits .and .u8 F.fl 8 ≠ 0
   ·rw [if_pos hq]
    rw [if_pos (hp.2 hq)] at h2
    exact h2
   ·rw [if_neg hq]
    rw [if_neg (fun hx => hq (hp.1 hx))] at h2
    exact h2
  ·rcases b3 with h4 | h0
   ·have hl : leansB F.ty F.fl = false := notlean (by omega) (by omega)
    have hr : rheadL F = F.sets.flatMap rsetL := by
     unfold rheadL rmidL
     rw [hl, if_neg (by decide), if_neg (by omega), if_pos h4]
    have hlen : (F.sets.flatMap rsetL).length ≤ (rpayL F).length := by
     unfold rpayL
     rw [hr]
     split
     ·simp only [List.length_append]; omega
     ·simp only [List.length_append]; omega
    rw [sets_len] at hlen
    omega
   ·rw [h0]; decide
 ·intro m
  have e := pay_rpay h m.oth
  refine ⟨?_, ⟨m.st, m.oth, m.win⟩, ⟨m.fields.lean, m.fields.oth⟩, ⟨m.fields.code, m.fields.win, m.fields.sets⟩, ⟨m.fields.data, m.ping⟩, m.data, by have := m.sets; omega, by rw [← e]; exact m.pay⟩
  have h2 := m.pad
  by_cases hq : (F.ty = 0 ∨ F.ty = 1 ∨ F.ty = 5) ∧ Go.bits .and .u8 F.fl 8 ≠ 0
  ·rw [if_pos hq] at h2
   rw [if_pos (hp.2 hq)]
   exact h2
  ·rw [if_neg hq] at h2
   rw [if_neg (fun hx => hq (hp.1 hx))]
   exact h2
theorem rmay_may {F : Fr} (h : FrWf F) : rmayB F = mayB F := by
 rw [Bool.eq_iff_iff, rmay_ok h, mayB_ok]
theorem FrWf.ok {F : Fr} (h : FrWf F) : FrOk F := ⟨h.fl0, h.fl1, h.code0, h.code1, h.oth0, h.oth1, h.win0, h.win1, h.sets⟩
theorem read_put {F G : Fr} (hw : FrWf F) (hm : MayOk F) (hr : readR ⟨F.ty, F.fl, F.st, [], -1, 0, 0, 0, false, 0, []⟩ (payL F) = .ok G) : G = F := by
 unfold readR unpadR at hr
 have hp := hm.pad
 have hc := pay_core F
 by_cases hq : (F.ty = 0 ∨ F.ty = 1 ∨ F.ty = 5) ∧ Go.bits .and .u8 F.fl 8 ≠ 0
 ·rw [if_pos hq] at hp
  have e0 : (mx F.pad 0) = F.pad := by unfold mx; split <;> omega
  rw [if_pos hp.1, e0] at hc
  have hx : (payL F).getD 0 0 = F.pad := by
   rw [hc]
   show F.pad % 256 = F.pad
   omega
  have hlen : (payL F).length = 1 + (coreL F).length + F.pad.toNat := by
   rw [hc]
   simp only [List.length_append, List.length_cons, List.length_nil, List.length_replicate]
   omega
  dsimp only at hr
  rw [if_pos hq, if_neg (by omega), hx, if_neg (by omega)] at hr
  dsimp only at hr
  have hd : ((payL F).drop 1).take ((payL F).length - 1 - F.pad.toNat) = coreL F := by
   rw [hlen, show 1 + (coreL F).length + F.pad.toNat - 1 - F.pad.toNat = (coreL F).length by omega, hc]
   show (coreL F ++ List.replicate F.pad.toNat 0).take (coreL F).length = coreL F
   exact List.take_left
  rw [hd] at hr
  exact body_put hw hm hr
 ·rw [if_neg hq] at hp
  have e0 : (mx F.pad 0).toNat = 0 := by unfold mx; split <;> omega
  rw [if_neg (by omega), e0, List.nil_append, List.replicate_zero, List.append_nil] at hc
  dsimp only at hr
  rw [if_neg hq] at hr
  dsimp only at hr
  rw [List.drop_zero, List.take_length, hc] at hr
  refine body_put hw hm ?_
  rw [hp]
  exact hr
theorem put_len (F : Fr) : (putL F).length = 9 + (payL F).length := by
 unfold putL be3 be4
 simp only [List.length_append, List.length_cons, List.length_nil]
theorem put_byte {F : Fr} (hw : FrWf F) (hm : MayOk F) : Byte8 (putL F) := by
 have hmid : Byte8 (midL F) := by
  unfold midL
  repeat' split
  ·exact byte_be4 _
  ·intro x hx
   obtain ⟨s, hs, hx⟩ := List.mem_flatMap.1 hx
   exact byte_app (byte_be2 _) (byte_be4 _) x hx
  ·exact byte_app (byte_be4 _) (byte_be4 _)
  ·exact byte_be4 _
  ·exact byte_be4 _
  ·intro x hx; cases hx
 have hl : Byte8 (leanL F) := by
  unfold leanL
  refine byte_app (byte_be4 _) fun x hx => ?_
  rw [List.mem_singleton.1 hx]
  exact ⟨hw.wgt0, hw.wgt1⟩
 have hc : Byte8 (coreL F) := by
  unfold coreL
  refine byte_app (byte_app hmid ?_) hw.data
  split
  ·exact hl
  ·intro x hx; cases hx
 have hp : Byte8 (payL F) := by
  rw [pay_core]
  refine byte_app ?_ (byte_app hc fun x hx => ?_)
  ·split
   ·intro x hx
    rw [List.mem_singleton.1 hx]
    omega
   ·intro x hx; cases hx
  ·rw [(List.mem_replicate.1 hx).2]
   decide
 unfold putL
 refine byte_app (byte_app (byte_app (byte_be3 _) fun x hx => ?_) (byte_be4 _)) hp
 rcases List.mem_cons.1 hx with rfl | hx
 ·exact ⟨hw.ty0, hw.ty1⟩
 ·rw [List.mem_singleton.1 hx]
  exact ⟨hw.fl0, hw.fl1⟩
theorem put_head {F : Fr} (hm : MayOk F) : headN (putL F) = ((putL F).length : Int) := by
 have hl := put_len F
 have hp := hm.pay
 unfold headN
 rw [if_neg (by omega)]
 have e : (putL F).take 3 = be3 ((payL F).length % 4294967296) := rfl
 rw [e, Int.emod_eq_of_lt (by omega) (by omega), val_be3 (by omega) (by omega), hl]
 omega
theorem getFr_code {l : List Int} (h0 : (getFr l).2.1 = 0) : (getFr l).2.2 = 0 := by
 unfold getFr at h0 ⊢
 by_cases h1 : ¬ (9 ≤ l.length ∧ headN l = (l.length : Int))
 ·rw [if_pos h1] at h0; cases h0
 rw [if_neg h1] at h0 ⊢
 by_cases h2 : 16393 < l.length
 ·rw [if_pos h2] at h0; cases h0
 rw [if_neg h2] at h0 ⊢
 by_cases h3 : stBad (l.getD 3 0) (valL ((l.take 9).drop 5) % 2147483648) = true
 ·rw [if_pos h3] at h0; cases h0
 rw [if_neg h3] at h0 ⊢
 cases hr : readR ⟨l.getD 3 0, l.getD 4 0, valL ((l.take 9).drop 5) % 2147483648, [], -1, 0, 0, 0, false, 0, []⟩ (l.drop 9) with
 | bad s c =>
  rw [hr] at h0
  exact absurd h0 (read_bad hr)
 | ok F => rfl
theorem put_rput {F : Fr} (h : FrWf F) (hm : MayOk F) : putL F = rputL F := by
 have e := pay_rpay h hm.oth
 have hp := hm.pay
 unfold putL rputL
 rw [← e, be4_beL, Int.emod_eq_of_lt (by omega) (by omega)]
 have e3 : be3 ((payL F).length : Int) = beL ((payL F).length : Int) 3 := by
  unfold be3
  rw [shr16, shr8, shr0]
  simp [beL]
 rw [e3]
theorem get_put {F : Fr} (hw : FrWf F) (hm : MayOk F) (h0 : (getFr (putL F)).2.1 = 0) : getFr (putL F) = (F, 0, 0) := by
 have hg := get_good h0
 have e3 : (putL F).getD 3 0 = F.ty := rfl
 have e4 : (putL F).getD 4 0 = F.fl := rfl
 have e5 : ((putL F).take 9).drop 5 = be4 F.st := rfl
 have e9 : (putL F).drop 9 = payL F := rfl
 have es : valL ((List.take 9 (putL F)).drop 5) % 2147483648 = F.st := by
  rw [e5, val_be4 hw.st0 hw.st1, Int.emod_eq_of_lt hw.st0 (by have := hm.st; omega)]
 obtain ⟨h9, hn, hl, hr⟩ := hg
 rw [e3, e4, es, e9] at hr
 have eG := read_put hw hm hr
 have hx : getFr (putL F) = ((getFr (putL F)).1, (getFr (putL F)).2.1, (getFr (putL F)).2.2) := rfl
 rw [hx, eG, h0]
 rw [getFr_code h0]
end Go.Proofs.YtjjfkmniffbgkaaDoor

/- What a walk holds: loads under a guard. No program. -/
namespace Go.Proofs.YtjjfkmniffbgkaaDoor
set_option linter.unusedVariables false
set_option linter.unusedSimpArgs false
open Go.RowKit Go.Proofs.YtjjfkmniffbgkaaDoorW.PrintWords
section
variable {P : Program} {ops : Array Oper} {rest : List Oper} {o : Oper} {a : Act} {Q : Exit → Act → World → Prop} {w W : World} {t : List Nat} {l : List Own}
theorem is_alloc {ty : TypeId} (_ho : o.op = .alloc ty) (h : wpList P ops Q (o :: rest) a W) : wpList P ops Q (o :: rest) a W := h
theorem is_load {ty : TypeId} {x : Operand} (_ho : o.op = .load ty x) (h : wpList P ops Q (o :: rest) a W) : wpList P ops Q (o :: rest) a W := h
theorem is_store {ty : TypeId} {p x : Operand} (_ho : o.op = .store ty p x) (h : wpList P ops Q (o :: rest) a W) : wpList P ops Q (o :: rest) a W := h
theorem is_conv {s d : TypeId} {x : Operand} (_ho : o.op = .convert s d x) (h : wpList P ops Q (o :: rest) a W) : wpList P ops Q (o :: rest) a W := h
theorem loadf_g (H : Hold w W t l) {ty : TypeId} {x : Operand} (ho : o.op = .load ty x) {g k : Nat} {cs : List Value} {bt : TypeId} {v : Value} (hx : a.eval x = .pointer (some ⟨g, k, none⟩)) (hm : cl g cs bt ∈ l)
  (hv : cs[k]? = some v) (hd : (P.underlying ty).map (·.isRow) = some false) (hw : Region.wanted o (yielded ops a.tmps) = true) (h : wpList P ops Q rest (a.put o.dst v) W) : wpList P ops Q (o :: rest) a W :=
 gate_guard hw (loadf_h H rfl ho hx hm hv hd h)
theorem load_g (H : Hold w W t l) {ty : TypeId} {x : Operand} (ho : o.op = .load ty x) {g : Nat} {cs : List Value} {bt : TypeId} (hx : a.eval x = .pointer (some ⟨g, 0, none⟩)) (hm : cl g cs bt ∈ l)
  (hd : (P.underlying ty).map (·.isRow) = some true) (hi : (P.info? ty).map (·.size) = some cs.length) (hw : Region.wanted o (yielded ops a.tmps) = true) (h : wpList P ops Q rest (a.put o.dst (.agg cs.toArray)) W) : wpList P ops Q (o :: rest) a W :=
 gate_guard hw (load_h H rfl ho hx hm hd hi h)
end
end Go.Proofs.YtjjfkmniffbgkaaDoor

/- The reference of frames: May, walked. (This text is printed by wip/gen/rmay.py.) -/
namespace Go.Proofs.YtjjfkmniffbgkaaDoor
set_option linter.unusedVariables false
set_option linter.unusedSimpArgs false
open Go.RowKit Go.Proofs.YtjjfkmniffbgkaaDoorW.PrintWords Go.Proofs.YtjjfkmniffbgkaaDoorW.PrintLast Go.Proofs.YtjjfkmniffbgkaaDoorW.PrintMore Go.Proofs.YtjjfkmniffbgkaaDoor.QFrmA Go.Proofs.YtjjfkmniffbgkaaDoor.Given Go.Extern.Stop Go.Stop Go.Extern Go.Maps
theorem fr_cells {w W : World} {t : List Nat} {F : Fr} {A B : Option Addr} {c m g : Nat} {l : List Own} (H : Hold w W t (cl g (frC F (.slice A F.data.length c) (.slice B F.sets.length m)).toList 38 :: l)) : W.cell? ⟨g, 0, none⟩ = some (.int .u8 F.ty) ∧ W.cell? ⟨g, 1, none⟩ = some (.int .u8 F.fl) ∧ W.cell? ⟨g, 2, none⟩ = some (.int .u32 F.st) ∧ W.cell? ⟨g, 3, none⟩ = some (.slice A F.data.length c) ∧ W.cell? ⟨g, 4, none⟩ = some (.int .i64 F.pad) ∧ W.cell? ⟨g, 5, none⟩ = some (.int .u32 F.code) ∧ W.cell? ⟨g, 6, none⟩ = some (.int .u32 F.oth) ∧ W.cell? ⟨g, 7, none⟩ = some (.int .u8 F.wgt) ∧ W.cell? ⟨g, 8, none⟩ = some (.bool F.al) ∧ W.cell? ⟨g, 9, none⟩ = some (.int .u32 F.win) ∧ W.cell? ⟨g, 10, none⟩ = some (.slice B F.sets.length m) := by
 have h := fun k => H.cell (List.Mem.head _) k
 exact ⟨(h 0).trans rfl, (h 1).trans rfl, (h 2).trans rfl, (h 3).trans rfl, (h 4).trans rfl, (h 5).trans rfl, (h 6).trans rfl, (h 7).trans rfl, (h 8).trans rfl, (h 9).trans rfl, (h 10).trans rfl⟩
set_option maxHeartbeats 100000000 in
set_option maxRecDepth 100000 in
theorem rmay_calls (w : World) (F : Fr) (A B : Option Addr) (c m : Nat) (hA : Kd.C (Kd.int .u8) w A F.data.length F.data) (hc : F.data.length ≤ c) (hB : Kd.C k99 w B F.sets.length F.sets) (hm : F.sets.length ≤ m) (h : FrOk F) :
  Calls Tryd.prog 23 #[.agg (frC F (.slice A F.data.length c) (.slice B F.sets.length m))] w fun e w' => e = .returned (.bool (rmayB F)) ∧ Below w.heap.size w w' := by
 refine of_post0 fun R hRR => ?_
 have HP := Lib.hid hRR
 have HK := Lib.hid h
 have HA := Lib.hid (And.intro hA (And.intro hc (And.intro hB hm)))
 clear hRR h hA hc hB hm
 have H : Hold w w [] [] := Hold.nothing (Kept.refl _ _)
 go_enter Tryd.func23, Tryd.ntmps23
 go_upto_region 1 with (first
  | (refine box_h H rfl rfl rfl rfl ?_; clear H; intro g w_ H))
 (try simp only [Act.put, putA, putB, putC])
 go_cut [3] from 4 to 13 (fun v wc => v = .bool (mayPad F) ∧ Hold w wc [] [cl g (frC F (.slice A F.data.length c) (.slice B F.sets.length m)).toList 38])
 case first =>
  rename_i J_ K_ hJ_ hK_
  repeat (rename_i kx_ hx_; clear hx_ kx_)
  have BJ : PLift _ := PLift.up hJ_
  clear hJ_
  have HM := Lib.hid (show mayPad F = (decide (F.ty = 0 ∨ F.ty = 1 ∨ F.ty = 5) && (F.fl.tdiv 8 % 2 == 1)) from rfl)
  cases hPT : decide (F.ty = 0 ∨ F.ty = 1 ∨ F.ty = 5)
  ·obtain ⟨x0, x1, x2, x3, x4, x5, x6, x7, x8, x9, x10⟩ := fr_cells H
   go_wp2_with (first
    | (go_at_call 50; refine (rpads_calls _ F.ty).mono ?_; rintro e_ w_ ⟨rfl, h_⟩; rw [hPT]; replace H := H.below h_.below; clear h_; clear x0 x1 x2 x3 x4 x5 x6 x7 x8 x9 x10; obtain ⟨x0, x1, x2, x3, x4, x5, x6, x7, x8, x9, x10⟩ := fr_cells H))
   have hJ_ := BJ.down
   clear BJ
   go_meet
   exact ⟨by rw [HM.out, hPT]; rfl, H⟩
  ·cases hB8 : (F.fl.tdiv 8 % 2 == 1)
   ·obtain ⟨x0, x1, x2, x3, x4, x5, x6, x7, x8, x9, x10⟩ := fr_cells H
    go_wp2_with (first
     | (go_at_call 50; refine (rpads_calls _ F.ty).mono ?_; rintro e_ w_ ⟨rfl, h_⟩; rw [hPT]; replace H := H.below h_.below; clear h_; clear x0 x1 x2 x3 x4 x5 x6 x7 x8 x9 x10; obtain ⟨x0, x1, x2, x3, x4, x5, x6, x7, x8, x9, x10⟩ := fr_cells H))
    have hJ_ := BJ.down
    clear BJ
    go_meet
    exact ⟨by rw [HM.out, hPT, hB8]; rfl, H⟩
   ·obtain ⟨x0, x1, x2, x3, x4, x5, x6, x7, x8, x9, x10⟩ := fr_cells H
    go_wp2_with (first
     | (go_at_call 50; refine (rpads_calls _ F.ty).mono ?_; rintro e_ w_ ⟨rfl, h_⟩; rw [hPT]; replace H := H.below h_.below; clear h_; clear x0 x1 x2 x3 x4 x5 x6 x7 x8 x9 x10; obtain ⟨x0, x1, x2, x3, x4, x5, x6, x7, x8, x9, x10⟩ := fr_cells H))
    have hJ_ := BJ.down
    clear BJ
    go_meet
    exact ⟨by rw [HM.out, hPT, hB8]; rfl, H⟩
 case rest =>
  obtain ⟨rfl, H⟩ := hcut
  generalize hpd : mayPad F = pd at H ⊢
  have HPD := Lib.hid hpd
  clear hpd
  go_upto_region 2 with fail
  (try simp only [Act.put, putA, putB, putC])
  go_cut [3, 33] from 14 to 33 (fun v3 v wc => v3 = .bool pd ∧ v = .bool (mayT2 F pd) ∧ Hold w wc [] [cl g (frC F (.slice A F.data.length c) (.slice B F.sets.length m)).toList 38])
  case first =>
   rename_i J_ K_ hJ_ hK_
   repeat (rename_i kx_ hx_; clear hx_ kx_)
   have BJ : PLift _ := PLift.up hJ_
   clear hJ_
   have HM := Lib.hid (show mayT2 F pd = ((pd && (decide (F.pad < 0) || decide (255 < F.pad))) || ((!pd) && (F.pad != -1))) from rfl)
   cases hPD : pd
   ·cases hPM : (F.pad != -1)
    ·obtain ⟨x0, x1, x2, x3, x4, x5, x6, x7, x8, x9, x10⟩ := fr_cells H
     go_wp2_with (first
      | (fail))
     have hJ_ := BJ.down
     clear BJ
     go_meet
     exact ⟨by first | rfl | rw [hPD], by rw [HM.out, hPD, hPM]; rfl, H⟩
    ·obtain ⟨x0, x1, x2, x3, x4, x5, x6, x7, x8, x9, x10⟩ := fr_cells H
     go_wp2_with (first
      | (fail))
     have hJ_ := BJ.down
     clear BJ
     go_meet
     exact ⟨by first | rfl | rw [hPD], by rw [HM.out, hPD, hPM]; rfl, H⟩
   ·cases hPN : decide (F.pad < 0)
    ·cases hPG : decide (255 < F.pad)
     ·obtain ⟨x0, x1, x2, x3, x4, x5, x6, x7, x8, x9, x10⟩ := fr_cells H
      go_wp2_with (first
       | (fail))
      have hJ_ := BJ.down
      clear BJ
      go_meet
      exact ⟨by first | rfl | rw [hPD], by rw [HM.out, hPD, hPN, hPG]; rfl, H⟩
     ·obtain ⟨x0, x1, x2, x3, x4, x5, x6, x7, x8, x9, x10⟩ := fr_cells H
      go_wp2_with (first
       | (fail))
      have hJ_ := BJ.down
      clear BJ
      go_meet
      exact ⟨by first | rfl | rw [hPD], by rw [HM.out, hPD, hPN, hPG]; rfl, H⟩
    ·obtain ⟨x0, x1, x2, x3, x4, x5, x6, x7, x8, x9, x10⟩ := fr_cells H
     go_wp2_with (first
      | (fail))
     have hJ_ := BJ.down
     clear BJ
     go_meet
     exact ⟨by first | rfl | rw [hPD], by rw [HM.out, hPD, hPN]; rfl, H⟩
  case rest =>
   obtain ⟨rfl, rfl, H⟩ := hcut
   cases g2 : mayT2 F pd
   case true =>
    go_wp2_with fail
    exact HP.out _ _ ⟨by unfold rmayB; rw [HPD.out]; rw [if_pos g2], H.all⟩
   have G2H := Lib.hid g2
   clear g2
   go_upto_region 4 with fail
   (try simp only [Act.put, putA, putB, putC])
   go_cut [46] from 34 to 46 (fun v wc => v = .bool (mayT4 F) ∧ Hold w wc [] [cl g (frC F (.slice A F.data.length c) (.slice B F.sets.length m)).toList 38])
   case first =>
    rename_i J_ K_ hJ_ hK_
    repeat (rename_i kx_ hx_; clear hx_ kx_)
    have BJ : PLift _ := PLift.up hJ_
    clear hJ_
    have HM := Lib.hid (show mayT4 F = ((decide (2147483647 < F.st) || decide (2147483647 < F.oth)) || decide (2147483647 < F.win)) from rfl)
    cases hST : decide (2147483647 < F.st)
    ·cases hOT : decide (2147483647 < F.oth)
     ·cases hWT : decide (2147483647 < F.win)
      ·obtain ⟨x0, x1, x2, x3, x4, x5, x6, x7, x8, x9, x10⟩ := fr_cells H
       go_wp2_with (first
        | (fail))
       have hJ_ := BJ.down
       clear BJ
       go_meet
       exact ⟨by rw [HM.out, hST, hOT, hWT]; rfl, H⟩
      ·obtain ⟨x0, x1, x2, x3, x4, x5, x6, x7, x8, x9, x10⟩ := fr_cells H
       go_wp2_with (first
        | (fail))
       have hJ_ := BJ.down
       clear BJ
       go_meet
       exact ⟨by rw [HM.out, hST, hOT, hWT]; rfl, H⟩
     ·obtain ⟨x0, x1, x2, x3, x4, x5, x6, x7, x8, x9, x10⟩ := fr_cells H
      go_wp2_with (first
       | (fail))
      have hJ_ := BJ.down
      clear BJ
      go_meet
      exact ⟨by rw [HM.out, hST, hOT]; rfl, H⟩
    ·obtain ⟨x0, x1, x2, x3, x4, x5, x6, x7, x8, x9, x10⟩ := fr_cells H
     go_wp2_with (first
      | (fail))
     have hJ_ := BJ.down
     clear BJ
     go_meet
     exact ⟨by rw [HM.out, hST]; rfl, H⟩
   case rest =>
    obtain ⟨rfl, H⟩ := hcut
    cases g4 : mayT4 F
    case true =>
     go_wp2_with fail
     exact HP.out _ _ ⟨by unfold rmayB; rw [HPD.out]; rw [if_neg (by rw [G2H.out]; exact Bool.false_ne_true)]; rw [if_pos g4], H.all⟩
    have G4H := Lib.hid g4
    clear g4
    go_upto_region 6 with fail
    (try simp only [Act.put, putA, putB, putC])
    go_cut [78] from 47 to 78 (fun v wc => v = .bool (mayT6 F) ∧ Hold w wc [] [cl g (frC F (.slice A F.data.length c) (.slice B F.sets.length m)).toList 38])
    case first =>
     rename_i J_ K_ hJ_ hK_
     repeat (rename_i kx_ hx_; clear hx_ kx_)
     have BJ : PLift _ := PLift.up hJ_
     clear hJ_
     have HM := Lib.hid (show mayT6 F = ((((F.wgt != 0) || F.al) && (!leansB F.ty F.fl)) || ((((F.oth != 0) && (!leansB F.ty F.fl)) && (F.ty != 5)) && (F.ty != 7))) from rfl)
     cases hWG : (F.wgt != 0)
     ·cases hAL : F.al
      ·cases hO : (F.oth != 0)
       ·obtain ⟨x0, x1, x2, x3, x4, x5, x6, x7, x8, x9, x10⟩ := fr_cells H
        go_wp2_with (first
         | (fail))
        have hJ_ := BJ.down
        clear BJ
        go_meet
        exact ⟨by rw [HM.out, hWG, hAL, hO]; rfl, H⟩
       ·cases hL : leansB F.ty F.fl
        ·cases hN5 : (F.ty != 5)
         ·obtain ⟨x0, x1, x2, x3, x4, x5, x6, x7, x8, x9, x10⟩ := fr_cells H
          go_wp2_with (first
           | (go_at_call 51; refine (rleans_calls _ ⟨_, F.fl, _, [], _, _, _, _, _, _, []⟩ _ _ HK.out.fl0 HK.out.fl1).mono ?_; rintro e_ w_ ⟨rfl, h_⟩; dsimp only; (first | rw [hL] | (rw [show F.ty = 5 by simpa using hN5] at hL; rw [hL]) | (rw [show F.ty = 7 by simpa using hN7] at hL; rw [hL])); replace H := H.below h_; clear h_; clear x0 x1 x2 x3 x4 x5 x6 x7 x8 x9 x10; obtain ⟨x0, x1, x2, x3, x4, x5, x6, x7, x8, x9, x10⟩ := fr_cells H))
          have hJ_ := BJ.down
          clear BJ
          go_meet
          exact ⟨by rw [HM.out, hWG, hAL, hO, hL, hN5]; rfl, H⟩
         ·cases hN7 : (F.ty != 7)
          ·obtain ⟨x0, x1, x2, x3, x4, x5, x6, x7, x8, x9, x10⟩ := fr_cells H
           go_wp2_with (first
            | (go_at_call 51; refine (rleans_calls _ ⟨_, F.fl, _, [], _, _, _, _, _, _, []⟩ _ _ HK.out.fl0 HK.out.fl1).mono ?_; rintro e_ w_ ⟨rfl, h_⟩; dsimp only; (first | rw [hL] | (rw [show F.ty = 5 by simpa using hN5] at hL; rw [hL]) | (rw [show F.ty = 7 by simpa using hN7] at hL; rw [hL])); replace H := H.below h_; clear h_; clear x0 x1 x2 x3 x4 x5 x6 x7 x8 x9 x10; obtain ⟨x0, x1, x2, x3, x4, x5, x6, x7, x8, x9, x10⟩ := fr_cells H))
           have hJ_ := BJ.down
           clear BJ
           go_meet
           exact ⟨by rw [HM.out, hWG, hAL, hO, hL, hN5, hN7]; rfl, H⟩
          ·obtain ⟨x0, x1, x2, x3, x4, x5, x6, x7, x8, x9, x10⟩ := fr_cells H
           go_wp2_with (first
            | (go_at_call 51; refine (rleans_calls _ ⟨_, F.fl, _, [], _, _, _, _, _, _, []⟩ _ _ HK.out.fl0 HK.out.fl1).mono ?_; rintro e_ w_ ⟨rfl, h_⟩; dsimp only; (first | rw [hL] | (rw [show F.ty = 5 by simpa using hN5] at hL; rw [hL]) | (rw [show F.ty = 7 by simpa using hN7] at hL; rw [hL])); replace H := H.below h_; clear h_; clear x0 x1 x2 x3 x4 x5 x6 x7 x8 x9 x10; obtain ⟨x0, x1, x2, x3, x4, x5, x6, x7, x8, x9, x10⟩ := fr_cells H))
           have hJ_ := BJ.down
           clear BJ
           go_meet
           exact ⟨by rw [HM.out, hWG, hAL, hO, hL, hN5, hN7]; rfl, H⟩
        ·obtain ⟨x0, x1, x2, x3, x4, x5, x6, x7, x8, x9, x10⟩ := fr_cells H
         go_wp2_with (first
          | (go_at_call 51; refine (rleans_calls _ ⟨_, F.fl, _, [], _, _, _, _, _, _, []⟩ _ _ HK.out.fl0 HK.out.fl1).mono ?_; rintro e_ w_ ⟨rfl, h_⟩; dsimp only; (first | rw [hL] | (rw [show F.ty = 5 by simpa using hN5] at hL; rw [hL]) | (rw [show F.ty = 7 by simpa using hN7] at hL; rw [hL])); replace H := H.below h_; clear h_; clear x0 x1 x2 x3 x4 x5 x6 x7 x8 x9 x10; obtain ⟨x0, x1, x2, x3, x4, x5, x6, x7, x8, x9, x10⟩ := fr_cells H))
         have hJ_ := BJ.down
         clear BJ
         go_meet
         exact ⟨by rw [HM.out, hWG, hAL, hO, hL]; rfl, H⟩
      ·cases hL : leansB F.ty F.fl
       ·obtain ⟨x0, x1, x2, x3, x4, x5, x6, x7, x8, x9, x10⟩ := fr_cells H
        go_wp2_with (first
         | (go_at_call 51; refine (rleans_calls _ ⟨_, F.fl, _, [], _, _, _, _, _, _, []⟩ _ _ HK.out.fl0 HK.out.fl1).mono ?_; rintro e_ w_ ⟨rfl, h_⟩; dsimp only; (first | rw [hL] | (rw [show F.ty = 5 by simpa using hN5] at hL; rw [hL]) | (rw [show F.ty = 7 by simpa using hN7] at hL; rw [hL])); replace H := H.below h_; clear h_; clear x0 x1 x2 x3 x4 x5 x6 x7 x8 x9 x10; obtain ⟨x0, x1, x2, x3, x4, x5, x6, x7, x8, x9, x10⟩ := fr_cells H))
        have hJ_ := BJ.down
        clear BJ
        go_meet
        exact ⟨by rw [HM.out, hWG, hAL, hL]; rfl, H⟩
       ·cases hO : (F.oth != 0)
        ·obtain ⟨x0, x1, x2, x3, x4, x5, x6, x7, x8, x9, x10⟩ := fr_cells H
         go_wp2_with (first
          | (go_at_call 51; refine (rleans_calls _ ⟨_, F.fl, _, [], _, _, _, _, _, _, []⟩ _ _ HK.out.fl0 HK.out.fl1).mono ?_; rintro e_ w_ ⟨rfl, h_⟩; dsimp only; (first | rw [hL] | (rw [show F.ty = 5 by simpa using hN5] at hL; rw [hL]) | (rw [show F.ty = 7 by simpa using hN7] at hL; rw [hL])); replace H := H.below h_; clear h_; clear x0 x1 x2 x3 x4 x5 x6 x7 x8 x9 x10; obtain ⟨x0, x1, x2, x3, x4, x5, x6, x7, x8, x9, x10⟩ := fr_cells H))
         have hJ_ := BJ.down
         clear BJ
         go_meet
         exact ⟨by rw [HM.out, hWG, hAL, hL, hO]; rfl, H⟩
        ·obtain ⟨x0, x1, x2, x3, x4, x5, x6, x7, x8, x9, x10⟩ := fr_cells H
         go_wp2_with (first
          | (go_at_call 51; refine (rleans_calls _ ⟨_, F.fl, _, [], _, _, _, _, _, _, []⟩ _ _ HK.out.fl0 HK.out.fl1).mono ?_; rintro e_ w_ ⟨rfl, h_⟩; dsimp only; (first | rw [hL] | (rw [show F.ty = 5 by simpa using hN5] at hL; rw [hL]) | (rw [show F.ty = 7 by simpa using hN7] at hL; rw [hL])); replace H := H.below h_; clear h_; clear x0 x1 x2 x3 x4 x5 x6 x7 x8 x9 x10; obtain ⟨x0, x1, x2, x3, x4, x5, x6, x7, x8, x9, x10⟩ := fr_cells H))
         have hJ_ := BJ.down
         clear BJ
         go_meet
         exact ⟨by rw [HM.out, hWG, hAL, hL, hO]; rfl, H⟩
     ·cases hL : leansB F.ty F.fl
      ·obtain ⟨x0, x1, x2, x3, x4, x5, x6, x7, x8, x9, x10⟩ := fr_cells H
       go_wp2_with (first
        | (go_at_call 51; refine (rleans_calls _ ⟨_, F.fl, _, [], _, _, _, _, _, _, []⟩ _ _ HK.out.fl0 HK.out.fl1).mono ?_; rintro e_ w_ ⟨rfl, h_⟩; dsimp only; (first | rw [hL] | (rw [show F.ty = 5 by simpa using hN5] at hL; rw [hL]) | (rw [show F.ty = 7 by simpa using hN7] at hL; rw [hL])); replace H := H.below h_; clear h_; clear x0 x1 x2 x3 x4 x5 x6 x7 x8 x9 x10; obtain ⟨x0, x1, x2, x3, x4, x5, x6, x7, x8, x9, x10⟩ := fr_cells H))
       have hJ_ := BJ.down
       clear BJ
       go_meet
       exact ⟨by rw [HM.out, hWG, hL]; rfl, H⟩
      ·cases hO : (F.oth != 0)
       ·obtain ⟨x0, x1, x2, x3, x4, x5, x6, x7, x8, x9, x10⟩ := fr_cells H
        go_wp2_with (first
         | (go_at_call 51; refine (rleans_calls _ ⟨_, F.fl, _, [], _, _, _, _, _, _, []⟩ _ _ HK.out.fl0 HK.out.fl1).mono ?_; rintro e_ w_ ⟨rfl, h_⟩; dsimp only; (first | rw [hL] | (rw [show F.ty = 5 by simpa using hN5] at hL; rw [hL]) | (rw [show F.ty = 7 by simpa using hN7] at hL; rw [hL])); replace H := H.below h_; clear h_; clear x0 x1 x2 x3 x4 x5 x6 x7 x8 x9 x10; obtain ⟨x0, x1, x2, x3, x4, x5, x6, x7, x8, x9, x10⟩ := fr_cells H))
        have hJ_ := BJ.down
        clear BJ
        go_meet
        exact ⟨by rw [HM.out, hWG, hL, hO]; rfl, H⟩
       ·obtain ⟨x0, x1, x2, x3, x4, x5, x6, x7, x8, x9, x10⟩ := fr_cells H
        go_wp2_with (first
         | (go_at_call 51; refine (rleans_calls _ ⟨_, F.fl, _, [], _, _, _, _, _, _, []⟩ _ _ HK.out.fl0 HK.out.fl1).mono ?_; rintro e_ w_ ⟨rfl, h_⟩; dsimp only; (first | rw [hL] | (rw [show F.ty = 5 by simpa using hN5] at hL; rw [hL]) | (rw [show F.ty = 7 by simpa using hN7] at hL; rw [hL])); replace H := H.below h_; clear h_; clear x0 x1 x2 x3 x4 x5 x6 x7 x8 x9 x10; obtain ⟨x0, x1, x2, x3, x4, x5, x6, x7, x8, x9, x10⟩ := fr_cells H))
        have hJ_ := BJ.down
        clear BJ
        go_meet
        exact ⟨by rw [HM.out, hWG, hL, hO]; rfl, H⟩
    case rest =>
     obtain ⟨rfl, H⟩ := hcut
     cases g6 : mayT6 F
     case true =>
      go_wp2_with fail
      exact HP.out _ _ ⟨by unfold rmayB; rw [HPD.out]; rw [if_neg (by rw [G2H.out]; exact Bool.false_ne_true)]; rw [if_neg (by rw [G4H.out]; exact Bool.false_ne_true)]; rw [if_pos g6], H.all⟩
     have G6H := Lib.hid g6
     clear g6
     go_upto_region 8 with fail
     (try simp only [Act.put, putA, putB, putC])
     go_cut [112] from 79 to 112 (fun v wc => v = .bool (mayT8 F) ∧ Hold w wc [] [cl g (frC F (.slice A F.data.length c) (.slice B F.sets.length m)).toList 38])
     case first =>
      rename_i J_ K_ hJ_ hK_
      repeat (rename_i kx_ hx_; clear hx_ kx_)
      have BJ : PLift _ := PLift.up hJ_
      clear hJ_
      have HM := Lib.hid (show mayT8 F = (((((F.code != 0) && (F.ty != 3)) && (F.ty != 7)) || ((F.win != 0) && (F.ty != 8))) || (decide (0 < (F.sets.length : Int)) && (F.ty != 4))) from rfl)
      cases hC : (F.code != 0)
      ·cases hW : (F.win != 0)
       ·cases hS : decide (0 < (F.sets.length : Int))
        ·have hS' : decide (0 < F.sets.length) = false := by rw [← hS]; congr 1; exact propext ⟨fun h => by omega, fun h => by omega⟩
         obtain ⟨x0, x1, x2, x3, x4, x5, x6, x7, x8, x9, x10⟩ := fr_cells H
         go_wp2_with (first
          | (fail))
         have hJ_ := BJ.down
         clear BJ
         go_meet
         exact ⟨by rw [HM.out, hC, hW, hS]; rfl, H⟩
        ·have hS' : decide (0 < F.sets.length) = true := by rw [← hS]; congr 1; exact propext ⟨fun h => by omega, fun h => by omega⟩
         cases hN4 : (F.ty != 4)
         ·obtain ⟨x0, x1, x2, x3, x4, x5, x6, x7, x8, x9, x10⟩ := fr_cells H
          go_wp2_with (first
           | (fail))
          have hJ_ := BJ.down
          clear BJ
          go_meet
          exact ⟨by rw [HM.out, hC, hW, hS, hN4]; rfl, H⟩
         ·obtain ⟨x0, x1, x2, x3, x4, x5, x6, x7, x8, x9, x10⟩ := fr_cells H
          go_wp2_with (first
           | (fail))
          have hJ_ := BJ.down
          clear BJ
          go_meet
          exact ⟨by rw [HM.out, hC, hW, hS, hN4]; rfl, H⟩
       ·cases hN8 : (F.ty != 8)
        ·cases hS : decide (0 < (F.sets.length : Int))
         ·have hS' : decide (0 < F.sets.length) = false := by rw [← hS]; congr 1; exact propext ⟨fun h => by omega, fun h => by omega⟩
          obtain ⟨x0, x1, x2, x3, x4, x5, x6, x7, x8, x9, x10⟩ := fr_cells H
          go_wp2_with (first
           | (fail))
          have hJ_ := BJ.down
          clear BJ
          go_meet
          exact ⟨by rw [HM.out, hC, hW, hN8, hS]; rfl, H⟩
         ·have hS' : decide (0 < F.sets.length) = true := by rw [← hS]; congr 1; exact propext ⟨fun h => by omega, fun h => by omega⟩
          cases hN4 : (F.ty != 4)
          ·obtain ⟨x0, x1, x2, x3, x4, x5, x6, x7, x8, x9, x10⟩ := fr_cells H
           go_wp2_with (first
            | (fail))
           have hJ_ := BJ.down
           clear BJ
           go_meet
           exact ⟨by rw [HM.out, hC, hW, hN8, hS, hN4]; rfl, H⟩
          ·obtain ⟨x0, x1, x2, x3, x4, x5, x6, x7, x8, x9, x10⟩ := fr_cells H
           go_wp2_with (first
            | (fail))
           have hJ_ := BJ.down
           clear BJ
           go_meet
           exact ⟨by rw [HM.out, hC, hW, hN8, hS, hN4]; rfl, H⟩
        ·obtain ⟨x0, x1, x2, x3, x4, x5, x6, x7, x8, x9, x10⟩ := fr_cells H
         go_wp2_with (first
          | (fail))
         have hJ_ := BJ.down
         clear BJ
         go_meet
         exact ⟨by rw [HM.out, hC, hW, hN8]; rfl, H⟩
      ·cases hN3 : (F.ty != 3)
       ·cases hW : (F.win != 0)
        ·cases hS : decide (0 < (F.sets.length : Int))
         ·have hS' : decide (0 < F.sets.length) = false := by rw [← hS]; congr 1; exact propext ⟨fun h => by omega, fun h => by omega⟩
          obtain ⟨x0, x1, x2, x3, x4, x5, x6, x7, x8, x9, x10⟩ := fr_cells H
          go_wp2_with (first
           | (fail))
          have hJ_ := BJ.down
          clear BJ
          go_meet
          exact ⟨by rw [HM.out, hC, hN3, hW, hS]; rfl, H⟩
         ·have hS' : decide (0 < F.sets.length) = true := by rw [← hS]; congr 1; exact propext ⟨fun h => by omega, fun h => by omega⟩
          cases hN4 : (F.ty != 4)
          ·obtain ⟨x0, x1, x2, x3, x4, x5, x6, x7, x8, x9, x10⟩ := fr_cells H
           go_wp2_with (first
            | (fail))
           have hJ_ := BJ.down
           clear BJ
           go_meet
           exact ⟨by rw [HM.out, hC, hN3, hW, hS, hN4]; rfl, H⟩
          ·obtain ⟨x0, x1, x2, x3, x4, x5, x6, x7, x8, x9, x10⟩ := fr_cells H
           go_wp2_with (first
            | (fail))
           have hJ_ := BJ.down
           clear BJ
           go_meet
           exact ⟨by rw [HM.out, hC, hN3, hW, hS, hN4]; rfl, H⟩
        ·cases hN8 : (F.ty != 8)
         ·cases hS : decide (0 < (F.sets.length : Int))
          ·have hS' : decide (0 < F.sets.length) = false := by rw [← hS]; congr 1; exact propext ⟨fun h => by omega, fun h => by omega⟩
           obtain ⟨x0, x1, x2, x3, x4, x5, x6, x7, x8, x9, x10⟩ := fr_cells H
           go_wp2_with (first
            | (fail))
           have hJ_ := BJ.down
           clear BJ
           go_meet
           exact ⟨by rw [HM.out, hC, hN3, hW, hN8, hS]; rfl, H⟩
          ·have hS' : decide (0 < F.sets.length) = true := by rw [← hS]; congr 1; exact propext ⟨fun h => by omega, fun h => by omega⟩
           cases hN4 : (F.ty != 4)
           ·obtain ⟨x0, x1, x2, x3, x4, x5, x6, x7, x8, x9, x10⟩ := fr_cells H
            go_wp2_with (first
             | (fail))
            have hJ_ := BJ.down
            clear BJ
            go_meet
            exact ⟨by rw [HM.out, hC, hN3, hW, hN8, hS, hN4]; rfl, H⟩
           ·obtain ⟨x0, x1, x2, x3, x4, x5, x6, x7, x8, x9, x10⟩ := fr_cells H
            go_wp2_with (first
             | (fail))
            have hJ_ := BJ.down
            clear BJ
            go_meet
            exact ⟨by rw [HM.out, hC, hN3, hW, hN8, hS, hN4]; rfl, H⟩
         ·obtain ⟨x0, x1, x2, x3, x4, x5, x6, x7, x8, x9, x10⟩ := fr_cells H
          go_wp2_with (first
           | (fail))
          have hJ_ := BJ.down
          clear BJ
          go_meet
          exact ⟨by rw [HM.out, hC, hN3, hW, hN8]; rfl, H⟩
       ·cases hN7 : (F.ty != 7)
        ·cases hW : (F.win != 0)
         ·cases hS : decide (0 < (F.sets.length : Int))
          ·have hS' : decide (0 < F.sets.length) = false := by rw [← hS]; congr 1; exact propext ⟨fun h => by omega, fun h => by omega⟩
           obtain ⟨x0, x1, x2, x3, x4, x5, x6, x7, x8, x9, x10⟩ := fr_cells H
           go_wp2_with (first
            | (fail))
           have hJ_ := BJ.down
           clear BJ
           go_meet
           exact ⟨by rw [HM.out, hC, hN3, hN7, hW, hS]; rfl, H⟩
          ·have hS' : decide (0 < F.sets.length) = true := by rw [← hS]; congr 1; exact propext ⟨fun h => by omega, fun h => by omega⟩
           cases hN4 : (F.ty != 4)
           ·obtain ⟨x0, x1, x2, x3, x4, x5, x6, x7, x8, x9, x10⟩ := fr_cells H
            go_wp2_with (first
             | (fail))
            have hJ_ := BJ.down
            clear BJ
            go_meet
            exact ⟨by rw [HM.out, hC, hN3, hN7, hW, hS, hN4]; rfl, H⟩
           ·obtain ⟨x0, x1, x2, x3, x4, x5, x6, x7, x8, x9, x10⟩ := fr_cells H
            go_wp2_with (first
             | (fail))
            have hJ_ := BJ.down
            clear BJ
            go_meet
            exact ⟨by rw [HM.out, hC, hN3, hN7, hW, hS, hN4]; rfl, H⟩
         ·cases hN8 : (F.ty != 8)
          ·cases hS : decide (0 < (F.sets.length : Int))
           ·have hS' : decide (0 < F.sets.length) = false := by rw [← hS]; congr 1; exact propext ⟨fun h => by omega, fun h => by omega⟩
            obtain ⟨x0, x1, x2, x3, x4, x5, x6, x7, x8, x9, x10⟩ := fr_cells H
            go_wp2_with (first
             | (fail))
            have hJ_ := BJ.down
            clear BJ
            go_meet
            exact ⟨by rw [HM.out, hC, hN3, hN7, hW, hN8, hS]; rfl, H⟩
           ·have hS' : decide (0 < F.sets.length) = true := by rw [← hS]; congr 1; exact propext ⟨fun h => by omega, fun h => by omega⟩
            cases hN4 : (F.ty != 4)
            ·obtain ⟨x0, x1, x2, x3, x4, x5, x6, x7, x8, x9, x10⟩ := fr_cells H
             go_wp2_with (first
              | (fail))
             have hJ_ := BJ.down
             clear BJ
             go_meet
             exact ⟨by rw [HM.out, hC, hN3, hN7, hW, hN8, hS, hN4]; rfl, H⟩
            ·obtain ⟨x0, x1, x2, x3, x4, x5, x6, x7, x8, x9, x10⟩ := fr_cells H
             go_wp2_with (first
              | (fail))
             have hJ_ := BJ.down
             clear BJ
             go_meet
             exact ⟨by rw [HM.out, hC, hN3, hN7, hW, hN8, hS, hN4]; rfl, H⟩
          ·obtain ⟨x0, x1, x2, x3, x4, x5, x6, x7, x8, x9, x10⟩ := fr_cells H
           go_wp2_with (first
            | (fail))
           have hJ_ := BJ.down
           clear BJ
           go_meet
           exact ⟨by rw [HM.out, hC, hN3, hN7, hW, hN8]; rfl, H⟩
        ·obtain ⟨x0, x1, x2, x3, x4, x5, x6, x7, x8, x9, x10⟩ := fr_cells H
         go_wp2_with (first
          | (fail))
         have hJ_ := BJ.down
         clear BJ
         go_meet
         exact ⟨by rw [HM.out, hC, hN3, hN7]; rfl, H⟩
     case rest =>
      obtain ⟨rfl, H⟩ := hcut
      cases g8 : mayT8 F
      case true =>
       go_wp2_with fail
       exact HP.out _ _ ⟨by unfold rmayB; rw [HPD.out]; rw [if_neg (by rw [G2H.out]; exact Bool.false_ne_true)]; rw [if_neg (by rw [G4H.out]; exact Bool.false_ne_true)]; rw [if_neg (by rw [G6H.out]; exact Bool.false_ne_true)]; rw [if_pos g8], H.all⟩
      have G8H := Lib.hid g8
      clear g8
      go_upto_region 10 with fail
      (try simp only [Act.put, putA, putB, putC])
      go_cut [147] from 113 to 147 (fun v wc => v = .bool (mayT10 F) ∧ Hold w wc [] [cl g (frC F (.slice A F.data.length c) (.slice B F.sets.length m)).toList 38])
      case first =>
       rename_i J_ K_ hJ_ hK_
       repeat (rename_i kx_ hx_; clear hx_ kx_)
       have BJ : PLift _ := PLift.up hJ_
       clear hJ_
       have HM := Lib.hid (show mayT10 F = ((decide (0 < (F.data.length : Int)) && ((((F.ty == 2) || (F.ty == 3)) || (F.ty == 4)) || (F.ty == 8))) || ((F.ty == 6) && ((F.data.length : Int) != 8))) from rfl)
       cases hD : decide (0 < (F.data.length : Int))
       ·have hD' : decide (0 < F.data.length) = false := by rw [← hD]; congr 1; exact propext ⟨fun h => by omega, fun h => by omega⟩
        cases hE6 : (F.ty == 6)
        ·obtain ⟨x0, x1, x2, x3, x4, x5, x6, x7, x8, x9, x10⟩ := fr_cells H
         go_wp2_with (first
          | (fail))
         have hJ_ := BJ.down
         clear BJ
         go_meet
         exact ⟨by rw [HM.out, hD, hE6]; rfl, H⟩
        ·cases hD8 : ((F.data.length : Int) != 8)
         ·obtain ⟨x0, x1, x2, x3, x4, x5, x6, x7, x8, x9, x10⟩ := fr_cells H
          go_wp2_with (first
           | (fail))
          have hJ_ := BJ.down
          clear BJ
          go_meet
          exact ⟨by rw [HM.out, hD, hE6, hD8]; rfl, H⟩
         ·obtain ⟨x0, x1, x2, x3, x4, x5, x6, x7, x8, x9, x10⟩ := fr_cells H
          go_wp2_with (first
           | (fail))
          have hJ_ := BJ.down
          clear BJ
          go_meet
          exact ⟨by rw [HM.out, hD, hE6, hD8]; rfl, H⟩
       ·have hD' : decide (0 < F.data.length) = true := by rw [← hD]; congr 1; exact propext ⟨fun h => by omega, fun h => by omega⟩
        cases hE2 : (F.ty == 2)
        ·cases hE3 : (F.ty == 3)
         ·cases hE4 : (F.ty == 4)
          ·cases hE8 : (F.ty == 8)
           ·cases hE6 : (F.ty == 6)
            ·obtain ⟨x0, x1, x2, x3, x4, x5, x6, x7, x8, x9, x10⟩ := fr_cells H
             go_wp2_with (first
              | (fail))
             have hJ_ := BJ.down
             clear BJ
             go_meet
             exact ⟨by rw [HM.out, hD, hE2, hE3, hE4, hE8, hE6]; rfl, H⟩
            ·cases hD8 : ((F.data.length : Int) != 8)
             ·obtain ⟨x0, x1, x2, x3, x4, x5, x6, x7, x8, x9, x10⟩ := fr_cells H
              go_wp2_with (first
               | (fail))
              have hJ_ := BJ.down
              clear BJ
              go_meet
              exact ⟨by rw [HM.out, hD, hE2, hE3, hE4, hE8, hE6, hD8]; rfl, H⟩
             ·obtain ⟨x0, x1, x2, x3, x4, x5, x6, x7, x8, x9, x10⟩ := fr_cells H
              go_wp2_with (first
               | (fail))
              have hJ_ := BJ.down
              clear BJ
              go_meet
              exact ⟨by rw [HM.out, hD, hE2, hE3, hE4, hE8, hE6, hD8]; rfl, H⟩
           ·obtain ⟨x0, x1, x2, x3, x4, x5, x6, x7, x8, x9, x10⟩ := fr_cells H
            go_wp2_with (first
             | (fail))
            have hJ_ := BJ.down
            clear BJ
            go_meet
            exact ⟨by rw [HM.out, hD, hE2, hE3, hE4, hE8]; rfl, H⟩
          ·obtain ⟨x0, x1, x2, x3, x4, x5, x6, x7, x8, x9, x10⟩ := fr_cells H
           go_wp2_with (first
            | (fail))
           have hJ_ := BJ.down
           clear BJ
           go_meet
           exact ⟨by rw [HM.out, hD, hE2, hE3, hE4]; rfl, H⟩
         ·obtain ⟨x0, x1, x2, x3, x4, x5, x6, x7, x8, x9, x10⟩ := fr_cells H
          go_wp2_with (first
           | (fail))
          have hJ_ := BJ.down
          clear BJ
          go_meet
          exact ⟨by rw [HM.out, hD, hE2, hE3]; rfl, H⟩
        ·obtain ⟨x0, x1, x2, x3, x4, x5, x6, x7, x8, x9, x10⟩ := fr_cells H
         go_wp2_with (first
          | (fail))
         have hJ_ := BJ.down
         clear BJ
         go_meet
         exact ⟨by rw [HM.out, hD, hE2]; rfl, H⟩
      case rest =>
       obtain ⟨rfl, H⟩ := hcut
       cases g10 : mayT10 F
       case true =>
        go_wp2_with fail
        exact HP.out _ _ ⟨by unfold rmayB; rw [HPD.out]; rw [if_neg (by rw [G2H.out]; exact Bool.false_ne_true)]; rw [if_neg (by rw [G4H.out]; exact Bool.false_ne_true)]; rw [if_neg (by rw [G6H.out]; exact Bool.false_ne_true)]; rw [if_neg (by rw [G8H.out]; exact Bool.false_ne_true)]; rw [if_pos g10], H.all⟩
       have G10H := Lib.hid g10
       clear g10
       have e12 : rmayB F = mayT12 F := by unfold rmayB; rw [HPD.out]; rw [if_neg (by rw [G2H.out]; exact Bool.false_ne_true)]; rw [if_neg (by rw [G4H.out]; exact Bool.false_ne_true)]; rw [if_neg (by rw [G6H.out]; exact Bool.false_ne_true)]; rw [if_neg (by rw [G8H.out]; exact Bool.false_ne_true)]; rw [if_neg (by rw [G10H.out]; exact Bool.false_ne_true)]
       have HE := Lib.hid (show rmayB F = ((decide ((F.data.length : Int) ≤ 16384) && decide ((F.sets.length : Int) ≤ 3000)) && decide (((rpayL F).length : Int) ≤ 16384)) from e12)
       clear e12
       have hpad : -1 ≤ F.pad ∧ F.pad ≤ 255 := by
        have h2 := G2H.out
        unfold mayT2 at h2
        cases pd <;> simp at h2 <;> omega
       have HPA := Lib.hid hpad
       clear hpad
       have hsz := str_size (rpayL F)
       obtain ⟨sP, hsP⟩ : ∃ sP, strOfNums (rpayL F) = sP := ⟨_, rfl⟩
       rw [hsP] at hsz
       have HSP := Lib.hid (And.intro hsP hsz)
       clear hsP hsz
       cases hDL : decide ((F.data.length : Int) ≤ 16384)
       ·have hDL' : decide (F.data.length ≤ 16384) = false := by rw [← hDL]; congr 1; exact propext ⟨fun h => by omega, fun h => by omega⟩
        obtain ⟨x0, x1, x2, x3, x4, x5, x6, x7, x8, x9, x10⟩ := fr_cells H
        go_wp2_with (first
         | (fail))
        exact HP.out _ _ ⟨by rw [HE.out, hDL]; rfl, H.all⟩
       ·have hDL' : decide (F.data.length ≤ 16384) = true := by rw [← hDL]; congr 1; exact propext ⟨fun h => by omega, fun h => by omega⟩
        cases hSL : decide ((F.sets.length : Int) ≤ 3000)
        ·have hSL' : decide (F.sets.length ≤ 3000) = false := by rw [← hSL]; congr 1; exact propext ⟨fun h => by omega, fun h => by omega⟩
         obtain ⟨x0, x1, x2, x3, x4, x5, x6, x7, x8, x9, x10⟩ := fr_cells H
         go_wp2_with (first
          | (fail))
         exact HP.out _ _ ⟨by rw [HE.out, hDL, hSL]; rfl, H.all⟩
        ·have hSL' : decide (F.sets.length ≤ 3000) = true := by rw [← hSL]; congr 1; exact propext ⟨fun h => by omega, fun h => by omega⟩
         cases hPL : decide (((rpayL F).length : Int) ≤ 16384)
         ·have kd := of_decide_eq_true hDL
          have ks := of_decide_eq_true hSL
          have KDS := Lib.hid (show F.data.length ≤ 100000 ∧ F.sets.length ≤ 10000 by omega)
          clear kd ks
          have hPL' : decide ((sP.size : Int) ≤ 16384) = false := by rw [HSP.out.2]; exact hPL
          have HPL := Lib.hid hPL
          clear hPL
          obtain ⟨x0, x1, x2, x3, x4, x5, x6, x7, x8, x9, x10⟩ := fr_cells H
          go_wp2_with (first
           | (fail)
           | (go_at_call 52; refine (rpay_calls _ F A B c m (Kd.C_below HA.out.1 H.all) HA.out.2.1 (Kd.C_below HA.out.2.2.1 H.all) HA.out.2.2.2 HK.out HPA.out.1 HPA.out.2 KDS.out.1 KDS.out.2).mono ?_; rintro e_ w_ ⟨rfl, h_⟩; rw [HSP.out.1]; replace H := H.below h_; clear h_; clear x0 x1 x2 x3 x4 x5 x6 x7 x8 x9 x10; obtain ⟨x0, x1, x2, x3, x4, x5, x6, x7, x8, x9, x10⟩ := fr_cells H))
          exact HP.out _ _ ⟨by rw [HE.out, hDL, hSL, HPL.out]; rfl, H.all⟩
         ·have kd := of_decide_eq_true hDL
          have ks := of_decide_eq_true hSL
          have KDS := Lib.hid (show F.data.length ≤ 100000 ∧ F.sets.length ≤ 10000 by omega)
          clear kd ks
          have hPL' : decide ((sP.size : Int) ≤ 16384) = true := by rw [HSP.out.2]; exact hPL
          have HPL := Lib.hid hPL
          clear hPL
          obtain ⟨x0, x1, x2, x3, x4, x5, x6, x7, x8, x9, x10⟩ := fr_cells H
          go_wp2_with (first
           | (fail)
           | (go_at_call 52; refine (rpay_calls _ F A B c m (Kd.C_below HA.out.1 H.all) HA.out.2.1 (Kd.C_below HA.out.2.2.1 H.all) HA.out.2.2.2 HK.out HPA.out.1 HPA.out.2 KDS.out.1 KDS.out.2).mono ?_; rintro e_ w_ ⟨rfl, h_⟩; rw [HSP.out.1]; replace H := H.below h_; clear h_; clear x0 x1 x2 x3 x4 x5 x6 x7 x8 x9 x10; obtain ⟨x0, x1, x2, x3, x4, x5, x6, x7, x8, x9, x10⟩ := fr_cells H))
          exact HP.out _ _ ⟨by rw [HE.out, hDL, hSL, HPL.out]; rfl, H.all⟩
end Go.Proofs.YtjjfkmniffbgkaaDoor

/- clear on a row of one's own. -/
namespace Go.Proofs.YtjjfkmniffbgkaaDoor
set_option linter.unusedVariables false
set_option linter.unusedSimpArgs false
open Go.RowKit Go.Proofs.YtjjfkmniffbgkaaDoorW.PrintWords
structure Wiped (W W1 : World) (row : Option Nat) : Prop where
 os : W1.os = W.os
 tape : W1.tape = W.tape
 output : W1.output = W.output
 size : W1.heap.size = W.heap.size
 block : ∀ i, i < W.heap.size → some i ≠ row → W1.heap[i]? = W.heap[i]?
theorem Wiped.blk {W W1 : World} {row : Option Nat} (h : Wiped W W1 row) {g : Nat} {o : Obj} (hg : W.heap[g]? = some o) (hne : some g ≠ row) : W1.heap[g]? = some o := (h.block g (blk_lt hg) hne).trans hg
theorem Wiped.grown {W W1 : World} {row : Option Nat} (h : Wiped W W1 row) : W.grownBy W1 row := ⟨h.os, h.tape, h.output, by have := h.size; omega, h.block⟩
theorem Wiped.own {W W1 : World} {row : Option Nat} (h : Wiped W W1 row) {base n size : Nat} {e : TypeId} {v : Value} {xs : List Value} (ho : W.ownsRow base e size v n xs) (hne : v.ownBlock = none ∨ v.ownBlock ≠ row) : W1.ownsRow base e size v n xs := ho.kept h.grown hne
end Go.Proofs.YtjjfkmniffbgkaaDoor

/- '==' of two faults as one Bool. -/
namespace Go.Proofs.YtjjfkmniffbgkaaDoor
set_option linter.unusedVariables false
set_option linter.unusedSimpArgs false
open Go.RowKit Go.Proofs.YtjjfkmniffbgkaaDoorW.PrintWords
theorem eqFault (d : Nat) (w : World) (x0 y0 : Int) (x1 y1 : Int) :
  (Op.equalIn (d + 2) 24 (.agg #[.int .u8 x0, .int .u32 x1]) (.agg #[.int .u8 y0, .int .u32 y1])).run Tryd.prog w = .ok (x0 == y0 && (x1 == y1)) w := by
 refine eqA_of Tryd.underlying24 (by kernel_rfl) ?_
 refine eqf_cons (by rfl) (by go_simp; rfl) (by go_simp; rfl) (by go_simp) ?_
 exact eqf_last (by rfl) (by go_simp; rfl) (by go_simp; rfl) (by go_simp)
end Go.Proofs.YtjjfkmniffbgkaaDoor

/- FrameGets, walked. (This text is printed by wip/gen/fgets.py.) -/
namespace Go.Proofs.YtjjfkmniffbgkaaDoor
set_option linter.unusedVariables false
set_option linter.unusedSimpArgs false
open Go.RowKit Go.Proofs.YtjjfkmniffbgkaaDoorW.PrintWords Go.Proofs.YtjjfkmniffbgkaaDoorW.PrintLast Go.Proofs.YtjjfkmniffbgkaaDoorW.PrintMore Go.Proofs.YtjjfkmniffbgkaaDoor.QFrmA Go.Proofs.YtjjfkmniffbgkaaDoor.Given Go.Extern.Stop Go.Stop Go.Extern Go.Maps
attribute [local go_sem high] eqFault
theorem rget_calls (w : World) (l : List Int) (hby : Byte8 l) (hl : l.length ≤ 100000) : Calls Tryd.prog 26 #[.string (strOfNums l)] w (RGetPost w (getFr l)) := by
 by_cases h9 : l.length < 9
 ·exact rget_short w l h9
 ·by_cases hn : headN l = (l.length : Int)
  ·exact rget_main w l hby (by omega) hl hn
  ·exact rget_length w l hby (by omega) hl hn
theorem fixed_calls (w : World) : Calls Tryd.prog 20 #[] w fun e w' => e = .returned (.bool true) ∧ Below w.heap.size w w' := by
 obtain ⟨k, hk⟩ := ev_fixed.rounds
 exact QFrmB.louverlaw07_fixed.calls k true w hk
theorem get_came (w : World) (hgv : GV w) (A : Option Addr) (c : Nat) (l : List Int) (hR : ReadsInt w .u8 A l.length l) (hc : l.length ≤ c) (hby : Byte8 l) (hl : l.length ≤ 100000) :
  Calls Tryd.prog 27 #[.slice A l.length c] w fun e w' => (∃ v, e = .returned (.tuple #[.agg v, .agg #[.int .u8 (getFr l).2.1, .int .u32 (getFr l).2.2]]) ∧ FrCame w (getFr l).1 v w') ∧ Below w.heap.size w w' := by
 refine (get_calls w hgv A c l hR hc hby hl).mono ?_
 rintro e w' ⟨D, S, he, hD, hS, hb⟩
 obtain ⟨A1, c1, rfl, h1, h2⟩ := Kd.R_reads hD
 obtain ⟨A2, c2, rfl, h3, h4⟩ := Kd.R_reads hS
 refine ⟨⟨_, he, A1, c1, A2, c2, rfl, ⟨Kd_reads h2, h1, fun a ha => ?_⟩, h4, h3, fun a ha => ?_⟩, hb⟩
 ·subst ha; exact Kd.R_base hD a.block (by simp [Value.ownBlock])
 ·subst ha; exact Kd.R_base hS a.block (by simp [Value.ownBlock])
theorem Wiped.only {g : Nat} {W w1 : World} (h : Wiped W w1 (some g)) : Only g W w1 := ⟨h.os, h.tape, h.output, h.size, fun k hk => by
 by_cases hlt : k < W.heap.size
 ·exact h.block k hlt (fun e => hk (by injection e))
 ·rw [Array.getElem?_eq_none (by have := h.size; omega), Array.getElem?_eq_none (by omega)]⟩
theorem RGetPost.of {w w' : World} {r : Fr × Int × Int} {e : Ending} (h : RGetPost w r e w') : (∃ Aq cq Bq mq, e = .returned (.agg (fC r.1 (.slice Aq r.1.data.length cq) (.slice Bq r.1.sets.length mq) r.2.1 r.2.2)) ∧
  FrCame w r.1 (frC r.1 (.slice Aq r.1.data.length cq) (.slice Bq r.1.sets.length mq)) w') ∧ Below w.heap.size w w' := by
 obtain ⟨⟨v, he, hc⟩, hb⟩ := h
 obtain ⟨A, c, B, m, e1, h1, h2⟩ := hc
 refine ⟨⟨A, c, B, m, ?_, A, c, B, m, rfl, h1, h2⟩, hb⟩
 rw [he, e1]
 rfl
theorem FrCame.rows {w w' : World} {F : Fr} {A B : Option Addr} {n m c d : Nat} (h : FrCame w F (frC F (.slice A n c) (.slice B m d)) w') : ReadsInt w' .u8 A F.data.length F.data ∧ F.data.length ≤ c ∧ k99.C w' B F.sets.length F.sets := by
 obtain ⟨A', c', B', m', e, ⟨h1, h2, _⟩, h3, _⟩ := h
 simp only [frC, Array.mk.injEq, List.cons.injEq, Value.slice.injEq, and_true, true_and] at e
 obtain ⟨⟨rfl, -, rfl⟩, rfl, -, -⟩ := e
 exact ⟨h1, h2, h3⟩
end Go.Proofs.YtjjfkmniffbgkaaDoor

/- FramePuts, walked. (This text is printed by wip/gen/fputs.py.) -/
namespace Go.Proofs.YtjjfkmniffbgkaaDoor
set_option linter.unusedVariables false
set_option linter.unusedSimpArgs false
open Go.RowKit Go.Proofs.YtjjfkmniffbgkaaDoorW.PrintWords Go.Proofs.YtjjfkmniffbgkaaDoorW.PrintLast Go.Proofs.YtjjfkmniffbgkaaDoorW.PrintMore Go.Proofs.YtjjfkmniffbgkaaDoor.QFrmA Go.Proofs.YtjjfkmniffbgkaaDoor.Given Go.Extern.Stop Go.Stop Go.Extern Go.Maps
attribute [local go_sem high] eqFault
theorem C99_blk {W W1 : World} {A : Option Addr} {n : Nat} {xs : List S99} (hC : k99.C W A n xs) (h : ∀ a, A = some a → 0 < n → W1.heap[a.block]? = W.heap[a.block]?) : k99.C W1 A n xs :=
 ⟨hC.1, hC.2.1, fun hn => by
  obtain ⟨ad, e, hc⟩ := hC.2.2 hn
  refine ⟨ad, e, fun j p hj => ?_⟩
  obtain ⟨c, hs, hr, hcell⟩ := hc j p hj
  refine ⟨c, hs, hr, fun i u hu => ?_⟩
  rw [← hcell i u hu]
  exact World.cell?_of_block (by rw [add_block]; exact h ad e hn)⟩
theorem C99_lt {W : World} {ad : Addr} {n : Nat} {xs : List S99} (hC : k99.C W (some ad) n xs) (hn : 0 < n) : ad.block < W.heap.size := by
 obtain ⟨ad', e, hc⟩ := hC.2.2 hn
 obtain rfl := Option.some.inj e
 have hl : 0 < xs.length := by have := hC.1; omega
 obtain ⟨c, hs, hr, hcell⟩ := hc 0 xs[0] (by simp [hl])
 have hs2 : c.length = 2 := hs
 have := World.block_lt_of_cell? W _ (hcell 0 (c[0]'(by omega)) (List.getElem?_eq_getElem (by omega)))
 rw [add_block] at this
 exact this
def blks (A : Option Addr) (n : Nat) : List Nat := if n = 0 then [] else (A.map (·.block)).toList
theorem mem_blks {ad : Addr} {n : Nat} (hn : 0 < n) : ad.block ∈ blks (some ad) n := by
 unfold blks
 rw [if_neg (by omega)]
 exact Option.mem_toList.2 rfl
theorem blks_some {A : Option Addr} {n k : Nat} (h : k ∈ blks A n) : 0 < n ∧ ∃ ad, A = some ad ∧ ad.block = k := by
 unfold blks at h
 split at h
 ·cases h
 ·obtain ⟨ad, e1, e2⟩ := Option.map_eq_some_iff.1 (Option.mem_toList.1 h)
  exact ⟨by omega, ad, e1, e2⟩
def frThing (A : Option Addr) (c : Nat) (B : Option Addr) (m : Nat) (G : Fr) : Own :=
 .thing (blks A G.data.length ++ blks B G.sets.length) (fun W => (ReadsInt W .u8 A G.data.length G.data ∧ G.data.length ≤ c) ∧ k99.C W B G.sets.length G.sets ∧ G.sets.length ≤ m)
  (fun W W1 h hb => ⟨⟨⟨h.1.1.1, h.1.1.2.1, fun hn => by
   obtain ⟨ad, rfl, hc⟩ := h.1.1.2.2 hn
   refine ⟨ad, rfl, fun j hj => ?_⟩
   rw [← hc j hj]
   exact World.cell?_of_block (by rw [add_block]; exact hb _ (List.mem_append_left _ (mem_blks hn)))⟩, h.1.2⟩, C99_blk h.2.1 (fun a e hn => by subst e; exact hb _ (List.mem_append_right _ (mem_blks hn))), h.2.2⟩)
  (fun W k h hk => by
   rcases List.mem_append.1 hk with hk | hk
   ·obtain ⟨hn, ad, rfl, rfl⟩ := blks_some hk
    obtain ⟨ad', e, hc⟩ := h.1.1.2.2 hn
    obtain rfl := Option.some.inj e
    have := World.block_lt_of_cell? W _ (hc 0 hn)
    rw [add_block] at this
    exact this
   ·obtain ⟨hn, ad, rfl, rfl⟩ := blks_some hk
    exact C99_lt h.2.1 hn)
theorem frThing_hold {W W1 : World} {G : Fr} {A : Option Addr} {c : Nat} {B : Option Addr} {m : Nat} (hb : Below W.heap.size W W1) (h1 : ReadsInt W1 .u8 A G.data.length G.data ∧ G.data.length ≤ c ∧ ∀ a, A = some a → W.heap.size ≤ a.block) (h2 : k99.C W1 B G.sets.length G.sets ∧ G.sets.length ≤ m ∧ ∀ a, B = some a → W.heap.size ≤ a.block) :
  Hold W W1 [] [frThing A c B m G] :=
 ⟨Kept.of_below hb, fun o ho => by rw [List.mem_singleton.1 ho]; exact ⟨⟨h1.1, h1.2.1⟩, h2.1, h2.2.1⟩, List.pairwise_singleton _ _, fun o ho k hk => by
  rw [List.mem_singleton.1 ho] at hk
  rcases List.mem_append.1 hk with hk | hk
  ·obtain ⟨hn, ad, rfl, rfl⟩ := blks_some hk
   exact .inl (h1.2.2 ad rfl)
  ·obtain ⟨hn, ad, rfl, rfl⟩ := blks_some hk
   exact .inl (h2.2.2 ad rfl)⟩
theorem Hold.fr {w W : World} {t : List Nat} {l : List Own} (H : Hold w W t l) {A : Option Addr} {c : Nat} {B : Option Addr} {m : Nat} {G : Fr} (h : frThing A c B m G ∈ l) : (ReadsInt W .u8 A G.data.length G.data ∧ G.data.length ≤ c) ∧ k99.C W B G.sets.length G.sets ∧ G.sets.length ≤ m := H.ok _ h
set_option maxHeartbeats 4000000 in
set_option maxRecDepth 100000 in
theorem great_calls (w : World) (F : Fr) (A B : Option Addr) (c m : Nat) : Calls Tryd.prog 19 #[.agg (frC F (.slice A F.data.length c) (.slice B F.sets.length m))] w fun e w' => e = .returned (.bool (decide (20000 < (F.data.length : Int)) || decide (5000 < (F.sets.length : Int)))) ∧ Below w.heap.size w w' := by
 refine of_post0 fun R hRR => ?_
 have HP := Lib.hid hRR
 clear hRR
 have H : Hold w w [] [] := Hold.nothing (Kept.refl _ _)
 cases hd : decide (20000 < (F.data.length : Int))
 all_goals
  have HD := Lib.hid hd
  go_enter Tryd.func19, Tryd.ntmps19
  go_wp2_with (first
   | (refine box_h H rfl rfl rfl rfl ?_; clear H; intro g w_ H)
   | (refine is_load rfl ?_; refine loadf_g H rfl rfl (by repeat (first | exact List.Mem.head _ | apply List.Mem.tail)) rfl (by kernel_rfl) (by rfl) ?_))
  exact HP.out _ _ ⟨by rw [HD.out]; rfl, H.all⟩
theorem got_row {w' : World} {base : Nat} {v : Value} {l : List Int} (h : (Kd.int .u8).R 5 w' base (fun _ => True) v l) : ∃ A c, v = .slice A l.length c ∧ l.length ≤ c ∧ ReadsInt w' .u8 A l.length l ∧ ∀ a, A = some a → base ≤ a.block := by
 obtain ⟨A, c, rfl, h1, h2⟩ := Kd.R_reads h
 exact ⟨A, c, rfl, h1, Kd_reads h2, fun a ha => by subst ha; exact Kd.R_base h a.block (by simp [Value.ownBlock])⟩
theorem put_got (W : World) (F : Fr) (A B : Option Addr) (c m : Nat) (hA : Kd.C (Kd.int .u8) W A F.data.length F.data) (hc : F.data.length ≤ c) (hB : Kd.C k99 W B F.sets.length F.sets) (hm : F.sets.length ≤ m) :
  Calls Tryd.prog 21 #[.agg (frC F (.slice A F.data.length c) (.slice B F.sets.length m))] W fun e w' => ∃ A1 c1, e = .returned (.slice A1 (if mayB F = true then putL F else []).length c1) ∧ (if mayB F = true then putL F else []).length ≤ c1 ∧ ReadsInt w' .u8 A1 (if mayB F = true then putL F else []).length (if mayB F = true then putL F else []) ∧ (∀ a, A1 = some a → W.heap.size ≤ a.block) ∧ Below W.heap.size W w' := by
 have hE : Ev (fun k => QFrmB.frame_Put.f k F.ty F.fl F.st F.data F.pad F.code F.oth F.wgt F.al F.win F.sets) (if mayB F = true then putL F else []) := by
  cases hmb : mayB F
  ·unfold QFrmB.frame_Put.f
   refine Ev.bind (by have := ev_mayB F; rw [hmb] at this; exact this) ?_
   exact Ev.now _
  ·have hm := (mayB_ok F).1 hmb
   exact ev_Put F (by have := hm.data; omega) hm.pad255 (by have := hm.sets; omega) (ev_May F hm) (by have := hm.pay; omega)
 generalize (if mayB F = true then putL F else []) = l at hE ⊢
 obtain ⟨k, hk⟩ := hE.rounds
 refine (QFrmB.frame_Put.calls k F.ty F.fl F.st A c F.data F.pad F.code F.oth F.wgt F.al F.win B m F.sets l W hA hc hB hm hk).mono ?_
 rintro e w' ⟨v, rfl, hR, hb⟩
 obtain ⟨A1, c1, rfl, h1, h2, h3⟩ := got_row hR
 exact ⟨A1, c1, rfl, h1, h2, h3, hb⟩
theorem may_got (W : World) (F : Fr) (A B : Option Addr) (c m : Nat) (hA : Kd.C (Kd.int .u8) W A F.data.length F.data) (hc : F.data.length ≤ c) (hB : Kd.C k99 W B F.sets.length F.sets) (hm : F.sets.length ≤ m) :
  Calls Tryd.prog 22 #[.agg (frC F (.slice A F.data.length c) (.slice B F.sets.length m))] W fun e w' => e = .returned (.bool (mayB F)) ∧ Below W.heap.size W w' := by
 obtain ⟨k, hk⟩ := (ev_mayB F).rounds
 exact QFrmB.frame_May.calls k F.ty F.fl F.st A c F.data F.pad F.code F.oth F.wgt F.al F.win B m F.sets _ W hA hc hB hm hk
theorem frC_inj {G : Fr} {A A' B B' : Option Addr} {n k c c' m m' : Nat} (h : frC G (.slice A n c) (.slice B k m) = frC G (.slice A' n c') (.slice B' k m')) : A = A' ∧ c = c' ∧ B = B' ∧ m = m' := by
 simp only [frC, Array.mk.injEq, List.cons.injEq, Value.slice.injEq, and_true, true_and] at h
 exact ⟨h.1.1, h.1.2, h.2.1, h.2.2⟩
set_option maxHeartbeats 16000000 in
set_option maxRecDepth 100000 in
theorem framePuts_great (w : World) (F : Fr) (A B : Option Addr) (c m : Nat) (hA : Kd.C (Kd.int .u8) w A F.data.length F.data) (hc : F.data.length ≤ c) (hB : Kd.C k99 w B F.sets.length F.sets) (hm : F.sets.length ≤ m) (hw : FrWf F) (hgv : GV w) (hg : (decide (20000 < (F.data.length : Int)) || decide (5000 < (F.sets.length : Int))) = true) :
  Calls Tryd.prog 4 #[.agg (frC F (.slice A F.data.length c) (.slice B F.sets.length m))] w fun e w' => e = .returned (.bool true) ∧ Below w.heap.size w w' := by
 refine of_post0 fun R hRR => ?_
 have HP := Lib.hid hRR
 have HG := Lib.hid hg
 clear hRR hA hc hB hm hw hgv hg
 have H : Hold w w [] [] := Hold.nothing (Kept.refl _ _)
 go_enter Tryd.func4, Tryd.ntmps4
 go_wp2_with (first
  | (refine box_h H rfl rfl rfl rfl ?_; clear H; intro g w_ H)
  | (refine is_load rfl ?_; refine load_g H rfl rfl (by repeat (first | exact List.Mem.head _ | apply List.Mem.tail)) (by kernel_rfl) (by kernel_rfl) (by rfl) ?_)
  | (go_at_call 19; refine (great_calls _ F A B c m).mono ?_; rintro e_ w_ ⟨rfl, h_⟩; rw [HG.out]; replace H := H.below h_; clear h_)
  | (go_at_call 20; refine (fixed_calls _).mono ?_; rintro e_ w_ ⟨rfl, h_⟩; replace H := H.below h_; clear h_))
 exact HP.out _ _ ⟨rfl, H.all⟩
set_option maxHeartbeats 16000000 in
set_option maxRecDepth 100000 in
theorem framePuts_not (w : World) (F : Fr) (A B : Option Addr) (c m : Nat) (hA : Kd.C (Kd.int .u8) w A F.data.length F.data) (hc : F.data.length ≤ c) (hB : Kd.C k99 w B F.sets.length F.sets) (hm : F.sets.length ≤ m) (hw : FrWf F) (hgv : GV w) (hg : (decide (20000 < (F.data.length : Int)) || decide (5000 < (F.sets.length : Int))) = false) (hmb : mayB F = false) :
  Calls Tryd.prog 4 #[.agg (frC F (.slice A F.data.length c) (.slice B F.sets.length m))] w fun e w' => e = .returned (.bool true) ∧ Below w.heap.size w w' := by
 refine of_post0 fun R hRR => ?_
 have HP := Lib.hid hRR
 have HG := Lib.hid hg
 have HGV := Lib.hid hgv
 have HA := Lib.hid (And.intro hA (And.intro hc (And.intro hB hm)))
 have hpg := fun (W : World) (hb : Below w.heap.size w W) => put_got W F A B c m (Kd.C_below hA hb) hc (Kd.C_below hB hb) hm
 have hfm := fun (W : World) (hb : Below w.heap.size w W) => may_got W F A B c m (Kd.C_below hA hb) hc (Kd.C_below hB hb) hm
 have hrm := fun (W : World) (hb : Below w.heap.size w W) => rmay_calls W F A B c m (Kd.C_below hA hb) hc (Kd.C_below hB hb) hm hw.ok
 have hrb := (rmay_may hw).trans hmb
 rw [hmb] at hpg hfm
 rw [hrb] at hrm
 simp only [Bool.false_eq_true, if_false] at hpg
 have HFM := Lib.hid hfm
 have HRM := Lib.hid hrm
 obtain ⟨L, hL⟩ : ∃ L : List Int, [] = L := ⟨_, rfl⟩
 rw [hL] at hpg
 have HPUT := Lib.hid hpg
 have hL0 : L.length = 0 := by rw [← hL]; rfl
 clear hRR hA hc hB hm hw hgv hg hmb hpg hfm hrm hrb hL
 have H : Hold w w [] [] := Hold.nothing (Kept.refl _ _)
 go_enter Tryd.func4, Tryd.ntmps4
 go_upto_region 4 with (first
  | (refine box_h H rfl rfl rfl rfl ?_; clear H; intro g w_ H)
  | (refine is_load rfl ?_; refine load_g H rfl rfl (by repeat (first | exact List.Mem.head _ | apply List.Mem.tail)) (by kernel_rfl) (by kernel_rfl) (by rfl) ?_)
  | (go_at_call 19; refine (great_calls _ F A B c m).mono ?_; rintro e_ w_ ⟨rfl, h_⟩; rw [HG.out]; replace H := H.below h_; clear h_)
  | (go_at_call 20; refine (fixed_calls _).mono ?_; rintro e_ w_ ⟨rfl, h_⟩; replace H := H.below h_; clear h_)
  | (go_at_call 21; refine (HPUT.out _ H.all).mono ?_; rintro e_ w_ ⟨A1, c1, rfl, k_, r_, n_, h_⟩; have HK1 := Lib.hid k_; replace H := Hold.push (l1 := [.rd .u8 A1 L.length L]) H (Hold.got h_ r_ n_); clear r_ k_ n_ h_))
 replace H := H.below (below_drew (Below.refl _ _))
 refine start_ (n := 5) (S := fun w' => w'.cell? ⟨g, 0, none⟩ = some (.int .u8 F.ty) ∧ w'.cell? ⟨g, 1, none⟩ = some (.int .u8 F.fl) ∧ w'.cell? ⟨g, 2, none⟩ = some (.int .u32 F.st) ∧ w'.cell? ⟨g, 3, none⟩ = some (.slice A F.data.length c) ∧ w'.cell? ⟨g, 4, none⟩ = some (.int .i64 F.pad) ∧ w'.cell? ⟨g, 5, none⟩ = some (.int .u32 F.code) ∧ w'.cell? ⟨g, 6, none⟩ = some (.int .u32 F.oth) ∧ w'.cell? ⟨g, 7, none⟩ = some (.int .u8 F.wgt) ∧ w'.cell? ⟨g, 8, none⟩ = some (.bool F.al) ∧ w'.cell? ⟨g, 9, none⟩ = some (.int .u32 F.win) ∧ w'.cell? ⟨g, 10, none⟩ = some (.slice B F.sets.length m)) (ds := []) #[false, false, false, false, false] (by kernel_rfl) rfl rfl ⟨((H.cell (by repeat (first | exact List.Mem.head _ | apply List.Mem.tail)) 0).trans rfl), ((H.cell (by repeat (first | exact List.Mem.head _ | apply List.Mem.tail)) 1).trans rfl), ((H.cell (by repeat (first | exact List.Mem.head _ | apply List.Mem.tail)) 2).trans rfl), ((H.cell (by repeat (first | exact List.Mem.head _ | apply List.Mem.tail)) 3).trans rfl), ((H.cell (by repeat (first | exact List.Mem.head _ | apply List.Mem.tail)) 4).trans rfl), ((H.cell (by repeat (first | exact List.Mem.head _ | apply List.Mem.tail)) 5).trans rfl), ((H.cell (by repeat (first | exact List.Mem.head _ | apply List.Mem.tail)) 6).trans rfl), ((H.cell (by repeat (first | exact List.Mem.head _ | apply List.Mem.tail)) 7).trans rfl), ((H.cell (by repeat (first | exact List.Mem.head _ | apply List.Mem.tail)) 8).trans rfl), ((H.cell (by repeat (first | exact List.Mem.head _ | apply List.Mem.tail)) 9).trans rfl), ((H.cell (by repeat (first | exact List.Mem.head _ | apply List.Mem.tail)) 10).trans rfl)⟩ (fun hHeld => ?_)
 generalize World.drew _ = wy at H hHeld ⊢
 refine take_ (i := 0) (N := some 15) (v := ?_) (a' := ?_) #[true, false, false, false, false] rfl rfl (by kernel_rfl) (fun _ _ _ h => h) (Or.inl ⟨by rfl, ?_⟩) hHeld ?_ ?_
 rotate_left
 ·rintro w' ⟨s0, s1, s2, s3, s4, s5, s6, s7, s8, s9, s10⟩
  go_simp
  with_reducible rfl
 rotate_left
 ·simp only [Act.put, putA, putB, putC]
  rfl
 refine take_ (i := 2) (N := some 17) (v := ?_) (a' := ?_) #[true, false, true, false, false] rfl rfl (by kernel_rfl) (fun _ _ _ h => h) (Or.inl ⟨by rfl, ?_⟩) hHeld ?_ ?_
 rotate_left
 ·rintro w' ⟨s0, s1, s2, s3, s4, s5, s6, s7, s8, s9, s10⟩
  go_simp
  with_reducible rfl
 rotate_left
 ·simp only [Act.put, putA, putB, putC]
  rfl
 refine one_ (i := 1) (N := some 16) #[true, true, true, false, false] rfl rfl (by kernel_rfl) (by decide) (fun K hK => ?_)
 refine goes_ Tryd.func22 (by kernel_rfl) rfl #[.agg (frC F (.slice A F.data.length c) (.slice B F.sets.length m))] (by rfl) rfl rfl (by (try simp only [List.map_toArray, List.map_cons, List.map_nil]); first | done | rfl) ?_
 refine (HFM.out _ H.all).mono ?_
 rintro e_ w9 ⟨rfl, h_⟩
 replace H := H.below h_
 refine ⟨_, rfl, ?_⟩
 have hS := Lib.hid (show (fun w' : World => w'.cell? ⟨g, 0, none⟩ = some (.int .u8 F.ty) ∧ w'.cell? ⟨g, 1, none⟩ = some (.int .u8 F.fl) ∧ w'.cell? ⟨g, 2, none⟩ = some (.int .u32 F.st) ∧ w'.cell? ⟨g, 3, none⟩ = some (.slice A F.data.length c) ∧ w'.cell? ⟨g, 4, none⟩ = some (.int .i64 F.pad) ∧ w'.cell? ⟨g, 5, none⟩ = some (.int .u32 F.code) ∧ w'.cell? ⟨g, 6, none⟩ = some (.int .u32 F.oth) ∧ w'.cell? ⟨g, 7, none⟩ = some (.int .u8 F.wgt) ∧ w'.cell? ⟨g, 8, none⟩ = some (.bool F.al) ∧ w'.cell? ⟨g, 9, none⟩ = some (.int .u32 F.win) ∧ w'.cell? ⟨g, 10, none⟩ = some (.slice B F.sets.length m)) _ from ⟨pw_cell_below h_ hHeld.1, pw_cell_below h_ hHeld.2.1, pw_cell_below h_ hHeld.2.2.1, pw_cell_below h_ hHeld.2.2.2.1, pw_cell_below h_ hHeld.2.2.2.2.1, pw_cell_below h_ hHeld.2.2.2.2.2.1, pw_cell_below h_ hHeld.2.2.2.2.2.2.1, pw_cell_below h_ hHeld.2.2.2.2.2.2.2.1, pw_cell_below h_ hHeld.2.2.2.2.2.2.2.2.1, pw_cell_below h_ hHeld.2.2.2.2.2.2.2.2.2.1, pw_cell_below h_ hHeld.2.2.2.2.2.2.2.2.2.2⟩)
 clear h_
 refine hK.out _ _ hS.out (fun hHeld => ?_)
 clear hK K
 clear hS
 refine norm_ (a' := ?_) ?_ ?_
 rotate_left
 ·show Act.put _ (some 16) _ = _
  simp only [Act.put, putA, putB, putC]
  rfl
 refine one_ (i := 3) (N := some 18) #[true, true, true, true, false] rfl rfl (by kernel_rfl) (by decide) (fun K hK => ?_)
 refine goes_ Tryd.func23 (by kernel_rfl) rfl #[.agg (frC F (.slice A F.data.length c) (.slice B F.sets.length m))] (by rfl) rfl rfl (by (try simp only [List.map_toArray, List.map_cons, List.map_nil]); first | done | rfl) ?_
 refine (HRM.out _ H.all).mono ?_
 rintro e_ w9 ⟨rfl, h_⟩
 replace H := H.below h_
 refine ⟨_, rfl, ?_⟩
 have hS := Lib.hid (show (fun w' : World => w'.cell? ⟨g, 0, none⟩ = some (.int .u8 F.ty) ∧ w'.cell? ⟨g, 1, none⟩ = some (.int .u8 F.fl) ∧ w'.cell? ⟨g, 2, none⟩ = some (.int .u32 F.st) ∧ w'.cell? ⟨g, 3, none⟩ = some (.slice A F.data.length c) ∧ w'.cell? ⟨g, 4, none⟩ = some (.int .i64 F.pad) ∧ w'.cell? ⟨g, 5, none⟩ = some (.int .u32 F.code) ∧ w'.cell? ⟨g, 6, none⟩ = some (.int .u32 F.oth) ∧ w'.cell? ⟨g, 7, none⟩ = some (.int .u8 F.wgt) ∧ w'.cell? ⟨g, 8, none⟩ = some (.bool F.al) ∧ w'.cell? ⟨g, 9, none⟩ = some (.int .u32 F.win) ∧ w'.cell? ⟨g, 10, none⟩ = some (.slice B F.sets.length m)) _ from ⟨pw_cell_below h_ hHeld.1, pw_cell_below h_ hHeld.2.1, pw_cell_below h_ hHeld.2.2.1, pw_cell_below h_ hHeld.2.2.2.1, pw_cell_below h_ hHeld.2.2.2.2.1, pw_cell_below h_ hHeld.2.2.2.2.2.1, pw_cell_below h_ hHeld.2.2.2.2.2.2.1, pw_cell_below h_ hHeld.2.2.2.2.2.2.2.1, pw_cell_below h_ hHeld.2.2.2.2.2.2.2.2.1, pw_cell_below h_ hHeld.2.2.2.2.2.2.2.2.2.1, pw_cell_below h_ hHeld.2.2.2.2.2.2.2.2.2.2⟩)
 clear h_
 refine hK.out _ _ hS.out (fun hHeld => ?_)
 clear hK K
 clear hS
 refine norm_ (a' := ?_) ?_ ?_
 rotate_left
 ·show Act.put _ (some 18) _ = _
  simp only [Act.put, putA, putB, putC]
  rfl
 refine pure_ (i := 4) (N := some 19) (v := ?_) (a' := ?_) #[true, true, true, true, true] rfl rfl (by kernel_rfl) (fun _ _ _ h => h) (Or.inl ⟨by rfl, ?_⟩) ?_ ?_
 rotate_left
 ·intro w'
  go_simp
  with_reducible rfl
 rotate_left
 ·simp only [Act.put, putA, putB, putC]
  rfl
 refine done_ (by kernel_rfl) ?_
 go_wp2_with (first
  | (refine is_load rfl ?_; refine load_g H rfl rfl (by repeat (first | exact List.Mem.head _ | apply List.Mem.tail)) (by kernel_rfl) (by kernel_rfl) (by rfl) ?_)
  | (go_at_call 20; refine (fixed_calls _).mono ?_; rintro e_ w_ ⟨rfl, h_⟩; replace H := H.below h_; clear h_)
  | (go_at_call 23; refine (HRM.out _ H.all).mono ?_; rintro e_ w_ ⟨rfl, h_⟩; replace H := H.below h_; clear h_))
 exact HP.out _ _ ⟨by first | rfl | simp [hL0], H.all⟩
set_option maxHeartbeats 16000000 in
set_option maxRecDepth 100000 in
theorem framePuts_bad (w : World) (F : Fr) (A B : Option Addr) (c m : Nat) (hA : Kd.C (Kd.int .u8) w A F.data.length F.data) (hc : F.data.length ≤ c) (hB : Kd.C k99 w B F.sets.length F.sets) (hm : F.sets.length ≤ m) (hw : FrWf F) (hgv : GV w) (hg : (decide (20000 < (F.data.length : Int)) || decide (5000 < (F.sets.length : Int))) = false) (hmb : mayB F = true) (hs : (getFr (putL F)).2.1 ≠ 0) :
  Calls Tryd.prog 4 #[.agg (frC F (.slice A F.data.length c) (.slice B F.sets.length m))] w fun e w' => e = .returned (.bool true) ∧ Below w.heap.size w w' := by
 refine of_post0 fun R hRR => ?_
 have HP := Lib.hid hRR
 have HG := Lib.hid hg
 have HGV := Lib.hid hgv
 have HA := Lib.hid (And.intro hA (And.intro hc (And.intro hB hm)))
 have hpg := fun (W : World) (hb : Below w.heap.size w W) => put_got W F A B c m (Kd.C_below hA hb) hc (Kd.C_below hB hb) hm
 have hfm := fun (W : World) (hb : Below w.heap.size w W) => may_got W F A B c m (Kd.C_below hA hb) hc (Kd.C_below hB hb) hm
 have hrm := fun (W : World) (hb : Below w.heap.size w W) => rmay_calls W F A B c m (Kd.C_below hA hb) hc (Kd.C_below hB hb) hm hw.ok
 have hok := (mayB_ok F).1 hmb
 have hrb := (rmay_may hw).trans hmb
 have hrp := fun (W : World) (hb : Below w.heap.size w W) => rput_calls W F A B c m (Kd.C_below hA hb) hc (Kd.C_below hB hb) hm hw.ok (by have := hok.pad; split at this <;> omega) hok.pad255 (by have := hok.data; omega) (by have := hok.sets; omega) hw.st0 hw.st1 (by rw [← pay_rpay hw hok.oth]; exact hok.pay)
 rw [← put_rput hw hok] at hrp
 rw [hmb] at hpg hfm
 rw [hrb] at hrm
 simp only [if_true] at hpg
 have hby := put_byte hw hok
 have hll : (putL F).length ≤ 100000 := by rw [put_len]; have := hok.pay; omega
 have hhd := put_head hok
 have h9 : decide (9 ≤ (putL F).length) = true := by rw [decide_eq_true_iff, put_len]; omega
 have hrg := fun W => rget_calls W (putL F) hby hll
 have hgc := fun (W : World) (A2 : Option Addr) (c2 : Nat) (hg : GV W) (h1 : ReadsInt W .u8 A2 (putL F).length (putL F)) (h2 : (putL F).length ≤ c2) => get_came W hg A2 c2 (putL F) h1 h2 hby hll
 have HFM := Lib.hid hfm
 have HRM := Lib.hid hrm
 have HRP := Lib.hid hrp
 have HPUT := Lib.hid hpg
 have HBY := Lib.hid (And.intro hby (show F.sets.length ≤ 1000000 by have := hok.sets; omega))
 have HHD := Lib.hid (And.intro hhd h9)
 clear hRR hA hc hB hm hw hgv hg hmb hpg hfm hrm hrb hrp hok hby hll hhd h9
 generalize putL F = L at *
 generalize getFr L = X at *
 obtain ⟨G, s, cd⟩ := X
 dsimp only at hrg hgc hs
 have b_ : (s != 0) = true := by rw [bne_iff_ne]; exact hs
 have HRG := Lib.hid hrg
 have HGC := Lib.hid hgc
 clear hrg hgc hs
 have H : Hold w w [] [] := Hold.nothing (Kept.refl _ _)
 go_enter Tryd.func4, Tryd.ntmps4
 go_upto_region 4 with (first
  | (refine box_h H rfl rfl rfl rfl ?_; clear H; intro g w_ H)
  | (refine is_load rfl ?_; refine load_g H rfl rfl (by repeat (first | exact List.Mem.head _ | apply List.Mem.tail)) (by kernel_rfl) (by kernel_rfl) (by rfl) ?_)
  | (go_at_call 19; refine (great_calls _ F A B c m).mono ?_; rintro e_ w_ ⟨rfl, h_⟩; rw [HG.out]; replace H := H.below h_; clear h_)
  | (go_at_call 20; refine (fixed_calls _).mono ?_; rintro e_ w_ ⟨rfl, h_⟩; replace H := H.below h_; clear h_)
  | (go_at_call 21; refine (HPUT.out _ H.all).mono ?_; rintro e_ w_ ⟨A1, c1, rfl, k_, r_, n_, h_⟩; have HK1 := Lib.hid k_; replace H := Hold.push (l1 := [.rd .u8 A1 L.length L]) H (Hold.got h_ r_ n_); clear r_ k_ n_ h_))
 replace H := H.below (below_drew (Below.refl _ _))
 refine start_ (n := 5) (S := fun w' => w'.cell? ⟨g, 0, none⟩ = some (.int .u8 F.ty) ∧ w'.cell? ⟨g, 1, none⟩ = some (.int .u8 F.fl) ∧ w'.cell? ⟨g, 2, none⟩ = some (.int .u32 F.st) ∧ w'.cell? ⟨g, 3, none⟩ = some (.slice A F.data.length c) ∧ w'.cell? ⟨g, 4, none⟩ = some (.int .i64 F.pad) ∧ w'.cell? ⟨g, 5, none⟩ = some (.int .u32 F.code) ∧ w'.cell? ⟨g, 6, none⟩ = some (.int .u32 F.oth) ∧ w'.cell? ⟨g, 7, none⟩ = some (.int .u8 F.wgt) ∧ w'.cell? ⟨g, 8, none⟩ = some (.bool F.al) ∧ w'.cell? ⟨g, 9, none⟩ = some (.int .u32 F.win) ∧ w'.cell? ⟨g, 10, none⟩ = some (.slice B F.sets.length m)) (ds := []) #[false, false, false, false, false] (by kernel_rfl) rfl rfl ⟨((H.cell (by repeat (first | exact List.Mem.head _ | apply List.Mem.tail)) 0).trans rfl), ((H.cell (by repeat (first | exact List.Mem.head _ | apply List.Mem.tail)) 1).trans rfl), ((H.cell (by repeat (first | exact List.Mem.head _ | apply List.Mem.tail)) 2).trans rfl), ((H.cell (by repeat (first | exact List.Mem.head _ | apply List.Mem.tail)) 3).trans rfl), ((H.cell (by repeat (first | exact List.Mem.head _ | apply List.Mem.tail)) 4).trans rfl), ((H.cell (by repeat (first | exact List.Mem.head _ | apply List.Mem.tail)) 5).trans rfl), ((H.cell (by repeat (first | exact List.Mem.head _ | apply List.Mem.tail)) 6).trans rfl), ((H.cell (by repeat (first | exact List.Mem.head _ | apply List.Mem.tail)) 7).trans rfl), ((H.cell (by repeat (first | exact List.Mem.head _ | apply List.Mem.tail)) 8).trans rfl), ((H.cell (by repeat (first | exact List.Mem.head _ | apply List.Mem.tail)) 9).trans rfl), ((H.cell (by repeat (first | exact List.Mem.head _ | apply List.Mem.tail)) 10).trans rfl)⟩ (fun hHeld => ?_)
 generalize World.drew _ = wy at H hHeld ⊢
 refine take_ (i := 0) (N := some 15) (v := ?_) (a' := ?_) #[true, false, false, false, false] rfl rfl (by kernel_rfl) (fun _ _ _ h => h) (Or.inl ⟨by rfl, ?_⟩) hHeld ?_ ?_
 rotate_left
 ·rintro w' ⟨s0, s1, s2, s3, s4, s5, s6, s7, s8, s9, s10⟩
  go_simp
  with_reducible rfl
 rotate_left
 ·simp only [Act.put, putA, putB, putC]
  rfl
 refine take_ (i := 2) (N := some 17) (v := ?_) (a' := ?_) #[true, false, true, false, false] rfl rfl (by kernel_rfl) (fun _ _ _ h => h) (Or.inl ⟨by rfl, ?_⟩) hHeld ?_ ?_
 rotate_left
 ·rintro w' ⟨s0, s1, s2, s3, s4, s5, s6, s7, s8, s9, s10⟩
  go_simp
  with_reducible rfl
 rotate_left
 ·simp only [Act.put, putA, putB, putC]
  rfl
 refine one_ (i := 1) (N := some 16) #[true, true, true, false, false] rfl rfl (by kernel_rfl) (by decide) (fun K hK => ?_)
 refine goes_ Tryd.func22 (by kernel_rfl) rfl #[.agg (frC F (.slice A F.data.length c) (.slice B F.sets.length m))] (by rfl) rfl rfl (by (try simp only [List.map_toArray, List.map_cons, List.map_nil]); first | done | rfl) ?_
 refine (HFM.out _ H.all).mono ?_
 rintro e_ w9 ⟨rfl, h_⟩
 replace H := H.below h_
 refine ⟨_, rfl, ?_⟩
 have hS := Lib.hid (show (fun w' : World => w'.cell? ⟨g, 0, none⟩ = some (.int .u8 F.ty) ∧ w'.cell? ⟨g, 1, none⟩ = some (.int .u8 F.fl) ∧ w'.cell? ⟨g, 2, none⟩ = some (.int .u32 F.st) ∧ w'.cell? ⟨g, 3, none⟩ = some (.slice A F.data.length c) ∧ w'.cell? ⟨g, 4, none⟩ = some (.int .i64 F.pad) ∧ w'.cell? ⟨g, 5, none⟩ = some (.int .u32 F.code) ∧ w'.cell? ⟨g, 6, none⟩ = some (.int .u32 F.oth) ∧ w'.cell? ⟨g, 7, none⟩ = some (.int .u8 F.wgt) ∧ w'.cell? ⟨g, 8, none⟩ = some (.bool F.al) ∧ w'.cell? ⟨g, 9, none⟩ = some (.int .u32 F.win) ∧ w'.cell? ⟨g, 10, none⟩ = some (.slice B F.sets.length m)) _ from ⟨pw_cell_below h_ hHeld.1, pw_cell_below h_ hHeld.2.1, pw_cell_below h_ hHeld.2.2.1, pw_cell_below h_ hHeld.2.2.2.1, pw_cell_below h_ hHeld.2.2.2.2.1, pw_cell_below h_ hHeld.2.2.2.2.2.1, pw_cell_below h_ hHeld.2.2.2.2.2.2.1, pw_cell_below h_ hHeld.2.2.2.2.2.2.2.1, pw_cell_below h_ hHeld.2.2.2.2.2.2.2.2.1, pw_cell_below h_ hHeld.2.2.2.2.2.2.2.2.2.1, pw_cell_below h_ hHeld.2.2.2.2.2.2.2.2.2.2⟩)
 clear h_
 refine hK.out _ _ hS.out (fun hHeld => ?_)
 clear hK K
 clear hS
 refine norm_ (a' := ?_) ?_ ?_
 rotate_left
 ·show Act.put _ (some 16) _ = _
  simp only [Act.put, putA, putB, putC]
  rfl
 refine one_ (i := 3) (N := some 18) #[true, true, true, true, false] rfl rfl (by kernel_rfl) (by decide) (fun K hK => ?_)
 refine goes_ Tryd.func23 (by kernel_rfl) rfl #[.agg (frC F (.slice A F.data.length c) (.slice B F.sets.length m))] (by rfl) rfl rfl (by (try simp only [List.map_toArray, List.map_cons, List.map_nil]); first | done | rfl) ?_
 refine (HRM.out _ H.all).mono ?_
 rintro e_ w9 ⟨rfl, h_⟩
 replace H := H.below h_
 refine ⟨_, rfl, ?_⟩
 have hS := Lib.hid (show (fun w' : World => w'.cell? ⟨g, 0, none⟩ = some (.int .u8 F.ty) ∧ w'.cell? ⟨g, 1, none⟩ = some (.int .u8 F.fl) ∧ w'.cell? ⟨g, 2, none⟩ = some (.int .u32 F.st) ∧ w'.cell? ⟨g, 3, none⟩ = some (.slice A F.data.length c) ∧ w'.cell? ⟨g, 4, none⟩ = some (.int .i64 F.pad) ∧ w'.cell? ⟨g, 5, none⟩ = some (.int .u32 F.code) ∧ w'.cell? ⟨g, 6, none⟩ = some (.int .u32 F.oth) ∧ w'.cell? ⟨g, 7, none⟩ = some (.int .u8 F.wgt) ∧ w'.cell? ⟨g, 8, none⟩ = some (.bool F.al) ∧ w'.cell? ⟨g, 9, none⟩ = some (.int .u32 F.win) ∧ w'.cell? ⟨g, 10, none⟩ = some (.slice B F.sets.length m)) _ from ⟨pw_cell_below h_ hHeld.1, pw_cell_below h_ hHeld.2.1, pw_cell_below h_ hHeld.2.2.1, pw_cell_below h_ hHeld.2.2.2.1, pw_cell_below h_ hHeld.2.2.2.2.1, pw_cell_below h_ hHeld.2.2.2.2.2.1, pw_cell_below h_ hHeld.2.2.2.2.2.2.1, pw_cell_below h_ hHeld.2.2.2.2.2.2.2.1, pw_cell_below h_ hHeld.2.2.2.2.2.2.2.2.1, pw_cell_below h_ hHeld.2.2.2.2.2.2.2.2.2.1, pw_cell_below h_ hHeld.2.2.2.2.2.2.2.2.2.2⟩)
 clear h_
 refine hK.out _ _ hS.out (fun hHeld => ?_)
 clear hK K
 clear hS
 refine norm_ (a' := ?_) ?_ ?_
 rotate_left
 ·show Act.put _ (some 18) _ = _
  simp only [Act.put, putA, putB, putC]
  rfl
 refine pure_ (i := 4) (N := some 19) (v := ?_) (a' := ?_) #[true, true, true, true, true] rfl rfl (by kernel_rfl) (fun _ _ _ h => h) (Or.inl ⟨by rfl, ?_⟩) ?_ ?_
 rotate_left
 ·intro w'
  go_simp
  with_reducible rfl
 rotate_left
 ·simp only [Act.put, putA, putB, putC]
  rfl
 refine done_ (by kernel_rfl) ?_
 go_wp2_with (first
  | (refine is_conv rfl ?_; refine convr_h rfl rfl rfl (H.rd (by repeat (first | exact List.Mem.head _ | apply List.Mem.tail))) Tryd.underlying35 Tryd.underlying5 Tryd.underlying9 ?_)
  | (refine is_load rfl ?_; refine load_g H rfl rfl (by repeat (first | exact List.Mem.head _ | apply List.Mem.tail)) (by kernel_rfl) (by kernel_rfl) (by rfl) ?_)
  | (refine is_load rfl ?_; refine loadf_g H rfl rfl (by repeat (first | exact List.Mem.head _ | apply List.Mem.tail)) rfl (by kernel_rfl) (by rfl) ?_)
  | (go_at_call 23; refine (HRM.out _ H.all).mono ?_; rintro e_ w_ ⟨rfl, h_⟩; replace H := H.below h_; clear h_)
  | (go_at_call 24; refine (HRP.out _ H.all).mono ?_; rintro e_ w_ ⟨rfl, h_⟩; replace H := H.below h_; clear h_)
  | (go_at_call 25; refine (head_calls _ A1 c1 L HBY.out.1 (H.rd (by repeat (first | exact List.Mem.head _ | apply List.Mem.tail))) HK1.out).mono ?_; rintro e_ w_ ⟨rfl, h_⟩; rw [HHD.out.1, HHD.out.2]; replace H := H.below h_.below; clear h_)
  | (go_at_call 26; refine (HRG.out _).mono ?_; rintro e_ w_ hp_; obtain ⟨⟨Aq, cq, Bq, mq, rfl, Ar, cr, Br, mr, er_, h1_, h2_⟩, h_⟩ := RGetPost.of hp_; obtain ⟨rfl, rfl, rfl, rfl⟩ := frC_inj er_; replace H := Hold.push (l1 := [frThing Aq cq Bq mq G]) H (frThing_hold h_ h1_ h2_); clear hp_ h_ h1_ h2_ er_)
  | (go_at_call 27; refine (HGC.out _ A1 c1 (GV.below HGV.out H.all) (H.rd (by repeat (first | exact List.Mem.head _ | apply List.Mem.tail))) HK1.out).mono ?_; rintro e_ w_ ⟨⟨v_, rfl, hc_⟩, h_⟩; obtain ⟨Ap, cp, Bp, mp, rfl, h1_, h2_⟩ := hc_; replace H := Hold.push (l1 := [frThing Ap cp Bp mp G]) H (frThing_hold h_ h1_ h2_); clear h_ h1_ h2_)
  | (refine is_alloc (ty := 45) rfl ?_; refine alloc_h H rfl rfl (cs := (fC ⟨0, 0, 0, [], 0, 0, 0, 0, false, 0, []⟩ nilS nilS 0 0).toList) (by first | (go_simp; done) | (go_simp; rfl)) ?_; clear H; intro g_ w_ H)
  | (refine is_alloc (ty := 38) rfl ?_; refine alloc_h H rfl rfl (cs := (frC ⟨0, 0, 0, [], 0, 0, 0, 0, false, 0, []⟩ nilS nilS).toList) (by first | (go_simp; done) | (go_simp; rfl)) ?_; clear H; intro g_ w_ H)
  | (refine is_alloc (ty := 24) rfl ?_; refine alloc_h H rfl rfl (cs := [.int .u8 0, .int .u32 0]) (by first | (go_simp; done) | (go_simp; rfl)) ?_; clear H; intro g_ w_ H)
  | (refine is_store (ty := 45) rfl ?_; refine store_h H rfl rfl rfl rfl (u := .agg (fC G (.slice Aq G.data.length cq) (.slice Bq G.sets.length mq) s cd)) rfl (by repeat (first | exact Put.head | apply Put.tail)) (by kernel_rfl) (Nat.le_of_ble_eq_true rfl) rfl ?_; clear H; intro w_ H; simp only [setC, Value.cells, List.toList_toArray] at H)
  | (refine is_store (ty := 38) rfl ?_; refine store_h H rfl rfl rfl rfl (u := .agg (frC G (.slice Ap G.data.length cp) (.slice Bp G.sets.length mp))) rfl (by repeat (first | exact Put.head | apply Put.tail)) (by kernel_rfl) (Nat.le_of_ble_eq_true rfl) rfl ?_; clear H; intro w_ H; simp only [setC, Value.cells, List.toList_toArray] at H)
  | (refine is_store (ty := 24) rfl ?_; refine store_h H rfl rfl rfl rfl (u := .agg #[.int .u8 s, .int .u32 cd]) rfl (by repeat (first | exact Put.head | apply Put.tail)) (by kernel_rfl) (Nat.le_of_ble_eq_true rfl) rfl ?_; clear H; intro w_ H; simp only [setC, Value.cells, List.toList_toArray] at H)
  | (go_at_call 20; refine (fixed_calls _).mono ?_; rintro e_ w_ ⟨rfl, h_⟩; replace H := H.below h_; clear h_))
 exact HP.out _ _ ⟨rfl, H.all⟩
set_option maxHeartbeats 16000000 in
set_option maxRecDepth 100000 in
theorem framePuts_good (w : World) (F : Fr) (A B : Option Addr) (c m : Nat) (hA : Kd.C (Kd.int .u8) w A F.data.length F.data) (hc : F.data.length ≤ c) (hB : Kd.C k99 w B F.sets.length F.sets) (hm : F.sets.length ≤ m) (hw : FrWf F) (hgv : GV w) (hg : (decide (20000 < (F.data.length : Int)) || decide (5000 < (F.sets.length : Int))) = false) (hmb : mayB F = true) (hs : (getFr (putL F)).2.1 = 0) :
  Calls Tryd.prog 4 #[.agg (frC F (.slice A F.data.length c) (.slice B F.sets.length m))] w fun e w' => e = .returned (.bool true) ∧ Below w.heap.size w w' := by
 refine of_post0 fun R hRR => ?_
 have HP := Lib.hid hRR
 have HG := Lib.hid hg
 have HGV := Lib.hid hgv
 have HA := Lib.hid (And.intro hA (And.intro hc (And.intro hB hm)))
 have hpg := fun (W : World) (hb : Below w.heap.size w W) => put_got W F A B c m (Kd.C_below hA hb) hc (Kd.C_below hB hb) hm
 have hfm := fun (W : World) (hb : Below w.heap.size w W) => may_got W F A B c m (Kd.C_below hA hb) hc (Kd.C_below hB hb) hm
 have hrm := fun (W : World) (hb : Below w.heap.size w W) => rmay_calls W F A B c m (Kd.C_below hA hb) hc (Kd.C_below hB hb) hm hw.ok
 have hok := (mayB_ok F).1 hmb
 have hrb := (rmay_may hw).trans hmb
 have hrp := fun (W : World) (hb : Below w.heap.size w W) => rput_calls W F A B c m (Kd.C_below hA hb) hc (Kd.C_below hB hb) hm hw.ok (by have := hok.pad; split at this <;> omega) hok.pad255 (by have := hok.data; omega) (by have := hok.sets; omega) hw.st0 hw.st1 (by rw [← pay_rpay hw hok.oth]; exact hok.pay)
 rw [← put_rput hw hok] at hrp
 rw [hmb] at hpg hfm
 rw [hrb] at hrm
 simp only [if_true] at hpg
 have hby := put_byte hw hok
 have hll : (putL F).length ≤ 100000 := by rw [put_len]; have := hok.pay; omega
 have hhd := put_head hok
 have h9 : decide (9 ≤ (putL F).length) = true := by rw [decide_eq_true_iff, put_len]; omega
 have hrg := fun W => rget_calls W (putL F) hby hll
 have hgc := fun (W : World) (A2 : Option Addr) (c2 : Nat) (hg : GV W) (h1 : ReadsInt W .u8 A2 (putL F).length (putL F)) (h2 : (putL F).length ≤ c2) => get_came W hg A2 c2 (putL F) h1 h2 hby hll
 have hgp := get_put hw hok hs
 have HFM := Lib.hid hfm
 have HRM := Lib.hid hrm
 have HRP := Lib.hid hrp
 have HPUT := Lib.hid hpg
 have HBY := Lib.hid (And.intro hby (show F.sets.length ≤ 1000000 by have := hok.sets; omega))
 have HHD := Lib.hid (And.intro hhd h9)
 clear hRR hA hc hB hm hw hgv hg hmb hpg hfm hrm hrb hrp hok hby hll hhd h9
 generalize putL F = L at *
 rw [hgp] at hrg hgc
 dsimp only at hrg hgc
 clear hgp
 have HRG := Lib.hid hrg
 have HGC := Lib.hid hgc
 clear hrg hgc hs
 have H : Hold w w [] [] := Hold.nothing (Kept.refl _ _)
 go_enter Tryd.func4, Tryd.ntmps4
 go_upto_region 4 with (first
  | (refine box_h H rfl rfl rfl rfl ?_; clear H; intro g w_ H)
  | (refine is_load rfl ?_; refine load_g H rfl rfl (by repeat (first | exact List.Mem.head _ | apply List.Mem.tail)) (by kernel_rfl) (by kernel_rfl) (by rfl) ?_)
  | (go_at_call 19; refine (great_calls _ F A B c m).mono ?_; rintro e_ w_ ⟨rfl, h_⟩; rw [HG.out]; replace H := H.below h_; clear h_)
  | (go_at_call 20; refine (fixed_calls _).mono ?_; rintro e_ w_ ⟨rfl, h_⟩; replace H := H.below h_; clear h_)
  | (go_at_call 21; refine (HPUT.out _ H.all).mono ?_; rintro e_ w_ ⟨A1, c1, rfl, k_, r_, n_, h_⟩; have HK1 := Lib.hid k_; replace H := Hold.push (l1 := [.rd .u8 A1 L.length L]) H (Hold.got h_ r_ n_); clear r_ k_ n_ h_))
 replace H := H.below (below_drew (Below.refl _ _))
 refine start_ (n := 5) (S := fun w' => w'.cell? ⟨g, 0, none⟩ = some (.int .u8 F.ty) ∧ w'.cell? ⟨g, 1, none⟩ = some (.int .u8 F.fl) ∧ w'.cell? ⟨g, 2, none⟩ = some (.int .u32 F.st) ∧ w'.cell? ⟨g, 3, none⟩ = some (.slice A F.data.length c) ∧ w'.cell? ⟨g, 4, none⟩ = some (.int .i64 F.pad) ∧ w'.cell? ⟨g, 5, none⟩ = some (.int .u32 F.code) ∧ w'.cell? ⟨g, 6, none⟩ = some (.int .u32 F.oth) ∧ w'.cell? ⟨g, 7, none⟩ = some (.int .u8 F.wgt) ∧ w'.cell? ⟨g, 8, none⟩ = some (.bool F.al) ∧ w'.cell? ⟨g, 9, none⟩ = some (.int .u32 F.win) ∧ w'.cell? ⟨g, 10, none⟩ = some (.slice B F.sets.length m)) (ds := []) #[false, false, false, false, false] (by kernel_rfl) rfl rfl ⟨((H.cell (by repeat (first | exact List.Mem.head _ | apply List.Mem.tail)) 0).trans rfl), ((H.cell (by repeat (first | exact List.Mem.head _ | apply List.Mem.tail)) 1).trans rfl), ((H.cell (by repeat (first | exact List.Mem.head _ | apply List.Mem.tail)) 2).trans rfl), ((H.cell (by repeat (first | exact List.Mem.head _ | apply List.Mem.tail)) 3).trans rfl), ((H.cell (by repeat (first | exact List.Mem.head _ | apply List.Mem.tail)) 4).trans rfl), ((H.cell (by repeat (first | exact List.Mem.head _ | apply List.Mem.tail)) 5).trans rfl), ((H.cell (by repeat (first | exact List.Mem.head _ | apply List.Mem.tail)) 6).trans rfl), ((H.cell (by repeat (first | exact List.Mem.head _ | apply List.Mem.tail)) 7).trans rfl), ((H.cell (by repeat (first | exact List.Mem.head _ | apply List.Mem.tail)) 8).trans rfl), ((H.cell (by repeat (first | exact List.Mem.head _ | apply List.Mem.tail)) 9).trans rfl), ((H.cell (by repeat (first | exact List.Mem.head _ | apply List.Mem.tail)) 10).trans rfl)⟩ (fun hHeld => ?_)
 generalize World.drew _ = wy at H hHeld ⊢
 refine take_ (i := 0) (N := some 15) (v := ?_) (a' := ?_) #[true, false, false, false, false] rfl rfl (by kernel_rfl) (fun _ _ _ h => h) (Or.inl ⟨by rfl, ?_⟩) hHeld ?_ ?_
 rotate_left
 ·rintro w' ⟨s0, s1, s2, s3, s4, s5, s6, s7, s8, s9, s10⟩
  go_simp
  with_reducible rfl
 rotate_left
 ·simp only [Act.put, putA, putB, putC]
  rfl
 refine take_ (i := 2) (N := some 17) (v := ?_) (a' := ?_) #[true, false, true, false, false] rfl rfl (by kernel_rfl) (fun _ _ _ h => h) (Or.inl ⟨by rfl, ?_⟩) hHeld ?_ ?_
 rotate_left
 ·rintro w' ⟨s0, s1, s2, s3, s4, s5, s6, s7, s8, s9, s10⟩
  go_simp
  with_reducible rfl
 rotate_left
 ·simp only [Act.put, putA, putB, putC]
  rfl
 refine one_ (i := 1) (N := some 16) #[true, true, true, false, false] rfl rfl (by kernel_rfl) (by decide) (fun K hK => ?_)
 refine goes_ Tryd.func22 (by kernel_rfl) rfl #[.agg (frC F (.slice A F.data.length c) (.slice B F.sets.length m))] (by rfl) rfl rfl (by (try simp only [List.map_toArray, List.map_cons, List.map_nil]); first | done | rfl) ?_
 refine (HFM.out _ H.all).mono ?_
 rintro e_ w9 ⟨rfl, h_⟩
 replace H := H.below h_
 refine ⟨_, rfl, ?_⟩
 have hS := Lib.hid (show (fun w' : World => w'.cell? ⟨g, 0, none⟩ = some (.int .u8 F.ty) ∧ w'.cell? ⟨g, 1, none⟩ = some (.int .u8 F.fl) ∧ w'.cell? ⟨g, 2, none⟩ = some (.int .u32 F.st) ∧ w'.cell? ⟨g, 3, none⟩ = some (.slice A F.data.length c) ∧ w'.cell? ⟨g, 4, none⟩ = some (.int .i64 F.pad) ∧ w'.cell? ⟨g, 5, none⟩ = some (.int .u32 F.code) ∧ w'.cell? ⟨g, 6, none⟩ = some (.int .u32 F.oth) ∧ w'.cell? ⟨g, 7, none⟩ = some (.int .u8 F.wgt) ∧ w'.cell? ⟨g, 8, none⟩ = some (.bool F.al) ∧ w'.cell? ⟨g, 9, none⟩ = some (.int .u32 F.win) ∧ w'.cell? ⟨g, 10, none⟩ = some (.slice B F.sets.length m)) _ from ⟨pw_cell_below h_ hHeld.1, pw_cell_below h_ hHeld.2.1, pw_cell_below h_ hHeld.2.2.1, pw_cell_below h_ hHeld.2.2.2.1, pw_cell_below h_ hHeld.2.2.2.2.1, pw_cell_below h_ hHeld.2.2.2.2.2.1, pw_cell_below h_ hHeld.2.2.2.2.2.2.1, pw_cell_below h_ hHeld.2.2.2.2.2.2.2.1, pw_cell_below h_ hHeld.2.2.2.2.2.2.2.2.1, pw_cell_below h_ hHeld.2.2.2.2.2.2.2.2.2.1, pw_cell_below h_ hHeld.2.2.2.2.2.2.2.2.2.2⟩)
 clear h_
 refine hK.out _ _ hS.out (fun hHeld => ?_)
 clear hK K
 clear hS
 refine norm_ (a' := ?_) ?_ ?_
 rotate_left
 ·show Act.put _ (some 16) _ = _
  simp only [Act.put, putA, putB, putC]
  rfl
 refine one_ (i := 3) (N := some 18) #[true, true, true, true, false] rfl rfl (by kernel_rfl) (by decide) (fun K hK => ?_)
 refine goes_ Tryd.func23 (by kernel_rfl) rfl #[.agg (frC F (.slice A F.data.length c) (.slice B F.sets.length m))] (by rfl) rfl rfl (by (try simp only [List.map_toArray, List.map_cons, List.map_nil]); first | done | rfl) ?_
 refine (HRM.out _ H.all).mono ?_
 rintro e_ w9 ⟨rfl, h_⟩
 replace H := H.below h_
 refine ⟨_, rfl, ?_⟩
 have hS := Lib.hid (show (fun w' : World => w'.cell? ⟨g, 0, none⟩ = some (.int .u8 F.ty) ∧ w'.cell? ⟨g, 1, none⟩ = some (.int .u8 F.fl) ∧ w'.cell? ⟨g, 2, none⟩ = some (.int .u32 F.st) ∧ w'.cell? ⟨g, 3, none⟩ = some (.slice A F.data.length c) ∧ w'.cell? ⟨g, 4, none⟩ = some (.int .i64 F.pad) ∧ w'.cell? ⟨g, 5, none⟩ = some (.int .u32 F.code) ∧ w'.cell? ⟨g, 6, none⟩ = some (.int .u32 F.oth) ∧ w'.cell? ⟨g, 7, none⟩ = some (.int .u8 F.wgt) ∧ w'.cell? ⟨g, 8, none⟩ = some (.bool F.al) ∧ w'.cell? ⟨g, 9, none⟩ = some (.int .u32 F.win) ∧ w'.cell? ⟨g, 10, none⟩ = some (.slice B F.sets.length m)) _ from ⟨pw_cell_below h_ hHeld.1, pw_cell_below h_ hHeld.2.1, pw_cell_below h_ hHeld.2.2.1, pw_cell_below h_ hHeld.2.2.2.1, pw_cell_below h_ hHeld.2.2.2.2.1, pw_cell_below h_ hHeld.2.2.2.2.2.1, pw_cell_below h_ hHeld.2.2.2.2.2.2.1, pw_cell_below h_ hHeld.2.2.2.2.2.2.2.1, pw_cell_below h_ hHeld.2.2.2.2.2.2.2.2.1, pw_cell_below h_ hHeld.2.2.2.2.2.2.2.2.2.1, pw_cell_below h_ hHeld.2.2.2.2.2.2.2.2.2.2⟩)
 clear h_
 refine hK.out _ _ hS.out (fun hHeld => ?_)
 clear hK K
 clear hS
 refine norm_ (a' := ?_) ?_ ?_
 rotate_left
 ·show Act.put _ (some 18) _ = _
  simp only [Act.put, putA, putB, putC]
  rfl
 refine pure_ (i := 4) (N := some 19) (v := ?_) (a' := ?_) #[true, true, true, true, true] rfl rfl (by kernel_rfl) (fun _ _ _ h => h) (Or.inl ⟨by rfl, ?_⟩) ?_ ?_
 rotate_left
 ·intro w'
  go_simp
  with_reducible rfl
 rotate_left
 ·simp only [Act.put, putA, putB, putC]
  rfl
 refine done_ (by kernel_rfl) ?_
 go_wp2_with (first
  | (refine is_conv rfl ?_; refine convr_h rfl rfl rfl (H.rd (by repeat (first | exact List.Mem.head _ | apply List.Mem.tail))) Tryd.underlying35 Tryd.underlying5 Tryd.underlying9 ?_)
  | (refine is_load rfl ?_; refine load_g H rfl rfl (by repeat (first | exact List.Mem.head _ | apply List.Mem.tail)) (by kernel_rfl) (by kernel_rfl) (by rfl) ?_)
  | (refine is_load rfl ?_; refine loadf_g H rfl rfl (by repeat (first | exact List.Mem.head _ | apply List.Mem.tail)) rfl (by kernel_rfl) (by rfl) ?_)
  | (go_at_call 23; refine (HRM.out _ H.all).mono ?_; rintro e_ w_ ⟨rfl, h_⟩; replace H := H.below h_; clear h_)
  | (go_at_call 24; refine (HRP.out _ H.all).mono ?_; rintro e_ w_ ⟨rfl, h_⟩; replace H := H.below h_; clear h_)
  | (go_at_call 25; refine (head_calls _ A1 c1 L HBY.out.1 (H.rd (by repeat (first | exact List.Mem.head _ | apply List.Mem.tail))) HK1.out).mono ?_; rintro e_ w_ ⟨rfl, h_⟩; rw [HHD.out.1, HHD.out.2]; replace H := H.below h_.below; clear h_)
  | (go_at_call 26; refine (HRG.out _).mono ?_; rintro e_ w_ hp_; obtain ⟨⟨Aq, cq, Bq, mq, rfl, Ar, cr, Br, mr, er_, h1_, h2_⟩, h_⟩ := RGetPost.of hp_; obtain ⟨rfl, rfl, rfl, rfl⟩ := frC_inj er_; replace H := Hold.push (l1 := [frThing Aq cq Bq mq F]) H (frThing_hold h_ h1_ h2_); clear hp_ h_ h1_ h2_ er_)
  | (go_at_call 27; refine (HGC.out _ A1 c1 (GV.below HGV.out H.all) (H.rd (by repeat (first | exact List.Mem.head _ | apply List.Mem.tail))) HK1.out).mono ?_; rintro e_ w_ ⟨⟨v_, rfl, hc_⟩, h_⟩; obtain ⟨Ap, cp, Bp, mp, rfl, h1_, h2_⟩ := hc_; replace H := Hold.push (l1 := [frThing Ap cp Bp mp F]) H (frThing_hold h_ h1_ h2_); clear h_ h1_ h2_)
  | (refine is_alloc (ty := 45) rfl ?_; refine alloc_h H rfl rfl (cs := (fC ⟨0, 0, 0, [], 0, 0, 0, 0, false, 0, []⟩ nilS nilS 0 0).toList) (by first | (go_simp; done) | (go_simp; rfl)) ?_; clear H; intro g_ w_ H)
  | (refine is_alloc (ty := 38) rfl ?_; refine alloc_h H rfl rfl (cs := (frC ⟨0, 0, 0, [], 0, 0, 0, 0, false, 0, []⟩ nilS nilS).toList) (by first | (go_simp; done) | (go_simp; rfl)) ?_; clear H; intro g_ w_ H)
  | (refine is_alloc (ty := 24) rfl ?_; refine alloc_h H rfl rfl (cs := [.int .u8 0, .int .u32 0]) (by first | (go_simp; done) | (go_simp; rfl)) ?_; clear H; intro g_ w_ H)
  | (refine is_store (ty := 45) rfl ?_; refine store_h H rfl rfl rfl rfl (u := .agg (fC F (.slice Aq F.data.length cq) (.slice Bq F.sets.length mq) 0 0)) rfl (by repeat (first | exact Put.head | apply Put.tail)) (by kernel_rfl) (Nat.le_of_ble_eq_true rfl) rfl ?_; clear H; intro w_ H; simp only [setC, Value.cells, List.toList_toArray] at H)
  | (refine is_store (ty := 38) rfl ?_; refine store_h H rfl rfl rfl rfl (u := .agg (frC F (.slice Ap F.data.length cp) (.slice Bp F.sets.length mp))) rfl (by repeat (first | exact Put.head | apply Put.tail)) (by kernel_rfl) (Nat.le_of_ble_eq_true rfl) rfl ?_; clear H; intro w_ H; simp only [setC, Value.cells, List.toList_toArray] at H)
  | (refine is_store (ty := 24) rfl ?_; refine store_h H rfl rfl rfl rfl (u := .agg #[.int .u8 0, .int .u32 0]) rfl (by repeat (first | exact Put.head | apply Put.tail)) (by kernel_rfl) (Nat.le_of_ble_eq_true rfl) rfl ?_; clear H; intro w_ H; simp only [setC, Value.cells, List.toList_toArray] at H)
  | (go_at_call 20; refine (fixed_calls _).mono ?_; rintro e_ w_ ⟨rfl, h_⟩; replace H := H.below h_; clear h_)
  | (go_at_call 28; have r_ := H.fr (A := Ap) (by repeat (first | exact List.Mem.head _ | apply List.Mem.tail)); refine (rsame_calls _ F A Ap B Bp c cp m mp (H.reads0 (Kd_reads HA.out.1)) HA.out.2.1 r_.1.1 r_.1.2 (Kd.C_below HA.out.2.2.1 H.all) r_.2.1 HBY.out.2).mono ?_; clear r_; rintro e_ w_ ⟨rfl, h_⟩; replace H := H.below h_; clear h_))
 exact HP.out _ _ ⟨rfl, H.all⟩
theorem framePuts_walk (w : World) (F : Fr) (A B : Option Addr) (c m : Nat) (hA : Kd.C (Kd.int .u8) w A F.data.length F.data) (hc : F.data.length ≤ c) (hB : Kd.C k99 w B F.sets.length F.sets) (hm : F.sets.length ≤ m) (hw : FrWf F) (hgv : GV w) : Calls Tryd.prog 4 #[.agg (frC F (.slice A F.data.length c) (.slice B F.sets.length m))] w fun e w' => e = .returned (.bool true) ∧ Below w.heap.size w w' := by
 cases hg : (decide (20000 < (F.data.length : Int)) || decide (5000 < (F.sets.length : Int)))
 ·cases hmb : mayB F
  ·exact framePuts_not w F A B c m hA hc hB hm hw hgv hg hmb
  ·by_cases hs : (getFr (putL F)).2.1 = 0
   ·exact framePuts_good w F A B c m hA hc hB hm hw hgv hg hmb hs
   ·exact framePuts_bad w F A B c m hA hc hB hm hw hgv hg hmb hs
 ·exact framePuts_great w F A B c m hA hc hB hm hw hgv hg
end Go.Proofs.YtjjfkmniffbgkaaDoor

/- A row of bytes that came in, opened. -/
namespace Go.Proofs.YtjjfkmniffbgkaaDoor
set_option linter.unusedVariables false
set_option linter.unusedSimpArgs false
open Go.RowKit Go.ChangeShapes Go.WideShapes Go.Deep Go.Joins Go.Proofs.YtjjfkmniffbgkaaDoorW.PrintWords
end Go.Proofs.YtjjfkmniffbgkaaDoor
