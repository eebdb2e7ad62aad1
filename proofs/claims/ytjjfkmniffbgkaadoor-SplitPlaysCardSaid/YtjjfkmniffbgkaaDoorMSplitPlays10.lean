/- The statement of louver/louverlaw08.SplitPlays: for every input it returns true, and each argument reads behind the call as it read before; no other condition than the row's own. -/
import Derived.Test.YtjjfkmniffbgkaaDoorMSplitPlays9
import Derived.Test.YtjjfkmniffbgkaaDoorMSplitPlays2
import Derived.ChangeSlices
import Derived.Deep.Slices
import Derived.ChangeArms
import Derived.ChangeSame
import Derived.WideLaws
import Derived.OpenShut
import Derived.Lib.SmallJoins
import Derived.WideShapes
import Derived.ChangeShapes
import Derived.Test.YtjjfkmniffbgkaaDoorRows
import Derived.LaidHandle
import Derived.LaidLaws
import Derived.Stop.Joined
import Derived.Test.YtjjfkmniffbgkaaDoorCards
import Derived.Test.YtjjfkmniffbgkaaDoorTie
import Derived.WalkKit
import Derived.ProofKit
import Derived.ShutString
import Derived.ChangeOld
import Derived.Below
import Derived.SizedLaws
import Derived.Carry
import Derived.Deep.DeepHandedRow
import Derived.Test.YtjjfkmniffbgkaaDoorMSplitPlays0
/- The reference of split: All, walked. (This text is printed by wip/gen/split11.py.) -/
namespace Go.Proofs.YtjjfkmniffbgkaaDoor
set_option linter.unusedVariables false
set_option linter.unusedSimpArgs false
open Go.RowKit Go.Proofs.YtjjfkmniffbgkaaDoorW.PrintWords Go.Proofs.YtjjfkmniffbgkaaDoorW.PrintLast Go.Proofs.YtjjfkmniffbgkaaDoorW.PrintMore Go.Proofs.YtjjfkmniffbgkaaDoor.QFrmA Go.Proofs.YtjjfkmniffbgkaaDoor.Given Go.Extern.Stop Go.Stop Go.Extern Go.Maps
attribute [local go_sem] max2_int min2_int max_two min_two
theorem rget_hold (W : World) (l : List Int) (hby : Byte8 l) (hl : l.length ≤ 20000000) : Calls Tryd.prog 26 #[.string (strOfNums l)] W fun e w' => ∃ Aq cq Bq mq, e = .returned (.agg (fC (getFr l).1 (.slice Aq (getFr l).1.data.length cq) (.slice Bq (getFr l).1.sets.length mq) (getFr l).2.1 (getFr l).2.2)) ∧ Hold W w' [] [frThing Aq cq Bq mq (getFr l).1] := by
 refine (rget_calls W l hby hl).mono ?_
 intro e w' hp
 obtain ⟨⟨Aq, cq, Bq, mq, rfl, Ar, cr, Br, mr, er, h1, h2⟩, hb⟩ := RGetPost.of hp
 obtain ⟨rfl, rfl, rfl, rfl⟩ := frC_inj er
 exact ⟨Aq, cq, Bq, mq, rfl, frThing_hold hb h1 h2⟩
def AllEnd (w : World) (p : Bool) (full : List Int) (e : Ending) (w' : World) : Prop :=
 ∃ vo es, e = .returned (.tuple #[vo, .int .i64 (((allP p full).2.1 : Nat) : Int), .bool (allP p full).2.2]) ∧ (∃ A c, vo = .slice A es.length c) ∧ Hold w w' [] ([rowO vo es] ++ rowT es) ∧ es.map FE.x = (allP p full).1
theorem AllEnd.of {w w' : World} {p : Bool} {full : List Int} {es : List FE} {A : Option Addr} {c : Nat} {left : Nat} {bad : Bool} {l : List Own} (H : Hold w w' [] l) (hw : Want l ([rowO (.slice A es.length c) es] ++ rowT es)) (h : allP p full = (es.map FE.x, left, bad)) :
  AllEnd w p full (.returned (.tuple #[.slice A es.length c, .int .i64 (left : Int), .bool bad])) w' := ⟨_, es, by rw [h], ⟨A, c, rfl⟩, H.want hw, by rw [h]⟩
set_option maxHeartbeats 4000000 in
set_option maxRecDepth 100000 in
theorem all_mis (W : World) (full : List Int) (hby : Byte8 full) (hl : full.length ≤ 10000000) (hp : preOk full = false) : Calls Tryd.prog 35 #[.string (strOfNums full), .bool true] W (AllEnd W true full) := by
 refine of_post0 fun R hRR => ?_
 have HP := Lib.hid hRR
 have hsz := str_size full
 have hps : (strOfNums pre24).size = 24 := str_size pre24
 obtain ⟨n, hn⟩ : ∃ n : Nat, min 24 full.length = n := ⟨_, rfl⟩
 have k1 := fun W => run_to_str full (n : Int) (by omega) (by omega) W
 have k2 := fun W => run_to_str pre24 (n : Int) (by omega) (by show (n : Int) ≤ 24; omega) W
 rw [Int.toNat_natCast] at k1 k2
 have k3 : ((strOfNums (full.take n)).toList == (strOfNums (pre24.take n)).toList) = preOk full := by
  have hb1 : Byte8 (full.take n) := fun x hx => hby x (List.mem_of_mem_take hx)
  have hb2 : Byte8 (pre24.take n) := fun x hx => pre24_byte x (List.mem_of_mem_take hx)
  unfold preOk
  rw [Bool.eq_iff_iff, beq_iff_eq, beq_iff_eq, hn]
  exact str_ne hb1 hb2
 have k4 : (if (full.length : Int) < 24 then (full.length : Int) else 24) = (n : Int) := by split <;> omega
 have k5 : (n : Int) ≤ (full.length : Int) := by omega
 have k6 : n ≤ full.length := by omega
 rw [hp] at k3
 have HA := Lib.hid (show allP true full = ([(noneF, 1, 1)], 0, true) by unfold allP; simp [hp])
 clear hRR hby hp
 generalize strOfNums full = sf at hsz k1 ⊢
 have H : Hold W W [] [] := Hold.nothing (Kept.refl _ _)
 go_enter Tryd.func35, Tryd.ntmps35
 go_upto_region 5 with (first
  | ((with_reducible refine is_lit rfl ?_); refine emptyrow_h H rfl 45 13 (by first | (go_simp; done) | (go_simp; rfl)) ?_; clear H; intro go w_ H)
  | (go_at_call 42; refine (rpre_calls _).mono ?_; rintro e_ w_ ⟨rfl, h_⟩; replace H := H.below h_; clear h_))
 replace H := H.below (below_drew (Below.refl _ _))
 go_region
 go_wp2_with (first
  | ((with_reducible refine is_alloc (ty := 45) rfl ?_); refine alloc_h H rfl rfl (cs := (fC ⟨0, 0, 0, [], 0, 0, 0, 0, false, 0, []⟩ nilS nilS 0 0).toList) (by first | (go_simp; done) | (go_simp; rfl)) ?_; clear H; intro gx w_ H)
  | ((with_reducible refine is_store (ty := 45) rfl ?_); refine store_h H rfl rfl rfl rfl (u := .agg (fC ⟨0, 0, 0, [], 0, 0, 0, 0, false, 0, []⟩ nilS nilS 1 1)) rfl (by repeat (first | exact Put.head | apply Put.tail)) (by kernel_rfl) (Nat.le_of_ble_eq_true rfl) rfl ?_; clear H; intro w_ H; simp only [setC, Value.cells, List.toList_toArray] at H)
  | ((with_reducible refine is_store rfl ?_); (try simp only [Act.put, putA, putB, putC]); refine store_h H rfl rfl rfl rfl rfl (by repeat (first | exact Put.head | apply Put.tail)) (by kernel_rfl) (Nat.le_of_ble_eq_true rfl) rfl ?_; clear H; intro w_ H; simp only [setC, Value.cells, List.toList_toArray] at H)
  | ((with_reducible refine is_load (ty := 45) rfl ?_); refine load_h H rfl rfl rfl (by repeat (first | exact List.Mem.head _ | apply List.Mem.tail)) (by kernel_rfl) (by kernel_rfl) ?_)
  | ((with_reducible refine is_lit rfl ?_); refine onerow_h H rfl (e := 45) (cs := (fC noneF nilS nilS 1 1).toList) (by first | (go_simp; done) | (go_simp; rfl)) ?_; clear H; intro gl w_ H)
  | ((with_reducible refine is_call rfl ?_); refine appends_h H rfl rfl Tryd.underlying61 Tryd.infoF rfl (by decide) rfl rfl (g := gl) (by repeat (first | exact List.Mem.head _ | apply List.Mem.tail)) rfl rfl (fun y => (by repeat (first | exact Put.head | apply Put.tail))) (by omega) (by omega) ?_; clear H; intro vo4 w_ H))
 obtain ⟨A4, c4, e4⟩ := own_slice (H.ok (.row 45 13 vo4 (0 + 1) ([] ++ (fC noneF nilS nilS 1 1).toList)) (by repeat (first | exact List.Mem.head _ | apply List.Mem.tail)))
 subst e4
 have H2 := Hold.push H (frThing_nil noneF rfl rfl)
 have H3 : Hold W _ [] ([rowO (.slice A4 1 c4) [⟨(noneF, 1, 1), none, 0, none, 0⟩]] ++ rowT [⟨(noneF, 1, 1), none, 0, none, 0⟩]) := H2.want (l' := [.row 45 13 (.slice A4 (0 + 1) c4) (0 + 1) ([] ++ (fC noneF nilS nilS 1 1).toList), frThing none 0 none 0 noneF]) (Want.take (by repeat (first | exact Pull.head | apply Pull.tail)) (Want.take (by repeat (first | exact Pull.head | apply Pull.tail)) (Want.done (by repeat (first | exact Suf.refl | apply Suf.cons)))))
 refine bodyPost_ret (results_list (rs := [.tmp 4, .tmp 5, .tmp 6]) rfl (by simp) (.tmp (.tmp (.tmp .nil)))) rfl ?_
 exact HP.out _ _ (AllEnd.of (es := [⟨(noneF, 1, 1), none, 0, none, 0⟩]) H3 (Want.done .refl) HA.out)
set_option maxHeartbeats 4000000 in
set_option maxRecDepth 100000 in
theorem all_short (W : World) (full : List Int) (hby : Byte8 full) (hl : full.length ≤ 10000000) (hp : preOk full = true) (hs : full.length < 24) : Calls Tryd.prog 35 #[.string (strOfNums full), .bool true] W (AllEnd W true full) := by
 refine of_post0 fun R hRR => ?_
 have HP := Lib.hid hRR
 have hsz := str_size full
 have hps : (strOfNums pre24).size = 24 := str_size pre24
 obtain ⟨n, hn⟩ : ∃ n : Nat, min 24 full.length = n := ⟨_, rfl⟩
 have k1 := fun W => run_to_str full (n : Int) (by omega) (by omega) W
 have k2 := fun W => run_to_str pre24 (n : Int) (by omega) (by show (n : Int) ≤ 24; omega) W
 rw [Int.toNat_natCast] at k1 k2
 have k3 : ((strOfNums (full.take n)).toList == (strOfNums (pre24.take n)).toList) = preOk full := by
  have hb1 : Byte8 (full.take n) := fun x hx => hby x (List.mem_of_mem_take hx)
  have hb2 : Byte8 (pre24.take n) := fun x hx => pre24_byte x (List.mem_of_mem_take hx)
  unfold preOk
  rw [Bool.eq_iff_iff, beq_iff_eq, beq_iff_eq, hn]
  exact str_ne hb1 hb2
 have k4 : (if (full.length : Int) < 24 then (full.length : Int) else 24) = (n : Int) := by split <;> omega
 have k5 : (n : Int) ≤ (full.length : Int) := by omega
 have k6 : n ≤ full.length := by omega
 rw [hp] at k3
 have HA := Lib.hid (show allP true full = ([], full.length, false) by unfold allP; simp [hp, hs])
 have hnl : n = full.length := by omega
 have k7 : decide ((n : Int) < 24) = true := decide_eq_true (by omega)
 have k8 : decide (n < 24) = true := decide_eq_true (by omega)
 have HN := Lib.hid hnl
 clear hRR hby hp hs hnl
 generalize strOfNums full = sf at hsz k1 ⊢
 have H : Hold W W [] [] := Hold.nothing (Kept.refl _ _)
 go_enter Tryd.func35, Tryd.ntmps35
 go_upto_region 5 with (first
  | ((with_reducible refine is_lit rfl ?_); refine emptyrow_h H rfl 45 13 (by first | (go_simp; done) | (go_simp; rfl)) ?_; clear H; intro go w_ H)
  | (go_at_call 42; refine (rpre_calls _).mono ?_; rintro e_ w_ ⟨rfl, h_⟩; replace H := H.below h_; clear h_))
 replace H := H.below (below_drew (Below.refl _ _))
 go_region
 go_wp2_with fail
 rw [HN.out]
 refine bodyPost_ret (results_list (rs := [.tmp 4, .tmp 5, .tmp 6]) rfl (by simp) (.tmp (.tmp (.tmp .nil)))) rfl ?_
 exact HP.out _ _ (AllEnd.of (es := []) H (Want.done .refl) HA.out)
set_option maxHeartbeats 16000000 in
set_option maxRecDepth 100000 in
theorem all_goF (W : World) (full : List Int) (hby : Byte8 full) (hl : full.length ≤ 10000000) : Calls Tryd.prog 35 #[.string (strOfNums full), .bool false] W (AllEnd W false full) := by
 refine of_post0 fun R hRR => ?_
 have HP := Lib.hid hRR
 have hsz := str_size full
 have hps : (strOfNums pre24).size = 24 := str_size pre24
 have HS := Lib.hid (And.intro (show allP false full = ([] ++ (allB full.length full).1, (allB full.length full).2) by unfold allP; simp) (And.intro hby hl))
 clear hRR hby
 have H : Hold W W [] [] := Hold.nothing (Kept.refl _ _)
 go_enter Tryd.func35, Tryd.ntmps35
 go_wp2_with (first
  | ((with_reducible refine is_lit rfl ?_); refine emptyrow_h H rfl 45 13 (by first | (go_simp; done) | (go_simp; rfl)) ?_; clear H; intro go w_ H))
 go_loopg [0, 7] full.length (fun kk v0 v7 wr => ∃ (L : List Int) (es : List FE) (Ao : Option Addr) (co : Nat), v0 = .string (strOfNums L) ∧ v7 = .slice Ao es.length co ∧ Aside0 (Hold W wr [] ([rowO (.slice Ao es.length co) es] ++ rowT es) ∧ Byte8 L ∧ L.length ≤ kk ∧ es.length + L.length ≤ full.length ∧ allP false full = (es.map FE.x ++ (allB L.length L).1, (allB L.length L).2)))
 case atStart => exact ⟨full, [], some ⟨go, 0, none⟩, 0, rfl, rfl, Aside0.mk ⟨H, HS.out.2.1, Nat.le_refl _, by simp, HS.out.1⟩⟩
 case round =>
  obtain ⟨L, es, Ao, co, rfl, rfl, hP⟩ := hrel
  obtain ⟨H, hyL, hkL, hsm, hA⟩ := hP.out
  clear hP
  have hzL := str_size L
  have hLm : L.length ≤ 10000000 := by have := HS.out.2.2; omega
  have hem : es.length ≤ 10000000 := by have := HS.out.2.2; omega
  by_cases h9 : L.length < 9
  ·have d1 : decide (9 ≤ (L.length : Int)) = false := decide_eq_false (by omega)
   have d2 : decide (9 ≤ L.length) = false := decide_eq_false (by omega)
   have HA := Lib.hid (show allP false full = (es.map FE.x, L.length, false) by
    rw [hA, allB_none (by unfold nextB; rw [if_pos h9])]
    simp)
   clear hA
   go_wp2_with fail
   refine bodyPost_ret (results_list (rs := [.tmp 4, .tmp 5, .tmp 6]) rfl (by simp) (.tmp (.tmp (.tmp .nil)))) rfl ?_
   exact HP.out _ _ (AllEnd.of H (Want.done .refl) HA.out)
  ·have h9' : 9 ≤ L.length := by omega
   have d1 : decide (9 ≤ (L.length : Int)) = true := decide_eq_true (by omega)
   have d2 : decide (9 ≤ L.length) = true := decide_eq_true h9'
   have hb3 : Byte8 (L.take 3) := fun x hx => hyL x (List.mem_of_mem_take hx)
   have hl3 : (L.take 3).length = 3 := by rw [List.length_take]; omega
   have f3 := fun W => run_to_str L 3 (by decide) (by omega) W
   rw [show (3 : Int).toNat = 3 from rfl] at f3
   have HV := Lib.hid (fun W => value_ref_calls W (L.take 3) (by omega) hb3)
   have hv3 := valL_bound hb3
   rw [hl3, show (256 : Int) ^ 3 = 16777216 from rfl] at hv3
   have hw3 : IntKind.i64.wrap (valL (L.take 3)) = valL (L.take 3) := by simp [IntKind.wrap, IntKind.bits, IntKind.signed]; omega
   obtain ⟨m, hm⟩ := Int.eq_ofNat_of_zero_le (show 0 ≤ headN L by have := headN_ge h9' hyL; omega)
   have hm9 := headN_ge h9' hyL
   have hmm := headN_le hyL
   have hmv : 9 + valL (L.take 3) = (m : Int) := by rw [← hm]; unfold headN; rw [if_neg h9]
   rw [hm] at hm9 hmm
   generalize valL (L.take 3) = v3 at HV hv3 hw3 hmv
   generalize strOfNums (L.take 3) = s3 at f3 HV
   have hNB : nextB L = if (m : Int) ≤ 16393 ∧ (L.length : Int) < (m : Int) then none
     else if 16393 < (m : Int) then some ((hdF L, 1, 6), [], true)
     else if (getFr (L.take m)).2.1 = 1 then some (getFr (L.take m), [], true)
     else some (getFr (L.take m), L.drop m, false) := by
    unfold nextB
    rw [if_neg h9, hm, Int.toNat_natCast]
   by_cases hg : 16393 < m
   ·have d3 : decide ((16393 : Int) < (m : Int)) = true := decide_eq_true (by omega)
    have d4 : decide (16393 < m) = true := decide_eq_true hg
    rw [if_neg (by omega), if_pos (by omega)] at hNB
    have hone := allB_one (r := []) hyL (fun x hx => by cases hx) hNB
    simp only [List.append_nil, if_true] at hone
    have HA := Lib.hid (show allP false full = (es.map FE.x ++ [(hdF L, 1, 6)], 0, true) by rw [hA, hone])
    obtain ⟨m9, hm9'⟩ : ∃ m9 : Nat, m = m9 + 9 := ⟨m - 9, by omega⟩
    have f9 := fun W => run_to_str L 9 (by decide) (by omega) W
    rw [show (9 : Int).toNat = 9 from rfl] at f9
    obtain ⟨L9, hL9⟩ : ∃ L9, L.take 9 ++ List.replicate m9 0 = L9 := ⟨_, rfl⟩
    have hs9 : strOfNums (L.take 9) ++ strOfNums (List.replicate m9 0) = strOfNums L9 := by rw [strs_append, hL9]
    have ht9 : (L.take 9).length = 9 := by rw [List.length_take]; omega
    have hl9 : L9.length = m := by rw [← hL9, List.length_append, ht9, List.length_replicate]; omega
    have hm7 : (m : Int) - 9 = (m9 : Int) := by omega
    have hw8 : IntKind.i64.wrap (m9 : Int) = (m9 : Int) := by simp [IntKind.wrap, IntKind.bits, IntKind.signed]; omega
    have hw7 : wrap64 ((m : Int) - 9) = (m9 : Int) := by rw [wrap_okF (by omega) (by omega)]; omega
    have c9 : (9223372036854775807 < (strOfNums (L.take 9)).size + (strOfNums (List.replicate m9 0)).size) = False := eq_false (by rw [str_size, str_size, ht9, List.length_replicate]; omega)
    have hh9 : headN (L.take 9) = headN L ∧ hdF (L.take 9) = hdF L := by
     have e1 := headN_app (b := L.take 9) (L.drop 9) (by omega)
     have e2 := hdF_app (b := L.take 9) (L.drop 9) (by omega)
     rw [List.take_append_drop] at e1 e2
     exact ⟨e1.symm, e2.symm⟩
    have hG := fun W => rget_hold W L9 (fun x hx => by
     rw [← hL9] at hx
     rcases List.mem_append.1 hx with hx | hx
     ·exact hyL x (List.mem_of_mem_take hx)
     ·have := List.eq_of_mem_replicate hx
      omega) (by omega)
    rw [getFr_great (by omega) (by rw [← hL9, headN_app _ (by omega), hh9.1, hm, hL9, hl9]) (by omega), show hdF L9 = hdF L by rw [← hL9, hdF_app _ (by omega), hh9.2]] at hG
    generalize hdF L = F at hG HA
    dsimp only at hG
    have HG := Lib.hid hG
    have hm10 : m9 ≤ 20000000 := by omega
    clear hG hh9 hl9 ht9 hL9 hone hNB hA hm hyL hb3 hl3 hm9'
    generalize strOfNums (L.take 9) = s9 at f9 hs9 c9
    go_upto_region 15 with (first
     | (go_at_call 29; refine (HV.out _).mono ?_; rintro e_ w_ ⟨rfl, h_⟩; replace H := H.below h_.below; clear h_))
    replace H := H.below (below_drew (Below.refl _ _))
    refine start_ (n := 10) (S := fun w' => True) (ds := []) #[false, false, false, false, false, false, false, false, false, false] (by kernel_rfl) rfl rfl trivial (fun hHeld => ?_)
    generalize World.drew _ = wy at H hHeld ⊢
    refine pure_ (i := 0) (N := some 55) (v := ?_) (a' := ?_) #[true, false, false, false, false, false, false, false, false, false] rfl rfl (by kernel_rfl) (fun _ _ _ h => h) (Or.inl ⟨by rfl, ?_⟩) ?_ ?_
    rotate_left
    ·intro w'
     go_simp
     with_reducible rfl
    rotate_left
    ·simp only [Act.put, putA, putB, putC]
     rfl
    refine pure_ (i := 1) (N := some 56) (v := ?_) (a' := ?_) #[true, true, false, false, false, false, false, false, false, false] rfl rfl (by kernel_rfl) (fun _ _ _ h => h) (Or.inl ⟨by rfl, ?_⟩) ?_ ?_
    rotate_left
    ·intro w'
     go_simp
     with_reducible rfl
    rotate_left
    ·simp only [Act.put, putA, putB, putC]
     rfl
    refine pure_ (i := 2) (N := some 57) (v := ?_) (a' := ?_) #[true, true, true, false, false, false, false, false, false, false] rfl rfl (by kernel_rfl) (fun _ _ _ h => h) (Or.inl ⟨by rfl, ?_⟩) ?_ ?_
    rotate_left
    ·intro w'
     go_simp
     with_reducible rfl
    rotate_left
    ·simp only [Act.put, putA, putB, putC]
     rfl
    refine pure_ (i := 3) (N := some 58) (v := ?_) (a' := ?_) #[true, true, true, true, false, false, false, false, false, false] rfl rfl (by kernel_rfl) (fun _ _ _ h => h) (Or.inl ⟨by rfl, ?_⟩) ?_ ?_
    rotate_left
    ·intro w'
     go_simp
     with_reducible rfl
    rotate_left
    ·simp only [Act.put, putA, putB, putC]
     rfl
    refine two_ (i := 4) (j := 8) (Ni := some 59) (Nj := some 12) #[true, true, true, true, true, false, false, false, false, false] #[true, true, true, true, false, false, false, false, true, false] rfl rfl rfl rfl (by kernel_rfl) (by decide) (by decide) (fun K hK => ?_) (fun K hK => ?_)
    ·refine makeb_o H (by rfl) rfl m9 rfl rfl Tryd.underlying35 Tryd.infoB8 (by omega) ?_
     clear H
     intro gm w_ H h_
     clear h_
     refine hK.out _ _ trivial (fun hHeld => ?_)
     clear hK K
     refine norm_ (a' := ?_) ?_ ?_
     rotate_left
     ·show Act.put _ (some 59) _ = _
      simp only [Act.put, putA, putB, putC]
      rfl
     refine two_ (i := 5) (j := 8) (Ni := some 60) (Nj := some 12) #[true, true, true, true, true, true, false, false, false, false] #[true, true, true, true, true, false, false, false, true, false] rfl rfl rfl rfl (by kernel_rfl) (by decide) (by decide) (fun K hK => ?_) (fun K hK => ?_)
     ·refine conv_o H (by rfl) rfl (v := .slice (some ⟨gm, 0, none⟩) m9 m9) rfl (by repeat (first | exact List.Mem.head _ | apply List.Mem.tail)) Tryd.underlying35 Tryd.underlying5 Tryd.underlying9 ?_
      refine hK.out _ _ trivial (fun hHeld => ?_)
      clear hK K
      refine norm_ (a' := ?_) ?_ ?_
      rotate_left
      ·show Act.put _ (some 60) _ = _
       simp only [Act.put, putA, putB, putC]
       rfl
      refine pure_ (i := 6) (N := some 61) (v := ?_) (a' := ?_) #[true, true, true, true, true, true, true, false, false, false] rfl rfl (by kernel_rfl) (fun _ _ _ h => h) (Or.inl ⟨by rfl, ?_⟩) ?_ ?_
      rotate_left
      ·intro w'
       go_simp
       with_reducible rfl
      rotate_left
      ·simp only [Act.put, putA, putB, putC]
       rfl
      refine two_ (i := 7) (j := 8) (Ni := some 62) (Nj := some 12) #[true, true, true, true, true, true, true, true, false, false] #[true, true, true, true, true, true, true, false, true, false] rfl rfl rfl rfl (by kernel_rfl) (by decide) (by decide) (fun K hK => ?_) (fun K hK => ?_)
      ·refine goes_ Tryd.func26 (by kernel_rfl) rfl #[.string (strOfNums L9)] (by rfl) rfl rfl (by (try simp only [List.map_toArray, List.map_cons, List.map_nil]); first | done | rfl) ?_
       refine (HG.out _).mono ?_
       rintro e_ w9 ⟨Aq, cq, Bq, mq, rfl, h_⟩
       replace H := Hold.push H h_
       clear h_
       refine ⟨_, rfl, ?_⟩
       refine hK.out _ _ trivial (fun hHeld => ?_)
       clear hK K
       refine norm_ (a' := ?_) ?_ ?_
       rotate_left
       ·show Act.put _ (some 62) _ = _
        simp only [Act.put, putA, putB, putC]
        rfl
       refine one_ (i := 8) (N := some 12) #[true, true, true, true, true, true, true, true, true, false] rfl rfl (by kernel_rfl) (by decide) (fun K hK => ?_)
       refine alloc_o H (by rfl) (cs := (fC ⟨0, 0, 0, [], 0, 0, 0, 0, false, 0, []⟩ nilS nilS 0 0).toList) (by first | (go_simp; done) | (go_simp; rfl)) ?_
       clear H
       intro gx w_ H h_
       clear h_
       refine hK.out _ _ trivial (fun hHeld => ?_)
       clear hK K
       refine norm_ (a' := ?_) ?_ ?_
       rotate_left
       ·show Act.put _ (some 12) _ = _
        simp only [Act.put, putA, putB, putC]
        rfl
       refine one_ (i := 9) (N := none) #[true, true, true, true, true, true, true, true, true, true] rfl rfl (by kernel_rfl) (by decide) (fun K hK => ?_)
       refine store_o H (by rfl) rfl rfl rfl rfl (u := .agg (fC F (.slice Aq F.data.length cq) (.slice Bq F.sets.length mq) 1 6)) (by repeat (first | exact Put.head | apply Put.tail)) (by kernel_rfl) (Nat.le_of_ble_eq_true rfl) rfl ?_
       clear H
       intro w_ H h_
       simp only [setC, Value.cells, List.toList_toArray] at H
       clear h_
       refine hK.out _ _ trivial (fun hHeld => ?_)
       clear hK K
       refine done_ (by kernel_rfl) ?_
       go_wp2_with (first
        | ((with_reducible refine is_load (ty := 45) rfl ?_); refine load_h H rfl rfl rfl (by repeat (first | exact List.Mem.head _ | apply List.Mem.tail)) (by kernel_rfl) (by kernel_rfl) ?_)
        | ((with_reducible refine is_lit rfl ?_); refine onerow_h H rfl (e := 45) (cs := (fC F (.slice Aq F.data.length cq) (.slice Bq F.sets.length mq) 1 6).toList) (by first | (go_simp; done) | (go_simp; rfl)) ?_; clear H; intro gl w_ H)
        | ((with_reducible refine is_call rfl ?_); refine appends_h H rfl rfl Tryd.underlying61 Tryd.infoF rfl (by decide) rfl rfl (g := gl) (by repeat (first | exact List.Mem.head _ | apply List.Mem.tail)) rfl rfl (fun y => (by repeat (first | exact Put.head | apply Put.tail))) (by omega) (by omega) ?_; clear H; intro vo4 w_ H))
       obtain ⟨A4, c4, e4⟩ := own_slice (H.ok (.row 45 13 vo4 (es.length + 1) (es.flatMap FE.cells ++ (FE.mk (F, 1, 6) Aq cq Bq mq).cells)) (by repeat (first | exact List.Mem.head _ | apply List.Mem.tail)))
       subst e4
       have hr_ := rowO_more (.slice A4 (es.length + 1) c4) es ⟨(F, 1, 6), Aq, cq, Bq, mq⟩
       have H3 := H.want (l' := [.row 45 13 (.slice A4 (es.length + 1) c4) (es.length + 1) (es.flatMap FE.cells ++ (FE.mk (F, 1, 6) Aq cq Bq mq).cells), (FE.mk (F, 1, 6) Aq cq Bq mq).thing] ++ rowT es) (Want.take (by repeat (first | exact Pull.head | apply Pull.tail)) (Want.take (by repeat (first | exact Pull.head | apply Pull.tail)) (Want.done (by repeat (first | exact Suf.refl | apply Suf.cons)))))
       rw [show ∀ x y : Own, [x, y] ++ rowT es = [x] ++ (y :: rowT es) from fun _ _ => rfl, hr_, ← rowT_more] at H3
       have hlen_ : (es ++ [(⟨(F, 1, 6), Aq, cq, Bq, mq⟩ : FE)]).length = es.length + 1 := by simp
       refine bodyPost_ret (results_list (rs := [.tmp 4, .tmp 5, .tmp 6]) rfl (by simp) (.tmp (.tmp (.tmp .nil)))) rfl ?_
       rw [← hlen_] at H3 ⊢
       exact HP.out _ _ (AllEnd.of H3 (Want.done .refl) (HA.out.trans (by simp)))
      ·refine alloc_o H (by rfl) (cs := (fC ⟨0, 0, 0, [], 0, 0, 0, 0, false, 0, []⟩ nilS nilS 0 0).toList) (by first | (go_simp; done) | (go_simp; rfl)) ?_
       clear H
       intro gx w_ H h_
       clear h_
       refine hK.out _ _ trivial (fun hHeld => ?_)
       clear hK K
       refine norm_ (a' := ?_) ?_ ?_
       rotate_left
       ·show Act.put _ (some 12) _ = _
        simp only [Act.put, putA, putB, putC]
        rfl
       refine one_ (i := 7) (N := some 62) #[true, true, true, true, true, true, true, true, true, false] rfl rfl (by kernel_rfl) (by decide) (fun K hK => ?_)
       refine goes_ Tryd.func26 (by kernel_rfl) rfl #[.string (strOfNums L9)] (by rfl) rfl rfl (by (try simp only [List.map_toArray, List.map_cons, List.map_nil]); first | done | rfl) ?_
       refine (HG.out _).mono ?_
       rintro e_ w9 ⟨Aq, cq, Bq, mq, rfl, h_⟩
       replace H := Hold.push H h_
       clear h_
       refine ⟨_, rfl, ?_⟩
       refine hK.out _ _ trivial (fun hHeld => ?_)
       clear hK K
       refine norm_ (a' := ?_) ?_ ?_
       rotate_left
       ·show Act.put _ (some 62) _ = _
        simp only [Act.put, putA, putB, putC]
        rfl
       refine one_ (i := 9) (N := none) #[true, true, true, true, true, true, true, true, true, true] rfl rfl (by kernel_rfl) (by decide) (fun K hK => ?_)
       refine store_o H (by rfl) rfl rfl rfl rfl (u := .agg (fC F (.slice Aq F.data.length cq) (.slice Bq F.sets.length mq) 1 6)) (by repeat (first | exact Put.head | apply Put.tail)) (by kernel_rfl) (Nat.le_of_ble_eq_true rfl) rfl ?_
       clear H
       intro w_ H h_
       simp only [setC, Value.cells, List.toList_toArray] at H
       clear h_
       refine hK.out _ _ trivial (fun hHeld => ?_)
       clear hK K
       refine done_ (by kernel_rfl) ?_
       go_wp2_with (first
        | ((with_reducible refine is_load (ty := 45) rfl ?_); refine load_h H rfl rfl rfl (by repeat (first | exact List.Mem.head _ | apply List.Mem.tail)) (by kernel_rfl) (by kernel_rfl) ?_)
        | ((with_reducible refine is_lit rfl ?_); refine onerow_h H rfl (e := 45) (cs := (fC F (.slice Aq F.data.length cq) (.slice Bq F.sets.length mq) 1 6).toList) (by first | (go_simp; done) | (go_simp; rfl)) ?_; clear H; intro gl w_ H)
        | ((with_reducible refine is_call rfl ?_); refine appends_h H rfl rfl Tryd.underlying61 Tryd.infoF rfl (by decide) rfl rfl (g := gl) (by repeat (first | exact List.Mem.head _ | apply List.Mem.tail)) rfl rfl (fun y => (by repeat (first | exact Put.head | apply Put.tail))) (by omega) (by omega) ?_; clear H; intro vo4 w_ H))
       obtain ⟨A4, c4, e4⟩ := own_slice (H.ok (.row 45 13 vo4 (es.length + 1) (es.flatMap FE.cells ++ (FE.mk (F, 1, 6) Aq cq Bq mq).cells)) (by repeat (first | exact List.Mem.head _ | apply List.Mem.tail)))
       subst e4
       have hr_ := rowO_more (.slice A4 (es.length + 1) c4) es ⟨(F, 1, 6), Aq, cq, Bq, mq⟩
       have H3 := H.want (l' := [.row 45 13 (.slice A4 (es.length + 1) c4) (es.length + 1) (es.flatMap FE.cells ++ (FE.mk (F, 1, 6) Aq cq Bq mq).cells), (FE.mk (F, 1, 6) Aq cq Bq mq).thing] ++ rowT es) (Want.take (by repeat (first | exact Pull.head | apply Pull.tail)) (Want.take (by repeat (first | exact Pull.head | apply Pull.tail)) (Want.done (by repeat (first | exact Suf.refl | apply Suf.cons)))))
       rw [show ∀ x y : Own, [x, y] ++ rowT es = [x] ++ (y :: rowT es) from fun _ _ => rfl, hr_, ← rowT_more] at H3
       have hlen_ : (es ++ [(⟨(F, 1, 6), Aq, cq, Bq, mq⟩ : FE)]).length = es.length + 1 := by simp
       refine bodyPost_ret (results_list (rs := [.tmp 4, .tmp 5, .tmp 6]) rfl (by simp) (.tmp (.tmp (.tmp .nil)))) rfl ?_
       rw [← hlen_] at H3 ⊢
       exact HP.out _ _ (AllEnd.of H3 (Want.done .refl) (HA.out.trans (by simp)))
     ·refine alloc_o H (by rfl) (cs := (fC ⟨0, 0, 0, [], 0, 0, 0, 0, false, 0, []⟩ nilS nilS 0 0).toList) (by first | (go_simp; done) | (go_simp; rfl)) ?_
      clear H
      intro gx w_ H h_
      clear h_
      refine hK.out _ _ trivial (fun hHeld => ?_)
      clear hK K
      refine norm_ (a' := ?_) ?_ ?_
      rotate_left
      ·show Act.put _ (some 12) _ = _
       simp only [Act.put, putA, putB, putC]
       rfl
      refine one_ (i := 5) (N := some 60) #[true, true, true, true, true, true, false, false, true, false] rfl rfl (by kernel_rfl) (by decide) (fun K hK => ?_)
      refine conv_o H (by rfl) rfl (v := .slice (some ⟨gm, 0, none⟩) m9 m9) rfl (by repeat (first | exact List.Mem.head _ | apply List.Mem.tail)) Tryd.underlying35 Tryd.underlying5 Tryd.underlying9 ?_
      refine hK.out _ _ trivial (fun hHeld => ?_)
      clear hK K
      refine norm_ (a' := ?_) ?_ ?_
      rotate_left
      ·show Act.put _ (some 60) _ = _
       simp only [Act.put, putA, putB, putC]
       rfl
      refine pure_ (i := 6) (N := some 61) (v := ?_) (a' := ?_) #[true, true, true, true, true, true, true, false, true, false] rfl rfl (by kernel_rfl) (fun _ _ _ h => h) (Or.inl ⟨by rfl, ?_⟩) ?_ ?_
      rotate_left
      ·intro w'
       go_simp
       with_reducible rfl
      rotate_left
      ·simp only [Act.put, putA, putB, putC]
       rfl
      refine one_ (i := 7) (N := some 62) #[true, true, true, true, true, true, true, true, true, false] rfl rfl (by kernel_rfl) (by decide) (fun K hK => ?_)
      refine goes_ Tryd.func26 (by kernel_rfl) rfl #[.string (strOfNums L9)] (by rfl) rfl rfl (by (try simp only [List.map_toArray, List.map_cons, List.map_nil]); first | done | rfl) ?_
      refine (HG.out _).mono ?_
      rintro e_ w9 ⟨Aq, cq, Bq, mq, rfl, h_⟩
      replace H := Hold.push H h_
      clear h_
      refine ⟨_, rfl, ?_⟩
      refine hK.out _ _ trivial (fun hHeld => ?_)
      clear hK K
      refine norm_ (a' := ?_) ?_ ?_
      rotate_left
      ·show Act.put _ (some 62) _ = _
       simp only [Act.put, putA, putB, putC]
       rfl
      refine one_ (i := 9) (N := none) #[true, true, true, true, true, true, true, true, true, true] rfl rfl (by kernel_rfl) (by decide) (fun K hK => ?_)
      refine store_o H (by rfl) rfl rfl rfl rfl (u := .agg (fC F (.slice Aq F.data.length cq) (.slice Bq F.sets.length mq) 1 6)) (by repeat (first | exact Put.head | apply Put.tail)) (by kernel_rfl) (Nat.le_of_ble_eq_true rfl) rfl ?_
      clear H
      intro w_ H h_
      simp only [setC, Value.cells, List.toList_toArray] at H
      clear h_
      refine hK.out _ _ trivial (fun hHeld => ?_)
      clear hK K
      refine done_ (by kernel_rfl) ?_
      go_wp2_with (first
       | ((with_reducible refine is_load (ty := 45) rfl ?_); refine load_h H rfl rfl rfl (by repeat (first | exact List.Mem.head _ | apply List.Mem.tail)) (by kernel_rfl) (by kernel_rfl) ?_)
       | ((with_reducible refine is_lit rfl ?_); refine onerow_h H rfl (e := 45) (cs := (fC F (.slice Aq F.data.length cq) (.slice Bq F.sets.length mq) 1 6).toList) (by first | (go_simp; done) | (go_simp; rfl)) ?_; clear H; intro gl w_ H)
       | ((with_reducible refine is_call rfl ?_); refine appends_h H rfl rfl Tryd.underlying61 Tryd.infoF rfl (by decide) rfl rfl (g := gl) (by repeat (first | exact List.Mem.head _ | apply List.Mem.tail)) rfl rfl (fun y => (by repeat (first | exact Put.head | apply Put.tail))) (by omega) (by omega) ?_; clear H; intro vo4 w_ H))
      obtain ⟨A4, c4, e4⟩ := own_slice (H.ok (.row 45 13 vo4 (es.length + 1) (es.flatMap FE.cells ++ (FE.mk (F, 1, 6) Aq cq Bq mq).cells)) (by repeat (first | exact List.Mem.head _ | apply List.Mem.tail)))
      subst e4
      have hr_ := rowO_more (.slice A4 (es.length + 1) c4) es ⟨(F, 1, 6), Aq, cq, Bq, mq⟩
      have H3 := H.want (l' := [.row 45 13 (.slice A4 (es.length + 1) c4) (es.length + 1) (es.flatMap FE.cells ++ (FE.mk (F, 1, 6) Aq cq Bq mq).cells), (FE.mk (F, 1, 6) Aq cq Bq mq).thing] ++ rowT es) (Want.take (by repeat (first | exact Pull.head | apply Pull.tail)) (Want.take (by repeat (first | exact Pull.head | apply Pull.tail)) (Want.done (by repeat (first | exact Suf.refl | apply Suf.cons)))))
      rw [show ∀ x y : Own, [x, y] ++ rowT es = [x] ++ (y :: rowT es) from fun _ _ => rfl, hr_, ← rowT_more] at H3
      have hlen_ : (es ++ [(⟨(F, 1, 6), Aq, cq, Bq, mq⟩ : FE)]).length = es.length + 1 := by simp
      refine bodyPost_ret (results_list (rs := [.tmp 4, .tmp 5, .tmp 6]) rfl (by simp) (.tmp (.tmp (.tmp .nil)))) rfl ?_
      rw [← hlen_] at H3 ⊢
      exact HP.out _ _ (AllEnd.of H3 (Want.done .refl) (HA.out.trans (by simp)))
    ·refine alloc_o H (by rfl) (cs := (fC ⟨0, 0, 0, [], 0, 0, 0, 0, false, 0, []⟩ nilS nilS 0 0).toList) (by first | (go_simp; done) | (go_simp; rfl)) ?_
     clear H
     intro gx w_ H h_
     clear h_
     refine hK.out _ _ trivial (fun hHeld => ?_)
     clear hK K
     refine norm_ (a' := ?_) ?_ ?_
     rotate_left
     ·show Act.put _ (some 12) _ = _
      simp only [Act.put, putA, putB, putC]
      rfl
     refine one_ (i := 4) (N := some 59) #[true, true, true, true, true, false, false, false, true, false] rfl rfl (by kernel_rfl) (by decide) (fun K hK => ?_)
     refine makeb_o H (by rfl) rfl m9 rfl rfl Tryd.underlying35 Tryd.infoB8 (by omega) ?_
     clear H
     intro gm w_ H h_
     clear h_
     refine hK.out _ _ trivial (fun hHeld => ?_)
     clear hK K
     refine norm_ (a' := ?_) ?_ ?_
     rotate_left
     ·show Act.put _ (some 59) _ = _
      simp only [Act.put, putA, putB, putC]
      rfl
     refine one_ (i := 5) (N := some 60) #[true, true, true, true, true, true, false, false, true, false] rfl rfl (by kernel_rfl) (by decide) (fun K hK => ?_)
     refine conv_o H (by rfl) rfl (v := .slice (some ⟨gm, 0, none⟩) m9 m9) rfl (by repeat (first | exact List.Mem.head _ | apply List.Mem.tail)) Tryd.underlying35 Tryd.underlying5 Tryd.underlying9 ?_
     refine hK.out _ _ trivial (fun hHeld => ?_)
     clear hK K
     refine norm_ (a' := ?_) ?_ ?_
     rotate_left
     ·show Act.put _ (some 60) _ = _
      simp only [Act.put, putA, putB, putC]
      rfl
     refine pure_ (i := 6) (N := some 61) (v := ?_) (a' := ?_) #[true, true, true, true, true, true, true, false, true, false] rfl rfl (by kernel_rfl) (fun _ _ _ h => h) (Or.inl ⟨by rfl, ?_⟩) ?_ ?_
     rotate_left
     ·intro w'
      go_simp
      with_reducible rfl
     rotate_left
     ·simp only [Act.put, putA, putB, putC]
      rfl
     refine one_ (i := 7) (N := some 62) #[true, true, true, true, true, true, true, true, true, false] rfl rfl (by kernel_rfl) (by decide) (fun K hK => ?_)
     refine goes_ Tryd.func26 (by kernel_rfl) rfl #[.string (strOfNums L9)] (by rfl) rfl rfl (by (try simp only [List.map_toArray, List.map_cons, List.map_nil]); first | done | rfl) ?_
     refine (HG.out _).mono ?_
     rintro e_ w9 ⟨Aq, cq, Bq, mq, rfl, h_⟩
     replace H := Hold.push H h_
     clear h_
     refine ⟨_, rfl, ?_⟩
     refine hK.out _ _ trivial (fun hHeld => ?_)
     clear hK K
     refine norm_ (a' := ?_) ?_ ?_
     rotate_left
     ·show Act.put _ (some 62) _ = _
      simp only [Act.put, putA, putB, putC]
      rfl
     refine one_ (i := 9) (N := none) #[true, true, true, true, true, true, true, true, true, true] rfl rfl (by kernel_rfl) (by decide) (fun K hK => ?_)
     refine store_o H (by rfl) rfl rfl rfl rfl (u := .agg (fC F (.slice Aq F.data.length cq) (.slice Bq F.sets.length mq) 1 6)) (by repeat (first | exact Put.head | apply Put.tail)) (by kernel_rfl) (Nat.le_of_ble_eq_true rfl) rfl ?_
     clear H
     intro w_ H h_
     simp only [setC, Value.cells, List.toList_toArray] at H
     clear h_
     refine hK.out _ _ trivial (fun hHeld => ?_)
     clear hK K
     refine done_ (by kernel_rfl) ?_
     go_wp2_with (first
      | ((with_reducible refine is_load (ty := 45) rfl ?_); refine load_h H rfl rfl rfl (by repeat (first | exact List.Mem.head _ | apply List.Mem.tail)) (by kernel_rfl) (by kernel_rfl) ?_)
      | ((with_reducible refine is_lit rfl ?_); refine onerow_h H rfl (e := 45) (cs := (fC F (.slice Aq F.data.length cq) (.slice Bq F.sets.length mq) 1 6).toList) (by first | (go_simp; done) | (go_simp; rfl)) ?_; clear H; intro gl w_ H)
      | ((with_reducible refine is_call rfl ?_); refine appends_h H rfl rfl Tryd.underlying61 Tryd.infoF rfl (by decide) rfl rfl (g := gl) (by repeat (first | exact List.Mem.head _ | apply List.Mem.tail)) rfl rfl (fun y => (by repeat (first | exact Put.head | apply Put.tail))) (by omega) (by omega) ?_; clear H; intro vo4 w_ H))
     obtain ⟨A4, c4, e4⟩ := own_slice (H.ok (.row 45 13 vo4 (es.length + 1) (es.flatMap FE.cells ++ (FE.mk (F, 1, 6) Aq cq Bq mq).cells)) (by repeat (first | exact List.Mem.head _ | apply List.Mem.tail)))
     subst e4
     have hr_ := rowO_more (.slice A4 (es.length + 1) c4) es ⟨(F, 1, 6), Aq, cq, Bq, mq⟩
     have H3 := H.want (l' := [.row 45 13 (.slice A4 (es.length + 1) c4) (es.length + 1) (es.flatMap FE.cells ++ (FE.mk (F, 1, 6) Aq cq Bq mq).cells), (FE.mk (F, 1, 6) Aq cq Bq mq).thing] ++ rowT es) (Want.take (by repeat (first | exact Pull.head | apply Pull.tail)) (Want.take (by repeat (first | exact Pull.head | apply Pull.tail)) (Want.done (by repeat (first | exact Suf.refl | apply Suf.cons)))))
     rw [show ∀ x y : Own, [x, y] ++ rowT es = [x] ++ (y :: rowT es) from fun _ _ => rfl, hr_, ← rowT_more] at H3
     have hlen_ : (es ++ [(⟨(F, 1, 6), Aq, cq, Bq, mq⟩ : FE)]).length = es.length + 1 := by simp
     refine bodyPost_ret (results_list (rs := [.tmp 4, .tmp 5, .tmp 6]) rfl (by simp) (.tmp (.tmp (.tmp .nil)))) rfl ?_
     rw [← hlen_] at H3 ⊢
     exact HP.out _ _ (AllEnd.of H3 (Want.done .refl) (HA.out.trans (by simp)))
   ·have d3 : decide ((16393 : Int) < (m : Int)) = false := decide_eq_false (by omega)
    have d4 : decide (16393 < m) = false := decide_eq_false hg
    by_cases hs : L.length < m
    ·have d5 : decide ((L.length : Int) < (m : Int)) = true := decide_eq_true (by omega)
     have d6 : decide (L.length < m) = true := decide_eq_true hs
     rw [if_pos (by omega)] at hNB
     have HA := Lib.hid (show allP false full = (es.map FE.x, L.length, false) by rw [hA, allB_none hNB]; simp)
     clear hA hNB hm
     go_wp2_with (first
      | (go_at_call 29; refine (HV.out _).mono ?_; rintro e_ w_ ⟨rfl, h_⟩; replace H := H.below h_.below; clear h_))
     refine bodyPost_ret (results_list (rs := [.tmp 4, .tmp 5, .tmp 6]) rfl (by simp) (.tmp (.tmp (.tmp .nil)))) rfl ?_
     exact HP.out _ _ (AllEnd.of H (Want.done .refl) HA.out)
    ·have d5 : decide ((L.length : Int) < (m : Int)) = false := decide_eq_false (by omega)
     have d6 : decide (L.length < m) = false := decide_eq_false hs
     rw [if_neg (by omega), if_neg (by omega)] at hNB
     have fm := fun W => run_to_str L (m : Int) (by omega) (by omega) W
     have fd := fun W => run_from_str L (m : Int) (by omega) (by omega) W
     rw [Int.toNat_natCast] at fm fd
     have k5 : (m : Int) ≤ (L.length : Int) := by omega
     have hG := fun W => rget_hold W (L.take m) (fun x hx => hyL x (List.mem_of_mem_take hx)) (by rw [List.length_take]; omega)
     have hyd : Byte8 (L.drop m) := fun x hx => hyL x (List.mem_of_mem_drop hx)
     have hld : (L.drop m).length = L.length - m := by rw [List.length_drop]
     generalize getFr (L.take m) = X at hG hNB
     obtain ⟨F, sc, cd⟩ := X
     dsimp only at hG hNB
     by_cases hc : sc = 1
     ·subst hc
      rw [if_pos rfl] at hNB
      have hone := allB_one (r := []) hyL (fun x hx => by cases hx) hNB
      simp only [List.append_nil, if_true] at hone
      have HA := Lib.hid (show allP false full = (es.map FE.x ++ [(F, 1, cd)], 0, true) by rw [hA, hone])
      have HG := Lib.hid hG
      clear hG hNB hA hone hm hyL hb3 hl3 hyd hld
      generalize strOfNums (L.take m) = sm at fm HG
      go_wp2_with (first
       | (go_at_call 29; refine (HV.out _).mono ?_; rintro e_ w_ ⟨rfl, h_⟩; replace H := H.below h_.below; clear h_)
       | (go_at_call 26; refine (HG.out _).mono ?_; rintro e_ w_ ⟨Aq, cq, Bq, mq, rfl, h_⟩; replace H := Hold.push H h_; clear h_)
       | ((with_reducible refine is_alloc (ty := 45) rfl ?_); refine alloc_h H rfl rfl (cs := (fC ⟨0, 0, 0, [], 0, 0, 0, 0, false, 0, []⟩ nilS nilS 0 0).toList) (by first | (go_simp; done) | (go_simp; rfl)) ?_; clear H; intro gx w_ H)
       | ((with_reducible refine is_store (ty := 45) rfl ?_); refine store_h H rfl rfl rfl rfl (u := .agg (fC F (.slice Aq F.data.length cq) (.slice Bq F.sets.length mq) 1 cd)) rfl (by repeat (first | exact Put.head | apply Put.tail)) (by kernel_rfl) (Nat.le_of_ble_eq_true rfl) rfl ?_; clear H; intro w_ H; simp only [setC, Value.cells, List.toList_toArray] at H)
       | ((with_reducible refine is_load (ty := 45) rfl ?_); refine load_h H rfl rfl rfl (by repeat (first | exact List.Mem.head _ | apply List.Mem.tail)) (by kernel_rfl) (by kernel_rfl) ?_)
       | ((with_reducible refine is_load rfl ?_); refine loadf_h H rfl rfl rfl (by repeat (first | exact List.Mem.head _ | apply List.Mem.tail)) rfl (by kernel_rfl) ?_)
       | ((with_reducible refine is_lit rfl ?_); refine onerow_h H rfl (e := 45) (cs := (fC F (.slice Aq F.data.length cq) (.slice Bq F.sets.length mq) 1 cd).toList) (by first | (go_simp; done) | (go_simp; rfl)) ?_; clear H; intro gl w_ H)
       | ((with_reducible refine is_call rfl ?_); refine appends_h H rfl rfl Tryd.underlying61 Tryd.infoF rfl (by decide) rfl rfl (g := gl) (by repeat (first | exact List.Mem.head _ | apply List.Mem.tail)) rfl rfl (fun y => (by repeat (first | exact Put.head | apply Put.tail))) (by omega) (by omega) ?_; clear H; intro vo4 w_ H))
      obtain ⟨A4, c4, e4⟩ := own_slice (H.ok (.row 45 13 vo4 (es.length + 1) (es.flatMap FE.cells ++ (FE.mk (F, 1, cd) Aq cq Bq mq).cells)) (by repeat (first | exact List.Mem.head _ | apply List.Mem.tail)))
      subst e4
      have hr_ := rowO_more (.slice A4 (es.length + 1) c4) es ⟨(F, 1, cd), Aq, cq, Bq, mq⟩
      have H3 := H.want (l' := [.row 45 13 (.slice A4 (es.length + 1) c4) (es.length + 1) (es.flatMap FE.cells ++ (FE.mk (F, 1, cd) Aq cq Bq mq).cells), (FE.mk (F, 1, cd) Aq cq Bq mq).thing] ++ rowT es) (Want.take (by repeat (first | exact Pull.head | apply Pull.tail)) (Want.take (by repeat (first | exact Pull.head | apply Pull.tail)) (Want.done (by repeat (first | exact Suf.refl | apply Suf.cons)))))
      rw [show ∀ x y : Own, [x, y] ++ rowT es = [x] ++ (y :: rowT es) from fun _ _ => rfl, hr_, ← rowT_more] at H3
      have hlen_ : (es ++ [(⟨(F, 1, cd), Aq, cq, Bq, mq⟩ : FE)]).length = es.length + 1 := by simp
      refine bodyPost_ret (results_list (rs := [.tmp 4, .tmp 5, .tmp 6]) rfl (by simp) (.tmp (.tmp (.tmp .nil)))) rfl ?_
      rw [← hlen_] at H3 ⊢
      exact HP.out _ _ (AllEnd.of H3 (Want.done .refl) (HA.out.trans (by simp)))
     ·have g7 : (sc == 1) = false := by simpa using hc
      rw [if_neg hc] at hNB
      have hone := allB_one (r := []) hyL (fun x hx => by cases hx) hNB
      simp only [List.append_nil, Bool.false_eq_true, if_false] at hone
      have HA := Lib.hid (And.intro (show allP false full = (es.map FE.x ++ [(F, sc, cd)] ++ (allB (L.drop m).length (L.drop m)).1, (allB (L.drop m).length (L.drop m)).2) by rw [hA, hone]; simp) (And.intro hyd hld))
      have HG := Lib.hid hG
      clear hG hNB hA hone hm hyL hb3 hl3 hyd hld hc
      generalize strOfNums (L.take m) = sm at fm HG
      go_wp2_with (first
       | (go_at_call 29; refine (HV.out _).mono ?_; rintro e_ w_ ⟨rfl, h_⟩; replace H := H.below h_.below; clear h_)
       | (go_at_call 26; refine (HG.out _).mono ?_; rintro e_ w_ ⟨Aq, cq, Bq, mq, rfl, h_⟩; replace H := Hold.push H h_; clear h_)
       | ((with_reducible refine is_alloc (ty := 45) rfl ?_); refine alloc_h H rfl rfl (cs := (fC ⟨0, 0, 0, [], 0, 0, 0, 0, false, 0, []⟩ nilS nilS 0 0).toList) (by first | (go_simp; done) | (go_simp; rfl)) ?_; clear H; intro gx w_ H)
       | ((with_reducible refine is_store (ty := 45) rfl ?_); refine store_h H rfl rfl rfl rfl (u := .agg (fC F (.slice Aq F.data.length cq) (.slice Bq F.sets.length mq) sc cd)) rfl (by repeat (first | exact Put.head | apply Put.tail)) (by kernel_rfl) (Nat.le_of_ble_eq_true rfl) rfl ?_; clear H; intro w_ H; simp only [setC, Value.cells, List.toList_toArray] at H)
       | ((with_reducible refine is_load (ty := 45) rfl ?_); refine load_h H rfl rfl rfl (by repeat (first | exact List.Mem.head _ | apply List.Mem.tail)) (by kernel_rfl) (by kernel_rfl) ?_)
       | ((with_reducible refine is_load rfl ?_); refine loadf_h H rfl rfl rfl (by repeat (first | exact List.Mem.head _ | apply List.Mem.tail)) rfl (by kernel_rfl) ?_)
       | ((with_reducible refine is_lit rfl ?_); refine onerow_h H rfl (e := 45) (cs := (fC F (.slice Aq F.data.length cq) (.slice Bq F.sets.length mq) sc cd).toList) (by first | (go_simp; done) | (go_simp; rfl)) ?_; clear H; intro gl w_ H)
       | ((with_reducible refine is_call rfl ?_); refine appends_h H rfl rfl Tryd.underlying61 Tryd.infoF rfl (by decide) rfl rfl (g := gl) (by repeat (first | exact List.Mem.head _ | apply List.Mem.tail)) rfl rfl (fun y => (by repeat (first | exact Put.head | apply Put.tail))) (by omega) (by omega) ?_; clear H; intro vo4 w_ H))
      obtain ⟨A4, c4, e4⟩ := own_slice (H.ok (.row 45 13 vo4 (es.length + 1) (es.flatMap FE.cells ++ (FE.mk (F, sc, cd) Aq cq Bq mq).cells)) (by repeat (first | exact List.Mem.head _ | apply List.Mem.tail)))
      subst e4
      have hr_ := rowO_more (.slice A4 (es.length + 1) c4) es ⟨(F, sc, cd), Aq, cq, Bq, mq⟩
      have H3 := H.want (l' := [.row 45 13 (.slice A4 (es.length + 1) c4) (es.length + 1) (es.flatMap FE.cells ++ (FE.mk (F, sc, cd) Aq cq Bq mq).cells), (FE.mk (F, sc, cd) Aq cq Bq mq).thing] ++ rowT es) (Want.take (by repeat (first | exact Pull.head | apply Pull.tail)) (Want.take (by repeat (first | exact Pull.head | apply Pull.tail)) (Want.done (by repeat (first | exact Suf.refl | apply Suf.cons)))))
      rw [show ∀ x y : Own, [x, y] ++ rowT es = [x] ++ (y :: rowT es) from fun _ _ => rfl, hr_, ← rowT_more] at H3
      have hlen_ : (es ++ [(⟨(F, sc, cd), Aq, cq, Bq, mq⟩ : FE)]).length = es.length + 1 := by simp
      have hm4 : L.length - m < L.length := by omega
      go_roundg (gk - 1)
      case measure => omega
      case rel => exact ⟨L.drop m, es ++ [⟨(F, sc, cd), Aq, cq, Bq, mq⟩], A4, c4, rfl, by simp, Aside0.mk ⟨by rw [← hlen_] at H3; exact H3, HA.out.2.1, by rw [HA.out.2.2]; omega, by rw [HA.out.2.2, hlen_]; omega, by rw [HA.out.1]; simp⟩⟩
set_option maxHeartbeats 16000000 in
set_option maxRecDepth 100000 in
theorem all_goT (W : World) (full : List Int) (hby : Byte8 full) (hl : full.length ≤ 10000000) (hp : preOk full = true) (h24 : 24 ≤ full.length) (b1 : List Int) (e1 : full.drop 24 = b1) : Calls Tryd.prog 35 #[.string (strOfNums full), .bool true] W (AllEnd W true full) := by
 refine of_post0 fun R hRR => ?_
 have HP := Lib.hid hRR
 have hsz := str_size full
 have hps : (strOfNums pre24).size = 24 := str_size pre24
 have hA : allP true full = ([] ++ (allB b1.length b1).1, (allB b1.length b1).2) := by
  unfold allP
  rw [if_pos rfl, if_neg (by rw [hp]; decide), if_neg (by omega), e1]
  simp
 have hl1 : b1.length ≤ 10000000 := by rw [← e1, List.length_drop]; omega
 have HS := Lib.hid (And.intro hA (And.intro (show Byte8 b1 from fun x hx => by rw [← e1] at hx; exact hby x (List.mem_of_mem_drop hx)) hl1))
 obtain ⟨n, hn⟩ : ∃ n : Nat, min 24 full.length = n := ⟨_, rfl⟩
 have k1 := fun W => run_to_str full (n : Int) (by omega) (by omega) W
 have k2 := fun W => run_to_str pre24 (n : Int) (by omega) (by show (n : Int) ≤ 24; omega) W
 rw [Int.toNat_natCast] at k1 k2
 have k3 : ((strOfNums (full.take n)).toList == (strOfNums (pre24.take n)).toList) = preOk full := by
  have hb1 : Byte8 (full.take n) := fun x hx => hby x (List.mem_of_mem_take hx)
  have hb2 : Byte8 (pre24.take n) := fun x hx => pre24_byte x (List.mem_of_mem_take hx)
  unfold preOk
  rw [Bool.eq_iff_iff, beq_iff_eq, beq_iff_eq, hn]
  exact str_ne hb1 hb2
 have k4 : (if (full.length : Int) < 24 then (full.length : Int) else 24) = (n : Int) := by split <;> omega
 have k5 : (n : Int) ≤ (full.length : Int) := by omega
 have k6 : n ≤ full.length := by omega
 rw [hp] at k3
 have hn24 : n = 24 := by omega
 have k9 := fun W => run_from_str full (n : Int) (by omega) (by omega) W
 rw [Int.toNat_natCast, show full.drop n = b1 by rw [hn24, e1]] at k9
 have k7 : decide ((n : Int) < 24) = false := decide_eq_false (by omega)
 have k8 : decide (n < 24) = false := decide_eq_false (by omega)
 clear hRR hby hA hl1 hp h24 e1 hn24 hn
 have H : Hold W W [] [] := Hold.nothing (Kept.refl _ _)
 go_enter Tryd.func35, Tryd.ntmps35
 go_upto_region 5 with (first
  | ((with_reducible refine is_lit rfl ?_); refine emptyrow_h H rfl 45 13 (by first | (go_simp; done) | (go_simp; rfl)) ?_; clear H; intro go w_ H)
  | (go_at_call 42; refine (rpre_calls _).mono ?_; rintro e_ w_ ⟨rfl, h_⟩; replace H := H.below h_; clear h_))
 replace H := H.below (below_drew (Below.refl _ _))
 go_region
 go_wp2_with fail
 go_loopg [0, 7] b1.length (fun kk v0 v7 wr => ∃ (L : List Int) (es : List FE) (Ao : Option Addr) (co : Nat), v0 = .string (strOfNums L) ∧ v7 = .slice Ao es.length co ∧ Aside0 (Hold W wr [] ([rowO (.slice Ao es.length co) es] ++ rowT es) ∧ Byte8 L ∧ L.length ≤ kk ∧ es.length + L.length ≤ b1.length ∧ allP true full = (es.map FE.x ++ (allB L.length L).1, (allB L.length L).2)))
 case atStart => exact ⟨b1, [], some ⟨go, 0, none⟩, 0, rfl, rfl, Aside0.mk ⟨H, HS.out.2.1, Nat.le_refl _, by simp, HS.out.1⟩⟩
 case round =>
  obtain ⟨L, es, Ao, co, rfl, rfl, hP⟩ := hrel
  obtain ⟨H, hyL, hkL, hsm, hA⟩ := hP.out
  clear hP
  have hzL := str_size L
  have hLm : L.length ≤ 10000000 := by have := HS.out.2.2; omega
  have hem : es.length ≤ 10000000 := by have := HS.out.2.2; omega
  by_cases h9 : L.length < 9
  ·have d1 : decide (9 ≤ (L.length : Int)) = false := decide_eq_false (by omega)
   have d2 : decide (9 ≤ L.length) = false := decide_eq_false (by omega)
   have HA := Lib.hid (show allP true full = (es.map FE.x, L.length, false) by
    rw [hA, allB_none (by unfold nextB; rw [if_pos h9])]
    simp)
   clear hA
   go_wp2_with fail
   refine bodyPost_ret (results_list (rs := [.tmp 4, .tmp 5, .tmp 6]) rfl (by simp) (.tmp (.tmp (.tmp .nil)))) rfl ?_
   exact HP.out _ _ (AllEnd.of H (Want.done .refl) HA.out)
  ·have h9' : 9 ≤ L.length := by omega
   have d1 : decide (9 ≤ (L.length : Int)) = true := decide_eq_true (by omega)
   have d2 : decide (9 ≤ L.length) = true := decide_eq_true h9'
   have hb3 : Byte8 (L.take 3) := fun x hx => hyL x (List.mem_of_mem_take hx)
   have hl3 : (L.take 3).length = 3 := by rw [List.length_take]; omega
   have f3 := fun W => run_to_str L 3 (by decide) (by omega) W
   rw [show (3 : Int).toNat = 3 from rfl] at f3
   have HV := Lib.hid (fun W => value_ref_calls W (L.take 3) (by omega) hb3)
   have hv3 := valL_bound hb3
   rw [hl3, show (256 : Int) ^ 3 = 16777216 from rfl] at hv3
   have hw3 : IntKind.i64.wrap (valL (L.take 3)) = valL (L.take 3) := by simp [IntKind.wrap, IntKind.bits, IntKind.signed]; omega
   obtain ⟨m, hm⟩ := Int.eq_ofNat_of_zero_le (show 0 ≤ headN L by have := headN_ge h9' hyL; omega)
   have hm9 := headN_ge h9' hyL
   have hmm := headN_le hyL
   have hmv : 9 + valL (L.take 3) = (m : Int) := by rw [← hm]; unfold headN; rw [if_neg h9]
   rw [hm] at hm9 hmm
   generalize valL (L.take 3) = v3 at HV hv3 hw3 hmv
   generalize strOfNums (L.take 3) = s3 at f3 HV
   have hNB : nextB L = if (m : Int) ≤ 16393 ∧ (L.length : Int) < (m : Int) then none
     else if 16393 < (m : Int) then some ((hdF L, 1, 6), [], true)
     else if (getFr (L.take m)).2.1 = 1 then some (getFr (L.take m), [], true)
     else some (getFr (L.take m), L.drop m, false) := by
    unfold nextB
    rw [if_neg h9, hm, Int.toNat_natCast]
   by_cases hg : 16393 < m
   ·have d3 : decide ((16393 : Int) < (m : Int)) = true := decide_eq_true (by omega)
    have d4 : decide (16393 < m) = true := decide_eq_true hg
    rw [if_neg (by omega), if_pos (by omega)] at hNB
    have hone := allB_one (r := []) hyL (fun x hx => by cases hx) hNB
    simp only [List.append_nil, if_true] at hone
    have HA := Lib.hid (show allP true full = (es.map FE.x ++ [(hdF L, 1, 6)], 0, true) by rw [hA, hone])
    obtain ⟨m9, hm9'⟩ : ∃ m9 : Nat, m = m9 + 9 := ⟨m - 9, by omega⟩
    have f9 := fun W => run_to_str L 9 (by decide) (by omega) W
    rw [show (9 : Int).toNat = 9 from rfl] at f9
    obtain ⟨L9, hL9⟩ : ∃ L9, L.take 9 ++ List.replicate m9 0 = L9 := ⟨_, rfl⟩
    have hs9 : strOfNums (L.take 9) ++ strOfNums (List.replicate m9 0) = strOfNums L9 := by rw [strs_append, hL9]
    have ht9 : (L.take 9).length = 9 := by rw [List.length_take]; omega
    have hl9 : L9.length = m := by rw [← hL9, List.length_append, ht9, List.length_replicate]; omega
    have hm7 : (m : Int) - 9 = (m9 : Int) := by omega
    have hw8 : IntKind.i64.wrap (m9 : Int) = (m9 : Int) := by simp [IntKind.wrap, IntKind.bits, IntKind.signed]; omega
    have hw7 : wrap64 ((m : Int) - 9) = (m9 : Int) := by rw [wrap_okF (by omega) (by omega)]; omega
    have c9 : (9223372036854775807 < (strOfNums (L.take 9)).size + (strOfNums (List.replicate m9 0)).size) = False := eq_false (by rw [str_size, str_size, ht9, List.length_replicate]; omega)
    have hh9 : headN (L.take 9) = headN L ∧ hdF (L.take 9) = hdF L := by
     have e1 := headN_app (b := L.take 9) (L.drop 9) (by omega)
     have e2 := hdF_app (b := L.take 9) (L.drop 9) (by omega)
     rw [List.take_append_drop] at e1 e2
     exact ⟨e1.symm, e2.symm⟩
    have hG := fun W => rget_hold W L9 (fun x hx => by
     rw [← hL9] at hx
     rcases List.mem_append.1 hx with hx | hx
     ·exact hyL x (List.mem_of_mem_take hx)
     ·have := List.eq_of_mem_replicate hx
      omega) (by omega)
    rw [getFr_great (by omega) (by rw [← hL9, headN_app _ (by omega), hh9.1, hm, hL9, hl9]) (by omega), show hdF L9 = hdF L by rw [← hL9, hdF_app _ (by omega), hh9.2]] at hG
    generalize hdF L = F at hG HA
    dsimp only at hG
    have HG := Lib.hid hG
    have hm10 : m9 ≤ 20000000 := by omega
    clear hG hh9 hl9 ht9 hL9 hone hNB hA hm hyL hb3 hl3 hm9'
    generalize strOfNums (L.take 9) = s9 at f9 hs9 c9
    go_upto_region 15 with (first
     | (go_at_call 29; refine (HV.out _).mono ?_; rintro e_ w_ ⟨rfl, h_⟩; replace H := H.below h_.below; clear h_))
    replace H := H.below (below_drew (Below.refl _ _))
    refine start_ (n := 10) (S := fun w' => True) (ds := []) #[false, false, false, false, false, false, false, false, false, false] (by kernel_rfl) rfl rfl trivial (fun hHeld => ?_)
    generalize World.drew _ = wy at H hHeld ⊢
    refine pure_ (i := 0) (N := some 55) (v := ?_) (a' := ?_) #[true, false, false, false, false, false, false, false, false, false] rfl rfl (by kernel_rfl) (fun _ _ _ h => h) (Or.inl ⟨by rfl, ?_⟩) ?_ ?_
    rotate_left
    ·intro w'
     go_simp
     with_reducible rfl
    rotate_left
    ·simp only [Act.put, putA, putB, putC]
     rfl
    refine pure_ (i := 1) (N := some 56) (v := ?_) (a' := ?_) #[true, true, false, false, false, false, false, false, false, false] rfl rfl (by kernel_rfl) (fun _ _ _ h => h) (Or.inl ⟨by rfl, ?_⟩) ?_ ?_
    rotate_left
    ·intro w'
     go_simp
     with_reducible rfl
    rotate_left
    ·simp only [Act.put, putA, putB, putC]
     rfl
    refine pure_ (i := 2) (N := some 57) (v := ?_) (a' := ?_) #[true, true, true, false, false, false, false, false, false, false] rfl rfl (by kernel_rfl) (fun _ _ _ h => h) (Or.inl ⟨by rfl, ?_⟩) ?_ ?_
    rotate_left
    ·intro w'
     go_simp
     with_reducible rfl
    rotate_left
    ·simp only [Act.put, putA, putB, putC]
     rfl
    refine pure_ (i := 3) (N := some 58) (v := ?_) (a' := ?_) #[true, true, true, true, false, false, false, false, false, false] rfl rfl (by kernel_rfl) (fun _ _ _ h => h) (Or.inl ⟨by rfl, ?_⟩) ?_ ?_
    rotate_left
    ·intro w'
     go_simp
     with_reducible rfl
    rotate_left
    ·simp only [Act.put, putA, putB, putC]
     rfl
    refine two_ (i := 4) (j := 8) (Ni := some 59) (Nj := some 12) #[true, true, true, true, true, false, false, false, false, false] #[true, true, true, true, false, false, false, false, true, false] rfl rfl rfl rfl (by kernel_rfl) (by decide) (by decide) (fun K hK => ?_) (fun K hK => ?_)
    ·refine makeb_o H (by rfl) rfl m9 rfl rfl Tryd.underlying35 Tryd.infoB8 (by omega) ?_
     clear H
     intro gm w_ H h_
     clear h_
     refine hK.out _ _ trivial (fun hHeld => ?_)
     clear hK K
     refine norm_ (a' := ?_) ?_ ?_
     rotate_left
     ·show Act.put _ (some 59) _ = _
      simp only [Act.put, putA, putB, putC]
      rfl
     refine two_ (i := 5) (j := 8) (Ni := some 60) (Nj := some 12) #[true, true, true, true, true, true, false, false, false, false] #[true, true, true, true, true, false, false, false, true, false] rfl rfl rfl rfl (by kernel_rfl) (by decide) (by decide) (fun K hK => ?_) (fun K hK => ?_)
     ·refine conv_o H (by rfl) rfl (v := .slice (some ⟨gm, 0, none⟩) m9 m9) rfl (by repeat (first | exact List.Mem.head _ | apply List.Mem.tail)) Tryd.underlying35 Tryd.underlying5 Tryd.underlying9 ?_
      refine hK.out _ _ trivial (fun hHeld => ?_)
      clear hK K
      refine norm_ (a' := ?_) ?_ ?_
      rotate_left
      ·show Act.put _ (some 60) _ = _
       simp only [Act.put, putA, putB, putC]
       rfl
      refine pure_ (i := 6) (N := some 61) (v := ?_) (a' := ?_) #[true, true, true, true, true, true, true, false, false, false] rfl rfl (by kernel_rfl) (fun _ _ _ h => h) (Or.inl ⟨by rfl, ?_⟩) ?_ ?_
      rotate_left
      ·intro w'
       go_simp
       with_reducible rfl
      rotate_left
      ·simp only [Act.put, putA, putB, putC]
       rfl
      refine two_ (i := 7) (j := 8) (Ni := some 62) (Nj := some 12) #[true, true, true, true, true, true, true, true, false, false] #[true, true, true, true, true, true, true, false, true, false] rfl rfl rfl rfl (by kernel_rfl) (by decide) (by decide) (fun K hK => ?_) (fun K hK => ?_)
      ·refine goes_ Tryd.func26 (by kernel_rfl) rfl #[.string (strOfNums L9)] (by rfl) rfl rfl (by (try simp only [List.map_toArray, List.map_cons, List.map_nil]); first | done | rfl) ?_
       refine (HG.out _).mono ?_
       rintro e_ w9 ⟨Aq, cq, Bq, mq, rfl, h_⟩
       replace H := Hold.push H h_
       clear h_
       refine ⟨_, rfl, ?_⟩
       refine hK.out _ _ trivial (fun hHeld => ?_)
       clear hK K
       refine norm_ (a' := ?_) ?_ ?_
       rotate_left
       ·show Act.put _ (some 62) _ = _
        simp only [Act.put, putA, putB, putC]
        rfl
       refine one_ (i := 8) (N := some 12) #[true, true, true, true, true, true, true, true, true, false] rfl rfl (by kernel_rfl) (by decide) (fun K hK => ?_)
       refine alloc_o H (by rfl) (cs := (fC ⟨0, 0, 0, [], 0, 0, 0, 0, false, 0, []⟩ nilS nilS 0 0).toList) (by first | (go_simp; done) | (go_simp; rfl)) ?_
       clear H
       intro gx w_ H h_
       clear h_
       refine hK.out _ _ trivial (fun hHeld => ?_)
       clear hK K
       refine norm_ (a' := ?_) ?_ ?_
       rotate_left
       ·show Act.put _ (some 12) _ = _
        simp only [Act.put, putA, putB, putC]
        rfl
       refine one_ (i := 9) (N := none) #[true, true, true, true, true, true, true, true, true, true] rfl rfl (by kernel_rfl) (by decide) (fun K hK => ?_)
       refine store_o H (by rfl) rfl rfl rfl rfl (u := .agg (fC F (.slice Aq F.data.length cq) (.slice Bq F.sets.length mq) 1 6)) (by repeat (first | exact Put.head | apply Put.tail)) (by kernel_rfl) (Nat.le_of_ble_eq_true rfl) rfl ?_
       clear H
       intro w_ H h_
       simp only [setC, Value.cells, List.toList_toArray] at H
       clear h_
       refine hK.out _ _ trivial (fun hHeld => ?_)
       clear hK K
       refine done_ (by kernel_rfl) ?_
       go_wp2_with (first
        | ((with_reducible refine is_load (ty := 45) rfl ?_); refine load_h H rfl rfl rfl (by repeat (first | exact List.Mem.head _ | apply List.Mem.tail)) (by kernel_rfl) (by kernel_rfl) ?_)
        | ((with_reducible refine is_lit rfl ?_); refine onerow_h H rfl (e := 45) (cs := (fC F (.slice Aq F.data.length cq) (.slice Bq F.sets.length mq) 1 6).toList) (by first | (go_simp; done) | (go_simp; rfl)) ?_; clear H; intro gl w_ H)
        | ((with_reducible refine is_call rfl ?_); refine appends_h H rfl rfl Tryd.underlying61 Tryd.infoF rfl (by decide) rfl rfl (g := gl) (by repeat (first | exact List.Mem.head _ | apply List.Mem.tail)) rfl rfl (fun y => (by repeat (first | exact Put.head | apply Put.tail))) (by omega) (by omega) ?_; clear H; intro vo4 w_ H))
       obtain ⟨A4, c4, e4⟩ := own_slice (H.ok (.row 45 13 vo4 (es.length + 1) (es.flatMap FE.cells ++ (FE.mk (F, 1, 6) Aq cq Bq mq).cells)) (by repeat (first | exact List.Mem.head _ | apply List.Mem.tail)))
       subst e4
       have hr_ := rowO_more (.slice A4 (es.length + 1) c4) es ⟨(F, 1, 6), Aq, cq, Bq, mq⟩
       have H3 := H.want (l' := [.row 45 13 (.slice A4 (es.length + 1) c4) (es.length + 1) (es.flatMap FE.cells ++ (FE.mk (F, 1, 6) Aq cq Bq mq).cells), (FE.mk (F, 1, 6) Aq cq Bq mq).thing] ++ rowT es) (Want.take (by repeat (first | exact Pull.head | apply Pull.tail)) (Want.take (by repeat (first | exact Pull.head | apply Pull.tail)) (Want.done (by repeat (first | exact Suf.refl | apply Suf.cons)))))
       rw [show ∀ x y : Own, [x, y] ++ rowT es = [x] ++ (y :: rowT es) from fun _ _ => rfl, hr_, ← rowT_more] at H3
       have hlen_ : (es ++ [(⟨(F, 1, 6), Aq, cq, Bq, mq⟩ : FE)]).length = es.length + 1 := by simp
       refine bodyPost_ret (results_list (rs := [.tmp 4, .tmp 5, .tmp 6]) rfl (by simp) (.tmp (.tmp (.tmp .nil)))) rfl ?_
       rw [← hlen_] at H3 ⊢
       exact HP.out _ _ (AllEnd.of H3 (Want.done .refl) (HA.out.trans (by simp)))
      ·refine alloc_o H (by rfl) (cs := (fC ⟨0, 0, 0, [], 0, 0, 0, 0, false, 0, []⟩ nilS nilS 0 0).toList) (by first | (go_simp; done) | (go_simp; rfl)) ?_
       clear H
       intro gx w_ H h_
       clear h_
       refine hK.out _ _ trivial (fun hHeld => ?_)
       clear hK K
       refine norm_ (a' := ?_) ?_ ?_
       rotate_left
       ·show Act.put _ (some 12) _ = _
        simp only [Act.put, putA, putB, putC]
        rfl
       refine one_ (i := 7) (N := some 62) #[true, true, true, true, true, true, true, true, true, false] rfl rfl (by kernel_rfl) (by decide) (fun K hK => ?_)
       refine goes_ Tryd.func26 (by kernel_rfl) rfl #[.string (strOfNums L9)] (by rfl) rfl rfl (by (try simp only [List.map_toArray, List.map_cons, List.map_nil]); first | done | rfl) ?_
       refine (HG.out _).mono ?_
       rintro e_ w9 ⟨Aq, cq, Bq, mq, rfl, h_⟩
       replace H := Hold.push H h_
       clear h_
       refine ⟨_, rfl, ?_⟩
       refine hK.out _ _ trivial (fun hHeld => ?_)
       clear hK K
       refine norm_ (a' := ?_) ?_ ?_
       rotate_left
       ·show Act.put _ (some 62) _ = _
        simp only [Act.put, putA, putB, putC]
        rfl
       refine one_ (i := 9) (N := none) #[true, true, true, true, true, true, true, true, true, true] rfl rfl (by kernel_rfl) (by decide) (fun K hK => ?_)
       refine store_o H (by rfl) rfl rfl rfl rfl (u := .agg (fC F (.slice Aq F.data.length cq) (.slice Bq F.sets.length mq) 1 6)) (by repeat (first | exact Put.head | apply Put.tail)) (by kernel_rfl) (Nat.le_of_ble_eq_true rfl) rfl ?_
       clear H
       intro w_ H h_
       simp only [setC, Value.cells, List.toList_toArray] at H
       clear h_
       refine hK.out _ _ trivial (fun hHeld => ?_)
       clear hK K
       refine done_ (by kernel_rfl) ?_
       go_wp2_with (first
        | ((with_reducible refine is_load (ty := 45) rfl ?_); refine load_h H rfl rfl rfl (by repeat (first | exact List.Mem.head _ | apply List.Mem.tail)) (by kernel_rfl) (by kernel_rfl) ?_)
        | ((with_reducible refine is_lit rfl ?_); refine onerow_h H rfl (e := 45) (cs := (fC F (.slice Aq F.data.length cq) (.slice Bq F.sets.length mq) 1 6).toList) (by first | (go_simp; done) | (go_simp; rfl)) ?_; clear H; intro gl w_ H)
        | ((with_reducible refine is_call rfl ?_); refine appends_h H rfl rfl Tryd.underlying61 Tryd.infoF rfl (by decide) rfl rfl (g := gl) (by repeat (first | exact List.Mem.head _ | apply List.Mem.tail)) rfl rfl (fun y => (by repeat (first | exact Put.head | apply Put.tail))) (by omega) (by omega) ?_; clear H; intro vo4 w_ H))
       obtain ⟨A4, c4, e4⟩ := own_slice (H.ok (.row 45 13 vo4 (es.length + 1) (es.flatMap FE.cells ++ (FE.mk (F, 1, 6) Aq cq Bq mq).cells)) (by repeat (first | exact List.Mem.head _ | apply List.Mem.tail)))
       subst e4
       have hr_ := rowO_more (.slice A4 (es.length + 1) c4) es ⟨(F, 1, 6), Aq, cq, Bq, mq⟩
       have H3 := H.want (l' := [.row 45 13 (.slice A4 (es.length + 1) c4) (es.length + 1) (es.flatMap FE.cells ++ (FE.mk (F, 1, 6) Aq cq Bq mq).cells), (FE.mk (F, 1, 6) Aq cq Bq mq).thing] ++ rowT es) (Want.take (by repeat (first | exact Pull.head | apply Pull.tail)) (Want.take (by repeat (first | exact Pull.head | apply Pull.tail)) (Want.done (by repeat (first | exact Suf.refl | apply Suf.cons)))))
       rw [show ∀ x y : Own, [x, y] ++ rowT es = [x] ++ (y :: rowT es) from fun _ _ => rfl, hr_, ← rowT_more] at H3
       have hlen_ : (es ++ [(⟨(F, 1, 6), Aq, cq, Bq, mq⟩ : FE)]).length = es.length + 1 := by simp
       refine bodyPost_ret (results_list (rs := [.tmp 4, .tmp 5, .tmp 6]) rfl (by simp) (.tmp (.tmp (.tmp .nil)))) rfl ?_
       rw [← hlen_] at H3 ⊢
       exact HP.out _ _ (AllEnd.of H3 (Want.done .refl) (HA.out.trans (by simp)))
     ·refine alloc_o H (by rfl) (cs := (fC ⟨0, 0, 0, [], 0, 0, 0, 0, false, 0, []⟩ nilS nilS 0 0).toList) (by first | (go_simp; done) | (go_simp; rfl)) ?_
      clear H
      intro gx w_ H h_
      clear h_
      refine hK.out _ _ trivial (fun hHeld => ?_)
      clear hK K
      refine norm_ (a' := ?_) ?_ ?_
      rotate_left
      ·show Act.put _ (some 12) _ = _
       simp only [Act.put, putA, putB, putC]
       rfl
      refine one_ (i := 5) (N := some 60) #[true, true, true, true, true, true, false, false, true, false] rfl rfl (by kernel_rfl) (by decide) (fun K hK => ?_)
      refine conv_o H (by rfl) rfl (v := .slice (some ⟨gm, 0, none⟩) m9 m9) rfl (by repeat (first | exact List.Mem.head _ | apply List.Mem.tail)) Tryd.underlying35 Tryd.underlying5 Tryd.underlying9 ?_
      refine hK.out _ _ trivial (fun hHeld => ?_)
      clear hK K
      refine norm_ (a' := ?_) ?_ ?_
      rotate_left
      ·show Act.put _ (some 60) _ = _
       simp only [Act.put, putA, putB, putC]
       rfl
      refine pure_ (i := 6) (N := some 61) (v := ?_) (a' := ?_) #[true, true, true, true, true, true, true, false, true, false] rfl rfl (by kernel_rfl) (fun _ _ _ h => h) (Or.inl ⟨by rfl, ?_⟩) ?_ ?_
      rotate_left
      ·intro w'
       go_simp
       with_reducible rfl
      rotate_left
      ·simp only [Act.put, putA, putB, putC]
       rfl
      refine one_ (i := 7) (N := some 62) #[true, true, true, true, true, true, true, true, true, false] rfl rfl (by kernel_rfl) (by decide) (fun K hK => ?_)
      refine goes_ Tryd.func26 (by kernel_rfl) rfl #[.string (strOfNums L9)] (by rfl) rfl rfl (by (try simp only [List.map_toArray, List.map_cons, List.map_nil]); first | done | rfl) ?_
      refine (HG.out _).mono ?_
      rintro e_ w9 ⟨Aq, cq, Bq, mq, rfl, h_⟩
      replace H := Hold.push H h_
      clear h_
      refine ⟨_, rfl, ?_⟩
      refine hK.out _ _ trivial (fun hHeld => ?_)
      clear hK K
      refine norm_ (a' := ?_) ?_ ?_
      rotate_left
      ·show Act.put _ (some 62) _ = _
       simp only [Act.put, putA, putB, putC]
       rfl
      refine one_ (i := 9) (N := none) #[true, true, true, true, true, true, true, true, true, true] rfl rfl (by kernel_rfl) (by decide) (fun K hK => ?_)
      refine store_o H (by rfl) rfl rfl rfl rfl (u := .agg (fC F (.slice Aq F.data.length cq) (.slice Bq F.sets.length mq) 1 6)) (by repeat (first | exact Put.head | apply Put.tail)) (by kernel_rfl) (Nat.le_of_ble_eq_true rfl) rfl ?_
      clear H
      intro w_ H h_
      simp only [setC, Value.cells, List.toList_toArray] at H
      clear h_
      refine hK.out _ _ trivial (fun hHeld => ?_)
      clear hK K
      refine done_ (by kernel_rfl) ?_
      go_wp2_with (first
       | ((with_reducible refine is_load (ty := 45) rfl ?_); refine load_h H rfl rfl rfl (by repeat (first | exact List.Mem.head _ | apply List.Mem.tail)) (by kernel_rfl) (by kernel_rfl) ?_)
       | ((with_reducible refine is_lit rfl ?_); refine onerow_h H rfl (e := 45) (cs := (fC F (.slice Aq F.data.length cq) (.slice Bq F.sets.length mq) 1 6).toList) (by first | (go_simp; done) | (go_simp; rfl)) ?_; clear H; intro gl w_ H)
       | ((with_reducible refine is_call rfl ?_); refine appends_h H rfl rfl Tryd.underlying61 Tryd.infoF rfl (by decide) rfl rfl (g := gl) (by repeat (first | exact List.Mem.head _ | apply List.Mem.tail)) rfl rfl (fun y => (by repeat (first | exact Put.head | apply Put.tail))) (by omega) (by omega) ?_; clear H; intro vo4 w_ H))
      obtain ⟨A4, c4, e4⟩ := own_slice (H.ok (.row 45 13 vo4 (es.length + 1) (es.flatMap FE.cells ++ (FE.mk (F, 1, 6) Aq cq Bq mq).cells)) (by repeat (first | exact List.Mem.head _ | apply List.Mem.tail)))
      subst e4
      have hr_ := rowO_more (.slice A4 (es.length + 1) c4) es ⟨(F, 1, 6), Aq, cq, Bq, mq⟩
      have H3 := H.want (l' := [.row 45 13 (.slice A4 (es.length + 1) c4) (es.length + 1) (es.flatMap FE.cells ++ (FE.mk (F, 1, 6) Aq cq Bq mq).cells), (FE.mk (F, 1, 6) Aq cq Bq mq).thing] ++ rowT es) (Want.take (by repeat (first | exact Pull.head | apply Pull.tail)) (Want.take (by repeat (first | exact Pull.head | apply Pull.tail)) (Want.done (by repeat (first | exact Suf.refl | apply Suf.cons)))))
      rw [show ∀ x y : Own, [x, y] ++ rowT es = [x] ++ (y :: rowT es) from fun _ _ => rfl, hr_, ← rowT_more] at H3
      have hlen_ : (es ++ [(⟨(F, 1, 6), Aq, cq, Bq, mq⟩ : FE)]).length = es.length + 1 := by simp
      refine bodyPost_ret (results_list (rs := [.tmp 4, .tmp 5, .tmp 6]) rfl (by simp) (.tmp (.tmp (.tmp .nil)))) rfl ?_
      rw [← hlen_] at H3 ⊢
      exact HP.out _ _ (AllEnd.of H3 (Want.done .refl) (HA.out.trans (by simp)))
    ·refine alloc_o H (by rfl) (cs := (fC ⟨0, 0, 0, [], 0, 0, 0, 0, false, 0, []⟩ nilS nilS 0 0).toList) (by first | (go_simp; done) | (go_simp; rfl)) ?_
     clear H
     intro gx w_ H h_
     clear h_
     refine hK.out _ _ trivial (fun hHeld => ?_)
     clear hK K
     refine norm_ (a' := ?_) ?_ ?_
     rotate_left
     ·show Act.put _ (some 12) _ = _
      simp only [Act.put, putA, putB, putC]
      rfl
     refine one_ (i := 4) (N := some 59) #[true, true, true, true, true, false, false, false, true, false] rfl rfl (by kernel_rfl) (by decide) (fun K hK => ?_)
     refine makeb_o H (by rfl) rfl m9 rfl rfl Tryd.underlying35 Tryd.infoB8 (by omega) ?_
     clear H
     intro gm w_ H h_
     clear h_
     refine hK.out _ _ trivial (fun hHeld => ?_)
     clear hK K
     refine norm_ (a' := ?_) ?_ ?_
     rotate_left
     ·show Act.put _ (some 59) _ = _
      simp only [Act.put, putA, putB, putC]
      rfl
     refine one_ (i := 5) (N := some 60) #[true, true, true, true, true, true, false, false, true, false] rfl rfl (by kernel_rfl) (by decide) (fun K hK => ?_)
     refine conv_o H (by rfl) rfl (v := .slice (some ⟨gm, 0, none⟩) m9 m9) rfl (by repeat (first | exact List.Mem.head _ | apply List.Mem.tail)) Tryd.underlying35 Tryd.underlying5 Tryd.underlying9 ?_
     refine hK.out _ _ trivial (fun hHeld => ?_)
     clear hK K
     refine norm_ (a' := ?_) ?_ ?_
     rotate_left
     ·show Act.put _ (some 60) _ = _
      simp only [Act.put, putA, putB, putC]
      rfl
     refine pure_ (i := 6) (N := some 61) (v := ?_) (a' := ?_) #[true, true, true, true, true, true, true, false, true, false] rfl rfl (by kernel_rfl) (fun _ _ _ h => h) (Or.inl ⟨by rfl, ?_⟩) ?_ ?_
     rotate_left
     ·intro w'
      go_simp
      with_reducible rfl
     rotate_left
     ·simp only [Act.put, putA, putB, putC]
      rfl
     refine one_ (i := 7) (N := some 62) #[true, true, true, true, true, true, true, true, true, false] rfl rfl (by kernel_rfl) (by decide) (fun K hK => ?_)
     refine goes_ Tryd.func26 (by kernel_rfl) rfl #[.string (strOfNums L9)] (by rfl) rfl rfl (by (try simp only [List.map_toArray, List.map_cons, List.map_nil]); first | done | rfl) ?_
     refine (HG.out _).mono ?_
     rintro e_ w9 ⟨Aq, cq, Bq, mq, rfl, h_⟩
     replace H := Hold.push H h_
     clear h_
     refine ⟨_, rfl, ?_⟩
     refine hK.out _ _ trivial (fun hHeld => ?_)
     clear hK K
     refine norm_ (a' := ?_) ?_ ?_
     rotate_left
     ·show Act.put _ (some 62) _ = _
      simp only [Act.put, putA, putB, putC]
      rfl
     refine one_ (i := 9) (N := none) #[true, true, true, true, true, true, true, true, true, true] rfl rfl (by kernel_rfl) (by decide) (fun K hK => ?_)
     refine store_o H (by rfl) rfl rfl rfl rfl (u := .agg (fC F (.slice Aq F.data.length cq) (.slice Bq F.sets.length mq) 1 6)) (by repeat (first | exact Put.head | apply Put.tail)) (by kernel_rfl) (Nat.le_of_ble_eq_true rfl) rfl ?_
     clear H
     intro w_ H h_
     simp only [setC, Value.cells, List.toList_toArray] at H
     clear h_
     refine hK.out _ _ trivial (fun hHeld => ?_)
     clear hK K
     refine done_ (by kernel_rfl) ?_
     go_wp2_with (first
      | ((with_reducible refine is_load (ty := 45) rfl ?_); refine load_h H rfl rfl rfl (by repeat (first | exact List.Mem.head _ | apply List.Mem.tail)) (by kernel_rfl) (by kernel_rfl) ?_)
      | ((with_reducible refine is_lit rfl ?_); refine onerow_h H rfl (e := 45) (cs := (fC F (.slice Aq F.data.length cq) (.slice Bq F.sets.length mq) 1 6).toList) (by first | (go_simp; done) | (go_simp; rfl)) ?_; clear H; intro gl w_ H)
      | ((with_reducible refine is_call rfl ?_); refine appends_h H rfl rfl Tryd.underlying61 Tryd.infoF rfl (by decide) rfl rfl (g := gl) (by repeat (first | exact List.Mem.head _ | apply List.Mem.tail)) rfl rfl (fun y => (by repeat (first | exact Put.head | apply Put.tail))) (by omega) (by omega) ?_; clear H; intro vo4 w_ H))
     obtain ⟨A4, c4, e4⟩ := own_slice (H.ok (.row 45 13 vo4 (es.length + 1) (es.flatMap FE.cells ++ (FE.mk (F, 1, 6) Aq cq Bq mq).cells)) (by repeat (first | exact List.Mem.head _ | apply List.Mem.tail)))
     subst e4
     have hr_ := rowO_more (.slice A4 (es.length + 1) c4) es ⟨(F, 1, 6), Aq, cq, Bq, mq⟩
     have H3 := H.want (l' := [.row 45 13 (.slice A4 (es.length + 1) c4) (es.length + 1) (es.flatMap FE.cells ++ (FE.mk (F, 1, 6) Aq cq Bq mq).cells), (FE.mk (F, 1, 6) Aq cq Bq mq).thing] ++ rowT es) (Want.take (by repeat (first | exact Pull.head | apply Pull.tail)) (Want.take (by repeat (first | exact Pull.head | apply Pull.tail)) (Want.done (by repeat (first | exact Suf.refl | apply Suf.cons)))))
     rw [show ∀ x y : Own, [x, y] ++ rowT es = [x] ++ (y :: rowT es) from fun _ _ => rfl, hr_, ← rowT_more] at H3
     have hlen_ : (es ++ [(⟨(F, 1, 6), Aq, cq, Bq, mq⟩ : FE)]).length = es.length + 1 := by simp
     refine bodyPost_ret (results_list (rs := [.tmp 4, .tmp 5, .tmp 6]) rfl (by simp) (.tmp (.tmp (.tmp .nil)))) rfl ?_
     rw [← hlen_] at H3 ⊢
     exact HP.out _ _ (AllEnd.of H3 (Want.done .refl) (HA.out.trans (by simp)))
   ·have d3 : decide ((16393 : Int) < (m : Int)) = false := decide_eq_false (by omega)
    have d4 : decide (16393 < m) = false := decide_eq_false hg
    by_cases hs : L.length < m
    ·have d5 : decide ((L.length : Int) < (m : Int)) = true := decide_eq_true (by omega)
     have d6 : decide (L.length < m) = true := decide_eq_true hs
     rw [if_pos (by omega)] at hNB
     have HA := Lib.hid (show allP true full = (es.map FE.x, L.length, false) by rw [hA, allB_none hNB]; simp)
     clear hA hNB hm
     go_wp2_with (first
      | (go_at_call 29; refine (HV.out _).mono ?_; rintro e_ w_ ⟨rfl, h_⟩; replace H := H.below h_.below; clear h_))
     refine bodyPost_ret (results_list (rs := [.tmp 4, .tmp 5, .tmp 6]) rfl (by simp) (.tmp (.tmp (.tmp .nil)))) rfl ?_
     exact HP.out _ _ (AllEnd.of H (Want.done .refl) HA.out)
    ·have d5 : decide ((L.length : Int) < (m : Int)) = false := decide_eq_false (by omega)
     have d6 : decide (L.length < m) = false := decide_eq_false hs
     rw [if_neg (by omega), if_neg (by omega)] at hNB
     have fm := fun W => run_to_str L (m : Int) (by omega) (by omega) W
     have fd := fun W => run_from_str L (m : Int) (by omega) (by omega) W
     rw [Int.toNat_natCast] at fm fd
     have k5 : (m : Int) ≤ (L.length : Int) := by omega
     have hG := fun W => rget_hold W (L.take m) (fun x hx => hyL x (List.mem_of_mem_take hx)) (by rw [List.length_take]; omega)
     have hyd : Byte8 (L.drop m) := fun x hx => hyL x (List.mem_of_mem_drop hx)
     have hld : (L.drop m).length = L.length - m := by rw [List.length_drop]
     generalize getFr (L.take m) = X at hG hNB
     obtain ⟨F, sc, cd⟩ := X
     dsimp only at hG hNB
     by_cases hc : sc = 1
     ·subst hc
      rw [if_pos rfl] at hNB
      have hone := allB_one (r := []) hyL (fun x hx => by cases hx) hNB
      simp only [List.append_nil, if_true] at hone
      have HA := Lib.hid (show allP true full = (es.map FE.x ++ [(F, 1, cd)], 0, true) by rw [hA, hone])
      have HG := Lib.hid hG
      clear hG hNB hA hone hm hyL hb3 hl3 hyd hld
      generalize strOfNums (L.take m) = sm at fm HG
      go_wp2_with (first
       | (go_at_call 29; refine (HV.out _).mono ?_; rintro e_ w_ ⟨rfl, h_⟩; replace H := H.below h_.below; clear h_)
       | (go_at_call 26; refine (HG.out _).mono ?_; rintro e_ w_ ⟨Aq, cq, Bq, mq, rfl, h_⟩; replace H := Hold.push H h_; clear h_)
       | ((with_reducible refine is_alloc (ty := 45) rfl ?_); refine alloc_h H rfl rfl (cs := (fC ⟨0, 0, 0, [], 0, 0, 0, 0, false, 0, []⟩ nilS nilS 0 0).toList) (by first | (go_simp; done) | (go_simp; rfl)) ?_; clear H; intro gx w_ H)
       | ((with_reducible refine is_store (ty := 45) rfl ?_); refine store_h H rfl rfl rfl rfl (u := .agg (fC F (.slice Aq F.data.length cq) (.slice Bq F.sets.length mq) 1 cd)) rfl (by repeat (first | exact Put.head | apply Put.tail)) (by kernel_rfl) (Nat.le_of_ble_eq_true rfl) rfl ?_; clear H; intro w_ H; simp only [setC, Value.cells, List.toList_toArray] at H)
       | ((with_reducible refine is_load (ty := 45) rfl ?_); refine load_h H rfl rfl rfl (by repeat (first | exact List.Mem.head _ | apply List.Mem.tail)) (by kernel_rfl) (by kernel_rfl) ?_)
       | ((with_reducible refine is_load rfl ?_); refine loadf_h H rfl rfl rfl (by repeat (first | exact List.Mem.head _ | apply List.Mem.tail)) rfl (by kernel_rfl) ?_)
       | ((with_reducible refine is_lit rfl ?_); refine onerow_h H rfl (e := 45) (cs := (fC F (.slice Aq F.data.length cq) (.slice Bq F.sets.length mq) 1 cd).toList) (by first | (go_simp; done) | (go_simp; rfl)) ?_; clear H; intro gl w_ H)
       | ((with_reducible refine is_call rfl ?_); refine appends_h H rfl rfl Tryd.underlying61 Tryd.infoF rfl (by decide) rfl rfl (g := gl) (by repeat (first | exact List.Mem.head _ | apply List.Mem.tail)) rfl rfl (fun y => (by repeat (first | exact Put.head | apply Put.tail))) (by omega) (by omega) ?_; clear H; intro vo4 w_ H))
      obtain ⟨A4, c4, e4⟩ := own_slice (H.ok (.row 45 13 vo4 (es.length + 1) (es.flatMap FE.cells ++ (FE.mk (F, 1, cd) Aq cq Bq mq).cells)) (by repeat (first | exact List.Mem.head _ | apply List.Mem.tail)))
      subst e4
      have hr_ := rowO_more (.slice A4 (es.length + 1) c4) es ⟨(F, 1, cd), Aq, cq, Bq, mq⟩
      have H3 := H.want (l' := [.row 45 13 (.slice A4 (es.length + 1) c4) (es.length + 1) (es.flatMap FE.cells ++ (FE.mk (F, 1, cd) Aq cq Bq mq).cells), (FE.mk (F, 1, cd) Aq cq Bq mq).thing] ++ rowT es) (Want.take (by repeat (first | exact Pull.head | apply Pull.tail)) (Want.take (by repeat (first | exact Pull.head | apply Pull.tail)) (Want.done (by repeat (first | exact Suf.refl | apply Suf.cons)))))
      rw [show ∀ x y : Own, [x, y] ++ rowT es = [x] ++ (y :: rowT es) from fun _ _ => rfl, hr_, ← rowT_more] at H3
      have hlen_ : (es ++ [(⟨(F, 1, cd), Aq, cq, Bq, mq⟩ : FE)]).length = es.length + 1 := by simp
      refine bodyPost_ret (results_list (rs := [.tmp 4, .tmp 5, .tmp 6]) rfl (by simp) (.tmp (.tmp (.tmp .nil)))) rfl ?_
      rw [← hlen_] at H3 ⊢
      exact HP.out _ _ (AllEnd.of H3 (Want.done .refl) (HA.out.trans (by simp)))
     ·have g7 : (sc == 1) = false := by simpa using hc
      rw [if_neg hc] at hNB
      have hone := allB_one (r := []) hyL (fun x hx => by cases hx) hNB
      simp only [List.append_nil, Bool.false_eq_true, if_false] at hone
      have HA := Lib.hid (And.intro (show allP true full = (es.map FE.x ++ [(F, sc, cd)] ++ (allB (L.drop m).length (L.drop m)).1, (allB (L.drop m).length (L.drop m)).2) by rw [hA, hone]; simp) (And.intro hyd hld))
      have HG := Lib.hid hG
      clear hG hNB hA hone hm hyL hb3 hl3 hyd hld hc
      generalize strOfNums (L.take m) = sm at fm HG
      go_wp2_with (first
       | (go_at_call 29; refine (HV.out _).mono ?_; rintro e_ w_ ⟨rfl, h_⟩; replace H := H.below h_.below; clear h_)
       | (go_at_call 26; refine (HG.out _).mono ?_; rintro e_ w_ ⟨Aq, cq, Bq, mq, rfl, h_⟩; replace H := Hold.push H h_; clear h_)
       | ((with_reducible refine is_alloc (ty := 45) rfl ?_); refine alloc_h H rfl rfl (cs := (fC ⟨0, 0, 0, [], 0, 0, 0, 0, false, 0, []⟩ nilS nilS 0 0).toList) (by first | (go_simp; done) | (go_simp; rfl)) ?_; clear H; intro gx w_ H)
       | ((with_reducible refine is_store (ty := 45) rfl ?_); refine store_h H rfl rfl rfl rfl (u := .agg (fC F (.slice Aq F.data.length cq) (.slice Bq F.sets.length mq) sc cd)) rfl (by repeat (first | exact Put.head | apply Put.tail)) (by kernel_rfl) (Nat.le_of_ble_eq_true rfl) rfl ?_; clear H; intro w_ H; simp only [setC, Value.cells, List.toList_toArray] at H)
       | ((with_reducible refine is_load (ty := 45) rfl ?_); refine load_h H rfl rfl rfl (by repeat (first | exact List.Mem.head _ | apply List.Mem.tail)) (by kernel_rfl) (by kernel_rfl) ?_)
       | ((with_reducible refine is_load rfl ?_); refine loadf_h H rfl rfl rfl (by repeat (first | exact List.Mem.head _ | apply List.Mem.tail)) rfl (by kernel_rfl) ?_)
       | ((with_reducible refine is_lit rfl ?_); refine onerow_h H rfl (e := 45) (cs := (fC F (.slice Aq F.data.length cq) (.slice Bq F.sets.length mq) sc cd).toList) (by first | (go_simp; done) | (go_simp; rfl)) ?_; clear H; intro gl w_ H)
       | ((with_reducible refine is_call rfl ?_); refine appends_h H rfl rfl Tryd.underlying61 Tryd.infoF rfl (by decide) rfl rfl (g := gl) (by repeat (first | exact List.Mem.head _ | apply List.Mem.tail)) rfl rfl (fun y => (by repeat (first | exact Put.head | apply Put.tail))) (by omega) (by omega) ?_; clear H; intro vo4 w_ H))
      obtain ⟨A4, c4, e4⟩ := own_slice (H.ok (.row 45 13 vo4 (es.length + 1) (es.flatMap FE.cells ++ (FE.mk (F, sc, cd) Aq cq Bq mq).cells)) (by repeat (first | exact List.Mem.head _ | apply List.Mem.tail)))
      subst e4
      have hr_ := rowO_more (.slice A4 (es.length + 1) c4) es ⟨(F, sc, cd), Aq, cq, Bq, mq⟩
      have H3 := H.want (l' := [.row 45 13 (.slice A4 (es.length + 1) c4) (es.length + 1) (es.flatMap FE.cells ++ (FE.mk (F, sc, cd) Aq cq Bq mq).cells), (FE.mk (F, sc, cd) Aq cq Bq mq).thing] ++ rowT es) (Want.take (by repeat (first | exact Pull.head | apply Pull.tail)) (Want.take (by repeat (first | exact Pull.head | apply Pull.tail)) (Want.done (by repeat (first | exact Suf.refl | apply Suf.cons)))))
      rw [show ∀ x y : Own, [x, y] ++ rowT es = [x] ++ (y :: rowT es) from fun _ _ => rfl, hr_, ← rowT_more] at H3
      have hlen_ : (es ++ [(⟨(F, sc, cd), Aq, cq, Bq, mq⟩ : FE)]).length = es.length + 1 := by simp
      have hm4 : L.length - m < L.length := by omega
      go_roundg (gk - 1)
      case measure => omega
      case rel => exact ⟨L.drop m, es ++ [⟨(F, sc, cd), Aq, cq, Bq, mq⟩], A4, c4, rfl, by simp, Aside0.mk ⟨by rw [← hlen_] at H3; exact H3, HA.out.2.1, by rw [HA.out.2.2]; omega, by rw [HA.out.2.2, hlen_]; omega, by rw [HA.out.1]; simp⟩⟩
theorem all_calls (W : World) (full : List Int) (hby : Byte8 full) (hl : full.length ≤ 10000000) (p : Bool) : Calls Tryd.prog 35 #[.string (strOfNums full), .bool p] W (AllEnd W p full) := by
 cases p with
 | false => exact all_goF W full hby hl
 | true =>
  cases hp : preOk full with
  | false => exact all_mis W full hby hl hp
  | true =>
   by_cases h24 : full.length < 24
   ·exact all_short W full hby hl hp h24
   ·exact all_goT W full hby hl hp (by omega) _ rfl
end Go.Proofs.YtjjfkmniffbgkaaDoor

/- SplitPlays, walked. (This text is printed by wip/gen/split12.py.) -/
namespace Go.Proofs.YtjjfkmniffbgkaaDoor
set_option linter.unusedVariables false
set_option linter.unusedSimpArgs false
open Go.RowKit Go.Proofs.YtjjfkmniffbgkaaDoorW.PrintWords Go.Proofs.YtjjfkmniffbgkaaDoorW.PrintLast Go.Proofs.YtjjfkmniffbgkaaDoorW.PrintMore Go.Proofs.YtjjfkmniffbgkaaDoor.QFrmA Go.Proofs.YtjjfkmniffbgkaaDoor.Given Go.Extern.Stop Go.Stop Go.Extern Go.Maps
attribute [local go_sem high] eqFault
theorem perm_rows (x : Own) (T2 B T1 : List Own) : (([x] ++ T2) ++ (B ++ (T1 ++ []))).Perm ([x] ++ (B ++ (T1 ++ T2))) := by
 rw [List.append_nil, List.append_assoc, ← List.append_assoc B T1 T2]
 exact List.perm_append_comm.append_left _
set_option maxHeartbeats 4000000 in
set_option maxRecDepth 100000 in
theorem plays_great (w : World) (A : Option Addr) (l : List Int) (c : Nat) (hR : ReadsInt w .u8 A l.length l) (hc : l.length ≤ c) (hby : Byte8 l) (p : Bool) (As : Option Addr) (ns : List Int) (cs : Nat) (hRs : ReadsInt w .u8 As ns.length ns) (hns : Byte8 ns) (often : Int) (ho : 0 ≤ often ∧ often ≤ 255) (hgv : GV w) (hg : 40000 < l.length ∨ 3000 < ns.length) : Calls Tryd.prog 9 #[.slice A l.length c, .bool p, .slice As ns.length cs, .int .u8 often] w fun e w' => e = .returned (.bool true) ∧ Below w.heap.size w w' := by
 refine of_post0 fun R hRR => ?_
 have HP := Lib.hid hRR
 have HGV := Lib.hid hgv
 have HR := Lib.hid (And.intro hR (And.intro hc hby))
 have HNS := Lib.hid (And.intro hRs hns)
 have HO := Lib.hid ho
 clear hRR hgv hR hc hby hRs hns ho
 have hc1 : decide ((40000 : Int) < (l.length : Int)) = true ∨ (decide ((40000 : Int) < (l.length : Int)) = false ∧ decide ((3000 : Int) < (ns.length : Int)) = true) := by
  by_cases h : 40000 < l.length
  ·exact .inl (decide_eq_true (by omega))
  ·exact .inr ⟨decide_eq_false (by omega), decide_eq_true (by omega)⟩
 have hc2 : decide (40000 < l.length) = decide ((40000 : Int) < (l.length : Int)) := by rw [decide_eq_decide]; omega
 have hc3 : decide (3000 < ns.length) = decide ((3000 : Int) < (ns.length : Int)) := by rw [decide_eq_decide]; omega
 rcases hc1 with h1 | ⟨h1, h2⟩
 all_goals
  try rw [h2] at hc3
  rw [h1] at hc2
  clear hg
  have H : Hold w w [] [] := Hold.nothing (Kept.refl _ _)
  go_enter Tryd.func9, Tryd.ntmps9
  go_wp2_with (first
   | (go_at_call 32; refine (fixed8_calls _ (GV.below HGV.out H.all)).mono ?_; rintro e_ w_ ⟨rfl, h_⟩; replace H := H.below h_; clear h_))
  exact HP.out _ _ ⟨rfl, H.all⟩
set_option maxHeartbeats 4000000 in
set_option maxRecDepth 100000 in
theorem plays_main (w : World) (A : Option Addr) (l : List Int) (c : Nat) (hR : ReadsInt w .u8 A l.length l) (hc : l.length ≤ c) (hby : Byte8 l) (p : Bool) (As : Option Addr) (ns : List Int) (cs : Nat) (hRs : ReadsInt w .u8 As ns.length ns) (hns : Byte8 ns) (often : Int) (ho : 0 ≤ often ∧ often ≤ 255) (hgv : GV w) (h1 : l.length ≤ 40000) (h2 : ns.length ≤ 3000) : Calls Tryd.prog 9 #[.slice A l.length c, .bool p, .slice As ns.length cs, .int .u8 often] w fun e w' => e = .returned (.bool true) ∧ Below w.heap.size w w' := by
 refine of_post0 fun R hRR => ?_
 have HP := Lib.hid hRR
 have HGV := Lib.hid hgv
 have HR := Lib.hid (And.intro hR (And.intro hc hby))
 have HNS := Lib.hid (And.intro hRs hns)
 have HO := Lib.hid ho
 clear hRR hgv hR hc hby hRs hns ho
 have d1 : decide ((40000 : Int) < (l.length : Int)) = false := decide_eq_false (by omega)
 have d2 : decide (40000 < l.length) = false := decide_eq_false (by omega)
 have d3 : decide ((3000 : Int) < (ns.length : Int)) = false := decide_eq_false (by omega)
 have d4 : decide (3000 < ns.length) = false := decide_eq_false (by omega)
 have HLL := Lib.hid h1
 clear h1 h2
 have H : Hold w w [] [] := Hold.nothing (Kept.refl _ _)
 go_enter Tryd.func9, Tryd.ntmps9
 go_upto_region 6 with (first
  | (go_at_call 33; refine (new_split _ p).mono ?_; rintro e_ w_ ⟨g, rfl, h_⟩; replace H := Hold.push H h_; clear h_)
  | (go_at_call 34; refine (play_calls w _ g [] HGV.out p l HR.out.2.2 (by have := HLL.out; omega) A c HR.out.2.1 (fun W' l' h => (List.append_nil l' ▸ h).reads0 HR.out.1) As cs ns HNS.out.2 (fun W' l' h => (List.append_nil l' ▸ h).reads0 HNS.out.1) often HO.out H).mono ?_; rintro e_ w_ ⟨vs, vo, es, s, rfl, ⟨A1, c1, rfl⟩, h_, hsets, hlen, hbb, hble, hnx, hall⟩; replace H := h_; have HPL := Lib.hid (And.intro hsets (And.intro hlen (And.intro hbb (And.intro hble (And.intro hnx hall))))); clear h_ hsets hlen hbb hble hnx hall)
  | ((with_reducible refine is_conv rfl ?_); refine convr_h rfl rfl rfl (HR.out.1.below H.all) Tryd.underlying35 Tryd.underlying5 Tryd.underlying9 ?_)
  | (go_at_call 35; refine (all_calls _ l HR.out.2.2 (by have := HLL.out; omega) p).mono ?_; rintro e_ w_ ⟨vo2, es2, he_, hv_, h_, hx_⟩; rw [HPL.out.2.2.2.2.2] at he_ hx_; obtain ⟨A2, c2, rfl⟩ := hv_; subst he_; have HX2 := Lib.hid hx_; replace H := (Hold.push H h_).perm (perm_rows _ _ _ _); clear h_ hx_))
 go_upto_region 8 with (first
  | (go_at_call 36; refine (same8_calls _ _ _ es es2 undef undef ⟨_, _, rfl⟩ ⟨_, _, rfl⟩ (H.frames (v := .slice A1 es.length c1) (es := es) (by repeat (first | exact List.Mem.head _ | apply List.Mem.tail)) (fun o ho => by repeat (first | exact ho | exact List.mem_append_left _ ho | apply List.mem_append_right | apply List.Mem.tail))) (H.frames (v := .slice A2 es2.length c2) (es := es2) (by repeat (first | exact List.Mem.head _ | apply List.Mem.tail)) (fun o ho => by repeat (first | exact ho | exact List.mem_append_left _ ho | apply List.mem_append_right | apply List.Mem.tail))) HX2.out.symm HPL.out.1 (by have := HPL.out.2.1; have := HLL.out; omega)).mono ?_; rintro e_ w_ ⟨rfl, h_⟩; replace H := H.below h_; clear h_)
  | (go_at_call 37; refine (bad_calls _ g _ _ _ (H.blk (by repeat (first | exact List.Mem.head _ | apply List.Mem.tail)))).mono ?_; rintro e_ w_ ⟨rfl, h_⟩; replace H := H.below h_; clear h_)
  | (go_at_call 38; refine (held_calls _ g _ s (H.sp (s := s) (by repeat (first | exact List.Mem.head _ | apply List.Mem.tail)) (by repeat (first | exact List.Mem.head _ | apply List.Mem.tail)))).mono ?_; rintro e_ w_ ⟨rfl, h_⟩; replace H := H.below h_; clear h_))
 go_upto_region 9 with (first
  | (go_at_call 39; have hnx_ := next_calls _ g _ s (H.sp (s := s) (by repeat (first | exact List.Mem.head _ | apply List.Mem.tail)) (by repeat (first | exact List.Mem.head _ | apply List.Mem.tail))) (Hold.gv H HGV.out (Want.take (by repeat (first | exact Pull.head | apply Pull.tail)) (Want.take (by repeat (first | exact Pull.head | apply Pull.tail)) (Want.done (by repeat (first | exact Suf.refl | apply Suf.cons)))))) HPL.out.2.2.1 HPL.out.2.2.2.1; rw [HPL.out.2.2.2.2.1] at hnx_; simp only [Option.getD_none, Option.isSome_none] at hnx_; refine hnx_.mono ?_; clear hnx_; rintro e_ w_ ⟨vs4, Ap, cp, Bp, mp, rfl, h_⟩; replace H := Hold.call (H.pull2 (by repeat (first | exact Pull.head | apply Pull.tail)) (by repeat (first | exact Pull.head | apply Pull.tail))) h_; clear h_)
  | ((with_reducible refine is_alloc (ty := 38) rfl ?_); refine alloc_h H rfl rfl (cs := (frC ⟨0, 0, 0, [], 0, 0, 0, 0, false, 0, []⟩ nilS nilS).toList) (by first | (go_simp; done) | (go_simp; rfl)) ?_; clear H; intro gF w_ H)
  | ((with_reducible refine is_alloc (ty := 24) rfl ?_); refine alloc_h H rfl rfl (cs := [.int .u8 0, .int .u32 0]) (by first | (go_simp; done) | (go_simp; rfl)) ?_; clear H; intro gE w_ H)
  | ((with_reducible refine is_store (ty := 38) rfl ?_); refine store_h H rfl rfl rfl rfl (u := .agg (frC zeroF (.slice Ap 0 cp) (.slice Bp 0 mp))) rfl (by repeat (first | exact Put.head | apply Put.tail)) (by kernel_rfl) (Nat.le_of_ble_eq_true rfl) rfl ?_; clear H; intro w_ H; simp only [setC, Value.cells, List.toList_toArray] at H)
  | ((with_reducible refine is_store (ty := 24) rfl ?_); refine store_h H rfl rfl rfl rfl (u := .agg #[.int .u8 0, .int .u32 0]) rfl (by repeat (first | exact Put.head | apply Put.tail)) (by kernel_rfl) (Nat.le_of_ble_eq_true rfl) rfl ?_; clear H; intro w_ H; simp only [setC, Value.cells, List.toList_toArray] at H))
 obtain ⟨sb, sw, sy⟩ := s
 cases sy
 all_goals
  go_wp2_with (first
   | (go_at_call 32; refine (fixed8_calls _ (GV.below HGV.out H.all)).mono ?_; rintro e_ w_ ⟨rfl, h_⟩; replace H := H.below h_; clear h_)
   | ((with_reducible refine is_load (ty := 24) rfl ?_); refine load_g H rfl rfl (by repeat (first | exact List.Mem.head _ | apply List.Mem.tail)) (by kernel_rfl) (by kernel_rfl) (by rfl) ?_)
   | ((with_reducible refine is_load rfl ?_); refine loadf_g H rfl rfl (by repeat (first | exact List.Mem.head _ | apply List.Mem.tail)) rfl (by kernel_rfl) (by rfl) ?_)
   | (go_at_call 40; refine (feed_bad _ g _ ⟨sb, sw, true⟩ (H.sp (s := ⟨sb, sw, true⟩) (by repeat (first | exact List.Mem.head _ | apply List.Mem.tail)) (by repeat (first | exact List.Mem.head _ | apply List.Mem.tail))) rfl _ _ _).mono ?_; rintro e_ w_ ⟨rfl, h_⟩; replace H := H.below h_; clear h_))
  exact HP.out _ _ ⟨rfl, H.all⟩
theorem splitPlays_walk (w : World) (A : Option Addr) (l : List Int) (c : Nat) (hR : ReadsInt w .u8 A l.length l) (hc : l.length ≤ c) (hby : Byte8 l) (p : Bool) (As : Option Addr) (ns : List Int) (cs : Nat) (hRs : ReadsInt w .u8 As ns.length ns) (hns : Byte8 ns) (often : Int) (ho : 0 ≤ often ∧ often ≤ 255) (hgv : GV w) : Calls Tryd.prog 9 #[.slice A l.length c, .bool p, .slice As ns.length cs, .int .u8 often] w fun e w' => e = .returned (.bool true) ∧ Below w.heap.size w w' := by
 by_cases h1 : l.length ≤ 40000
 ·by_cases h2 : ns.length ≤ 3000
  ·exact plays_main w A l c hR hc hby p As ns cs hRs hns often ho hgv h1 h2
  ·exact plays_great w A l c hR hc hby p As ns cs hRs hns often ho hgv (.inr (by omega))
 ·exact plays_great w A l c hR hc hby p As ns cs hRs hns often ho hgv (.inl (by omega))
end Go.Proofs.YtjjfkmniffbgkaaDoor

/- A row of bytes that came in, opened. -/
namespace Go.Proofs.YtjjfkmniffbgkaaDoor
set_option linter.unusedVariables false
set_option linter.unusedSimpArgs false
open Go.RowKit Go.ChangeShapes Go.WideShapes Go.Deep Go.Joins Go.Proofs.YtjjfkmniffbgkaaDoorW.PrintWords
set_option maxRecDepth 100000 in
theorem open_bytes_arg {H : Type} {enc : TypeId × Value → H} {W : World} {b0 : Nat} {v : Value} {d : DataW H} {p : List MemPlace} (hv : Value.okWide Tryd.prog W .any b0 35 v)
  (h : DataW.Trod enc Tryd.prog W 0 (fun _ => true) true 35 v d p) : ∃ (A : Option Addr) (l : List Int) (c : Nat), v = .slice A l.length c ∧ ReadsInt W .u8 A l.length l ∧ l.length ≤ c ∧ ∀ x ∈ l, 0 ≤ x ∧ x ≤ 255 := by
 obtain ⟨A, n, cap, rfl⟩ := okWide_slice Tryd.underlying35 hv
 obtain ⟨fuel, hf⟩ := h
 have e1 : Tryd.prog.cellsOf 5 = 1 := by kernel_rfl
 have wf8 : ∀ {n : Int}, (Lit.int .u8 n).wf = true → 0 ≤ n ∧ n ≤ 255 := fun h => by simp [Lit.wf, IntKind.min, IntKind.max, IntKind.signed, IntKind.bits] at h; omega
 rcases open_ints Tryd.underlying35 Tryd.underlying5 e1 hf with ⟨hc, _⟩ | ⟨a, len, cap', zs, hc, _, g1, g2, g3, _, g4, g5⟩
 ·simp [Value.cells] at hc
  obtain ⟨rfl, rfl, rfl⟩ := hc
  obtain ⟨l, hl1, hr, hm, hw, hcc⟩ := ReadsInt.ofRowC (w := W) (k := .u8) (a := none) (len := 0) (cap := 0) (zs := []) (.inl ⟨rfl, rfl, rfl, rfl⟩)
  exact ⟨none, l, 0, by rw [← hl1], hr, hcc, fun x hx => wf8 (hw x hx)⟩
 ·simp [Value.cells] at hc
  obtain ⟨rfl, rfl, rfl⟩ := hc
  obtain ⟨l, hl1, hr, hm, hw, hcc⟩ := ReadsInt.ofRowC (.inr ⟨a, rfl, g1, g2, by simpa using g3, g4, g5⟩)
  exact ⟨some a, l, cap, by rw [← hl1], hr, hcc, fun x hx => wf8 (hw x hx)⟩
end Go.Proofs.YtjjfkmniffbgkaaDoor

/- From the row's list to the cell of errors.errorType; bounds of numbers that came in. -/
namespace Go.Proofs.YtjjfkmniffbgkaaDoor
set_option linter.unusedVariables false
set_option linter.unusedSimpArgs false
open Go.RowKit
theorem Tryd.et : Tryd.prog.globalNamed "errors.errorType" = some 1 := by kernel_rfl
theorem Tryd.rt : (Tryd.prog.cutTypes.find? (·.1 == "internal/reflectlite.rtype")).map (·.2) = some 130 := by kernel_rfl
theorem Tryd.oneRow : ((List.range 182).filter fun t => Tryd.prog.rowNamed t [101, 114, 114, 111, 114]) = [28] := by kernel_rfl
theorem Tryd.sizeT : Tryd.prog.types.size = 182 := by kernel_rfl
theorem gv_of_laid {W : World} (h : laidMetH Tryd.prog [("errors.errorType", Rows.laid_errors_errorType)] W) : GV W := by
 have h' : laidMet Tryd.prog [] W ∧ handlesMet Tryd.prog [("errors.errorType", Rows.laid_errors_errorType)] W := h
 obtain ⟨name, u, ty, e1, e2, e3, e4, e5⟩ := h'.2 _ (List.mem_singleton.2 rfl)
 have en : name = [101, 114, 114, 111, 114] := (Option.some.inj e1).symm
 subst en
 obtain rfl := Option.some.inj (Tryd.rt.symm.trans e2)
 have hm : ty ∈ (List.range 182).filter fun t => Tryd.prog.rowNamed t [101, 114, 114, 111, 114] := List.mem_filter.2 ⟨List.mem_range.2 (by rw [← Tryd.sizeT]; exact e3), e4⟩
 rw [Tryd.oneRow] at hm
 obtain rfl := List.mem_singleton.1 hm
 have hh : typeHandle Tryd.prog 28 = hOf 28 := by kernel_rfl
 rw [hh] at e5
 unfold GV
 simpa using World.var?_cell Tryd.et e5 0
theorem u8_ge {n : Int} (h : (Lit.int .u8 n).wf = true) : 0 ≤ n := by simp [Lit.wf, IntKind.min, IntKind.max, IntKind.signed, IntKind.bits] at h; omega
theorem u8_le {n : Int} (h : (Lit.int .u8 n).wf = true) : n ≤ 255 := by simp [Lit.wf, IntKind.min, IntKind.max, IntKind.signed, IntKind.bits] at h; omega
end Go.Proofs.YtjjfkmniffbgkaaDoor

/- The statement of louver/louverlaw08.SplitPlays: for every input it returns true, and each argument reads behind the call as it read before; no other condition than the row's own. -/
namespace Go.Proofs.YtjjfkmniffbgkaaDoor.splitPlays
set_option linter.unusedVariables false
set_option linter.unusedSimpArgs false
open Go.ChangeShapes Go.WideShapes Go.ChangeAt Go.RowKit
open Go.ChangeMaps (open_string shut_string)
set_option linter.unusedVariables false
theorem own : ownKnob Tryd.prog.godebug = none := by kernel_rfl
theorem laidOut : laidOutB Tryd.prog = true := by kernel_rfl
set_option maxRecDepth 100000 in
theorem contract (H : Type) (enc : TypeId × Value → H) (W : World) (base : Nat) (args : Array Value) (ds gs : List (DataW H)) (before : List MemPlace)
  (hval : ∀ (j : Nat) t v, Tryd.f9.params[j]? = some t → args[j]? = some v → Value.okWide Tryd.prog W .any base t v)
  (hW : DataW.Whole enc Tryd.prog Tryd.f9.params.toList Rows.splitPlaysSpec.vars false W args.toList ds gs before)
  (hsz : (DataW.weightsEach Tryd.prog (Tryd.f9.params.toList ++ Rows.splitPlaysSpec.plain.varTypes Tryd.prog) (ds ++ gs)).all (· ≤ reachBytes) = true)
  (hL : laidMetH Tryd.prog Rows.splitPlaysRow.laid W) (hS : W.ShapedOpen Tryd.prog) :
  Calls Tryd.prog 9 args W fun e W' => ∃ v, e = .returned v ∧ Rows.splitPlaysSpec.post enc Tryd.prog Tryd.f9 false true false false W args v W' := by
 have hW' := hW
 obtain ⟨p, q, hA0, hV, rfl, hfz, hnd⟩ := hW
 have hA : DataW.TrodAll enc Tryd.prog W 0 (fun _ => true) true Tryd.f9.params.toList args.toList ds p := hA0
 rw [Tryd.params9] at hA hval hsz
 obtain ⟨v0, vs0, d0, ds0, p0, q0, hargs, rfl, rfl, h0, r0⟩ := trodAll_cons hA
 obtain ⟨v1, vs1, d1, ds1, p1, q1, rfl, rfl, rfl, h1, r1⟩ := trodAll_cons r0
 obtain ⟨v2, vs2, d2, ds2, p2, q2, rfl, rfl, rfl, h2, r2⟩ := trodAll_cons r1
 obtain ⟨v3, vs3, d3, ds3, p3, q3, rfl, rfl, rfl, h3, r3⟩ := trodAll_cons r2
 obtain ⟨rfl, rfl, rfl⟩ := trodAll_nil r3
 obtain rfl : args = #[v0, v1, v2, v3] := by cases args; simp_all
 obtain ⟨rfl, rfl⟩ := trodVars_none hV
 have k0 := h0
 have ok0 := (hval 0 35 v0 rfl rfl)
 have lt0 : ∀ x ∈ p0, x.block < W.heap.size := by obtain ⟨m, hm⟩ := k0; exact DataW.trod_lt m _ _ _ hm
 obtain ⟨a1, rfl, rfl, rfl⟩ := open_bool Tryd.underlying4 (hval 1 4 v1 rfl rfl) h1
 have k2 := h2
 have ok2 := (hval 2 35 v2 rfl rfl)
 have lt2 : ∀ x ∈ p2, x.block < W.heap.size := by obtain ⟨m, hm⟩ := k2; exact DataW.trod_lt m _ _ _ hm
 obtain ⟨a3, rfl, rfl, rfl, w3⟩ := open_int Tryd.underlying5 (hval 3 5 v3 rfl rfl) h3
 obtain ⟨A0, l0, c0, rfl, hR0, hc0, hb0⟩ := open_bytes_arg ok0 h0; obtain ⟨A2, l2, c2, rfl, hR2, hc2, hb2⟩ := open_bytes_arg ok2 h2
 clear hA0 hval
 refine (splitPlays_walk W A0 l0 c0 hR0 hc0 hb0 a1 A2 l2 c2 hR2 hb2 a3 ⟨u8_ge w3, u8_le w3⟩ (gv_of_laid hL)).mono fun e W' ⟨he, bel⟩ => ?_
 subst he
 exact ⟨_, rfl, _, _, _, [], _, [], hW', trodAll_mk1 (shut_bool Tryd.underlying4 _), (trodAll_cons_mk (Below.trod laidOut (by kernel_rfl) (of_decide_eq_true (by kernel_rfl)) k0 bel lt0) (trodAll_cons_mk (shut_bool Tryd.underlying4 _) (trodAll_cons_mk (Below.trod laidOut (by kernel_rfl) (of_decide_eq_true (by kernel_rfl)) k2 bel lt2) (trodAll_cons_mk (shut_int Tryd.underlying5 w3) trodAll_mk0)))), rfl, bel.frame _, fun h => by cases h⟩
noncomputable def laidWorld (os : Os) : World :=
 { World.holding Tryd.prog os ⟨#[], #[], []⟩ with heap := (World.holding Tryd.prog os ⟨#[], #[], []⟩).heap.modify 1 fun
   | .cells _ t frozen => .cells #[.iface 130 (.agg #[.pointer (some ⟨5, 28, none⟩)])] t frozen
   | o => o }
set_option maxRecDepth 100000 in
theorem laid_met (os : Os) (args : Array Value) : laidMetH Tryd.prog Rows.splitPlaysRow.laid ((laidWorld os).forCall (fun _ _ => 0) ⟨#[], args, []⟩).memory := laidMetH_of_parts (laidMet_nil _ _) (by kernel_rfl)
set_option maxRecDepth 100000 in
theorem lifted (os : Os) (started : os.Started) (H : Type) (enc : TypeId × Value → H) (F : Stop.Interp) :
  ReturnsInHanded {} Tryd.checked os 9 .any ((OpenSpec.ofChange Rows.splitPlaysSpec).preRow enc Tryd.prog Tryd.f9 Rows.splitPlaysRow.domain false Rows.splitPlaysRow.laid) (((OpenSpec.ofChange Rows.splitPlaysSpec).at F).post enc Tryd.prog Tryd.f9 false true false false) := by
 refine returnsInHanded_of_row (C := Tryd.checked) (s := (OpenSpec.ofChange Rows.splitPlaysSpec)) own started (by kernel_rfl) Tryd.func9
  (witness_row_at (enc := enc) (C := Tryd.checked) false (laidWorld os) #[.slice none 0 0, .bool false, .slice none 0 0, .int .u8 0] rfl (by kernel_rfl) (by kernel_rfl) (by kernel_rfl)
   (OpenSpec.preRow_of_cond 8 (x := ([.nil, .lit (.bool false), .nil, .lit (.int .u8 0)], [], [])) (by kernel_rfl) (by kernel_rfl) (fun k hk => by cases hk) (by kernel_rfl) (laid_met os _))) ?_
 intro W base args ds gs before hval hW _ hcond hsz hL hS _
 exact contract H enc W base args ds gs before hval hW hsz hL hS
theorem said : Rows.SplitPlaysSaid :=
 OpenClaim.holds_of_cond 9 Tryd.f9 rfl rfl rfl rfl rfl rfl rfl ⟨rfl, rfl, rfl, rfl, rfl⟩ rfl rfl rfl rfl rfl (by kernel_rfl) Tryd.func9 (by kernel_rfl)
  (of_decide_eq_true (by kernel_rfl)) (by unfold Func.isWrapper; first | (rw [if_pos (by decide +kernel)]; kernel_rfl) | (rw [if_neg (by decide +kernel)]; exact ⟨rfl, rfl⟩))
  (fun os started H enc _ F => by rw [OpenClaim.pre_eq_preRow]; exact lifted os started H enc F)
theorem plain (f : FuncId) (fn : Func) (hf : Tryd.pinned.checked.prog.funcNamed "louver/louverlaw08.SplitPlays" = some f) (hfn : Tryd.pinned.checked.prog.funcs[f]? = some fn) :
  true = Tryd.pinned.checked.prog.looks [] ∧ ∀ (j : Nat) t, fn.params[j]? = some t → Tryd.pinned.checked.prog.wantsStandIn t = false := by
 obtain rfl : f = 9 := Option.some.inj ((show Tryd.prog.funcNamed "louver/louverlaw08.SplitPlays" = some 9 by kernel_rfl).symm.trans hf) |>.symm
 obtain rfl : fn = Tryd.f9 := (Option.some.inj (Tryd.func9.symm.trans hfn)).symm
 refine ⟨by kernel_rfl, fun j t ht => ?_⟩
 rw [Tryd.params9] at ht
 have hm := Array.mem_of_getElem? ht
 have hall : ∀ t ∈ #[35, 4, 35, 5], Tryd.prog.wantsStandIn t = false := by intro t h; simp only [List.mem_toArray, List.mem_cons, List.not_mem_nil, or_false] at h; rcases h with rfl | rfl | rfl | rfl <;> kernel_rfl
 exact hall t hm
theorem card : Rows.SplitPlaysCardSaid :=
 Claim7.holds_tied_plain_at .later [] _ _ _ _ said (fun _ h => by cases h) (by kernel_rfl) (fun _ h => by cases h) splitPlays_row_tie rfl ⟨rfl, rfl⟩ (by kernel_rfl) rfl plain (by kernel_rfl)
#print axioms card
end Go.Proofs.YtjjfkmniffbgkaaDoor.splitPlays
