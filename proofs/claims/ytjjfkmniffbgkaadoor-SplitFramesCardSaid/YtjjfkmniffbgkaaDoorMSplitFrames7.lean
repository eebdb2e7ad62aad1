/- Texts of this claim, put together: Rf6, RfSame, RfNum, Ev2, Hold, Hold2. -/
import Derived.Test.YtjjfkmniffbgkaaDoorMSplitFrames6
import Derived.Test.YtjjfkmniffbgkaaDoorMSplitFramesW2
import Derived.Test.YtjjfkmniffbgkaaDoorMSplitFrames2
import Derived.Test.YtjjfkmniffbgkaaDoorMSplitFrames0
/- The reference of frames: Get, walked: the longer ways. (This text is printed by wip/gen/rf5_get.py.) -/
namespace Go.Proofs.YtjjfkmniffbgkaaDoor
set_option linter.unusedVariables false
set_option linter.unusedSimpArgs false
open Go.RowKit Go.Proofs.YtjjfkmniffbgkaaDoorW.PrintWords Go.Proofs.YtjjfkmniffbgkaaDoorW.PrintLast Go.Proofs.YtjjfkmniffbgkaaDoorW.PrintMore Go.Proofs.YtjjfkmniffbgkaaDoor.QFrmA Go.Proofs.YtjjfkmniffbgkaaDoor.Given Go.Extern.Stop Go.Stop Go.Extern Go.Maps
set_option maxHeartbeats 8000000 in
set_option maxRecDepth 100000 in
theorem rget_main (w : World) (l : List Int) (hby : Byte8 l) (h9 : 9 ≤ l.length) (hl : l.length ≤ 20000000) (hn : headN l = (l.length : Int)) : Calls Tryd.prog 26 #[.string (strOfNums l)] w (RGetPost w (getFr l)) := by
 refine of_post0 fun R hRR => ?_
 have HP := Lib.hid hRR
 have hsz := str_size l
 have c1 : decide (((strOfNums l).size : Int) < 9) = false := by rw [decide_eq_false_iff_not]; omega
 have c2 : decide ((strOfNums l).size < 9) = false := by rw [decide_eq_false_iff_not]; omega
 have hl3 : (l.take 3).length = 3 := by rw [List.length_take]; omega
 have hb3 : Byte8 (l.take 3) := fun x hx => hby x (List.mem_of_mem_take hx)
 have f3 := fun W => run_to_str l 3 (by decide) (by omega) W
 rw [show (3 : Int).toNat = 3 from rfl] at f3
 have HV := Lib.hid (fun W => value_ref_calls W (l.take 3) (by omega) hb3)
 have hv3 := valL_bound hb3
 rw [hl3, show (256 : Int) ^ 3 = 16777216 from rfl] at hv3
 have hw3 : IntKind.i64.wrap (valL (l.take 3)) = valL (l.take 3) := by simp [IntKind.wrap, IntKind.bits, IntKind.signed]; omega
 have hne : ((l.length : Int) - 9 != valL (l.take 3)) = false := by
  rw [bne_eq_false_iff_eq]
  unfold headN at hn
  rw [if_neg (by omega)] at hn
  omega
 have hw9 : wrap64 ((l.length : Int) - 9) = (l.length : Int) - 9 := wrap_okF (by omega) (by omega)
 have hl59 : ((l.take 9).drop 5).length = 4 := by rw [List.length_drop, List.length_take]; omega
 have hb59 : Byte8 ((l.take 9).drop 5) := fun x hx => hby x (List.mem_of_mem_take (List.mem_of_mem_drop hx))
 have f59 := fun W => run_cut_str l 5 9 (by decide) (by decide) (by omega) W
 have f9 := fun W => run_from_str l 9 (by decide) (by omega) W
 have i3 := fun W => run_index_str hby 3 (by decide) (by omega) W
 have i4 := fun W => run_index_str hby 4 (by decide) (by omega) W
 rw [show (5 : Int).toNat = 5 from rfl, show (9 : Int).toNat = 9 from rfl] at f59
 rw [show (9 : Int).toNat = 9 from rfl] at f9
 rw [show (3 : Int).toNat = 3 from rfl] at i3
 rw [show (4 : Int).toNat = 4 from rfl] at i4
 have HV59 := Lib.hid (fun W => value_ref_calls W ((l.take 9).drop 5) (by omega) hb59)
 have HV0 := Lib.hid (valL_bound hb59).1
 have HG := Lib.hid (show getFr l = if 16384 < (l.drop 9).length then (⟨l.getD 3 0, l.getD 4 0, valL ((l.take 9).drop 5) % 2147483648, [], -1, 0, 0, 0, false, 0, []⟩, 1, 6) else if stBad (l.getD 3 0) (valL ((l.take 9).drop 5) % 2147483648) = true then (⟨l.getD 3 0, l.getD 4 0, valL ((l.take 9).drop 5) % 2147483648, [], -1, 0, 0, 0, false, 0, []⟩, 1, 1)
   else match readR ⟨l.getD 3 0, l.getD 4 0, valL ((l.take 9).drop 5) % 2147483648, [], -1, 0, 0, 0, false, 0, []⟩ (l.drop 9) with
    | .bad s c => (⟨l.getD 3 0, l.getD 4 0, valL ((l.take 9).drop 5) % 2147483648, [], -1, 0, 0, 0, false, 0, []⟩, s, c)
    | .ok F => (F, 0, 0) by
  unfold getFr
  rw [if_neg (by simp [hn]; omega)]
  have e : (16393 < l.length) = (16384 < (l.drop 9).length) := by rw [List.length_drop]; exact propext ⟨fun h => by omega, fun h => by omega⟩
  simp only [e]
  rfl)
 have HF := Lib.hid (show 0 ≤ l.getD 4 0 ∧ l.getD 4 0 ≤ 255 by
  rw [List.getD_eq_getElem?_getD, List.getElem?_eq_getElem (by omega)]
  exact hby _ (List.getElem_mem _))
 have HD := Lib.hid (And.intro (show Byte8 (l.drop 9) from fun x hx => hby x (List.mem_of_mem_drop hx)) (show (l.drop 9).length ≤ 20000000 by rw [List.length_drop]; omega))
 clear hRR h9 hn hl hl3 hb3 hby hv3 hl59 hb59
 generalize strOfNums l = s at c1 c2 hsz f3 f59 f9 i3 i4 ⊢
 generalize valL (l.take 3) = v3 at HV hw3 hne
 generalize strOfNums (l.take 3) = s3 at f3 HV
 generalize valL ((l.take 9).drop 5) = v59 at HV59 HV0 HG
 generalize strOfNums ((l.take 9).drop 5) = s59 at f59 HV59
 generalize l.getD 3 0 = ty at i3 HG
 generalize l.getD 4 0 = fl at i4 HG HF
 generalize l.drop 9 = b at f9 HG HD
 generalize getFr l = G at HP HG
 generalize l.length = n at hsz hne hw9
 subst hsz
 obtain ⟨st, hst⟩ : ∃ st, v59 % 2147483648 = st := ⟨_, rfl⟩
 rw [hst] at HG
 have V := Aside0.mk (Below.refl w.heap.size w)
 go_enter Tryd.func26, Tryd.ntmps26
 go_upto_region 4 with (first
  | (refine gate_alloc 2 rfl rfl ?_; refine make_ev rfl (cs := fC ⟨0, 0, 0, [], 0, 0, 0, 0, false, 0, []⟩ nilS nilS 0 0) (t := 45) (by first | (go_simp; done) | (go_simp; rfl)) ?_; intro gr hg_ w0_ k_ z_ b_; have Mr := Aside0.mk (show w.heap.size ≤ gr by rw [hg_]; exact V.out.size); have q0_ := Aside0.mk (V.out.trans (b_.mono V.out.size)); clear V; have V := q0_; clear q0_; have Kr := Aside0.mk k_; clear hg_ k_ z_ b_)
  | (refine gate_alloc 3 rfl rfl ?_; refine make_ev rfl (cs := fC ⟨0, 0, 0, [], 0, 0, 0, 0, false, 0, []⟩ nilS nilS 0 0) (t := 45) (by first | (go_simp; done) | (go_simp; rfl)) ?_; intro gn hg_ w1_ k_ z_ b_; have Nr_n := Aside0.mk (show gr ≠ gn by rw [hg_]; exact Nat.ne_of_lt (blk_lt Kr.out)); have Mn := Aside0.mk (show w.heap.size ≤ gn by rw [hg_]; exact V.out.size); have q0_ := Aside0.mk (blk_below Kr.out b_); have q1_ := Aside0.mk (V.out.trans (b_.mono V.out.size)); clear Kr; clear V; have Kr := q0_; have V := q1_; clear q0_ q1_; have Kn := Aside0.mk k_; clear hg_ k_ z_ b_)
  | (refine gate_stored (t := 45) (p := .tmp 3) rfl ?_; refine store_ev rfl rfl rfl (g := gn) (k := 0) (u := (.agg (fC noneF nilS nilS 0 0))) (cs' := fC noneF nilS nilS 0 0) rfl rfl Kn.out (by kernel_rfl) (Nat.le_of_ble_eq_true rfl) rfl rfl ?_; intro w2_ k_ o_; have q0_ := Aside0.mk (o_.blk Kr.out Nr_n.out); have q1_ := Aside0.mk (k_); have q2_ := Aside0.mk (o_.below V.out Mn.out); clear Kr; clear Kn; clear V; have Kr := q0_; have Kn := q1_; have V := q2_; clear q0_ q1_ q2_; clear k_ o_)
  | (go_at_call 29; (with_reducible refine (HV.out _).mono ?_); rintro e_ w3_ ⟨rfl, h_⟩; have b_ := h_.below; have q0_ := Aside0.mk (blk_below Kr.out b_); have q1_ := Aside0.mk (blk_below Kn.out b_); have q2_ := Aside0.mk (V.out.trans (b_.mono V.out.size)); clear Kr; clear Kn; clear V; have Kr := q0_; have Kn := q1_; have V := q2_; clear q0_ q1_ q2_; clear b_ h_))
 (try simp only [Act.put, putA, putB, putC])
 go_cut [4] (fun v4 wc => ∃ gf, v4 = .pointer (some ⟨gf, 0, none⟩) ∧ Aside0 (wc.heap[gr]? = some (.cells (fC ⟨0, 0, 0, [], 0, 0, 0, 0, false, 0, []⟩ nilS nilS 0 0) 45 (0, 0))) ∧ Aside0 (wc.heap[gn]? = some (.cells (fC noneF nilS nilS 0 0) 45 (0, 0))) ∧ Aside0 (wc.heap[gf]? = some (.cells (frC ⟨ty, fl, st, [], -1, 0, 0, 0, false, 0, []⟩ nilS nilS) 38 (0, 0))) ∧ Aside0 (Below w.heap.size w wc) ∧ Aside0 (w.heap.size ≤ gf) ∧ Aside0 (gr ≠ gf) ∧ Aside0 (gn ≠ gf))
 case first =>
  have q0_ := Aside0.mk (blk_below Kr.out (below_drew (Below.refl w3_.heap.size w3_)))
  have q1_ := Aside0.mk (blk_below Kn.out (below_drew (Below.refl w3_.heap.size w3_)))
  have q2_ := Aside0.mk (V.out.trans ((below_drew (Below.refl w3_.heap.size w3_)).mono V.out.size))
  clear Kr Kn V
  have Kr := q0_
  have Kn := q1_
  have V := q2_
  clear q0_ q1_ q2_
  refine start_ (n := 11) (S := fun w' => True) (ds := [10]) #[false, false, false, false, false, false, false, false, false, false, false] (by kernel_rfl) rfl rfl trivial (fun hHeld => ?_)
  generalize w3_.drew = wy at Kr Kn V hHeld ⊢
  refine pure_ (i := 0) (N := some 24) (v := ?_) (a' := ?_) #[true, false, false, false, false, false, false, false, false, false, false] rfl rfl (by kernel_rfl) (fun _ _ _ h => h) (Or.inl ⟨by rfl, ?_⟩) ?_ ?_
  rotate_left
  ·intro w'
   go_simp
   with_reducible rfl
  rotate_left
  ·simp only [Act.put, putA, putB, putC]
   rfl
  refine pure_ (i := 1) (N := some 25) (v := ?_) (a' := ?_) #[true, true, false, false, false, false, false, false, false, false, false] rfl rfl (by kernel_rfl) (fun _ _ _ h => h) (Or.inl ⟨by rfl, ?_⟩) ?_ ?_
  rotate_left
  ·intro w'
   go_simp
   with_reducible rfl
  rotate_left
  ·simp only [Act.put, putA, putB, putC]
   rfl
  refine pure_ (i := 2) (N := some 26) (v := ?_) (a' := ?_) #[true, true, true, false, false, false, false, false, false, false, false] rfl rfl (by kernel_rfl) (fun _ _ _ h => h) (Or.inl ⟨by rfl, ?_⟩) ?_ ?_
  rotate_left
  ·intro w'
   go_simp
   with_reducible rfl
  rotate_left
  ·simp only [Act.put, putA, putB, putC]
   rfl
  refine pure_ (i := 3) (N := some 27) (v := ?_) (a' := ?_) #[true, true, true, true, false, false, false, false, false, false, false] rfl rfl (by kernel_rfl) (fun _ _ _ h => h) (Or.inl ⟨by rfl, ?_⟩) ?_ ?_
  rotate_left
  ·intro w'
   go_simp
   with_reducible rfl
  rotate_left
  ·simp only [Act.put, putA, putB, putC]
   rfl
  refine pure_ (i := 4) (N := some 28) (v := ?_) (a' := ?_) #[true, true, true, true, true, false, false, false, false, false, false] rfl rfl (by kernel_rfl) (fun _ _ _ h => h) (Or.inl ⟨by rfl, ?_⟩) ?_ ?_
  rotate_left
  ·intro w'
   go_simp
   with_reducible rfl
  rotate_left
  ·simp only [Act.put, putA, putB, putC]
   rfl
  refine pure_ (i := 5) (N := some 29) (v := ?_) (a' := ?_) #[true, true, true, true, true, true, false, false, false, false, false] rfl rfl (by kernel_rfl) (fun _ _ _ h => h) (Or.inl ⟨by rfl, ?_⟩) ?_ ?_
  rotate_left
  ·intro w'
   go_simp
   with_reducible rfl
  rotate_left
  ·simp only [Act.put, putA, putB, putC]
   rfl
  refine two_ (i := 6) (j := 9) (Ni := some 30) (Nj := some 4) #[true, true, true, true, true, true, true, false, false, false, false] #[true, true, true, true, true, true, false, false, false, true, false] rfl rfl rfl rfl (by kernel_rfl) (by decide) (by decide) (fun K hK => ?_) (fun K hK => ?_)
  ·refine goes_ Tryd.func29 (by kernel_rfl) rfl #[.string s59] (by rfl) rfl rfl (by (try simp only [List.map_toArray, List.map_cons, List.map_nil]); first | done | rfl) ?_
   refine (HV59.out _).mono ?_
   rintro e_ w4_ ⟨rfl, h_⟩
   have b_ := h_.below
   have q0_ := Aside0.mk (blk_below Kr.out b_)
   have q1_ := Aside0.mk (blk_below Kn.out b_)
   have q2_ := Aside0.mk (V.out.trans (b_.mono V.out.size))
   clear Kr
   clear Kn
   clear V
   have Kr := q0_
   have Kn := q1_
   have V := q2_
   clear q0_ q1_ q2_
   clear b_ h_
   refine ⟨_, rfl, ?_⟩
   refine hK.out _ _ trivial (fun hHeld => ?_)
   clear hK K
   refine norm_ (a' := ?_) ?_ ?_
   rotate_left
   ·show Act.put _ (some 30) _ = _
    simp only [Act.put, putA, putB, putC]
    rfl
   refine two_ (i := 7) (j := 9) (Ni := some 31) (Nj := some 4) #[true, true, true, true, true, true, true, true, false, false, false] #[true, true, true, true, true, true, true, false, false, true, false] rfl rfl rfl rfl (by kernel_rfl) (by decide) (by decide) (fun K hK => ?_) (fun K hK => ?_)
   ·refine goes_ Tryd.func55 (by kernel_rfl) rfl #[.int .u32 v59] (by rfl) rfl rfl (by (try simp only [List.map_toArray, List.map_cons, List.map_nil]); first | done | rfl) ?_
    refine (rlow_calls _ v59 HV0.out).mono ?_
    rintro e_ w5_ ⟨rfl, h_⟩
    have b_ := h_.below
    have q0_ := Aside0.mk (blk_below Kr.out b_)
    have q1_ := Aside0.mk (blk_below Kn.out b_)
    have q2_ := Aside0.mk (V.out.trans (b_.mono V.out.size))
    clear Kr
    clear Kn
    clear V
    have Kr := q0_
    have Kn := q1_
    have V := q2_
    clear q0_ q1_ q2_
    clear b_ h_
    refine ⟨_, rfl, ?_⟩
    refine hK.out _ _ trivial (fun hHeld => ?_)
    clear hK K
    refine norm_ (a' := ?_) ?_ ?_
    rotate_left
    ·show Act.put _ (some 31) _ = _
     simp only [Act.put, putA, putB, putC]
     rfl
    refine pure_ (i := 8) (N := some 32) (v := ?_) (a' := ?_) #[true, true, true, true, true, true, true, true, true, false, false] rfl rfl (by kernel_rfl) (fun _ _ _ h => h) (Or.inl ⟨by rfl, ?_⟩) ?_ ?_
    rotate_left
    ·intro w'
     go_simp
     with_reducible rfl
    rotate_left
    ·simp only [Act.put, putA, putB, putC]
     rfl
    refine one_ (i := 9) (N := some 4) #[true, true, true, true, true, true, true, true, true, true, false] rfl rfl (by kernel_rfl) (by decide) (fun K hK => ?_)
    refine make_ord rfl (cs := frC ⟨0, 0, 0, [], 0, 0, 0, 0, false, 0, []⟩ nilS nilS) (t := 38) (by first | (go_simp; done) | (go_simp; rfl)) ?_
    intro gf hg_ w6_ k_ z_ b_
    have Nr_f := Aside0.mk (show gr ≠ gf by rw [hg_]; exact Nat.ne_of_lt (blk_lt Kr.out))
    have Nn_f := Aside0.mk (show gn ≠ gf by rw [hg_]; exact Nat.ne_of_lt (blk_lt Kn.out))
    have Mf := Aside0.mk (show w.heap.size ≤ gf by rw [hg_]; exact V.out.size)
    have q0_ := Aside0.mk (blk_below Kr.out b_)
    have q1_ := Aside0.mk (blk_below Kn.out b_)
    have q2_ := Aside0.mk (V.out.trans (b_.mono V.out.size))
    clear Kr
    clear Kn
    clear V
    have Kr := q0_
    have Kn := q1_
    have V := q2_
    clear q0_ q1_ q2_
    have Kf := Aside0.mk k_
    clear hg_ k_ z_ b_
    refine hK.out _ _ trivial (fun hHeld => ?_)
    clear hK K
    refine norm_ (a' := ?_) ?_ ?_
    rotate_left
    ·show Act.put _ (some 4) _ = _
     simp only [Act.put, putA, putB, putC]
     rfl
    refine last_ (i := 10) (N := none) #[true, true, true, true, true, true, true, true, true, true, true] rfl rfl (by kernel_rfl) (by decide) (fun K hK => ?_)
    refine store_ord rfl rfl rfl (g := gf) (k := 0) (u := .agg (frC ⟨ty, fl, st, [], -1, 0, 0, 0, false, 0, []⟩ nilS nilS)) (cs' := frC ⟨ty, fl, st, [], -1, 0, 0, 0, false, 0, []⟩ nilS nilS) rfl rfl Kf.out (by kernel_rfl) (Nat.le_of_ble_eq_true rfl) rfl rfl ?_
    intro w_ k_ o_
    have q0_ := Aside0.mk (o_.blk Kr.out Nr_f.out)
    have q1_ := Aside0.mk (o_.blk Kn.out Nn_f.out)
    have q2_ := Aside0.mk (k_)
    have q3_ := Aside0.mk (o_.below V.out Mf.out)
    clear Kr
    clear Kn
    clear Kf
    clear V
    have Kr := q0_
    have Kn := q1_
    have Kf := q2_
    have V := q3_
    clear q0_ q1_ q2_ q3_
    clear k_ o_
    refine hK.out _ _ ?_
    clear hK K
    refine done_ (by kernel_rfl) ?_
    go_wp2_with fail
    go_meet
    case rel => exact ⟨gf, rfl, Kr, Kn, Kf, V, Mf, Nr_f, Nn_f⟩
   ·refine make_ord rfl (cs := frC ⟨0, 0, 0, [], 0, 0, 0, 0, false, 0, []⟩ nilS nilS) (t := 38) (by first | (go_simp; done) | (go_simp; rfl)) ?_
    intro gf hg_ w5_ k_ z_ b_
    have Nr_f := Aside0.mk (show gr ≠ gf by rw [hg_]; exact Nat.ne_of_lt (blk_lt Kr.out))
    have Nn_f := Aside0.mk (show gn ≠ gf by rw [hg_]; exact Nat.ne_of_lt (blk_lt Kn.out))
    have Mf := Aside0.mk (show w.heap.size ≤ gf by rw [hg_]; exact V.out.size)
    have q0_ := Aside0.mk (blk_below Kr.out b_)
    have q1_ := Aside0.mk (blk_below Kn.out b_)
    have q2_ := Aside0.mk (V.out.trans (b_.mono V.out.size))
    clear Kr
    clear Kn
    clear V
    have Kr := q0_
    have Kn := q1_
    have V := q2_
    clear q0_ q1_ q2_
    have Kf := Aside0.mk k_
    clear hg_ k_ z_ b_
    refine hK.out _ _ trivial (fun hHeld => ?_)
    clear hK K
    refine norm_ (a' := ?_) ?_ ?_
    rotate_left
    ·show Act.put _ (some 4) _ = _
     simp only [Act.put, putA, putB, putC]
     rfl
    refine one_ (i := 7) (N := some 31) #[true, true, true, true, true, true, true, true, false, true, false] rfl rfl (by kernel_rfl) (by decide) (fun K hK => ?_)
    refine goes_ Tryd.func55 (by kernel_rfl) rfl #[.int .u32 v59] (by rfl) rfl rfl (by (try simp only [List.map_toArray, List.map_cons, List.map_nil]); first | done | rfl) ?_
    refine (rlow_calls _ v59 HV0.out).mono ?_
    rintro e_ w6_ ⟨rfl, h_⟩
    have b_ := h_.below
    have q0_ := Aside0.mk (blk_below Kr.out b_)
    have q1_ := Aside0.mk (blk_below Kn.out b_)
    have q2_ := Aside0.mk (blk_below Kf.out b_)
    have q3_ := Aside0.mk (V.out.trans (b_.mono V.out.size))
    clear Kr
    clear Kn
    clear Kf
    clear V
    have Kr := q0_
    have Kn := q1_
    have Kf := q2_
    have V := q3_
    clear q0_ q1_ q2_ q3_
    clear b_ h_
    refine ⟨_, rfl, ?_⟩
    refine hK.out _ _ trivial (fun hHeld => ?_)
    clear hK K
    refine norm_ (a' := ?_) ?_ ?_
    rotate_left
    ·show Act.put _ (some 31) _ = _
     simp only [Act.put, putA, putB, putC]
     rfl
    refine pure_ (i := 8) (N := some 32) (v := ?_) (a' := ?_) #[true, true, true, true, true, true, true, true, true, true, false] rfl rfl (by kernel_rfl) (fun _ _ _ h => h) (Or.inl ⟨by rfl, ?_⟩) ?_ ?_
    rotate_left
    ·intro w'
     go_simp
     with_reducible rfl
    rotate_left
    ·simp only [Act.put, putA, putB, putC]
     rfl
    refine last_ (i := 10) (N := none) #[true, true, true, true, true, true, true, true, true, true, true] rfl rfl (by kernel_rfl) (by decide) (fun K hK => ?_)
    refine store_ord rfl rfl rfl (g := gf) (k := 0) (u := .agg (frC ⟨ty, fl, st, [], -1, 0, 0, 0, false, 0, []⟩ nilS nilS)) (cs' := frC ⟨ty, fl, st, [], -1, 0, 0, 0, false, 0, []⟩ nilS nilS) rfl rfl Kf.out (by kernel_rfl) (Nat.le_of_ble_eq_true rfl) rfl rfl ?_
    intro w_ k_ o_
    have q0_ := Aside0.mk (o_.blk Kr.out Nr_f.out)
    have q1_ := Aside0.mk (o_.blk Kn.out Nn_f.out)
    have q2_ := Aside0.mk (k_)
    have q3_ := Aside0.mk (o_.below V.out Mf.out)
    clear Kr
    clear Kn
    clear Kf
    clear V
    have Kr := q0_
    have Kn := q1_
    have Kf := q2_
    have V := q3_
    clear q0_ q1_ q2_ q3_
    clear k_ o_
    refine hK.out _ _ ?_
    clear hK K
    refine done_ (by kernel_rfl) ?_
    go_wp2_with fail
    go_meet
    case rel => exact ⟨gf, rfl, Kr, Kn, Kf, V, Mf, Nr_f, Nn_f⟩
  ·refine make_ord rfl (cs := frC ⟨0, 0, 0, [], 0, 0, 0, 0, false, 0, []⟩ nilS nilS) (t := 38) (by first | (go_simp; done) | (go_simp; rfl)) ?_
   intro gf hg_ w4_ k_ z_ b_
   have Nr_f := Aside0.mk (show gr ≠ gf by rw [hg_]; exact Nat.ne_of_lt (blk_lt Kr.out))
   have Nn_f := Aside0.mk (show gn ≠ gf by rw [hg_]; exact Nat.ne_of_lt (blk_lt Kn.out))
   have Mf := Aside0.mk (show w.heap.size ≤ gf by rw [hg_]; exact V.out.size)
   have q0_ := Aside0.mk (blk_below Kr.out b_)
   have q1_ := Aside0.mk (blk_below Kn.out b_)
   have q2_ := Aside0.mk (V.out.trans (b_.mono V.out.size))
   clear Kr
   clear Kn
   clear V
   have Kr := q0_
   have Kn := q1_
   have V := q2_
   clear q0_ q1_ q2_
   have Kf := Aside0.mk k_
   clear hg_ k_ z_ b_
   refine hK.out _ _ trivial (fun hHeld => ?_)
   clear hK K
   refine norm_ (a' := ?_) ?_ ?_
   rotate_left
   ·show Act.put _ (some 4) _ = _
    simp only [Act.put, putA, putB, putC]
    rfl
   refine one_ (i := 6) (N := some 30) #[true, true, true, true, true, true, true, false, false, true, false] rfl rfl (by kernel_rfl) (by decide) (fun K hK => ?_)
   refine goes_ Tryd.func29 (by kernel_rfl) rfl #[.string s59] (by rfl) rfl rfl (by (try simp only [List.map_toArray, List.map_cons, List.map_nil]); first | done | rfl) ?_
   refine (HV59.out _).mono ?_
   rintro e_ w5_ ⟨rfl, h_⟩
   have b_ := h_.below
   have q0_ := Aside0.mk (blk_below Kr.out b_)
   have q1_ := Aside0.mk (blk_below Kn.out b_)
   have q2_ := Aside0.mk (blk_below Kf.out b_)
   have q3_ := Aside0.mk (V.out.trans (b_.mono V.out.size))
   clear Kr
   clear Kn
   clear Kf
   clear V
   have Kr := q0_
   have Kn := q1_
   have Kf := q2_
   have V := q3_
   clear q0_ q1_ q2_ q3_
   clear b_ h_
   refine ⟨_, rfl, ?_⟩
   refine hK.out _ _ trivial (fun hHeld => ?_)
   clear hK K
   refine norm_ (a' := ?_) ?_ ?_
   rotate_left
   ·show Act.put _ (some 30) _ = _
    simp only [Act.put, putA, putB, putC]
    rfl
   refine one_ (i := 7) (N := some 31) #[true, true, true, true, true, true, true, true, false, true, false] rfl rfl (by kernel_rfl) (by decide) (fun K hK => ?_)
   refine goes_ Tryd.func55 (by kernel_rfl) rfl #[.int .u32 v59] (by rfl) rfl rfl (by (try simp only [List.map_toArray, List.map_cons, List.map_nil]); first | done | rfl) ?_
   refine (rlow_calls _ v59 HV0.out).mono ?_
   rintro e_ w6_ ⟨rfl, h_⟩
   have b_ := h_.below
   have q0_ := Aside0.mk (blk_below Kr.out b_)
   have q1_ := Aside0.mk (blk_below Kn.out b_)
   have q2_ := Aside0.mk (blk_below Kf.out b_)
   have q3_ := Aside0.mk (V.out.trans (b_.mono V.out.size))
   clear Kr
   clear Kn
   clear Kf
   clear V
   have Kr := q0_
   have Kn := q1_
   have Kf := q2_
   have V := q3_
   clear q0_ q1_ q2_ q3_
   clear b_ h_
   refine ⟨_, rfl, ?_⟩
   refine hK.out _ _ trivial (fun hHeld => ?_)
   clear hK K
   refine norm_ (a' := ?_) ?_ ?_
   rotate_left
   ·show Act.put _ (some 31) _ = _
    simp only [Act.put, putA, putB, putC]
    rfl
   refine pure_ (i := 8) (N := some 32) (v := ?_) (a' := ?_) #[true, true, true, true, true, true, true, true, true, true, false] rfl rfl (by kernel_rfl) (fun _ _ _ h => h) (Or.inl ⟨by rfl, ?_⟩) ?_ ?_
   rotate_left
   ·intro w'
    go_simp
    with_reducible rfl
   rotate_left
   ·simp only [Act.put, putA, putB, putC]
    rfl
   refine last_ (i := 10) (N := none) #[true, true, true, true, true, true, true, true, true, true, true] rfl rfl (by kernel_rfl) (by decide) (fun K hK => ?_)
   refine store_ord rfl rfl rfl (g := gf) (k := 0) (u := .agg (frC ⟨ty, fl, st, [], -1, 0, 0, 0, false, 0, []⟩ nilS nilS)) (cs' := frC ⟨ty, fl, st, [], -1, 0, 0, 0, false, 0, []⟩ nilS nilS) rfl rfl Kf.out (by kernel_rfl) (Nat.le_of_ble_eq_true rfl) rfl rfl ?_
   intro w_ k_ o_
   have q0_ := Aside0.mk (o_.blk Kr.out Nr_f.out)
   have q1_ := Aside0.mk (o_.blk Kn.out Nn_f.out)
   have q2_ := Aside0.mk (k_)
   have q3_ := Aside0.mk (o_.below V.out Mf.out)
   clear Kr
   clear Kn
   clear Kf
   clear V
   have Kr := q0_
   have Kn := q1_
   have Kf := q2_
   have V := q3_
   clear q0_ q1_ q2_ q3_
   clear k_ o_
   refine hK.out _ _ ?_
   clear hK K
   refine done_ (by kernel_rfl) ?_
   go_wp2_with fail
   go_meet
   case rel => exact ⟨gf, rfl, Kr, Kn, Kf, V, Mf, Nr_f, Nn_f⟩
 case rest =>
  clear Kr Kn V
  obtain ⟨gf, rfl, Kr, Kn, Kf, V, Mf, Nr_f, Nn_f⟩ := hcut
  have hsb := str_size b
  by_cases hg : 16384 < b.length
  ·have g1 : decide ((16384 : Int) < (b.length : Int)) = true := by rw [decide_eq_true_iff]; omega
   have g2 : decide (16384 < b.length) = true := by rw [decide_eq_true_iff]; omega
   have HE := Lib.hid (HG.out.trans (if_pos hg))
   clear hg
   go_wp2_with (first
    | (refine gate_load (t := 38) 33 rfl rfl ?_; refine load_ev rfl rfl rfl Kf.out Tryd.underlying38 rfl (by kernel_rfl) ?_)
    | (refine gate_stored (t := 38) (p := .tmp 34) rfl ?_; refine store_ev rfl rfl rfl (g := gn) (k := 0) (u := (.agg (frC ⟨ty, fl, st, [], -1, 0, 0, 0, false, 0, []⟩ nilS nilS))) (cs' := fC ⟨ty, fl, st, [], -1, 0, 0, 0, false, 0, []⟩ nilS nilS 0 0) rfl rfl Kn.out (by kernel_rfl) (Nat.le_of_ble_eq_true rfl) rfl rfl ?_; intro w50_ k_ o_; have q0_ := Aside0.mk (o_.blk Kr.out Nr_n.out); have q1_ := Aside0.mk (o_.blk Kf.out Nn_f.out.symm); have q2_ := Aside0.mk (k_); have q3_ := Aside0.mk (o_.below V.out Mn.out); clear Kr; clear Kf; clear Kn; clear V; have Kr := q0_; have Kf := q1_; have Kn := q2_; have V := q3_; clear q0_ q1_ q2_ q3_; clear k_ o_)
    | (refine gate_load (t := 45) 40 rfl rfl ?_; refine load_ev rfl rfl rfl Kn.out Tryd.underlying45 rfl (by kernel_rfl) ?_)
    | (go_at_call 54; (with_reducible refine (fails_calls _ ⟨ty, fl, st, [], -1, 0, 0, 0, false, 0, []⟩ none 0 0 none 0 0 0 0 1 6).mono ?_); rintro e_ w51_ ⟨rfl, h_⟩; have b_ := h_; have q0_ := Aside0.mk (blk_below Kr.out b_); have q1_ := Aside0.mk (blk_below Kn.out b_); have q2_ := Aside0.mk (blk_below Kf.out b_); have q3_ := Aside0.mk (V.out.trans (b_.mono V.out.size)); clear Kr; clear Kn; clear Kf; clear V; have Kr := q0_; have Kn := q1_; have Kf := q2_; have V := q3_; clear q0_ q1_ q2_ q3_; clear b_ h_)
    | (refine gate_stored (t := 45) (p := .tmp 2) rfl ?_; refine store_ev rfl rfl rfl (g := gr) (k := 0) (u := (.agg (fC ⟨ty, fl, st, [], -1, 0, 0, 0, false, 0, []⟩ nilS nilS 1 6))) (cs' := fC ⟨ty, fl, st, [], -1, 0, 0, 0, false, 0, []⟩ nilS nilS 1 6) rfl rfl Kr.out (by kernel_rfl) (Nat.le_of_ble_eq_true rfl) rfl rfl ?_; intro w52_ k_ o_; have q0_ := Aside0.mk (o_.blk Kn.out Nr_n.out.symm); have q1_ := Aside0.mk (o_.blk Kf.out Nr_f.out.symm); have q2_ := Aside0.mk (k_); have q3_ := Aside0.mk (o_.below V.out Mr.out); clear Kn; clear Kf; clear Kr; clear V; have Kn := q0_; have Kf := q1_; have Kr := q2_; have V := q3_; clear q0_ q1_ q2_ q3_; clear k_ o_))
   refine bodyPost_ret (results_cell_row rfl _ _ gr 45 _ (0, 0) _ rfl Kr.out Tryd.underlying45 rfl (by kernel_rfl)) rfl (HP.out _ _ ?_)
   rw [HE.out]
   exact ⟨⟨frC ⟨ty, fl, st, [], -1, 0, 0, 0, false, 0, []⟩ nilS nilS, rfl, frCame_nil _ _ _ rfl rfl⟩, V.out⟩
  ·have g1 : decide ((16384 : Int) < (b.length : Int)) = false := by rw [decide_eq_false_iff_not]; omega
   have g2 : decide (16384 < b.length) = false := by rw [decide_eq_false_iff_not]; omega
   have HG2 := Lib.hid (HG.out.trans (if_neg hg))
   have HD := Lib.hid (And.intro HD.out.1 (show b.length ≤ 100000 by omega))
   clear hg HG
   cases hs : stBad ty st
   rotate_left
   ·have HE := Lib.hid (HG2.out.trans (if_pos hs))
    have HSB := Lib.hid hs
    clear hs
    go_wp2_with (first
     | (refine gate_load (t := 38) 33 rfl rfl ?_; refine load_ev rfl rfl rfl Kf.out Tryd.underlying38 rfl (by kernel_rfl) ?_)
     | (refine gate_stored (t := 38) (p := .tmp 34) rfl ?_; refine store_ev rfl rfl rfl (g := gn) (k := 0) (u := (.agg (frC ⟨ty, fl, st, [], -1, 0, 0, 0, false, 0, []⟩ nilS nilS))) (cs' := fC ⟨ty, fl, st, [], -1, 0, 0, 0, false, 0, []⟩ nilS nilS 0 0) rfl rfl Kn.out (by kernel_rfl) (Nat.le_of_ble_eq_true rfl) rfl rfl ?_; intro w50_ k_ o_; have q0_ := Aside0.mk (o_.blk Kr.out Nr_n.out); have q1_ := Aside0.mk (o_.blk Kf.out Nn_f.out.symm); have q2_ := Aside0.mk (k_); have q3_ := Aside0.mk (o_.below V.out Mn.out); clear Kr; clear Kf; clear Kn; clear V; have Kr := q0_; have Kf := q1_; have Kn := q2_; have V := q3_; clear q0_ q1_ q2_ q3_; clear k_ o_)
     | (refine gate_load (t := 38) 42 rfl rfl ?_; refine load_ev rfl rfl rfl Kf.out Tryd.underlying38 rfl (by kernel_rfl) ?_)
     | (go_at_call 56; (with_reducible refine (rwrong_calls _ ⟨ty, fl, st, [], -1, 0, 0, 0, false, 0, []⟩ nilS nilS).mono ?_); rintro e_ w51_ ⟨rfl, h_⟩; have b_ := h_; have q0_ := Aside0.mk (blk_below Kr.out b_); have q1_ := Aside0.mk (blk_below Kn.out b_); have q2_ := Aside0.mk (blk_below Kf.out b_); have q3_ := Aside0.mk (V.out.trans (b_.mono V.out.size)); clear Kr; clear Kn; clear Kf; clear V; have Kr := q0_; have Kn := q1_; have Kf := q2_; have V := q3_; clear q0_ q1_ q2_ q3_; clear b_ h_; dsimp only; rw [HSB.out])
     | (refine gate_load (t := 45) 44 rfl rfl ?_; refine load_ev rfl rfl rfl Kn.out Tryd.underlying45 rfl (by kernel_rfl) ?_)
     | (go_at_call 54; (with_reducible refine (fails_calls _ ⟨ty, fl, st, [], -1, 0, 0, 0, false, 0, []⟩ none 0 0 none 0 0 0 0 1 1).mono ?_); rintro e_ w52_ ⟨rfl, h_⟩; have b_ := h_; have q0_ := Aside0.mk (blk_below Kr.out b_); have q1_ := Aside0.mk (blk_below Kn.out b_); have q2_ := Aside0.mk (blk_below Kf.out b_); have q3_ := Aside0.mk (V.out.trans (b_.mono V.out.size)); clear Kr; clear Kn; clear Kf; clear V; have Kr := q0_; have Kn := q1_; have Kf := q2_; have V := q3_; clear q0_ q1_ q2_ q3_; clear b_ h_)
     | (refine gate_stored (t := 45) (p := .tmp 2) rfl ?_; refine store_ev rfl rfl rfl (g := gr) (k := 0) (u := (.agg (fC ⟨ty, fl, st, [], -1, 0, 0, 0, false, 0, []⟩ nilS nilS 1 1))) (cs' := fC ⟨ty, fl, st, [], -1, 0, 0, 0, false, 0, []⟩ nilS nilS 1 1) rfl rfl Kr.out (by kernel_rfl) (Nat.le_of_ble_eq_true rfl) rfl rfl ?_; intro w53_ k_ o_; have q0_ := Aside0.mk (o_.blk Kn.out Nr_n.out.symm); have q1_ := Aside0.mk (o_.blk Kf.out Nr_f.out.symm); have q2_ := Aside0.mk (k_); have q3_ := Aside0.mk (o_.below V.out Mr.out); clear Kn; clear Kf; clear Kr; clear V; have Kn := q0_; have Kf := q1_; have Kr := q2_; have V := q3_; clear q0_ q1_ q2_ q3_; clear k_ o_))
    refine bodyPost_ret (results_cell_row rfl _ _ gr 45 _ (0, 0) _ rfl Kr.out Tryd.underlying45 rfl (by kernel_rfl)) rfl (HP.out _ _ ?_)
    rw [HE.out]
    exact ⟨⟨frC ⟨ty, fl, st, [], -1, 0, 0, 0, false, 0, []⟩ nilS nilS, rfl, frCame_nil _ _ _ rfl rfl⟩, V.out⟩
   have HG3 := Lib.hid (HG2.out.trans (if_neg (by rw [hs]; decide)))
   have HSB := Lib.hid hs
   clear hs HG2
   go_upto_region 12 with (first
    | (refine gate_load (t := 38) 33 rfl rfl ?_; refine load_ev rfl rfl rfl Kf.out Tryd.underlying38 rfl (by kernel_rfl) ?_)
    | (refine gate_stored (t := 38) (p := .tmp 34) rfl ?_; refine store_ev rfl rfl rfl (g := gn) (k := 0) (u := (.agg (frC ⟨ty, fl, st, [], -1, 0, 0, 0, false, 0, []⟩ nilS nilS))) (cs' := fC ⟨ty, fl, st, [], -1, 0, 0, 0, false, 0, []⟩ nilS nilS 0 0) rfl rfl Kn.out (by kernel_rfl) (Nat.le_of_ble_eq_true rfl) rfl rfl ?_; intro w50_ k_ o_; have q0_ := Aside0.mk (o_.blk Kr.out Nr_n.out); have q1_ := Aside0.mk (o_.blk Kf.out Nn_f.out.symm); have q2_ := Aside0.mk (k_); have q3_ := Aside0.mk (o_.below V.out Mn.out); clear Kr; clear Kf; clear Kn; clear V; have Kr := q0_; have Kf := q1_; have Kn := q2_; have V := q3_; clear q0_ q1_ q2_ q3_; clear k_ o_)
    | (refine gate_load (t := 38) 42 rfl rfl ?_; refine load_ev rfl rfl rfl Kf.out Tryd.underlying38 rfl (by kernel_rfl) ?_)
    | (go_at_call 56; (with_reducible refine (rwrong_calls _ ⟨ty, fl, st, [], -1, 0, 0, 0, false, 0, []⟩ nilS nilS).mono ?_); rintro e_ w51_ ⟨rfl, h_⟩; have b_ := h_; have q0_ := Aside0.mk (blk_below Kr.out b_); have q1_ := Aside0.mk (blk_below Kn.out b_); have q2_ := Aside0.mk (blk_below Kf.out b_); have q3_ := Aside0.mk (V.out.trans (b_.mono V.out.size)); clear Kr; clear Kn; clear Kf; clear V; have Kr := q0_; have Kn := q1_; have Kf := q2_; have V := q3_; clear q0_ q1_ q2_ q3_; clear b_ h_; dsimp only; rw [HSB.out]))
   (try simp only [Act.put, putA, putB, putC])
   obtain ⟨pb, hpb⟩ : ∃ pb : Bool, pb = (decide (ty = 0 ∨ ty = 1 ∨ ty = 5) && (Go.bits .and .u8 fl 8 != 0)) := ⟨_, rfl⟩
   have HPB := Lib.hid hpb
   clear hpb
   go_cut [55] (fun v55 wc => v55 = .bool pb ∧ Aside0 (wc.heap[gr]? = some (.cells (fC ⟨0, 0, 0, [], 0, 0, 0, 0, false, 0, []⟩ nilS nilS 0 0) 45 (0, 0))) ∧ Aside0 (wc.heap[gn]? = some (.cells (fC ⟨ty, fl, st, [], -1, 0, 0, 0, false, 0, []⟩ nilS nilS 0 0) 45 (0, 0))) ∧ Aside0 (wc.heap[gf]? = some (.cells (frC ⟨ty, fl, st, [], -1, 0, 0, 0, false, 0, []⟩ nilS nilS) 38 (0, 0))) ∧ Aside0 (Below w.heap.size w wc))
   case first =>
    cases hp : decide (ty = 0 ∨ ty = 1 ∨ ty = 5)
    ·have HPD := Lib.hid hp
     clear hp
     go_wp2_with (first
      | (refine gate_load (t := 5) 47 rfl rfl ?_; refine loadf_ev rfl rfl rfl Kf.out rfl Tryd.underlying5 rfl ?_)
      | (go_at_call 50; (with_reducible refine (rpads_calls _ ty).mono ?_); rintro e_ w50_ ⟨rfl, h_⟩; have b_ := h_.below; have q0_ := Aside0.mk (blk_below Kr.out b_); have q1_ := Aside0.mk (blk_below Kn.out b_); have q2_ := Aside0.mk (blk_below Kf.out b_); have q3_ := Aside0.mk (V.out.trans (b_.mono V.out.size)); clear Kr; clear Kn; clear Kf; clear V; have Kr := q0_; have Kn := q1_; have Kf := q2_; have V := q3_; clear q0_ q1_ q2_ q3_; clear b_ h_; rw [HPD.out]))
     go_meet
     case rel => exact ⟨by rw [HPB.out, HPD.out]; rfl, Kr, Kn, Kf, V⟩
    ·have HPD := Lib.hid hp
     have hbit := bit8' HF.out.1 HF.out.2
     clear hp
     cases hf : (Go.bits .and .u8 fl 8 != 0)
     ·have e8 : (fl.tdiv 8 % 2 == 1) = false := by rw [hbit, hf]
      have HFL := Lib.hid hf
      clear hf hbit
      go_wp2_with (first
       | (refine gate_load (t := 5) 47 rfl rfl ?_; refine loadf_ev rfl rfl rfl Kf.out rfl Tryd.underlying5 rfl ?_)
       | (go_at_call 50; (with_reducible refine (rpads_calls _ ty).mono ?_); rintro e_ w50_ ⟨rfl, h_⟩; have b_ := h_.below; have q0_ := Aside0.mk (blk_below Kr.out b_); have q1_ := Aside0.mk (blk_below Kn.out b_); have q2_ := Aside0.mk (blk_below Kf.out b_); have q3_ := Aside0.mk (V.out.trans (b_.mono V.out.size)); clear Kr; clear Kn; clear Kf; clear V; have Kr := q0_; have Kn := q1_; have Kf := q2_; have V := q3_; clear q0_ q1_ q2_ q3_; clear b_ h_; rw [HPD.out]; have y1_ := (blk_cell Kf.out 1).trans (show _ = some (Value.int .u8 fl) from rfl)))
      go_meet
      case rel => exact ⟨by rw [HPB.out, HPD.out, HFL.out]; rfl, Kr, Kn, Kf, V⟩
     ·have e8 : (fl.tdiv 8 % 2 == 1) = true := by rw [hbit, hf]
      have HFL := Lib.hid hf
      clear hf hbit
      go_wp2_with (first
       | (refine gate_load (t := 5) 47 rfl rfl ?_; refine loadf_ev rfl rfl rfl Kf.out rfl Tryd.underlying5 rfl ?_)
       | (go_at_call 50; (with_reducible refine (rpads_calls _ ty).mono ?_); rintro e_ w50_ ⟨rfl, h_⟩; have b_ := h_.below; have q0_ := Aside0.mk (blk_below Kr.out b_); have q1_ := Aside0.mk (blk_below Kn.out b_); have q2_ := Aside0.mk (blk_below Kf.out b_); have q3_ := Aside0.mk (V.out.trans (b_.mono V.out.size)); clear Kr; clear Kn; clear Kf; clear V; have Kr := q0_; have Kn := q1_; have Kf := q2_; have V := q3_; clear q0_ q1_ q2_ q3_; clear b_ h_; rw [HPD.out]; have y1_ := (blk_cell Kf.out 1).trans (show _ = some (Value.int .u8 fl) from rfl)))
      go_meet
      case rel => exact ⟨by rw [HPB.out, HPD.out, HFL.out]; rfl, Kr, Kn, Kf, V⟩
   clear Kr Kn Kf V
   obtain ⟨rfl, Kr, Kn, Kf, V⟩ := hcut
   go_upto_if 55 with fail
   go_cut [5, 6] (fun v5 v6 wc => ∃ b2 pad, v5 = .string (strOfNums b2) ∧ v6 = .int .i64 pad ∧ Aside0 (readR (fr0 ty fl st (-1)) b = bodyR (fr0 ty fl st pad) b2 ∧ Byte8 b2 ∧ b2.length ≤ 100000) ∧ Aside0 (wc.heap[gr]? = some (.cells (fC ⟨0, 0, 0, [], 0, 0, 0, 0, false, 0, []⟩ nilS nilS 0 0) 45 (0, 0))) ∧ Aside0 (wc.heap[gn]? = some (.cells (fC ⟨ty, fl, st, [], -1, 0, 0, 0, false, 0, []⟩ nilS nilS 0 0) 45 (0, 0))) ∧ Aside0 (wc.heap[gf]? = some (.cells (frC ⟨ty, fl, st, [], -1, 0, 0, 0, false, 0, []⟩ nilS nilS) 38 (0, 0))) ∧ Aside0 (Below w.heap.size w wc))
   case first =>
    cases pb with
    | false =>
     have HRD := Lib.hid (readR_plain (ty := ty) (fl := fl) (st := st) (b := b) (fun h => by
      have := HPB.out
      rw [decide_eq_true h.1, bne_iff_ne.2 h.2] at this
      cases this))
     go_wp2_with fail
     go_meet
     case rel => exact ⟨b, -1, rfl, rfl, ⟨HRD.out, HD.out.1, HD.out.2⟩, Kr, Kn, Kf, V⟩
    | true =>
     have hpq : (ty = 0 ∨ ty = 1 ∨ ty = 5) ∧ Go.bits .and .u8 fl 8 ≠ 0 := by
      have := HPB.out.symm
      rw [Bool.and_eq_true, decide_eq_true_iff, bne_iff_ne] at this
      exact this
     by_cases hb0 : b.length = 0
     ·obtain rfl := List.eq_nil_of_length_eq_zero hb0
      have HE := Lib.hid (HG3.out.trans (by rw [readR_empty hpq]))
      have e0 : strOfNums [] = (⟨#[]⟩ : ByteArray) := rfl
      rw [e0]
      clear hpq e0 HG3 HPB
      go_wp2_with (first
       | (refine gate_load (t := 45) 58 rfl rfl ?_; refine load_ev rfl rfl rfl Kn.out Tryd.underlying45 rfl (by kernel_rfl) ?_)
       | (go_at_call 54; (with_reducible refine (fails_calls _ ⟨ty, fl, st, [], -1, 0, 0, 0, false, 0, []⟩ none 0 0 none 0 0 0 0 1 6).mono ?_); rintro e_ w50_ ⟨rfl, h_⟩; have b_ := h_; have q0_ := Aside0.mk (blk_below Kr.out b_); have q1_ := Aside0.mk (blk_below Kn.out b_); have q2_ := Aside0.mk (blk_below Kf.out b_); have q3_ := Aside0.mk (V.out.trans (b_.mono V.out.size)); clear Kr; clear Kn; clear Kf; clear V; have Kr := q0_; have Kn := q1_; have Kf := q2_; have V := q3_; clear q0_ q1_ q2_ q3_; clear b_ h_)
       | (refine gate_stored (t := 45) (p := .tmp 2) rfl ?_; refine store_ev rfl rfl rfl (g := gr) (k := 0) (u := (.agg (fC ⟨ty, fl, st, [], -1, 0, 0, 0, false, 0, []⟩ nilS nilS 1 6))) (cs' := fC ⟨ty, fl, st, [], -1, 0, 0, 0, false, 0, []⟩ nilS nilS 1 6) rfl rfl Kr.out (by kernel_rfl) (Nat.le_of_ble_eq_true rfl) rfl rfl ?_; intro w51_ k_ o_; have q0_ := Aside0.mk (o_.blk Kn.out Nr_n.out.symm); have q1_ := Aside0.mk (o_.blk Kf.out Nr_f.out.symm); have q2_ := Aside0.mk (k_); have q3_ := Aside0.mk (o_.below V.out Mr.out); clear Kn; clear Kf; clear Kr; clear V; have Kn := q0_; have Kf := q1_; have Kr := q2_; have V := q3_; clear q0_ q1_ q2_ q3_; clear k_ o_))
      refine bodyPost_ret (results_cell_row rfl _ _ gr 45 _ (0, 0) _ rfl Kr.out Tryd.underlying45 rfl (by kernel_rfl)) rfl (HP.out _ _ ?_)
      rw [HE.out]
      exact ⟨⟨frC ⟨ty, fl, st, [], -1, 0, 0, 0, false, 0, []⟩ nilS nilS, rfl, frCame_nil _ _ _ rfl rfl⟩, V.out⟩
     have hx0 : 0 ≤ b.getD 0 0 ∧ b.getD 0 0 ≤ 255 := by
      rw [List.getD_eq_getElem?_getD, List.getElem?_eq_getElem (by omega)]
      exact HD.out.1 _ (List.getElem_mem _)
     have i0 := fun W => run_index_str HD.out.1 0 (by decide) (by omega) W
     rw [show (0 : Int).toNat = 0 from rfl] at i0
     have hie : (strOfNums b).toList.isEmpty = false := by
      rw [str_list]
      cases b with
      | nil => exact absurd rfl hb0
      | cons => rfl
     have HB1 := HD.out.2
     have hbg := readR_big (st := st) hpq hb0
     have hpd := readR_pad (st := st) hpq hb0
     generalize b.getD 0 0 = x at i0 hx0 hbg hpd
     have hwx : IntKind.i64.wrap x = x := by simp [IntKind.wrap, IntKind.bits, IntKind.signed]; omega
     have hw1 : IntKind.i64.wrap ((b.length : Int) - 1) = (b.length : Int) - 1 := by simp [IntKind.wrap, IntKind.bits, IntKind.signed]; omega
     by_cases hbig : (b.length : Int) - 1 < x
     ·have HE := Lib.hid (HG3.out.trans (by rw [hbg hbig]))
      have d1 : decide ((b.length : Int) - 1 < x) = true := by rw [decide_eq_true_iff]; exact hbig
      clear hpq hb0 hbig hx0 HG3 hbg hpd HPB
      go_wp2_with (first
       | (refine gate_load (t := 45) 68 rfl rfl ?_; refine load_ev rfl rfl rfl Kn.out Tryd.underlying45 rfl (by kernel_rfl) ?_)
       | (go_at_call 54; (with_reducible refine (fails_calls _ ⟨ty, fl, st, [], -1, 0, 0, 0, false, 0, []⟩ none 0 0 none 0 0 0 0 1 1).mono ?_); rintro e_ w50_ ⟨rfl, h_⟩; have b_ := h_; have q0_ := Aside0.mk (blk_below Kr.out b_); have q1_ := Aside0.mk (blk_below Kn.out b_); have q2_ := Aside0.mk (blk_below Kf.out b_); have q3_ := Aside0.mk (V.out.trans (b_.mono V.out.size)); clear Kr; clear Kn; clear Kf; clear V; have Kr := q0_; have Kn := q1_; have Kf := q2_; have V := q3_; clear q0_ q1_ q2_ q3_; clear b_ h_)
       | (refine gate_stored (t := 45) (p := .tmp 2) rfl ?_; refine store_ev rfl rfl rfl (g := gr) (k := 0) (u := (.agg (fC ⟨ty, fl, st, [], -1, 0, 0, 0, false, 0, []⟩ nilS nilS 1 1))) (cs' := fC ⟨ty, fl, st, [], -1, 0, 0, 0, false, 0, []⟩ nilS nilS 1 1) rfl rfl Kr.out (by kernel_rfl) (Nat.le_of_ble_eq_true rfl) rfl rfl ?_; intro w51_ k_ o_; have q0_ := Aside0.mk (o_.blk Kn.out Nr_n.out.symm); have q1_ := Aside0.mk (o_.blk Kf.out Nr_f.out.symm); have q2_ := Aside0.mk (k_); have q3_ := Aside0.mk (o_.below V.out Mr.out); clear Kn; clear Kf; clear Kr; clear V; have Kn := q0_; have Kf := q1_; have Kr := q2_; have V := q3_; clear q0_ q1_ q2_ q3_; clear k_ o_))
      refine bodyPost_ret (results_cell_row rfl _ _ gr 45 _ (0, 0) _ rfl Kr.out Tryd.underlying45 rfl (by kernel_rfl)) rfl (HP.out _ _ ?_)
      rw [HE.out]
      exact ⟨⟨frC ⟨ty, fl, st, [], -1, 0, 0, 0, false, 0, []⟩ nilS nilS, rfl, frCame_nil _ _ _ rfl rfl⟩, V.out⟩
     ·have HRD := Lib.hid (hpd hbig hx0.1)
      have d1 : decide ((b.length : Int) - 1 < x) = false := by rw [decide_eq_false_iff_not]; exact hbig
      obtain ⟨e, he⟩ : ∃ e, (b.length : Int) - x = e := ⟨_, rfl⟩
      have hw2 : IntKind.i64.wrap ((b.length : Int) - x) = e := by rw [← he]; simp [IntKind.wrap, IntKind.bits, IntKind.signed]; omega
      have f1 := fun W => run_cut_str b 1 e (by decide) (by omega) (by omega) W
      rw [he] at HRD
      rw [show (1 : Int).toNat = 1 from rfl] at f1
      have HB2 := Lib.hid (show Byte8 ((b.take e.toNat).drop 1) ∧ ((b.take e.toNat).drop 1).length ≤ 100000 from ⟨fun x hx => HD.out.1 x (List.mem_of_mem_take (List.mem_of_mem_drop hx)), by rw [List.length_drop, List.length_take]; omega⟩)
      clear hpq hb0 hbig hx0 hbg hpd he HPB HB1
      generalize (b.take e.toNat).drop 1 = b2 at f1 HRD HB2
      go_wp2_with fail
      go_meet
      case rel => exact ⟨b2, x, rfl, rfl, ⟨HRD.out, HB2.out.1, HB2.out.2⟩, Kr, Kn, Kf, V⟩
   case rest =>
    clear Kr Kn Kf V
    obtain ⟨b2, pad, rfl, rfl, HB2, Kr, Kn, Kf, V⟩ := hcut
    have HG4 := HG3.out
    rw [HB2.out.1] at HG4
    have hsb2 := str_size b2
    cases hs : shortT ty fl b2.length
    rotate_left
    ·have hbd := body_short (F := fr0 ty fl st pad) (b := b2) HF.out.1 HF.out.2 hs
     have HS := Lib.hid hs
     by_cases t2 : ty = 2
     ·have bt2 : (ty == 2) = true := by rw [beq_iff_eq]; exact t2
      have HE := Lib.hid (HG4.trans (by rw [hbd, if_pos (show (fr0 ty fl st pad).ty = 2 from t2)]))
      clear hs hbd t2 HG4
      go_wp2_with (first
       | (refine gate_load (t := 38) 76 rfl rfl ?_; refine load_ev rfl rfl rfl Kf.out Tryd.underlying38 rfl (by kernel_rfl) ?_)
       | (go_at_call 57; (with_reducible refine (rshort_calls _ ⟨ty, fl, st, [], -1, 0, 0, 0, false, 0, []⟩ nilS nilS b2.length HF.out.1 HF.out.2).mono ?_); rintro e_ w50_ ⟨rfl, h_⟩; have b_ := h_; have q0_ := Aside0.mk (blk_below Kr.out b_); have q1_ := Aside0.mk (blk_below Kn.out b_); have q2_ := Aside0.mk (blk_below Kf.out b_); have q3_ := Aside0.mk (V.out.trans (b_.mono V.out.size)); clear Kr; clear Kn; clear Kf; clear V; have Kr := q0_; have Kn := q1_; have Kf := q2_; have V := q3_; clear q0_ q1_ q2_ q3_; clear b_ h_; dsimp only; rw [HS.out])
       | (refine gate_load (t := 5) 81 rfl rfl ?_; refine loadf_ev rfl rfl rfl Kf.out rfl Tryd.underlying5 rfl ?_)
       | (refine gate_load (t := 45) 83 rfl rfl ?_; refine load_ev rfl rfl rfl Kn.out Tryd.underlying45 rfl (by kernel_rfl) ?_)
       | (go_at_call 54; (with_reducible refine (fails_calls _ ⟨ty, fl, st, [], -1, 0, 0, 0, false, 0, []⟩ none 0 0 none 0 0 0 0 2 6).mono ?_); rintro e_ w51_ ⟨rfl, h_⟩; have b_ := h_; have q0_ := Aside0.mk (blk_below Kr.out b_); have q1_ := Aside0.mk (blk_below Kn.out b_); have q2_ := Aside0.mk (blk_below Kf.out b_); have q3_ := Aside0.mk (V.out.trans (b_.mono V.out.size)); clear Kr; clear Kn; clear Kf; clear V; have Kr := q0_; have Kn := q1_; have Kf := q2_; have V := q3_; clear q0_ q1_ q2_ q3_; clear b_ h_)
       | (refine gate_stored (t := 45) (p := .tmp 2) rfl ?_; refine store_ev rfl rfl rfl (g := gr) (k := 0) (u := (.agg (fC ⟨ty, fl, st, [], -1, 0, 0, 0, false, 0, []⟩ nilS nilS 2 6))) (cs' := fC ⟨ty, fl, st, [], -1, 0, 0, 0, false, 0, []⟩ nilS nilS 2 6) rfl rfl Kr.out (by kernel_rfl) (Nat.le_of_ble_eq_true rfl) rfl rfl ?_; intro w52_ k_ o_; have q0_ := Aside0.mk (o_.blk Kn.out Nr_n.out.symm); have q1_ := Aside0.mk (o_.blk Kf.out Nr_f.out.symm); have q2_ := Aside0.mk (k_); have q3_ := Aside0.mk (o_.below V.out Mr.out); clear Kn; clear Kf; clear Kr; clear V; have Kn := q0_; have Kf := q1_; have Kr := q2_; have V := q3_; clear q0_ q1_ q2_ q3_; clear k_ o_))
      refine bodyPost_ret (results_cell_row rfl _ _ gr 45 _ (0, 0) _ rfl Kr.out Tryd.underlying45 rfl (by kernel_rfl)) rfl (HP.out _ _ ?_)
      rw [HE.out]
      exact ⟨⟨frC ⟨ty, fl, st, [], -1, 0, 0, 0, false, 0, []⟩ nilS nilS, rfl, frCame_nil _ _ _ rfl rfl⟩, V.out⟩
     ·have bt2 : (ty == 2) = false := by rw [beq_eq_false_iff_ne]; exact t2
      have HE := Lib.hid (HG4.trans (by rw [hbd, if_neg (show ¬ (fr0 ty fl st pad).ty = 2 from t2)]))
      clear hs hbd t2 HG4
      go_wp2_with (first
       | (refine gate_load (t := 38) 76 rfl rfl ?_; refine load_ev rfl rfl rfl Kf.out Tryd.underlying38 rfl (by kernel_rfl) ?_)
       | (go_at_call 57; (with_reducible refine (rshort_calls _ ⟨ty, fl, st, [], -1, 0, 0, 0, false, 0, []⟩ nilS nilS b2.length HF.out.1 HF.out.2).mono ?_); rintro e_ w50_ ⟨rfl, h_⟩; have b_ := h_; have q0_ := Aside0.mk (blk_below Kr.out b_); have q1_ := Aside0.mk (blk_below Kn.out b_); have q2_ := Aside0.mk (blk_below Kf.out b_); have q3_ := Aside0.mk (V.out.trans (b_.mono V.out.size)); clear Kr; clear Kn; clear Kf; clear V; have Kr := q0_; have Kn := q1_; have Kf := q2_; have V := q3_; clear q0_ q1_ q2_ q3_; clear b_ h_; dsimp only; rw [HS.out])
       | (refine gate_load (t := 5) 81 rfl rfl ?_; refine loadf_ev rfl rfl rfl Kf.out rfl Tryd.underlying5 rfl ?_)
       | (refine gate_load (t := 45) 85 rfl rfl ?_; refine load_ev rfl rfl rfl Kn.out Tryd.underlying45 rfl (by kernel_rfl) ?_)
       | (go_at_call 54; (with_reducible refine (fails_calls _ ⟨ty, fl, st, [], -1, 0, 0, 0, false, 0, []⟩ none 0 0 none 0 0 0 0 1 6).mono ?_); rintro e_ w51_ ⟨rfl, h_⟩; have b_ := h_; have q0_ := Aside0.mk (blk_below Kr.out b_); have q1_ := Aside0.mk (blk_below Kn.out b_); have q2_ := Aside0.mk (blk_below Kf.out b_); have q3_ := Aside0.mk (V.out.trans (b_.mono V.out.size)); clear Kr; clear Kn; clear Kf; clear V; have Kr := q0_; have Kn := q1_; have Kf := q2_; have V := q3_; clear q0_ q1_ q2_ q3_; clear b_ h_)
       | (refine gate_stored (t := 45) (p := .tmp 2) rfl ?_; refine store_ev rfl rfl rfl (g := gr) (k := 0) (u := (.agg (fC ⟨ty, fl, st, [], -1, 0, 0, 0, false, 0, []⟩ nilS nilS 1 6))) (cs' := fC ⟨ty, fl, st, [], -1, 0, 0, 0, false, 0, []⟩ nilS nilS 1 6) rfl rfl Kr.out (by kernel_rfl) (Nat.le_of_ble_eq_true rfl) rfl rfl ?_; intro w52_ k_ o_; have q0_ := Aside0.mk (o_.blk Kn.out Nr_n.out.symm); have q1_ := Aside0.mk (o_.blk Kf.out Nr_f.out.symm); have q2_ := Aside0.mk (k_); have q3_ := Aside0.mk (o_.below V.out Mr.out); clear Kn; clear Kf; clear Kr; clear V; have Kn := q0_; have Kf := q1_; have Kr := q2_; have V := q3_; clear q0_ q1_ q2_ q3_; clear k_ o_))
      refine bodyPost_ret (results_cell_row rfl _ _ gr 45 _ (0, 0) _ rfl Kr.out Tryd.underlying45 rfl (by kernel_rfl)) rfl (HP.out _ _ ?_)
      rw [HE.out]
      exact ⟨⟨frC ⟨ty, fl, st, [], -1, 0, 0, 0, false, 0, []⟩ nilS nilS, rfl, frCame_nil _ _ _ rfl rfl⟩, V.out⟩
    have hbd := body_parts (F := fr0 ty fl st pad) (b := b2) HF.out.1 HF.out.2 HB2.out.2.1 hs
    have HPT := Lib.hid (fun W => rparts_calls W ty fl st pad b2 HF.out.1 HF.out.2 HB2.out.2.1 HB2.out.2.2 hs)
    obtain ⟨hty, hst2⟩ := partsF_head (fr0 ty fl st pad) b2
    have HS := Lib.hid hs
    clear hs
    generalize partsF (fr0 ty fl st pad) b2 = F2 at hbd HPT hty hst2
    have hst0 : 0 ≤ st := by rw [← hst]; omega
    by_cases hw : ty = 8 ∧ F2.win = 0
    ·have b8 : (F2.ty == 8) = true := by rw [beq_iff_eq, hty]; exact hw.1
     have bw : (F2.win == 0) = true := by rw [beq_iff_eq]; exact hw.2
     rw [if_pos (show (fr0 ty fl st pad).ty = 8 ∧ F2.win = 0 from hw)] at hbd
     by_cases hs0 : st = 0
     ·have bs : (F2.st == 0) = true := by rw [beq_iff_eq, hst2]; exact hs0
      have HE := Lib.hid (HG4.trans (by rw [hbd, if_neg (show ¬ (fr0 ty fl st pad).st > 0 by show ¬ st > 0; omega)]))
      clear hbd HG4 hw hs0 hty hst2 hst0
      go_wp2_with (first
       | (refine gate_load (t := 38) 76 rfl rfl ?_; refine load_ev rfl rfl rfl Kf.out Tryd.underlying38 rfl (by kernel_rfl) ?_)
       | (go_at_call 57; (with_reducible refine (rshort_calls _ ⟨ty, fl, st, [], -1, 0, 0, 0, false, 0, []⟩ nilS nilS b2.length HF.out.1 HF.out.2).mono ?_); rintro e_ w50_ ⟨rfl, h_⟩; have b_ := h_; have q0_ := Aside0.mk (blk_below Kr.out b_); have q1_ := Aside0.mk (blk_below Kn.out b_); have q2_ := Aside0.mk (blk_below Kf.out b_); have q3_ := Aside0.mk (V.out.trans (b_.mono V.out.size)); clear Kr; clear Kn; clear Kf; clear V; have Kr := q0_; have Kn := q1_; have Kf := q2_; have V := q3_; clear q0_ q1_ q2_ q3_; clear b_ h_; dsimp only; rw [HS.out])
       | (refine gate_stored (t := 3) (p := .tmp 88) rfl ?_; refine store_ev rfl rfl rfl (g := gf) (k := 4) (u := (.int .i64 pad)) (cs' := frC ⟨ty, fl, st, [], pad, 0, 0, 0, false, 0, []⟩ nilS nilS) rfl rfl Kf.out (by kernel_rfl) (Nat.le_of_ble_eq_true rfl) rfl rfl ?_; intro w51_ k_ o_; have q0_ := Aside0.mk (o_.blk Kr.out Nr_f.out); have q1_ := Aside0.mk (o_.blk Kn.out Nn_f.out); have q2_ := Aside0.mk (k_); have q3_ := Aside0.mk (o_.below V.out Mf.out); clear Kr; clear Kn; clear Kf; clear V; have Kr := q0_; have Kn := q1_; have Kf := q2_; have V := q3_; clear q0_ q1_ q2_ q3_; clear k_ o_)
       | (refine gate_load (t := 38) 89 rfl rfl ?_; refine load_ev rfl rfl rfl Kf.out Tryd.underlying38 rfl (by kernel_rfl) ?_)
       | (go_at_call 58; (refine (HPT.out _).mono ?_); have Lf := Aside0.mk (blk_lt Kf.out); have Lr := Aside0.mk (blk_lt Kr.out); have LV := Aside0.mk V.out.size; rintro e_ w52_ ⟨⟨v_, rfl, hc_⟩, h_⟩; obtain ⟨Ap, cp, Bp, mp, rfl, hA_, hB_⟩ := hc_; have b_ := h_; have q0_ := Aside0.mk (blk_below Kr.out b_); have q1_ := Aside0.mk (blk_below Kn.out b_); have q2_ := Aside0.mk (blk_below Kf.out b_); have q3_ := Aside0.mk (V.out.trans (b_.mono V.out.size)); clear Kr; clear Kn; clear Kf; clear V; have Kr := q0_; have Kn := q1_; have Kf := q2_; have V := q3_; clear q0_ q1_ q2_ q3_; clear b_ h_; have HC := Aside0.mk (show FrCame _ F2 _ _ from ⟨Ap, cp, Bp, mp, rfl, hA_, hB_⟩); clear hA_ hB_)
       | (refine gate_stored (t := 38) (p := .tmp 4) rfl ?_; refine store_ev rfl rfl rfl (g := gf) (k := 0) (u := (.agg (frC F2 (.slice Ap F2.data.length cp) (.slice Bp F2.sets.length mp)))) (cs' := frC F2 (.slice Ap F2.data.length cp) (.slice Bp F2.sets.length mp)) rfl rfl Kf.out (by kernel_rfl) (Nat.le_of_ble_eq_true rfl) rfl rfl ?_; intro w53_ k_ o_; have q0_ := Aside0.mk (o_.blk Kr.out Nr_f.out); have q1_ := Aside0.mk (o_.blk Kn.out Nn_f.out); have q2_ := Aside0.mk (k_); have q3_ := Aside0.mk (FrCame.only HC.out o_ Lf.out); have q4_ := Aside0.mk (o_.below V.out Mf.out); clear Kr; clear Kn; clear Kf; clear HC; clear V; have Kr := q0_; have Kn := q1_; have Kf := q2_; have HC := q3_; have V := q4_; clear q0_ q1_ q2_ q3_ q4_; clear k_ o_; have y9_ := (blk_cell Kf.out 9).trans (show _ = some (Value.int .u32 F2.win) from rfl))
       | (refine gate_load (t := 5) 93 rfl rfl ?_; refine loadf_ev rfl rfl rfl Kf.out rfl Tryd.underlying5 rfl ?_)
       | (refine gate_load (t := 22) 101 rfl rfl ?_; refine loadf_ev rfl rfl rfl Kf.out rfl Tryd.underlying22 rfl ?_)
       | (refine gate_load (t := 45) 103 rfl rfl ?_; refine load_ev rfl rfl rfl Kn.out Tryd.underlying45 rfl (by kernel_rfl) ?_)
       | (go_at_call 54; (with_reducible refine (fails_calls _ ⟨ty, fl, st, [], -1, 0, 0, 0, false, 0, []⟩ none 0 0 none 0 0 0 0 1 1).mono ?_); rintro e_ w54_ ⟨rfl, h_⟩; have b_ := h_; have q0_ := Aside0.mk (blk_below Kr.out b_); have q1_ := Aside0.mk (blk_below Kn.out b_); have q2_ := Aside0.mk (blk_below Kf.out b_); have q3_ := Aside0.mk (V.out.trans (b_.mono V.out.size)); clear Kr; clear Kn; clear Kf; clear V; have Kr := q0_; have Kn := q1_; have Kf := q2_; have V := q3_; clear q0_ q1_ q2_ q3_; clear b_ h_)
       | (refine gate_stored (t := 45) (p := .tmp 2) rfl ?_; refine store_ev rfl rfl rfl (g := gr) (k := 0) (u := (.agg (fC ⟨ty, fl, st, [], -1, 0, 0, 0, false, 0, []⟩ nilS nilS 1 1))) (cs' := fC ⟨ty, fl, st, [], -1, 0, 0, 0, false, 0, []⟩ nilS nilS 1 1) rfl rfl Kr.out (by kernel_rfl) (Nat.le_of_ble_eq_true rfl) rfl rfl ?_; intro w55_ k_ o_; have q0_ := Aside0.mk (o_.blk Kn.out Nr_n.out.symm); have q1_ := Aside0.mk (o_.blk Kf.out Nr_f.out.symm); have q2_ := Aside0.mk (k_); have q3_ := Aside0.mk (o_.below V.out Mr.out); clear Kn; clear Kf; clear Kr; clear V; have Kn := q0_; have Kf := q1_; have Kr := q2_; have V := q3_; clear q0_ q1_ q2_ q3_; clear k_ o_))
      refine bodyPost_ret (results_cell_row rfl _ _ gr 45 _ (0, 0) _ rfl Kr.out Tryd.underlying45 rfl (by kernel_rfl)) rfl (HP.out _ _ ?_)
      rw [HE.out]
      exact ⟨⟨frC ⟨ty, fl, st, [], -1, 0, 0, 0, false, 0, []⟩ nilS nilS, rfl, frCame_nil _ _ _ rfl rfl⟩, V.out⟩
     ·have bs : (F2.st == 0) = false := by rw [beq_eq_false_iff_ne, hst2]; exact hs0
      have HE := Lib.hid (HG4.trans (by rw [hbd, if_pos (show (fr0 ty fl st pad).st > 0 by show st > 0; omega)]))
      clear hbd HG4 hw hs0 hty hst2 hst0
      go_wp2_with (first
       | (refine gate_load (t := 38) 76 rfl rfl ?_; refine load_ev rfl rfl rfl Kf.out Tryd.underlying38 rfl (by kernel_rfl) ?_)
       | (go_at_call 57; (with_reducible refine (rshort_calls _ ⟨ty, fl, st, [], -1, 0, 0, 0, false, 0, []⟩ nilS nilS b2.length HF.out.1 HF.out.2).mono ?_); rintro e_ w50_ ⟨rfl, h_⟩; have b_ := h_; have q0_ := Aside0.mk (blk_below Kr.out b_); have q1_ := Aside0.mk (blk_below Kn.out b_); have q2_ := Aside0.mk (blk_below Kf.out b_); have q3_ := Aside0.mk (V.out.trans (b_.mono V.out.size)); clear Kr; clear Kn; clear Kf; clear V; have Kr := q0_; have Kn := q1_; have Kf := q2_; have V := q3_; clear q0_ q1_ q2_ q3_; clear b_ h_; dsimp only; rw [HS.out])
       | (refine gate_stored (t := 3) (p := .tmp 88) rfl ?_; refine store_ev rfl rfl rfl (g := gf) (k := 4) (u := (.int .i64 pad)) (cs' := frC ⟨ty, fl, st, [], pad, 0, 0, 0, false, 0, []⟩ nilS nilS) rfl rfl Kf.out (by kernel_rfl) (Nat.le_of_ble_eq_true rfl) rfl rfl ?_; intro w51_ k_ o_; have q0_ := Aside0.mk (o_.blk Kr.out Nr_f.out); have q1_ := Aside0.mk (o_.blk Kn.out Nn_f.out); have q2_ := Aside0.mk (k_); have q3_ := Aside0.mk (o_.below V.out Mf.out); clear Kr; clear Kn; clear Kf; clear V; have Kr := q0_; have Kn := q1_; have Kf := q2_; have V := q3_; clear q0_ q1_ q2_ q3_; clear k_ o_)
       | (refine gate_load (t := 38) 89 rfl rfl ?_; refine load_ev rfl rfl rfl Kf.out Tryd.underlying38 rfl (by kernel_rfl) ?_)
       | (go_at_call 58; (refine (HPT.out _).mono ?_); have Lf := Aside0.mk (blk_lt Kf.out); have Lr := Aside0.mk (blk_lt Kr.out); have LV := Aside0.mk V.out.size; rintro e_ w52_ ⟨⟨v_, rfl, hc_⟩, h_⟩; obtain ⟨Ap, cp, Bp, mp, rfl, hA_, hB_⟩ := hc_; have b_ := h_; have q0_ := Aside0.mk (blk_below Kr.out b_); have q1_ := Aside0.mk (blk_below Kn.out b_); have q2_ := Aside0.mk (blk_below Kf.out b_); have q3_ := Aside0.mk (V.out.trans (b_.mono V.out.size)); clear Kr; clear Kn; clear Kf; clear V; have Kr := q0_; have Kn := q1_; have Kf := q2_; have V := q3_; clear q0_ q1_ q2_ q3_; clear b_ h_; have HC := Aside0.mk (show FrCame _ F2 _ _ from ⟨Ap, cp, Bp, mp, rfl, hA_, hB_⟩); clear hA_ hB_)
       | (refine gate_stored (t := 38) (p := .tmp 4) rfl ?_; refine store_ev rfl rfl rfl (g := gf) (k := 0) (u := (.agg (frC F2 (.slice Ap F2.data.length cp) (.slice Bp F2.sets.length mp)))) (cs' := frC F2 (.slice Ap F2.data.length cp) (.slice Bp F2.sets.length mp)) rfl rfl Kf.out (by kernel_rfl) (Nat.le_of_ble_eq_true rfl) rfl rfl ?_; intro w53_ k_ o_; have q0_ := Aside0.mk (o_.blk Kr.out Nr_f.out); have q1_ := Aside0.mk (o_.blk Kn.out Nn_f.out); have q2_ := Aside0.mk (k_); have q3_ := Aside0.mk (FrCame.only HC.out o_ Lf.out); have q4_ := Aside0.mk (o_.below V.out Mf.out); clear Kr; clear Kn; clear Kf; clear HC; clear V; have Kr := q0_; have Kn := q1_; have Kf := q2_; have HC := q3_; have V := q4_; clear q0_ q1_ q2_ q3_ q4_; clear k_ o_; have y9_ := (blk_cell Kf.out 9).trans (show _ = some (Value.int .u32 F2.win) from rfl))
       | (refine gate_load (t := 5) 93 rfl rfl ?_; refine loadf_ev rfl rfl rfl Kf.out rfl Tryd.underlying5 rfl ?_)
       | (refine gate_load (t := 22) 101 rfl rfl ?_; refine loadf_ev rfl rfl rfl Kf.out rfl Tryd.underlying22 rfl ?_)
       | (refine gate_load (t := 45) 105 rfl rfl ?_; refine load_ev rfl rfl rfl Kn.out Tryd.underlying45 rfl (by kernel_rfl) ?_)
       | (go_at_call 54; (with_reducible refine (fails_calls _ ⟨ty, fl, st, [], -1, 0, 0, 0, false, 0, []⟩ none 0 0 none 0 0 0 0 2 1).mono ?_); rintro e_ w54_ ⟨rfl, h_⟩; have b_ := h_; have q0_ := Aside0.mk (blk_below Kr.out b_); have q1_ := Aside0.mk (blk_below Kn.out b_); have q2_ := Aside0.mk (blk_below Kf.out b_); have q3_ := Aside0.mk (V.out.trans (b_.mono V.out.size)); clear Kr; clear Kn; clear Kf; clear V; have Kr := q0_; have Kn := q1_; have Kf := q2_; have V := q3_; clear q0_ q1_ q2_ q3_; clear b_ h_)
       | (refine gate_stored (t := 45) (p := .tmp 2) rfl ?_; refine store_ev rfl rfl rfl (g := gr) (k := 0) (u := (.agg (fC ⟨ty, fl, st, [], -1, 0, 0, 0, false, 0, []⟩ nilS nilS 2 1))) (cs' := fC ⟨ty, fl, st, [], -1, 0, 0, 0, false, 0, []⟩ nilS nilS 2 1) rfl rfl Kr.out (by kernel_rfl) (Nat.le_of_ble_eq_true rfl) rfl rfl ?_; intro w55_ k_ o_; have q0_ := Aside0.mk (o_.blk Kn.out Nr_n.out.symm); have q1_ := Aside0.mk (o_.blk Kf.out Nr_f.out.symm); have q2_ := Aside0.mk (k_); have q3_ := Aside0.mk (o_.below V.out Mr.out); clear Kn; clear Kf; clear Kr; clear V; have Kn := q0_; have Kf := q1_; have Kr := q2_; have V := q3_; clear q0_ q1_ q2_ q3_; clear k_ o_))
      refine bodyPost_ret (results_cell_row rfl _ _ gr 45 _ (0, 0) _ rfl Kr.out Tryd.underlying45 rfl (by kernel_rfl)) rfl (HP.out _ _ ?_)
      rw [HE.out]
      exact ⟨⟨frC ⟨ty, fl, st, [], -1, 0, 0, 0, false, 0, []⟩ nilS nilS, rfl, frCame_nil _ _ _ rfl rfl⟩, V.out⟩
    ·rw [if_neg (show ¬ ((fr0 ty fl st pad).ty = 8 ∧ F2.win = 0) from hw)] at hbd
     have HE := Lib.hid (HG4.trans (by rw [hbd]))
     by_cases t8 : ty = 8
     ·have b8 : (F2.ty == 8) = true := by rw [beq_iff_eq, hty]; exact t8
      have bw : (F2.win == 0) = false := by rw [beq_eq_false_iff_ne]; exact fun h => hw ⟨t8, h⟩
      clear hbd HG4 hw t8 hty hst2 hst0
      go_wp2_with (first
       | (refine gate_load (t := 38) 76 rfl rfl ?_; refine load_ev rfl rfl rfl Kf.out Tryd.underlying38 rfl (by kernel_rfl) ?_)
       | (go_at_call 57; (with_reducible refine (rshort_calls _ ⟨ty, fl, st, [], -1, 0, 0, 0, false, 0, []⟩ nilS nilS b2.length HF.out.1 HF.out.2).mono ?_); rintro e_ w50_ ⟨rfl, h_⟩; have b_ := h_; have q0_ := Aside0.mk (blk_below Kr.out b_); have q1_ := Aside0.mk (blk_below Kn.out b_); have q2_ := Aside0.mk (blk_below Kf.out b_); have q3_ := Aside0.mk (V.out.trans (b_.mono V.out.size)); clear Kr; clear Kn; clear Kf; clear V; have Kr := q0_; have Kn := q1_; have Kf := q2_; have V := q3_; clear q0_ q1_ q2_ q3_; clear b_ h_; dsimp only; rw [HS.out])
       | (refine gate_stored (t := 3) (p := .tmp 88) rfl ?_; refine store_ev rfl rfl rfl (g := gf) (k := 4) (u := (.int .i64 pad)) (cs' := frC ⟨ty, fl, st, [], pad, 0, 0, 0, false, 0, []⟩ nilS nilS) rfl rfl Kf.out (by kernel_rfl) (Nat.le_of_ble_eq_true rfl) rfl rfl ?_; intro w51_ k_ o_; have q0_ := Aside0.mk (o_.blk Kr.out Nr_f.out); have q1_ := Aside0.mk (o_.blk Kn.out Nn_f.out); have q2_ := Aside0.mk (k_); have q3_ := Aside0.mk (o_.below V.out Mf.out); clear Kr; clear Kn; clear Kf; clear V; have Kr := q0_; have Kn := q1_; have Kf := q2_; have V := q3_; clear q0_ q1_ q2_ q3_; clear k_ o_)
       | (refine gate_load (t := 38) 89 rfl rfl ?_; refine load_ev rfl rfl rfl Kf.out Tryd.underlying38 rfl (by kernel_rfl) ?_)
       | (go_at_call 58; (refine (HPT.out _).mono ?_); have Lf := Aside0.mk (blk_lt Kf.out); have Lr := Aside0.mk (blk_lt Kr.out); have LV := Aside0.mk V.out.size; rintro e_ w52_ ⟨⟨v_, rfl, hc_⟩, h_⟩; obtain ⟨Ap, cp, Bp, mp, rfl, hA_, hB_⟩ := hc_; have b_ := h_; have q0_ := Aside0.mk (blk_below Kr.out b_); have q1_ := Aside0.mk (blk_below Kn.out b_); have q2_ := Aside0.mk (blk_below Kf.out b_); have q3_ := Aside0.mk (V.out.trans (b_.mono V.out.size)); clear Kr; clear Kn; clear Kf; clear V; have Kr := q0_; have Kn := q1_; have Kf := q2_; have V := q3_; clear q0_ q1_ q2_ q3_; clear b_ h_; have HC := Aside0.mk (show FrCame _ F2 _ _ from ⟨Ap, cp, Bp, mp, rfl, hA_, hB_⟩); clear hA_ hB_)
       | (refine gate_stored (t := 38) (p := .tmp 4) rfl ?_; refine store_ev rfl rfl rfl (g := gf) (k := 0) (u := (.agg (frC F2 (.slice Ap F2.data.length cp) (.slice Bp F2.sets.length mp)))) (cs' := frC F2 (.slice Ap F2.data.length cp) (.slice Bp F2.sets.length mp)) rfl rfl Kf.out (by kernel_rfl) (Nat.le_of_ble_eq_true rfl) rfl rfl ?_; intro w53_ k_ o_; have q0_ := Aside0.mk (o_.blk Kr.out Nr_f.out); have q1_ := Aside0.mk (o_.blk Kn.out Nn_f.out); have q2_ := Aside0.mk (k_); have q3_ := Aside0.mk (FrCame.only HC.out o_ Lf.out); have q4_ := Aside0.mk (o_.below V.out Mf.out); clear Kr; clear Kn; clear Kf; clear HC; clear V; have Kr := q0_; have Kn := q1_; have Kf := q2_; have HC := q3_; have V := q4_; clear q0_ q1_ q2_ q3_ q4_; clear k_ o_; have y9_ := (blk_cell Kf.out 9).trans (show _ = some (Value.int .u32 F2.win) from rfl))
       | (refine gate_load (t := 5) 93 rfl rfl ?_; refine loadf_ev rfl rfl rfl Kf.out rfl Tryd.underlying5 rfl ?_)
       | (refine gate_load (t := 38) 107 rfl rfl ?_; refine load_ev rfl rfl rfl Kf.out Tryd.underlying38 rfl (by kernel_rfl) ?_)
       | (refine gate_stored (t := 45) (p := .tmp 2) rfl ?_; refine store_ev rfl rfl rfl (g := gr) (k := 0) (u := (.agg (fC F2 (.slice Ap F2.data.length cp) (.slice Bp F2.sets.length mp) 0 0))) (cs' := fC F2 (.slice Ap F2.data.length cp) (.slice Bp F2.sets.length mp) 0 0) rfl rfl Kr.out (by kernel_rfl) (Nat.le_of_ble_eq_true rfl) rfl rfl ?_; intro w54_ k_ o_; have q0_ := Aside0.mk (o_.blk Kn.out Nr_n.out.symm); have q1_ := Aside0.mk (o_.blk Kf.out Nr_f.out.symm); have q2_ := Aside0.mk (k_); have q3_ := Aside0.mk (FrCame.only HC.out o_ Lr.out); have q4_ := Aside0.mk (o_.below V.out Mr.out); clear Kn; clear Kf; clear Kr; clear HC; clear V; have Kn := q0_; have Kf := q1_; have Kr := q2_; have HC := q3_; have V := q4_; clear q0_ q1_ q2_ q3_ q4_; clear k_ o_))
      refine bodyPost_ret (results_cell_row rfl _ _ gr 45 _ (0, 0) _ rfl Kr.out Tryd.underlying45 rfl (by kernel_rfl)) rfl (HP.out _ _ ?_)
      rw [HE.out]
      exact ⟨⟨_, rfl, FrCame.mono HC.out LV.out⟩, V.out⟩
     ·have b8 : (F2.ty == 8) = false := by rw [beq_eq_false_iff_ne, hty]; exact t8
      clear hbd HG4 hw t8 hty hst2 hst0
      go_wp2_with (first
       | (refine gate_load (t := 38) 76 rfl rfl ?_; refine load_ev rfl rfl rfl Kf.out Tryd.underlying38 rfl (by kernel_rfl) ?_)
       | (go_at_call 57; (with_reducible refine (rshort_calls _ ⟨ty, fl, st, [], -1, 0, 0, 0, false, 0, []⟩ nilS nilS b2.length HF.out.1 HF.out.2).mono ?_); rintro e_ w50_ ⟨rfl, h_⟩; have b_ := h_; have q0_ := Aside0.mk (blk_below Kr.out b_); have q1_ := Aside0.mk (blk_below Kn.out b_); have q2_ := Aside0.mk (blk_below Kf.out b_); have q3_ := Aside0.mk (V.out.trans (b_.mono V.out.size)); clear Kr; clear Kn; clear Kf; clear V; have Kr := q0_; have Kn := q1_; have Kf := q2_; have V := q3_; clear q0_ q1_ q2_ q3_; clear b_ h_; dsimp only; rw [HS.out])
       | (refine gate_stored (t := 3) (p := .tmp 88) rfl ?_; refine store_ev rfl rfl rfl (g := gf) (k := 4) (u := (.int .i64 pad)) (cs' := frC ⟨ty, fl, st, [], pad, 0, 0, 0, false, 0, []⟩ nilS nilS) rfl rfl Kf.out (by kernel_rfl) (Nat.le_of_ble_eq_true rfl) rfl rfl ?_; intro w51_ k_ o_; have q0_ := Aside0.mk (o_.blk Kr.out Nr_f.out); have q1_ := Aside0.mk (o_.blk Kn.out Nn_f.out); have q2_ := Aside0.mk (k_); have q3_ := Aside0.mk (o_.below V.out Mf.out); clear Kr; clear Kn; clear Kf; clear V; have Kr := q0_; have Kn := q1_; have Kf := q2_; have V := q3_; clear q0_ q1_ q2_ q3_; clear k_ o_)
       | (refine gate_load (t := 38) 89 rfl rfl ?_; refine load_ev rfl rfl rfl Kf.out Tryd.underlying38 rfl (by kernel_rfl) ?_)
       | (go_at_call 58; (refine (HPT.out _).mono ?_); have Lf := Aside0.mk (blk_lt Kf.out); have Lr := Aside0.mk (blk_lt Kr.out); have LV := Aside0.mk V.out.size; rintro e_ w52_ ⟨⟨v_, rfl, hc_⟩, h_⟩; obtain ⟨Ap, cp, Bp, mp, rfl, hA_, hB_⟩ := hc_; have b_ := h_; have q0_ := Aside0.mk (blk_below Kr.out b_); have q1_ := Aside0.mk (blk_below Kn.out b_); have q2_ := Aside0.mk (blk_below Kf.out b_); have q3_ := Aside0.mk (V.out.trans (b_.mono V.out.size)); clear Kr; clear Kn; clear Kf; clear V; have Kr := q0_; have Kn := q1_; have Kf := q2_; have V := q3_; clear q0_ q1_ q2_ q3_; clear b_ h_; have HC := Aside0.mk (show FrCame _ F2 _ _ from ⟨Ap, cp, Bp, mp, rfl, hA_, hB_⟩); clear hA_ hB_)
       | (refine gate_stored (t := 38) (p := .tmp 4) rfl ?_; refine store_ev rfl rfl rfl (g := gf) (k := 0) (u := (.agg (frC F2 (.slice Ap F2.data.length cp) (.slice Bp F2.sets.length mp)))) (cs' := frC F2 (.slice Ap F2.data.length cp) (.slice Bp F2.sets.length mp)) rfl rfl Kf.out (by kernel_rfl) (Nat.le_of_ble_eq_true rfl) rfl rfl ?_; intro w53_ k_ o_; have q0_ := Aside0.mk (o_.blk Kr.out Nr_f.out); have q1_ := Aside0.mk (o_.blk Kn.out Nn_f.out); have q2_ := Aside0.mk (k_); have q3_ := Aside0.mk (FrCame.only HC.out o_ Lf.out); have q4_ := Aside0.mk (o_.below V.out Mf.out); clear Kr; clear Kn; clear Kf; clear HC; clear V; have Kr := q0_; have Kn := q1_; have Kf := q2_; have HC := q3_; have V := q4_; clear q0_ q1_ q2_ q3_ q4_; clear k_ o_; have y9_ := (blk_cell Kf.out 9).trans (show _ = some (Value.int .u32 F2.win) from rfl))
       | (refine gate_load (t := 5) 93 rfl rfl ?_; refine loadf_ev rfl rfl rfl Kf.out rfl Tryd.underlying5 rfl ?_)
       | (refine gate_load (t := 38) 107 rfl rfl ?_; refine load_ev rfl rfl rfl Kf.out Tryd.underlying38 rfl (by kernel_rfl) ?_)
       | (refine gate_stored (t := 45) (p := .tmp 2) rfl ?_; refine store_ev rfl rfl rfl (g := gr) (k := 0) (u := (.agg (fC F2 (.slice Ap F2.data.length cp) (.slice Bp F2.sets.length mp) 0 0))) (cs' := fC F2 (.slice Ap F2.data.length cp) (.slice Bp F2.sets.length mp) 0 0) rfl rfl Kr.out (by kernel_rfl) (Nat.le_of_ble_eq_true rfl) rfl rfl ?_; intro w54_ k_ o_; have q0_ := Aside0.mk (o_.blk Kn.out Nr_n.out.symm); have q1_ := Aside0.mk (o_.blk Kf.out Nr_f.out.symm); have q2_ := Aside0.mk (k_); have q3_ := Aside0.mk (FrCame.only HC.out o_ Lr.out); have q4_ := Aside0.mk (o_.below V.out Mr.out); clear Kn; clear Kf; clear Kr; clear HC; clear V; have Kn := q0_; have Kf := q1_; have Kr := q2_; have HC := q3_; have V := q4_; clear q0_ q1_ q2_ q3_ q4_; clear k_ o_))
      refine bodyPost_ret (results_cell_row rfl _ _ gr 45 _ (0, 0) _ rfl Kr.out Tryd.underlying45 rfl (by kernel_rfl)) rfl (HP.out _ _ ?_)
      rw [HE.out]
      exact ⟨⟨_, rfl, FrCame.mono HC.out LV.out⟩, V.out⟩

theorem eqSet (d : Nat) (w : World) (x0 y0 : Int) (x1 y1 : Int) :
  (Op.equalIn (d + 2) 99 (.agg #[.int .u16 x0, .int .u32 x1]) (.agg #[.int .u16 y0, .int .u32 y1])).run Tryd.prog w = .ok (x0 == y0 && (x1 == y1)) w := by
 refine eqA_of Tryd.underlying99 (by kernel_rfl) ?_
 refine eqf_cons (by rfl) (by go_simp; rfl) (by go_simp; rfl) (by go_simp) ?_
 exact eqf_last (by rfl) (by go_simp; rfl) (by go_simp; rfl) (by go_simp)
attribute [local go_sem high] eqSet
set_option maxHeartbeats 8000000 in
set_option maxRecDepth 100000 in
theorem rsame_calls (w : World) (F : Fr) (A A' B B' : Option Addr) (c c' m m' : Nat) (hA : ReadsInt w .u8 A F.data.length F.data) (hc : F.data.length ≤ c) (hA' : ReadsInt w .u8 A' F.data.length F.data) (hc' : F.data.length ≤ c')
  (hB : k99.C w B F.sets.length F.sets) (hB' : k99.C w B' F.sets.length F.sets) (hl : F.sets.length ≤ 1000000) :
  Calls Tryd.prog 28 #[.agg (frC F (.slice A F.data.length c) (.slice B F.sets.length m)), .agg (frC F (.slice A' F.data.length c') (.slice B' F.sets.length m'))] w fun e w' => e = .returned (.bool true) ∧ Below w.heap.size w w' := by
 refine of_post0 fun R hRR => ?_
 have HP := Lib.hid hRR
 have HA := Lib.hid (And.intro hA (And.intro hc (And.intro hA' hc')))
 have HBB := Lib.hid (And.intro hB (And.intro hB' hl))
 clear hRR hA hc hA' hc' hB hB' hl
 have V := Aside0.mk (Below.refl w.heap.size w)
 go_enter Tryd.func28, Tryd.ntmps28
 go_wp2_with (first
  | (refine gate_box 2 rfl rfl ?_; refine make_ev rfl (cs := frC F (.slice A F.data.length c) (.slice B F.sets.length m)) (t := 38) (by first | (go_simp; done) | (go_simp; rfl)) ?_; intro ga hg_ w0_ k_ z_ b_; have Ma := Aside0.mk (show w.heap.size ≤ ga by rw [hg_]; exact V.out.size); have q0_ := Aside0.mk (V.out.trans (b_.mono V.out.size)); clear V; have V := q0_; clear q0_; have Ka := Aside0.mk k_; clear hg_ k_ z_ b_)
  | (refine gate_box 3 rfl rfl ?_; refine make_ev rfl (cs := frC F (.slice A' F.data.length c') (.slice B' F.sets.length m')) (t := 38) (by first | (go_simp; done) | (go_simp; rfl)) ?_; intro gb hg_ w1_ k_ z_ b_; have Na_b := Aside0.mk (show ga ≠ gb by rw [hg_]; exact Nat.ne_of_lt (blk_lt Ka.out)); have Mb := Aside0.mk (show w.heap.size ≤ gb by rw [hg_]; exact V.out.size); have q0_ := Aside0.mk (blk_below Ka.out b_); have q1_ := Aside0.mk (V.out.trans (b_.mono V.out.size)); clear Ka; clear V; have Ka := q0_; have V := q1_; clear q0_ q1_; have Kb := Aside0.mk k_; clear hg_ k_ z_ b_; have x0_ := (blk_cell Ka.out 0).trans (show _ = some (Value.int .u8 F.ty) from rfl); have x1_ := (blk_cell Ka.out 1).trans (show _ = some (Value.int .u8 F.fl) from rfl); have x2_ := (blk_cell Ka.out 2).trans (show _ = some (Value.int .u32 F.st) from rfl); have x3_ := (blk_cell Ka.out 3).trans (show _ = some (Value.slice A F.data.length c) from rfl); have x4_ := (blk_cell Ka.out 4).trans (show _ = some (Value.int .i64 F.pad) from rfl); have x5_ := (blk_cell Ka.out 5).trans (show _ = some (Value.int .u32 F.code) from rfl); have x6_ := (blk_cell Ka.out 6).trans (show _ = some (Value.int .u32 F.oth) from rfl); have x7_ := (blk_cell Ka.out 7).trans (show _ = some (Value.int .u8 F.wgt) from rfl); have x8_ := (blk_cell Ka.out 8).trans (show _ = some (Value.bool F.al) from rfl); have x9_ := (blk_cell Ka.out 9).trans (show _ = some (Value.int .u32 F.win) from rfl); have x10_ := (blk_cell Ka.out 10).trans (show _ = some (Value.slice B F.sets.length m) from rfl); have y0_ := (blk_cell Kb.out 0).trans (show _ = some (Value.int .u8 F.ty) from rfl); have y1_ := (blk_cell Kb.out 1).trans (show _ = some (Value.int .u8 F.fl) from rfl); have y2_ := (blk_cell Kb.out 2).trans (show _ = some (Value.int .u32 F.st) from rfl); have y3_ := (blk_cell Kb.out 3).trans (show _ = some (Value.slice A' F.data.length c') from rfl); have y4_ := (blk_cell Kb.out 4).trans (show _ = some (Value.int .i64 F.pad) from rfl); have y5_ := (blk_cell Kb.out 5).trans (show _ = some (Value.int .u32 F.code) from rfl); have y6_ := (blk_cell Kb.out 6).trans (show _ = some (Value.int .u32 F.oth) from rfl); have y7_ := (blk_cell Kb.out 7).trans (show _ = some (Value.int .u8 F.wgt) from rfl); have y8_ := (blk_cell Kb.out 8).trans (show _ = some (Value.bool F.al) from rfl); have y9_ := (blk_cell Kb.out 9).trans (show _ = some (Value.int .u32 F.win) from rfl); have y10_ := (blk_cell Kb.out 10).trans (show _ = some (Value.slice B' F.sets.length m') from rfl); have cv := string_of_reads (c := c) Tryd.underlying35 Tryd.underlying5 Tryd.underlying9 (HA.out.1.below V.out); have cv' := string_of_reads (c := c') Tryd.underlying35 Tryd.underlying5 Tryd.underlying9 (HA.out.2.2.1.below V.out)))
 go_loopg [88] F.sets.length (fun k v wr => ∃ j : Nat, v = .int .i64 (j : Int) ∧ j + k = F.sets.length ∧ Aside0 (wr.heap[ga]? = some (.cells (frC F (.slice A F.data.length c) (.slice B F.sets.length m)) 38 (0, 0))) ∧ Aside0 (wr.heap[gb]? = some (.cells (frC F (.slice A' F.data.length c') (.slice B' F.sets.length m')) 38 (0, 0))) ∧ Aside0 (Below w.heap.size w wr))
 case atStart => exact ⟨0, rfl, by omega, Ka, Kb, V⟩
 case round =>
  obtain ⟨j, rfl, hj, Ka', Kb', V'⟩ := hrel
  cases gk with
  | zero =>
   have d0 : decide ((j : Int) < (F.sets.length : Int)) = false := by rw [decide_eq_false_iff_not]; omega
   have d1 : decide (j < F.sets.length) = false := by rw [decide_eq_false_iff_not]; omega
   clear hj
   go_wp2_with fail
   exact HP.out _ _ ⟨rfl, V'.out⟩
  | succ k =>
   have hlm := HBB.out.2.2
   have p0 : (0 : Int) ≤ (j : Int) := by omega
   have q0 : (j : Int) < (F.sets.length : Int) := by omega
   have d0 : decide ((j : Int) < (F.sets.length : Int)) = true := decide_eq_true q0
   have d1 : decide (j < F.sets.length) = true := decide_eq_true (by omega)
   have d2 : j < F.sets.length := by omega
   obtain ⟨ad, e1, ha0, ha1⟩ := at_T99 (Kd.C_below HBB.out.1 V'.out) (j : Int) p0 q0
   obtain ⟨bd, e2, hb0, hb1⟩ := at_T99 (Kd.C_below HBB.out.2.1 V'.out) (j : Int) p0 q0
   subst e1 e2
   have x10 := (blk_cell Ka'.out 10).trans (show _ = some (Value.slice (some ad) F.sets.length m) from rfl)
   have y10 := (blk_cell Kb'.out 10).trans (show _ = some (Value.slice (some bd) F.sets.length m') from rfl)
   have hw : wrap64 ((j : Int) + 1) = ((j + 1 : Nat) : Int) := by rw [wrap_okF (by omega) (by omega)]; omega
   generalize rd_T99 F.sets (j : Int) = sv at ha0 ha1 hb0 hb1
   simp only [Int.toNat_natCast] at ha0 ha1 hb0 hb1
   go_wp2_with fail
   go_region
   go_wp2_with fail
   go_roundg k
   case measure => omega
   case rel => exact ⟨j + 1, by first | rfl | (simp; done), by omega, Aside0.mk (by first | exact Ka'.out | exact blk_drew Ka'.out), Aside0.mk (by first | exact Kb'.out | exact blk_drew Kb'.out), Aside0.mk (by first | exact V'.out | exact V'.out.trans ((below_drew (Below.refl _ _)).mono V'.out.size))⟩
end Go.Proofs.YtjjfkmniffbgkaaDoor

/- The reference of frames: Number. -/
namespace Go.Proofs.YtjjfkmniffbgkaaDoor
set_option linter.unusedVariables false
set_option linter.unusedSimpArgs false
open Go.RowKit Go.Proofs.YtjjfkmniffbgkaaDoorW.PrintWords Go.Proofs.YtjjfkmniffbgkaaDoorW.PrintLast Go.Proofs.YtjjfkmniffbgkaaDoorW.PrintMore Go.Proofs.YtjjfkmniffbgkaaDoor.QFrmA Go.Proofs.YtjjfkmniffbgkaaDoor.Given Go.Extern.Stop Go.Stop Go.Extern Go.Maps
def beL (n : Int) : Nat → List Int
 | 0 => []
 | m + 1 => (n / 2 ^ (8 * m)) % 256 :: beL n m
theorem beL_length (n : Int) : ∀ m, (beL n m).length = m
 | 0 => rfl
 | m + 1 => by simp [beL, beL_length n m]
theorem strs_append (a b : List Int) : strOfNums a ++ strOfNums b = strOfNums (a ++ b) := by
 refine bytes_ext ?_
 simp [strOfNums]
theorem beL_snoc (n : Int) : ∀ m, beL n (m + 1) = beL (n / 256) m ++ [n % 256]
 | 0 => by simp [beL]
 | m + 1 => by
  rw [beL, beL_snoc n m, beL, List.cons_append]
  congr 2
  rw [show 8 * (m + 1) = 8 + 8 * m by omega, Int.pow_add]
  rw [Int.ediv_ediv]
  simp
theorem ev_number_ref_loop (size : Nat) : ∀ (d i : Nat) (n : Int) (s : ByteArray), i + d = size → size ≤ 8 → 0 ≤ n → n ≤ 18446744073709551615 → s.size ≤ 100 + i → Ev (fun k => QFrmN.louverref07_Number.l0 k n (size : Int) s (i : Int)) (strOfNums (beL n d) ++ s)
 | 0, i, n, s, hi, hs, h0, h1, hz => by
  refine Ev.step (f := fun _ => some s) (fun k => ?_) ?_
  ·simp only [QFrmN.louverref07_Number.l0]
   rw [if_neg (by omega)]
  ·have e : strOfNums (beL n 0) ++ s = s := by
    refine bytes_ext ?_
    simp [beL, strOfNums]
   rw [e]
   exact Ev.now s
 | d + 1, i, n, s, hi, hs, h0, h1, hz => by
  have em : (Int.tmod n 256) % 256 = n % 256 := by
   rw [Int.tmod_eq_emod_of_nonneg h0]
   omega
  have ed : IntKind.u64.wrap (Int.tdiv n 256) = n / 256 := by
   rw [Int.tdiv_eq_ediv_of_nonneg h0]
   simp [IntKind.wrap, IntKind.bits, IntKind.signed]
   omega
  have h1s : (strOfNums [n % 256]).size = 1 := str_size _
  have ih := ev_number_ref_loop size d (i + 1) (n / 256) (strOfNums [n % 256] ++ s) (by omega) hs (by omega) (by omega) (by rw [ByteArray.size_append, h1s]; omega)
  refine Ev.step (f := fun k => QFrmN.louverref07_Number.l0 k (n / 256) (size : Int) (strOfNums [n % 256] ++ s) ((i + 1 : Nat) : Int)) (fun k => ?_) ?_
  ·simp only [QFrmN.louverref07_Number.l0]
   rw [if_pos (by omega), em, ed]
   simp only [Option.bind_some]
   rw [if_pos (by rw [h1s]; omega), wrap_okF (by omega) (by omega)]
   rfl
  ·have e : strOfNums (beL (n / 256) d) ++ (strOfNums [n % 256] ++ s) = strOfNums (beL n (d + 1)) ++ s := by
    rw [beL_snoc, ← strs_append, ByteArray.append_assoc]
   rw [e] at ih
   exact ih
theorem rnumber_calls (w : World) (n : Int) (m : Nat) (hm : m ≤ 8) (h0 : 0 ≤ n) (h1 : n ≤ 18446744073709551615) : Calls Tryd.prog 30 #[.int .u64 n, .int .i64 (m : Int)] w fun e w' => e = .returned (.string (strOfNums (beL n m))) ∧ Below w.heap.size w w' := by
 have h := ev_number_ref_loop m m 0 n ⟨#[]⟩ (by omega) hm h0 h1 (by decide)
 have e : strOfNums (beL n m) ++ (⟨#[]⟩ : ByteArray) = strOfNums (beL n m) := by
  refine bytes_ext ?_
  simp
 rw [e] at h
 obtain ⟨k, hk⟩ := h.rounds
 exact QFrmN.louverref07_Number.calls k n m _ w hk
end Go.Proofs.YtjjfkmniffbgkaaDoor

/- Steps of a walk over structs in blocks: more of them. No program. -/
namespace Go.Proofs.YtjjfkmniffbgkaaDoor
set_option linter.unusedVariables false
set_option linter.unusedSimpArgs false
open Go.RowKit Go.Proofs.YtjjfkmniffbgkaaDoorW.PrintWords

inductive Own where
 | obj (g : Nat) (o : Obj)
 | row (e : TypeId) (size : Nat) (v : Value) (n : Nat) (xs : List Value)
 | rd (k : IntKind) (A : Option Addr) (n : Nat) (xs : List Int)
 | thing (bs : List Nat) (p : World → Prop) (st : ∀ W W1 : World, p W → (∀ k ∈ bs, W1.heap[k]? = W.heap[k]?) → p W1) (lt : ∀ (W : World) (k : Nat), p W → k ∈ bs → k < W.heap.size)
abbrev cl (g : Nat) (cs : List Value) (ty : TypeId) : Own := .obj g (.cells cs.toArray ty (0, 0))
abbrev nrow (e : TypeId) (v : Value) (k : IntKind) (xs : List Int) : Own := .row e 1 v xs.length (nums k xs)
def Own.at_ : Own → List Nat
 | .obj g _ => [g]
 | .row _ _ v _ _ => v.ownBlock.toList
 | .rd _ A n _ => if n = 0 then [] else (A.map (·.block)).toList
 | .thing bs _ _ _ => bs
def Own.ok (W : World) : Own → Prop
 | .obj g o => W.heap[g]? = some o
 | .row e size v n xs => W.ownsRow 0 e size v n xs
 | .rd k A n xs => ReadsInt W k A n xs
 | .thing _ p _ _ => p W
def ats (l : List Own) : List Nat := l.flatMap Own.at_
structure Kept (W W1 : World) (ts : List Nat) : Prop where
 os : W1.os = W.os
 tape : W1.tape = W.tape
 output : W1.output = W.output
 size : W.heap.size ≤ W1.heap.size
 block : ∀ k, k < W.heap.size → k ∉ ts → W1.heap[k]? = W.heap[k]?
structure Hold (w W : World) (t : List Nat) (l : List Own) : Prop where
 kept : Kept w W t
 ok : ∀ o ∈ l, o.ok W
 apart : l.Pairwise fun a b => ∀ k ∈ a.at_, k ∉ b.at_
 mine : ∀ o ∈ l, ∀ k ∈ o.at_, w.heap.size ≤ k ∨ k ∈ t
theorem Kept.refl (W : World) (ts : List Nat) : Kept W W ts := ⟨rfl, rfl, rfl, Nat.le_refl _, fun _ _ _ => rfl⟩
theorem Kept.below {W W1 : World} (h : Kept W W1 []) : Below W.heap.size W W1 := ⟨h.os, h.tape, h.output, h.size, fun k hk => h.block k hk (by simp)⟩
theorem Kept.of_below {W W1 : World} (h : Below W.heap.size W W1) : Kept W W1 [] := ⟨h.os, h.tape, h.output, h.size, fun k hk _ => h.block k hk⟩
theorem Own.ok.lt {W : World} {o : Own} (h : o.ok W) {k : Nat} (hk : k ∈ o.at_) : k < W.heap.size := by
 cases o with
 | obj g o => obtain rfl := List.mem_singleton.1 hk; exact (Array.getElem?_eq_some_iff.1 h).1
 | row e size v n xs => exact own_lt h k (Option.mem_toList.1 hk)
 | rd kk A n xs =>
  have hk' : k ∈ (if n = 0 then [] else (A.map (·.block)).toList) := hk
  split at hk'
  ·cases hk'
  ·obtain ⟨ad, rfl, hc⟩ := h.2.2 (by omega)
   simp only [Option.map_some, Option.mem_toList, Option.mem_def, Option.some.injEq] at hk'
   have := World.block_lt_of_cell? W _ (hc 0 (by omega))
   rw [add_block] at this
   omega
 | thing b p st lt => exact lt W k h hk
theorem Own.ok.kept {W W1 : World} {o : Own} (h : o.ok W) (hb : ∀ k ∈ o.at_, W1.heap[k]? = W.heap[k]?) : o.ok W1 := by
 cases o with
 | obj g o => exact (hb g (List.mem_singleton.2 rfl)).trans h
 | row e size v n xs =>
  refine ⟨h.1, ?_⟩
  rcases h.2 with h2 | ⟨g, cap, cur, rfl, h3, h4, h5⟩
  ·exact .inl h2
  ·exact .inr ⟨g, cap, cur, rfl, h3, (hb g (Option.mem_toList.2 rfl)).trans h4, h5⟩
 | rd kk A n xs =>
  refine ⟨h.1, h.2.1, fun hn => ?_⟩
  obtain ⟨ad, rfl, hc⟩ := h.2.2 hn
  refine ⟨ad, rfl, fun j hj => ?_⟩
  rw [← hc j hj]
  refine World.cell?_of_block ?_
  rw [add_block]
  refine hb _ ?_
  show ad.block ∈ (if n = 0 then [] else ((some ad).map (·.block)).toList)
  rw [if_neg (by omega)]
  exact Option.mem_toList.2 rfl
 | thing b p st lt => exact st W W1 h hb
theorem Hold.start {W : World} {l : List Own} (ok : ∀ o ∈ l, o.ok W) (ap : l.Pairwise fun a b => ∀ k ∈ a.at_, k ∉ b.at_) : Hold W W (ats l) l :=
 ⟨Kept.refl _ _, ok, ap, fun o ho k hk => .inr (List.mem_flatMap.2 ⟨o, ho, hk⟩)⟩
theorem no_own {p : Own → Prop} : ∀ o ∈ ([] : List Own), p o := fun _ h => by cases h
theorem Hold.nothing {W W1 : World} (h : Kept W W1 []) : Hold W W1 [] [] := ⟨h, no_own, List.Pairwise.nil, no_own⟩
theorem Hold.call {w W W1 : World} {t : List Nat} {l0 l1 r : List Own} (H : Hold w W t (l0 ++ r)) (C : Hold W W1 (ats l0) l1) : Hold w W1 t (l1 ++ r) := by
 have hr : ∀ o ∈ r, ∀ k ∈ o.at_, k ∉ ats l0 ∧ k < W.heap.size := fun o ho k hk => by
  refine ⟨fun hm => ?_, (H.ok o (List.mem_append_right _ ho)).lt hk⟩
  obtain ⟨o0, h0, hk0⟩ := List.mem_flatMap.1 hm
  exact (List.pairwise_append.1 H.apart).2.2 o0 h0 o ho k hk0 hk
 refine ⟨⟨C.kept.os.trans H.kept.os, C.kept.tape.trans H.kept.tape, C.kept.output.trans H.kept.output, Nat.le_trans H.kept.size C.kept.size, fun k hk hn => ?_⟩, fun o ho => ?_, List.pairwise_append.2 ⟨C.apart, (List.pairwise_append.1 H.apart).2.1, fun a ha b hb k hka hkb => ?_⟩, fun o ho k hk => ?_⟩
 ·refine (C.kept.block k (Nat.lt_of_lt_of_le hk H.kept.size) fun hm => ?_).trans (H.kept.block k hk hn)
  obtain ⟨o0, h0, hk0⟩ := List.mem_flatMap.1 hm
  rcases H.mine o0 (List.mem_append_left _ h0) k hk0 with h | h
  ·omega
  ·exact hn h
 ·rcases List.mem_append.1 ho with h | h
  ·exact C.ok o h
  ·exact (H.ok o (List.mem_append_right _ h)).kept fun k hk => C.kept.block k (hr o h k hk).2 (hr o h k hk).1
 ·have := hr b hb k hkb
  rcases C.mine a ha k hka with h | h
  ·omega
  ·exact this.1 h
 ·rcases List.mem_append.1 ho with h | h
  ·rcases C.mine o h k hk with h' | h'
   ·exact .inl (Nat.le_trans H.kept.size h')
   ·obtain ⟨o0, h0, hk0⟩ := List.mem_flatMap.1 h'
    exact H.mine o0 (List.mem_append_left _ h0) k hk0
  ·exact H.mine o (List.mem_append_right _ h) k hk
theorem Hold.below {w W W1 : World} {t : List Nat} {l : List Own} (H : Hold w W t l) (h : Below W.heap.size W W1) : Hold w W1 t l :=
 Hold.call (l0 := []) (l1 := []) H (Hold.nothing (Kept.of_below h))
theorem Hold.perm {w W : World} {t : List Nat} {l l' : List Own} (H : Hold w W t l) (h : l.Perm l') : Hold w W t l' :=
 ⟨H.kept, fun o ho => H.ok o (h.mem_iff.2 ho), (h.pairwise_iff (R := fun a b : Own => ∀ k ∈ a.at_, k ∉ b.at_) fun hab k hb ha => hab k ha hb).1 H.apart, fun o ho => H.mine o (h.mem_iff.2 ho)⟩
theorem Hold.sub {w W : World} {t : List Nat} {l l' : List Own} (H : Hold w W t l) (h : l'.Sublist l) : Hold w W t l' :=
 ⟨H.kept, fun o ho => H.ok o (h.subset ho), H.apart.sublist h, fun o ho => H.mine o (h.subset ho)⟩
inductive Put : List Own → Own → Own → List Own → Prop
 | head {x y : Own} {r : List Own} : Put (x :: r) x y (y :: r)
 | tail {x y z : Own} {r r' : List Own} (h : Put r x y r') : Put (z :: r) x y (z :: r')
theorem Put.perm {l l' : List Own} {x y : Own} (h : Put l x y l') : ∃ r, l.Perm (x :: r) ∧ l'.Perm (y :: r) := by
 induction h with
 | head => exact ⟨_, List.Perm.refl _, List.Perm.refl _⟩
 | tail _ ih =>
  obtain ⟨r, h1, h2⟩ := ih
  exact ⟨_, (h1.cons _).trans (List.Perm.swap _ _ _), (h2.cons _).trans (List.Perm.swap _ _ _)⟩
theorem Hold.put {w W W1 : World} {t : List Nat} {l l' : List Own} {x y : Own} (H : Hold w W t l) (hp : Put l x y l') (C : Hold W W1 (ats [x]) [y]) : Hold w W1 t l' := by
 obtain ⟨r, h1, h2⟩ := hp.perm
 exact (Hold.call (l0 := [x]) (l1 := [y]) (H.perm h1) C).perm h2.symm
theorem Hold.push {w W W1 : World} {t : List Nat} {l l1 : List Own} (H : Hold w W t l) (C : Hold W W1 [] l1) : Hold w W1 t (l1 ++ l) := Hold.call (l0 := []) H C
theorem Hold.at_ {w W : World} {t : List Nat} {l : List Own} (H : Hold w W t l) {x : Own} (h : x ∈ l) : x.ok W := H.ok x h
theorem Hold.blk {w W : World} {t : List Nat} {l : List Own} (H : Hold w W t l) {g : Nat} {cs : List Value} {ty : TypeId} (h : cl g cs ty ∈ l) : W.heap[g]? = some (.cells cs.toArray ty (0, 0)) := H.ok _ h
theorem Hold.cell {w W : World} {t : List Nat} {l : List Own} (H : Hold w W t l) {g : Nat} {cs : List Value} {ty : TypeId} (h : cl g cs ty ∈ l) (k : Nat) : W.cell? ⟨g, k, Option.none⟩ = cs[k]? := by
 rw [blk_cell (H.blk h) k, List.getElem?_toArray]
theorem Hold.row {w W : World} {t : List Nat} {l : List Own} (H : Hold w W t l) {e : TypeId} {v : Value} {k : IntKind} {xs : List Int} (h : nrow e v k xs ∈ l) : W.ownsRow 0 e 1 v xs.length (nums k xs) := H.ok _ h
theorem Hold.grow {w W : World} {t : List Nat} {l : List Own} (H : Hold w W t l) (h : ∀ k ∈ t, w.heap.size ≤ k) : Below w.heap.size w W := ⟨H.kept.os, H.kept.tape, H.kept.output, H.kept.size, fun k hk => H.kept.block k hk fun hm => by have := h k hm; omega⟩
theorem Hold.rd {w W : World} {t : List Nat} {l : List Own} (H : Hold w W t l) {k : IntKind} {A : Option Addr} {n : Nat} {xs : List Int} (h : Own.rd k A n xs ∈ l) : ReadsInt W k A n xs := H.ok _ h
theorem Hold.all {w W : World} {l : List Own} (H : Hold w W [] l) : Below w.heap.size w W := H.kept.below
theorem Hold.reads {w W : World} {t : List Nat} {l : List Own} (H : Hold w W t l) {k : IntKind} {A : Option Addr} {n : Nat} {xs : List Int} (h : ReadsInt w k A n xs) (hn : ∀ a, A = some a → a.block ∉ t) : ReadsInt W k A n xs := by
 refine ⟨h.1, h.2.1, fun h0 => ?_⟩
 obtain ⟨ad, rfl, hc⟩ := h.2.2 h0
 refine ⟨ad, rfl, fun j hj => ?_⟩
 have hcell := hc j hj
 have hb := World.block_lt_of_cell? w _ hcell
 rw [add_block] at hb
 rw [← hcell]
 exact World.cell?_of_block (by rw [add_block]; exact H.kept.block _ hb (hn ad rfl))
theorem Hold.reads0 {w W : World} {l : List Own} (H : Hold w W [] l) {k : IntKind} {A : Option Addr} {n : Nat} {xs : List Int} (h : ReadsInt w k A n xs) : ReadsInt W k A n xs := h.below H.all
theorem pair1 {R : Own → Own → Prop} (x : Own) : [x].Pairwise R := List.pairwise_singleton _ _
theorem ok1 {W : World} {x : Own} (h : x.ok W) : ∀ o ∈ [x], o.ok W := fun o ho => by rw [List.mem_singleton.1 ho]; exact h
theorem Hold.got {W W1 : World} {k : IntKind} {A : Option Addr} {n : Nat} {xs : List Int} (h : Below W.heap.size W W1) (hR : ReadsInt W1 k A n xs) (hn : ∀ a, A = some a → W.heap.size ≤ a.block) : Hold W W1 [] [.rd k A n xs] :=
 ⟨Kept.of_below h, fun o ho => by rw [List.mem_singleton.1 ho]; exact hR, List.pairwise_singleton _ _, fun o ho k hk => by
  rw [List.mem_singleton.1 ho] at hk
  have hk' : k ∈ (if n = 0 then [] else (A.map (·.block)).toList) := hk
  split at hk'
  ·cases hk'
  ·obtain ⟨ad, rfl, e⟩ := Option.map_eq_some_iff.1 (Option.mem_toList.1 hk')
   have := hn ad rfl
   exact .inl (by omega)⟩
theorem Hold.made {W W1 : World} {y : Own} (h : Below W.heap.size W W1) (ok : y.ok W1) (hn : ∀ k ∈ y.at_, W.heap.size ≤ k) : Hold W W1 [] [y] :=
 ⟨Kept.of_below h, ok1 ok, pair1 _, fun o ho k hk => .inl (hn k (by rw [List.mem_singleton.1 ho] at hk; exact hk))⟩
theorem Hold.turned {W W1 : World} {x y : Own} (os : W1.os = W.os) (tape : W1.tape = W.tape) (output : W1.output = W.output) (size : W.heap.size ≤ W1.heap.size) (block : ∀ k, k < W.heap.size → k ∉ x.at_ → W1.heap[k]? = W.heap[k]?)
  (ok : y.ok W1) (hn : ∀ k ∈ y.at_, W.heap.size ≤ k ∨ k ∈ x.at_) : Hold W W1 (ats [x]) [y] := by
 have hm : ∀ k, k ∈ ats [x] ↔ k ∈ x.at_ := fun k => by
  unfold ats
  rw [List.mem_flatMap]
  exact ⟨fun ⟨a, ha, hk⟩ => by rw [List.mem_singleton.1 ha] at hk; exact hk, fun h => ⟨x, by simp, h⟩⟩
 refine ⟨⟨os, tape, output, size, fun k hk hn => block k hk fun h => hn ((hm k).2 h)⟩, ok1 ok, pair1 _, fun o ho k hk => ?_⟩
 rw [List.mem_singleton.1 ho] at hk
 rcases hn k hk with h | h
 ·exact .inl h
 ·exact .inr ((hm k).2 h)
def setC : List Value → Nat → List Value → List Value
 | cs, _, [] => cs
 | [], _, _ :: _ => []
 | _ :: cs, 0, u :: us => u :: setC cs 0 us
 | c :: cs, k + 1, u :: us => c :: setC cs k (u :: us)
theorem setC_eq : ∀ (cs : List Value) (k : Nat) (us : List Value), k + us.length ≤ cs.length → setC cs k us = cs.take k ++ us ++ cs.drop (k + us.length)
 | cs, k, [], _ => by cases cs <;> simp [setC]
 | [], k, u :: us, h => by simp at h
 | c :: cs, 0, u :: us, h => by
  have := setC_eq cs 0 us (by simpa using h)
  simp only [setC, this]
  simp
 | c :: cs, k + 1, u :: us, h => by
  have := setC_eq cs k (u :: us) (by simp at h ⊢; omega)
  simp only [setC, this]
  simp only [List.take_succ_cons, List.cons_append]
  congr 2
  rw [show k + 1 + (u :: us).length = (k + (u :: us).length) + 1 by omega, List.drop_succ_cons]
section
variable {P : Program} {ops : Array Oper} {rest : List Oper} {o : Oper} {a : Act} {Q : Exit → Act → World → Prop} {w W : World} {t : List Nat} {l : List Own}
theorem load_h (H : Hold w W t l) (hgd : o.guard = none) {ty : TypeId} {x : Operand} (ho : o.op = .load ty x) {g : Nat} {cs : List Value} {bt : TypeId} (hx : a.eval x = .pointer (some ⟨g, 0, none⟩)) (hm : cl g cs bt ∈ l)
  (hd : (P.underlying ty).map (·.isRow) = some true) (hi : (P.info? ty).map (·.size) = some cs.length) (h : wpList P ops Q rest (a.put o.dst (.agg cs.toArray)) W) : wpList P ops Q (o :: rest) a W := by
 obtain ⟨d, hu, hr⟩ := Option.map_eq_some_iff.1 hd
 exact load_ev hgd ho hx (H.blk hm) hu hr (by simpa using hi) h
theorem loadf_h (H : Hold w W t l) (hgd : o.guard = none) {ty : TypeId} {x : Operand} (ho : o.op = .load ty x) {g k : Nat} {cs : List Value} {bt : TypeId} {v : Value} (hx : a.eval x = .pointer (some ⟨g, k, none⟩)) (hm : cl g cs bt ∈ l)
  (hv : cs[k]? = some v) (hd : (P.underlying ty).map (·.isRow) = some false) (h : wpList P ops Q rest (a.put o.dst v) W) : wpList P ops Q (o :: rest) a W := by
 obtain ⟨d, hu, hr⟩ := Option.map_eq_some_iff.1 hd
 exact loadf_ev hgd ho hx (H.blk hm) (by simpa using hv) hu hr h
theorem Hold.store {W w1 : World} {g : Nat} {cs cs' : List Value} {bt : TypeId} (o : Only g W w1) (h : w1.heap[g]? = some (.cells cs'.toArray bt (0, 0))) : Hold W w1 (ats [cl g cs bt]) [cl g cs' bt] :=
 Hold.turned o.os o.tape o.output (by rw [o.size]; exact Nat.le_refl _) (fun k _ hne => o.block k fun e => hne (by rw [e]; exact List.mem_singleton.2 rfl)) h fun k hk => .inr hk
theorem store_h (H : Hold w W t l) (hgd : o.guard = none) (hN : o.dst = none) {ty : TypeId} {p x : Operand} (ho : o.op = .store ty p x) {g k : Nat} {cs : List Value} {bt : TypeId} {u : Value} {l' : List Own}
  (hp : a.eval p = .pointer (some ⟨g, k, none⟩)) (hx : a.eval x = u) (hm : Put l (cl g cs bt) (cl g (setC cs k u.cells.toList) bt) l') (ht : (P.info? ty).map (·.size) = some u.cells.toList.length)
  (hk : k + u.cells.toList.length ≤ cs.length) (h1 : u.cells.toList.all (·.oneCell') = true)
  (h : ∀ w1, Hold w w1 t l' → wpList P ops Q rest a w1) : wpList P ops Q (o :: rest) a W := by
 obtain ⟨r, hp1, _⟩ := hm.perm
 refine store_ev hgd hN ho hp hx (H.blk (cs := cs) (hp1.mem_iff.2 (List.Mem.head _))) ht (by simpa using hk) h1 (cs' := (setC cs k u.cells.toList).toArray) (by rw [setC_eq _ _ _ hk]) fun w1 hb ho1 => h w1 (H.put hm (Hold.store ho1 hb))
theorem alloc_h (H : Hold w W t l) (hgd : o.guard = none) {ty : TypeId} (_ho : o.op = .alloc ty) {cs : List Value}
  (hrun : (execOp a.eval o).run P W = .ok (.value (.pointer (some ⟨W.heap.size, 0, none⟩))) (W.alloc (.cells cs.toArray ty (0, 0))))
  (h : ∀ g w1, Hold w w1 t (cl g cs ty :: l) → wpList P ops Q rest (a.put o.dst (.pointer (some ⟨g, 0, none⟩))) w1) : wpList P ops Q (o :: rest) a W :=
 make_ev hgd hrun fun g hg w1 hb hz hbel => h g w1 (Hold.push (l1 := [cl g cs ty]) H (Hold.made hbel hb fun k hk => by have : k = g := List.mem_singleton.1 hk; omega))
theorem box_h (H : Hold w W t l) (hgd : o.guard = none) {ty : TypeId} {x : Operand} (ho : o.op = .box ty x) {u : Value} {cs : List Value} (hx : a.eval x = u) (hu : u.cells = cs.toArray)
  (h : ∀ g w1, Hold w w1 t (cl g cs ty :: l) → wpList P ops Q rest (a.put o.dst (.pointer (some ⟨g, 0, none⟩))) w1) : wpList P ops Q (o :: rest) a W := by
 refine make_ev hgd (cs := cs.toArray) (t := ty) ?_ fun g hg w1 hb hz hbel => h g w1 (Hold.push (l1 := [cl g cs ty]) H (Hold.made hbel hb fun k hk => by have : k = g := List.mem_singleton.1 hk; omega))
 unfold execOp
 simp only [ho, hx]
 simp [Instr.box, newVar, newRow, Sem.run_bind, hu]
theorem append_h (H : Hold w W t l) (hgd : o.guard = none) {s x : Operand} {st : TypeId} (ho : o.op = .call { callee := .builtin .append, args := #[s, x], argTypes := #[st, st] })
  {e : TypeId} {k : IntKind} (bytes : Nat) (ht : P.underlying st = some (.slice e))
  (hinfo : (P.info? e).map (fun i => (i.zero, i.size, i.bytes)) = some (some (.int k 0), 1, bytes)) (hb0 : 0 < bytes)
  {v : Value} {xs : List Int} (ys : List Int) {A : Option Addr} {m c : Nat} (hs : a.eval s = v) (hx : a.eval x = .slice A m c) {f : Own → List Own}
  (hm : ∀ y, Put l (nrow e v k xs) y (f y)) (HR : ReadsInt W k A m ys) (hl : (xs.length + m) * bytes ≤ 140737488355328)
  (h : ∀ v1 w1, Hold w w1 t (f (nrow e v1 k (xs ++ ys))) → wpList P ops Q rest (a.put o.dst v1) w1) : wpList P ops Q (o :: rest) a W := by
 obtain ⟨r, hp1, _⟩ := (hm (nrow e v k xs)).perm
 refine list_append_row W hgd s x st ho 0 e k bytes ht hinfo hb0 v xs ys A m c hs hx (H.row (xs := xs) (hp1.mem_iff.2 (List.Mem.head _))) HR (Nat.zero_le _) hl fun v1 w1 hown hg hat => h v1 w1 (H.put (hm _) (Hold.turned hg.os hg.tape hg.output hg.size (fun k hk hne => hg.block k hk fun e => hne (Option.mem_toList.2 e.symm)) hown fun k hk => ?_))
 have hk' : v1.ownBlock = some k := Option.mem_toList.1 hk
 rcases hat with h' | h'
 ·exact .inr (Option.mem_toList.2 (h'.symm.trans hk'))
 ·rw [h'] at hk'
  exact .inl (Nat.le_of_eq (Option.some.inj hk'))
end

theorem madeHold {W W1 : World} {e : TypeId} {m : Nat} {xs : List Int} {k : IntKind} (hb : Below W.heap.size W W1) (ho : W1.ownsRow 0 e 1 (.slice (some ⟨W.heap.size, 0, none⟩) m m) xs.length (nums k xs)) : Hold W W1 [] [nrow e (.slice (some ⟨W.heap.size, 0, none⟩) m m) k xs] :=
 Hold.made hb ho fun k hk => Nat.le_of_eq (Option.some.inj (Option.mem_toList.1 hk))
section
variable {P : Program} {ops : Array Oper} {rest : List Oper} {o : Oper} {a : Act} {Q : Exit → Act → World → Prop} {w W : World} {t : List Nat} {l : List Own}
theorem run_makeb {W : World} {st e : TypeId} (m : Nat) (ht : P.underlying st = some (.slice e)) (hinfo : (P.info? e).map (fun i => (i.zero, i.size, i.bytes)) = some (some (.int .u8 0), 1, 1)) (hm : m ≤ 281474976710656) :
  (Instr.makeSlice st (.int .i64 (m : Int)) (.int .i64 (m : Int))).run P W = .ok (.slice (some ⟨W.heap.size, 0, none⟩) m m) (W.alloc (.cells (madeCells #[.int .u8 0] m) e)) := print_make st e .u8 1 ht hinfo (by decide) m (by omega) W
theorem makeb_h (H : Hold w W t l) (hgd : o.guard = none) {st e : TypeId} {x y : Operand} (ho : o.op = .makeSlice st x y) (m : Nat) (hx : a.eval x = .int .i64 (m : Int)) (hy : a.eval y = .int .i64 (m : Int)) (ht : P.underlying st = some (.slice e))
  (hinfo : (P.info? e).map (fun i => (i.zero, i.size, i.bytes)) = some (some (.int .u8 0), 1, 1)) (hm : m ≤ 281474976710656)
  (h : ∀ g w1, Hold w w1 t (nrow e (.slice (some ⟨g, 0, none⟩) m m) .u8 (List.replicate m 0) :: l) → wpList P ops Q rest (a.put o.dst (.slice (some ⟨g, 0, none⟩) m m)) w1) : wpList P ops Q (o :: rest) a W := by
 refine wpList_plain hgd fun K hK => ?_
 unfold Oper.wp execOp
 simp only [ho, hx, hy, Sem.run_bind, Sem.run_pure, Result.andThen_ok, run_makeb m ht hinfo hm]
 refine hK _ _ (h _ _ (Hold.push (l1 := [_]) H (madeHold (below_alloc (Below.refl _ _) _) ?_)))
 rw [List.length_replicate]
 exact own_made W 0 e .u8 m (Nat.zero_le _) (by omega)
variable {Kc : Act → World → Prop}
theorem lit_o (H : Hold w W t l) (hw : Region.wanted o (yielded ops a.tmps) = true) {e : TypeId} {k : IntKind} (ls : List Int)
  (hrun : (execOp a.eval o).run P W = .ok (.value (.slice (some ⟨W.heap.size, 0, none⟩) ls.length ls.length)) (W.alloc (.cells (nums k ls).toArray e (0, 0)))) (hl : ls.length ≤ 9223372036854775807)
  (h : ∀ g w1, Hold w w1 t (nrow e (.slice (some ⟨g, 0, none⟩) ls.length ls.length) k ls :: l) → Below W.heap.size W w1 → Kc (a.put o.dst (.slice (some ⟨g, 0, none⟩) ls.length ls.length)) w1) :
  if Region.wanted o (yielded ops a.tmps) = true then Oper.wp P o a W Kc Q else Kc (a.put o.dst undef) W :=
 event_step hw hrun (h _ _ (Hold.push (l1 := [_]) H (madeHold (below_alloc (Below.refl _ _) _) (own_lit W 0 e k ls (Nat.zero_le _) hl))) (below_alloc (Below.refl _ _) _))
theorem makeb_o (H : Hold w W t l) (hw : Region.wanted o (yielded ops a.tmps) = true) {st e : TypeId} {x y : Operand} (ho : o.op = .makeSlice st x y) (m : Nat) (hx : a.eval x = .int .i64 (m : Int)) (hy : a.eval y = .int .i64 (m : Int)) (ht : P.underlying st = some (.slice e))
  (hinfo : (P.info? e).map (fun i => (i.zero, i.size, i.bytes)) = some (some (.int .u8 0), 1, 1)) (hm : m ≤ 281474976710656)
  (h : ∀ g w1, Hold w w1 t (nrow e (.slice (some ⟨g, 0, none⟩) m m) .u8 (List.replicate m 0) :: l) → Below W.heap.size W w1 → Kc (a.put o.dst (.slice (some ⟨g, 0, none⟩) m m)) w1) :
  if Region.wanted o (yielded ops a.tmps) = true then Oper.wp P o a W Kc Q else Kc (a.put o.dst undef) W := by
 rw [if_pos hw]
 unfold Oper.wp execOp
 simp only [ho, hx, hy, Sem.run_bind, Sem.run_pure, Result.andThen_ok, run_makeb m ht hinfo hm]
 refine h _ _ (Hold.push (l1 := [_]) H (madeHold (below_alloc (Below.refl _ _) _) ?_)) (below_alloc (Below.refl _ _) _)
 rw [List.length_replicate]
 exact own_made W 0 e .u8 m (Nat.zero_le _) (by omega)
theorem conv_o (H : Hold w W t l) (hw : Region.wanted o (yielded ops a.tmps) = true) {src dst e e' : TypeId} {x : Operand} (ho : o.op = .convert src dst x) {v : Value} {xs : List Int} (hx : a.eval x = v) (hm : nrow e' v .u8 xs ∈ l)
  (hs : P.underlying src = some (.slice e)) (he : P.underlying e = some (.int .u8)) (hd : P.underlying dst = some .string) (h : Kc (a.put o.dst (.string (strOfNums xs))) W) :
  if Region.wanted o (yielded ops a.tmps) = true then Oper.wp P o a W Kc Q else Kc (a.put o.dst undef) W := by
 rw [if_pos hw]
 unfold Oper.wp execOp
 simp only [ho, hx, Sem.run_bind, Sem.run_pure, Result.andThen_ok, own_string hs he hd (H.row hm)]
 exact h
theorem store_o (H : Hold w W t l) (hw : Region.wanted o (yielded ops a.tmps) = true) (hN : o.dst = none) {ty : TypeId} {p x : Operand} (ho : o.op = .store ty p x) {g k : Nat} {cs : List Value} {bt : TypeId} {u : Value} {l' : List Own}
  (hp : a.eval p = .pointer (some ⟨g, k, none⟩)) (hx : a.eval x = u) (hm : Put l (cl g cs bt) (cl g (setC cs k u.cells.toList) bt) l') (ht : (P.info? ty).map (·.size) = some u.cells.toList.length)
  (hk : k + u.cells.toList.length ≤ cs.length) (h1 : u.cells.toList.all (·.oneCell') = true)
  (h : ∀ w1, Hold w w1 t l' → Only g W w1 → Kc a w1) : if Region.wanted o (yielded ops a.tmps) = true then Oper.wp P o a W Kc Q else Kc (a.put o.dst undef) W := by
 obtain ⟨r, hp1, _⟩ := hm.perm
 refine store_ord hw hN ho hp hx (H.blk (cs := cs) (hp1.mem_iff.2 (List.Mem.head _))) ht (by simpa using hk) h1 (cs' := (setC cs k u.cells.toList).toArray) (by rw [setC_eq _ _ _ hk]) fun w1 hb ho1 => h w1 (H.put hm (Hold.store ho1 hb)) ho1
theorem append_o (H : Hold w W t l) (hgd : o.guard = none) {s x : Operand} {st : TypeId} (ho : o.op = .call { callee := .builtin .append, args := #[s, x], argTypes := #[st, st] })
  {e : TypeId} {k : IntKind} (bytes : Nat) (ht : P.underlying st = some (.slice e))
  (hinfo : (P.info? e).map (fun i => (i.zero, i.size, i.bytes)) = some (some (.int k 0), 1, bytes)) (hb0 : 0 < bytes)
  {v : Value} {xs : List Int} (ys : List Int) {A : Option Addr} {m c : Nat} (hs : a.eval s = v) (hx : a.eval x = .slice A m c) {f : Own → List Own}
  (hm : ∀ y, Put l (nrow e v k xs) y (f y)) (HR : ReadsInt W k A m ys) (hl : (xs.length + m) * bytes ≤ 140737488355328) {E : Prop}
  (h : ∀ v1 w1, Hold w w1 t (f (nrow e v1 k (xs ++ ys))) → W.grownBy w1 v.ownBlock → Kc (a.put o.dst v1) w1) : if Region.wanted o (yielded ops a.tmps) = true then Oper.wp P o a W Kc Q else E := by
 obtain ⟨r, hp1, _⟩ := (hm (nrow e v k xs)).perm
 refine step_append_row W hgd s x st ho 0 e k bytes ht hinfo hb0 v xs ys A m c hs hx (H.row (xs := xs) (hp1.mem_iff.2 (List.Mem.head _))) HR (Nat.zero_le _) hl fun v1 w1 hown hg hat => h v1 w1 (H.put (hm _) (Hold.turned hg.os hg.tape hg.output hg.size (fun k hk hne => hg.block k hk fun e => hne (Option.mem_toList.2 e.symm)) hown fun k hk => ?_)) hg
 have hk' : v1.ownBlock = some k := Option.mem_toList.1 hk
 rcases hat with h' | h'
 ·exact .inr (Option.mem_toList.2 (h'.symm.trans hk'))
 ·rw [h'] at hk'
  exact .inl (Nat.le_of_eq (Option.some.inj hk'))
end
end Go.Proofs.YtjjfkmniffbgkaaDoor
