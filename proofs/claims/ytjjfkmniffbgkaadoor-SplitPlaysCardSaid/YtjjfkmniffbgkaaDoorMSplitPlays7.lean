/- Texts of this claim, put together: Rf4, RfP, Rf5, Rf6, RfSame, Clear2, Eq, FGets. -/
import Derived.Test.YtjjfkmniffbgkaaDoorMSplitPlays6
import Derived.Test.YtjjfkmniffbgkaaDoorMSplitPlaysW1
import Derived.Test.YtjjfkmniffbgkaaDoorMSplitPlays2
import Derived.Lib.SliceRun
import Derived.Lib.LazyBuf
import Derived.Deep.Upon
import Derived.Test.YtjjfkmniffbgkaaDoorProg
import Derived.Test.YtjjfkmniffbgkaaDoorMSplitPlays0
/- The reference of frames: parts of SETTINGS, walked. (This text is printed by wip/gen/rf4_sets.py.) -/
namespace Go.Proofs.YtjjfkmniffbgkaaDoor
set_option linter.unusedVariables false
set_option linter.unusedSimpArgs false
open Go.RowKit Go.Proofs.YtjjfkmniffbgkaaDoorW.PrintWords Go.Proofs.YtjjfkmniffbgkaaDoorW.PrintLast Go.Proofs.YtjjfkmniffbgkaaDoorW.PrintMore Go.Proofs.YtjjfkmniffbgkaaDoor.QFrmA Go.Proofs.YtjjfkmniffbgkaaDoor.Given Go.Extern.Stop Go.Stop Go.Extern Go.Maps
theorem Only.R {α : Type} {d : Kd α} {e g base : Nat} {W w1 : World} {ok : Nat → Prop} {v : Value} {xs : List α} (h : Only g W w1) (hR : d.R e W base ok v xs) (hok : ∀ k, ok k → k ≠ g) : d.R e w1 base ok v xs :=
 Kd.R_step hR (fun k ho _ => h.block k (hok k ho))
structure StW (w : World) (gf gr : Nat) (fl st pad : Int) (S : Value) (xs : List S99) (wr : World) : Prop where
 f : wr.heap[gf]? = some (.cells (frC ⟨4, fl, st, [], pad, 0, 0, 0, false, 0, []⟩ nilS S) 38 (0, 0))
 r : wr.heap[gr]? = some (.cells (frC ⟨0, 0, 0, [], 0, 0, 0, 0, false, 0, []⟩ nilS nilS) 38 (0, 0))
 row : k99.R 99 wr w.heap.size (fun k => k ≠ gf ∧ k ≠ gr) S xs
 below : Below w.heap.size w wr
theorem StW.step {w : World} {gf gr : Nat} {fl st pad : Int} {S : Value} {xs : List S99} {wr wn : World} (h : StW w gf gr fl st pad S xs wr) (hb : Below wr.heap.size wr wn) : StW w gf gr fl st pad S xs wn :=
 ⟨blk_below h.f hb, blk_below h.r hb, Kd.R_below h.row hb, h.below.trans (hb.mono h.below.size)⟩
theorem StW.drewN {w : World} {gf gr : Nat} {fl st pad : Int} {S : Value} {xs : List S99} {wr : World} (h : StW w gf gr fl st pad S xs wr) (n : Nat) : StW w gf gr fl st pad S xs (wr.drewN n) := h.step (pw_below_drewN (Below.refl wr.heap.size wr) n)
theorem StW.more {w : World} {gf gr : Nat} {fl st pad : Int} {S v1 : Value} {xs : List S99} {x : S99} {wx w1 : World} (h : StW w gf gr fl st pad S xs wx) (hg : w.heap.size ≤ gf) (hne : gr ≠ gf)
  (hrow : k99.R 99 w1 w.heap.size (fun k => k ≠ gf ∧ k ≠ gr) v1 (xs ++ [x])) (hbel : Below w.heap.size wx w1) (hgrow : wx.grownBy w1 S.ownBlock) : StW w gf gr fl st pad v1 (xs ++ [x]) (w1.setCell ⟨gf, 10, none⟩ v1) := by
 have n1 : some gf ≠ S.ownBlock := Kd.R_away h.row (fun k hk => hk.1)
 have n2 : some gr ≠ S.ownBlock := Kd.R_away h.row (fun k hk => hk.2)
 have hb := (hgrow.block gf (blk_lt h.f) n1).trans h.f
 have hr := (hgrow.block gr (blk_lt h.r) n2).trans h.r
 exact ⟨blk_set hb 10 v1, blk_far hr hne _, Kd.R_far hrow (fun k hk => hk.1) v1, (h.below.trans hbel).setCell (p := ⟨gf, 10, none⟩) hg v1⟩
def StRel (w : World) (gf gr n : Nat) (fl st pad : Int) (l : List Int) (m : Nat) (iv : Value) (wr : World) : Prop :=
 ∃ j S xs, iv = .int .i64 ((6 * j : Nat) : Int) ∧ j + m = n ∧ xs ++ parseS m (l.drop (6 * j)) = parseS n l ∧ xs.length = j ∧ StW w gf gr fl st pad S xs wr
set_option maxHeartbeats 8000000 in
set_option maxRecDepth 100000 in
theorem parts_4 (w : World) (fl st pad : Int) (l : List Int) (n : Nat) (h0 : 0 ≤ fl) (h1 : fl ≤ 255) (hby : Byte8 l) (hl : l.length ≤ 100000) (hn : l.length = 6 * n) :
  Calls Tryd.prog 58 #[.agg (frC (fr0 4 fl st pad) nilS nilS), .string (strOfNums l)] w (PartsPost w (partsF (fr0 4 fl st pad) l)) := by
 refine of_post0 fun R hRR => ?_
 have HP := Lib.hid hRR
 have HL := Lib.hid (And.intro h0 h1)
 clear hRR h0 h1
 have HE := Lib.hid (show partsF (fr0 4 fl st pad) l = ⟨4, fl, st, [], pad, 0, 0, 0, false, 0, parseS n l⟩ by
  unfold partsF
  rw [if_pos rfl, hn, Nat.mul_div_cancel_left n (by decide)])
 have HB := Lib.hid (show leansB 4 fl = false from rfl)
 have HS := Lib.hid (And.intro (show (⟨#[]⟩ : ByteArray).size = ([] : List Int).length from rfl) (And.intro (show bytesOf (⟨#[]⟩ : ByteArray) = [] from rfl) (show ([] : List Int).length ≤ 9223372036854775807 by decide)))
 have hsz := str_size l
 have HX := Lib.hid (And.intro hby (And.intro hl hn))
 have HC := Lib.hid (fun (lo hi : Int) (a : 0 ≤ lo) (b : lo ≤ hi) (c : hi ≤ (l.length : Int)) (W : World) => run_cut_str l lo hi a b c W)
 clear hby hl hn
 generalize strOfNums l = s at hsz HC ⊢
 have V := Aside0.mk (Below.refl w.heap.size w)
 go_enter Tryd.func58, Tryd.ntmps58
 go_wp2_with (first
  | (refine gate_box 2 rfl rfl ?_; refine make_ev rfl (cs := frC ⟨4, fl, st, [], pad, 0, 0, 0, false, 0, []⟩ nilS nilS) (t := 38) (by first | (go_simp; done) | (go_simp; rfl)) ?_; intro gf hg_ w0_ k_ z_ b_; have Mf := Aside0.mk (show w.heap.size ≤ gf by rw [hg_]; exact V.out.size); have q0_ := Aside0.mk (V.out.trans (b_.mono V.out.size)); clear V; have V := q0_; clear q0_; have Kf := Aside0.mk k_; clear hg_ k_ z_ b_)
  | (refine gate_alloc 4 rfl rfl ?_; refine make_ev rfl (cs := frC ⟨0, 0, 0, [], 0, 0, 0, 0, false, 0, []⟩ nilS nilS) (t := 38) (by first | (go_simp; done) | (go_simp; rfl)) ?_; intro gr hg_ w1_ k_ z_ b_; have Nf_r := Aside0.mk (show gf ≠ gr by rw [hg_]; exact Nat.ne_of_lt (blk_lt Kf.out)); have Mr := Aside0.mk (show w.heap.size ≤ gr by rw [hg_]; exact V.out.size); have q0_ := Aside0.mk (blk_below Kf.out b_); have q1_ := Aside0.mk (V.out.trans (b_.mono V.out.size)); clear Kf; clear V; have Kf := q0_; have V := q1_; clear q0_ q1_; have Kr := Aside0.mk k_; clear hg_ k_ z_ b_)
  | (refine gate_load (t := 38) 7 rfl rfl ?_; refine load_ev rfl rfl rfl Kf.out Tryd.underlying38 rfl (by kernel_rfl) ?_)
  | (go_at_call 51; (with_reducible refine (rleans_calls _ ⟨4, fl, st, [], pad, 0, 0, 0, false, 0, []⟩ nilS nilS HL.out.1 HL.out.2).mono ?_); rintro e_ w2_ ⟨rfl, h_⟩; have b_ := h_; have q0_ := Aside0.mk (blk_below Kf.out b_); have q1_ := Aside0.mk (blk_below Kr.out b_); have q2_ := Aside0.mk (V.out.trans (b_.mono V.out.size)); clear Kf; clear Kr; clear V; have Kf := q0_; have Kr := q1_; have V := q2_; clear q0_ q1_ q2_; clear b_ h_; dsimp only; rw [HB.out])
  | (refine gate_load (t := 5) 24 rfl rfl ?_; refine loadf_ev rfl rfl rfl Kf.out rfl Tryd.underlying5 rfl ?_))
 go_loopg [6] n (fun m iv wr => StRel w gf gr n fl st pad l m iv wr)
 case atStart => exact ⟨0, nilS, [], rfl, by omega, rfl, rfl, Kf.out, Kr.out, Kd.R_nil _ _ _ _ _, V.out⟩
 case round =>
  obtain ⟨j, S, xs, rfl, hjm, hps, hxj, hW⟩ := hrel
  clear Kf Kr V
  obtain ⟨As, cs, rfl⟩ := Kd.R_slice hW.row
  cases gk with
  | zero =>
   have hX := HX.out
   have d0 : decide (((6 * j : Nat) : Int) < (l.length : Int)) = false := by rw [decide_eq_false_iff_not]; omega
   have d1 : decide (6 * (j : Int) < (l.length : Int)) = false := by rw [decide_eq_false_iff_not]; omega
   have HY := Lib.hid (And.intro hW hps)
   clear hW hps hxj hX hjm
   have V := Aside0.mk HY.out.1.below
   have Kf := Aside0.mk HY.out.1.f
   have Kr := Aside0.mk HY.out.1.r
   have HRW := Aside0.mk HY.out.1.row
   go_wp2_with (first
    | (refine gate_conv 87 rfl rfl ?_; refine bytes_ev rfl rfl ([]) rfl Tryd.underlying9 Tryd.underlying35 Tryd.underlying5 HS.out.1 HS.out.2.1 HS.out.2.2 ?_; intro gd cd hg_ hc_ w0_ r_ z_ b_; have Yd_f := Aside0.mk (show gd ≠ gf by rw [hg_]; exact (Nat.ne_of_lt (blk_lt Kf.out)).symm); have Yd_r := Aside0.mk (show gd ≠ gr by rw [hg_]; exact (Nat.ne_of_lt (blk_lt Kr.out)).symm); have Md := Aside0.mk (show w.heap.size ≤ gd by rw [hg_]; exact V.out.size); have Cd := Aside0.mk hc_; have q0_ := Aside0.mk (blk_below Kf.out b_); have q1_ := Aside0.mk (blk_below Kr.out b_); have q2_ := Aside0.mk (Kd.R_below HRW.out b_); have q3_ := Aside0.mk (V.out.trans (b_.mono V.out.size)); clear Kf; clear Kr; clear HRW; clear V; have Kf := q0_; have Kr := q1_; have HRW := q2_; have V := q3_; clear q0_ q1_ q2_ q3_; have Rd := Aside0.mk r_; clear hg_ hc_ r_ z_ b_)
    | (refine gate_stored (t := 35) (p := .tmp 88) rfl ?_; refine store_ev rfl rfl rfl (g := gf) (k := 3) (u := (.slice (some ⟨gd, 0, none⟩) ([] : List Int).length cd)) (cs' := frC ⟨4, fl, st, [], pad, 0, 0, 0, false, 0, []⟩ (.slice (some ⟨gd, 0, none⟩) ([] : List Int).length cd) (.slice As xs.length cs)) rfl rfl Kf.out (by kernel_rfl) (Nat.le_of_ble_eq_true rfl) rfl rfl ?_; intro w1_ k_ o_; have q0_ := Aside0.mk (o_.blk Kr.out Nf_r.out.symm); have q1_ := Aside0.mk (k_); have q2_ := Aside0.mk (o_.reads Rd.out (at_only Yd_f.out)); have q3_ := Aside0.mk (o_.R HRW.out (fun k hk => hk.1)); have q4_ := Aside0.mk (o_.below V.out Mf.out); clear Kr; clear Kf; clear Rd; clear HRW; clear V; have Kr := q0_; have Kf := q1_; have Rd := q2_; have HRW := q3_; have V := q4_; clear q0_ q1_ q2_ q3_ q4_; clear k_ o_)
    | (refine gate_load (t := 38) 89 rfl rfl ?_; refine load_ev rfl rfl rfl Kf.out Tryd.underlying38 rfl (by kernel_rfl) ?_)
    | (refine gate_stored (t := 38) (p := .tmp 4) rfl ?_; refine store_ev rfl rfl rfl (g := gr) (k := 0) (u := (.agg (frC ⟨4, fl, st, [], pad, 0, 0, 0, false, 0, []⟩ (.slice (some ⟨gd, 0, none⟩) ([] : List Int).length cd) (.slice As xs.length cs)))) (cs' := frC ⟨4, fl, st, [], pad, 0, 0, 0, false, 0, []⟩ (.slice (some ⟨gd, 0, none⟩) ([] : List Int).length cd) (.slice As xs.length cs)) rfl rfl Kr.out (by kernel_rfl) (Nat.le_of_ble_eq_true rfl) rfl rfl ?_; intro w2_ k_ o_; have q0_ := Aside0.mk (o_.blk Kf.out Nf_r.out); have q1_ := Aside0.mk (k_); have q2_ := Aside0.mk (o_.reads Rd.out (at_only Yd_r.out)); have q3_ := Aside0.mk (o_.R HRW.out (fun k hk => hk.2)); have q4_ := Aside0.mk (o_.below V.out Mr.out); clear Kf; clear Kr; clear Rd; clear HRW; clear V; have Kf := q0_; have Kr := q1_; have Rd := q2_; have HRW := q3_; have V := q4_; clear q0_ q1_ q2_ q3_ q4_; clear k_ o_))
   refine bodyPost_ret (results_cell_row rfl _ _ gr 38 _ (0, 0) _ rfl Kr.out Tryd.underlying38 rfl (by kernel_rfl)) rfl (HP.out _ _ ?_)
   have hxs := HY.out.2
   simp only [parseS, List.append_nil] at hxs
   rw [HE.out, ← hxs]
   have hr := Kd.R_reads' HRW.out
   exact ⟨⟨_, rfl, some ⟨gd, 0, none⟩, cd, As, cs, rfl, ⟨Rd.out, Cd.out, fun a h => by obtain rfl := Option.some.inj h; exact Md.out⟩, hr.2.2, hr.2.1, fun a h => by subst h; exact Kd.R_base HRW.out a.block (by simp [Value.ownBlock])⟩, V.out⟩
  | succ m =>
   have hX := HX.out
   have hlt : 6 * j + 6 ≤ l.length := by omega
   have d0 : decide (((6 * j : Nat) : Int) < (l.length : Int)) = true := by rw [decide_eq_true_iff]; omega
   obtain ⟨i0, hi0⟩ : ∃ i0 : Int, ((6 * j : Nat) : Int) = i0 := ⟨_, rfl⟩
   obtain ⟨i2, hi2⟩ : ∃ i2 : Int, i0 + 2 = i2 := ⟨_, rfl⟩
   obtain ⟨i6, hi6⟩ : ∃ i6 : Int, i0 + 6 = i6 := ⟨_, rfl⟩
   have e2 : IntKind.i64.wrap (i0 + 2) = i2 := by rw [← hi2]; simp [IntKind.wrap, IntKind.bits, IntKind.signed]; omega
   have e6 : IntKind.i64.wrap (i0 + 6) = i6 := by rw [← hi6]; simp [IntKind.wrap, IntKind.bits, IntKind.signed]; omega
   have f2 := fun W => HC.out i0 i2 (by omega) (by omega) (by omega) W
   have f6 := fun W => HC.out i2 i6 (by omega) (by omega) (by omega) W
   rw [show i2.toNat = 6 * j + 2 by omega, show i0.toNat = 6 * j by omega, List.drop_take, show 6 * j + 2 - 6 * j = 2 by omega] at f2
   rw [show i6.toNat = 6 * j + 6 by omega, show i2.toNat = 6 * j + 2 by omega, show (l.take (6 * j + 6)).drop (6 * j + 2) = ((l.drop (6 * j)).take 6).drop 2 by rw [List.drop_take, List.drop_take, List.drop_drop]; congr 1; omega] at f6
   have hL : (l.drop (6 * j)).length = l.length - 6 * j := List.length_drop
   have hbL : Byte8 (l.drop (6 * j)) := fun x hx => hX.1 x (List.mem_of_mem_drop hx)
   have hd6 : l.drop (6 * (j + 1)) = (l.drop (6 * j)).drop 6 := by rw [List.drop_drop]; congr 1
   have hps' : xs ++ (⟨valL ((l.drop (6 * j)).take 2), valL (((l.drop (6 * j)).take 6).drop 2)⟩ :: parseS m (l.drop (6 * (j + 1)))) = parseS n l := by rw [hd6]; exact hps
   have hb2 : Byte8 ((l.drop (6 * j)).take 2) := fun x hx => hbL x (List.mem_of_mem_take hx)
   have hb4 : Byte8 (((l.drop (6 * j)).take 6).drop 2) := fun x hx => hbL x (List.mem_of_mem_take (List.mem_of_mem_drop hx))
   have hl2 : ((l.drop (6 * j)).take 2).length = 2 := by rw [List.length_take]; omega
   have hl4 : (((l.drop (6 * j)).take 6).drop 2).length = 4 := by rw [List.length_drop, List.length_take]; omega
   have hv2 := valL_bound hb2
   rw [hl2, show (256 : Int) ^ 2 = 65536 from rfl] at hv2
   have HN2 := Lib.hid (fun W => value_ref_calls W ((l.drop (6 * j)).take 2) (by omega) hb2)
   have HN4 := Lib.hid (fun W => value_ref_calls W (((l.drop (6 * j)).take 6).drop 2) (by omega) hb4)
   have hmod : IntKind.u16.wrap (valL ((l.drop (6 * j)).take 2)) = valL ((l.drop (6 * j)).take 2) := Int.emod_eq_of_lt hv2.1 hv2.2
   have hj1 : i6 = ((6 * (j + 1) : Nat) : Int) := by omega
   clear hv2 hl2 hl4 hb2 hb4 hL hbL hd6 hps
   generalize valL ((l.drop (6 * j)).take 2) = a at hps' HN2 hmod
   generalize valL (((l.drop (6 * j)).take 6).drop 2) = b at hps' HN4
   generalize strOfNums ((l.drop (6 * j)).take 2) = s2 at f2 HN2
   generalize strOfNums (((l.drop (6 * j)).take 6).drop 2) = s4 at f6 HN4
   rw [hi0] at d0 ⊢
   have HW := Lib.hid hW
   have HZ := Lib.hid (And.intro hps' (And.intro hxj (And.intro hj1 (And.intro hjm hX))))
   clear hW hps' hxj hjm hX hlt hi0 hi2 hi6 hj1
   go_wp2_with fail
   have HY := Lib.hid (HW.out.step (below_drew (Below.refl _ _)))
   have q10 := blk_cell HY.out.f 10
   simp at q10
   refine start_ (n := 21) (S := fun w' => w'.cell? ⟨gf, 10, none⟩ = some (.slice As xs.length cs)) (ds := [20]) #[false, false, false, false, false, false, false, false, false, false, false, false, false, false, false, false, false, false, false, false, false] (by kernel_rfl) rfl rfl q10 (fun hHeld => ?_)
   generalize wr.drew = wy at HY hHeld ⊢
   refine pure_ (i := 0) (N := some 38) (v := ?_) (a' := ?_) #[true, false, false, false, false, false, false, false, false, false, false, false, false, false, false, false, false, false, false, false, false] rfl rfl (by kernel_rfl) (fun _ _ _ h => h) (Or.inl ⟨by rfl, ?_⟩) ?_ ?_
   rotate_left
   ·intro w'
    go_simp
    with_reducible rfl
   rotate_left
   ·simp only [Act.put, putA, putB, putC]
    rfl
   refine take_ (i := 1) (N := some 39) (v := ?_) (a' := ?_) #[true, true, false, false, false, false, false, false, false, false, false, false, false, false, false, false, false, false, false, false, false] rfl rfl (by kernel_rfl) (fun _ _ _ h => h) (Or.inl ⟨by rfl, ?_⟩) hHeld ?_ ?_
   rotate_left
   ·intro w' s0
    go_simp
    with_reducible rfl
   rotate_left
   ·simp only [Act.put, putA, putB, putC]
    rfl
   refine pure_ (i := 2) (N := some 40) (v := ?_) (a' := ?_) #[true, true, true, false, false, false, false, false, false, false, false, false, false, false, false, false, false, false, false, false, false] rfl rfl (by kernel_rfl) (fun _ _ _ h => h) (Or.inl ⟨by rfl, ?_⟩) ?_ ?_
   rotate_left
   ·intro w'
    go_simp
    with_reducible rfl
   rotate_left
   ·simp only [Act.put, putA, putB, putC]
    rfl
   refine pure_ (i := 3) (N := some 41) (v := ?_) (a' := ?_) #[true, true, true, true, false, false, false, false, false, false, false, false, false, false, false, false, false, false, false, false, false] rfl rfl (by kernel_rfl) (fun _ _ _ h => h) (Or.inl ⟨by rfl, ?_⟩) ?_ ?_
   rotate_left
   ·intro w'
    go_simp
    with_reducible rfl
   rotate_left
   ·simp only [Act.put, putA, putB, putC]
    rfl
   refine pure_ (i := 4) (N := some 42) (v := ?_) (a' := ?_) #[true, true, true, true, true, false, false, false, false, false, false, false, false, false, false, false, false, false, false, false, false] rfl rfl (by kernel_rfl) (fun _ _ _ h => h) (Or.inl ⟨by rfl, ?_⟩) ?_ ?_
   rotate_left
   ·intro w'
    go_simp
    with_reducible rfl
   rotate_left
   ·simp only [Act.put, putA, putB, putC]
    rfl
   refine pure_ (i := 5) (N := some 43) (v := ?_) (a' := ?_) #[true, true, true, true, true, true, false, false, false, false, false, false, false, false, false, false, false, false, false, false, false] rfl rfl (by kernel_rfl) (fun _ _ _ h => h) (Or.inl ⟨by rfl, ?_⟩) ?_ ?_
   rotate_left
   ·intro w'
    go_simp
    with_reducible rfl
   rotate_left
   ·simp only [Act.put, putA, putB, putC]
    rfl
   refine pure_ (i := 6) (N := some 44) (v := ?_) (a' := ?_) #[true, true, true, true, true, true, true, false, false, false, false, false, false, false, false, false, false, false, false, false, false] rfl rfl (by kernel_rfl) (fun _ _ _ h => h) (Or.inl ⟨by rfl, ?_⟩) ?_ ?_
   rotate_left
   ·intro w'
    go_simp
    with_reducible rfl
   rotate_left
   ·simp only [Act.put, putA, putB, putC]
    rfl
   refine pure_ (i := 9) (N := some 47) (v := ?_) (a' := ?_) #[true, true, true, true, true, true, true, false, false, true, false, false, false, false, false, false, false, false, false, false, false] rfl rfl (by kernel_rfl) (fun _ _ _ h => h) (Or.inl ⟨by rfl, ?_⟩) ?_ ?_
   rotate_left
   ·intro w'
    go_simp
    with_reducible rfl
   rotate_left
   ·simp only [Act.put, putA, putB, putC]
    rfl
   refine pure_ (i := 10) (N := some 48) (v := ?_) (a' := ?_) #[true, true, true, true, true, true, true, false, false, true, true, false, false, false, false, false, false, false, false, false, false] rfl rfl (by kernel_rfl) (fun _ _ _ h => h) (Or.inl ⟨by rfl, ?_⟩) ?_ ?_
   rotate_left
   ·intro w'
    go_simp
    with_reducible rfl
   rotate_left
   ·simp only [Act.put, putA, putB, putC]
    rfl
   refine pure_ (i := 11) (N := some 49) (v := ?_) (a' := ?_) #[true, true, true, true, true, true, true, false, false, true, true, true, false, false, false, false, false, false, false, false, false] rfl rfl (by kernel_rfl) (fun _ _ _ h => h) (Or.inl ⟨by rfl, ?_⟩) ?_ ?_
   rotate_left
   ·intro w'
    go_simp
    with_reducible rfl
   rotate_left
   ·simp only [Act.put, putA, putB, putC]
    rfl
   refine pure_ (i := 12) (N := some 50) (v := ?_) (a' := ?_) #[true, true, true, true, true, true, true, false, false, true, true, true, true, false, false, false, false, false, false, false, false] rfl rfl (by kernel_rfl) (fun _ _ _ h => h) (Or.inl ⟨by rfl, ?_⟩) ?_ ?_
   rotate_left
   ·intro w'
    go_simp
    with_reducible rfl
   rotate_left
   ·simp only [Act.put, putA, putB, putC]
    rfl
   refine pure_ (i := 13) (N := some 51) (v := ?_) (a' := ?_) #[true, true, true, true, true, true, true, false, false, true, true, true, true, true, false, false, false, false, false, false, false] rfl rfl (by kernel_rfl) (fun _ _ _ h => h) (Or.inl ⟨by rfl, ?_⟩) ?_ ?_
   rotate_left
   ·intro w'
    go_simp
    with_reducible rfl
   rotate_left
   ·simp only [Act.put, putA, putB, putC]
    rfl
   refine pure_ (i := 14) (N := some 52) (v := ?_) (a' := ?_) #[true, true, true, true, true, true, true, false, false, true, true, true, true, true, true, false, false, false, false, false, false] rfl rfl (by kernel_rfl) (fun _ _ _ h => h) (Or.inl ⟨by rfl, ?_⟩) ?_ ?_
   rotate_left
   ·intro w'
    go_simp
    with_reducible rfl
   rotate_left
   ·simp only [Act.put, putA, putB, putC]
    rfl
   refine one_ (i := 7) (N := some 45) #[true, true, true, true, true, true, true, true, false, true, true, true, true, true, true, false, false, false, false, false, false] rfl rfl (by kernel_rfl) (by decide) (fun K hK => ?_)
   refine goes_ Tryd.func29 (by kernel_rfl) rfl #[.string s2] (by rfl) rfl rfl (by (try simp only [List.map_toArray, List.map_cons, List.map_nil]); first | done | rfl) ?_
   refine (HN2.out _).mono ?_
   rintro e w9 ⟨rfl, n9, rfl⟩
   have q10b := blk_cell (HY.out.drewN n9).f 10
   simp at q10b
   refine ⟨_, rfl, ?_⟩
   refine hK.out _ _ q10b (fun hHeld => ?_)
   clear hK K
   refine norm_ (a' := ?_) ?_ ?_
   rotate_left
   ·show Act.put _ (some 45) _ = _
    simp only [Act.put, putA, putB, putC]
    rfl
   refine pure_ (i := 8) (N := some 46) (v := ?_) (a' := ?_) #[true, true, true, true, true, true, true, true, true, true, true, true, true, true, true, false, false, false, false, false, false] rfl rfl (by kernel_rfl) (fun _ _ _ h => h) (Or.inl ⟨by rfl, ?_⟩) ?_ ?_
   rotate_left
   ·intro w'
    go_simp
    with_reducible rfl
   rotate_left
   ·simp only [Act.put, putA, putB, putC]
    rfl
   refine one_ (i := 15) (N := some 53) #[true, true, true, true, true, true, true, true, true, true, true, true, true, true, true, true, false, false, false, false, false] rfl rfl (by kernel_rfl) (by decide) (fun K hK => ?_)
   refine goes_ Tryd.func29 (by kernel_rfl) rfl #[.string s4] (by rfl) rfl rfl (by (try simp only [List.map_toArray, List.map_cons, List.map_nil]); first | done | rfl) ?_
   refine (HN4.out _).mono ?_
   rintro e w10 ⟨rfl, n10, rfl⟩
   have H10 := Lib.hid ((HY.out.drewN n9).drewN n10)
   generalize hwX : (wy.drewN n9).drewN n10 = wx at H10 ⊢
   have q10c := blk_cell H10.out.f 10
   simp at q10c
   clear hwX
   refine ⟨_, rfl, ?_⟩
   refine hK.out _ _ q10c (fun hHeld => ?_)
   clear hK K
   refine norm_ (a' := ?_) ?_ ?_
   rotate_left
   ·show Act.put _ (some 53) _ = _
    simp only [Act.put, putA, putB, putC]
    rfl
   refine pure_ (i := 16) (N := some 54) (v := ?_) (a' := ?_) #[true, true, true, true, true, true, true, true, true, true, true, true, true, true, true, true, true, false, false, false, false] rfl rfl (by kernel_rfl) (fun _ _ _ h => h) (Or.inl ⟨by rfl, ?_⟩) ?_ ?_
   rotate_left
   ·intro w'
    go_simp
    with_reducible rfl
   rotate_left
   ·simp only [Act.put, putA, putB, putC]
    rfl
   refine one_ (i := 17) (N := some 55) #[true, true, true, true, true, true, true, true, true, true, true, true, true, true, true, true, true, true, false, false, false] rfl rfl (by kernel_rfl) (by decide) (fun K hK => ?_)
   refine event_step (w1 := wx.alloc (.cells #[.int .u16 a, .int .u32 b] 99)) (v := .slice (some ⟨wx.heap.size, 0, none⟩) 1 1) (by rfl) (by go_simp) ?_
   have q10d := blk_cell (H10.out.step (below_alloc (Below.refl wx.heap.size wx) (.cells #[.int .u16 a, .int .u32 b] 99))).f 10
   simp at q10d
   refine hK.out _ _ q10d (fun hHeld => ?_)
   clear hK K
   refine norm_ (a' := ?_) ?_ ?_
   rotate_left
   ·show Act.put _ (some 55) _ = _
    simp only [Act.put, putA, putB, putC]
    rfl
   refine one_ (i := 18) (N := some 56) #[true, true, true, true, true, true, true, true, true, true, true, true, true, true, true, true, true, true, true, false, false] rfl rfl (by kernel_rfl) (by decide) (fun K hK => ?_)
   refine Kd.R_append_step (w0 := wx) k99 w.heap.size (by rfl) (.tmp 39) (.tmp 55) 36 99 (.agg #[.int .u16 0, .int .u32 0]) 8 (by rfl) Tryd.underlying36 Tryd.infoS (by rfl) (by decide) (by decide) (.slice As xs.length cs) xs ⟨a, b⟩ [.int .u16 a, .int .u32 b] (fun k => k ≠ gf ∧ k ≠ gr) (fun _ => False) (by rfl) (by rfl) (k99_mkM _ _ _ _) (fun _ h => h.elim) (fun k hk => ⟨by have := blk_lt H10.out.f; omega, by have := blk_lt H10.out.r; omega⟩) H10.out.row (Below.refl wx.heap.size wx |>.mono H10.out.below.size) H10.out.below.size (by have := HZ.out; omega) ?_
   intro v1 w1 hrow hbel hgrow hat
   obtain ⟨Av, cv, rfl⟩ := Kd.R_slice hrow
   have hln : (xs ++ [(⟨a, b⟩ : S99)]).length = xs.length + 1 := by simp
   rw [hln] at hrow hat ⊢
   have H1 := Lib.hid (H10.out.more Mf.out Nf_r.out.symm hrow hbel hgrow)
   have HB1 := Lib.hid ((hgrow.block gf (blk_lt H10.out.f) (Kd.R_away H10.out.row (fun k hk => hk.1))).trans H10.out.f)
   clear hrow hbel hgrow hat
   have q10e := blk_cell HB1.out 10
   have f10e := blk_frozen HB1.out 10
   simp at q10e
   refine hK.out _ _ q10e (fun hHeld => ?_)
   clear hK K
   refine norm_ (a' := ?_) ?_ ?_
   rotate_left
   ·show Act.put _ (some 56) _ = _
    simp only [Act.put, putA, putB, putC]
    rfl
   refine pure_ (i := 19) (N := some 57) (v := ?_) (a' := ?_) #[true, true, true, true, true, true, true, true, true, true, true, true, true, true, true, true, true, true, true, true, false] rfl rfl (by kernel_rfl) (fun _ _ _ h => h) (Or.inl ⟨by rfl, ?_⟩) ?_ ?_
   rotate_left
   ·intro w'
    go_simp
    with_reducible rfl
   rotate_left
   ·simp only [Act.put, putA, putB, putC]
    rfl
   refine last_ (i := 20) (N := none) #[true, true, true, true, true, true, true, true, true, true, true, true, true, true, true, true, true, true, true, true, true] rfl rfl (by kernel_rfl) (by decide) (fun K hK => ?_)
   refine skip_ (w1 := ?_) (by rfl) rfl ?_ ?_
   rotate_left
   ·go_simp
    rfl
   refine hK.out _ _ ?_
   clear hK K
   refine done_ (by kernel_rfl) ?_
   clear q10e f10e hHeld
   generalize w1.setCell ⟨gf, 10, none⟩ (.slice Av (xs.length + 1) cv) = w2 at H1 ⊢
   go_wp2_with fail
   go_roundg m
   case measure => omega
   case rel => exact ⟨j + 1, _, xs ++ [⟨a, b⟩], by rw [HZ.out.2.2.1], by have := HZ.out.2.2.2.1; omega, by rw [List.append_assoc]; exact HZ.out.1, by have := HZ.out.2.1; simp; omega, H1.out⟩

theorem leansB_other {ty fl : Int} (h1 : ty ≠ 1) (h2 : ty ≠ 2) : leansB ty fl = false := by
 unfold leansB
 rw [if_neg h2, if_neg h1]
theorem shortT_4 {fl : Int} {n : Nat} (h : shortT 4 fl n = false) : n % 6 = 0 ∧ ¬ (fl % 2 = 1 ∧ 0 < n) := by
 unfold shortT at h
 simp at h
 omega
theorem rparts_calls (w : World) (ty fl st pad : Int) (l : List Int) (h0 : 0 ≤ fl) (h1 : fl ≤ 255) (hby : Byte8 l) (hl : l.length ≤ 100000) (hs : shortT ty fl l.length = false) :
  Calls Tryd.prog 58 #[.agg (frC (fr0 ty fl st pad) nilS nilS), .string (strOfNums l)] w (PartsPost w (partsF (fr0 ty fl st pad) l)) := by
 by_cases t3 : ty = 3
 ·subst t3
  exact parts_3 w fl st pad l h0 h1 hby hl (by unfold shortT at hs; simp at hs; omega)
 by_cases t4 : ty = 4
 ·subst t4
  have := (shortT_4 hs).1
  exact parts_4 w fl st pad l (l.length / 6) h0 h1 hby hl (by omega)
 by_cases t5 : ty = 5
 ·subst t5
  exact parts_5 w fl st pad l h0 h1 hby hl (by unfold shortT at hs; simp at hs; omega)
 by_cases t7 : ty = 7
 ·subst t7
  exact parts_7 w fl st pad l h0 h1 hby hl (by unfold shortT at hs; simp at hs; omega)
 by_cases t8 : ty = 8
 ·subst t8
  exact parts_8 w fl st pad l h0 h1 hby hl (by unfold shortT at hs; simp at hs; omega)
 cases hb : leansB ty fl
 ·exact parts_plain w ty fl st pad l h0 h1 hby hl hb t3 t4 t5 t7 t8
 ·refine parts_lean w ty fl st pad l h0 h1 hby hl hb ?_
  have ht : ty = 1 ∨ ty = 2 := by
   by_cases t1 : ty = 1
   ·exact .inl t1
   ·by_cases t2 : ty = 2
    ·exact .inr t2
    ·rw [leansB_other t1 t2] at hb; cases hb
  rcases ht with rfl | rfl
  ·unfold shortT at hs
   rw [if_pos rfl, hb] at hs
   simp at hs
   omega
  ·unfold shortT at hs
   simp at hs
   omega
set_option maxHeartbeats 1000000 in
theorem bit1 (n : Fin 256) : (Go.bits .and .u8 (n.val : Int) 1 ≠ 0) ↔ (n.val : Int) % 2 = 1 := by
 revert n
 decide +kernel
theorem bit1' {n : Int} (h0 : 0 ≤ n) (h1 : n ≤ 255) : (Go.bits .and .u8 n 1 ≠ 0) ↔ n % 2 = 1 := by
 have := bit1 ⟨n.toNat, by omega⟩
 rwa [show ((n.toNat : Nat) : Int) = n by omega] at this
theorem body_short {F : Fr} {b : List Int} (h0 : 0 ≤ F.fl) (h1 : F.fl ≤ 255) (hs : shortT F.ty F.fl b.length = true) : bodyR F b = .bad (if F.ty = 2 then 2 else 1) 6 := by
 have hb1 := bit1' h0 h1
 unfold bodyR
 by_cases t2 : F.ty = 2
 ·rw [t2] at hs
  unfold shortT at hs
  simp at hs
  rw [if_pos ⟨t2, hs⟩, if_pos t2]
 rw [if_neg (fun h => t2 h.1), if_neg t2]
 by_cases t4 : F.ty = 4
 ·rw [t4] at hs
  unfold shortT at hs
  simp at hs
  have hn : ¬ shortR F b := by
   unfold shortR leastR
   rw [t4, leansB_other (by decide) (by decide)]
   simp
  rw [if_neg hn, if_pos t4]
  unfold setsR
  rw [if_pos (by rw [hb1]; omega)]
 ·refine if_pos ?_
  unfold shortR leastR
  by_cases t1 : F.ty = 1
  ·rw [t1] at hs ⊢
   unfold shortT at hs
   simp at hs
   exact .inl hs
  by_cases t3 : F.ty = 3
  ·rw [t3] at hs ⊢
   unfold shortT at hs
   simp at hs ⊢
   omega
  by_cases t5 : F.ty = 5
  ·rw [t5] at hs ⊢
   unfold shortT at hs
   simp at hs ⊢
   omega
  by_cases t6 : F.ty = 6
  ·rw [t6] at hs ⊢
   unfold shortT at hs
   simp at hs ⊢
   omega
  by_cases t7 : F.ty = 7
  ·rw [t7] at hs ⊢
   unfold shortT at hs
   simp at hs ⊢
   omega
  by_cases t8 : F.ty = 8
  ·rw [t8] at hs ⊢
   unfold shortT at hs
   simp at hs ⊢
   omega
  rw [shortT_none t1 t2 t3 t4 t5 t6 t7 t8] at hs
  cases hs
theorem body_parts {F : Fr} {b : List Int} (h0 : 0 ≤ F.fl) (h1 : F.fl ≤ 255) (hby : Byte8 b) (hs : shortT F.ty F.fl b.length = false) :
  bodyR F b = if F.ty = 8 ∧ (partsF F b).win = 0 then .bad (if F.st > 0 then 2 else 1) 1 else .ok (partsF F b) := by
 have hb1 := bit1' h0 h1
 have hv := valL_bound hby
 unfold bodyR partsF
 by_cases t2 : F.ty = 2
 ·have hl : b.length = 5 := by
   rw [t2] at hs
   unfold shortT at hs
   simp at hs
   exact hs
  have hn : ¬ shortR F b := by
   unfold shortR leastR
   rw [t2]
   simp
   omega
  have hl2 : leansB F.ty F.fl = true := by rw [t2]; rfl
  rw [if_neg (fun h => h.2 hl), if_neg hn]
  simp [t2, hl2]
  have : leansB 2 F.fl = true := rfl
  simp [this]
 rw [if_neg (fun h => t2 h.1)]
 by_cases t4 : F.ty = 4
 ·have hx := hs
  rw [t4] at hx
  have hx := shortT_4 hx
  have hn : ¬ shortR F b := by
   unfold shortR leastR
   rw [t4, leansB_other (by decide) (by decide)]
   simp
  rw [if_neg hn, if_pos t4]
  unfold setsR
  rw [if_neg (by rw [hb1]; omega)]
  simp [t4]
 have hn : ¬ shortR F b := by
  unfold shortR leastR
  by_cases t1 : F.ty = 1
  ·rw [t1] at hs ⊢
   unfold shortT at hs
   simp at hs ⊢
   intro h
   have := hs h
   omega
  rw [leansB_other t1 t2]
  by_cases t3 : F.ty = 3
  ·rw [t3] at hs ⊢
   unfold shortT at hs
   simp at hs ⊢
   omega
  by_cases t5 : F.ty = 5
  ·rw [t5] at hs ⊢
   unfold shortT at hs
   simp at hs ⊢
   omega
  by_cases t6 : F.ty = 6
  ·rw [t6] at hs ⊢
   unfold shortT at hs
   simp at hs ⊢
   omega
  by_cases t7 : F.ty = 7
  ·rw [t7] at hs ⊢
   unfold shortT at hs
   simp at hs ⊢
   omega
  by_cases t8 : F.ty = 8
  ·rw [t8] at hs ⊢
   unfold shortT at hs
   simp at hs ⊢
   omega
  simp [t3, t5, t6, t7, t8]
 rw [if_neg hn, if_neg t4]
 by_cases t3 : F.ty = 3
 ·simp [t3]
 by_cases t8 : F.ty = 8
 ·simp only [t8, if_true, true_and, show ¬ ((8 : Int) = 4) by decide, show ¬ ((8 : Int) = 3) by decide, if_false]
  by_cases hw : valL b % 2147483648 = 0
  ·rw [if_neg (by omega), if_pos hw]
  ·rw [if_pos (by omega), if_neg hw]
 by_cases t7 : F.ty = 7
 ·simp [t7]
 by_cases t5 : F.ty = 5
 ·simp [t5]
 cases hl : leansB F.ty F.fl <;> simp [t3, t4, t5, t7, t8]

def RGetPost (w : World) (r : Fr × Int × Int) (e : Ending) (w' : World) : Prop := (∃ v, e = .returned (.agg (v ++ #[.int .u8 r.2.1, .int .u32 r.2.2])) ∧ FrCame w r.1 v w') ∧ Below w.heap.size w w'
theorem frCame_nil (w w' : World) (F : Fr) (hd : F.data = []) (hs : F.sets = []) : FrCame w F (frC F nilS nilS) w' := by
 refine ⟨none, 0, none, 0, ?_, ⟨⟨?_, ?_, ?_⟩, ?_, fun a h => by cases h⟩, ⟨?_, ?_, fun a h => by cases h⟩⟩
 ·rw [hd, hs]; rfl
 ·rfl
 ·rw [hd]; decide
 ·rw [hd]; intro h; exact absurd h (Nat.lt_irrefl 0)
 ·rw [hd]; exact Nat.le_refl _
 ·rw [hs]; exact no_sets _
 ·rw [hs]; exact Nat.le_refl _
theorem Only.C99 {g : Nat} {W w1 : World} {A : Option Addr} {n : Nat} {xs : List S99} (h : Only g W w1) (hC : k99.C W A n xs) (hne : ∀ a, A = some a → a.block ≠ g) : k99.C w1 A n xs :=
 ⟨hC.1, hC.2.1, fun hn => by
  obtain ⟨ad, e, hc⟩ := hC.2.2 hn
  refine ⟨ad, e, fun j p hj => ?_⟩
  obtain ⟨c, hs, hr, hcell⟩ := hc j p hj
  refine ⟨c, hs, hr, fun i u hu => ?_⟩
  have hx := hcell i u hu
  have hk : (ad.add (j * (k99).sz + i)).block ≠ g := by rw [add_block]; exact hne ad e
  rw [← hx]
  simp [World.cell?, h.block _ hk]⟩
theorem FrCame.only {w W w1 : World} {F : Fr} {v : Array Value} {g : Nat} (h : FrCame w F v W) (o : Only g W w1) (hg : g < w.heap.size) : FrCame w F v w1 := by
 obtain ⟨A, c, B, m, e, ⟨r1, r2, r3⟩, ⟨s1, s2, s3⟩⟩ := h
 exact ⟨A, c, B, m, e, ⟨o.reads r1 (fun a ha => by have := r3 a ha; omega), r2, r3⟩, ⟨o.C99 s1 (fun a ha => by have := s3 a ha; omega), s2, s3⟩⟩
theorem FrCame.below {w W w1 : World} {F : Fr} {v : Array Value} (h : FrCame w F v W) (hb : Below W.heap.size W w1) : FrCame w F v w1 := by
 obtain ⟨A, c, B, m, e, ⟨r1, r2, r3⟩, ⟨s1, s2, s3⟩⟩ := h
 exact ⟨A, c, B, m, e, ⟨r1.below hb, r2, r3⟩, ⟨Kd.C_below s1 hb, s2, s3⟩⟩
theorem FrCame.mono {w w0 W : World} {F : Fr} {v : Array Value} (h : FrCame w0 F v W) (hw : w.heap.size ≤ w0.heap.size) : FrCame w F v W := by
 obtain ⟨A, c, B, m, e, ⟨r1, r2, r3⟩, ⟨s1, s2, s3⟩⟩ := h
 exact ⟨A, c, B, m, e, ⟨r1, r2, fun a ha => Nat.le_trans hw (r3 a ha)⟩, ⟨s1, s2, fun a ha => Nat.le_trans hw (s3 a ha)⟩⟩
theorem readR_plain {ty fl st : Int} {b : List Int} (h : ¬ ((ty = 0 ∨ ty = 1 ∨ ty = 5) ∧ Go.bits .and .u8 fl 8 ≠ 0)) : readR (fr0 ty fl st (-1)) b = bodyR (fr0 ty fl st (-1)) b := by
 unfold readR unpadR
 rw [if_neg h]
 simp
theorem readR_empty {ty fl st : Int} (h : (ty = 0 ∨ ty = 1 ∨ ty = 5) ∧ Go.bits .and .u8 fl 8 ≠ 0) : readR (fr0 ty fl st (-1)) [] = .bad 1 6 := by
 unfold readR unpadR
 rw [if_pos h]
 rfl
theorem readR_big {ty fl st : Int} {b : List Int} (h : (ty = 0 ∨ ty = 1 ∨ ty = 5) ∧ Go.bits .and .u8 fl 8 ≠ 0) (h0 : b.length ≠ 0) (hx : (b.length : Int) - 1 < b.getD 0 0) : readR (fr0 ty fl st (-1)) b = .bad 1 1 := by
 unfold readR unpadR
 rw [if_pos h, if_neg h0, if_pos hx]
theorem readR_pad {ty fl st : Int} {b : List Int} (h : (ty = 0 ∨ ty = 1 ∨ ty = 5) ∧ Go.bits .and .u8 fl 8 ≠ 0) (h0 : b.length ≠ 0) (hx : ¬ (b.length : Int) - 1 < b.getD 0 0) (h1 : 0 ≤ b.getD 0 0) :
  readR (fr0 ty fl st (-1)) b = bodyR (fr0 ty fl st (b.getD 0 0)) ((b.take ((b.length : Int) - b.getD 0 0).toNat).drop 1) := by
 unfold readR unpadR
 rw [if_pos h, if_neg h0, if_neg hx]
 have e : (b.drop 1).take (b.length - 1 - (b.getD 0 0).toNat) = (b.take ((b.length : Int) - b.getD 0 0).toNat).drop 1 := by
  rw [List.drop_take]
  congr 1
  omega
 simp only [e]
theorem partsF_head (F : Fr) (b : List Int) : (partsF F b).ty = F.ty ∧ (partsF F b).st = F.st := by
 unfold partsF leanF
 repeat' split
 all_goals exact ⟨rfl, rfl⟩
set_option maxHeartbeats 8000000 in
set_option maxRecDepth 100000 in
theorem rget_short (w : World) (l : List Int) (h9 : l.length < 9) : Calls Tryd.prog 26 #[.string (strOfNums l)] w (RGetPost w (getFr l)) := by
 refine of_post0 fun R hRR => ?_
 have HP := Lib.hid hRR
 have HE := Lib.hid (show getFr l = (noneF, 1, 6) by unfold getFr; rw [if_pos (by omega)])
 have hsz := str_size l
 have c1 : decide (((strOfNums l).size : Int) < 9) = true := by rw [decide_eq_true_iff]; omega
 have c2 : decide ((strOfNums l).size < 9) = true := by rw [decide_eq_true_iff]; omega
 clear hRR hsz h9
 generalize strOfNums l = s at c1 c2 ⊢
 have V := Aside0.mk (Below.refl w.heap.size w)
 go_enter Tryd.func26, Tryd.ntmps26
 go_wp2_with (first
  | (refine gate_alloc 2 rfl rfl ?_; refine make_ev rfl (cs := fC ⟨0, 0, 0, [], 0, 0, 0, 0, false, 0, []⟩ nilS nilS 0 0) (t := 45) (by first | (go_simp; done) | (go_simp; rfl)) ?_; intro gr hg_ w0_ k_ z_ b_; have Mr := Aside0.mk (show w.heap.size ≤ gr by rw [hg_]; exact V.out.size); have q0_ := Aside0.mk (V.out.trans (b_.mono V.out.size)); clear V; have V := q0_; clear q0_; have Kr := Aside0.mk k_; clear hg_ k_ z_ b_)
  | (refine gate_alloc 3 rfl rfl ?_; refine make_ev rfl (cs := fC ⟨0, 0, 0, [], 0, 0, 0, 0, false, 0, []⟩ nilS nilS 0 0) (t := 45) (by first | (go_simp; done) | (go_simp; rfl)) ?_; intro gn hg_ w1_ k_ z_ b_; have Nr_n := Aside0.mk (show gr ≠ gn by rw [hg_]; exact Nat.ne_of_lt (blk_lt Kr.out)); have Mn := Aside0.mk (show w.heap.size ≤ gn by rw [hg_]; exact V.out.size); have q0_ := Aside0.mk (blk_below Kr.out b_); have q1_ := Aside0.mk (V.out.trans (b_.mono V.out.size)); clear Kr; clear V; have Kr := q0_; have V := q1_; clear q0_ q1_; have Kn := Aside0.mk k_; clear hg_ k_ z_ b_)
  | (refine gate_stored (t := 45) (p := .tmp 3) rfl ?_; refine store_ev rfl rfl rfl (g := gn) (k := 0) (u := (.agg (fC noneF nilS nilS 0 0))) (cs' := fC noneF nilS nilS 0 0) rfl rfl Kn.out (by kernel_rfl) (Nat.le_of_ble_eq_true rfl) rfl rfl ?_; intro w2_ k_ o_; have q0_ := Aside0.mk (o_.blk Kr.out Nr_n.out); have q1_ := Aside0.mk (k_); have q2_ := Aside0.mk (o_.below V.out Mn.out); clear Kr; clear Kn; clear V; have Kr := q0_; have Kn := q1_; have V := q2_; clear q0_ q1_ q2_; clear k_ o_)
  | (refine gate_load (t := 45) 22 rfl rfl ?_; refine load_ev rfl rfl rfl Kn.out Tryd.underlying45 rfl (by kernel_rfl) ?_)
  | (go_at_call 54; (with_reducible refine (fails_calls _ noneF none 0 0 none 0 0 0 0 1 6).mono ?_); rintro e_ w3_ ⟨rfl, h_⟩; have b_ := h_; have q0_ := Aside0.mk (blk_below Kr.out b_); have q1_ := Aside0.mk (blk_below Kn.out b_); have q2_ := Aside0.mk (V.out.trans (b_.mono V.out.size)); clear Kr; clear Kn; clear V; have Kr := q0_; have Kn := q1_; have V := q2_; clear q0_ q1_ q2_; clear b_ h_)
  | (refine gate_stored (t := 45) (p := .tmp 2) rfl ?_; refine store_ev rfl rfl rfl (g := gr) (k := 0) (u := (.agg (fC noneF nilS nilS 1 6))) (cs' := fC noneF nilS nilS 1 6) rfl rfl Kr.out (by kernel_rfl) (Nat.le_of_ble_eq_true rfl) rfl rfl ?_; intro w4_ k_ o_; have q0_ := Aside0.mk (o_.blk Kn.out Nr_n.out.symm); have q1_ := Aside0.mk (k_); have q2_ := Aside0.mk (o_.below V.out Mr.out); clear Kn; clear Kr; clear V; have Kn := q0_; have Kr := q1_; have V := q2_; clear q0_ q1_ q2_; clear k_ o_))
 refine bodyPost_ret (results_cell_row rfl _ _ gr 45 _ (0, 0) _ rfl Kr.out Tryd.underlying45 rfl (by kernel_rfl)) rfl (HP.out _ _ ?_)
 rw [HE.out]
 exact ⟨⟨frC noneF nilS nilS, rfl, frCame_nil _ _ _ rfl rfl⟩, V.out⟩
set_option maxHeartbeats 8000000 in
set_option maxRecDepth 100000 in
theorem rget_length (w : World) (l : List Int) (hby : Byte8 l) (h9 : 9 ≤ l.length) (hl : l.length ≤ 20000000) (hn : headN l ≠ (l.length : Int)) : Calls Tryd.prog 26 #[.string (strOfNums l)] w (RGetPost w (getFr l)) := by
 refine of_post0 fun R hRR => ?_
 have HP := Lib.hid hRR
 have HE := Lib.hid (show getFr l = (noneF, 1, 6) by unfold getFr; rw [if_pos (by omega)])
 have hsz := str_size l
 have c1 : decide (((strOfNums l).size : Int) < 9) = false := by rw [decide_eq_false_iff_not]; omega
 have c2 : decide ((strOfNums l).size < 9) = false := by rw [decide_eq_false_iff_not]; omega
 have hl3 : (l.take 3).length = 3 := by rw [List.length_take]; omega
 have hb3 : Byte8 (l.take 3) := fun x hx => hby x (List.mem_of_mem_take hx)
 have f3 := fun W => run_to_str l 3 (by decide) (by omega) W
 rw [show (3 : Int).toNat = 3 from rfl] at f3
 have HV := Lib.hid (fun W => value_ref_calls W (l.take 3) (by omega) hb3)
 have hv3 := valL_bound hb3
 rw [hl3, show (256 : Int) ^ 3 = 16777216 from rfl] at hv3
 have hw3 : IntKind.i64.wrap (valL (l.take 3)) = valL (l.take 3) := by simp [IntKind.wrap, IntKind.bits, IntKind.signed]; omega
 have hne : ((l.length : Int) - 9 != valL (l.take 3)) = true := by
  rw [bne_iff_ne]
  unfold headN at hn
  rw [if_neg (by omega)] at hn
  omega
 have hw9 : wrap64 ((l.length : Int) - 9) = (l.length : Int) - 9 := wrap_okF (by omega) (by omega)
 clear hRR h9 hn hl hl3 hb3 hby hv3
 generalize strOfNums l = s at c1 c2 hsz f3 ⊢
 generalize valL (l.take 3) = v3 at HV hw3 hne
 generalize strOfNums (l.take 3) = s3 at f3 HV
 generalize l.length = n at hsz hne hw9
 subst hsz
 have V := Aside0.mk (Below.refl w.heap.size w)
 go_enter Tryd.func26, Tryd.ntmps26
 go_wp2_with (first
  | (refine gate_alloc 2 rfl rfl ?_; refine make_ev rfl (cs := fC ⟨0, 0, 0, [], 0, 0, 0, 0, false, 0, []⟩ nilS nilS 0 0) (t := 45) (by first | (go_simp; done) | (go_simp; rfl)) ?_; intro gr hg_ w0_ k_ z_ b_; have Mr := Aside0.mk (show w.heap.size ≤ gr by rw [hg_]; exact V.out.size); have q0_ := Aside0.mk (V.out.trans (b_.mono V.out.size)); clear V; have V := q0_; clear q0_; have Kr := Aside0.mk k_; clear hg_ k_ z_ b_)
  | (refine gate_alloc 3 rfl rfl ?_; refine make_ev rfl (cs := fC ⟨0, 0, 0, [], 0, 0, 0, 0, false, 0, []⟩ nilS nilS 0 0) (t := 45) (by first | (go_simp; done) | (go_simp; rfl)) ?_; intro gn hg_ w1_ k_ z_ b_; have Nr_n := Aside0.mk (show gr ≠ gn by rw [hg_]; exact Nat.ne_of_lt (blk_lt Kr.out)); have Mn := Aside0.mk (show w.heap.size ≤ gn by rw [hg_]; exact V.out.size); have q0_ := Aside0.mk (blk_below Kr.out b_); have q1_ := Aside0.mk (V.out.trans (b_.mono V.out.size)); clear Kr; clear V; have Kr := q0_; have V := q1_; clear q0_ q1_; have Kn := Aside0.mk k_; clear hg_ k_ z_ b_)
  | (refine gate_stored (t := 45) (p := .tmp 3) rfl ?_; refine store_ev rfl rfl rfl (g := gn) (k := 0) (u := (.agg (fC noneF nilS nilS 0 0))) (cs' := fC noneF nilS nilS 0 0) rfl rfl Kn.out (by kernel_rfl) (Nat.le_of_ble_eq_true rfl) rfl rfl ?_; intro w2_ k_ o_; have q0_ := Aside0.mk (o_.blk Kr.out Nr_n.out); have q1_ := Aside0.mk (k_); have q2_ := Aside0.mk (o_.below V.out Mn.out); clear Kr; clear Kn; clear V; have Kr := q0_; have Kn := q1_; have V := q2_; clear q0_ q1_ q2_; clear k_ o_)
  | (go_at_call 29; (with_reducible refine (HV.out _).mono ?_); rintro e_ w3_ ⟨rfl, h_⟩; have b_ := h_.below; have q0_ := Aside0.mk (blk_below Kr.out b_); have q1_ := Aside0.mk (blk_below Kn.out b_); have q2_ := Aside0.mk (V.out.trans (b_.mono V.out.size)); clear Kr; clear Kn; clear V; have Kr := q0_; have Kn := q1_; have V := q2_; clear q0_ q1_ q2_; clear b_ h_)
  | (refine gate_load (t := 45) 22 rfl rfl ?_; refine load_ev rfl rfl rfl Kn.out Tryd.underlying45 rfl (by kernel_rfl) ?_)
  | (go_at_call 54; (with_reducible refine (fails_calls _ noneF none 0 0 none 0 0 0 0 1 6).mono ?_); rintro e_ w4_ ⟨rfl, h_⟩; have b_ := h_; have q0_ := Aside0.mk (blk_below Kr.out b_); have q1_ := Aside0.mk (blk_below Kn.out b_); have q2_ := Aside0.mk (V.out.trans (b_.mono V.out.size)); clear Kr; clear Kn; clear V; have Kr := q0_; have Kn := q1_; have V := q2_; clear q0_ q1_ q2_; clear b_ h_)
  | (refine gate_stored (t := 45) (p := .tmp 2) rfl ?_; refine store_ev rfl rfl rfl (g := gr) (k := 0) (u := (.agg (fC noneF nilS nilS 1 6))) (cs' := fC noneF nilS nilS 1 6) rfl rfl Kr.out (by kernel_rfl) (Nat.le_of_ble_eq_true rfl) rfl rfl ?_; intro w5_ k_ o_; have q0_ := Aside0.mk (o_.blk Kn.out Nr_n.out.symm); have q1_ := Aside0.mk (k_); have q2_ := Aside0.mk (o_.below V.out Mr.out); clear Kn; clear Kr; clear V; have Kn := q0_; have Kr := q1_; have V := q2_; clear q0_ q1_ q2_; clear k_ o_))
 refine bodyPost_ret (results_cell_row rfl _ _ gr 45 _ (0, 0) _ rfl Kr.out Tryd.underlying45 rfl (by kernel_rfl)) rfl (HP.out _ _ ?_)
 rw [HE.out]
 exact ⟨⟨frC noneF nilS nilS, rfl, frCame_nil _ _ _ rfl rfl⟩, V.out⟩

set_option maxHeartbeats 8000000 in
set_option maxRecDepth 100000 in
theorem rget_main (w : World) (l : List Int) (hby : Byte8 l) (h9 : 9 ≤ l.length) (hl : l.length ≤ 20000000) (hn : headN l = (l.length : Int)) : Calls Tryd.prog 26 #[.string (strOfNums l)] w (RGetPost w (getFr l)) := by
 refine of_post0 fun R hRR => ?_
 have HP := Lib.hid hRR
 have hsz := str_size l
 have c1 : decide (((strOfNums l).size : Int) < 9) = false := by rw [decide_eq_false_iff_not]; omega
 have c2 : decide ((strOfNums l).size < 9) = false := by rw [decide_eq_false_iff_not]; omega
 have hl3 : (l.take 3).length = 3 := by rw [List.length_take]; omega
 have hb3 : Byte8 (l.take 3) := fun x hx => hby x (List.mem_of_mem_take hx)
 have f3 := fun W => run_to_str l 3 (by decide) (by omega) W
 rw [show (3 : Int).toNat = 3 from rfl] at f3
 have HV := Lib.hid (fun W => value_ref_calls W (l.take 3) (by omega) hb3)
 have hv3 := valL_bound hb3
 rw [hl3, show (256 : Int) ^ 3 = 16777216 from rfl] at hv3
 have hw3 : IntKind.i64.wrap (valL (l.take 3)) = valL (l.take 3) := by simp [IntKind.wrap, IntKind.bits, IntKind.signed]; omega
 have hne : ((l.length : Int) - 9 != valL (l.take 3)) = false := by
  rw [bne_eq_false_iff_eq]
  unfold headN at hn
  rw [if_neg (by omega)] at hn
  omega
 have hw9 : wrap64 ((l.length : Int) - 9) = (l.length : Int) - 9 := wrap_okF (by omega) (by omega)
 have hl59 : ((l.take 9).drop 5).length = 4 := by rw [List.length_drop, List.length_take]; omega
 have hb59 : Byte8 ((l.take 9).drop 5) := fun x hx => hby x (List.mem_of_mem_take (List.mem_of_mem_drop hx))
 have f59 := fun W => run_cut_str l 5 9 (by decide) (by decide) (by omega) W
 have f9 := fun W => run_from_str l 9 (by decide) (by omega) W
 have i3 := fun W => run_index_str hby 3 (by decide) (by omega) W
 have i4 := fun W => run_index_str hby 4 (by decide) (by omega) W
 rw [show (5 : Int).toNat = 5 from rfl, show (9 : Int).toNat = 9 from rfl] at f59
 rw [show (9 : Int).toNat = 9 from rfl] at f9
 rw [show (3 : Int).toNat = 3 from rfl] at i3
 rw [show (4 : Int).toNat = 4 from rfl] at i4
 have HV59 := Lib.hid (fun W => value_ref_calls W ((l.take 9).drop 5) (by omega) hb59)
 have HV0 := Lib.hid (valL_bound hb59).1
 have HG := Lib.hid (show getFr l = if 16384 < (l.drop 9).length then (⟨l.getD 3 0, l.getD 4 0, valL ((l.take 9).drop 5) % 2147483648, [], -1, 0, 0, 0, false, 0, []⟩, 1, 6) else if stBad (l.getD 3 0) (valL ((l.take 9).drop 5) % 2147483648) = true then (⟨l.getD 3 0, l.getD 4 0, valL ((l.take 9).drop 5) % 2147483648, [], -1, 0, 0, 0, false, 0, []⟩, 1, 1)
   else match readR ⟨l.getD 3 0, l.getD 4 0, valL ((l.take 9).drop 5) % 2147483648, [], -1, 0, 0, 0, false, 0, []⟩ (l.drop 9) with
    | .bad s c => (⟨l.getD 3 0, l.getD 4 0, valL ((l.take 9).drop 5) % 2147483648, [], -1, 0, 0, 0, false, 0, []⟩, s, c)
    | .ok F => (F, 0, 0) by
  unfold getFr
  rw [if_neg (by simp [hn]; omega)]
  have e : (16393 < l.length) = (16384 < (l.drop 9).length) := by rw [List.length_drop]; exact propext ⟨fun h => by omega, fun h => by omega⟩
  simp only [e]
  rfl)
 have HF := Lib.hid (show 0 ≤ l.getD 4 0 ∧ l.getD 4 0 ≤ 255 by
  rw [List.getD_eq_getElem?_getD, List.getElem?_eq_getElem (by omega)]
  exact hby _ (List.getElem_mem _))
 have HD := Lib.hid (And.intro (show Byte8 (l.drop 9) from fun x hx => hby x (List.mem_of_mem_drop hx)) (show (l.drop 9).length ≤ 20000000 by rw [List.length_drop]; omega))
 clear hRR h9 hn hl hl3 hb3 hby hv3 hl59 hb59
 generalize strOfNums l = s at c1 c2 hsz f3 f59 f9 i3 i4 ⊢
 generalize valL (l.take 3) = v3 at HV hw3 hne
 generalize strOfNums (l.take 3) = s3 at f3 HV
 generalize valL ((l.take 9).drop 5) = v59 at HV59 HV0 HG
 generalize strOfNums ((l.take 9).drop 5) = s59 at f59 HV59
 generalize l.getD 3 0 = ty at i3 HG
 generalize l.getD 4 0 = fl at i4 HG HF
 generalize l.drop 9 = b at f9 HG HD
 generalize getFr l = G at HP HG
 generalize l.length = n at hsz hne hw9
 subst hsz
 obtain ⟨st, hst⟩ : ∃ st, v59 % 2147483648 = st := ⟨_, rfl⟩
 rw [hst] at HG
 have V := Aside0.mk (Below.refl w.heap.size w)
 go_enter Tryd.func26, Tryd.ntmps26
 go_upto_region 4 with (first
  | (refine gate_alloc 2 rfl rfl ?_; refine make_ev rfl (cs := fC ⟨0, 0, 0, [], 0, 0, 0, 0, false, 0, []⟩ nilS nilS 0 0) (t := 45) (by first | (go_simp; done) | (go_simp; rfl)) ?_; intro gr hg_ w0_ k_ z_ b_; have Mr := Aside0.mk (show w.heap.size ≤ gr by rw [hg_]; exact V.out.size); have q0_ := Aside0.mk (V.out.trans (b_.mono V.out.size)); clear V; have V := q0_; clear q0_; have Kr := Aside0.mk k_; clear hg_ k_ z_ b_)
  | (refine gate_alloc 3 rfl rfl ?_; refine make_ev rfl (cs := fC ⟨0, 0, 0, [], 0, 0, 0, 0, false, 0, []⟩ nilS nilS 0 0) (t := 45) (by first | (go_simp; done) | (go_simp; rfl)) ?_; intro gn hg_ w1_ k_ z_ b_; have Nr_n := Aside0.mk (show gr ≠ gn by rw [hg_]; exact Nat.ne_of_lt (blk_lt Kr.out)); have Mn := Aside0.mk (show w.heap.size ≤ gn by rw [hg_]; exact V.out.size); have q0_ := Aside0.mk (blk_below Kr.out b_); have q1_ := Aside0.mk (V.out.trans (b_.mono V.out.size)); clear Kr; clear V; have Kr := q0_; have V := q1_; clear q0_ q1_; have Kn := Aside0.mk k_; clear hg_ k_ z_ b_)
  | (refine gate_stored (t := 45) (p := .tmp 3) rfl ?_; refine store_ev rfl rfl rfl (g := gn) (k := 0) (u := (.agg (fC noneF nilS nilS 0 0))) (cs' := fC noneF nilS nilS 0 0) rfl rfl Kn.out (by kernel_rfl) (Nat.le_of_ble_eq_true rfl) rfl rfl ?_; intro w2_ k_ o_; have q0_ := Aside0.mk (o_.blk Kr.out Nr_n.out); have q1_ := Aside0.mk (k_); have q2_ := Aside0.mk (o_.below V.out Mn.out); clear Kr; clear Kn; clear V; have Kr := q0_; have Kn := q1_; have V := q2_; clear q0_ q1_ q2_; clear k_ o_)
  | (go_at_call 29; (with_reducible refine (HV.out _).mono ?_); rintro e_ w3_ ⟨rfl, h_⟩; have b_ := h_.below; have q0_ := Aside0.mk (blk_below Kr.out b_); have q1_ := Aside0.mk (blk_below Kn.out b_); have q2_ := Aside0.mk (V.out.trans (b_.mono V.out.size)); clear Kr; clear Kn; clear V; have Kr := q0_; have Kn := q1_; have V := q2_; clear q0_ q1_ q2_; clear b_ h_))
 (try simp only [Act.put, putA, putB, putC])
 go_cut [4] (fun v4 wc => ∃ gf, v4 = .pointer (some ⟨gf, 0, none⟩) ∧ Aside0 (wc.heap[gr]? = some (.cells (fC ⟨0, 0, 0, [], 0, 0, 0, 0, false, 0, []⟩ nilS nilS 0 0) 45 (0, 0))) ∧ Aside0 (wc.heap[gn]? = some (.cells (fC noneF nilS nilS 0 0) 45 (0, 0))) ∧ Aside0 (wc.heap[gf]? = some (.cells (frC ⟨ty, fl, st, [], -1, 0, 0, 0, false, 0, []⟩ nilS nilS) 38 (0, 0))) ∧ Aside0 (Below w.heap.size w wc) ∧ Aside0 (w.heap.size ≤ gf) ∧ Aside0 (gr ≠ gf) ∧ Aside0 (gn ≠ gf))
 case first =>
  have q0_ := Aside0.mk (blk_below Kr.out (below_drew (Below.refl w3_.heap.size w3_)))
  have q1_ := Aside0.mk (blk_below Kn.out (below_drew (Below.refl w3_.heap.size w3_)))
  have q2_ := Aside0.mk (V.out.trans ((below_drew (Below.refl w3_.heap.size w3_)).mono V.out.size))
  clear Kr Kn V
  have Kr := q0_
  have Kn := q1_
  have V := q2_
  clear q0_ q1_ q2_
  refine start_ (n := 11) (S := fun w' => True) (ds := [10]) #[false, false, false, false, false, false, false, false, false, false, false] (by kernel_rfl) rfl rfl trivial (fun hHeld => ?_)
  generalize w3_.drew = wy at Kr Kn V hHeld ⊢
  refine pure_ (i := 0) (N := some 24) (v := ?_) (a' := ?_) #[true, false, false, false, false, false, false, false, false, false, false] rfl rfl (by kernel_rfl) (fun _ _ _ h => h) (Or.inl ⟨by rfl, ?_⟩) ?_ ?_
  rotate_left
  ·intro w'
   go_simp
   with_reducible rfl
  rotate_left
  ·simp only [Act.put, putA, putB, putC]
   rfl
  refine pure_ (i := 1) (N := some 25) (v := ?_) (a' := ?_) #[true, true, false, false, false, false, false, false, false, false, false] rfl rfl (by kernel_rfl) (fun _ _ _ h => h) (Or.inl ⟨by rfl, ?_⟩) ?_ ?_
  rotate_left
  ·intro w'
   go_simp
   with_reducible rfl
  rotate_left
  ·simp only [Act.put, putA, putB, putC]
   rfl
  refine pure_ (i := 2) (N := some 26) (v := ?_) (a' := ?_) #[true, true, true, false, false, false, false, false, false, false, false] rfl rfl (by kernel_rfl) (fun _ _ _ h => h) (Or.inl ⟨by rfl, ?_⟩) ?_ ?_
  rotate_left
  ·intro w'
   go_simp
   with_reducible rfl
  rotate_left
  ·simp only [Act.put, putA, putB, putC]
   rfl
  refine pure_ (i := 3) (N := some 27) (v := ?_) (a' := ?_) #[true, true, true, true, false, false, false, false, false, false, false] rfl rfl (by kernel_rfl) (fun _ _ _ h => h) (Or.inl ⟨by rfl, ?_⟩) ?_ ?_
  rotate_left
  ·intro w'
   go_simp
   with_reducible rfl
  rotate_left
  ·simp only [Act.put, putA, putB, putC]
   rfl
  refine pure_ (i := 4) (N := some 28) (v := ?_) (a' := ?_) #[true, true, true, true, true, false, false, false, false, false, false] rfl rfl (by kernel_rfl) (fun _ _ _ h => h) (Or.inl ⟨by rfl, ?_⟩) ?_ ?_
  rotate_left
  ·intro w'
   go_simp
   with_reducible rfl
  rotate_left
  ·simp only [Act.put, putA, putB, putC]
   rfl
  refine pure_ (i := 5) (N := some 29) (v := ?_) (a' := ?_) #[true, true, true, true, true, true, false, false, false, false, false] rfl rfl (by kernel_rfl) (fun _ _ _ h => h) (Or.inl ⟨by rfl, ?_⟩) ?_ ?_
  rotate_left
  ·intro w'
   go_simp
   with_reducible rfl
  rotate_left
  ·simp only [Act.put, putA, putB, putC]
   rfl
  refine two_ (i := 6) (j := 9) (Ni := some 30) (Nj := some 4) #[true, true, true, true, true, true, true, false, false, false, false] #[true, true, true, true, true, true, false, false, false, true, false] rfl rfl rfl rfl (by kernel_rfl) (by decide) (by decide) (fun K hK => ?_) (fun K hK => ?_)
  ·refine goes_ Tryd.func29 (by kernel_rfl) rfl #[.string s59] (by rfl) rfl rfl (by (try simp only [List.map_toArray, List.map_cons, List.map_nil]); first | done | rfl) ?_
   refine (HV59.out _).mono ?_
   rintro e_ w4_ ⟨rfl, h_⟩
   have b_ := h_.below
   have q0_ := Aside0.mk (blk_below Kr.out b_)
   have q1_ := Aside0.mk (blk_below Kn.out b_)
   have q2_ := Aside0.mk (V.out.trans (b_.mono V.out.size))
   clear Kr
   clear Kn
   clear V
   have Kr := q0_
   have Kn := q1_
   have V := q2_
   clear q0_ q1_ q2_
   clear b_ h_
   refine ⟨_, rfl, ?_⟩
   refine hK.out _ _ trivial (fun hHeld => ?_)
   clear hK K
   refine norm_ (a' := ?_) ?_ ?_
   rotate_left
   ·show Act.put _ (some 30) _ = _
    simp only [Act.put, putA, putB, putC]
    rfl
   refine two_ (i := 7) (j := 9) (Ni := some 31) (Nj := some 4) #[true, true, true, true, true, true, true, true, false, false, false] #[true, true, true, true, true, true, true, false, false, true, false] rfl rfl rfl rfl (by kernel_rfl) (by decide) (by decide) (fun K hK => ?_) (fun K hK => ?_)
   ·refine goes_ Tryd.func55 (by kernel_rfl) rfl #[.int .u32 v59] (by rfl) rfl rfl (by (try simp only [List.map_toArray, List.map_cons, List.map_nil]); first | done | rfl) ?_
    refine (rlow_calls _ v59 HV0.out).mono ?_
    rintro e_ w5_ ⟨rfl, h_⟩
    have b_ := h_.below
    have q0_ := Aside0.mk (blk_below Kr.out b_)
    have q1_ := Aside0.mk (blk_below Kn.out b_)
    have q2_ := Aside0.mk (V.out.trans (b_.mono V.out.size))
    clear Kr
    clear Kn
    clear V
    have Kr := q0_
    have Kn := q1_
    have V := q2_
    clear q0_ q1_ q2_
    clear b_ h_
    refine ⟨_, rfl, ?_⟩
    refine hK.out _ _ trivial (fun hHeld => ?_)
    clear hK K
    refine norm_ (a' := ?_) ?_ ?_
    rotate_left
    ·show Act.put _ (some 31) _ = _
     simp only [Act.put, putA, putB, putC]
     rfl
    refine pure_ (i := 8) (N := some 32) (v := ?_) (a' := ?_) #[true, true, true, true, true, true, true, true, true, false, false] rfl rfl (by kernel_rfl) (fun _ _ _ h => h) (Or.inl ⟨by rfl, ?_⟩) ?_ ?_
    rotate_left
    ·intro w'
     go_simp
     with_reducible rfl
    rotate_left
    ·simp only [Act.put, putA, putB, putC]
     rfl
    refine one_ (i := 9) (N := some 4) #[true, true, true, true, true, true, true, true, true, true, false] rfl rfl (by kernel_rfl) (by decide) (fun K hK => ?_)
    refine make_ord rfl (cs := frC ⟨0, 0, 0, [], 0, 0, 0, 0, false, 0, []⟩ nilS nilS) (t := 38) (by first | (go_simp; done) | (go_simp; rfl)) ?_
    intro gf hg_ w6_ k_ z_ b_
    have Nr_f := Aside0.mk (show gr ≠ gf by rw [hg_]; exact Nat.ne_of_lt (blk_lt Kr.out))
    have Nn_f := Aside0.mk (show gn ≠ gf by rw [hg_]; exact Nat.ne_of_lt (blk_lt Kn.out))
    have Mf := Aside0.mk (show w.heap.size ≤ gf by rw [hg_]; exact V.out.size)
    have q0_ := Aside0.mk (blk_below Kr.out b_)
    have q1_ := Aside0.mk (blk_below Kn.out b_)
    have q2_ := Aside0.mk (V.out.trans (b_.mono V.out.size))
    clear Kr
    clear Kn
    clear V
    have Kr := q0_
    have Kn := q1_
    have V := q2_
    clear q0_ q1_ q2_
    have Kf := Aside0.mk k_
    clear hg_ k_ z_ b_
    refine hK.out _ _ trivial (fun hHeld => ?_)
    clear hK K
    refine norm_ (a' := ?_) ?_ ?_
    rotate_left
    ·show Act.put _ (some 4) _ = _
     simp only [Act.put, putA, putB, putC]
     rfl
    refine last_ (i := 10) (N := none) #[true, true, true, true, true, true, true, true, true, true, true] rfl rfl (by kernel_rfl) (by decide) (fun K hK => ?_)
    refine store_ord rfl rfl rfl (g := gf) (k := 0) (u := .agg (frC ⟨ty, fl, st, [], -1, 0, 0, 0, false, 0, []⟩ nilS nilS)) (cs' := frC ⟨ty, fl, st, [], -1, 0, 0, 0, false, 0, []⟩ nilS nilS) rfl rfl Kf.out (by kernel_rfl) (Nat.le_of_ble_eq_true rfl) rfl rfl ?_
    intro w_ k_ o_
    have q0_ := Aside0.mk (o_.blk Kr.out Nr_f.out)
    have q1_ := Aside0.mk (o_.blk Kn.out Nn_f.out)
    have q2_ := Aside0.mk (k_)
    have q3_ := Aside0.mk (o_.below V.out Mf.out)
    clear Kr
    clear Kn
    clear Kf
    clear V
    have Kr := q0_
    have Kn := q1_
    have Kf := q2_
    have V := q3_
    clear q0_ q1_ q2_ q3_
    clear k_ o_
    refine hK.out _ _ ?_
    clear hK K
    refine done_ (by kernel_rfl) ?_
    go_wp2_with fail
    go_meet
    case rel => exact ⟨gf, rfl, Kr, Kn, Kf, V, Mf, Nr_f, Nn_f⟩
   ·refine make_ord rfl (cs := frC ⟨0, 0, 0, [], 0, 0, 0, 0, false, 0, []⟩ nilS nilS) (t := 38) (by first | (go_simp; done) | (go_simp; rfl)) ?_
    intro gf hg_ w5_ k_ z_ b_
    have Nr_f := Aside0.mk (show gr ≠ gf by rw [hg_]; exact Nat.ne_of_lt (blk_lt Kr.out))
    have Nn_f := Aside0.mk (show gn ≠ gf by rw [hg_]; exact Nat.ne_of_lt (blk_lt Kn.out))
    have Mf := Aside0.mk (show w.heap.size ≤ gf by rw [hg_]; exact V.out.size)
    have q0_ := Aside0.mk (blk_below Kr.out b_)
    have q1_ := Aside0.mk (blk_below Kn.out b_)
    have q2_ := Aside0.mk (V.out.trans (b_.mono V.out.size))
    clear Kr
    clear Kn
    clear V
    have Kr := q0_
    have Kn := q1_
    have V := q2_
    clear q0_ q1_ q2_
    have Kf := Aside0.mk k_
    clear hg_ k_ z_ b_
    refine hK.out _ _ trivial (fun hHeld => ?_)
    clear hK K
    refine norm_ (a' := ?_) ?_ ?_
    rotate_left
    ·show Act.put _ (some 4) _ = _
     simp only [Act.put, putA, putB, putC]
     rfl
    refine one_ (i := 7) (N := some 31) #[true, true, true, true, true, true, true, true, false, true, false] rfl rfl (by kernel_rfl) (by decide) (fun K hK => ?_)
    refine goes_ Tryd.func55 (by kernel_rfl) rfl #[.int .u32 v59] (by rfl) rfl rfl (by (try simp only [List.map_toArray, List.map_cons, List.map_nil]); first | done | rfl) ?_
    refine (rlow_calls _ v59 HV0.out).mono ?_
    rintro e_ w6_ ⟨rfl, h_⟩
    have b_ := h_.below
    have q0_ := Aside0.mk (blk_below Kr.out b_)
    have q1_ := Aside0.mk (blk_below Kn.out b_)
    have q2_ := Aside0.mk (blk_below Kf.out b_)
    have q3_ := Aside0.mk (V.out.trans (b_.mono V.out.size))
    clear Kr
    clear Kn
    clear Kf
    clear V
    have Kr := q0_
    have Kn := q1_
    have Kf := q2_
    have V := q3_
    clear q0_ q1_ q2_ q3_
    clear b_ h_
    refine ⟨_, rfl, ?_⟩
    refine hK.out _ _ trivial (fun hHeld => ?_)
    clear hK K
    refine norm_ (a' := ?_) ?_ ?_
    rotate_left
    ·show Act.put _ (some 31) _ = _
     simp only [Act.put, putA, putB, putC]
     rfl
    refine pure_ (i := 8) (N := some 32) (v := ?_) (a' := ?_) #[true, true, true, true, true, true, true, true, true, true, false] rfl rfl (by kernel_rfl) (fun _ _ _ h => h) (Or.inl ⟨by rfl, ?_⟩) ?_ ?_
    rotate_left
    ·intro w'
     go_simp
     with_reducible rfl
    rotate_left
    ·simp only [Act.put, putA, putB, putC]
     rfl
    refine last_ (i := 10) (N := none) #[true, true, true, true, true, true, true, true, true, true, true] rfl rfl (by kernel_rfl) (by decide) (fun K hK => ?_)
    refine store_ord rfl rfl rfl (g := gf) (k := 0) (u := .agg (frC ⟨ty, fl, st, [], -1, 0, 0, 0, false, 0, []⟩ nilS nilS)) (cs' := frC ⟨ty, fl, st, [], -1, 0, 0, 0, false, 0, []⟩ nilS nilS) rfl rfl Kf.out (by kernel_rfl) (Nat.le_of_ble_eq_true rfl) rfl rfl ?_
    intro w_ k_ o_
    have q0_ := Aside0.mk (o_.blk Kr.out Nr_f.out)
    have q1_ := Aside0.mk (o_.blk Kn.out Nn_f.out)
    have q2_ := Aside0.mk (k_)
    have q3_ := Aside0.mk (o_.below V.out Mf.out)
    clear Kr
    clear Kn
    clear Kf
    clear V
    have Kr := q0_
    have Kn := q1_
    have Kf := q2_
    have V := q3_
    clear q0_ q1_ q2_ q3_
    clear k_ o_
    refine hK.out _ _ ?_
    clear hK K
    refine done_ (by kernel_rfl) ?_
    go_wp2_with fail
    go_meet
    case rel => exact ⟨gf, rfl, Kr, Kn, Kf, V, Mf, Nr_f, Nn_f⟩
  ·refine make_ord rfl (cs := frC ⟨0, 0, 0, [], 0, 0, 0, 0, false, 0, []⟩ nilS nilS) (t := 38) (by first | (go_simp; done) | (go_simp; rfl)) ?_
   intro gf hg_ w4_ k_ z_ b_
   have Nr_f := Aside0.mk (show gr ≠ gf by rw [hg_]; exact Nat.ne_of_lt (blk_lt Kr.out))
   have Nn_f := Aside0.mk (show gn ≠ gf by rw [hg_]; exact Nat.ne_of_lt (blk_lt Kn.out))
   have Mf := Aside0.mk (show w.heap.size ≤ gf by rw [hg_]; exact V.out.size)
   have q0_ := Aside0.mk (blk_below Kr.out b_)
   have q1_ := Aside0.mk (blk_below Kn.out b_)
   have q2_ := Aside0.mk (V.out.trans (b_.mono V.out.size))
   clear Kr
   clear Kn
   clear V
   have Kr := q0_
   have Kn := q1_
   have V := q2_
   clear q0_ q1_ q2_
   have Kf := Aside0.mk k_
   clear hg_ k_ z_ b_
   refine hK.out _ _ trivial (fun hHeld => ?_)
   clear hK K
   refine norm_ (a' := ?_) ?_ ?_
   rotate_left
   ·show Act.put _ (some 4) _ = _
    simp only [Act.put, putA, putB, putC]
    rfl
   refine one_ (i := 6) (N := some 30) #[true, true, true, true, true, true, true, false, false, true, false] rfl rfl (by kernel_rfl) (by decide) (fun K hK => ?_)
   refine goes_ Tryd.func29 (by kernel_rfl) rfl #[.string s59] (by rfl) rfl rfl (by (try simp only [List.map_toArray, List.map_cons, List.map_nil]); first | done | rfl) ?_
   refine (HV59.out _).mono ?_
   rintro e_ w5_ ⟨rfl, h_⟩
   have b_ := h_.below
   have q0_ := Aside0.mk (blk_below Kr.out b_)
   have q1_ := Aside0.mk (blk_below Kn.out b_)
   have q2_ := Aside0.mk (blk_below Kf.out b_)
   have q3_ := Aside0.mk (V.out.trans (b_.mono V.out.size))
   clear Kr
   clear Kn
   clear Kf
   clear V
   have Kr := q0_
   have Kn := q1_
   have Kf := q2_
   have V := q3_
   clear q0_ q1_ q2_ q3_
   clear b_ h_
   refine ⟨_, rfl, ?_⟩
   refine hK.out _ _ trivial (fun hHeld => ?_)
   clear hK K
   refine norm_ (a' := ?_) ?_ ?_
   rotate_left
   ·show Act.put _ (some 30) _ = _
    simp only [Act.put, putA, putB, putC]
    rfl
   refine one_ (i := 7) (N := some 31) #[true, true, true, true, true, true, true, true, false, true, false] rfl rfl (by kernel_rfl) (by decide) (fun K hK => ?_)
   refine goes_ Tryd.func55 (by kernel_rfl) rfl #[.int .u32 v59] (by rfl) rfl rfl (by (try simp only [List.map_toArray, List.map_cons, List.map_nil]); first | done | rfl) ?_
   refine (rlow_calls _ v59 HV0.out).mono ?_
   rintro e_ w6_ ⟨rfl, h_⟩
   have b_ := h_.below
   have q0_ := Aside0.mk (blk_below Kr.out b_)
   have q1_ := Aside0.mk (blk_below Kn.out b_)
   have q2_ := Aside0.mk (blk_below Kf.out b_)
   have q3_ := Aside0.mk (V.out.trans (b_.mono V.out.size))
   clear Kr
   clear Kn
   clear Kf
   clear V
   have Kr := q0_
   have Kn := q1_
   have Kf := q2_
   have V := q3_
   clear q0_ q1_ q2_ q3_
   clear b_ h_
   refine ⟨_, rfl, ?_⟩
   refine hK.out _ _ trivial (fun hHeld => ?_)
   clear hK K
   refine norm_ (a' := ?_) ?_ ?_
   rotate_left
   ·show Act.put _ (some 31) _ = _
    simp only [Act.put, putA, putB, putC]
    rfl
   refine pure_ (i := 8) (N := some 32) (v := ?_) (a' := ?_) #[true, true, true, true, true, true, true, true, true, true, false] rfl rfl (by kernel_rfl) (fun _ _ _ h => h) (Or.inl ⟨by rfl, ?_⟩) ?_ ?_
   rotate_left
   ·intro w'
    go_simp
    with_reducible rfl
   rotate_left
   ·simp only [Act.put, putA, putB, putC]
    rfl
   refine last_ (i := 10) (N := none) #[true, true, true, true, true, true, true, true, true, true, true] rfl rfl (by kernel_rfl) (by decide) (fun K hK => ?_)
   refine store_ord rfl rfl rfl (g := gf) (k := 0) (u := .agg (frC ⟨ty, fl, st, [], -1, 0, 0, 0, false, 0, []⟩ nilS nilS)) (cs' := frC ⟨ty, fl, st, [], -1, 0, 0, 0, false, 0, []⟩ nilS nilS) rfl rfl Kf.out (by kernel_rfl) (Nat.le_of_ble_eq_true rfl) rfl rfl ?_
   intro w_ k_ o_
   have q0_ := Aside0.mk (o_.blk Kr.out Nr_f.out)
   have q1_ := Aside0.mk (o_.blk Kn.out Nn_f.out)
   have q2_ := Aside0.mk (k_)
   have q3_ := Aside0.mk (o_.below V.out Mf.out)
   clear Kr
   clear Kn
   clear Kf
   clear V
   have Kr := q0_
   have Kn := q1_
   have Kf := q2_
   have V := q3_
   clear q0_ q1_ q2_ q3_
   clear k_ o_
   refine hK.out _ _ ?_
   clear hK K
   refine done_ (by kernel_rfl) ?_
   go_wp2_with fail
   go_meet
   case rel => exact ⟨gf, rfl, Kr, Kn, Kf, V, Mf, Nr_f, Nn_f⟩
 case rest =>
  clear Kr Kn V
  obtain ⟨gf, rfl, Kr, Kn, Kf, V, Mf, Nr_f, Nn_f⟩ := hcut
  have hsb := str_size b
  by_cases hg : 16384 < b.length
  ·have g1 : decide ((16384 : Int) < (b.length : Int)) = true := by rw [decide_eq_true_iff]; omega
   have g2 : decide (16384 < b.length) = true := by rw [decide_eq_true_iff]; omega
   have HE := Lib.hid (HG.out.trans (if_pos hg))
   clear hg
   go_wp2_with (first
    | (refine gate_load (t := 38) 33 rfl rfl ?_; refine load_ev rfl rfl rfl Kf.out Tryd.underlying38 rfl (by kernel_rfl) ?_)
    | (refine gate_stored (t := 38) (p := .tmp 34) rfl ?_; refine store_ev rfl rfl rfl (g := gn) (k := 0) (u := (.agg (frC ⟨ty, fl, st, [], -1, 0, 0, 0, false, 0, []⟩ nilS nilS))) (cs' := fC ⟨ty, fl, st, [], -1, 0, 0, 0, false, 0, []⟩ nilS nilS 0 0) rfl rfl Kn.out (by kernel_rfl) (Nat.le_of_ble_eq_true rfl) rfl rfl ?_; intro w50_ k_ o_; have q0_ := Aside0.mk (o_.blk Kr.out Nr_n.out); have q1_ := Aside0.mk (o_.blk Kf.out Nn_f.out.symm); have q2_ := Aside0.mk (k_); have q3_ := Aside0.mk (o_.below V.out Mn.out); clear Kr; clear Kf; clear Kn; clear V; have Kr := q0_; have Kf := q1_; have Kn := q2_; have V := q3_; clear q0_ q1_ q2_ q3_; clear k_ o_)
    | (refine gate_load (t := 45) 40 rfl rfl ?_; refine load_ev rfl rfl rfl Kn.out Tryd.underlying45 rfl (by kernel_rfl) ?_)
    | (go_at_call 54; (with_reducible refine (fails_calls _ ⟨ty, fl, st, [], -1, 0, 0, 0, false, 0, []⟩ none 0 0 none 0 0 0 0 1 6).mono ?_); rintro e_ w51_ ⟨rfl, h_⟩; have b_ := h_; have q0_ := Aside0.mk (blk_below Kr.out b_); have q1_ := Aside0.mk (blk_below Kn.out b_); have q2_ := Aside0.mk (blk_below Kf.out b_); have q3_ := Aside0.mk (V.out.trans (b_.mono V.out.size)); clear Kr; clear Kn; clear Kf; clear V; have Kr := q0_; have Kn := q1_; have Kf := q2_; have V := q3_; clear q0_ q1_ q2_ q3_; clear b_ h_)
    | (refine gate_stored (t := 45) (p := .tmp 2) rfl ?_; refine store_ev rfl rfl rfl (g := gr) (k := 0) (u := (.agg (fC ⟨ty, fl, st, [], -1, 0, 0, 0, false, 0, []⟩ nilS nilS 1 6))) (cs' := fC ⟨ty, fl, st, [], -1, 0, 0, 0, false, 0, []⟩ nilS nilS 1 6) rfl rfl Kr.out (by kernel_rfl) (Nat.le_of_ble_eq_true rfl) rfl rfl ?_; intro w52_ k_ o_; have q0_ := Aside0.mk (o_.blk Kn.out Nr_n.out.symm); have q1_ := Aside0.mk (o_.blk Kf.out Nr_f.out.symm); have q2_ := Aside0.mk (k_); have q3_ := Aside0.mk (o_.below V.out Mr.out); clear Kn; clear Kf; clear Kr; clear V; have Kn := q0_; have Kf := q1_; have Kr := q2_; have V := q3_; clear q0_ q1_ q2_ q3_; clear k_ o_))
   refine bodyPost_ret (results_cell_row rfl _ _ gr 45 _ (0, 0) _ rfl Kr.out Tryd.underlying45 rfl (by kernel_rfl)) rfl (HP.out _ _ ?_)
   rw [HE.out]
   exact ⟨⟨frC ⟨ty, fl, st, [], -1, 0, 0, 0, false, 0, []⟩ nilS nilS, rfl, frCame_nil _ _ _ rfl rfl⟩, V.out⟩
  ·have g1 : decide ((16384 : Int) < (b.length : Int)) = false := by rw [decide_eq_false_iff_not]; omega
   have g2 : decide (16384 < b.length) = false := by rw [decide_eq_false_iff_not]; omega
   have HG2 := Lib.hid (HG.out.trans (if_neg hg))
   have HD := Lib.hid (And.intro HD.out.1 (show b.length ≤ 100000 by omega))
   clear hg HG
   cases hs : stBad ty st
   rotate_left
   ·have HE := Lib.hid (HG2.out.trans (if_pos hs))
    have HSB := Lib.hid hs
    clear hs
    go_wp2_with (first
     | (refine gate_load (t := 38) 33 rfl rfl ?_; refine load_ev rfl rfl rfl Kf.out Tryd.underlying38 rfl (by kernel_rfl) ?_)
     | (refine gate_stored (t := 38) (p := .tmp 34) rfl ?_; refine store_ev rfl rfl rfl (g := gn) (k := 0) (u := (.agg (frC ⟨ty, fl, st, [], -1, 0, 0, 0, false, 0, []⟩ nilS nilS))) (cs' := fC ⟨ty, fl, st, [], -1, 0, 0, 0, false, 0, []⟩ nilS nilS 0 0) rfl rfl Kn.out (by kernel_rfl) (Nat.le_of_ble_eq_true rfl) rfl rfl ?_; intro w50_ k_ o_; have q0_ := Aside0.mk (o_.blk Kr.out Nr_n.out); have q1_ := Aside0.mk (o_.blk Kf.out Nn_f.out.symm); have q2_ := Aside0.mk (k_); have q3_ := Aside0.mk (o_.below V.out Mn.out); clear Kr; clear Kf; clear Kn; clear V; have Kr := q0_; have Kf := q1_; have Kn := q2_; have V := q3_; clear q0_ q1_ q2_ q3_; clear k_ o_)
     | (refine gate_load (t := 38) 42 rfl rfl ?_; refine load_ev rfl rfl rfl Kf.out Tryd.underlying38 rfl (by kernel_rfl) ?_)
     | (go_at_call 56; (with_reducible refine (rwrong_calls _ ⟨ty, fl, st, [], -1, 0, 0, 0, false, 0, []⟩ nilS nilS).mono ?_); rintro e_ w51_ ⟨rfl, h_⟩; have b_ := h_; have q0_ := Aside0.mk (blk_below Kr.out b_); have q1_ := Aside0.mk (blk_below Kn.out b_); have q2_ := Aside0.mk (blk_below Kf.out b_); have q3_ := Aside0.mk (V.out.trans (b_.mono V.out.size)); clear Kr; clear Kn; clear Kf; clear V; have Kr := q0_; have Kn := q1_; have Kf := q2_; have V := q3_; clear q0_ q1_ q2_ q3_; clear b_ h_; dsimp only; rw [HSB.out])
     | (refine gate_load (t := 45) 44 rfl rfl ?_; refine load_ev rfl rfl rfl Kn.out Tryd.underlying45 rfl (by kernel_rfl) ?_)
     | (go_at_call 54; (with_reducible refine (fails_calls _ ⟨ty, fl, st, [], -1, 0, 0, 0, false, 0, []⟩ none 0 0 none 0 0 0 0 1 1).mono ?_); rintro e_ w52_ ⟨rfl, h_⟩; have b_ := h_; have q0_ := Aside0.mk (blk_below Kr.out b_); have q1_ := Aside0.mk (blk_below Kn.out b_); have q2_ := Aside0.mk (blk_below Kf.out b_); have q3_ := Aside0.mk (V.out.trans (b_.mono V.out.size)); clear Kr; clear Kn; clear Kf; clear V; have Kr := q0_; have Kn := q1_; have Kf := q2_; have V := q3_; clear q0_ q1_ q2_ q3_; clear b_ h_)
     | (refine gate_stored (t := 45) (p := .tmp 2) rfl ?_; refine store_ev rfl rfl rfl (g := gr) (k := 0) (u := (.agg (fC ⟨ty, fl, st, [], -1, 0, 0, 0, false, 0, []⟩ nilS nilS 1 1))) (cs' := fC ⟨ty, fl, st, [], -1, 0, 0, 0, false, 0, []⟩ nilS nilS 1 1) rfl rfl Kr.out (by kernel_rfl) (Nat.le_of_ble_eq_true rfl) rfl rfl ?_; intro w53_ k_ o_; have q0_ := Aside0.mk (o_.blk Kn.out Nr_n.out.symm); have q1_ := Aside0.mk (o_.blk Kf.out Nr_f.out.symm); have q2_ := Aside0.mk (k_); have q3_ := Aside0.mk (o_.below V.out Mr.out); clear Kn; clear Kf; clear Kr; clear V; have Kn := q0_; have Kf := q1_; have Kr := q2_; have V := q3_; clear q0_ q1_ q2_ q3_; clear k_ o_))
    refine bodyPost_ret (results_cell_row rfl _ _ gr 45 _ (0, 0) _ rfl Kr.out Tryd.underlying45 rfl (by kernel_rfl)) rfl (HP.out _ _ ?_)
    rw [HE.out]
    exact ⟨⟨frC ⟨ty, fl, st, [], -1, 0, 0, 0, false, 0, []⟩ nilS nilS, rfl, frCame_nil _ _ _ rfl rfl⟩, V.out⟩
   have HG3 := Lib.hid (HG2.out.trans (if_neg (by rw [hs]; decide)))
   have HSB := Lib.hid hs
   clear hs HG2
   go_upto_region 12 with (first
    | (refine gate_load (t := 38) 33 rfl rfl ?_; refine load_ev rfl rfl rfl Kf.out Tryd.underlying38 rfl (by kernel_rfl) ?_)
    | (refine gate_stored (t := 38) (p := .tmp 34) rfl ?_; refine store_ev rfl rfl rfl (g := gn) (k := 0) (u := (.agg (frC ⟨ty, fl, st, [], -1, 0, 0, 0, false, 0, []⟩ nilS nilS))) (cs' := fC ⟨ty, fl, st, [], -1, 0, 0, 0, false, 0, []⟩ nilS nilS 0 0) rfl rfl Kn.out (by kernel_rfl) (Nat.le_of_ble_eq_true rfl) rfl rfl ?_; intro w50_ k_ o_; have q0_ := Aside0.mk (o_.blk Kr.out Nr_n.out); have q1_ := Aside0.mk (o_.blk Kf.out Nn_f.out.symm); have q2_ := Aside0.mk (k_); have q3_ := Aside0.mk (o_.below V.out Mn.out); clear Kr; clear Kf; clear Kn; clear V; have Kr := q0_; have Kf := q1_; have Kn := q2_; have V := q3_; clear q0_ q1_ q2_ q3_; clear k_ o_)
    | (refine gate_load (t := 38) 42 rfl rfl ?_; refine load_ev rfl rfl rfl Kf.out Tryd.underlying38 rfl (by kernel_rfl) ?_)
    | (go_at_call 56; (with_reducible refine (rwrong_calls _ ⟨ty, fl, st, [], -1, 0, 0, 0, false, 0, []⟩ nilS nilS).mono ?_); rintro e_ w51_ ⟨rfl, h_⟩; have b_ := h_; have q0_ := Aside0.mk (blk_below Kr.out b_); have q1_ := Aside0.mk (blk_below Kn.out b_); have q2_ := Aside0.mk (blk_below Kf.out b_); have q3_ := Aside0.mk (V.out.trans (b_.mono V.out.size)); clear Kr; clear Kn; clear Kf; clear V; have Kr := q0_; have Kn := q1_; have Kf := q2_; have V := q3_; clear q0_ q1_ q2_ q3_; clear b_ h_; dsimp only; rw [HSB.out]))
   (try simp only [Act.put, putA, putB, putC])
   obtain ⟨pb, hpb⟩ : ∃ pb : Bool, pb = (decide (ty = 0 ∨ ty = 1 ∨ ty = 5) && (Go.bits .and .u8 fl 8 != 0)) := ⟨_, rfl⟩
   have HPB := Lib.hid hpb
   clear hpb
   go_cut [55] (fun v55 wc => v55 = .bool pb ∧ Aside0 (wc.heap[gr]? = some (.cells (fC ⟨0, 0, 0, [], 0, 0, 0, 0, false, 0, []⟩ nilS nilS 0 0) 45 (0, 0))) ∧ Aside0 (wc.heap[gn]? = some (.cells (fC ⟨ty, fl, st, [], -1, 0, 0, 0, false, 0, []⟩ nilS nilS 0 0) 45 (0, 0))) ∧ Aside0 (wc.heap[gf]? = some (.cells (frC ⟨ty, fl, st, [], -1, 0, 0, 0, false, 0, []⟩ nilS nilS) 38 (0, 0))) ∧ Aside0 (Below w.heap.size w wc))
   case first =>
    cases hp : decide (ty = 0 ∨ ty = 1 ∨ ty = 5)
    ·have HPD := Lib.hid hp
     clear hp
     go_wp2_with (first
      | (refine gate_load (t := 5) 47 rfl rfl ?_; refine loadf_ev rfl rfl rfl Kf.out rfl Tryd.underlying5 rfl ?_)
      | (go_at_call 50; (with_reducible refine (rpads_calls _ ty).mono ?_); rintro e_ w50_ ⟨rfl, h_⟩; have b_ := h_.below; have q0_ := Aside0.mk (blk_below Kr.out b_); have q1_ := Aside0.mk (blk_below Kn.out b_); have q2_ := Aside0.mk (blk_below Kf.out b_); have q3_ := Aside0.mk (V.out.trans (b_.mono V.out.size)); clear Kr; clear Kn; clear Kf; clear V; have Kr := q0_; have Kn := q1_; have Kf := q2_; have V := q3_; clear q0_ q1_ q2_ q3_; clear b_ h_; rw [HPD.out]))
     go_meet
     case rel => exact ⟨by rw [HPB.out, HPD.out]; rfl, Kr, Kn, Kf, V⟩
    ·have HPD := Lib.hid hp
     have hbit := bit8' HF.out.1 HF.out.2
     clear hp
     cases hf : (Go.bits .and .u8 fl 8 != 0)
     ·have e8 : (fl.tdiv 8 % 2 == 1) = false := by rw [hbit, hf]
      have HFL := Lib.hid hf
      clear hf hbit
      go_wp2_with (first
       | (refine gate_load (t := 5) 47 rfl rfl ?_; refine loadf_ev rfl rfl rfl Kf.out rfl Tryd.underlying5 rfl ?_)
       | (go_at_call 50; (with_reducible refine (rpads_calls _ ty).mono ?_); rintro e_ w50_ ⟨rfl, h_⟩; have b_ := h_.below; have q0_ := Aside0.mk (blk_below Kr.out b_); have q1_ := Aside0.mk (blk_below Kn.out b_); have q2_ := Aside0.mk (blk_below Kf.out b_); have q3_ := Aside0.mk (V.out.trans (b_.mono V.out.size)); clear Kr; clear Kn; clear Kf; clear V; have Kr := q0_; have Kn := q1_; have Kf := q2_; have V := q3_; clear q0_ q1_ q2_ q3_; clear b_ h_; rw [HPD.out]; have y1_ := (blk_cell Kf.out 1).trans (show _ = some (Value.int .u8 fl) from rfl)))
      go_meet
      case rel => exact ⟨by rw [HPB.out, HPD.out, HFL.out]; rfl, Kr, Kn, Kf, V⟩
     ·have e8 : (fl.tdiv 8 % 2 == 1) = true := by rw [hbit, hf]
      have HFL := Lib.hid hf
      clear hf hbit
      go_wp2_with (first
       | (refine gate_load (t := 5) 47 rfl rfl ?_; refine loadf_ev rfl rfl rfl Kf.out rfl Tryd.underlying5 rfl ?_)
       | (go_at_call 50; (with_reducible refine (rpads_calls _ ty).mono ?_); rintro e_ w50_ ⟨rfl, h_⟩; have b_ := h_.below; have q0_ := Aside0.mk (blk_below Kr.out b_); have q1_ := Aside0.mk (blk_below Kn.out b_); have q2_ := Aside0.mk (blk_below Kf.out b_); have q3_ := Aside0.mk (V.out.trans (b_.mono V.out.size)); clear Kr; clear Kn; clear Kf; clear V; have Kr := q0_; have Kn := q1_; have Kf := q2_; have V := q3_; clear q0_ q1_ q2_ q3_; clear b_ h_; rw [HPD.out]; have y1_ := (blk_cell Kf.out 1).trans (show _ = some (Value.int .u8 fl) from rfl)))
      go_meet
      case rel => exact ⟨by rw [HPB.out, HPD.out, HFL.out]; rfl, Kr, Kn, Kf, V⟩
   clear Kr Kn Kf V
   obtain ⟨rfl, Kr, Kn, Kf, V⟩ := hcut
   go_upto_if 55 with fail
   go_cut [5, 6] (fun v5 v6 wc => ∃ b2 pad, v5 = .string (strOfNums b2) ∧ v6 = .int .i64 pad ∧ Aside0 (readR (fr0 ty fl st (-1)) b = bodyR (fr0 ty fl st pad) b2 ∧ Byte8 b2 ∧ b2.length ≤ 100000) ∧ Aside0 (wc.heap[gr]? = some (.cells (fC ⟨0, 0, 0, [], 0, 0, 0, 0, false, 0, []⟩ nilS nilS 0 0) 45 (0, 0))) ∧ Aside0 (wc.heap[gn]? = some (.cells (fC ⟨ty, fl, st, [], -1, 0, 0, 0, false, 0, []⟩ nilS nilS 0 0) 45 (0, 0))) ∧ Aside0 (wc.heap[gf]? = some (.cells (frC ⟨ty, fl, st, [], -1, 0, 0, 0, false, 0, []⟩ nilS nilS) 38 (0, 0))) ∧ Aside0 (Below w.heap.size w wc))
   case first =>
    cases pb with
    | false =>
     have HRD := Lib.hid (readR_plain (ty := ty) (fl := fl) (st := st) (b := b) (fun h => by
      have := HPB.out
      rw [decide_eq_true h.1, bne_iff_ne.2 h.2] at this
      cases this))
     go_wp2_with fail
     go_meet
     case rel => exact ⟨b, -1, rfl, rfl, ⟨HRD.out, HD.out.1, HD.out.2⟩, Kr, Kn, Kf, V⟩
    | true =>
     have hpq : (ty = 0 ∨ ty = 1 ∨ ty = 5) ∧ Go.bits .and .u8 fl 8 ≠ 0 := by
      have := HPB.out.symm
      rw [Bool.and_eq_true, decide_eq_true_iff, bne_iff_ne] at this
      exact this
     by_cases hb0 : b.length = 0
     ·obtain rfl := List.eq_nil_of_length_eq_zero hb0
      have HE := Lib.hid (HG3.out.trans (by rw [readR_empty hpq]))
      have e0 : strOfNums [] = (⟨#[]⟩ : ByteArray) := rfl
      rw [e0]
      clear hpq e0 HG3 HPB
      go_wp2_with (first
       | (refine gate_load (t := 45) 58 rfl rfl ?_; refine load_ev rfl rfl rfl Kn.out Tryd.underlying45 rfl (by kernel_rfl) ?_)
       | (go_at_call 54; (with_reducible refine (fails_calls _ ⟨ty, fl, st, [], -1, 0, 0, 0, false, 0, []⟩ none 0 0 none 0 0 0 0 1 6).mono ?_); rintro e_ w50_ ⟨rfl, h_⟩; have b_ := h_; have q0_ := Aside0.mk (blk_below Kr.out b_); have q1_ := Aside0.mk (blk_below Kn.out b_); have q2_ := Aside0.mk (blk_below Kf.out b_); have q3_ := Aside0.mk (V.out.trans (b_.mono V.out.size)); clear Kr; clear Kn; clear Kf; clear V; have Kr := q0_; have Kn := q1_; have Kf := q2_; have V := q3_; clear q0_ q1_ q2_ q3_; clear b_ h_)
       | (refine gate_stored (t := 45) (p := .tmp 2) rfl ?_; refine store_ev rfl rfl rfl (g := gr) (k := 0) (u := (.agg (fC ⟨ty, fl, st, [], -1, 0, 0, 0, false, 0, []⟩ nilS nilS 1 6))) (cs' := fC ⟨ty, fl, st, [], -1, 0, 0, 0, false, 0, []⟩ nilS nilS 1 6) rfl rfl Kr.out (by kernel_rfl) (Nat.le_of_ble_eq_true rfl) rfl rfl ?_; intro w51_ k_ o_; have q0_ := Aside0.mk (o_.blk Kn.out Nr_n.out.symm); have q1_ := Aside0.mk (o_.blk Kf.out Nr_f.out.symm); have q2_ := Aside0.mk (k_); have q3_ := Aside0.mk (o_.below V.out Mr.out); clear Kn; clear Kf; clear Kr; clear V; have Kn := q0_; have Kf := q1_; have Kr := q2_; have V := q3_; clear q0_ q1_ q2_ q3_; clear k_ o_))
      refine bodyPost_ret (results_cell_row rfl _ _ gr 45 _ (0, 0) _ rfl Kr.out Tryd.underlying45 rfl (by kernel_rfl)) rfl (HP.out _ _ ?_)
      rw [HE.out]
      exact ⟨⟨frC ⟨ty, fl, st, [], -1, 0, 0, 0, false, 0, []⟩ nilS nilS, rfl, frCame_nil _ _ _ rfl rfl⟩, V.out⟩
     have hx0 : 0 ≤ b.getD 0 0 ∧ b.getD 0 0 ≤ 255 := by
      rw [List.getD_eq_getElem?_getD, List.getElem?_eq_getElem (by omega)]
      exact HD.out.1 _ (List.getElem_mem _)
     have i0 := fun W => run_index_str HD.out.1 0 (by decide) (by omega) W
     rw [show (0 : Int).toNat = 0 from rfl] at i0
     have hie : (strOfNums b).toList.isEmpty = false := by
      rw [str_list]
      cases b with
      | nil => exact absurd rfl hb0
      | cons => rfl
     have HB1 := HD.out.2
     have hbg := readR_big (st := st) hpq hb0
     have hpd := readR_pad (st := st) hpq hb0
     generalize b.getD 0 0 = x at i0 hx0 hbg hpd
     have hwx : IntKind.i64.wrap x = x := by simp [IntKind.wrap, IntKind.bits, IntKind.signed]; omega
     have hw1 : IntKind.i64.wrap ((b.length : Int) - 1) = (b.length : Int) - 1 := by simp [IntKind.wrap, IntKind.bits, IntKind.signed]; omega
     by_cases hbig : (b.length : Int) - 1 < x
     ·have HE := Lib.hid (HG3.out.trans (by rw [hbg hbig]))
      have d1 : decide ((b.length : Int) - 1 < x) = true := by rw [decide_eq_true_iff]; exact hbig
      clear hpq hb0 hbig hx0 HG3 hbg hpd HPB
      go_wp2_with (first
       | (refine gate_load (t := 45) 68 rfl rfl ?_; refine load_ev rfl rfl rfl Kn.out Tryd.underlying45 rfl (by kernel_rfl) ?_)
       | (go_at_call 54; (with_reducible refine (fails_calls _ ⟨ty, fl, st, [], -1, 0, 0, 0, false, 0, []⟩ none 0 0 none 0 0 0 0 1 1).mono ?_); rintro e_ w50_ ⟨rfl, h_⟩; have b_ := h_; have q0_ := Aside0.mk (blk_below Kr.out b_); have q1_ := Aside0.mk (blk_below Kn.out b_); have q2_ := Aside0.mk (blk_below Kf.out b_); have q3_ := Aside0.mk (V.out.trans (b_.mono V.out.size)); clear Kr; clear Kn; clear Kf; clear V; have Kr := q0_; have Kn := q1_; have Kf := q2_; have V := q3_; clear q0_ q1_ q2_ q3_; clear b_ h_)
       | (refine gate_stored (t := 45) (p := .tmp 2) rfl ?_; refine store_ev rfl rfl rfl (g := gr) (k := 0) (u := (.agg (fC ⟨ty, fl, st, [], -1, 0, 0, 0, false, 0, []⟩ nilS nilS 1 1))) (cs' := fC ⟨ty, fl, st, [], -1, 0, 0, 0, false, 0, []⟩ nilS nilS 1 1) rfl rfl Kr.out (by kernel_rfl) (Nat.le_of_ble_eq_true rfl) rfl rfl ?_; intro w51_ k_ o_; have q0_ := Aside0.mk (o_.blk Kn.out Nr_n.out.symm); have q1_ := Aside0.mk (o_.blk Kf.out Nr_f.out.symm); have q2_ := Aside0.mk (k_); have q3_ := Aside0.mk (o_.below V.out Mr.out); clear Kn; clear Kf; clear Kr; clear V; have Kn := q0_; have Kf := q1_; have Kr := q2_; have V := q3_; clear q0_ q1_ q2_ q3_; clear k_ o_))
      refine bodyPost_ret (results_cell_row rfl _ _ gr 45 _ (0, 0) _ rfl Kr.out Tryd.underlying45 rfl (by kernel_rfl)) rfl (HP.out _ _ ?_)
      rw [HE.out]
      exact ⟨⟨frC ⟨ty, fl, st, [], -1, 0, 0, 0, false, 0, []⟩ nilS nilS, rfl, frCame_nil _ _ _ rfl rfl⟩, V.out⟩
     ·have HRD := Lib.hid (hpd hbig hx0.1)
      have d1 : decide ((b.length : Int) - 1 < x) = false := by rw [decide_eq_false_iff_not]; exact hbig
      obtain ⟨e, he⟩ : ∃ e, (b.length : Int) - x = e := ⟨_, rfl⟩
      have hw2 : IntKind.i64.wrap ((b.length : Int) - x) = e := by rw [← he]; simp [IntKind.wrap, IntKind.bits, IntKind.signed]; omega
      have f1 := fun W => run_cut_str b 1 e (by decide) (by omega) (by omega) W
      rw [he] at HRD
      rw [show (1 : Int).toNat = 1 from rfl] at f1
      have HB2 := Lib.hid (show Byte8 ((b.take e.toNat).drop 1) ∧ ((b.take e.toNat).drop 1).length ≤ 100000 from ⟨fun x hx => HD.out.1 x (List.mem_of_mem_take (List.mem_of_mem_drop hx)), by rw [List.length_drop, List.length_take]; omega⟩)
      clear hpq hb0 hbig hx0 hbg hpd he HPB HB1
      generalize (b.take e.toNat).drop 1 = b2 at f1 HRD HB2
      go_wp2_with fail
      go_meet
      case rel => exact ⟨b2, x, rfl, rfl, ⟨HRD.out, HB2.out.1, HB2.out.2⟩, Kr, Kn, Kf, V⟩
   case rest =>
    clear Kr Kn Kf V
    obtain ⟨b2, pad, rfl, rfl, HB2, Kr, Kn, Kf, V⟩ := hcut
    have HG4 := HG3.out
    rw [HB2.out.1] at HG4
    have hsb2 := str_size b2
    cases hs : shortT ty fl b2.length
    rotate_left
    ·have hbd := body_short (F := fr0 ty fl st pad) (b := b2) HF.out.1 HF.out.2 hs
     have HS := Lib.hid hs
     by_cases t2 : ty = 2
     ·have bt2 : (ty == 2) = true := by rw [beq_iff_eq]; exact t2
      have HE := Lib.hid (HG4.trans (by rw [hbd, if_pos (show (fr0 ty fl st pad).ty = 2 from t2)]))
      clear hs hbd t2 HG4
      go_wp2_with (first
       | (refine gate_load (t := 38) 76 rfl rfl ?_; refine load_ev rfl rfl rfl Kf.out Tryd.underlying38 rfl (by kernel_rfl) ?_)
       | (go_at_call 57; (with_reducible refine (rshort_calls _ ⟨ty, fl, st, [], -1, 0, 0, 0, false, 0, []⟩ nilS nilS b2.length HF.out.1 HF.out.2).mono ?_); rintro e_ w50_ ⟨rfl, h_⟩; have b_ := h_; have q0_ := Aside0.mk (blk_below Kr.out b_); have q1_ := Aside0.mk (blk_below Kn.out b_); have q2_ := Aside0.mk (blk_below Kf.out b_); have q3_ := Aside0.mk (V.out.trans (b_.mono V.out.size)); clear Kr; clear Kn; clear Kf; clear V; have Kr := q0_; have Kn := q1_; have Kf := q2_; have V := q3_; clear q0_ q1_ q2_ q3_; clear b_ h_; dsimp only; rw [HS.out])
       | (refine gate_load (t := 5) 81 rfl rfl ?_; refine loadf_ev rfl rfl rfl Kf.out rfl Tryd.underlying5 rfl ?_)
       | (refine gate_load (t := 45) 83 rfl rfl ?_; refine load_ev rfl rfl rfl Kn.out Tryd.underlying45 rfl (by kernel_rfl) ?_)
       | (go_at_call 54; (with_reducible refine (fails_calls _ ⟨ty, fl, st, [], -1, 0, 0, 0, false, 0, []⟩ none 0 0 none 0 0 0 0 2 6).mono ?_); rintro e_ w51_ ⟨rfl, h_⟩; have b_ := h_; have q0_ := Aside0.mk (blk_below Kr.out b_); have q1_ := Aside0.mk (blk_below Kn.out b_); have q2_ := Aside0.mk (blk_below Kf.out b_); have q3_ := Aside0.mk (V.out.trans (b_.mono V.out.size)); clear Kr; clear Kn; clear Kf; clear V; have Kr := q0_; have Kn := q1_; have Kf := q2_; have V := q3_; clear q0_ q1_ q2_ q3_; clear b_ h_)
       | (refine gate_stored (t := 45) (p := .tmp 2) rfl ?_; refine store_ev rfl rfl rfl (g := gr) (k := 0) (u := (.agg (fC ⟨ty, fl, st, [], -1, 0, 0, 0, false, 0, []⟩ nilS nilS 2 6))) (cs' := fC ⟨ty, fl, st, [], -1, 0, 0, 0, false, 0, []⟩ nilS nilS 2 6) rfl rfl Kr.out (by kernel_rfl) (Nat.le_of_ble_eq_true rfl) rfl rfl ?_; intro w52_ k_ o_; have q0_ := Aside0.mk (o_.blk Kn.out Nr_n.out.symm); have q1_ := Aside0.mk (o_.blk Kf.out Nr_f.out.symm); have q2_ := Aside0.mk (k_); have q3_ := Aside0.mk (o_.below V.out Mr.out); clear Kn; clear Kf; clear Kr; clear V; have Kn := q0_; have Kf := q1_; have Kr := q2_; have V := q3_; clear q0_ q1_ q2_ q3_; clear k_ o_))
      refine bodyPost_ret (results_cell_row rfl _ _ gr 45 _ (0, 0) _ rfl Kr.out Tryd.underlying45 rfl (by kernel_rfl)) rfl (HP.out _ _ ?_)
      rw [HE.out]
      exact ⟨⟨frC ⟨ty, fl, st, [], -1, 0, 0, 0, false, 0, []⟩ nilS nilS, rfl, frCame_nil _ _ _ rfl rfl⟩, V.out⟩
     ·have bt2 : (ty == 2) = false := by rw [beq_eq_false_iff_ne]; exact t2
      have HE := Lib.hid (HG4.trans (by rw [hbd, if_neg (show ¬ (fr0 ty fl st pad).ty = 2 from t2)]))
      clear hs hbd t2 HG4
      go_wp2_with (first
       | (refine gate_load (t := 38) 76 rfl rfl ?_; refine load_ev rfl rfl rfl Kf.out Tryd.underlying38 rfl (by kernel_rfl) ?_)
       | (go_at_call 57; (with_reducible refine (rshort_calls _ ⟨ty, fl, st, [], -1, 0, 0, 0, false, 0, []⟩ nilS nilS b2.length HF.out.1 HF.out.2).mono ?_); rintro e_ w50_ ⟨rfl, h_⟩; have b_ := h_; have q0_ := Aside0.mk (blk_below Kr.out b_); have q1_ := Aside0.mk (blk_below Kn.out b_); have q2_ := Aside0.mk (blk_below Kf.out b_); have q3_ := Aside0.mk (V.out.trans (b_.mono V.out.size)); clear Kr; clear Kn; clear Kf; clear V; have Kr := q0_; have Kn := q1_; have Kf := q2_; have V := q3_; clear q0_ q1_ q2_ q3_; clear b_ h_; dsimp only; rw [HS.out])
       | (refine gate_load (t := 5) 81 rfl rfl ?_; refine loadf_ev rfl rfl rfl Kf.out rfl Tryd.underlying5 rfl ?_)
       | (refine gate_load (t := 45) 85 rfl rfl ?_; refine load_ev rfl rfl rfl Kn.out Tryd.underlying45 rfl (by kernel_rfl) ?_)
       | (go_at_call 54; (with_reducible refine (fails_calls _ ⟨ty, fl, st, [], -1, 0, 0, 0, false, 0, []⟩ none 0 0 none 0 0 0 0 1 6).mono ?_); rintro e_ w51_ ⟨rfl, h_⟩; have b_ := h_; have q0_ := Aside0.mk (blk_below Kr.out b_); have q1_ := Aside0.mk (blk_below Kn.out b_); have q2_ := Aside0.mk (blk_below Kf.out b_); have q3_ := Aside0.mk (V.out.trans (b_.mono V.out.size)); clear Kr; clear Kn; clear Kf; clear V; have Kr := q0_; have Kn := q1_; have Kf := q2_; have V := q3_; clear q0_ q1_ q2_ q3_; clear b_ h_)
       | (refine gate_stored (t := 45) (p := .tmp 2) rfl ?_; refine store_ev rfl rfl rfl (g := gr) (k := 0) (u := (.agg (fC ⟨ty, fl, st, [], -1, 0, 0, 0, false, 0, []⟩ nilS nilS 1 6))) (cs' := fC ⟨ty, fl, st, [], -1, 0, 0, 0, false, 0, []⟩ nilS nilS 1 6) rfl rfl Kr.out (by kernel_rfl) (Nat.le_of_ble_eq_true rfl) rfl rfl ?_; intro w52_ k_ o_; have q0_ := Aside0.mk (o_.blk Kn.out Nr_n.out.symm); have q1_ := Aside0.mk (o_.blk Kf.out Nr_f.out.symm); have q2_ := Aside0.mk (k_); have q3_ := Aside0.mk (o_.below V.out Mr.out); clear Kn; clear Kf; clear Kr; clear V; have Kn := q0_; have Kf := q1_; have Kr := q2_; have V := q3_; clear q0_ q1_ q2_ q3_; clear k_ o_))
      refine bodyPost_ret (results_cell_row rfl _ _ gr 45 _ (0, 0) _ rfl Kr.out Tryd.underlying45 rfl (by kernel_rfl)) rfl (HP.out _ _ ?_)
      rw [HE.out]
      exact ⟨⟨frC ⟨ty, fl, st, [], -1, 0, 0, 0, false, 0, []⟩ nilS nilS, rfl, frCame_nil _ _ _ rfl rfl⟩, V.out⟩
    have hbd := body_parts (F := fr0 ty fl st pad) (b := b2) HF.out.1 HF.out.2 HB2.out.2.1 hs
    have HPT := Lib.hid (fun W => rparts_calls W ty fl st pad b2 HF.out.1 HF.out.2 HB2.out.2.1 HB2.out.2.2 hs)
    obtain ⟨hty, hst2⟩ := partsF_head (fr0 ty fl st pad) b2
    have HS := Lib.hid hs
    clear hs
    generalize partsF (fr0 ty fl st pad) b2 = F2 at hbd HPT hty hst2
    have hst0 : 0 ≤ st := by rw [← hst]; omega
    by_cases hw : ty = 8 ∧ F2.win = 0
    ·have b8 : (F2.ty == 8) = true := by rw [beq_iff_eq, hty]; exact hw.1
     have bw : (F2.win == 0) = true := by rw [beq_iff_eq]; exact hw.2
     rw [if_pos (show (fr0 ty fl st pad).ty = 8 ∧ F2.win = 0 from hw)] at hbd
     by_cases hs0 : st = 0
     ·have bs : (F2.st == 0) = true := by rw [beq_iff_eq, hst2]; exact hs0
      have HE := Lib.hid (HG4.trans (by rw [hbd, if_neg (show ¬ (fr0 ty fl st pad).st > 0 by show ¬ st > 0; omega)]))
      clear hbd HG4 hw hs0 hty hst2 hst0
      go_wp2_with (first
       | (refine gate_load (t := 38) 76 rfl rfl ?_; refine load_ev rfl rfl rfl Kf.out Tryd.underlying38 rfl (by kernel_rfl) ?_)
       | (go_at_call 57; (with_reducible refine (rshort_calls _ ⟨ty, fl, st, [], -1, 0, 0, 0, false, 0, []⟩ nilS nilS b2.length HF.out.1 HF.out.2).mono ?_); rintro e_ w50_ ⟨rfl, h_⟩; have b_ := h_; have q0_ := Aside0.mk (blk_below Kr.out b_); have q1_ := Aside0.mk (blk_below Kn.out b_); have q2_ := Aside0.mk (blk_below Kf.out b_); have q3_ := Aside0.mk (V.out.trans (b_.mono V.out.size)); clear Kr; clear Kn; clear Kf; clear V; have Kr := q0_; have Kn := q1_; have Kf := q2_; have V := q3_; clear q0_ q1_ q2_ q3_; clear b_ h_; dsimp only; rw [HS.out])
       | (refine gate_stored (t := 3) (p := .tmp 88) rfl ?_; refine store_ev rfl rfl rfl (g := gf) (k := 4) (u := (.int .i64 pad)) (cs' := frC ⟨ty, fl, st, [], pad, 0, 0, 0, false, 0, []⟩ nilS nilS) rfl rfl Kf.out (by kernel_rfl) (Nat.le_of_ble_eq_true rfl) rfl rfl ?_; intro w51_ k_ o_; have q0_ := Aside0.mk (o_.blk Kr.out Nr_f.out); have q1_ := Aside0.mk (o_.blk Kn.out Nn_f.out); have q2_ := Aside0.mk (k_); have q3_ := Aside0.mk (o_.below V.out Mf.out); clear Kr; clear Kn; clear Kf; clear V; have Kr := q0_; have Kn := q1_; have Kf := q2_; have V := q3_; clear q0_ q1_ q2_ q3_; clear k_ o_)
       | (refine gate_load (t := 38) 89 rfl rfl ?_; refine load_ev rfl rfl rfl Kf.out Tryd.underlying38 rfl (by kernel_rfl) ?_)
       | (go_at_call 58; (refine (HPT.out _).mono ?_); have Lf := Aside0.mk (blk_lt Kf.out); have Lr := Aside0.mk (blk_lt Kr.out); have LV := Aside0.mk V.out.size; rintro e_ w52_ ⟨⟨v_, rfl, hc_⟩, h_⟩; obtain ⟨Ap, cp, Bp, mp, rfl, hA_, hB_⟩ := hc_; have b_ := h_; have q0_ := Aside0.mk (blk_below Kr.out b_); have q1_ := Aside0.mk (blk_below Kn.out b_); have q2_ := Aside0.mk (blk_below Kf.out b_); have q3_ := Aside0.mk (V.out.trans (b_.mono V.out.size)); clear Kr; clear Kn; clear Kf; clear V; have Kr := q0_; have Kn := q1_; have Kf := q2_; have V := q3_; clear q0_ q1_ q2_ q3_; clear b_ h_; have HC := Aside0.mk (show FrCame _ F2 _ _ from ⟨Ap, cp, Bp, mp, rfl, hA_, hB_⟩); clear hA_ hB_)
       | (refine gate_stored (t := 38) (p := .tmp 4) rfl ?_; refine store_ev rfl rfl rfl (g := gf) (k := 0) (u := (.agg (frC F2 (.slice Ap F2.data.length cp) (.slice Bp F2.sets.length mp)))) (cs' := frC F2 (.slice Ap F2.data.length cp) (.slice Bp F2.sets.length mp)) rfl rfl Kf.out (by kernel_rfl) (Nat.le_of_ble_eq_true rfl) rfl rfl ?_; intro w53_ k_ o_; have q0_ := Aside0.mk (o_.blk Kr.out Nr_f.out); have q1_ := Aside0.mk (o_.blk Kn.out Nn_f.out); have q2_ := Aside0.mk (k_); have q3_ := Aside0.mk (FrCame.only HC.out o_ Lf.out); have q4_ := Aside0.mk (o_.below V.out Mf.out); clear Kr; clear Kn; clear Kf; clear HC; clear V; have Kr := q0_; have Kn := q1_; have Kf := q2_; have HC := q3_; have V := q4_; clear q0_ q1_ q2_ q3_ q4_; clear k_ o_; have y9_ := (blk_cell Kf.out 9).trans (show _ = some (Value.int .u32 F2.win) from rfl))
       | (refine gate_load (t := 5) 93 rfl rfl ?_; refine loadf_ev rfl rfl rfl Kf.out rfl Tryd.underlying5 rfl ?_)
       | (refine gate_load (t := 22) 101 rfl rfl ?_; refine loadf_ev rfl rfl rfl Kf.out rfl Tryd.underlying22 rfl ?_)
       | (refine gate_load (t := 45) 103 rfl rfl ?_; refine load_ev rfl rfl rfl Kn.out Tryd.underlying45 rfl (by kernel_rfl) ?_)
       | (go_at_call 54; (with_reducible refine (fails_calls _ ⟨ty, fl, st, [], -1, 0, 0, 0, false, 0, []⟩ none 0 0 none 0 0 0 0 1 1).mono ?_); rintro e_ w54_ ⟨rfl, h_⟩; have b_ := h_; have q0_ := Aside0.mk (blk_below Kr.out b_); have q1_ := Aside0.mk (blk_below Kn.out b_); have q2_ := Aside0.mk (blk_below Kf.out b_); have q3_ := Aside0.mk (V.out.trans (b_.mono V.out.size)); clear Kr; clear Kn; clear Kf; clear V; have Kr := q0_; have Kn := q1_; have Kf := q2_; have V := q3_; clear q0_ q1_ q2_ q3_; clear b_ h_)
       | (refine gate_stored (t := 45) (p := .tmp 2) rfl ?_; refine store_ev rfl rfl rfl (g := gr) (k := 0) (u := (.agg (fC ⟨ty, fl, st, [], -1, 0, 0, 0, false, 0, []⟩ nilS nilS 1 1))) (cs' := fC ⟨ty, fl, st, [], -1, 0, 0, 0, false, 0, []⟩ nilS nilS 1 1) rfl rfl Kr.out (by kernel_rfl) (Nat.le_of_ble_eq_true rfl) rfl rfl ?_; intro w55_ k_ o_; have q0_ := Aside0.mk (o_.blk Kn.out Nr_n.out.symm); have q1_ := Aside0.mk (o_.blk Kf.out Nr_f.out.symm); have q2_ := Aside0.mk (k_); have q3_ := Aside0.mk (o_.below V.out Mr.out); clear Kn; clear Kf; clear Kr; clear V; have Kn := q0_; have Kf := q1_; have Kr := q2_; have V := q3_; clear q0_ q1_ q2_ q3_; clear k_ o_))
      refine bodyPost_ret (results_cell_row rfl _ _ gr 45 _ (0, 0) _ rfl Kr.out Tryd.underlying45 rfl (by kernel_rfl)) rfl (HP.out _ _ ?_)
      rw [HE.out]
      exact ⟨⟨frC ⟨ty, fl, st, [], -1, 0, 0, 0, false, 0, []⟩ nilS nilS, rfl, frCame_nil _ _ _ rfl rfl⟩, V.out⟩
     ·have bs : (F2.st == 0) = false := by rw [beq_eq_false_iff_ne, hst2]; exact hs0
      have HE := Lib.hid (HG4.trans (by rw [hbd, if_pos (show (fr0 ty fl st pad).st > 0 by show st > 0; omega)]))
      clear hbd HG4 hw hs0 hty hst2 hst0
      go_wp2_with (first
       | (refine gate_load (t := 38) 76 rfl rfl ?_; refine load_ev rfl rfl rfl Kf.out Tryd.underlying38 rfl (by kernel_rfl) ?_)
       | (go_at_call 57; (with_reducible refine (rshort_calls _ ⟨ty, fl, st, [], -1, 0, 0, 0, false, 0, []⟩ nilS nilS b2.length HF.out.1 HF.out.2).mono ?_); rintro e_ w50_ ⟨rfl, h_⟩; have b_ := h_; have q0_ := Aside0.mk (blk_below Kr.out b_); have q1_ := Aside0.mk (blk_below Kn.out b_); have q2_ := Aside0.mk (blk_below Kf.out b_); have q3_ := Aside0.mk (V.out.trans (b_.mono V.out.size)); clear Kr; clear Kn; clear Kf; clear V; have Kr := q0_; have Kn := q1_; have Kf := q2_; have V := q3_; clear q0_ q1_ q2_ q3_; clear b_ h_; dsimp only; rw [HS.out])
       | (refine gate_stored (t := 3) (p := .tmp 88) rfl ?_; refine store_ev rfl rfl rfl (g := gf) (k := 4) (u := (.int .i64 pad)) (cs' := frC ⟨ty, fl, st, [], pad, 0, 0, 0, false, 0, []⟩ nilS nilS) rfl rfl Kf.out (by kernel_rfl) (Nat.le_of_ble_eq_true rfl) rfl rfl ?_; intro w51_ k_ o_; have q0_ := Aside0.mk (o_.blk Kr.out Nr_f.out); have q1_ := Aside0.mk (o_.blk Kn.out Nn_f.out); have q2_ := Aside0.mk (k_); have q3_ := Aside0.mk (o_.below V.out Mf.out); clear Kr; clear Kn; clear Kf; clear V; have Kr := q0_; have Kn := q1_; have Kf := q2_; have V := q3_; clear q0_ q1_ q2_ q3_; clear k_ o_)
       | (refine gate_load (t := 38) 89 rfl rfl ?_; refine load_ev rfl rfl rfl Kf.out Tryd.underlying38 rfl (by kernel_rfl) ?_)
       | (go_at_call 58; (refine (HPT.out _).mono ?_); have Lf := Aside0.mk (blk_lt Kf.out); have Lr := Aside0.mk (blk_lt Kr.out); have LV := Aside0.mk V.out.size; rintro e_ w52_ ⟨⟨v_, rfl, hc_⟩, h_⟩; obtain ⟨Ap, cp, Bp, mp, rfl, hA_, hB_⟩ := hc_; have b_ := h_; have q0_ := Aside0.mk (blk_below Kr.out b_); have q1_ := Aside0.mk (blk_below Kn.out b_); have q2_ := Aside0.mk (blk_below Kf.out b_); have q3_ := Aside0.mk (V.out.trans (b_.mono V.out.size)); clear Kr; clear Kn; clear Kf; clear V; have Kr := q0_; have Kn := q1_; have Kf := q2_; have V := q3_; clear q0_ q1_ q2_ q3_; clear b_ h_; have HC := Aside0.mk (show FrCame _ F2 _ _ from ⟨Ap, cp, Bp, mp, rfl, hA_, hB_⟩); clear hA_ hB_)
       | (refine gate_stored (t := 38) (p := .tmp 4) rfl ?_; refine store_ev rfl rfl rfl (g := gf) (k := 0) (u := (.agg (frC F2 (.slice Ap F2.data.length cp) (.slice Bp F2.sets.length mp)))) (cs' := frC F2 (.slice Ap F2.data.length cp) (.slice Bp F2.sets.length mp)) rfl rfl Kf.out (by kernel_rfl) (Nat.le_of_ble_eq_true rfl) rfl rfl ?_; intro w53_ k_ o_; have q0_ := Aside0.mk (o_.blk Kr.out Nr_f.out); have q1_ := Aside0.mk (o_.blk Kn.out Nn_f.out); have q2_ := Aside0.mk (k_); have q3_ := Aside0.mk (FrCame.only HC.out o_ Lf.out); have q4_ := Aside0.mk (o_.below V.out Mf.out); clear Kr; clear Kn; clear Kf; clear HC; clear V; have Kr := q0_; have Kn := q1_; have Kf := q2_; have HC := q3_; have V := q4_; clear q0_ q1_ q2_ q3_ q4_; clear k_ o_; have y9_ := (blk_cell Kf.out 9).trans (show _ = some (Value.int .u32 F2.win) from rfl))
       | (refine gate_load (t := 5) 93 rfl rfl ?_; refine loadf_ev rfl rfl rfl Kf.out rfl Tryd.underlying5 rfl ?_)
       | (refine gate_load (t := 22) 101 rfl rfl ?_; refine loadf_ev rfl rfl rfl Kf.out rfl Tryd.underlying22 rfl ?_)
       | (refine gate_load (t := 45) 105 rfl rfl ?_; refine load_ev rfl rfl rfl Kn.out Tryd.underlying45 rfl (by kernel_rfl) ?_)
       | (go_at_call 54; (with_reducible refine (fails_calls _ ⟨ty, fl, st, [], -1, 0, 0, 0, false, 0, []⟩ none 0 0 none 0 0 0 0 2 1).mono ?_); rintro e_ w54_ ⟨rfl, h_⟩; have b_ := h_; have q0_ := Aside0.mk (blk_below Kr.out b_); have q1_ := Aside0.mk (blk_below Kn.out b_); have q2_ := Aside0.mk (blk_below Kf.out b_); have q3_ := Aside0.mk (V.out.trans (b_.mono V.out.size)); clear Kr; clear Kn; clear Kf; clear V; have Kr := q0_; have Kn := q1_; have Kf := q2_; have V := q3_; clear q0_ q1_ q2_ q3_; clear b_ h_)
       | (refine gate_stored (t := 45) (p := .tmp 2) rfl ?_; refine store_ev rfl rfl rfl (g := gr) (k := 0) (u := (.agg (fC ⟨ty, fl, st, [], -1, 0, 0, 0, false, 0, []⟩ nilS nilS 2 1))) (cs' := fC ⟨ty, fl, st, [], -1, 0, 0, 0, false, 0, []⟩ nilS nilS 2 1) rfl rfl Kr.out (by kernel_rfl) (Nat.le_of_ble_eq_true rfl) rfl rfl ?_; intro w55_ k_ o_; have q0_ := Aside0.mk (o_.blk Kn.out Nr_n.out.symm); have q1_ := Aside0.mk (o_.blk Kf.out Nr_f.out.symm); have q2_ := Aside0.mk (k_); have q3_ := Aside0.mk (o_.below V.out Mr.out); clear Kn; clear Kf; clear Kr; clear V; have Kn := q0_; have Kf := q1_; have Kr := q2_; have V := q3_; clear q0_ q1_ q2_ q3_; clear k_ o_))
      refine bodyPost_ret (results_cell_row rfl _ _ gr 45 _ (0, 0) _ rfl Kr.out Tryd.underlying45 rfl (by kernel_rfl)) rfl (HP.out _ _ ?_)
      rw [HE.out]
      exact ⟨⟨frC ⟨ty, fl, st, [], -1, 0, 0, 0, false, 0, []⟩ nilS nilS, rfl, frCame_nil _ _ _ rfl rfl⟩, V.out⟩
    ·rw [if_neg (show ¬ ((fr0 ty fl st pad).ty = 8 ∧ F2.win = 0) from hw)] at hbd
     have HE := Lib.hid (HG4.trans (by rw [hbd]))
     by_cases t8 : ty = 8
     ·have b8 : (F2.ty == 8) = true := by rw [beq_iff_eq, hty]; exact t8
      have bw : (F2.win == 0) = false := by rw [beq_eq_false_iff_ne]; exact fun h => hw ⟨t8, h⟩
      clear hbd HG4 hw t8 hty hst2 hst0
      go_wp2_with (first
       | (refine gate_load (t := 38) 76 rfl rfl ?_; refine load_ev rfl rfl rfl Kf.out Tryd.underlying38 rfl (by kernel_rfl) ?_)
       | (go_at_call 57; (with_reducible refine (rshort_calls _ ⟨ty, fl, st, [], -1, 0, 0, 0, false, 0, []⟩ nilS nilS b2.length HF.out.1 HF.out.2).mono ?_); rintro e_ w50_ ⟨rfl, h_⟩; have b_ := h_; have q0_ := Aside0.mk (blk_below Kr.out b_); have q1_ := Aside0.mk (blk_below Kn.out b_); have q2_ := Aside0.mk (blk_below Kf.out b_); have q3_ := Aside0.mk (V.out.trans (b_.mono V.out.size)); clear Kr; clear Kn; clear Kf; clear V; have Kr := q0_; have Kn := q1_; have Kf := q2_; have V := q3_; clear q0_ q1_ q2_ q3_; clear b_ h_; dsimp only; rw [HS.out])
       | (refine gate_stored (t := 3) (p := .tmp 88) rfl ?_; refine store_ev rfl rfl rfl (g := gf) (k := 4) (u := (.int .i64 pad)) (cs' := frC ⟨ty, fl, st, [], pad, 0, 0, 0, false, 0, []⟩ nilS nilS) rfl rfl Kf.out (by kernel_rfl) (Nat.le_of_ble_eq_true rfl) rfl rfl ?_; intro w51_ k_ o_; have q0_ := Aside0.mk (o_.blk Kr.out Nr_f.out); have q1_ := Aside0.mk (o_.blk Kn.out Nn_f.out); have q2_ := Aside0.mk (k_); have q3_ := Aside0.mk (o_.below V.out Mf.out); clear Kr; clear Kn; clear Kf; clear V; have Kr := q0_; have Kn := q1_; have Kf := q2_; have V := q3_; clear q0_ q1_ q2_ q3_; clear k_ o_)
       | (refine gate_load (t := 38) 89 rfl rfl ?_; refine load_ev rfl rfl rfl Kf.out Tryd.underlying38 rfl (by kernel_rfl) ?_)
       | (go_at_call 58; (refine (HPT.out _).mono ?_); have Lf := Aside0.mk (blk_lt Kf.out); have Lr := Aside0.mk (blk_lt Kr.out); have LV := Aside0.mk V.out.size; rintro e_ w52_ ⟨⟨v_, rfl, hc_⟩, h_⟩; obtain ⟨Ap, cp, Bp, mp, rfl, hA_, hB_⟩ := hc_; have b_ := h_; have q0_ := Aside0.mk (blk_below Kr.out b_); have q1_ := Aside0.mk (blk_below Kn.out b_); have q2_ := Aside0.mk (blk_below Kf.out b_); have q3_ := Aside0.mk (V.out.trans (b_.mono V.out.size)); clear Kr; clear Kn; clear Kf; clear V; have Kr := q0_; have Kn := q1_; have Kf := q2_; have V := q3_; clear q0_ q1_ q2_ q3_; clear b_ h_; have HC := Aside0.mk (show FrCame _ F2 _ _ from ⟨Ap, cp, Bp, mp, rfl, hA_, hB_⟩); clear hA_ hB_)
       | (refine gate_stored (t := 38) (p := .tmp 4) rfl ?_; refine store_ev rfl rfl rfl (g := gf) (k := 0) (u := (.agg (frC F2 (.slice Ap F2.data.length cp) (.slice Bp F2.sets.length mp)))) (cs' := frC F2 (.slice Ap F2.data.length cp) (.slice Bp F2.sets.length mp)) rfl rfl Kf.out (by kernel_rfl) (Nat.le_of_ble_eq_true rfl) rfl rfl ?_; intro w53_ k_ o_; have q0_ := Aside0.mk (o_.blk Kr.out Nr_f.out); have q1_ := Aside0.mk (o_.blk Kn.out Nn_f.out); have q2_ := Aside0.mk (k_); have q3_ := Aside0.mk (FrCame.only HC.out o_ Lf.out); have q4_ := Aside0.mk (o_.below V.out Mf.out); clear Kr; clear Kn; clear Kf; clear HC; clear V; have Kr := q0_; have Kn := q1_; have Kf := q2_; have HC := q3_; have V := q4_; clear q0_ q1_ q2_ q3_ q4_; clear k_ o_; have y9_ := (blk_cell Kf.out 9).trans (show _ = some (Value.int .u32 F2.win) from rfl))
       | (refine gate_load (t := 5) 93 rfl rfl ?_; refine loadf_ev rfl rfl rfl Kf.out rfl Tryd.underlying5 rfl ?_)
       | (refine gate_load (t := 38) 107 rfl rfl ?_; refine load_ev rfl rfl rfl Kf.out Tryd.underlying38 rfl (by kernel_rfl) ?_)
       | (refine gate_stored (t := 45) (p := .tmp 2) rfl ?_; refine store_ev rfl rfl rfl (g := gr) (k := 0) (u := (.agg (fC F2 (.slice Ap F2.data.length cp) (.slice Bp F2.sets.length mp) 0 0))) (cs' := fC F2 (.slice Ap F2.data.length cp) (.slice Bp F2.sets.length mp) 0 0) rfl rfl Kr.out (by kernel_rfl) (Nat.le_of_ble_eq_true rfl) rfl rfl ?_; intro w54_ k_ o_; have q0_ := Aside0.mk (o_.blk Kn.out Nr_n.out.symm); have q1_ := Aside0.mk (o_.blk Kf.out Nr_f.out.symm); have q2_ := Aside0.mk (k_); have q3_ := Aside0.mk (FrCame.only HC.out o_ Lr.out); have q4_ := Aside0.mk (o_.below V.out Mr.out); clear Kn; clear Kf; clear Kr; clear HC; clear V; have Kn := q0_; have Kf := q1_; have Kr := q2_; have HC := q3_; have V := q4_; clear q0_ q1_ q2_ q3_ q4_; clear k_ o_))
      refine bodyPost_ret (results_cell_row rfl _ _ gr 45 _ (0, 0) _ rfl Kr.out Tryd.underlying45 rfl (by kernel_rfl)) rfl (HP.out _ _ ?_)
      rw [HE.out]
      exact ⟨⟨_, rfl, FrCame.mono HC.out LV.out⟩, V.out⟩
     ·have b8 : (F2.ty == 8) = false := by rw [beq_eq_false_iff_ne, hty]; exact t8
      clear hbd HG4 hw t8 hty hst2 hst0
      go_wp2_with (first
       | (refine gate_load (t := 38) 76 rfl rfl ?_; refine load_ev rfl rfl rfl Kf.out Tryd.underlying38 rfl (by kernel_rfl) ?_)
       | (go_at_call 57; (with_reducible refine (rshort_calls _ ⟨ty, fl, st, [], -1, 0, 0, 0, false, 0, []⟩ nilS nilS b2.length HF.out.1 HF.out.2).mono ?_); rintro e_ w50_ ⟨rfl, h_⟩; have b_ := h_; have q0_ := Aside0.mk (blk_below Kr.out b_); have q1_ := Aside0.mk (blk_below Kn.out b_); have q2_ := Aside0.mk (blk_below Kf.out b_); have q3_ := Aside0.mk (V.out.trans (b_.mono V.out.size)); clear Kr; clear Kn; clear Kf; clear V; have Kr := q0_; have Kn := q1_; have Kf := q2_; have V := q3_; clear q0_ q1_ q2_ q3_; clear b_ h_; dsimp only; rw [HS.out])
       | (refine gate_stored (t := 3) (p := .tmp 88) rfl ?_; refine store_ev rfl rfl rfl (g := gf) (k := 4) (u := (.int .i64 pad)) (cs' := frC ⟨ty, fl, st, [], pad, 0, 0, 0, false, 0, []⟩ nilS nilS) rfl rfl Kf.out (by kernel_rfl) (Nat.le_of_ble_eq_true rfl) rfl rfl ?_; intro w51_ k_ o_; have q0_ := Aside0.mk (o_.blk Kr.out Nr_f.out); have q1_ := Aside0.mk (o_.blk Kn.out Nn_f.out); have q2_ := Aside0.mk (k_); have q3_ := Aside0.mk (o_.below V.out Mf.out); clear Kr; clear Kn; clear Kf; clear V; have Kr := q0_; have Kn := q1_; have Kf := q2_; have V := q3_; clear q0_ q1_ q2_ q3_; clear k_ o_)
       | (refine gate_load (t := 38) 89 rfl rfl ?_; refine load_ev rfl rfl rfl Kf.out Tryd.underlying38 rfl (by kernel_rfl) ?_)
       | (go_at_call 58; (refine (HPT.out _).mono ?_); have Lf := Aside0.mk (blk_lt Kf.out); have Lr := Aside0.mk (blk_lt Kr.out); have LV := Aside0.mk V.out.size; rintro e_ w52_ ⟨⟨v_, rfl, hc_⟩, h_⟩; obtain ⟨Ap, cp, Bp, mp, rfl, hA_, hB_⟩ := hc_; have b_ := h_; have q0_ := Aside0.mk (blk_below Kr.out b_); have q1_ := Aside0.mk (blk_below Kn.out b_); have q2_ := Aside0.mk (blk_below Kf.out b_); have q3_ := Aside0.mk (V.out.trans (b_.mono V.out.size)); clear Kr; clear Kn; clear Kf; clear V; have Kr := q0_; have Kn := q1_; have Kf := q2_; have V := q3_; clear q0_ q1_ q2_ q3_; clear b_ h_; have HC := Aside0.mk (show FrCame _ F2 _ _ from ⟨Ap, cp, Bp, mp, rfl, hA_, hB_⟩); clear hA_ hB_)
       | (refine gate_stored (t := 38) (p := .tmp 4) rfl ?_; refine store_ev rfl rfl rfl (g := gf) (k := 0) (u := (.agg (frC F2 (.slice Ap F2.data.length cp) (.slice Bp F2.sets.length mp)))) (cs' := frC F2 (.slice Ap F2.data.length cp) (.slice Bp F2.sets.length mp)) rfl rfl Kf.out (by kernel_rfl) (Nat.le_of_ble_eq_true rfl) rfl rfl ?_; intro w53_ k_ o_; have q0_ := Aside0.mk (o_.blk Kr.out Nr_f.out); have q1_ := Aside0.mk (o_.blk Kn.out Nn_f.out); have q2_ := Aside0.mk (k_); have q3_ := Aside0.mk (FrCame.only HC.out o_ Lf.out); have q4_ := Aside0.mk (o_.below V.out Mf.out); clear Kr; clear Kn; clear Kf; clear HC; clear V; have Kr := q0_; have Kn := q1_; have Kf := q2_; have HC := q3_; have V := q4_; clear q0_ q1_ q2_ q3_ q4_; clear k_ o_; have y9_ := (blk_cell Kf.out 9).trans (show _ = some (Value.int .u32 F2.win) from rfl))
       | (refine gate_load (t := 5) 93 rfl rfl ?_; refine loadf_ev rfl rfl rfl Kf.out rfl Tryd.underlying5 rfl ?_)
       | (refine gate_load (t := 38) 107 rfl rfl ?_; refine load_ev rfl rfl rfl Kf.out Tryd.underlying38 rfl (by kernel_rfl) ?_)
       | (refine gate_stored (t := 45) (p := .tmp 2) rfl ?_; refine store_ev rfl rfl rfl (g := gr) (k := 0) (u := (.agg (fC F2 (.slice Ap F2.data.length cp) (.slice Bp F2.sets.length mp) 0 0))) (cs' := fC F2 (.slice Ap F2.data.length cp) (.slice Bp F2.sets.length mp) 0 0) rfl rfl Kr.out (by kernel_rfl) (Nat.le_of_ble_eq_true rfl) rfl rfl ?_; intro w54_ k_ o_; have q0_ := Aside0.mk (o_.blk Kn.out Nr_n.out.symm); have q1_ := Aside0.mk (o_.blk Kf.out Nr_f.out.symm); have q2_ := Aside0.mk (k_); have q3_ := Aside0.mk (FrCame.only HC.out o_ Lr.out); have q4_ := Aside0.mk (o_.below V.out Mr.out); clear Kn; clear Kf; clear Kr; clear HC; clear V; have Kn := q0_; have Kf := q1_; have Kr := q2_; have HC := q3_; have V := q4_; clear q0_ q1_ q2_ q3_ q4_; clear k_ o_))
      refine bodyPost_ret (results_cell_row rfl _ _ gr 45 _ (0, 0) _ rfl Kr.out Tryd.underlying45 rfl (by kernel_rfl)) rfl (HP.out _ _ ?_)
      rw [HE.out]
      exact ⟨⟨_, rfl, FrCame.mono HC.out LV.out⟩, V.out⟩

theorem eqSet (d : Nat) (w : World) (x0 y0 : Int) (x1 y1 : Int) :
  (Op.equalIn (d + 2) 99 (.agg #[.int .u16 x0, .int .u32 x1]) (.agg #[.int .u16 y0, .int .u32 y1])).run Tryd.prog w = .ok (x0 == y0 && (x1 == y1)) w := by
 refine eqA_of Tryd.underlying99 (by kernel_rfl) ?_
 refine eqf_cons (by rfl) (by go_simp; rfl) (by go_simp; rfl) (by go_simp) ?_
 exact eqf_last (by rfl) (by go_simp; rfl) (by go_simp; rfl) (by go_simp)
attribute [local go_sem high] eqSet
set_option maxHeartbeats 8000000 in
set_option maxRecDepth 100000 in
theorem rsame_calls (w : World) (F : Fr) (A A' B B' : Option Addr) (c c' m m' : Nat) (hA : ReadsInt w .u8 A F.data.length F.data) (hc : F.data.length ≤ c) (hA' : ReadsInt w .u8 A' F.data.length F.data) (hc' : F.data.length ≤ c')
  (hB : k99.C w B F.sets.length F.sets) (hB' : k99.C w B' F.sets.length F.sets) (hl : F.sets.length ≤ 1000000) :
  Calls Tryd.prog 28 #[.agg (frC F (.slice A F.data.length c) (.slice B F.sets.length m)), .agg (frC F (.slice A' F.data.length c') (.slice B' F.sets.length m'))] w fun e w' => e = .returned (.bool true) ∧ Below w.heap.size w w' := by
 refine of_post0 fun R hRR => ?_
 have HP := Lib.hid hRR
 have HA := Lib.hid (And.intro hA (And.intro hc (And.intro hA' hc')))
 have HBB := Lib.hid (And.intro hB (And.intro hB' hl))
 clear hRR hA hc hA' hc' hB hB' hl
 have V := Aside0.mk (Below.refl w.heap.size w)
 go_enter Tryd.func28, Tryd.ntmps28
 go_wp2_with (first
  | (refine gate_box 2 rfl rfl ?_; refine make_ev rfl (cs := frC F (.slice A F.data.length c) (.slice B F.sets.length m)) (t := 38) (by first | (go_simp; done) | (go_simp; rfl)) ?_; intro ga hg_ w0_ k_ z_ b_; have Ma := Aside0.mk (show w.heap.size ≤ ga by rw [hg_]; exact V.out.size); have q0_ := Aside0.mk (V.out.trans (b_.mono V.out.size)); clear V; have V := q0_; clear q0_; have Ka := Aside0.mk k_; clear hg_ k_ z_ b_)
  | (refine gate_box 3 rfl rfl ?_; refine make_ev rfl (cs := frC F (.slice A' F.data.length c') (.slice B' F.sets.length m')) (t := 38) (by first | (go_simp; done) | (go_simp; rfl)) ?_; intro gb hg_ w1_ k_ z_ b_; have Na_b := Aside0.mk (show ga ≠ gb by rw [hg_]; exact Nat.ne_of_lt (blk_lt Ka.out)); have Mb := Aside0.mk (show w.heap.size ≤ gb by rw [hg_]; exact V.out.size); have q0_ := Aside0.mk (blk_below Ka.out b_); have q1_ := Aside0.mk (V.out.trans (b_.mono V.out.size)); clear Ka; clear V; have Ka := q0_; have V := q1_; clear q0_ q1_; have Kb := Aside0.mk k_; clear hg_ k_ z_ b_; have x0_ := (blk_cell Ka.out 0).trans (show _ = some (Value.int .u8 F.ty) from rfl); have x1_ := (blk_cell Ka.out 1).trans (show _ = some (Value.int .u8 F.fl) from rfl); have x2_ := (blk_cell Ka.out 2).trans (show _ = some (Value.int .u32 F.st) from rfl); have x3_ := (blk_cell Ka.out 3).trans (show _ = some (Value.slice A F.data.length c) from rfl); have x4_ := (blk_cell Ka.out 4).trans (show _ = some (Value.int .i64 F.pad) from rfl); have x5_ := (blk_cell Ka.out 5).trans (show _ = some (Value.int .u32 F.code) from rfl); have x6_ := (blk_cell Ka.out 6).trans (show _ = some (Value.int .u32 F.oth) from rfl); have x7_ := (blk_cell Ka.out 7).trans (show _ = some (Value.int .u8 F.wgt) from rfl); have x8_ := (blk_cell Ka.out 8).trans (show _ = some (Value.bool F.al) from rfl); have x9_ := (blk_cell Ka.out 9).trans (show _ = some (Value.int .u32 F.win) from rfl); have x10_ := (blk_cell Ka.out 10).trans (show _ = some (Value.slice B F.sets.length m) from rfl); have y0_ := (blk_cell Kb.out 0).trans (show _ = some (Value.int .u8 F.ty) from rfl); have y1_ := (blk_cell Kb.out 1).trans (show _ = some (Value.int .u8 F.fl) from rfl); have y2_ := (blk_cell Kb.out 2).trans (show _ = some (Value.int .u32 F.st) from rfl); have y3_ := (blk_cell Kb.out 3).trans (show _ = some (Value.slice A' F.data.length c') from rfl); have y4_ := (blk_cell Kb.out 4).trans (show _ = some (Value.int .i64 F.pad) from rfl); have y5_ := (blk_cell Kb.out 5).trans (show _ = some (Value.int .u32 F.code) from rfl); have y6_ := (blk_cell Kb.out 6).trans (show _ = some (Value.int .u32 F.oth) from rfl); have y7_ := (blk_cell Kb.out 7).trans (show _ = some (Value.int .u8 F.wgt) from rfl); have y8_ := (blk_cell Kb.out 8).trans (show _ = some (Value.bool F.al) from rfl); have y9_ := (blk_cell Kb.out 9).trans (show _ = some (Value.int .u32 F.win) from rfl); have y10_ := (blk_cell Kb.out 10).trans (show _ = some (Value.slice B' F.sets.length m') from rfl); have cv := string_of_reads (c := c) Tryd.underlying35 Tryd.underlying5 Tryd.underlying9 (HA.out.1.below V.out); have cv' := string_of_reads (c := c') Tryd.underlying35 Tryd.underlying5 Tryd.underlying9 (HA.out.2.2.1.below V.out)))
 go_loopg [88] F.sets.length (fun k v wr => ∃ j : Nat, v = .int .i64 (j : Int) ∧ j + k = F.sets.length ∧ Aside0 (wr.heap[ga]? = some (.cells (frC F (.slice A F.data.length c) (.slice B F.sets.length m)) 38 (0, 0))) ∧ Aside0 (wr.heap[gb]? = some (.cells (frC F (.slice A' F.data.length c') (.slice B' F.sets.length m')) 38 (0, 0))) ∧ Aside0 (Below w.heap.size w wr))
 case atStart => exact ⟨0, rfl, by omega, Ka, Kb, V⟩
 case round =>
  obtain ⟨j, rfl, hj, Ka', Kb', V'⟩ := hrel
  cases gk with
  | zero =>
   have d0 : decide ((j : Int) < (F.sets.length : Int)) = false := by rw [decide_eq_false_iff_not]; omega
   have d1 : decide (j < F.sets.length) = false := by rw [decide_eq_false_iff_not]; omega
   clear hj
   go_wp2_with fail
   exact HP.out _ _ ⟨rfl, V'.out⟩
  | succ k =>
   have hlm := HBB.out.2.2
   have p0 : (0 : Int) ≤ (j : Int) := by omega
   have q0 : (j : Int) < (F.sets.length : Int) := by omega
   have d0 : decide ((j : Int) < (F.sets.length : Int)) = true := decide_eq_true q0
   have d1 : decide (j < F.sets.length) = true := decide_eq_true (by omega)
   have d2 : j < F.sets.length := by omega
   obtain ⟨ad, e1, ha0, ha1⟩ := at_T99 (Kd.C_below HBB.out.1 V'.out) (j : Int) p0 q0
   obtain ⟨bd, e2, hb0, hb1⟩ := at_T99 (Kd.C_below HBB.out.2.1 V'.out) (j : Int) p0 q0
   subst e1 e2
   have x10 := (blk_cell Ka'.out 10).trans (show _ = some (Value.slice (some ad) F.sets.length m) from rfl)
   have y10 := (blk_cell Kb'.out 10).trans (show _ = some (Value.slice (some bd) F.sets.length m') from rfl)
   have hw : wrap64 ((j : Int) + 1) = ((j + 1 : Nat) : Int) := by rw [wrap_okF (by omega) (by omega)]; omega
   generalize rd_T99 F.sets (j : Int) = sv at ha0 ha1 hb0 hb1
   simp only [Int.toNat_natCast] at ha0 ha1 hb0 hb1
   go_wp2_with fail
   go_region
   go_wp2_with fail
   go_roundg k
   case measure => omega
   case rel => exact ⟨j + 1, by first | rfl | (simp; done), by omega, Aside0.mk (by first | exact Ka'.out | exact blk_drew Ka'.out), Aside0.mk (by first | exact Kb'.out | exact blk_drew Kb'.out), Aside0.mk (by first | exact V'.out | exact V'.out.trans ((below_drew (Below.refl _ _)).mono V'.out.size))⟩
end Go.Proofs.YtjjfkmniffbgkaaDoor

/- clear on a row of one's own. -/
namespace Go.Proofs.YtjjfkmniffbgkaaDoor
set_option linter.unusedVariables false
set_option linter.unusedSimpArgs false
open Go.RowKit Go.Proofs.YtjjfkmniffbgkaaDoorW.PrintWords
structure Wiped (W W1 : World) (row : Option Nat) : Prop where
 os : W1.os = W.os
 tape : W1.tape = W.tape
 output : W1.output = W.output
 size : W1.heap.size = W.heap.size
 block : ∀ i, i < W.heap.size → some i ≠ row → W1.heap[i]? = W.heap[i]?
theorem Wiped.blk {W W1 : World} {row : Option Nat} (h : Wiped W W1 row) {g : Nat} {o : Obj} (hg : W.heap[g]? = some o) (hne : some g ≠ row) : W1.heap[g]? = some o := (h.block g (blk_lt hg) hne).trans hg
theorem Wiped.grown {W W1 : World} {row : Option Nat} (h : Wiped W W1 row) : W.grownBy W1 row := ⟨h.os, h.tape, h.output, by have := h.size; omega, h.block⟩
theorem Wiped.own {W W1 : World} {row : Option Nat} (h : Wiped W W1 row) {base n size : Nat} {e : TypeId} {v : Value} {xs : List Value} (ho : W.ownsRow base e size v n xs) (hne : v.ownBlock = none ∨ v.ownBlock ≠ row) : W1.ownsRow base e size v n xs := ho.kept h.grown hne

theorem eqFault (d : Nat) (w : World) (x0 y0 : Int) (x1 y1 : Int) :
  (Op.equalIn (d + 2) 24 (.agg #[.int .u8 x0, .int .u32 x1]) (.agg #[.int .u8 y0, .int .u32 y1])).run Tryd.prog w = .ok (x0 == y0 && (x1 == y1)) w := by
 refine eqA_of Tryd.underlying24 (by kernel_rfl) ?_
 refine eqf_cons (by rfl) (by go_simp; rfl) (by go_simp; rfl) (by go_simp) ?_
 exact eqf_last (by rfl) (by go_simp; rfl) (by go_simp; rfl) (by go_simp)
end Go.Proofs.YtjjfkmniffbgkaaDoor

/- FrameGets, walked. (This text is printed by wip/gen/fgets.py.) -/
namespace Go.Proofs.YtjjfkmniffbgkaaDoor
set_option linter.unusedVariables false
set_option linter.unusedSimpArgs false
open Go.RowKit Go.Proofs.YtjjfkmniffbgkaaDoorW.PrintWords Go.Proofs.YtjjfkmniffbgkaaDoorW.PrintLast Go.Proofs.YtjjfkmniffbgkaaDoorW.PrintMore Go.Proofs.YtjjfkmniffbgkaaDoor.QFrmA Go.Proofs.YtjjfkmniffbgkaaDoor.Given Go.Extern.Stop Go.Stop Go.Extern Go.Maps
attribute [local go_sem high] eqFault
theorem rget_calls (w : World) (l : List Int) (hby : Byte8 l) (hl : l.length ≤ 20000000) : Calls Tryd.prog 26 #[.string (strOfNums l)] w (RGetPost w (getFr l)) := by
 by_cases h9 : l.length < 9
 ·exact rget_short w l h9
 ·by_cases hn : headN l = (l.length : Int)
  ·exact rget_main w l hby (by omega) hl hn
  ·exact rget_length w l hby (by omega) hl hn
theorem get_came (w : World) (hgv : GV w) (A : Option Addr) (c : Nat) (l : List Int) (hR : ReadsInt w .u8 A l.length l) (hc : l.length ≤ c) (hby : Byte8 l) (hl : l.length ≤ 20000000) :
  Calls Tryd.prog 27 #[.slice A l.length c] w fun e w' => (∃ v, e = .returned (.tuple #[.agg v, .agg #[.int .u8 (getFr l).2.1, .int .u32 (getFr l).2.2]]) ∧ FrCame w (getFr l).1 v w') ∧ Below w.heap.size w w' := by
 refine (get_calls w hgv A c l hR hc hby hl).mono ?_
 rintro e w' ⟨D, S, he, hD, hS, hb⟩
 obtain ⟨A1, c1, rfl, h1, h2⟩ := Kd.R_reads hD
 obtain ⟨A2, c2, rfl, h3, h4⟩ := Kd.R_reads hS
 refine ⟨⟨_, he, A1, c1, A2, c2, rfl, ⟨Kd_reads h2, h1, fun a ha => ?_⟩, h4, h3, fun a ha => ?_⟩, hb⟩
 ·subst ha; exact Kd.R_base hD a.block (by simp [Value.ownBlock])
 ·subst ha; exact Kd.R_base hS a.block (by simp [Value.ownBlock])
theorem Wiped.only {g : Nat} {W w1 : World} (h : Wiped W w1 (some g)) : Only g W w1 := ⟨h.os, h.tape, h.output, h.size, fun k hk => by
 by_cases hlt : k < W.heap.size
 ·exact h.block k hlt (fun e => hk (by injection e))
 ·rw [Array.getElem?_eq_none (by have := h.size; omega), Array.getElem?_eq_none (by omega)]⟩
theorem RGetPost.of {w w' : World} {r : Fr × Int × Int} {e : Ending} (h : RGetPost w r e w') : (∃ Aq cq Bq mq, e = .returned (.agg (fC r.1 (.slice Aq r.1.data.length cq) (.slice Bq r.1.sets.length mq) r.2.1 r.2.2)) ∧
  FrCame w r.1 (frC r.1 (.slice Aq r.1.data.length cq) (.slice Bq r.1.sets.length mq)) w') ∧ Below w.heap.size w w' := by
 obtain ⟨⟨v, he, hc⟩, hb⟩ := h
 obtain ⟨A, c, B, m, e1, h1, h2⟩ := hc
 refine ⟨⟨A, c, B, m, ?_, A, c, B, m, rfl, h1, h2⟩, hb⟩
 rw [he, e1]
 rfl
theorem FrCame.rows {w w' : World} {F : Fr} {A B : Option Addr} {n m c d : Nat} (h : FrCame w F (frC F (.slice A n c) (.slice B m d)) w') : ReadsInt w' .u8 A F.data.length F.data ∧ F.data.length ≤ c ∧ k99.C w' B F.sets.length F.sets := by
 obtain ⟨A', c', B', m', e, ⟨h1, h2, _⟩, h3, _⟩ := h
 simp only [frC, Array.mk.injEq, List.cons.injEq, Value.slice.injEq, and_true, true_and] at e
 obtain ⟨⟨rfl, -, rfl⟩, rfl, -, -⟩ := e
 exact ⟨h1, h2, h3⟩
theorem parseS_size : ∀ (n : Nat) (l : List Int), (parseS n l).length = n
 | 0, _ => rfl
 | n + 1, l => by simp [parseS, parseS_size n]
theorem body_sets {F F2 : Fr} {b : List Int} (h0 : F.sets = []) (hr : bodyR F b = .ok F2) : F2.sets.length ≤ b.length := by
 unfold bodyR setsR at hr
 repeat' (first | (split at hr) | (injection hr with hr; subst hr; first | (simp [h0]; done) | (show (parseS _ _).length ≤ _; rw [parseS_size]; omega) | (simp [leanF, h0]; done)) | cases hr)
theorem getFr_sets (l : List Int) : (getFr l).1.sets.length ≤ l.length := by
 unfold getFr
 repeat' split
 all_goals (try (simp; done))
 rename_i F hr
 unfold readR unpadR at hr
 split at hr
 ·cases hr
 ·rename_i p n q hu
  have := body_sets rfl hr
  have h2 : (((l.drop 9).drop p).take n).length ≤ l.length := by rw [List.length_take, List.length_drop, List.length_drop]; omega
  exact Nat.le_trans this h2
end Go.Proofs.YtjjfkmniffbgkaaDoor
