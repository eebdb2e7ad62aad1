/- The statement of louver/louverlaw07.FrameGets: for every input it returns true, and each argument reads behind the call as it read before; no other condition than the row's own. -/
import Derived.Test.YtjjfkmniffbgkaaDoorMFrameGets13
import Derived.Test.YtjjfkmniffbgkaaDoorMFrameGets2
import Derived.ChangeSlices
import Derived.Deep.Slices
import Derived.ChangeArms
import Derived.ChangeSame
import Derived.WideLaws
import Derived.OpenShut
import Derived.Lib.SmallJoins
import Derived.WideShapes
import Derived.ChangeShapes
import Derived.Test.YtjjfkmniffbgkaaDoorRows
import Derived.LaidHandle
import Derived.LaidLaws
import Derived.Stop.Joined
import Derived.Test.YtjjfkmniffbgkaaDoorCards
import Derived.Test.YtjjfkmniffbgkaaDoorTie
import Derived.WalkKit
import Derived.ProofKit
import Derived.ShutString
import Derived.ChangeOld
import Derived.Below
import Derived.SizedLaws
import Derived.Carry
import Derived.Deep.DeepHandedRow
/- FrameGets, walked. (This text is printed by wip/gen/fgets.py.) -/
namespace Go.Proofs.YtjjfkmniffbgkaaDoor
set_option linter.unusedVariables false
set_option linter.unusedSimpArgs false
open Go.RowKit Go.Proofs.YtjjfkmniffbgkaaDoorW.PrintWords Go.Proofs.YtjjfkmniffbgkaaDoorW.PrintLast Go.Proofs.YtjjfkmniffbgkaaDoorW.PrintMore Go.Proofs.YtjjfkmniffbgkaaDoor.QFrmA Go.Proofs.YtjjfkmniffbgkaaDoor.Given Go.Extern.Stop Go.Stop Go.Extern Go.Maps
attribute [local go_sem high] eqFault

theorem rget_calls (w : World) (l : List Int) (hby : Byte8 l) (hl : l.length ≤ 100000) : Calls Tryd.prog 26 #[.string (strOfNums l)] w (RGetPost w (getFr l)) := by
  by_cases h9 : l.length < 9
  · exact rget_short w l h9
  · by_cases hn : headN l = (l.length : Int)
    · exact rget_main w l hby (by omega) hl hn
    · exact rget_length w l hby (by omega) hl hn
theorem fixed_calls (w : World) : Calls Tryd.prog 20 #[] w fun e w' => e = .returned (.bool true) ∧ Below w.heap.size w w' := by
  obtain ⟨k, hk⟩ := ev_fixed.rounds
  exact QFrmB.louverlaw07_fixed.calls k true w hk
theorem get_came (w : World) (hgv : GV w) (A : Option Addr) (c : Nat) (l : List Int) (hR : ReadsInt w .u8 A l.length l) (hc : l.length ≤ c) (hby : Byte8 l) (hl : l.length ≤ 100000) :
    Calls Tryd.prog 27 #[.slice A l.length c] w fun e w' => (∃ v, e = .returned (.tuple #[.agg v, .agg #[.int .u8 (getFr l).2.1, .int .u32 (getFr l).2.2]]) ∧ FrCame w (getFr l).1 v w') ∧ Below w.heap.size w w' := by
  refine (get_calls w hgv A c l hR hc hby hl).mono ?_
  rintro e w' ⟨D, S, he, hD, hS, hb⟩
  obtain ⟨A1, c1, rfl, h1, h2⟩ := Kd.R_reads hD
  obtain ⟨A2, c2, rfl, h3, h4⟩ := Kd.R_reads hS
  refine ⟨⟨_, he, A1, c1, A2, c2, rfl, ⟨Kd_reads h2, h1, fun a ha => ?_⟩, h4, h3, fun a ha => ?_⟩, hb⟩
  · subst ha; exact Kd.R_base hD a.block (by simp [Value.ownBlock])
  · subst ha; exact Kd.R_base hS a.block (by simp [Value.ownBlock])
theorem Only.wiped {g : Nat} {W w1 : World} (h : Only g W w1) : Wiped W w1 (some g) := ⟨h.os, h.tape, h.output, h.size, fun i _ hne => h.block i (fun e => hne (by rw [e]))⟩
theorem Wiped.only {g : Nat} {W w1 : World} (h : Wiped W w1 (some g)) : Only g W w1 := ⟨h.os, h.tape, h.output, h.size, fun k hk => by
  by_cases hlt : k < W.heap.size
  · exact h.block k hlt (fun e => hk (by injection e))
  · rw [Array.getElem?_eq_none (by have := h.size; omega), Array.getElem?_eq_none (by omega)]⟩
theorem Wiped.none_only {W w1 : World} (h : Wiped W w1 none) (g : Nat) : Only g W w1 := ⟨h.os, h.tape, h.output, h.size, fun k hk => by
  by_cases hlt : k < W.heap.size
  · exact h.block k hlt (by simp)
  · rw [Array.getElem?_eq_none (by have := h.size; omega), Array.getElem?_eq_none (by omega)]⟩
theorem FrCame.wiped {w W W1 : World} {F : Fr} {v : Array Value} {row : Option Nat} (h : FrCame w F v W) (hw : Wiped W W1 row) (hr : ∀ b, row = some b → b < w.heap.size) : FrCame w F v W1 := by
  cases row with
  | none => 
    refine h.below ⟨hw.os, hw.tape, hw.output, by rw [hw.size]; exact Nat.le_refl _, fun k hk => ?_⟩
    exact hw.block k hk (by simp)
  | some g => exact h.only hw.only (hr g rfl)
theorem RGetPost.of {w w' : World} {r : Fr × Int × Int} {e : Ending} (h : RGetPost w r e w') : (∃ Aq cq Bq mq, e = .returned (.agg (fC r.1 (.slice Aq r.1.data.length cq) (.slice Bq r.1.sets.length mq) r.2.1 r.2.2)) ∧
    FrCame w r.1 (frC r.1 (.slice Aq r.1.data.length cq) (.slice Bq r.1.sets.length mq)) w') ∧ Below w.heap.size w w' := by
  obtain ⟨⟨v, he, hc⟩, hb⟩ := h
  obtain ⟨A, c, B, m, e1, h1, h2⟩ := hc
  refine ⟨⟨A, c, B, m, ?_, A, c, B, m, rfl, h1, h2⟩, hb⟩
  rw [he, e1]
  rfl
theorem FrCame.rows {w w' : World} {F : Fr} {A B : Option Addr} {n m c d : Nat} (h : FrCame w F (frC F (.slice A n c) (.slice B m d)) w') : ReadsInt w' .u8 A F.data.length F.data ∧ F.data.length ≤ c ∧ k99.C w' B F.sets.length F.sets := by
  obtain ⟨A', c', B', m', e, ⟨h1, h2, _⟩, h3, _⟩ := h
  simp only [frC, Array.mk.injEq, List.cons.injEq, Value.slice.injEq, and_true, true_and] at e
  obtain ⟨⟨rfl, -, rfl⟩, rfl, -, -⟩ := e
  exact ⟨h1, h2, h3⟩
theorem parseS_size : ∀ (n : Nat) (l : List Int), (parseS n l).length = n
  | 0, _ => rfl
  | n + 1, l => by simp [parseS, parseS_size n]
theorem body_sets {F F2 : Fr} {b : List Int} (h0 : F.sets = []) (hr : bodyR F b = .ok F2) : F2.sets.length ≤ b.length := by
  unfold bodyR setsR at hr
  repeat' (first | (split at hr) | (injection hr with hr; subst hr; first | (simp [h0]; done) | (show (parseS _ _).length ≤ _; rw [parseS_size]; omega) | (simp [leanF, h0]; done)) | cases hr)
theorem getFr_sets (l : List Int) : (getFr l).1.sets.length ≤ l.length := by
  unfold getFr
  repeat' split
  all_goals (try (simp; done))
  rename_i F hr
  unfold readR unpadR at hr
  split at hr
  · cases hr
  · rename_i p n q hu
    have := body_sets rfl hr
    have h2 : (((l.drop 9).drop p).take n).length ≤ l.length := by rw [List.length_take, List.length_drop, List.length_drop]; omega
    exact Nat.le_trans this h2
set_option maxHeartbeats 8000000 in
set_option maxRecDepth 100000 in
theorem frameGets_great (w : World) (A : Option Addr) (c : Nat) (l : List Int) (hl : 20000 < l.length) :
    Calls Tryd.prog 5 #[.slice A l.length c] w fun e w' => e = .returned (.bool true) ∧ Below w.heap.size w w' := by
  refine of_post0 fun R hRR => ?_
  have HP := Lib.hid hRR
  have b1 : decide ((20000 : Int) < (l.length : Int)) = true := by rw [decide_eq_true_iff]; omega
  have b2 : decide (20000 < l.length) = true := by rw [decide_eq_true_iff]; omega
  clear hRR hl
  go_enter Tryd.func5, Tryd.ntmps5
  go_wp2_with (go_at_call 20; refine (fixed_calls _).mono ?_; rintro e w1 ⟨rfl, hb⟩; have HB := Lib.hid hb; clear hb)
  exact HP.out _ _ ⟨rfl, HB.out⟩
set_option maxHeartbeats 8000000 in
set_option maxRecDepth 100000 in
theorem frameGets_few (w : World) (A : Option Addr) (c : Nat) (l : List Int) (hl : l.length ≤ 20000) (hlc : l.length ≤ c) (hR : ReadsInt w .u8 A l.length l) (hby : Byte8 l) (hG : GV w) (h9 : l.length < 9) :
    Calls Tryd.prog 5 #[.slice A l.length c] w fun e w' => e = .returned (.bool true) ∧ Below w.heap.size w w' := by
  refine of_post0 fun R hRR => ?_
  have HP := Lib.hid hRR
  have b1 : decide ((20000 : Int) < (l.length : Int)) = false := by rw [decide_eq_false_iff_not]; omega
  have b2 : decide (20000 < l.length) = false := by rw [decide_eq_false_iff_not]; omega
  have HGV := Lib.hid hG
  have HBY := Lib.hid hby
  have HR := Lib.hid hR
  have HLC := Lib.hid hlc
  have HO := own_empty w w.heap.size 5 (Nat.le_refl _)
  have hR1 : ReadsInt (w.alloc (.cells #[] 5)) .u8 A l.length l := hR.below (below_alloc (Below.refl w.heap.size w) _)
  have HCV := Lib.hid (show ∀ W, Below w.heap.size w W → (convert 35 9 (.slice A l.length c)).run Tryd.prog W = .ok (.string (strOfNums l)) W from fun W hW => string_of_reads Tryd.underlying35 Tryd.underlying5 Tryd.underlying9 (hR.below hW))
  have HSL := Lib.hid (show (getFr l).1.sets.length ≤ 1000000 by have := getFr_sets l; omega)
  have HGC := Lib.hid (fun (W : World) (A2 : Option Addr) (c2 : Nat) (hg : GV W) (h1 : ReadsInt W .u8 A2 l.length l) (h2 : l.length ≤ c2) => get_came W hg A2 c2 l h1 h2 hby (by omega))
  have HRG := Lib.hid (fun W => rget_calls W l hby (by omega))
  have HHD := Lib.hid (And.intro (show headN l = 0 by unfold headN; rw [if_pos h9]) (show decide (9 ≤ l.length) = false by rw [decide_eq_false_iff_not]; omega))
  have b3 : decide ((9 : Int) ≤ (l.length : Int)) = false := by rw [decide_eq_false_iff_not]; omega
  clear hRR hlc hR hby hG h9
  generalize hGF : getFr l = G at HSL HGC HRG
  obtain ⟨F, s, cd⟩ := G
  dsimp only at HSL HGC HRG
  clear hGF
  go_enter Tryd.func5, Tryd.ntmps5
  go_wp2_with (at_builtin; refine list_append_row _ (by rfl) (.tmp 13) (.tmp 14) 35 (by rfl) w.heap.size 5 .u8 1 Tryd.underlying35 Tryd.infoB8 (by decide) (.slice (some ⟨w.heap.size, 0, none⟩) 0 0) [] l A l.length c (by rfl) (by rfl) HO hR1 (by simp) (by simp; omega) ?_; intro v1 w2 hown hgrow hat; simp only [List.nil_append] at hown; obtain ⟨A2, c2, rfl⟩ := own_slice hown; have H2 := Lib.hid (And.intro hown (And.intro hgrow hat)); clear hown hgrow hat HO hR1)
  have V := Aside0.mk (show Below w.heap.size w w2 from (below_alloc (Below.refl w.heap.size w) _).grown H2.out.2.1 (by simp) (fun k hk => by simp [Value.ownBlock] at hk; omega))
  have HOW := Aside0.mk H2.out.1
  clear H2
  go_wp2_with (first
    | (go_at_call 27; (refine (HGC.out _ _ _ (GV.below HGV.out V.out) (own_reads' HOW.out) (own_cap HOW.out)).mono ?_); have LV := Aside0.mk V.out.size; have LO := Aside0.mk (fun b h => own_lt HOW.out b h); rintro e_ w50_ ⟨⟨v_, rfl, hc_⟩, h_⟩; obtain ⟨Ap, cp, Bp, mp, rfl, hA_, hB_⟩ := hc_; have b_ := h_; have q0_ := Aside0.mk (pw_own_below HOW.out b_); have q1_ := Aside0.mk (V.out.trans (b_.mono V.out.size)); clear HOW; clear V; have HOW := q0_; have V := q1_; clear q0_ q1_; clear b_ h_; have HC := Aside0.mk (show FrCame _ F _ w50_ from ⟨Ap, cp, Bp, mp, rfl, hA_, hB_⟩); have U3 := Aside0.mk (Below.refl w50_.heap.size w50_); clear hA_ hB_)
    | (refine gate_alloc 4 rfl rfl ?_; refine make_ev rfl (cs := frC ⟨0, 0, 0, [], 0, 0, 0, 0, false, 0, []⟩ nilS nilS) (t := 38) (by first | (go_simp; done) | (go_simp; rfl)) ?_; intro gf hg_ w51_ k_ z_ b_; have Nf_own := Aside0.mk (show (Value.slice A2 l.length c2).ownBlock ≠ some gf from fun e => by have := own_lt HOW.out _ e; omega); have M3f := Aside0.mk (show w50_.heap.size ≤ gf by rw [hg_]; exact U3.out.size); have Mf := Aside0.mk (show w.heap.size ≤ gf by rw [hg_]; exact V.out.size); have q0_ := Aside0.mk (pw_own_below HOW.out b_); have q1_ := Aside0.mk (U3.out.trans (b_.mono U3.out.size)); have q2_ := Aside0.mk (V.out.trans (b_.mono V.out.size)); clear HOW; clear U3; clear V; have HOW := q0_; have U3 := q1_; have V := q2_; clear q0_ q1_ q2_; have Kf := Aside0.mk k_; clear hg_ k_ z_ b_)
    | (refine gate_alloc 5 rfl rfl ?_; refine make_ev rfl (cs := #[.int .u8 0, .int .u32 0]) (t := 24) (by first | (go_simp; done) | (go_simp; rfl)) ?_; intro gb hg_ w52_ k_ z_ b_; have Nf_b := Aside0.mk (show gf ≠ gb by rw [hg_]; exact Nat.ne_of_lt (blk_lt Kf.out)); have Nb_own := Aside0.mk (show (Value.slice A2 l.length c2).ownBlock ≠ some gb from fun e => by have := own_lt HOW.out _ e; omega); have M3b := Aside0.mk (show w50_.heap.size ≤ gb by rw [hg_]; exact U3.out.size); have Mb := Aside0.mk (show w.heap.size ≤ gb by rw [hg_]; exact V.out.size); have q0_ := Aside0.mk (blk_below Kf.out b_); have q1_ := Aside0.mk (pw_own_below HOW.out b_); have q2_ := Aside0.mk (U3.out.trans (b_.mono U3.out.size)); have q3_ := Aside0.mk (V.out.trans (b_.mono V.out.size)); clear Kf; clear HOW; clear U3; clear V; have Kf := q0_; have HOW := q1_; have U3 := q2_; have V := q3_; clear q0_ q1_ q2_ q3_; have Kb := Aside0.mk k_; clear hg_ k_ z_ b_)
    | (refine gate_stored (t := 38) (p := .tmp 4) rfl ?_; refine store_ev rfl rfl rfl (g := gf) (k := 0) (u := (.agg (frC F (.slice Ap F.data.length cp) (.slice Bp F.sets.length mp)))) (cs' := frC F (.slice Ap F.data.length cp) (.slice Bp F.sets.length mp)) rfl rfl Kf.out (by kernel_rfl) (Nat.le_of_ble_eq_true rfl) rfl rfl ?_; intro w53_ k_ o_; have q0_ := Aside0.mk (o_.blk Kb.out Nf_b.out.symm); have q1_ := Aside0.mk (k_); have q2_ := Aside0.mk (o_.wiped.own HOW.out (.inr Nf_own.out)); have q3_ := Aside0.mk (o_.below U3.out M3f.out); have q4_ := Aside0.mk (o_.below V.out Mf.out); clear Kb; clear Kf; clear HOW; clear U3; clear V; have Kb := q0_; have Kf := q1_; have HOW := q2_; have U3 := q3_; have V := q4_; clear q0_ q1_ q2_ q3_ q4_; clear k_ o_)
    | (refine gate_stored (t := 24) (p := .tmp 5) rfl ?_; refine store_ev rfl rfl rfl (g := gb) (k := 0) (u := (.agg #[.int .u8 s, .int .u32 cd])) (cs' := #[.int .u8 s, .int .u32 cd]) rfl rfl Kb.out (by kernel_rfl) (Nat.le_of_ble_eq_true rfl) rfl rfl ?_; intro w54_ k_ o_; have q0_ := Aside0.mk (o_.blk Kf.out Nf_b.out); have q1_ := Aside0.mk (k_); have q2_ := Aside0.mk (o_.wiped.own HOW.out (.inr Nb_own.out)); have q3_ := Aside0.mk (o_.below U3.out M3b.out); have q4_ := Aside0.mk (o_.below V.out Mb.out); clear Kf; clear Kb; clear HOW; clear U3; clear V; have Kf := q0_; have Kb := q1_; have HOW := q2_; have U3 := q3_; have V := q4_; clear q0_ q1_ q2_ q3_ q4_; clear k_ o_; have hc4_ := FrCame.below HC.out U3.out; obtain ⟨W5, hcl, hwp⟩ := clear_own _ w.heap.size 0 _ _ _ HOW.out; have q0_ := Aside0.mk (hwp.blk Kf.out Nf_own.out.symm); have q1_ := Aside0.mk (hwp.blk Kb.out Nb_own.out.symm); have q2_ := Aside0.mk (V.out.grown hwp.grown (by have := V.out.size; omega) (own_base HOW.out)); have q3_ := Aside0.mk (hc4_.wiped hwp LO.out); clear Kf Kb V HC HOW U3 hwp hc4_; have Kf := q0_; have Kb := q1_; have V := q2_; have HC := q3_; clear q0_ q1_ q2_ q3_; have cv := HCV.out W5 V.out; have U5 := Aside0.mk (Below.refl W5.heap.size W5))
    | (go_at_call 26; (refine (HRG.out _).mono ?_); rintro e_ w60_ hp_; obtain ⟨⟨Aq, cq, Bq, mq, rfl, hq_⟩, h_⟩ := RGetPost.of hp_; clear hp_; have b_ := h_; have q0_ := Aside0.mk (blk_below Kf.out b_); have q1_ := Aside0.mk (blk_below Kb.out b_); have q2_ := Aside0.mk (U5.out.trans (b_.mono U5.out.size)); have q3_ := Aside0.mk (V.out.trans (b_.mono V.out.size)); clear Kf; clear Kb; clear U5; clear V; have Kf := q0_; have Kb := q1_; have U5 := q2_; have V := q3_; clear q0_ q1_ q2_ q3_; clear b_ h_; have HQ := Aside0.mk hq_; have U6 := Aside0.mk (Below.refl w60_.heap.size w60_); clear hq_)
    | (refine gate_alloc 6 rfl rfl ?_; refine make_ev rfl (cs := fC ⟨0, 0, 0, [], 0, 0, 0, 0, false, 0, []⟩ nilS nilS 0 0) (t := 45) (by first | (go_simp; done) | (go_simp; rfl)) ?_; intro gx hg_ w61_ k_ z_ b_; have Nf_x := Aside0.mk (show gf ≠ gx by rw [hg_]; exact Nat.ne_of_lt (blk_lt Kf.out)); have Nb_x := Aside0.mk (show gb ≠ gx by rw [hg_]; exact Nat.ne_of_lt (blk_lt Kb.out)); have M5x := Aside0.mk (show W5.heap.size ≤ gx by rw [hg_]; exact U5.out.size); have M6x := Aside0.mk (show w60_.heap.size ≤ gx by rw [hg_]; exact U6.out.size); have Mx := Aside0.mk (show w.heap.size ≤ gx by rw [hg_]; exact V.out.size); have q0_ := Aside0.mk (blk_below Kf.out b_); have q1_ := Aside0.mk (blk_below Kb.out b_); have q2_ := Aside0.mk (U5.out.trans (b_.mono U5.out.size)); have q3_ := Aside0.mk (U6.out.trans (b_.mono U6.out.size)); have q4_ := Aside0.mk (V.out.trans (b_.mono V.out.size)); clear Kf; clear Kb; clear U5; clear U6; clear V; have Kf := q0_; have Kb := q1_; have U5 := q2_; have U6 := q3_; have V := q4_; clear q0_ q1_ q2_ q3_ q4_; have Kx := Aside0.mk k_; clear hg_ k_ z_ b_)
    | (refine gate_stored (t := 45) (p := .tmp 6) rfl ?_; refine store_ev rfl rfl rfl (g := gx) (k := 0) (u := (.agg (fC F (.slice Aq F.data.length cq) (.slice Bq F.sets.length mq) s cd))) (cs' := fC F (.slice Aq F.data.length cq) (.slice Bq F.sets.length mq) s cd) rfl rfl Kx.out (by kernel_rfl) (Nat.le_of_ble_eq_true rfl) rfl rfl ?_; intro w62_ k_ o_; have q0_ := Aside0.mk (o_.blk Kf.out Nf_x.out); have q1_ := Aside0.mk (o_.blk Kb.out Nb_x.out); have q2_ := Aside0.mk (k_); have q3_ := Aside0.mk (o_.below U5.out M5x.out); have q4_ := Aside0.mk (o_.below U6.out M6x.out); have q5_ := Aside0.mk (o_.below V.out Mx.out); clear Kf; clear Kb; clear Kx; clear U5; clear U6; clear V; have Kf := q0_; have Kb := q1_; have Kx := q2_; have U5 := q3_; have U6 := q4_; have V := q5_; clear q0_ q1_ q2_ q3_ q4_ q5_; clear k_ o_)
    | (go_at_call 25; (with_reducible refine (head_calls _ A c l HBY.out (HR.out.below V.out) HLC.out).mono ?_); rintro e_ w63_ ⟨rfl, h_⟩; have b_ := h_.below; have q0_ := Aside0.mk (blk_below Kf.out b_); have q1_ := Aside0.mk (blk_below Kb.out b_); have q2_ := Aside0.mk (blk_below Kx.out b_); have q3_ := Aside0.mk (U5.out.trans (b_.mono U5.out.size)); have q4_ := Aside0.mk (U6.out.trans (b_.mono U6.out.size)); have q5_ := Aside0.mk (V.out.trans (b_.mono V.out.size)); clear Kf; clear Kb; clear Kx; clear U5; clear U6; clear V; have Kf := q0_; have Kb := q1_; have Kx := q2_; have U5 := q3_; have U6 := q4_; have V := q5_; clear q0_ q1_ q2_ q3_ q4_ q5_; clear b_ h_; rw [HHD.out.1, HHD.out.2])
    | (go_at_call 20; (with_reducible refine (fixed_calls _).mono ?_); rintro e_ w64_ ⟨rfl, h_⟩; have b_ := h_; have q0_ := Aside0.mk (blk_below Kf.out b_); have q1_ := Aside0.mk (blk_below Kb.out b_); have q2_ := Aside0.mk (blk_below Kx.out b_); have q3_ := Aside0.mk (U5.out.trans (b_.mono U5.out.size)); have q4_ := Aside0.mk (U6.out.trans (b_.mono U6.out.size)); have q5_ := Aside0.mk (V.out.trans (b_.mono V.out.size)); clear Kf; clear Kb; clear Kx; clear U5; clear U6; clear V; have Kf := q0_; have Kb := q1_; have Kx := q2_; have U5 := q3_; have U6 := q4_; have V := q5_; clear q0_ q1_ q2_ q3_ q4_ q5_; clear b_ h_)
    | (refine gate_load (t := 38) 58 rfl rfl ?_; (try (refine gate_guard (by rfl) ?_; dsimp only)); refine load_ev rfl rfl rfl Kf.out Tryd.underlying38 rfl (by kernel_rfl) ?_)
    | (refine gate_load (t := 38) 60 rfl rfl ?_; (try (refine gate_guard (by rfl) ?_; dsimp only)); refine load_pre_ev rfl rfl rfl Kx.out (cs' := frC F (.slice Aq F.data.length cq) (.slice Bq F.sets.length mq)) rfl Tryd.underlying38 rfl (by kernel_rfl) ?_)
    | (go_at_call 28; have r1_ := (FrCame.below HC.out U5.out).rows; have r2_ := (FrCame.below HQ.out U6.out).rows; (refine (rsame_calls _ F Ap Aq Bp Bq cp cq mp mq r1_.1 r1_.2.1 r2_.1 r2_.2.1 r1_.2.2 r2_.2.2 HSL.out).mono ?_); clear r1_ r2_; rintro e_ w65_ ⟨rfl, h_⟩; have b_ := h_; have q0_ := Aside0.mk (blk_below Kf.out b_); have q1_ := Aside0.mk (blk_below Kb.out b_); have q2_ := Aside0.mk (blk_below Kx.out b_); have q3_ := Aside0.mk (U5.out.trans (b_.mono U5.out.size)); have q4_ := Aside0.mk (U6.out.trans (b_.mono U6.out.size)); have q5_ := Aside0.mk (V.out.trans (b_.mono V.out.size)); clear Kf; clear Kb; clear Kx; clear U5; clear U6; clear V; have Kf := q0_; have Kb := q1_; have Kx := q2_; have U5 := q3_; have U6 := q4_; have V := q5_; clear q0_ q1_ q2_ q3_ q4_ q5_; clear b_ h_)
    | (refine gate_load (t := 24) 64 rfl rfl ?_; (try (refine gate_guard (by rfl) ?_; dsimp only)); refine load_ev rfl rfl rfl Kb.out Tryd.underlying24 rfl (by kernel_rfl) ?_)
    | (refine gate_load (t := 5) 66 rfl rfl ?_; (try (refine gate_guard (by rfl) ?_; dsimp only)); refine loadf_ev rfl rfl rfl Kx.out rfl Tryd.underlying5 rfl ?_)
    | (refine gate_load (t := 22) 68 rfl rfl ?_; (try (refine gate_guard (by rfl) ?_; dsimp only)); refine loadf_ev rfl rfl rfl Kx.out rfl Tryd.underlying22 rfl ?_))
  exact HP.out _ _ ⟨rfl, V.out⟩
set_option maxHeartbeats 8000000 in
set_option maxRecDepth 100000 in
theorem frameGets_many (w : World) (A : Option Addr) (c : Nat) (l : List Int) (hl : l.length ≤ 20000) (hlc : l.length ≤ c) (hR : ReadsInt w .u8 A l.length l) (hby : Byte8 l) (hG : GV w) (h9 : 9 ≤ l.length) :
    Calls Tryd.prog 5 #[.slice A l.length c] w fun e w' => e = .returned (.bool true) ∧ Below w.heap.size w w' := by
  refine of_post0 fun R hRR => ?_
  have HP := Lib.hid hRR
  have b1 : decide ((20000 : Int) < (l.length : Int)) = false := by rw [decide_eq_false_iff_not]; omega
  have b2 : decide (20000 < l.length) = false := by rw [decide_eq_false_iff_not]; omega
  have HGV := Lib.hid hG
  have HBY := Lib.hid hby
  have HR := Lib.hid hR
  have HLC := Lib.hid hlc
  have HO := own_empty w w.heap.size 5 (Nat.le_refl _)
  have hR1 : ReadsInt (w.alloc (.cells #[] 5)) .u8 A l.length l := hR.below (below_alloc (Below.refl w.heap.size w) _)
  have HCV := Lib.hid (show ∀ W, Below w.heap.size w W → (convert 35 9 (.slice A l.length c)).run Tryd.prog W = .ok (.string (strOfNums l)) W from fun W hW => string_of_reads Tryd.underlying35 Tryd.underlying5 Tryd.underlying9 (hR.below hW))
  have HSL := Lib.hid (show (getFr l).1.sets.length ≤ 1000000 by have := getFr_sets l; omega)
  have HGC := Lib.hid (fun (W : World) (A2 : Option Addr) (c2 : Nat) (hg : GV W) (h1 : ReadsInt W .u8 A2 l.length l) (h2 : l.length ≤ c2) => get_came W hg A2 c2 l h1 h2 hby (by omega))
  have HRG := Lib.hid (fun W => rget_calls W l hby (by omega))
  have hl3 : (l.take 3).length = 3 := by rw [List.length_take]; omega
  have hb3 : Byte8 (l.take 3) := fun x hx => hby x (List.mem_of_mem_take hx)
  have HV := Lib.hid (fun W => value_ref_calls W (l.take 3) (by omega) hb3)
  have hv3 := valL_bound hb3
  rw [hl3, show (256 : Int) ^ 3 = 16777216 from rfl] at hv3
  have hw3 : IntKind.i64.wrap (valL (l.take 3)) = valL (l.take 3) := by simp [IntKind.wrap, IntKind.bits, IntKind.signed]; omega
  have hw4 : IntKind.i64.wrap (9 + valL (l.take 3)) = 9 + valL (l.take 3) := by simp [IntKind.wrap, IntKind.bits, IntKind.signed]; omega
  have HHD := Lib.hid (And.intro (show headN l = 9 + valL (l.take 3) by unfold headN; rw [if_neg (by omega)]) (show decide (9 ≤ l.length) = true by rw [decide_eq_true_iff]; omega))
  have b3 : decide ((9 : Int) ≤ (l.length : Int)) = true := by rw [decide_eq_true_iff]; omega
  have b4 : (3 : Int) ≤ (l.length : Int) := by omega
  obtain ⟨i0, hi, _, hsz, _⟩ := info_parts Tryd.infoB8
  obtain ⟨hcut3, hr3, hm3⟩ := print_take_int (P := Tryd.prog) (k := .u8) 35 5 Tryd.underlying35 hi hsz A c l 3 (by decide) (by omega) hlc
  rw [show (3 : Int).toNat = 3 from rfl] at hcut3 hr3 hm3
  have HR3 := Lib.hid hr3
  clear hi hsz hr3 hm3 hl3 hb3 hv3
  generalize valL (l.take 3) = v3 at HV hw3 hw4 HHD
  generalize l.take 3 = l3 at HV hcut3 HR3
  clear hRR hlc hR hby hG h9
  generalize hGF : getFr l = G at HSL HGC HRG
  obtain ⟨F, s, cd⟩ := G
  dsimp only at HSL HGC HRG
  clear hGF
  go_enter Tryd.func5, Tryd.ntmps5
  go_wp2_with (at_builtin; refine list_append_row _ (by rfl) (.tmp 13) (.tmp 14) 35 (by rfl) w.heap.size 5 .u8 1 Tryd.underlying35 Tryd.infoB8 (by decide) (.slice (some ⟨w.heap.size, 0, none⟩) 0 0) [] l A l.length c (by rfl) (by rfl) HO hR1 (by simp) (by simp; omega) ?_; intro v1 w2 hown hgrow hat; simp only [List.nil_append] at hown; obtain ⟨A2, c2, rfl⟩ := own_slice hown; have H2 := Lib.hid (And.intro hown (And.intro hgrow hat)); clear hown hgrow hat HO hR1)
  have V := Aside0.mk (show Below w.heap.size w w2 from (below_alloc (Below.refl w.heap.size w) _).grown H2.out.2.1 (by simp) (fun k hk => by simp [Value.ownBlock] at hk; omega))
  have HOW := Aside0.mk H2.out.1
  clear H2
  go_wp2_with (first
    | (go_at_call 27; (refine (HGC.out _ _ _ (GV.below HGV.out V.out) (own_reads' HOW.out) (own_cap HOW.out)).mono ?_); have LV := Aside0.mk V.out.size; have LO := Aside0.mk (fun b h => own_lt HOW.out b h); rintro e_ w50_ ⟨⟨v_, rfl, hc_⟩, h_⟩; obtain ⟨Ap, cp, Bp, mp, rfl, hA_, hB_⟩ := hc_; have b_ := h_; have q0_ := Aside0.mk (pw_own_below HOW.out b_); have q1_ := Aside0.mk (V.out.trans (b_.mono V.out.size)); clear HOW; clear V; have HOW := q0_; have V := q1_; clear q0_ q1_; clear b_ h_; have HC := Aside0.mk (show FrCame _ F _ w50_ from ⟨Ap, cp, Bp, mp, rfl, hA_, hB_⟩); have U3 := Aside0.mk (Below.refl w50_.heap.size w50_); clear hA_ hB_)
    | (refine gate_alloc 4 rfl rfl ?_; refine make_ev rfl (cs := frC ⟨0, 0, 0, [], 0, 0, 0, 0, false, 0, []⟩ nilS nilS) (t := 38) (by first | (go_simp; done) | (go_simp; rfl)) ?_; intro gf hg_ w51_ k_ z_ b_; have Nf_own := Aside0.mk (show (Value.slice A2 l.length c2).ownBlock ≠ some gf from fun e => by have := own_lt HOW.out _ e; omega); have M3f := Aside0.mk (show w50_.heap.size ≤ gf by rw [hg_]; exact U3.out.size); have Mf := Aside0.mk (show w.heap.size ≤ gf by rw [hg_]; exact V.out.size); have q0_ := Aside0.mk (pw_own_below HOW.out b_); have q1_ := Aside0.mk (U3.out.trans (b_.mono U3.out.size)); have q2_ := Aside0.mk (V.out.trans (b_.mono V.out.size)); clear HOW; clear U3; clear V; have HOW := q0_; have U3 := q1_; have V := q2_; clear q0_ q1_ q2_; have Kf := Aside0.mk k_; clear hg_ k_ z_ b_)
    | (refine gate_alloc 5 rfl rfl ?_; refine make_ev rfl (cs := #[.int .u8 0, .int .u32 0]) (t := 24) (by first | (go_simp; done) | (go_simp; rfl)) ?_; intro gb hg_ w52_ k_ z_ b_; have Nf_b := Aside0.mk (show gf ≠ gb by rw [hg_]; exact Nat.ne_of_lt (blk_lt Kf.out)); have Nb_own := Aside0.mk (show (Value.slice A2 l.length c2).ownBlock ≠ some gb from fun e => by have := own_lt HOW.out _ e; omega); have M3b := Aside0.mk (show w50_.heap.size ≤ gb by rw [hg_]; exact U3.out.size); have Mb := Aside0.mk (show w.heap.size ≤ gb by rw [hg_]; exact V.out.size); have q0_ := Aside0.mk (blk_below Kf.out b_); have q1_ := Aside0.mk (pw_own_below HOW.out b_); have q2_ := Aside0.mk (U3.out.trans (b_.mono U3.out.size)); have q3_ := Aside0.mk (V.out.trans (b_.mono V.out.size)); clear Kf; clear HOW; clear U3; clear V; have Kf := q0_; have HOW := q1_; have U3 := q2_; have V := q3_; clear q0_ q1_ q2_ q3_; have Kb := Aside0.mk k_; clear hg_ k_ z_ b_)
    | (refine gate_stored (t := 38) (p := .tmp 4) rfl ?_; refine store_ev rfl rfl rfl (g := gf) (k := 0) (u := (.agg (frC F (.slice Ap F.data.length cp) (.slice Bp F.sets.length mp)))) (cs' := frC F (.slice Ap F.data.length cp) (.slice Bp F.sets.length mp)) rfl rfl Kf.out (by kernel_rfl) (Nat.le_of_ble_eq_true rfl) rfl rfl ?_; intro w53_ k_ o_; have q0_ := Aside0.mk (o_.blk Kb.out Nf_b.out.symm); have q1_ := Aside0.mk (k_); have q2_ := Aside0.mk (o_.wiped.own HOW.out (.inr Nf_own.out)); have q3_ := Aside0.mk (o_.below U3.out M3f.out); have q4_ := Aside0.mk (o_.below V.out Mf.out); clear Kb; clear Kf; clear HOW; clear U3; clear V; have Kb := q0_; have Kf := q1_; have HOW := q2_; have U3 := q3_; have V := q4_; clear q0_ q1_ q2_ q3_ q4_; clear k_ o_)
    | (refine gate_stored (t := 24) (p := .tmp 5) rfl ?_; refine store_ev rfl rfl rfl (g := gb) (k := 0) (u := (.agg #[.int .u8 s, .int .u32 cd])) (cs' := #[.int .u8 s, .int .u32 cd]) rfl rfl Kb.out (by kernel_rfl) (Nat.le_of_ble_eq_true rfl) rfl rfl ?_; intro w54_ k_ o_; have q0_ := Aside0.mk (o_.blk Kf.out Nf_b.out); have q1_ := Aside0.mk (k_); have q2_ := Aside0.mk (o_.wiped.own HOW.out (.inr Nb_own.out)); have q3_ := Aside0.mk (o_.below U3.out M3b.out); have q4_ := Aside0.mk (o_.below V.out Mb.out); clear Kf; clear Kb; clear HOW; clear U3; clear V; have Kf := q0_; have Kb := q1_; have HOW := q2_; have U3 := q3_; have V := q4_; clear q0_ q1_ q2_ q3_ q4_; clear k_ o_; have hc4_ := FrCame.below HC.out U3.out; obtain ⟨W5, hcl, hwp⟩ := clear_own _ w.heap.size 0 _ _ _ HOW.out; have q0_ := Aside0.mk (hwp.blk Kf.out Nf_own.out.symm); have q1_ := Aside0.mk (hwp.blk Kb.out Nb_own.out.symm); have q2_ := Aside0.mk (V.out.grown hwp.grown (by have := V.out.size; omega) (own_base HOW.out)); have q3_ := Aside0.mk (hc4_.wiped hwp LO.out); clear Kf Kb V HC HOW U3 hwp hc4_; have Kf := q0_; have Kb := q1_; have V := q2_; have HC := q3_; clear q0_ q1_ q2_ q3_; have cv := HCV.out W5 V.out; have U5 := Aside0.mk (Below.refl W5.heap.size W5))
    | (go_at_call 26; (refine (HRG.out _).mono ?_); rintro e_ w60_ hp_; obtain ⟨⟨Aq, cq, Bq, mq, rfl, hq_⟩, h_⟩ := RGetPost.of hp_; clear hp_; have b_ := h_; have q0_ := Aside0.mk (blk_below Kf.out b_); have q1_ := Aside0.mk (blk_below Kb.out b_); have q2_ := Aside0.mk (U5.out.trans (b_.mono U5.out.size)); have q3_ := Aside0.mk (V.out.trans (b_.mono V.out.size)); clear Kf; clear Kb; clear U5; clear V; have Kf := q0_; have Kb := q1_; have U5 := q2_; have V := q3_; clear q0_ q1_ q2_ q3_; clear b_ h_; have HQ := Aside0.mk hq_; have U6 := Aside0.mk (Below.refl w60_.heap.size w60_); clear hq_)
    | (refine gate_alloc 6 rfl rfl ?_; refine make_ev rfl (cs := fC ⟨0, 0, 0, [], 0, 0, 0, 0, false, 0, []⟩ nilS nilS 0 0) (t := 45) (by first | (go_simp; done) | (go_simp; rfl)) ?_; intro gx hg_ w61_ k_ z_ b_; have Nf_x := Aside0.mk (show gf ≠ gx by rw [hg_]; exact Nat.ne_of_lt (blk_lt Kf.out)); have Nb_x := Aside0.mk (show gb ≠ gx by rw [hg_]; exact Nat.ne_of_lt (blk_lt Kb.out)); have M5x := Aside0.mk (show W5.heap.size ≤ gx by rw [hg_]; exact U5.out.size); have M6x := Aside0.mk (show w60_.heap.size ≤ gx by rw [hg_]; exact U6.out.size); have Mx := Aside0.mk (show w.heap.size ≤ gx by rw [hg_]; exact V.out.size); have q0_ := Aside0.mk (blk_below Kf.out b_); have q1_ := Aside0.mk (blk_below Kb.out b_); have q2_ := Aside0.mk (U5.out.trans (b_.mono U5.out.size)); have q3_ := Aside0.mk (U6.out.trans (b_.mono U6.out.size)); have q4_ := Aside0.mk (V.out.trans (b_.mono V.out.size)); clear Kf; clear Kb; clear U5; clear U6; clear V; have Kf := q0_; have Kb := q1_; have U5 := q2_; have U6 := q3_; have V := q4_; clear q0_ q1_ q2_ q3_ q4_; have Kx := Aside0.mk k_; clear hg_ k_ z_ b_)
    | (refine gate_stored (t := 45) (p := .tmp 6) rfl ?_; refine store_ev rfl rfl rfl (g := gx) (k := 0) (u := (.agg (fC F (.slice Aq F.data.length cq) (.slice Bq F.sets.length mq) s cd))) (cs' := fC F (.slice Aq F.data.length cq) (.slice Bq F.sets.length mq) s cd) rfl rfl Kx.out (by kernel_rfl) (Nat.le_of_ble_eq_true rfl) rfl rfl ?_; intro w62_ k_ o_; have q0_ := Aside0.mk (o_.blk Kf.out Nf_x.out); have q1_ := Aside0.mk (o_.blk Kb.out Nb_x.out); have q2_ := Aside0.mk (k_); have q3_ := Aside0.mk (o_.below U5.out M5x.out); have q4_ := Aside0.mk (o_.below U6.out M6x.out); have q5_ := Aside0.mk (o_.below V.out Mx.out); clear Kf; clear Kb; clear Kx; clear U5; clear U6; clear V; have Kf := q0_; have Kb := q1_; have Kx := q2_; have U5 := q3_; have U6 := q4_; have V := q5_; clear q0_ q1_ q2_ q3_ q4_ q5_; clear k_ o_)
    | (go_at_call 25; (with_reducible refine (head_calls _ A c l HBY.out (HR.out.below V.out) HLC.out).mono ?_); rintro e_ w63_ ⟨rfl, h_⟩; have b_ := h_.below; have q0_ := Aside0.mk (blk_below Kf.out b_); have q1_ := Aside0.mk (blk_below Kb.out b_); have q2_ := Aside0.mk (blk_below Kx.out b_); have q3_ := Aside0.mk (U5.out.trans (b_.mono U5.out.size)); have q4_ := Aside0.mk (U6.out.trans (b_.mono U6.out.size)); have q5_ := Aside0.mk (V.out.trans (b_.mono V.out.size)); clear Kf; clear Kb; clear Kx; clear U5; clear U6; clear V; have Kf := q0_; have Kb := q1_; have Kx := q2_; have U5 := q3_; have U6 := q4_; have V := q5_; clear q0_ q1_ q2_ q3_ q4_ q5_; clear b_ h_; rw [HHD.out.1, HHD.out.2]; have cv3 := string_of_reads (c := c) Tryd.underlying35 Tryd.underlying5 Tryd.underlying9 (HR3.out _ (HR.out.below V.out)))
    | (go_at_call 29; (with_reducible refine (HV.out _).mono ?_); rintro e_ w64_ ⟨rfl, h_⟩; have b_ := h_.below; have q0_ := Aside0.mk (blk_below Kf.out b_); have q1_ := Aside0.mk (blk_below Kb.out b_); have q2_ := Aside0.mk (blk_below Kx.out b_); have q3_ := Aside0.mk (U5.out.trans (b_.mono U5.out.size)); have q4_ := Aside0.mk (U6.out.trans (b_.mono U6.out.size)); have q5_ := Aside0.mk (V.out.trans (b_.mono V.out.size)); clear Kf; clear Kb; clear Kx; clear U5; clear U6; clear V; have Kf := q0_; have Kb := q1_; have Kx := q2_; have U5 := q3_; have U6 := q4_; have V := q5_; clear q0_ q1_ q2_ q3_ q4_ q5_; clear b_ h_)
    | (go_at_call 20; (with_reducible refine (fixed_calls _).mono ?_); rintro e_ w65_ ⟨rfl, h_⟩; have b_ := h_; have q0_ := Aside0.mk (blk_below Kf.out b_); have q1_ := Aside0.mk (blk_below Kb.out b_); have q2_ := Aside0.mk (blk_below Kx.out b_); have q3_ := Aside0.mk (U5.out.trans (b_.mono U5.out.size)); have q4_ := Aside0.mk (U6.out.trans (b_.mono U6.out.size)); have q5_ := Aside0.mk (V.out.trans (b_.mono V.out.size)); clear Kf; clear Kb; clear Kx; clear U5; clear U6; clear V; have Kf := q0_; have Kb := q1_; have Kx := q2_; have U5 := q3_; have U6 := q4_; have V := q5_; clear q0_ q1_ q2_ q3_ q4_ q5_; clear b_ h_)
    | (refine gate_load (t := 38) 58 rfl rfl ?_; (try (refine gate_guard (by rfl) ?_; dsimp only)); refine load_ev rfl rfl rfl Kf.out Tryd.underlying38 rfl (by kernel_rfl) ?_)
    | (refine gate_load (t := 38) 60 rfl rfl ?_; (try (refine gate_guard (by rfl) ?_; dsimp only)); refine load_pre_ev rfl rfl rfl Kx.out (cs' := frC F (.slice Aq F.data.length cq) (.slice Bq F.sets.length mq)) rfl Tryd.underlying38 rfl (by kernel_rfl) ?_)
    | (go_at_call 28; have r1_ := (FrCame.below HC.out U5.out).rows; have r2_ := (FrCame.below HQ.out U6.out).rows; (refine (rsame_calls _ F Ap Aq Bp Bq cp cq mp mq r1_.1 r1_.2.1 r2_.1 r2_.2.1 r1_.2.2 r2_.2.2 HSL.out).mono ?_); clear r1_ r2_; rintro e_ w66_ ⟨rfl, h_⟩; have b_ := h_; have q0_ := Aside0.mk (blk_below Kf.out b_); have q1_ := Aside0.mk (blk_below Kb.out b_); have q2_ := Aside0.mk (blk_below Kx.out b_); have q3_ := Aside0.mk (U5.out.trans (b_.mono U5.out.size)); have q4_ := Aside0.mk (U6.out.trans (b_.mono U6.out.size)); have q5_ := Aside0.mk (V.out.trans (b_.mono V.out.size)); clear Kf; clear Kb; clear Kx; clear U5; clear U6; clear V; have Kf := q0_; have Kb := q1_; have Kx := q2_; have U5 := q3_; have U6 := q4_; have V := q5_; clear q0_ q1_ q2_ q3_ q4_ q5_; clear b_ h_)
    | (refine gate_load (t := 24) 64 rfl rfl ?_; (try (refine gate_guard (by rfl) ?_; dsimp only)); refine load_ev rfl rfl rfl Kb.out Tryd.underlying24 rfl (by kernel_rfl) ?_)
    | (refine gate_load (t := 5) 66 rfl rfl ?_; (try (refine gate_guard (by rfl) ?_; dsimp only)); refine loadf_ev rfl rfl rfl Kx.out rfl Tryd.underlying5 rfl ?_)
    | (refine gate_load (t := 22) 68 rfl rfl ?_; (try (refine gate_guard (by rfl) ?_; dsimp only)); refine loadf_ev rfl rfl rfl Kx.out rfl Tryd.underlying22 rfl ?_))
  exact HP.out _ _ ⟨rfl, V.out⟩
theorem frameGets_walk (A : Option Addr) (l : List Int) (c : Nat) (W : World) (hc : l.length ≤ c) (hR : ReadsInt W .u8 A l.length l) (hb : Byte8 l) (hG : GV W) :
    Calls Tryd.prog 5 #[.slice A l.length c] W fun e w' => e = .returned (.bool true) ∧ Below W.heap.size W w' := by
  by_cases hl : 20000 < l.length
  · exact frameGets_great W A c l hl
  · by_cases h9 : l.length < 9
    · exact frameGets_few W A c l (by omega) hc hR hb hG h9
    · exact frameGets_many W A c l (by omega) hc hR hb hG (by omega)
end Go.Proofs.YtjjfkmniffbgkaaDoor

/- A row of bytes that came in, opened. -/
namespace Go.Proofs.YtjjfkmniffbgkaaDoor
set_option linter.unusedVariables false
set_option linter.unusedSimpArgs false
open Go.RowKit Go.ChangeShapes Go.WideShapes Go.Deep Go.Joins Go.Proofs.YtjjfkmniffbgkaaDoorW.PrintWords
set_option maxRecDepth 100000 in
theorem open_bytes_arg {H : Type} {enc : TypeId × Value → H} {W : World} {b0 : Nat} {v : Value} {d : DataW H} {p : List MemPlace} (hv : Value.okWide Tryd.prog W .any b0 35 v)
    (h : DataW.Trod enc Tryd.prog W 0 (fun _ => true) true 35 v d p) : ∃ (A : Option Addr) (l : List Int) (c : Nat), v = .slice A l.length c ∧ ReadsInt W .u8 A l.length l ∧ l.length ≤ c ∧ ∀ x ∈ l, 0 ≤ x ∧ x ≤ 255 := by
  obtain ⟨A, n, cap, rfl⟩ := okWide_slice Tryd.underlying35 hv
  obtain ⟨fuel, hf⟩ := h
  have e1 : Tryd.prog.cellsOf 5 = 1 := by kernel_rfl
  have wf8 : ∀ {n : Int}, (Lit.int .u8 n).wf = true → 0 ≤ n ∧ n ≤ 255 := fun h => by simp [Lit.wf, IntKind.min, IntKind.max, IntKind.signed, IntKind.bits] at h; omega
  rcases open_ints Tryd.underlying35 Tryd.underlying5 e1 hf with ⟨hc, _⟩ | ⟨a, len, cap', zs, hc, _, g1, g2, g3, _, g4, g5⟩
  · simp [Value.cells] at hc
    obtain ⟨rfl, rfl, rfl⟩ := hc
    obtain ⟨l, hl1, hr, hm, hw, hcc⟩ := ReadsInt.ofRowC (w := W) (k := .u8) (a := none) (len := 0) (cap := 0) (zs := []) (.inl ⟨rfl, rfl, rfl, rfl⟩)
    exact ⟨none, l, 0, by rw [← hl1], hr, hcc, fun x hx => wf8 (hw x hx)⟩
  · simp [Value.cells] at hc
    obtain ⟨rfl, rfl, rfl⟩ := hc
    obtain ⟨l, hl1, hr, hm, hw, hcc⟩ := ReadsInt.ofRowC (.inr ⟨a, rfl, g1, g2, by simpa using g3, g4, g5⟩)
    exact ⟨some a, l, cap, by rw [← hl1], hr, hcc, fun x hx => wf8 (hw x hx)⟩

end Go.Proofs.YtjjfkmniffbgkaaDoor

/- From the row's list to the cell of errors.errorType; bounds of numbers that came in. -/
namespace Go.Proofs.YtjjfkmniffbgkaaDoor
set_option linter.unusedVariables false
set_option linter.unusedSimpArgs false
open Go.RowKit
theorem Tryd.et : Tryd.prog.globalNamed "errors.errorType" = some 1 := by kernel_rfl
theorem Tryd.rt : (Tryd.prog.cutTypes.find? (·.1 == "internal/reflectlite.rtype")).map (·.2) = some 130 := by kernel_rfl
theorem Tryd.oneRow : ((List.range 182).filter fun t => Tryd.prog.rowNamed t [101, 114, 114, 111, 114]) = [28] := by kernel_rfl
theorem Tryd.sizeT : Tryd.prog.types.size = 182 := by kernel_rfl
theorem gv_of_laid {W : World} (h : laidMetH Tryd.prog [("errors.errorType", Rows.laid_errors_errorType)] W) : GV W := by
  have h' : laidMet Tryd.prog [] W ∧ handlesMet Tryd.prog [("errors.errorType", Rows.laid_errors_errorType)] W := h
  obtain ⟨name, u, ty, e1, e2, e3, e4, e5⟩ := h'.2 _ (List.mem_singleton.2 rfl)
  have en : name = [101, 114, 114, 111, 114] := (Option.some.inj e1).symm
  subst en
  obtain rfl := Option.some.inj (Tryd.rt.symm.trans e2)
  have hm : ty ∈ (List.range 182).filter fun t => Tryd.prog.rowNamed t [101, 114, 114, 111, 114] := List.mem_filter.2 ⟨List.mem_range.2 (by rw [← Tryd.sizeT]; exact e3), e4⟩
  rw [Tryd.oneRow] at hm
  obtain rfl := List.mem_singleton.1 hm
  have hh : typeHandle Tryd.prog 28 = hOf 28 := by kernel_rfl
  rw [hh] at e5
  unfold GV
  simpa using World.var?_cell Tryd.et e5 0
theorem u8_ge {n : Int} (h : (Lit.int .u8 n).wf = true) : 0 ≤ n := by simp [Lit.wf, IntKind.min, IntKind.max, IntKind.signed, IntKind.bits] at h; omega
theorem u8_le {n : Int} (h : (Lit.int .u8 n).wf = true) : n ≤ 255 := by simp [Lit.wf, IntKind.min, IntKind.max, IntKind.signed, IntKind.bits] at h; omega
theorem u32_ge {n : Int} (h : (Lit.int .u32 n).wf = true) : 0 ≤ n := by simp [Lit.wf, IntKind.min, IntKind.max, IntKind.signed, IntKind.bits] at h; omega
theorem u32_le {n : Int} (h : (Lit.int .u32 n).wf = true) : n ≤ 4294967295 := by simp [Lit.wf, IntKind.min, IntKind.max, IntKind.signed, IntKind.bits] at h; omega
end Go.Proofs.YtjjfkmniffbgkaaDoor

/- The statement of louver/louverlaw07.FrameGets: for every input it returns true, and each argument reads behind the call as it read before; no other condition than the row's own. -/
namespace Go.Proofs.YtjjfkmniffbgkaaDoor.frameGets
set_option linter.unusedVariables false
set_option linter.unusedSimpArgs false
open Go.ChangeShapes Go.WideShapes Go.ChangeAt Go.RowKit
open Go.ChangeMaps (open_string shut_string)
set_option linter.unusedVariables false
theorem own : ownKnob Tryd.prog.godebug = none := by kernel_rfl
theorem laidOut : laidOutB Tryd.prog = true := by kernel_rfl
set_option maxRecDepth 100000 in
theorem contract (H : Type) (enc : TypeId × Value → H) (W : World) (base : Nat) (args : Array Value) (ds gs : List (DataW H)) (before : List MemPlace)
    (hval : ∀ (j : Nat) t v, Tryd.f5.params[j]? = some t → args[j]? = some v → Value.okWide Tryd.prog W .any base t v)
    (hW : DataW.Whole enc Tryd.prog Tryd.f5.params.toList Rows.frameGetsSpec.vars false W args.toList ds gs before)
    (hsz : (DataW.weightsEach Tryd.prog (Tryd.f5.params.toList ++ Rows.frameGetsSpec.plain.varTypes Tryd.prog) (ds ++ gs)).all (· ≤ reachBytes) = true)
    (hL : laidMetH Tryd.prog Rows.frameGetsRow.laid W) (hS : W.ShapedOpen Tryd.prog) :
    Calls Tryd.prog 5 args W fun e W' => ∃ v, e = .returned v ∧ Rows.frameGetsSpec.post enc Tryd.prog Tryd.f5 false true false false W args v W' := by
  have hW' := hW
  obtain ⟨p, q, hA0, hV, rfl, hfz, hnd⟩ := hW
  have hA : DataW.TrodAll enc Tryd.prog W 0 (fun _ => true) true Tryd.f5.params.toList args.toList ds p := hA0
  rw [Tryd.params5] at hA hval hsz
  obtain ⟨v0, vs0, d0, ds0, p0, q0, hargs, rfl, rfl, h0, r0⟩ := trodAll_cons hA
  obtain ⟨rfl, rfl, rfl⟩ := trodAll_nil r0
  obtain rfl : args = #[v0] := by cases args; simp_all
  obtain ⟨rfl, rfl⟩ := trodVars_none hV
  have k0 := h0
  have ok0 := (hval 0 35 v0 rfl rfl)
  have lt0 : ∀ x ∈ p0, x.block < W.heap.size := by obtain ⟨m, hm⟩ := k0; exact DataW.trod_lt m _ _ _ hm
  obtain ⟨A0, l0, c0, rfl, hR0, hc0, hb0⟩ := open_bytes_arg ok0 h0
  clear hA0 hval
  refine (frameGets_walk A0 l0 c0 W hc0 hR0 hb0 (gv_of_laid hL)).mono fun e W' ⟨he, bel⟩ => ?_
  subst he
  exact ⟨_, rfl, _, _, _, [], _, [], hW', trodAll_mk1 (shut_bool Tryd.underlying4 _), (trodAll_cons_mk (Below.trod laidOut (by kernel_rfl) (of_decide_eq_true (by kernel_rfl)) k0 bel lt0) trodAll_mk0), rfl, bel.frame _, fun h => by cases h⟩
noncomputable def laidWorld (os : Os) : World :=
  { World.holding Tryd.prog os ⟨#[], #[], []⟩ with heap := (World.holding Tryd.prog os ⟨#[], #[], []⟩).heap.modify 1 fun
      | .cells _ t frozen => .cells #[.iface 130 (.agg #[.pointer (some ⟨5, 28, none⟩)])] t frozen
      | o => o }
set_option maxRecDepth 100000 in
theorem laid_met (os : Os) (args : Array Value) : laidMetH Tryd.prog Rows.frameGetsRow.laid ((laidWorld os).forCall (fun _ _ => 0) ⟨#[], args, []⟩).memory := laidMetH_of_parts (laidMet_nil _ _) (by kernel_rfl)
set_option maxRecDepth 100000 in
theorem lifted (os : Os) (started : os.Started) (H : Type) (enc : TypeId × Value → H) (F : Stop.Interp) :
    ReturnsInHanded {} Tryd.checked os 5 .any ((OpenSpec.ofChange Rows.frameGetsSpec).preRow enc Tryd.prog Tryd.f5 Rows.frameGetsRow.domain false Rows.frameGetsRow.laid) (((OpenSpec.ofChange Rows.frameGetsSpec).at F).post enc Tryd.prog Tryd.f5 false true false false) := by
  refine returnsInHanded_of_row (C := Tryd.checked) (s := (OpenSpec.ofChange Rows.frameGetsSpec)) own started (by kernel_rfl) Tryd.func5
    (witness_row_at (enc := enc) (C := Tryd.checked) false (laidWorld os) #[.slice none 0 0] rfl (by kernel_rfl) (by kernel_rfl) (by kernel_rfl)
      (OpenSpec.preRow_of_cond 8 (x := ([.nil], [], [])) (by kernel_rfl) (by kernel_rfl) (fun k hk => by cases hk) (by kernel_rfl) (laid_met os _))) ?_
  intro W base args ds gs before hval hW _ hcond hsz hL hS _
  exact contract H enc W base args ds gs before hval hW hsz hL hS
theorem said : Rows.FrameGetsSaid :=
  OpenClaim.holds_of_cond 5 Tryd.f5 rfl rfl rfl rfl rfl rfl rfl ⟨rfl, rfl, rfl, rfl, rfl⟩ rfl rfl rfl rfl rfl (by kernel_rfl) Tryd.func5 (by kernel_rfl)
    (of_decide_eq_true (by kernel_rfl)) (by unfold Func.isWrapper; first | (rw [if_pos (by decide +kernel)]; kernel_rfl) | (rw [if_neg (by decide +kernel)]; exact ⟨rfl, rfl⟩))
    (fun os started H enc _ F => by rw [OpenClaim.pre_eq_preRow]; exact lifted os started H enc F)
theorem plain (f : FuncId) (fn : Func) (hf : Tryd.pinned.checked.prog.funcNamed "louver/louverlaw07.FrameGets" = some f) (hfn : Tryd.pinned.checked.prog.funcs[f]? = some fn) :
    true = Tryd.pinned.checked.prog.looks [] ∧ ∀ (j : Nat) t, fn.params[j]? = some t → Tryd.pinned.checked.prog.wantsStandIn t = false := by
  obtain rfl : f = 5 := Option.some.inj ((show Tryd.prog.funcNamed "louver/louverlaw07.FrameGets" = some 5 by kernel_rfl).symm.trans hf) |>.symm
  obtain rfl : fn = Tryd.f5 := (Option.some.inj (Tryd.func5.symm.trans hfn)).symm
  refine ⟨by kernel_rfl, fun j t ht => ?_⟩
  rw [Tryd.params5] at ht
  have hm := Array.mem_of_getElem? ht
  have hall : ∀ t ∈ #[35], Tryd.prog.wantsStandIn t = false := by intro t h; simp only [List.mem_toArray, List.mem_cons, List.not_mem_nil, or_false] at h; rcases h with rfl <;> kernel_rfl
  exact hall t hm
theorem card : Rows.FrameGetsCardSaid :=
  Claim7.holds_tied_plain_at .later [] _ _ _ _ said (fun _ h => by cases h) (by kernel_rfl) (fun _ h => by cases h) frameGets_row_tie rfl ⟨rfl, rfl⟩ (by kernel_rfl) rfl plain (by kernel_rfl)
#print axioms card
end Go.Proofs.YtjjfkmniffbgkaaDoor.frameGets
