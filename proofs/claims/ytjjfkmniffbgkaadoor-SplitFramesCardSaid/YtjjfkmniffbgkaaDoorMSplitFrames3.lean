/- Texts of this claim, put together: Frm9, Frm10, Frm11, Frm12, Frm13, Frm14, Frm15. -/
import Derived.Test.YtjjfkmniffbgkaaDoorMSplitFrames2
import Derived.Test.YtjjfkmniffbgkaaDoorMSplitFrames0
/- frame.read: windows; data that are copied. -/
namespace Go.Proofs.YtjjfkmniffbgkaaDoor
set_option linter.unusedVariables false
set_option linter.unusedSimpArgs false
open Go.RowKit Go.Proofs.YtjjfkmniffbgkaaDoorW.PrintWords Go.Proofs.YtjjfkmniffbgkaaDoorW.PrintLast Go.Proofs.YtjjfkmniffbgkaaDoorW.PrintMore Go.Proofs.YtjjfkmniffbgkaaDoor.QFrmA Go.Extern.Stop Go.Stop Go.Extern Go.Maps
theorem window_good (w : World) (F : Fr) (D S : Value) (h1 : 0 < F.win) : Calls Tryd.prog 81 #[.agg (frC F D S)] w fun ev w' => ev = .returned .nilIface ∧ Below w.heap.size w w' := by
 refine of_post0 fun R hRR => ?_
 have HP := Lib.hid hRR
 have b1 : decide (0 < F.win) = true := by rw [decide_eq_true_iff]; exact h1
 clear hRR h1
 go_enter Tryd.func81, Tryd.ntmps81
 go_wp2_with fail
 exact HP.out _ _ ⟨rfl, below_alloc (Below.refl _ _) _⟩
theorem window_bad (w : World) (F : Fr) (D S : Value) (h1 : ¬ 0 < F.win) : Calls Tryd.prog 81 #[.agg (frC F D S)] w fun ev w' => ∃ v n, ev = .returned v ∧ Below w.heap.size w w' ∧ Err w' n v (if F.st > 0 then 2 else 1) 1 := by
 refine (window_calls w F D S).mono ?_
 rintro e w' ⟨v, rfl, hb, hE⟩
 have e1 : winS F = if F.st > 0 then 2 else 1 := by unfold winS; rw [if_neg h1]
 have e2 : winC F = 1 := by unfold winC; rw [if_neg h1]
 rw [e1, e2] at hE
 rcases hE with ⟨_, h, _⟩ | ⟨n, hn⟩
 ·omega
 ·exact ⟨v, n, rfl, hb, hn⟩
set_option maxHeartbeats 1000000 in
set_option maxRecDepth 100000 in
theorem read_window (w : World) (g : Nat) (A : Option Addr) (c n : Nat) (F : Fr) (b : List Int) (hU : UnCalls w g A n c F b) (ht : F.ty = 8) (h4 : b.length = 4) :
  Calls Tryd.prog 61 #[.pointer (some ⟨g, 0, none⟩), .slice A n c] w (RdPost w g (if 0 < valL b % 2147483648 then .ok { F with win := valL b % 2147483648 } else .bad (if F.st > 0 then 2 else 1) 1)) := by
 refine of_post0 fun R hRR => ?_
 have HP := Lib.hid hRR
 obtain ⟨ty, fl, st, data, pad, code, oth, wgt, al, win, sets⟩ := F
 simp only at ht
 subst ht
 have HLn := Lib.hid (show leansB 8 fl = false from rfl)
 have HLst := Lib.hid (show (leastR 8 : Int) = 4 from rfl)
 have b1 : decide ((b.length : Int) < 4) = false := by rw [decide_eq_false_iff_not]; omega
 have b2 : decide (b.length < 4) = false := by rw [decide_eq_false_iff_not]; omega
 have b3 : decide (4 < (b.length : Int)) = false := by rw [decide_eq_false_iff_not]; omega
 have b4 : decide (4 < b.length) = false := by rw [decide_eq_false_iff_not]; omega
 have H4 := Lib.hid h4
 clear hRR h4
 have HU := Lib.hid hU
 have hmm := @run_makeMap Tryd.prog
 clear hU
 go_enter Tryd.func61, Tryd.ntmps61
 go_wp2_with fail
 refine (Hid.out HU).mono ?_
 rintro e w1 ⟨A1, c1, rfl, hX⟩
 have HX := Lib.hid hX
 clear hX
 have q0 := blk_cell (Un.fr (Hid.out HX)).blk 0
 have q1 := blk_cell (Un.fr (Hid.out HX)).blk 1
 have q2 := blk_cell (Un.fr (Hid.out HX)).blk 2
 have q3 := blk_cell (Un.fr (Hid.out HX)).blk 3
 have q4 := blk_cell (Un.fr (Hid.out HX)).blk 4
 have q5 := blk_cell (Un.fr (Hid.out HX)).blk 5
 have q6 := blk_cell (Un.fr (Hid.out HX)).blk 6
 have q7 := blk_cell (Un.fr (Hid.out HX)).blk 7
 have q8 := blk_cell (Un.fr (Hid.out HX)).blk 8
 have q9 := blk_cell (Un.fr (Hid.out HX)).blk 9
 have q10 := blk_cell (Un.fr (Hid.out HX)).blk 10
 simp at q0 q1 q2 q3 q4 q5 q6 q7 q8 q9 q10
 have hown : World.ownsMap (H := Unit) (w1.alloc (.map #[] 0)) Tryd.prog 5 (plainElem Tryd.prog 3) w1.heap.size 0 (.map []) := World.ownsMap_made _ _ _ _
 have HM := Lib.hid (UnM.made (Hid.out HX))
 go_wp2_with (first
  | (at_lookup; refine wpList_lookup_own_int _ rfl _ _ 124 rfl 5 3 .i64 Tryd.law8 Tryd.underlying124 Tryd.underlying3 (Tryd.zeroI _) _ _ _ rfl (by assumption) _ _ rfl (keyOf_int_mk Tryd.underlying5 (by first | decide | assumption)) ?_; intro cl hat hwc; obtain rfl := (least_at _ _ hat).trans (Hid.out HLst); clear hat hwc; have q0 := blk_cell (Un.fr (UnM.un (Hid.out HM))).blk 0; have q1 := blk_cell (Un.fr (UnM.un (Hid.out HM))).blk 1; have q2 := blk_cell (Un.fr (UnM.un (Hid.out HM))).blk 2; have q3 := blk_cell (Un.fr (UnM.un (Hid.out HM))).blk 3; have q4 := blk_cell (Un.fr (UnM.un (Hid.out HM))).blk 4; have q5 := blk_cell (Un.fr (UnM.un (Hid.out HM))).blk 5; have q6 := blk_cell (Un.fr (UnM.un (Hid.out HM))).blk 6; have q7 := blk_cell (Un.fr (UnM.un (Hid.out HM))).blk 7; have q8 := blk_cell (Un.fr (UnM.un (Hid.out HM))).blk 8; have q9 := blk_cell (Un.fr (UnM.un (Hid.out HM))).blk 9; have q10 := blk_cell (Un.fr (UnM.un (Hid.out HM))).blk 10; simp at q0 q1 q2 q3 q4 q5 q6 q7 q8 q9 q10)
  | (refine insert_own _ rfl _ _ _ 124 rfl 5 3 Tryd.law8 Tryd.underlying124 _ _ _ _ rfl (by assumption) (by unfold maxLen; omega) _ _ _ rfl rfl (keyOf_int_mk Tryd.underlying5 (by decide)) _ [] (plainElem_int Tryd.underlying3 (by decide)) ?_; intro m1 hown hgrow; have HM := Lib.hid (UnM.grow HX.out HM.out hgrow); clear hgrow; have q0 := blk_cell (UnM.un HM.out).fr.blk 0; simp at q0))
 refine (leans_calls _ (⟨8, fl, st, data, pad, code, oth, wgt, al, win, sets⟩ : Fr)).mono ?_
 rintro e w2 ⟨rfl, hb2⟩
 have H2 := Lib.hid ((UnM.un (Hid.out HM)).step hb2)
 clear hb2
 try rw [Hid.out HLn]
 have q0 := blk_cell (Un.fr (Hid.out H2)).blk 0
 have q1 := blk_cell (Un.fr (Hid.out H2)).blk 1
 have q2 := blk_cell (Un.fr (Hid.out H2)).blk 2
 have q3 := blk_cell (Un.fr (Hid.out H2)).blk 3
 have q4 := blk_cell (Un.fr (Hid.out H2)).blk 4
 have q5 := blk_cell (Un.fr (Hid.out H2)).blk 5
 have q6 := blk_cell (Un.fr (Hid.out H2)).blk 6
 have q7 := blk_cell (Un.fr (Hid.out H2)).blk 7
 have q8 := blk_cell (Un.fr (Hid.out H2)).blk 8
 have q9 := blk_cell (Un.fr (Hid.out H2)).blk 9
 have q10 := blk_cell (Un.fr (Hid.out H2)).blk 10
 simp at q0 q1 q2 q3 q4 q5 q6 q7 q8 q9 q10
 have f3 := blk_frozen (Un.fr (Hid.out H2)).blk 3
 have f5 := blk_frozen (Un.fr (Hid.out H2)).blk 5
 have f6 := blk_frozen (Un.fr (Hid.out H2)).blk 6
 have f9 := blk_frozen (Un.fr (Hid.out H2)).blk 9
 go_wp2_with fail
 refine (number_calls _ A1 c1 b (by have := H4.out; omega) H2.out.hby H2.out.rd.now H2.out.hc).mono ?_
 rintro e w3 ⟨rfl, n3, rfl⟩
 have hv := valL_bound H2.out.hby
 rw [H4.out, show (256 : Int) ^ 4 = 4294967296 from rfl] at hv
 have hlow := low31 hv.1 hv.2
 clear hv
 go_wp2_with fail
 have hN : Below w2.heap.size w2 (w2.drewN n3) := pw_below_drewN (Below.refl _ _) _
 have hF : ((w2.drewN n3).setCell ⟨g, 9, none⟩ (.int .u32 (valL b % 2147483648))).heap[g]? = some (.cells (frC (⟨8, fl, st, data, pad, code, oth, wgt, al, valL b % 2147483648, sets⟩ : Fr) nilS nilS) 38 (0, 0)) := blk_set (blk_drewN H2.out.fr.blk n3) 9 _
 have HF := Lib.hid hF
 clear hF
 have hK : KeepBut (w2.drewN n3) ((w2.drewN n3).setCell ⟨g, 9, none⟩ (.int .u32 (valL b % 2147483648))) g none := (KeepBut.refl _ _ _).set_ 9 _
 have hB : Below g (w2.drewN n3) ((w2.drewN n3).setCell ⟨g, 9, none⟩ (.int .u32 (valL b % 2147483648))) := (Below.refl _ _).setCell (p := ⟨g, 9, none⟩) (Nat.le_refl g) _
 have HS := Lib.hid (And.intro (H2.out.step hN) (And.intro hK hB))
 clear hN hK hB
 generalize hx : valL b % 2147483648 = x at *
 generalize (w2.drewN n3).setCell ⟨g, 9, none⟩ (.int .u32 x) = w4 at *
 have q0 := blk_cell HF.out 0
 have q1 := blk_cell HF.out 1
 have q2 := blk_cell HF.out 2
 have q3 := blk_cell HF.out 3
 have q4 := blk_cell HF.out 4
 have q5 := blk_cell HF.out 5
 have q6 := blk_cell HF.out 6
 have q7 := blk_cell HF.out 7
 have q8 := blk_cell HF.out 8
 have q9 := blk_cell HF.out 9
 have q10 := blk_cell HF.out 10
 simp at q0 q1 q2 q3 q4 q5 q6 q7 q8 q9 q10
 clear HX HM H2 HU
 by_cases hp : 0 < x
 ·refine (window_good _ (⟨8, fl, st, data, pad, code, oth, wgt, al, x, sets⟩ : Fr) nilS nilS hp).mono ?_
  rintro e w5 ⟨rfl, hb5⟩
  rw [if_pos hp] at HP
  have H5 := Lib.hid hb5
  clear hb5 hp
  go_wp2_with fail
  have hb := KeepBut.of_below H5.out g none
  refine HP.out _ _ (HS.out.1.done (F' := ⟨8, fl, st, data, pad, code, oth, wgt, al, x, sets⟩) (HS.out.2.1.trans hb (.inl rfl)) (HS.out.2.2.trans (H5.out.mono (Nat.le_of_lt (blk_lt HF.out)))) (D := nilS) ⟨blk_below HF.out H5.out⟩ ?_ HS.out.1.hs)
  rw [show (⟨8, fl, st, data, pad, code, oth, wgt, al, x, sets⟩ : Fr).data = [] from HS.out.1.hd]
  exact Kd.R_nil _ _ _ _ _
 ·refine (window_bad _ (⟨8, fl, st, data, pad, code, oth, wgt, al, x, sets⟩ : Fr) nilS nilS hp).mono ?_
  rintro e w5 ⟨v, m, rfl, hb5, hE5⟩
  rw [if_neg hp] at HP
  have H5 := Lib.hid (And.intro hb5 hE5)
  clear hb5 hE5 hp
  go_wp2_with fail
  have hb := KeepBut.of_below H5.out.1 g none
  exact HP.out _ _ ⟨⟨HS.out.1.keep.trans (HS.out.2.1.trans hb (.inl rfl)) (.inl rfl), HS.out.1.below.trans (HS.out.2.2.trans (H5.out.1.mono (Nat.le_of_lt (blk_lt HF.out))))⟩, v, m, rfl, H5.out.2⟩
theorem own_R {w3 : World} {base g : Nat} {v : Value} {b : List Int} (ho : w3.ownsRow base 5 1 v b.length (nums .u8 b)) (hg : g < base) : (Kd.int .u8).R 5 w3 base (fun k => k ≠ g) v b := by
 have h : (Kd.int .u8).R 5 w3 base (fun _ => True) v b := Kd.R_of_own (enc := Value.int .u8) (h1 := fun _ => rfl) ho (fun _ _ => trivial)
 exact Kd.R_mono (Kd.R_bound h) (fun k hk => by have := hk.2.1; omega)
theorem Un.copied {w w2 w3 : World} {g : Nat} {F : Fr} {A : Option Addr} {c : Nat} {b : List Int} {D : Value} (h2 : Un w w2 g F A c b) (h3 : Un w w3 g F A c b) (hD : (Kd.int .u8).R 5 w3 w2.heap.size (fun k => k ≠ g) D b) :
  RdPost w g (.ok { F with data := b }) (.returned .nilIface) (w3.setCell ⟨g, 3, none⟩ D) :=
 ⟨⟨h3.keep.set_ 3 _, h3.below.setCell (p := ⟨g, 3, none⟩) (Nat.le_refl g) _⟩, rfl, D, nilS, ⟨blk_set h3.fr.blk 3 _⟩, Kd.R_far (Kd.R_lower hD h2.keep.1) (fun k hk => hk) _, by
  show Kd.R _ _ _ _ _ _ F.sets
  rw [h2.hs]
  exact Kd.R_nil _ _ _ _ _⟩
set_option maxHeartbeats 1000000 in
set_option maxRecDepth 100000 in
theorem read_ping (w : World) (g : Nat) (A : Option Addr) (c n : Nat) (F : Fr) (b : List Int) (hU : UnCalls w g A n c F b) (ht : F.ty = 6) (h8 : b.length = 8) :
  Calls Tryd.prog 61 #[.pointer (some ⟨g, 0, none⟩), .slice A n c] w (RdPost w g (.ok { F with data := b })) := by
 refine of_post0 fun R hRR => ?_
 have HP := Lib.hid hRR
 obtain ⟨ty, fl, st, data, pad, code, oth, wgt, al, win, sets⟩ := F
 simp only at ht
 subst ht
 have HLn := Lib.hid (show leansB 6 fl = false from rfl)
 have HLst := Lib.hid (show (leastR 6 : Int) = 8 from rfl)
 have b1 : decide ((b.length : Int) < 8) = false := by rw [decide_eq_false_iff_not]; omega
 have b2 : decide (b.length < 8) = false := by rw [decide_eq_false_iff_not]; omega
 have b3 : decide (8 < (b.length : Int)) = false := by rw [decide_eq_false_iff_not]; omega
 have b4 : decide (8 < b.length) = false := by rw [decide_eq_false_iff_not]; omega
 clear hRR h8
 have HU := Lib.hid hU
 have hmm := @run_makeMap Tryd.prog
 clear hU
 go_enter Tryd.func61, Tryd.ntmps61
 go_wp2_with fail
 refine (Hid.out HU).mono ?_
 rintro e w1 ⟨A1, c1, rfl, hX⟩
 have HX := Lib.hid hX
 clear hX
 have q0 := blk_cell (Un.fr (Hid.out HX)).blk 0
 have q1 := blk_cell (Un.fr (Hid.out HX)).blk 1
 have q2 := blk_cell (Un.fr (Hid.out HX)).blk 2
 have q3 := blk_cell (Un.fr (Hid.out HX)).blk 3
 have q4 := blk_cell (Un.fr (Hid.out HX)).blk 4
 have q5 := blk_cell (Un.fr (Hid.out HX)).blk 5
 have q6 := blk_cell (Un.fr (Hid.out HX)).blk 6
 have q7 := blk_cell (Un.fr (Hid.out HX)).blk 7
 have q8 := blk_cell (Un.fr (Hid.out HX)).blk 8
 have q9 := blk_cell (Un.fr (Hid.out HX)).blk 9
 have q10 := blk_cell (Un.fr (Hid.out HX)).blk 10
 simp at q0 q1 q2 q3 q4 q5 q6 q7 q8 q9 q10
 have hown : World.ownsMap (H := Unit) (w1.alloc (.map #[] 0)) Tryd.prog 5 (plainElem Tryd.prog 3) w1.heap.size 0 (.map []) := World.ownsMap_made _ _ _ _
 have HM := Lib.hid (UnM.made (Hid.out HX))
 go_wp2_with (first
  | (at_lookup; refine wpList_lookup_own_int _ rfl _ _ 124 rfl 5 3 .i64 Tryd.law8 Tryd.underlying124 Tryd.underlying3 (Tryd.zeroI _) _ _ _ rfl (by assumption) _ _ rfl (keyOf_int_mk Tryd.underlying5 (by first | decide | assumption)) ?_; intro cl hat hwc; obtain rfl := (least_at _ _ hat).trans (Hid.out HLst); clear hat hwc; have q0 := blk_cell (Un.fr (UnM.un (Hid.out HM))).blk 0; have q1 := blk_cell (Un.fr (UnM.un (Hid.out HM))).blk 1; have q2 := blk_cell (Un.fr (UnM.un (Hid.out HM))).blk 2; have q3 := blk_cell (Un.fr (UnM.un (Hid.out HM))).blk 3; have q4 := blk_cell (Un.fr (UnM.un (Hid.out HM))).blk 4; have q5 := blk_cell (Un.fr (UnM.un (Hid.out HM))).blk 5; have q6 := blk_cell (Un.fr (UnM.un (Hid.out HM))).blk 6; have q7 := blk_cell (Un.fr (UnM.un (Hid.out HM))).blk 7; have q8 := blk_cell (Un.fr (UnM.un (Hid.out HM))).blk 8; have q9 := blk_cell (Un.fr (UnM.un (Hid.out HM))).blk 9; have q10 := blk_cell (Un.fr (UnM.un (Hid.out HM))).blk 10; simp at q0 q1 q2 q3 q4 q5 q6 q7 q8 q9 q10)
  | (refine insert_own _ rfl _ _ _ 124 rfl 5 3 Tryd.law8 Tryd.underlying124 _ _ _ _ rfl (by assumption) (by unfold maxLen; omega) _ _ _ rfl rfl (keyOf_int_mk Tryd.underlying5 (by decide)) _ [] (plainElem_int Tryd.underlying3 (by decide)) ?_; intro m1 hown hgrow; have HM := Lib.hid (UnM.grow HX.out HM.out hgrow); clear hgrow; have q0 := blk_cell (UnM.un HM.out).fr.blk 0; simp at q0))
 refine (leans_calls _ (⟨6, fl, st, data, pad, code, oth, wgt, al, win, sets⟩ : Fr)).mono ?_
 rintro e w2 ⟨rfl, hb2⟩
 have H2 := Lib.hid ((UnM.un (Hid.out HM)).step hb2)
 clear hb2
 try rw [Hid.out HLn]
 have q0 := blk_cell (Un.fr (Hid.out H2)).blk 0
 have q1 := blk_cell (Un.fr (Hid.out H2)).blk 1
 have q2 := blk_cell (Un.fr (Hid.out H2)).blk 2
 have q3 := blk_cell (Un.fr (Hid.out H2)).blk 3
 have q4 := blk_cell (Un.fr (Hid.out H2)).blk 4
 have q5 := blk_cell (Un.fr (Hid.out H2)).blk 5
 have q6 := blk_cell (Un.fr (Hid.out H2)).blk 6
 have q7 := blk_cell (Un.fr (Hid.out H2)).blk 7
 have q8 := blk_cell (Un.fr (Hid.out H2)).blk 8
 have q9 := blk_cell (Un.fr (Hid.out H2)).blk 9
 have q10 := blk_cell (Un.fr (Hid.out H2)).blk 10
 simp at q0 q1 q2 q3 q4 q5 q6 q7 q8 q9 q10
 have f3 := blk_frozen (Un.fr (Hid.out H2)).blk 3
 have f5 := blk_frozen (Un.fr (Hid.out H2)).blk 5
 have f6 := blk_frozen (Un.fr (Hid.out H2)).blk 6
 have f9 := blk_frozen (Un.fr (Hid.out H2)).blk 9
 go_wp2_with fail
 have h2 := H2.out
 refine (clone_calls _ _ _ _ b h2.rd.now h2.hl).mono ?_
 rintro e w3 ⟨vv, rfl, hO3, hb3⟩
 have H3 := Lib.hid (h2.step hb3)
 have HD := Lib.hid (own_R hO3 (blk_lt h2.fr.blk))
 clear hO3 hb3
 obtain ⟨Av, cv, rfl⟩ := Kd.R_slice (Hid.out HD)
 have f3 := blk_frozen (Un.fr (Hid.out H3)).blk 3
 have q3 := blk_cell (Un.fr (Hid.out H3)).blk 3
 simp at q3
 go_wp2_with fail
 exact HP.out _ _ (H2.out.copied H3.out HD.out)
set_option maxHeartbeats 1000000 in
set_option maxRecDepth 100000 in
theorem read_plain (w : World) (g : Nat) (A : Option Addr) (c n : Nat) (F : Fr) (b : List Int) (hU : UnCalls w g A n c F b) (hw : (Lit.int .u8 F.ty).wf = true) (ht : F.ty ≠ 1 ∧ F.ty ≠ 2 ∧ F.ty ≠ 3 ∧ F.ty ≠ 4 ∧ F.ty ≠ 5 ∧ F.ty ≠ 6 ∧ F.ty ≠ 7 ∧ F.ty ≠ 8) :
  Calls Tryd.prog 61 #[.pointer (some ⟨g, 0, none⟩), .slice A n c] w (RdPost w g (.ok { F with data := b })) := by
 refine of_post0 fun R hRR => ?_
 have HP := Lib.hid hRR
 obtain ⟨ty, fl, st, data, pad, code, oth, wgt, al, win, sets⟩ := F
 simp only at ht hw
 have HLn := Lib.hid (show leansB ty fl = false by unfold leansB; rw [if_neg (by omega), if_neg (by omega)])
 have HLst := Lib.hid (show (leastR ty : Int) = 0 by unfold leastR; rw [if_neg (by omega), if_neg (by omega)]; rfl)
 have g1 : (ty == 1) = false := by rw [beq_eq_false_iff_ne]; omega
 have g2 : (ty == 2) = false := by rw [beq_eq_false_iff_ne]; omega
 have g3 : (ty == 3) = false := by rw [beq_eq_false_iff_ne]; omega
 have g4 : (ty == 4) = false := by rw [beq_eq_false_iff_ne]; omega
 have g5 : (ty == 5) = false := by rw [beq_eq_false_iff_ne]; omega
 have g6 : (ty == 6) = false := by rw [beq_eq_false_iff_ne]; omega
 have g7 : (ty == 7) = false := by rw [beq_eq_false_iff_ne]; omega
 have g8 : (ty == 8) = false := by rw [beq_eq_false_iff_ne]; omega
 have e5 : (ty != 5) = true := by rw [bne_iff_ne]; omega
 have e7 : (ty != 7) = true := by rw [bne_iff_ne]; omega
 have b1 : decide ((b.length : Int) < 0) = false := by rw [decide_eq_false_iff_not]; omega
 clear hRR ht
 have HU := Lib.hid hU
 have hmm := @run_makeMap Tryd.prog
 clear hU
 go_enter Tryd.func61, Tryd.ntmps61
 go_wp2_with fail
 refine (Hid.out HU).mono ?_
 rintro e w1 ⟨A1, c1, rfl, hX⟩
 have HX := Lib.hid hX
 clear hX
 have q0 := blk_cell (Un.fr (Hid.out HX)).blk 0
 have q1 := blk_cell (Un.fr (Hid.out HX)).blk 1
 have q2 := blk_cell (Un.fr (Hid.out HX)).blk 2
 have q3 := blk_cell (Un.fr (Hid.out HX)).blk 3
 have q4 := blk_cell (Un.fr (Hid.out HX)).blk 4
 have q5 := blk_cell (Un.fr (Hid.out HX)).blk 5
 have q6 := blk_cell (Un.fr (Hid.out HX)).blk 6
 have q7 := blk_cell (Un.fr (Hid.out HX)).blk 7
 have q8 := blk_cell (Un.fr (Hid.out HX)).blk 8
 have q9 := blk_cell (Un.fr (Hid.out HX)).blk 9
 have q10 := blk_cell (Un.fr (Hid.out HX)).blk 10
 simp at q0 q1 q2 q3 q4 q5 q6 q7 q8 q9 q10
 have hown : World.ownsMap (H := Unit) (w1.alloc (.map #[] 0)) Tryd.prog 5 (plainElem Tryd.prog 3) w1.heap.size 0 (.map []) := World.ownsMap_made _ _ _ _
 have HM := Lib.hid (UnM.made (Hid.out HX))
 go_wp2_with (first
  | (at_lookup; refine wpList_lookup_own_int _ rfl _ _ 124 rfl 5 3 .i64 Tryd.law8 Tryd.underlying124 Tryd.underlying3 (Tryd.zeroI _) _ _ _ rfl (by assumption) _ _ rfl (keyOf_int_mk Tryd.underlying5 (by first | decide | assumption)) ?_; intro cl hat hwc; obtain rfl := (least_at _ _ hat).trans (Hid.out HLst); clear hat hwc; have q0 := blk_cell (Un.fr (UnM.un (Hid.out HM))).blk 0; have q1 := blk_cell (Un.fr (UnM.un (Hid.out HM))).blk 1; have q2 := blk_cell (Un.fr (UnM.un (Hid.out HM))).blk 2; have q3 := blk_cell (Un.fr (UnM.un (Hid.out HM))).blk 3; have q4 := blk_cell (Un.fr (UnM.un (Hid.out HM))).blk 4; have q5 := blk_cell (Un.fr (UnM.un (Hid.out HM))).blk 5; have q6 := blk_cell (Un.fr (UnM.un (Hid.out HM))).blk 6; have q7 := blk_cell (Un.fr (UnM.un (Hid.out HM))).blk 7; have q8 := blk_cell (Un.fr (UnM.un (Hid.out HM))).blk 8; have q9 := blk_cell (Un.fr (UnM.un (Hid.out HM))).blk 9; have q10 := blk_cell (Un.fr (UnM.un (Hid.out HM))).blk 10; simp at q0 q1 q2 q3 q4 q5 q6 q7 q8 q9 q10)
  | (refine insert_own _ rfl _ _ _ 124 rfl 5 3 Tryd.law8 Tryd.underlying124 _ _ _ _ rfl (by assumption) (by unfold maxLen; omega) _ _ _ rfl rfl (keyOf_int_mk Tryd.underlying5 (by decide)) _ [] (plainElem_int Tryd.underlying3 (by decide)) ?_; intro m1 hown hgrow; have HM := Lib.hid (UnM.grow HX.out HM.out hgrow); clear hgrow; have q0 := blk_cell (UnM.un HM.out).fr.blk 0; simp at q0))
 refine (leans_calls _ (⟨ty, fl, st, data, pad, code, oth, wgt, al, win, sets⟩ : Fr)).mono ?_
 rintro e w2 ⟨rfl, hb2⟩
 have H2 := Lib.hid ((UnM.un (Hid.out HM)).step hb2)
 clear hb2
 try rw [Hid.out HLn]
 have q0 := blk_cell (Un.fr (Hid.out H2)).blk 0
 have q1 := blk_cell (Un.fr (Hid.out H2)).blk 1
 have q2 := blk_cell (Un.fr (Hid.out H2)).blk 2
 have q3 := blk_cell (Un.fr (Hid.out H2)).blk 3
 have q4 := blk_cell (Un.fr (Hid.out H2)).blk 4
 have q5 := blk_cell (Un.fr (Hid.out H2)).blk 5
 have q6 := blk_cell (Un.fr (Hid.out H2)).blk 6
 have q7 := blk_cell (Un.fr (Hid.out H2)).blk 7
 have q8 := blk_cell (Un.fr (Hid.out H2)).blk 8
 have q9 := blk_cell (Un.fr (Hid.out H2)).blk 9
 have q10 := blk_cell (Un.fr (Hid.out H2)).blk 10
 simp at q0 q1 q2 q3 q4 q5 q6 q7 q8 q9 q10
 have f3 := blk_frozen (Un.fr (Hid.out H2)).blk 3
 have f5 := blk_frozen (Un.fr (Hid.out H2)).blk 5
 have f6 := blk_frozen (Un.fr (Hid.out H2)).blk 6
 have f9 := blk_frozen (Un.fr (Hid.out H2)).blk 9
 go_wp2_with fail
 have h2 := H2.out
 refine (clone_calls _ _ _ _ b h2.rd.now h2.hl).mono ?_
 rintro e w3 ⟨vv, rfl, hO3, hb3⟩
 have H3 := Lib.hid (h2.step hb3)
 have HD := Lib.hid (own_R hO3 (blk_lt h2.fr.blk))
 clear hO3 hb3
 obtain ⟨Av, cv, rfl⟩ := Kd.R_slice (Hid.out HD)
 have f3 := blk_frozen (Un.fr (Hid.out H3)).blk 3
 have q3 := blk_cell (Un.fr (Hid.out H3)).blk 3
 simp at q3
 go_wp2_with fail
 exact HP.out _ _ (H2.out.copied H3.out HD.out)
set_option maxHeartbeats 1000000 in
set_option maxRecDepth 100000 in
theorem read_headers (w : World) (g : Nat) (A : Option Addr) (c n : Nat) (F : Fr) (b : List Int) (hU : UnCalls w g A n c F b) (ht : F.ty = 1) (hl : leansB F.ty F.fl = false) :
  Calls Tryd.prog 61 #[.pointer (some ⟨g, 0, none⟩), .slice A n c] w (RdPost w g (.ok { F with data := b })) := by
 refine of_post0 fun R hRR => ?_
 have HP := Lib.hid hRR
 obtain ⟨ty, fl, st, data, pad, code, oth, wgt, al, win, sets⟩ := F
 simp only at ht hl
 subst ht
 have HLn := Lib.hid hl
 have HLst := Lib.hid (show (leastR 1 : Int) = 0 from rfl)
 have b1 : decide ((b.length : Int) < 0) = false := by rw [decide_eq_false_iff_not]; omega
 clear hRR hl
 have HU := Lib.hid hU
 have hmm := @run_makeMap Tryd.prog
 clear hU
 go_enter Tryd.func61, Tryd.ntmps61
 go_wp2_with fail
 refine (Hid.out HU).mono ?_
 rintro e w1 ⟨A1, c1, rfl, hX⟩
 have HX := Lib.hid hX
 clear hX
 have q0 := blk_cell (Un.fr (Hid.out HX)).blk 0
 have q1 := blk_cell (Un.fr (Hid.out HX)).blk 1
 have q2 := blk_cell (Un.fr (Hid.out HX)).blk 2
 have q3 := blk_cell (Un.fr (Hid.out HX)).blk 3
 have q4 := blk_cell (Un.fr (Hid.out HX)).blk 4
 have q5 := blk_cell (Un.fr (Hid.out HX)).blk 5
 have q6 := blk_cell (Un.fr (Hid.out HX)).blk 6
 have q7 := blk_cell (Un.fr (Hid.out HX)).blk 7
 have q8 := blk_cell (Un.fr (Hid.out HX)).blk 8
 have q9 := blk_cell (Un.fr (Hid.out HX)).blk 9
 have q10 := blk_cell (Un.fr (Hid.out HX)).blk 10
 simp at q0 q1 q2 q3 q4 q5 q6 q7 q8 q9 q10
 have hown : World.ownsMap (H := Unit) (w1.alloc (.map #[] 0)) Tryd.prog 5 (plainElem Tryd.prog 3) w1.heap.size 0 (.map []) := World.ownsMap_made _ _ _ _
 have HM := Lib.hid (UnM.made (Hid.out HX))
 go_wp2_with (first
  | (at_lookup; refine wpList_lookup_own_int _ rfl _ _ 124 rfl 5 3 .i64 Tryd.law8 Tryd.underlying124 Tryd.underlying3 (Tryd.zeroI _) _ _ _ rfl (by assumption) _ _ rfl (keyOf_int_mk Tryd.underlying5 (by first | decide | assumption)) ?_; intro cl hat hwc; obtain rfl := (least_at _ _ hat).trans (Hid.out HLst); clear hat hwc; have q0 := blk_cell (Un.fr (UnM.un (Hid.out HM))).blk 0; have q1 := blk_cell (Un.fr (UnM.un (Hid.out HM))).blk 1; have q2 := blk_cell (Un.fr (UnM.un (Hid.out HM))).blk 2; have q3 := blk_cell (Un.fr (UnM.un (Hid.out HM))).blk 3; have q4 := blk_cell (Un.fr (UnM.un (Hid.out HM))).blk 4; have q5 := blk_cell (Un.fr (UnM.un (Hid.out HM))).blk 5; have q6 := blk_cell (Un.fr (UnM.un (Hid.out HM))).blk 6; have q7 := blk_cell (Un.fr (UnM.un (Hid.out HM))).blk 7; have q8 := blk_cell (Un.fr (UnM.un (Hid.out HM))).blk 8; have q9 := blk_cell (Un.fr (UnM.un (Hid.out HM))).blk 9; have q10 := blk_cell (Un.fr (UnM.un (Hid.out HM))).blk 10; simp at q0 q1 q2 q3 q4 q5 q6 q7 q8 q9 q10)
  | (refine insert_own _ rfl _ _ _ 124 rfl 5 3 Tryd.law8 Tryd.underlying124 _ _ _ _ rfl (by assumption) (by unfold maxLen; omega) _ _ _ rfl rfl (keyOf_int_mk Tryd.underlying5 (by decide)) _ [] (plainElem_int Tryd.underlying3 (by decide)) ?_; intro m1 hown hgrow; have HM := Lib.hid (UnM.grow HX.out HM.out hgrow); clear hgrow; have q0 := blk_cell (UnM.un HM.out).fr.blk 0; simp at q0))
 refine (leans_calls _ (⟨1, fl, st, data, pad, code, oth, wgt, al, win, sets⟩ : Fr)).mono ?_
 rintro e w2 ⟨rfl, hb2⟩
 have H2 := Lib.hid ((UnM.un (Hid.out HM)).step hb2)
 clear hb2
 try rw [Hid.out HLn]
 have q0 := blk_cell (Un.fr (Hid.out H2)).blk 0
 have q1 := blk_cell (Un.fr (Hid.out H2)).blk 1
 have q2 := blk_cell (Un.fr (Hid.out H2)).blk 2
 have q3 := blk_cell (Un.fr (Hid.out H2)).blk 3
 have q4 := blk_cell (Un.fr (Hid.out H2)).blk 4
 have q5 := blk_cell (Un.fr (Hid.out H2)).blk 5
 have q6 := blk_cell (Un.fr (Hid.out H2)).blk 6
 have q7 := blk_cell (Un.fr (Hid.out H2)).blk 7
 have q8 := blk_cell (Un.fr (Hid.out H2)).blk 8
 have q9 := blk_cell (Un.fr (Hid.out H2)).blk 9
 have q10 := blk_cell (Un.fr (Hid.out H2)).blk 10
 simp at q0 q1 q2 q3 q4 q5 q6 q7 q8 q9 q10
 have f3 := blk_frozen (Un.fr (Hid.out H2)).blk 3
 have f5 := blk_frozen (Un.fr (Hid.out H2)).blk 5
 have f6 := blk_frozen (Un.fr (Hid.out H2)).blk 6
 have f9 := blk_frozen (Un.fr (Hid.out H2)).blk 9
 go_wp2_with fail
 refine (leans_calls _ (⟨1, fl, st, data, pad, code, oth, wgt, al, win, sets⟩ : Fr)).mono ?_
 rintro e w4 ⟨rfl, hb4⟩
 have H4 := Lib.hid (H2.out.step hb4)
 clear hb4
 rw [HLn.out]
 have q0 := blk_cell (Un.fr (Hid.out H4)).blk 0
 have q1 := blk_cell (Un.fr (Hid.out H4)).blk 1
 have q2 := blk_cell (Un.fr (Hid.out H4)).blk 2
 have q3 := blk_cell (Un.fr (Hid.out H4)).blk 3
 have q4 := blk_cell (Un.fr (Hid.out H4)).blk 4
 have q5 := blk_cell (Un.fr (Hid.out H4)).blk 5
 have q6 := blk_cell (Un.fr (Hid.out H4)).blk 6
 have q7 := blk_cell (Un.fr (Hid.out H4)).blk 7
 have q8 := blk_cell (Un.fr (Hid.out H4)).blk 8
 have q9 := blk_cell (Un.fr (Hid.out H4)).blk 9
 have q10 := blk_cell (Un.fr (Hid.out H4)).blk 10
 simp at q0 q1 q2 q3 q4 q5 q6 q7 q8 q9 q10
 have f3 := blk_frozen (Un.fr (Hid.out H4)).blk 3
 have f5 := blk_frozen (Un.fr (Hid.out H4)).blk 5
 have f6 := blk_frozen (Un.fr (Hid.out H4)).blk 6
 have f9 := blk_frozen (Un.fr (Hid.out H4)).blk 9
 go_wp2_with fail
 have h4 := H4.out
 refine (clone_calls _ _ _ _ b h4.rd.now h4.hl).mono ?_
 rintro e w3 ⟨vv, rfl, hO3, hb3⟩
 have H3 := Lib.hid (h4.step hb3)
 have HD := Lib.hid (own_R hO3 (blk_lt h4.fr.blk))
 clear hO3 hb3
 obtain ⟨Av, cv, rfl⟩ := Kd.R_slice (Hid.out HD)
 have f3 := blk_frozen (Un.fr (Hid.out H3)).blk 3
 have q3 := blk_cell (Un.fr (Hid.out H3)).blk 3
 simp at q3
 go_wp2_with fail
 exact HP.out _ _ (H4.out.copied H3.out HD.out)

theorem Un.stored {w w2 wS : World} {g : Nat} {F F' : Fr} {A A' : Option Addr} {c c' : Nat} {b b' : List Int} (h : Un w w2 g F A c b) (hk : KeepBut w2 wS g none) (hb : Below g w2 wS) (hI : IsFr wS g F' nilS nilS) (hs : F'.sets = F.sets) (hd : F'.data = F.data)
  (hr : KReads w2 g A' b') (hc : b'.length ≤ c') (hby : Byte8 b') (hl : b'.length ≤ 100000) : Un w wS g F' A' c' b' :=
 ⟨h.keep.trans hk (.inl rfl), h.below.trans hb, hI, hr.keep hk, hc, hby, hl, h.lt, hs.trans h.hs, hd.trans h.hd⟩
set_option maxHeartbeats 1000000 in
set_option maxRecDepth 100000 in
theorem read_push (w : World) (g : Nat) (A : Option Addr) (c n : Nat) (F : Fr) (b : List Int) (hU : UnCalls w g A n c F b) (ht : F.ty = 5) (h4 : 4 ≤ b.length) :
  Calls Tryd.prog 61 #[.pointer (some ⟨g, 0, none⟩), .slice A n c] w (RdPost w g (.ok { F with oth := valL (b.take 4) % 2147483648, data := b.drop 4 })) := by
 refine of_post0 fun R hRR => ?_
 have HP := Lib.hid hRR
 obtain ⟨ty, fl, st, data, pad, code, oth, wgt, al, win, sets⟩ := F
 simp only at ht
 subst ht
 have HLn := Lib.hid (show leansB 5 fl = false from rfl)
 have HLst := Lib.hid (show (leastR 5 : Int) = 4 from rfl)
 have b1 : decide ((b.length : Int) < 4) = false := by rw [decide_eq_false_iff_not]; omega
 have b2 : decide (b.length < 4) = false := by rw [decide_eq_false_iff_not]; omega
 have b3 : (4 : Int) ≤ (b.length : Int) := by omega
 clear hRR
 have HU := Lib.hid hU
 have hmm := @run_makeMap Tryd.prog
 clear hU
 go_enter Tryd.func61, Tryd.ntmps61
 go_wp2_with fail
 refine (Hid.out HU).mono ?_
 rintro e w1 ⟨A1, c1, rfl, hX⟩
 have HX := Lib.hid hX
 clear hX
 have q0 := blk_cell (Un.fr (Hid.out HX)).blk 0
 have q1 := blk_cell (Un.fr (Hid.out HX)).blk 1
 have q2 := blk_cell (Un.fr (Hid.out HX)).blk 2
 have q3 := blk_cell (Un.fr (Hid.out HX)).blk 3
 have q4 := blk_cell (Un.fr (Hid.out HX)).blk 4
 have q5 := blk_cell (Un.fr (Hid.out HX)).blk 5
 have q6 := blk_cell (Un.fr (Hid.out HX)).blk 6
 have q7 := blk_cell (Un.fr (Hid.out HX)).blk 7
 have q8 := blk_cell (Un.fr (Hid.out HX)).blk 8
 have q9 := blk_cell (Un.fr (Hid.out HX)).blk 9
 have q10 := blk_cell (Un.fr (Hid.out HX)).blk 10
 simp at q0 q1 q2 q3 q4 q5 q6 q7 q8 q9 q10
 have hown : World.ownsMap (H := Unit) (w1.alloc (.map #[] 0)) Tryd.prog 5 (plainElem Tryd.prog 3) w1.heap.size 0 (.map []) := World.ownsMap_made _ _ _ _
 have HM := Lib.hid (UnM.made (Hid.out HX))
 go_wp2_with (first
  | (at_lookup; refine wpList_lookup_own_int _ rfl _ _ 124 rfl 5 3 .i64 Tryd.law8 Tryd.underlying124 Tryd.underlying3 (Tryd.zeroI _) _ _ _ rfl (by assumption) _ _ rfl (keyOf_int_mk Tryd.underlying5 (by first | decide | assumption)) ?_; intro cl hat hwc; obtain rfl := (least_at _ _ hat).trans (Hid.out HLst); clear hat hwc; have q0 := blk_cell (Un.fr (UnM.un (Hid.out HM))).blk 0; have q1 := blk_cell (Un.fr (UnM.un (Hid.out HM))).blk 1; have q2 := blk_cell (Un.fr (UnM.un (Hid.out HM))).blk 2; have q3 := blk_cell (Un.fr (UnM.un (Hid.out HM))).blk 3; have q4 := blk_cell (Un.fr (UnM.un (Hid.out HM))).blk 4; have q5 := blk_cell (Un.fr (UnM.un (Hid.out HM))).blk 5; have q6 := blk_cell (Un.fr (UnM.un (Hid.out HM))).blk 6; have q7 := blk_cell (Un.fr (UnM.un (Hid.out HM))).blk 7; have q8 := blk_cell (Un.fr (UnM.un (Hid.out HM))).blk 8; have q9 := blk_cell (Un.fr (UnM.un (Hid.out HM))).blk 9; have q10 := blk_cell (Un.fr (UnM.un (Hid.out HM))).blk 10; simp at q0 q1 q2 q3 q4 q5 q6 q7 q8 q9 q10)
  | (refine insert_own _ rfl _ _ _ 124 rfl 5 3 Tryd.law8 Tryd.underlying124 _ _ _ _ rfl (by assumption) (by unfold maxLen; omega) _ _ _ rfl rfl (keyOf_int_mk Tryd.underlying5 (by decide)) _ [] (plainElem_int Tryd.underlying3 (by decide)) ?_; intro m1 hown hgrow; have HM := Lib.hid (UnM.grow HX.out HM.out hgrow); clear hgrow; have q0 := blk_cell (UnM.un HM.out).fr.blk 0; simp at q0))
 refine (leans_calls _ (⟨5, fl, st, data, pad, code, oth, wgt, al, win, sets⟩ : Fr)).mono ?_
 rintro e w2 ⟨rfl, hb2⟩
 have H2 := Lib.hid ((UnM.un (Hid.out HM)).step hb2)
 clear hb2
 try rw [Hid.out HLn]
 have q0 := blk_cell (Un.fr (Hid.out H2)).blk 0
 have q1 := blk_cell (Un.fr (Hid.out H2)).blk 1
 have q2 := blk_cell (Un.fr (Hid.out H2)).blk 2
 have q3 := blk_cell (Un.fr (Hid.out H2)).blk 3
 have q4 := blk_cell (Un.fr (Hid.out H2)).blk 4
 have q5 := blk_cell (Un.fr (Hid.out H2)).blk 5
 have q6 := blk_cell (Un.fr (Hid.out H2)).blk 6
 have q7 := blk_cell (Un.fr (Hid.out H2)).blk 7
 have q8 := blk_cell (Un.fr (Hid.out H2)).blk 8
 have q9 := blk_cell (Un.fr (Hid.out H2)).blk 9
 have q10 := blk_cell (Un.fr (Hid.out H2)).blk 10
 simp at q0 q1 q2 q3 q4 q5 q6 q7 q8 q9 q10
 have f3 := blk_frozen (Un.fr (Hid.out H2)).blk 3
 have f5 := blk_frozen (Un.fr (Hid.out H2)).blk 5
 have f6 := blk_frozen (Un.fr (Hid.out H2)).blk 6
 have f9 := blk_frozen (Un.fr (Hid.out H2)).blk 9
 have h2 := H2.out
 obtain ⟨i0, hi, _, hsz, _⟩ := info_parts Tryd.infoB8
 obtain ⟨hcut1, hr1, hm1⟩ := print_take_int (P := Tryd.prog) (k := .u8) 35 5 Tryd.underlying35 hi hsz A1 c1 b 4 (by decide) (by omega) h2.hc
 obtain ⟨A4, hcut2, hr2, hm2⟩ := print_drop_of (P := Tryd.prog) (Value.int .u8) (0 : Int) 35 5 .i64 Tryd.underlying35 hi hsz A1 c1 b 4 (by decide) (by omega) h2.hc
 rw [show (4 : Int).toNat = 4 from rfl] at hcut1 hr1 hm1 hcut2 hr2 hm2
 have ht4 : (b.take 4).length = 4 := by rw [List.length_take]; omega
 have hb4 : Byte8 (b.take 4) := fun x hx => h2.hby x (List.mem_of_mem_take hx)
 have hv := valL_bound hb4
 rw [ht4] at hv
 have hlow := low31 hv.1 (by have h256 : (256 : Int) ^ 4 = 4294967296 := rfl; omega : valL (b.take 4) < 4294967296)
 have hV := number_calls w2 A1 c1 (b.take 4) (by omega) hb4 (hr1 w2 h2.rd.now) hm1
 have hK4 : KReads w2 g A4 (b.drop 4) := fun W hW => hr2 W (h2.rd W hW)
 have hd4 : Byte8 (b.drop 4) := fun x hx => h2.hby x (List.mem_of_mem_drop hx)
 have hl4 : (b.drop 4).length ≤ 100000 := by rw [List.length_drop]; have := h2.hl; omega
 generalize valL (b.take 4) = v at *
 generalize b.take 4 = L1 at *
 generalize b.drop 4 = b4 at *
 have HX4 := Lib.hid (And.intro hK4 (And.intro hm2 (And.intro hd4 hl4)))
 have HV := Lib.hid hV
 clear h2 hi hsz hr1 hm1 hr2 hm2 ht4 hb4 hv hV hK4 hd4 hl4 h4
 go_wp2_with fail
 refine HV.out.mono ?_
 rintro e w3 ⟨rfl, n3, rfl⟩
 go_wp2_with fail
 have hN : Below w2.heap.size w2 (w2.drewN n3) := pw_below_drewN (Below.refl _ _) _
 have hS : Un w ((w2.drewN n3).setCell ⟨g, 6, none⟩ (.int .u32 (v % 2147483648))) g (⟨5, fl, st, data, pad, code, v % 2147483648, wgt, al, win, sets⟩ : Fr) A4 (c1 - 4) b4 :=
  H2.out.stored ((KeepBut.of_below hN g none).set_ 6 _) ((pw_below_drewN (Below.refl _ _) _).setCell (p := ⟨g, 6, none⟩) (Nat.le_refl g) _) ⟨blk_set (blk_drewN H2.out.fr.blk n3) 6 _⟩ rfl rfl HX4.out.1 HX4.out.2.1 HX4.out.2.2.1 HX4.out.2.2.2
 clear hN
 generalize (w2.drewN n3).setCell ⟨g, 6, none⟩ (.int .u32 (v % 2147483648)) = wS at hS ⊢
 refine (clone_calls _ _ _ _ b4 hS.rd.now hS.hl).mono ?_
 rintro e w3 ⟨vv, rfl, hO3, hb3⟩
 have H3 := Lib.hid (hS.step hb3)
 have HD := Lib.hid (own_R hO3 (blk_lt hS.fr.blk))
 clear hO3 hb3
 obtain ⟨Av, cv, rfl⟩ := Kd.R_slice (Hid.out HD)
 have f3 := blk_frozen (Un.fr (Hid.out H3)).blk 3
 have q3 := blk_cell (Un.fr (Hid.out H3)).blk 3
 simp at q3
 go_wp2_with fail
 exact HP.out _ _ (hS.copied H3.out HD.out)
set_option maxHeartbeats 1000000 in
set_option maxRecDepth 100000 in
theorem read_pri5 (w : World) (g : Nat) (A : Option Addr) (c n : Nat) (F : Fr) (b : List Int) (hU : UnCalls w g A n c F b) (ht : F.ty = 2) (h5 : b.length = 5) :
  Calls Tryd.prog 61 #[.pointer (some ⟨g, 0, none⟩), .slice A n c] w (RdPost w g (.ok { leanF F b with data := b.drop 5 })) := by
 refine of_post0 fun R hRR => ?_
 have HP := Lib.hid hRR
 obtain ⟨ty, fl, st, data, pad, code, oth, wgt, al, win, sets⟩ := F
 simp only at ht
 subst ht
 have HLn := Lib.hid (show leansB 2 fl = true from rfl)
 have HLst := Lib.hid (show (leastR 2 : Int) = 0 from rfl)
 have b0 : ((b.length : Int) != 5) = false := by rw [bne_eq_false_iff_eq]; omega
 have b1 : decide ((b.length : Int) < 5) = false := by rw [decide_eq_false_iff_not]; omega
 have b2 : decide (b.length < 5) = false := by rw [decide_eq_false_iff_not]; omega
 have b3 : decide ((b.length : Int) < 0) = false := by rw [decide_eq_false_iff_not]; omega
 have H5 := Lib.hid (show 5 ≤ b.length by omega)
 clear hRR h5
 have HU := Lib.hid hU
 have hmm := @run_makeMap Tryd.prog
 clear hU
 go_enter Tryd.func61, Tryd.ntmps61
 go_wp2_with fail
 refine (Hid.out HU).mono ?_
 rintro e w1 ⟨A1, c1, rfl, hX⟩
 have HX := Lib.hid hX
 clear hX
 have q0 := blk_cell (Un.fr (Hid.out HX)).blk 0
 have q1 := blk_cell (Un.fr (Hid.out HX)).blk 1
 have q2 := blk_cell (Un.fr (Hid.out HX)).blk 2
 have q3 := blk_cell (Un.fr (Hid.out HX)).blk 3
 have q4 := blk_cell (Un.fr (Hid.out HX)).blk 4
 have q5 := blk_cell (Un.fr (Hid.out HX)).blk 5
 have q6 := blk_cell (Un.fr (Hid.out HX)).blk 6
 have q7 := blk_cell (Un.fr (Hid.out HX)).blk 7
 have q8 := blk_cell (Un.fr (Hid.out HX)).blk 8
 have q9 := blk_cell (Un.fr (Hid.out HX)).blk 9
 have q10 := blk_cell (Un.fr (Hid.out HX)).blk 10
 simp at q0 q1 q2 q3 q4 q5 q6 q7 q8 q9 q10
 have hown : World.ownsMap (H := Unit) (w1.alloc (.map #[] 0)) Tryd.prog 5 (plainElem Tryd.prog 3) w1.heap.size 0 (.map []) := World.ownsMap_made _ _ _ _
 have HM := Lib.hid (UnM.made (Hid.out HX))
 go_wp2_with (first
  | (at_lookup; refine wpList_lookup_own_int _ rfl _ _ 124 rfl 5 3 .i64 Tryd.law8 Tryd.underlying124 Tryd.underlying3 (Tryd.zeroI _) _ _ _ rfl (by assumption) _ _ rfl (keyOf_int_mk Tryd.underlying5 (by first | decide | assumption)) ?_; intro cl hat hwc; obtain rfl := (least_at _ _ hat).trans (Hid.out HLst); clear hat hwc; have q0 := blk_cell (Un.fr (UnM.un (Hid.out HM))).blk 0; have q1 := blk_cell (Un.fr (UnM.un (Hid.out HM))).blk 1; have q2 := blk_cell (Un.fr (UnM.un (Hid.out HM))).blk 2; have q3 := blk_cell (Un.fr (UnM.un (Hid.out HM))).blk 3; have q4 := blk_cell (Un.fr (UnM.un (Hid.out HM))).blk 4; have q5 := blk_cell (Un.fr (UnM.un (Hid.out HM))).blk 5; have q6 := blk_cell (Un.fr (UnM.un (Hid.out HM))).blk 6; have q7 := blk_cell (Un.fr (UnM.un (Hid.out HM))).blk 7; have q8 := blk_cell (Un.fr (UnM.un (Hid.out HM))).blk 8; have q9 := blk_cell (Un.fr (UnM.un (Hid.out HM))).blk 9; have q10 := blk_cell (Un.fr (UnM.un (Hid.out HM))).blk 10; simp at q0 q1 q2 q3 q4 q5 q6 q7 q8 q9 q10)
  | (refine insert_own _ rfl _ _ _ 124 rfl 5 3 Tryd.law8 Tryd.underlying124 _ _ _ _ rfl (by assumption) (by unfold maxLen; omega) _ _ _ rfl rfl (keyOf_int_mk Tryd.underlying5 (by decide)) _ [] (plainElem_int Tryd.underlying3 (by decide)) ?_; intro m1 hown hgrow; have HM := Lib.hid (UnM.grow HX.out HM.out hgrow); clear hgrow; have q0 := blk_cell (UnM.un HM.out).fr.blk 0; simp at q0))
 refine (leans_calls _ (⟨2, fl, st, data, pad, code, oth, wgt, al, win, sets⟩ : Fr)).mono ?_
 rintro e w2 ⟨rfl, hb2⟩
 have H2 := Lib.hid ((UnM.un (Hid.out HM)).step hb2)
 clear hb2
 try rw [Hid.out HLn]
 have q0 := blk_cell (Un.fr (Hid.out H2)).blk 0
 have q1 := blk_cell (Un.fr (Hid.out H2)).blk 1
 have q2 := blk_cell (Un.fr (Hid.out H2)).blk 2
 have q3 := blk_cell (Un.fr (Hid.out H2)).blk 3
 have q4 := blk_cell (Un.fr (Hid.out H2)).blk 4
 have q5 := blk_cell (Un.fr (Hid.out H2)).blk 5
 have q6 := blk_cell (Un.fr (Hid.out H2)).blk 6
 have q7 := blk_cell (Un.fr (Hid.out H2)).blk 7
 have q8 := blk_cell (Un.fr (Hid.out H2)).blk 8
 have q9 := blk_cell (Un.fr (Hid.out H2)).blk 9
 have q10 := blk_cell (Un.fr (Hid.out H2)).blk 10
 simp at q0 q1 q2 q3 q4 q5 q6 q7 q8 q9 q10
 have f3 := blk_frozen (Un.fr (Hid.out H2)).blk 3
 have f5 := blk_frozen (Un.fr (Hid.out H2)).blk 5
 have f6 := blk_frozen (Un.fr (Hid.out H2)).blk 6
 have f9 := blk_frozen (Un.fr (Hid.out H2)).blk 9
 go_wp2_with fail
 refine (leans_calls _ (⟨2, fl, st, data, pad, code, oth, wgt, al, win, sets⟩ : Fr)).mono ?_
 rintro e w4 ⟨rfl, hb4⟩
 have H4 := Lib.hid (H2.out.step hb4)
 clear hb4
 rw [HLn.out]
 have q0 := blk_cell (Un.fr (Hid.out H4)).blk 0
 have q1 := blk_cell (Un.fr (Hid.out H4)).blk 1
 have q2 := blk_cell (Un.fr (Hid.out H4)).blk 2
 have q3 := blk_cell (Un.fr (Hid.out H4)).blk 3
 have q4 := blk_cell (Un.fr (Hid.out H4)).blk 4
 have q5 := blk_cell (Un.fr (Hid.out H4)).blk 5
 have q6 := blk_cell (Un.fr (Hid.out H4)).blk 6
 have q7 := blk_cell (Un.fr (Hid.out H4)).blk 7
 have q8 := blk_cell (Un.fr (Hid.out H4)).blk 8
 have q9 := blk_cell (Un.fr (Hid.out H4)).blk 9
 have q10 := blk_cell (Un.fr (Hid.out H4)).blk 10
 simp at q0 q1 q2 q3 q4 q5 q6 q7 q8 q9 q10
 have f3 := blk_frozen (Un.fr (Hid.out H4)).blk 3
 have f5 := blk_frozen (Un.fr (Hid.out H4)).blk 5
 have f6 := blk_frozen (Un.fr (Hid.out H4)).blk 6
 have f9 := blk_frozen (Un.fr (Hid.out H4)).blk 9
 go_wp2_with fail
 refine (leaned_calls _ g g (Nat.le_refl g) (⟨2, fl, st, data, pad, code, oth, wgt, al, win, sets⟩ : Fr) nilS nilS A1 c1 b H4.out.fr H4.out.rd H4.out.hc H4.out.hby H4.out.hl H5.out).mono ?_
 rintro e w5 ⟨A5, c5, rfl, hK5, hc5, hI5, hk5, hb5⟩
 have hS : Un w w5 g (leanF (⟨2, fl, st, data, pad, code, oth, wgt, al, win, sets⟩ : Fr) b) A5 c5 (b.drop 5) :=
  H4.out.stored hk5 hb5 hI5 rfl rfl hK5 hc5 (fun x hx => H4.out.hby x (List.mem_of_mem_drop hx)) (by rw [List.length_drop]; have := H4.out.hl; omega)
 clear hK5 hc5 hI5 hk5 hb5
 obtain ⟨b5, hb5e⟩ : ∃ b5, b.drop 5 = b5 := ⟨_, rfl⟩
 rw [hb5e] at hS HP ⊢
 clear hb5e
 have h4 := hS
 have HS := Lib.hid hS
 clear hS
 go_wp2_with fail
 refine (clone_calls _ _ _ _ b5 h4.rd.now h4.hl).mono ?_
 rintro e w3 ⟨vv, rfl, hO3, hb3⟩
 have H3 := Lib.hid (h4.step hb3)
 have HD := Lib.hid (own_R hO3 (blk_lt h4.fr.blk))
 clear hO3 hb3
 obtain ⟨Av, cv, rfl⟩ := Kd.R_slice (Hid.out HD)
 have f3 := blk_frozen (Un.fr (Hid.out H3)).blk 3
 have q3 := blk_cell (Un.fr (Hid.out H3)).blk 3
 simp at q3
 go_wp2_with fail
 exact HP.out _ _ (HS.out.copied H3.out HD.out)

set_option maxHeartbeats 1000000 in
set_option maxRecDepth 100000 in
theorem read_hlean (w : World) (g : Nat) (A : Option Addr) (c n : Nat) (F : Fr) (b : List Int) (hU : UnCalls w g A n c F b) (ht : F.ty = 1) (hlb : leansB F.ty F.fl = true) (h5 : 5 ≤ b.length) :
  Calls Tryd.prog 61 #[.pointer (some ⟨g, 0, none⟩), .slice A n c] w (RdPost w g (.ok { leanF F b with data := b.drop 5 })) := by
 refine of_post0 fun R hRR => ?_
 have HP := Lib.hid hRR
 obtain ⟨ty, fl, st, data, pad, code, oth, wgt, al, win, sets⟩ := F
 simp only at ht hlb
 subst ht
 have HLn := Lib.hid (hlb)
 have HLst := Lib.hid (show (leastR 1 : Int) = 0 from rfl)
 have b1 : decide ((b.length : Int) < 5) = false := by rw [decide_eq_false_iff_not]; omega
 have b2 : decide (b.length < 5) = false := by rw [decide_eq_false_iff_not]; omega
 have b3 : decide ((b.length : Int) < 0) = false := by rw [decide_eq_false_iff_not]; omega
 have H5 := Lib.hid h5
 clear hRR h5 hlb
 have HU := Lib.hid hU
 have hmm := @run_makeMap Tryd.prog
 clear hU
 go_enter Tryd.func61, Tryd.ntmps61
 go_wp2_with fail
 refine (Hid.out HU).mono ?_
 rintro e w1 ⟨A1, c1, rfl, hX⟩
 have HX := Lib.hid hX
 clear hX
 have q0 := blk_cell (Un.fr (Hid.out HX)).blk 0
 have q1 := blk_cell (Un.fr (Hid.out HX)).blk 1
 have q2 := blk_cell (Un.fr (Hid.out HX)).blk 2
 have q3 := blk_cell (Un.fr (Hid.out HX)).blk 3
 have q4 := blk_cell (Un.fr (Hid.out HX)).blk 4
 have q5 := blk_cell (Un.fr (Hid.out HX)).blk 5
 have q6 := blk_cell (Un.fr (Hid.out HX)).blk 6
 have q7 := blk_cell (Un.fr (Hid.out HX)).blk 7
 have q8 := blk_cell (Un.fr (Hid.out HX)).blk 8
 have q9 := blk_cell (Un.fr (Hid.out HX)).blk 9
 have q10 := blk_cell (Un.fr (Hid.out HX)).blk 10
 simp at q0 q1 q2 q3 q4 q5 q6 q7 q8 q9 q10
 have hown : World.ownsMap (H := Unit) (w1.alloc (.map #[] 0)) Tryd.prog 5 (plainElem Tryd.prog 3) w1.heap.size 0 (.map []) := World.ownsMap_made _ _ _ _
 have HM := Lib.hid (UnM.made (Hid.out HX))
 go_wp2_with (first
  | (at_lookup; refine wpList_lookup_own_int _ rfl _ _ 124 rfl 5 3 .i64 Tryd.law8 Tryd.underlying124 Tryd.underlying3 (Tryd.zeroI _) _ _ _ rfl (by assumption) _ _ rfl (keyOf_int_mk Tryd.underlying5 (by first | decide | assumption)) ?_; intro cl hat hwc; obtain rfl := (least_at _ _ hat).trans (Hid.out HLst); clear hat hwc; have q0 := blk_cell (Un.fr (UnM.un (Hid.out HM))).blk 0; have q1 := blk_cell (Un.fr (UnM.un (Hid.out HM))).blk 1; have q2 := blk_cell (Un.fr (UnM.un (Hid.out HM))).blk 2; have q3 := blk_cell (Un.fr (UnM.un (Hid.out HM))).blk 3; have q4 := blk_cell (Un.fr (UnM.un (Hid.out HM))).blk 4; have q5 := blk_cell (Un.fr (UnM.un (Hid.out HM))).blk 5; have q6 := blk_cell (Un.fr (UnM.un (Hid.out HM))).blk 6; have q7 := blk_cell (Un.fr (UnM.un (Hid.out HM))).blk 7; have q8 := blk_cell (Un.fr (UnM.un (Hid.out HM))).blk 8; have q9 := blk_cell (Un.fr (UnM.un (Hid.out HM))).blk 9; have q10 := blk_cell (Un.fr (UnM.un (Hid.out HM))).blk 10; simp at q0 q1 q2 q3 q4 q5 q6 q7 q8 q9 q10)
  | (refine insert_own _ rfl _ _ _ 124 rfl 5 3 Tryd.law8 Tryd.underlying124 _ _ _ _ rfl (by assumption) (by unfold maxLen; omega) _ _ _ rfl rfl (keyOf_int_mk Tryd.underlying5 (by decide)) _ [] (plainElem_int Tryd.underlying3 (by decide)) ?_; intro m1 hown hgrow; have HM := Lib.hid (UnM.grow HX.out HM.out hgrow); clear hgrow; have q0 := blk_cell (UnM.un HM.out).fr.blk 0; simp at q0))
 refine (leans_calls _ (⟨1, fl, st, data, pad, code, oth, wgt, al, win, sets⟩ : Fr)).mono ?_
 rintro e w2 ⟨rfl, hb2⟩
 have H2 := Lib.hid ((UnM.un (Hid.out HM)).step hb2)
 clear hb2
 try rw [Hid.out HLn]
 have q0 := blk_cell (Un.fr (Hid.out H2)).blk 0
 have q1 := blk_cell (Un.fr (Hid.out H2)).blk 1
 have q2 := blk_cell (Un.fr (Hid.out H2)).blk 2
 have q3 := blk_cell (Un.fr (Hid.out H2)).blk 3
 have q4 := blk_cell (Un.fr (Hid.out H2)).blk 4
 have q5 := blk_cell (Un.fr (Hid.out H2)).blk 5
 have q6 := blk_cell (Un.fr (Hid.out H2)).blk 6
 have q7 := blk_cell (Un.fr (Hid.out H2)).blk 7
 have q8 := blk_cell (Un.fr (Hid.out H2)).blk 8
 have q9 := blk_cell (Un.fr (Hid.out H2)).blk 9
 have q10 := blk_cell (Un.fr (Hid.out H2)).blk 10
 simp at q0 q1 q2 q3 q4 q5 q6 q7 q8 q9 q10
 have f3 := blk_frozen (Un.fr (Hid.out H2)).blk 3
 have f5 := blk_frozen (Un.fr (Hid.out H2)).blk 5
 have f6 := blk_frozen (Un.fr (Hid.out H2)).blk 6
 have f9 := blk_frozen (Un.fr (Hid.out H2)).blk 9
 go_wp2_with fail
 refine (leans_calls _ (⟨1, fl, st, data, pad, code, oth, wgt, al, win, sets⟩ : Fr)).mono ?_
 rintro e w4 ⟨rfl, hb4⟩
 have H4 := Lib.hid (H2.out.step hb4)
 clear hb4
 rw [HLn.out]
 have q0 := blk_cell (Un.fr (Hid.out H4)).blk 0
 have q1 := blk_cell (Un.fr (Hid.out H4)).blk 1
 have q2 := blk_cell (Un.fr (Hid.out H4)).blk 2
 have q3 := blk_cell (Un.fr (Hid.out H4)).blk 3
 have q4 := blk_cell (Un.fr (Hid.out H4)).blk 4
 have q5 := blk_cell (Un.fr (Hid.out H4)).blk 5
 have q6 := blk_cell (Un.fr (Hid.out H4)).blk 6
 have q7 := blk_cell (Un.fr (Hid.out H4)).blk 7
 have q8 := blk_cell (Un.fr (Hid.out H4)).blk 8
 have q9 := blk_cell (Un.fr (Hid.out H4)).blk 9
 have q10 := blk_cell (Un.fr (Hid.out H4)).blk 10
 simp at q0 q1 q2 q3 q4 q5 q6 q7 q8 q9 q10
 have f3 := blk_frozen (Un.fr (Hid.out H4)).blk 3
 have f5 := blk_frozen (Un.fr (Hid.out H4)).blk 5
 have f6 := blk_frozen (Un.fr (Hid.out H4)).blk 6
 have f9 := blk_frozen (Un.fr (Hid.out H4)).blk 9
 go_wp2_with fail
 refine (leaned_calls _ g g (Nat.le_refl g) (⟨1, fl, st, data, pad, code, oth, wgt, al, win, sets⟩ : Fr) nilS nilS A1 c1 b H4.out.fr H4.out.rd H4.out.hc H4.out.hby H4.out.hl H5.out).mono ?_
 rintro e w5 ⟨A5, c5, rfl, hK5, hc5, hI5, hk5, hb5⟩
 have hS : Un w w5 g (leanF (⟨1, fl, st, data, pad, code, oth, wgt, al, win, sets⟩ : Fr) b) A5 c5 (b.drop 5) :=
  H4.out.stored hk5 hb5 hI5 rfl rfl hK5 hc5 (fun x hx => H4.out.hby x (List.mem_of_mem_drop hx)) (by rw [List.length_drop]; have := H4.out.hl; omega)
 clear hK5 hc5 hI5 hk5 hb5
 obtain ⟨b5, hb5e⟩ : ∃ b5, b.drop 5 = b5 := ⟨_, rfl⟩
 rw [hb5e] at hS HP ⊢
 clear hb5e
 have h4 := hS
 have HS := Lib.hid hS
 clear hS
 go_wp2_with fail
 refine (clone_calls _ _ _ _ b5 h4.rd.now h4.hl).mono ?_
 rintro e w3 ⟨vv, rfl, hO3, hb3⟩
 have H3 := Lib.hid (h4.step hb3)
 have HD := Lib.hid (own_R hO3 (blk_lt h4.fr.blk))
 clear hO3 hb3
 obtain ⟨Av, cv, rfl⟩ := Kd.R_slice (Hid.out HD)
 have f3 := blk_frozen (Un.fr (Hid.out H3)).blk 3
 have q3 := blk_cell (Un.fr (Hid.out H3)).blk 3
 simp at q3
 go_wp2_with fail
 exact HP.out _ _ (HS.out.copied H3.out HD.out)
theorem Kd_reads {w : World} {A : Option Addr} {n : Nat} {xs : List Int} (h : (Kd.int .u8).C w A n xs) : ReadsInt w .u8 A n xs := Kd.reads_of_C (d := (0 : Int)) (h1 := fun _ => rfl) h
set_option maxHeartbeats 1000000 in
set_option maxRecDepth 100000 in
theorem read_goaway (w : World) (g : Nat) (A : Option Addr) (c n : Nat) (F : Fr) (b : List Int) (hU : UnCalls w g A n c F b) (ht : F.ty = 7) (h8 : 8 ≤ b.length) :
  Calls Tryd.prog 61 #[.pointer (some ⟨g, 0, none⟩), .slice A n c] w (RdPost w g (.ok { F with code := valL ((b.drop 4).take 4), oth := valL (b.take 4) % 2147483648, data := b.drop 8 })) := by
 refine of_post0 fun R hRR => ?_
 have HP := Lib.hid hRR
 obtain ⟨ty, fl, st, data, pad, code, oth, wgt, al, win, sets⟩ := F
 simp only at ht
 subst ht
 have HLn := Lib.hid (show leansB 7 fl = false from rfl)
 have HLst := Lib.hid (show (leastR 7 : Int) = 8 from rfl)
 have b1 : decide ((b.length : Int) < 8) = false := by rw [decide_eq_false_iff_not]; omega
 have b2 : decide (b.length < 8) = false := by rw [decide_eq_false_iff_not]; omega
 have b3 : (8 : Int) ≤ (b.length : Int) := by omega
 have b4 : (4 : Int) ≤ (b.length : Int) := by omega
 clear hRR
 have HU := Lib.hid hU
 have hmm := @run_makeMap Tryd.prog
 clear hU
 go_enter Tryd.func61, Tryd.ntmps61
 go_wp2_with fail
 refine (Hid.out HU).mono ?_
 rintro e w1 ⟨A1, c1, rfl, hX⟩
 have HX := Lib.hid hX
 clear hX
 have q0 := blk_cell (Un.fr (Hid.out HX)).blk 0
 have q1 := blk_cell (Un.fr (Hid.out HX)).blk 1
 have q2 := blk_cell (Un.fr (Hid.out HX)).blk 2
 have q3 := blk_cell (Un.fr (Hid.out HX)).blk 3
 have q4 := blk_cell (Un.fr (Hid.out HX)).blk 4
 have q5 := blk_cell (Un.fr (Hid.out HX)).blk 5
 have q6 := blk_cell (Un.fr (Hid.out HX)).blk 6
 have q7 := blk_cell (Un.fr (Hid.out HX)).blk 7
 have q8 := blk_cell (Un.fr (Hid.out HX)).blk 8
 have q9 := blk_cell (Un.fr (Hid.out HX)).blk 9
 have q10 := blk_cell (Un.fr (Hid.out HX)).blk 10
 simp at q0 q1 q2 q3 q4 q5 q6 q7 q8 q9 q10
 have hown : World.ownsMap (H := Unit) (w1.alloc (.map #[] 0)) Tryd.prog 5 (plainElem Tryd.prog 3) w1.heap.size 0 (.map []) := World.ownsMap_made _ _ _ _
 have HM := Lib.hid (UnM.made (Hid.out HX))
 go_wp2_with (first
  | (at_lookup; refine wpList_lookup_own_int _ rfl _ _ 124 rfl 5 3 .i64 Tryd.law8 Tryd.underlying124 Tryd.underlying3 (Tryd.zeroI _) _ _ _ rfl (by assumption) _ _ rfl (keyOf_int_mk Tryd.underlying5 (by first | decide | assumption)) ?_; intro cl hat hwc; obtain rfl := (least_at _ _ hat).trans (Hid.out HLst); clear hat hwc; have q0 := blk_cell (Un.fr (UnM.un (Hid.out HM))).blk 0; have q1 := blk_cell (Un.fr (UnM.un (Hid.out HM))).blk 1; have q2 := blk_cell (Un.fr (UnM.un (Hid.out HM))).blk 2; have q3 := blk_cell (Un.fr (UnM.un (Hid.out HM))).blk 3; have q4 := blk_cell (Un.fr (UnM.un (Hid.out HM))).blk 4; have q5 := blk_cell (Un.fr (UnM.un (Hid.out HM))).blk 5; have q6 := blk_cell (Un.fr (UnM.un (Hid.out HM))).blk 6; have q7 := blk_cell (Un.fr (UnM.un (Hid.out HM))).blk 7; have q8 := blk_cell (Un.fr (UnM.un (Hid.out HM))).blk 8; have q9 := blk_cell (Un.fr (UnM.un (Hid.out HM))).blk 9; have q10 := blk_cell (Un.fr (UnM.un (Hid.out HM))).blk 10; simp at q0 q1 q2 q3 q4 q5 q6 q7 q8 q9 q10)
  | (refine insert_own _ rfl _ _ _ 124 rfl 5 3 Tryd.law8 Tryd.underlying124 _ _ _ _ rfl (by assumption) (by unfold maxLen; omega) _ _ _ rfl rfl (keyOf_int_mk Tryd.underlying5 (by decide)) _ [] (plainElem_int Tryd.underlying3 (by decide)) ?_; intro m1 hown hgrow; have HM := Lib.hid (UnM.grow HX.out HM.out hgrow); clear hgrow; have q0 := blk_cell (UnM.un HM.out).fr.blk 0; simp at q0))
 refine (leans_calls _ (⟨7, fl, st, data, pad, code, oth, wgt, al, win, sets⟩ : Fr)).mono ?_
 rintro e w2 ⟨rfl, hb2⟩
 have H2 := Lib.hid ((UnM.un (Hid.out HM)).step hb2)
 clear hb2
 try rw [Hid.out HLn]
 have q0 := blk_cell (Un.fr (Hid.out H2)).blk 0
 have q1 := blk_cell (Un.fr (Hid.out H2)).blk 1
 have q2 := blk_cell (Un.fr (Hid.out H2)).blk 2
 have q3 := blk_cell (Un.fr (Hid.out H2)).blk 3
 have q4 := blk_cell (Un.fr (Hid.out H2)).blk 4
 have q5 := blk_cell (Un.fr (Hid.out H2)).blk 5
 have q6 := blk_cell (Un.fr (Hid.out H2)).blk 6
 have q7 := blk_cell (Un.fr (Hid.out H2)).blk 7
 have q8 := blk_cell (Un.fr (Hid.out H2)).blk 8
 have q9 := blk_cell (Un.fr (Hid.out H2)).blk 9
 have q10 := blk_cell (Un.fr (Hid.out H2)).blk 10
 simp at q0 q1 q2 q3 q4 q5 q6 q7 q8 q9 q10
 have f3 := blk_frozen (Un.fr (Hid.out H2)).blk 3
 have f5 := blk_frozen (Un.fr (Hid.out H2)).blk 5
 have f6 := blk_frozen (Un.fr (Hid.out H2)).blk 6
 have f9 := blk_frozen (Un.fr (Hid.out H2)).blk 9
 have h2 := H2.out
 obtain ⟨i0, hi, _, hsz, _⟩ := info_parts Tryd.infoB8
 obtain ⟨Am, hcut0, hr0, hm0⟩ := print_mid_int (P := Tryd.prog) (k := .u8) 35 5 Tryd.underlying35 hi hsz A1 c1 b 4 8 (by decide) (by decide) (by omega) h2.hc
 obtain ⟨hcut1, hr1, hm1⟩ := print_take_int (P := Tryd.prog) (k := .u8) 35 5 Tryd.underlying35 hi hsz A1 c1 b 4 (by decide) (by omega) h2.hc
 obtain ⟨A8, hcut2, hr2, hm2⟩ := print_drop_of (P := Tryd.prog) (Value.int .u8) (0 : Int) 35 5 .i64 Tryd.underlying35 hi hsz A1 c1 b 8 (by decide) (by omega) h2.hc
 rw [show (4 : Int).toNat = 4 from rfl, show (8 : Int).toNat = 8 from rfl] at hcut0 hr0 hm0
 rw [show (4 : Int).toNat = 4 from rfl] at hcut1 hr1 hm1
 rw [show (8 : Int).toNat = 8 from rfl] at hcut2 hr2 hm2
 have hmid : (b.take 8).drop 4 = (b.drop 4).take 4 := List.drop_take
 rw [hmid] at hcut0 hr0 hm0
 have htm : ((b.drop 4).take 4).length = 4 := by rw [List.length_take, List.length_drop]; omega
 have ht4 : (b.take 4).length = 4 := by rw [List.length_take]; omega
 have hbm : Byte8 ((b.drop 4).take 4) := fun x hx => h2.hby x (List.mem_of_mem_drop (List.mem_of_mem_take hx))
 have hb4 : Byte8 (b.take 4) := fun x hx => h2.hby x (List.mem_of_mem_take hx)
 have hb8 : Byte8 (b.drop 8) := fun x hx => h2.hby x (List.mem_of_mem_drop hx)
 have hl8 : (b.drop 8).length + 4 ≤ 100000 := by rw [List.length_drop]; have := h2.hl; omega
 have hv := valL_bound hb4
 rw [ht4] at hv
 have hlow := low31 hv.1 (by have h256 : (256 : Int) ^ 4 = 4294967296 := rfl; omega : valL (b.take 4) < 4294967296)
 have hV := number_calls w2 Am (c1 - 4) ((b.drop 4).take 4) (by omega) hbm (hr0 w2 h2.rd.now) hm0
 have hK4 : KReads w2 g A1 (b.take 4) := fun W hW => hr1 W (h2.rd W hW)
 have hK8 : KReads w2 g A8 (b.drop 8) := fun W hW => hr2 W (h2.rd W hW)
 generalize valL ((b.drop 4).take 4) = vm at *
 generalize (b.drop 4).take 4 = Lm at *
 obtain ⟨v, hve⟩ : ∃ v, valL (b.take 4) = v := ⟨_, rfl⟩
 rw [hve] at hlow HP
 generalize b.take 4 = L4 at *
 generalize b.drop 8 = L8 at *
 have HX8 := Lib.hid (And.intro hK4 (And.intro hK8 (And.intro ht4 (And.intro hb4 (And.intro hb8 (And.intro hl8 hve))))))
 have HV := Lib.hid hV
 clear h2 hi hsz hr0 hm0 hr1 hm1 hr2 hm2 hmid htm ht4 hbm hb4 hb8 hl8 hv hV hK4 hK8 h8 hve
 go_wp2_with fail
 refine HV.out.mono ?_
 rintro e w3 ⟨rfl, n3, rfl⟩
 go_wp2_with fail
 have hN : Below w2.heap.size w2 (w2.drewN n3) := pw_below_drewN (Below.refl _ _) _
 have hkS := (KeepBut.of_below hN g none).set_ 5 (.int .u32 vm)
 have hS : Un w ((w2.drewN n3).setCell ⟨g, 5, none⟩ (.int .u32 vm)) g (⟨7, fl, st, data, pad, vm, oth, wgt, al, win, sets⟩ : Fr) A1 c1 b :=
  H2.out.stored hkS ((pw_below_drewN (Below.refl _ _) _).setCell (p := ⟨g, 5, none⟩) (Nat.le_refl g) _) ⟨blk_set (blk_drewN H2.out.fr.blk n3) 5 _⟩ rfl rfl H2.out.rd H2.out.hc H2.out.hby H2.out.hl
 have hK4 := HX8.out.1.keep hkS
 have hK8 := HX8.out.2.1.keep hkS
 clear hN hkS
 generalize (w2.drewN n3).setCell ⟨g, 5, none⟩ (.int .u32 vm) = wS at hS hK4 hK8 ⊢
 have HS := Lib.hid (And.intro hS (And.intro hK4 hK8))
 clear hS hK4 hK8 HM HX H2 HU
 refine start_ (n := 7) (S := fun w' => True) (ds := []) #[false, false, false, false, false, false, false] (by kernel_rfl) rfl rfl trivial (fun hHeld => ?_)
 have hdr : Below wS.heap.size wS wS.drew := below_drew (Below.refl _ _)
 have HD0 := Lib.hid (And.intro (HS.out.1.step hdr) (And.intro (HS.out.2.1.keep (KeepBut.of_below hdr g none)) (HS.out.2.2.keep (KeepBut.of_below hdr g none))))
 have HDr := Lib.hid hdr
 clear hdr
 generalize wS.drew = wd at HD0 HDr hHeld ⊢
 refine pure_ (i := 0) (N := some 116) (v := ?_) (a' := ?_) #[true, false, false, false, false, false, false] rfl rfl (by kernel_rfl) (fun _ _ _ h => h) (Or.inl ⟨by rfl, ?_⟩) ?_ ?_
 rotate_left
 ·intro w'
  go_simp
  with_reducible rfl
 rotate_left
 ·simp only [Act.put, putA, putB, putC]
  rfl
 refine pure_ (i := 1) (N := some 117) (v := ?_) (a' := ?_) #[true, true, false, false, false, false, false] rfl rfl (by kernel_rfl) (fun _ _ _ h => h) (Or.inl ⟨by rfl, ?_⟩) ?_ ?_
 rotate_left
 ·intro w'
  go_simp
  with_reducible rfl
 rotate_left
 ·simp only [Act.put, putA, putB, putC]
  rfl
 refine pure_ (i := 3) (N := some 119) (v := ?_) (a' := ?_) #[true, true, false, true, false, false, false] rfl rfl (by kernel_rfl) (fun _ _ _ h => h) (Or.inl ⟨by rfl, ?_⟩) ?_ ?_
 rotate_left
 ·intro w'
  go_simp
  with_reducible rfl
 rotate_left
 ·simp only [Act.put, putA, putB, putC]
  rfl
 refine pure_ (i := 4) (N := some 120) (v := ?_) (a' := ?_) #[true, true, false, true, true, false, false] rfl rfl (by kernel_rfl) (fun _ _ _ h => h) (Or.inl ⟨by rfl, ?_⟩) ?_ ?_
 rotate_left
 ·intro w'
  go_simp
  with_reducible rfl
 rotate_left
 ·simp only [Act.put, putA, putB, putC]
  rfl
 refine one_ (i := 2) (N := some 118) #[true, true, true, true, true, false, false] rfl rfl (by kernel_rfl) (by decide) (fun K hK => ?_)
 refine goes_ Tryd.func68 (by kernel_rfl) rfl #[.slice A1 L4.length c1] (by rfl) rfl rfl (by (try simp only [List.map_toArray, List.map_cons, List.map_nil]); first | done | rfl) ?_
 refine (clone_calls _ A1 L4.length c1 L4 HD0.out.2.1.now (by have := HX8.out.2.2.1; omega)).mono ?_
 rintro e w4 ⟨vv, rfl, hO4, hb4⟩
 have H4 := Lib.hid (And.intro hb4 (own_R hO4 (blk_lt HD0.out.1.fr.blk)))
 clear hO4 hb4
 refine ⟨_, rfl, ?_⟩
 refine hK.out _ _ trivial (fun hHeld => ?_)
 clear hK K
 refine norm_ (a' := ?_) ?_ ?_
 rotate_left
 ·show Act.put _ (some 118) _ = _
  simp only [Act.put, putA, putB, putC]
  rfl
 refine one_ (i := 5) (N := some 121) #[true, true, true, true, true, true, false] rfl rfl (by kernel_rfl) (by decide) (fun K hK => ?_)
 refine Kd.R_append_rows_step (Rr := (Kd.int .u8).K w4) (w0 := wd) (Kd.int .u8) wd.heap.size (by rfl) (.tmp 118) (.tmp 120) 35 5 (.int .u8 0) 1 (by rfl) Tryd.underlying35 Tryd.infoB8 (by decide) (by decide) (by decide) vv L4 L8 A8 L8.length (c1 - 8) (fun k => k ≠ g) (fun _ => False) (by rfl) (by rfl) H4.out.2 (Kd.C_of_reads (d := (0 : Int)) (h1 := fun _ => rfl) (HD0.out.2.2.keep (KeepBut.of_below H4.out.1 g none)).now) (fun _ _ h => h) (fun _ h => h.elim) (fun k hk => by have := blk_lt (HD0.out.1.step H4.out.1).fr.blk; omega) H4.out.1 H4.out.1.size (by have := HX8.out.2.2.1; have := HX8.out.2.2.2.2.2.1; omega) ?_
 intro v1 w5 hrow hbel hgrow hat
 obtain ⟨Av, cv, rfl⟩ := Kd.R_slice hrow
 have hcv : (L4 ++ L8).length ≤ cv := (Kd.R_reads' hrow).2.1
 have hKR : KReads w5 g Av (L4 ++ L8) := fun W hW => Kd_reads (Kd.C_foot_own hrow (fun k hk => hk) W hW)
 have hU5 : Un w w5 g (⟨7, fl, st, data, pad, vm, oth, wgt, al, win, sets⟩ : Fr) Av cv (L4 ++ L8) := (HD0.out.1.step hbel).stored (KeepBut.refl _ _ _) (Below.refl _ _) (HD0.out.1.step hbel).fr rfl rfl hKR hcv (fun x hx => (List.mem_append.1 hx).elim (HX8.out.2.2.2.1 x) (HX8.out.2.2.2.2.1 x)) (by rw [List.length_append]; have := HX8.out.2.2.1; have := HX8.out.2.2.2.2.2.1; omega)
 have H5 := Lib.hid hU5
 clear hrow hbel hgrow hat hcv hKR hU5
 obtain ⟨B, hBe⟩ : ∃ B, L4 ++ L8 = B := ⟨_, rfl⟩
 rw [hBe] at H5 ⊢
 refine hK.out _ _ trivial (fun hHeld => ?_)
 clear hK K
 refine norm_ (a' := ?_) ?_ ?_
 rotate_left
 ·show Act.put _ (some 121) _ = _
  simp only [Act.put, putA, putB, putC]
  rfl
 refine pure_ (i := 6) (N := some 1) (v := ?_) (a' := ?_) #[true, true, true, true, true, true, true] rfl rfl (by kernel_rfl) (fun _ _ _ h => h) (Or.inl ⟨by rfl, ?_⟩) ?_ ?_
 rotate_left
 ·intro w'
  go_simp
  with_reducible rfl
 rotate_left
 ·simp only [Act.put, putA, putB, putC]
  rfl
 refine done_ (by kernel_rfl) ?_
 have h2 := H5.out
 have hBl : 4 ≤ B.length := by rw [← hBe, List.length_append]; have := HX8.out.2.2.1; omega
 have hB4 : B.take 4 = L4 := by rw [← hBe]; exact List.take_left' HX8.out.2.2.1
 have hB8 : B.drop 4 = L8 := by rw [← hBe]; exact List.drop_left' HX8.out.2.2.1
 obtain ⟨i0, hi, _, hsz, _⟩ := info_parts Tryd.infoB8
 obtain ⟨hcut1, hr1, hm1⟩ := print_take_int (P := Tryd.prog) (k := .u8) 35 5 Tryd.underlying35 hi hsz Av cv B 4 (by decide) (by omega) h2.hc
 obtain ⟨A4, hcut2, hr2, hm2⟩ := print_drop_of (P := Tryd.prog) (Value.int .u8) (0 : Int) 35 5 .i64 Tryd.underlying35 hi hsz Av cv B 4 (by decide) (by omega) h2.hc
 rw [show (4 : Int).toNat = 4 from rfl] at hcut1 hr1 hm1 hcut2 hr2 hm2
 rw [hB4] at hcut1 hr1 hm1
 rw [hB8] at hcut2 hr2 hm2
 have hV := number_calls w5 Av cv L4 (by have := HX8.out.2.2.1; omega) HX8.out.2.2.2.1 (hr1 w5 h2.rd.now) hm1
 rw [HX8.out.2.2.2.2.2.2] at hV
 have hK8 : KReads w5 g A4 L8 := fun W hW => hr2 W (h2.rd W hW)
 have HX9 := Lib.hid (And.intro hK8 hm2)
 have HV2 := Lib.hid hV
 have b5 : (4 : Int) ≤ (B.length : Int) := by omega
 clear h2 hi hsz hr1 hm1 hr2 hm2 hV hK8 hBe hB4 hB8 hBl
 have q0 := blk_cell (Un.fr (Hid.out H5)).blk 0
 have q1 := blk_cell (Un.fr (Hid.out H5)).blk 1
 have q2 := blk_cell (Un.fr (Hid.out H5)).blk 2
 have q3 := blk_cell (Un.fr (Hid.out H5)).blk 3
 have q4 := blk_cell (Un.fr (Hid.out H5)).blk 4
 have q5 := blk_cell (Un.fr (Hid.out H5)).blk 5
 have q6 := blk_cell (Un.fr (Hid.out H5)).blk 6
 have q7 := blk_cell (Un.fr (Hid.out H5)).blk 7
 have q8 := blk_cell (Un.fr (Hid.out H5)).blk 8
 have q9 := blk_cell (Un.fr (Hid.out H5)).blk 9
 have q10 := blk_cell (Un.fr (Hid.out H5)).blk 10
 simp at q0 q1 q2 q3 q4 q5 q6 q7 q8 q9 q10
 have f3 := blk_frozen (Un.fr (Hid.out H5)).blk 3
 have f5 := blk_frozen (Un.fr (Hid.out H5)).blk 5
 have f6 := blk_frozen (Un.fr (Hid.out H5)).blk 6
 have f9 := blk_frozen (Un.fr (Hid.out H5)).blk 9
 go_wp2_with fail
 refine HV2.out.mono ?_
 rintro e w6 ⟨rfl, n6, rfl⟩
 go_wp2_with fail
 have hN : Below w5.heap.size w5 (w5.drewN n6) := pw_below_drewN (Below.refl _ _) _
 have hS : Un w ((w5.drewN n6).setCell ⟨g, 6, none⟩ (.int .u32 (v % 2147483648))) g (⟨7, fl, st, data, pad, vm, v % 2147483648, wgt, al, win, sets⟩ : Fr) A4 (cv - 4) L8 :=
  H5.out.stored ((KeepBut.of_below hN g none).set_ 6 _) ((pw_below_drewN (Below.refl _ _) _).setCell (p := ⟨g, 6, none⟩) (Nat.le_refl g) _) ⟨blk_set (blk_drewN H5.out.fr.blk n6) 6 _⟩ rfl rfl HX9.out.1 HX9.out.2 HX8.out.2.2.2.2.1 (by have := HX8.out.2.2.2.2.2.1; omega)
 clear hN
 generalize (w5.drewN n6).setCell ⟨g, 6, none⟩ (.int .u32 (v % 2147483648)) = wT at hS ⊢
 refine (clone_calls _ _ _ _ L8 hS.rd.now hS.hl).mono ?_
 rintro e w3 ⟨vv, rfl, hO3, hb3⟩
 have H3 := Lib.hid (hS.step hb3)
 have HD := Lib.hid (own_R hO3 (blk_lt hS.fr.blk))
 clear hO3 hb3
 obtain ⟨Av, cv, rfl⟩ := Kd.R_slice (Hid.out HD)
 have f3 := blk_frozen (Un.fr (Hid.out H3)).blk 3
 have q3 := blk_cell (Un.fr (Hid.out H3)).blk 3
 simp at q3
 go_wp2_with fail
 exact HP.out _ _ (hS.copied H3.out HD.out)

theorem read_body (w : World) (g : Nat) (A : Option Addr) (c n : Nat) (F : Fr) (b : List Int) (hU : UnCalls w g A n c F b) (hw : (Lit.int .u8 F.ty).wf = true) :
  Calls Tryd.prog 61 #[.pointer (some ⟨g, 0, none⟩), .slice A n c] w (RdPost w g (bodyR F b)) := by
 unfold bodyR
 by_cases h1 : F.ty = 2 ∧ b.length ≠ 5
 ·rw [if_pos h1]
  exact read_pri w g A c n F b hU h1.1 h1.2
 rw [if_neg h1]
 by_cases h2 : shortR F b
 ·rw [if_pos h2]
  rcases h2 with ⟨hl, h5⟩ | hl | ⟨h0, n5, n7, hl⟩
  ·by_cases ht : F.ty = 1
   ·exact read_lean w g A c n F b hU ht hl h5
   ·exfalso
    unfold leansB at hl
    by_cases h22 : F.ty = 2
    ·omega
    ·rw [if_neg h22, if_neg ht] at hl; cases hl
  ·refine read_less w g A c n F b hU ?_ hl
   unfold leastR at hl
   split at hl
   ·omega
   ·split at hl
    ·omega
    ·omega
  ·refine read_more w g A c n F b hU ?_ hl
   unfold leastR at h0
   split at h0
   ·omega
   ·split at h0
    ·omega
    ·omega
 rw [if_neg h2]
 have h3 : ¬ (leansB F.ty F.fl = true ∧ b.length < 5) := fun h => h2 (.inl h)
 have h4 : ¬ b.length < leastR F.ty := fun h => h2 (.inr (.inl h))
 have h5 : ¬ (0 < leastR F.ty ∧ F.ty ≠ 5 ∧ F.ty ≠ 7 ∧ leastR F.ty < b.length) := fun h => h2 (.inr (.inr h))
 by_cases t4 : F.ty = 4
 ·rw [if_pos t4]; exact read_sets w g A c n F b hU t4
 rw [if_neg t4]
 by_cases t3 : F.ty = 3
 ·rw [if_pos t3]
  have hL : leastR F.ty = 4 := by rw [t3]; rfl
  exact read_reset w g A c n F b hU t3 (by omega)
 rw [if_neg t3]
 by_cases t8 : F.ty = 8
 ·rw [if_pos t8]
  have hL : leastR F.ty = 4 := by rw [t8]; rfl
  exact read_window w g A c n F b hU t8 (by omega)
 rw [if_neg t8]
 by_cases t7 : F.ty = 7
 ·rw [if_pos t7]
  have hL : leastR F.ty = 8 := by rw [t7]; rfl
  exact read_goaway w g A c n F b hU t7 (by omega)
 rw [if_neg t7]
 by_cases t5 : F.ty = 5
 ·rw [if_pos t5]
  have hL : leastR F.ty = 4 := by rw [t5]; rfl
  exact read_push w g A c n F b hU t5 (by omega)
 rw [if_neg t5]
 by_cases t2 : F.ty = 2
 ·have hl : leansB F.ty F.fl = true := by rw [t2]; rfl
  rw [if_pos hl]
  exact read_pri5 w g A c n F b hU t2 (by omega)
 by_cases t1 : F.ty = 1
 ·by_cases hl : leansB F.ty F.fl = true
  ·rw [if_pos hl]
   exact read_hlean w g A c n F b hU t1 hl (Nat.le_of_not_lt fun h => h3 ⟨hl, h⟩)
  ·rw [if_neg hl]
   exact read_headers w g A c n F b hU t1 (by simpa using hl)
 have hl : ¬ leansB F.ty F.fl = true := by unfold leansB; rw [if_neg t2, if_neg t1]; simp
 rw [if_neg hl]
 by_cases t6 : F.ty = 6
 ·have hL : leastR F.ty = 8 := by rw [t6]; rfl
  exact read_ping w g A c n F b hU t6 (by omega)
 ·exact read_plain w g A c n F b hU hw ⟨t1, t2, t3, t4, t5, t6, t7, t8⟩
set_option maxHeartbeats 1000000 in
set_option maxRecDepth 100000 in
theorem read_padbad (w : World) (g : Nat) (hg : g < w.heap.size) (A : Option Addr) (c n : Nat) (code : Int)
  (hU : Calls Tryd.prog 78 #[.pointer (some ⟨g, 0, none⟩), .slice A n c] w fun e w' => (KeepBut w w' g none ∧ Below g w w') ∧ ∃ v, e = .returned (.tuple #[.slice none 0 0, v]) ∧ Err w' 0 v 1 code) :
  Calls Tryd.prog 61 #[.pointer (some ⟨g, 0, none⟩), .slice A n c] w (RdPost w g (.bad 1 code)) := by
 refine of_post0 fun R hRR => ?_
 have HP := Lib.hid hRR
 have HU := Lib.hid hU
 have HG := Lib.hid hg
 clear hRR hU hg
 go_enter Tryd.func61, Tryd.ntmps61
 go_wp2_with fail
 refine HU.out.mono ?_
 rintro e w1 ⟨⟨hk, hb⟩, v, rfl, hE⟩
 obtain ⟨T, p, rfl⟩ := hE.form
 have HX := Lib.hid (And.intro hk (And.intro hb hE))
 clear hk hb hE
 go_wp2_with fail
 refine (wrap_err 0 _ _ 1 code _ HX.out.2.2).mono ?_
 rintro e w2 ⟨v, rfl, hb2, hE2⟩
 have HY := Lib.hid (And.intro hb2 hE2)
 clear hb2 hE2
 go_wp2_with fail
 exact HP.out _ _ ⟨⟨HX.out.1.trans (KeepBut.of_below HY.out.1 g none) (.inl rfl), HX.out.2.1.trans (HY.out.1.mono (Nat.le_trans (Nat.le_of_lt HG.out) HX.out.1.1))⟩, _, _, rfl, HY.out.2⟩
def readR (F : Fr) (l : List Int) : Frd := match unpadR F.ty F.fl F.pad l with
 | .bad code => .bad 1 code
 | .ok from_ n p => bodyR { F with pad := p } ((l.drop from_).take n)
theorem read_calls (w : World) (g : Nat) (hg : g < w.heap.size) (F : Fr) (A : Option Addr) (c : Nat) (l : List Int) (hF : IsFr w g F nilS nilS) (hs : F.sets = []) (hd : F.data = []) (hR : KReads w g A l) (hc : l.length ≤ c) (hby : Byte8 l) (hl : l.length ≤ 100000)
  (hw : (Lit.int .u8 F.ty).wf = true) : Calls Tryd.prog 61 #[.pointer (some ⟨g, 0, none⟩), .slice A l.length c] w (RdPost w g (readR F l)) := by
 have hU := unpad_calls w g g (Nat.le_refl g) (Nat.le_of_lt hg) F nilS nilS A c l hF hR hc hby hl
 unfold readR
 cases hr : unpadR F.ty F.fl F.pad l with
 | bad code =>
  rw [hr] at hU
  refine read_padbad w g hg A c l.length code (hU.mono ?_)
  rintro e w' ⟨hk, v, he, hE, _⟩
  exact ⟨hk, v, he, hE⟩
 | ok from_ n p =>
  rw [hr] at hU
  refine read_body w g A c l.length { F with pad := p } ((l.drop from_).take n) (hU.mono ?_) hw
  rintro e w' ⟨⟨hk, hb⟩, A', c', he, hn, hK, hc', hI⟩
  refine ⟨A', c', by rw [he, hn], ⟨hk, hb, hI, ?_, by rw [hn]; exact hc', fun x hx => hby x (List.mem_of_mem_drop (List.mem_of_mem_take hx)), ?_, hg, hs, hd⟩⟩
  ·exact hK.keep hk
  ·rw [List.length_take, List.length_drop]; omega

theorem full_store {P : Program} {W : World} {g T t : Nat} {cs c' : Array Value} {o : Oper} {a : Act} (p x : Operand) (ho : o.op = .store T p x) (hp : a.eval p = .pointer (some ⟨g, 0, none⟩)) (hx : a.eval x = .agg c')
  (hW : W.heap[g]? = some (.cells cs t (0, 0))) (hs : cs.size = c'.size) (hi : (P.info? T).map (·.size) = some c'.toList.length) (h1 : ∀ q ∈ c'.toList, q.oneCell' = true) :
  ∃ W', (execOp a.eval o).run P W = .ok .skip W' ∧ W'.heap[g]? = some (.cells c' t (0, 0)) ∧ (∀ k, k ≠ g → W'.heap[k]? = W.heap[k]?) ∧ W'.heap.size = W.heap.size ∧ Below g W W' := by
 have hrun := run_store_run (P := P) T (.agg c') c'.toList hW (o := 0) rfl hi (by simp [hs]) h1
 obtain ⟨cur', h3, h4, h5⟩ := setCells_row c'.toList 0 W cs hW (by simp [hs])
 obtain ⟨s1, s2, s3, s4⟩ := setCells_same g c'.toList 0 W
 have hc : cur' = c' := by
  apply Array.ext'
  rw [h5, List.take_zero, List.nil_append, List.drop_eq_nil_of_le (by simp [hs]), List.append_nil]
 subst hc
 refine ⟨W.setCells g 0 cur'.toList, ?_, h3, fun k hk => setCells_far _ 0 k hk, s4, ⟨s1, s2, s3, Nat.le_of_eq s4.symm, fun k hk => setCells_far _ 0 k (by omega)⟩⟩
 unfold execOp
 simp only [ho, hp, hx, Sem.run_bind, Sem.run_pure, Result.andThen_ok, hrun]
theorem store_step {P : Program} {ops : Array Oper} {Q : Exit → Act → World → Prop} {Kc : Act → World → Prop} {W : World} {g T t : Nat} {cs : Array Value} (c' : Array Value) {o : Oper} {a : Act} (p x : Operand) (hw : Region.wanted o (yielded ops a.tmps) = true) (hN : o.dst = none) (ho : o.op = .store T p x) (hp : a.eval p = .pointer (some ⟨g, 0, none⟩)) (hx : a.eval x = .agg c')
  (hW : W.heap[g]? = some (.cells cs t (0, 0))) (hs : cs.size = c'.size) (hi : (P.info? T).map (·.size) = some c'.toList.length) (h1 : ∀ q ∈ c'.toList, q.oneCell' = true)
  (h : ∀ W', W'.heap[g]? = some (.cells c' t (0, 0)) → (∀ k, k ≠ g → W'.heap[k]? = W.heap[k]?) → W'.heap.size = W.heap.size → Below g W W' → Kc a W') : if Region.wanted o (yielded ops a.tmps) = true then Oper.wp P o a W Kc Q else Kc (a.put none undef) W := by
 obtain ⟨W', hr, h2, h3, h4, h5⟩ := full_store p x ho hp hx hW hs hi h1
 exact skip_ hw hN hr (h W' h2 h3 h4 h5)
structure GW (w W : World) (N : Fr) : Prop where
 b2 : ∃ cs, W.heap[w.heap.size]? = some (.cells cs 38 (0, 0)) ∧ cs.size = 11
 b3 : ∃ cs, W.heap[w.heap.size + 1]? = some (.cells cs 24 (0, 0)) ∧ cs.size = 2
 b4 : W.heap[w.heap.size + 1 + 1]? = some (.cells (frC N nilS nilS) 38 (0, 0))
 bel : Below w.heap.size w W
theorem GW.step {w W W' : World} {N : Fr} (h : GW w W N) (hb : Below W.heap.size W W') : GW w W' N := by
 obtain ⟨⟨c2, h2, s2⟩, ⟨c3, h3, s3⟩, h4, hbel⟩ := h
 exact ⟨⟨c2, blk_below h2 hb, s2⟩, ⟨c3, blk_below h3 hb, s3⟩, blk_below h4 hb, hbel.trans (hb.mono hbel.size)⟩
abbrev zeroF : Fr := ⟨0, 0, 0, [], 0, 0, 0, 0, false, 0, []⟩
abbrev noneF : Fr := ⟨0, 0, 0, [], -1, 0, 0, 0, false, 0, []⟩
theorem GW.start (w : World) : GW w (((w.alloc (.cells (frC zeroF nilS nilS) 38)).alloc (.cells #[.int .u8 0, .int .u32 0] 24)).alloc (.cells (frC noneF nilS nilS) 38)) noneF := by
 have h2 := blk_new w (.cells (frC zeroF nilS nilS) 38)
 have h3 := blk_new (w.alloc (.cells (frC zeroF nilS nilS) 38)) (.cells #[.int .u8 0, .int .u32 0] 24)
 have h4 := blk_new ((w.alloc (.cells (frC zeroF nilS nilS) 38)).alloc (.cells #[.int .u8 0, .int .u32 0] 24)) (.cells (frC noneF nilS nilS) 38)
 have e3 : (w.alloc (.cells (frC zeroF nilS nilS) 38)).heap.size = w.heap.size + 1 := by simp
 have e4 : ((w.alloc (.cells (frC zeroF nilS nilS) 38)).alloc (.cells #[.int .u8 0, .int .u32 0] 24)).heap.size = w.heap.size + 1 + 1 := by simp
 rw [e3] at h3
 rw [e4] at h4
 exact ⟨⟨_, blk_alloc (blk_alloc h2 _) _, rfl⟩, ⟨_, blk_alloc h3 _, rfl⟩, h4, below_alloc (below_alloc (below_alloc (Below.refl _ _) _) _) _⟩
theorem GW.answer {w W W1 W2 : World} {N : Fr} {c2 c3 : Array Value} (h : GW w W N) (h2 : W1.heap[w.heap.size]? = some (.cells c2 38 (0, 0))) (hb1 : Below w.heap.size W W1) (hf : ∀ k, k ≠ w.heap.size + 1 → W2.heap[k]? = W1.heap[k]?) (h3 : W2.heap[w.heap.size + 1]? = some (.cells c3 24 (0, 0))) (hb2 : Below (w.heap.size + 1) W1 W2) :
  W2.heap[w.heap.size]? = some (.cells c2 38 (0, 0)) ∧ W2.heap[w.heap.size + 1]? = some (.cells c3 24 (0, 0)) ∧ Below w.heap.size w W2 :=
 ⟨(hf _ (by omega)).trans h2, h3, h.bel.trans (hb1.trans (hb2.mono (by omega)))⟩
theorem Tryd.infoFr : (Tryd.prog.info? 38).map (·.size) = some 11 := by kernel_rfl
theorem Tryd.infoFa : (Tryd.prog.info? 24).map (·.size) = some 2 := by kernel_rfl
set_option maxHeartbeats 1000000 in
set_option maxRecDepth 100000 in
theorem get_short (w : World) (hgv : GV w) (A : Option Addr) (c : Nat) (l : List Int) (hR : ReadsInt w .u8 A l.length l) (hc : l.length ≤ c) (hby : Byte8 l) (hl : l.length ≤ 20000000) (hn : ¬ (9 ≤ l.length ∧ headN l = (l.length : Int))) :
  Calls Tryd.prog 27 #[.slice A l.length c] w fun e w' => Below w.heap.size w w' ∧ e = .returned (.tuple #[.agg (frC noneF nilS nilS), .agg #[.int .u8 1, .int .u32 6]]) := by
 refine of_post0 fun R hRR => ?_
 have HP := Lib.hid hRR
 have HR := Lib.hid (And.intro hR (And.intro hc (And.intro hby hgv)))
 have hpick : (!decide (9 ≤ l.length)) = true ∨ ((!decide (9 ≤ l.length)) = false ∧ (headN l != (l.length : Int)) = true) := by
  by_cases h9 : 9 ≤ l.length
  ·right
   refine ⟨by simp [h9], ?_⟩
   rw [bne_iff_ne]
   exact fun h => hn ⟨h9, h⟩
  ·left
   simp [h9]
 have HK := Lib.hid hpick
 clear hRR hR hc hby hn hgv hpick
 go_enter Tryd.func27, Tryd.ntmps27
 go_wp2_with fail
 have HG := Lib.hid (GW.start w)
 refine (head_calls _ A c l HR.out.2.2.1 (HR.out.1.below HG.out.bel) HR.out.2.1).mono ?_
 rintro e w1 ⟨rfl, n1, rfl⟩
 have HG1 := Lib.hid (HG.out.step (pw_below_drewN (Below.refl _ _) n1))
 generalize World.drewN _ n1 = w1 at HG1 ⊢
 clear HG
 have hk := HK.out
 generalize headN l = hn at hk ⊢
 generalize decide (9 ≤ l.length) = h9 at hk ⊢
 cases h9
 ·clear hk
  go_wp2_with fail
  have hdr : GW w w1.drew noneF := (HG1).out.step (below_drew (Below.refl _ _))
  have hd4 := hdr.b4
  refine start_ (n := 5) (S := fun w' => w'.heap[w.heap.size + 1 + 1]? = some (.cells (frC noneF nilS nilS) 38 (0, 0))) (ds := [3, 4]) #[false, false, false, false, false] (by kernel_rfl) rfl rfl hd4 (fun hHeld => ?_)
  have HD := Lib.hid hdr
  clear hdr hd4
  generalize w1.drew = wd at HD hHeld ⊢
  refine take_ (i := 0) (N := some 23) (v := ?_) (a' := ?_) #[true, false, false, false, false] rfl rfl (by kernel_rfl) (fun _ _ _ h => h) (Or.inl ⟨by rfl, ?_⟩) hHeld ?_ ?_
  rotate_left
  ·intro w' s
   have s0 := blk_cell s 0
   have s1 := blk_cell s 1
   have s2 := blk_cell s 2
   have s3 := blk_cell s 3
   have s4 := blk_cell s 4
   have s5 := blk_cell s 5
   have s6 := blk_cell s 6
   have s7 := blk_cell s 7
   have s8 := blk_cell s 8
   have s9 := blk_cell s 9
   have s10 := blk_cell s 10
   simp at s0 s1 s2 s3 s4 s5 s6 s7 s8 s9 s10
   go_simp
   with_reducible rfl
  rotate_left
  ·simp only [Act.put, putA, putB, putC]
   rfl
  refine one_ (i := 1) (N := some 24) #[true, true, false, false, false] rfl rfl (by kernel_rfl) (by decide) (fun K hK => ?_)
  refine goes_ Tryd.func59 (by kernel_rfl) rfl #[] (by rfl) rfl rfl (by (try simp only [List.map_toArray, List.map_cons, List.map_nil]); first | done | rfl) ?_
  refine (size_calls _).mono ?_
  rintro e w4 ⟨v, rfl, hb4, hE4⟩
  obtain ⟨T, p, rfl⟩ := hE4.form
  have HD2 := Lib.hid (And.intro (HD.out.step hb4) hE4)
  clear hb4 hE4
  refine ⟨_, rfl, ?_⟩
  refine hK.out _ _ HD2.out.1.b4 (fun hHeld => ?_)
  clear hK K
  refine norm_ (a' := ?_) ?_ ?_
  rotate_left
  ·show Act.put _ (some 24) _ = _
   simp only [Act.put, putA, putB, putC]
   rfl
  refine one_ (i := 2) (N := some 25) #[true, true, true, false, false] rfl rfl (by kernel_rfl) (by decide) (fun K hK => ?_)
  refine goes_ Tryd.func18 (by kernel_rfl) rfl #[.iface T (.pointer (some ⟨p, 0, none⟩))] (by rfl) rfl rfl (by (try simp only [List.map_toArray, List.map_cons, List.map_nil]); first | done | rfl) ?_
  refine (of_err 0 _ 1 6 _ ((HR.out.2.2.2).below HD2.out.1.bel) HD2.out.2).mono ?_
  rintro e w5 ⟨rfl, hb5⟩
  have HD3 := Lib.hid (HD2.out.1.step hb5)
  clear hb5
  refine ⟨_, rfl, ?_⟩
  refine hK.out _ _ HD3.out.b4 (fun hHeld => ?_)
  clear hK K
  refine norm_ (a' := ?_) ?_ ?_
  rotate_left
  ·show Act.put _ (some 25) _ = _
   simp only [Act.put, putA, putB, putC]
   rfl
  obtain ⟨c2, hc2, hs2⟩ := HD3.out.b2
  obtain ⟨c3, hc3, hs3⟩ := HD3.out.b3
  refine last_ (i := 3) (N := none) #[true, true, true, true, false] rfl rfl (by kernel_rfl) (by decide) (fun K hK => ?_)
  refine store_step (g := w.heap.size) (T := 38) (frC noneF nilS nilS) (.tmp 2) (.tmp 23) (by rfl) rfl rfl (by rfl) (by rfl) hc2 hs2 Tryd.infoFr (by simp [Value.oneCell']) ?_
  intro w6 hh6 hf6 hz6 hb6
  refine hK.out _ _ ?_
  clear hK K
  refine last_ (i := 4) (N := none) #[true, true, true, true, true] rfl rfl (by kernel_rfl) (by decide) (fun K hK => ?_)
  refine store_step (g := w.heap.size + 1) (T := 24) #[.int .u8 1, .int .u32 6] (.tmp 3) (.tmp 25) (by rfl) rfl rfl (by rfl) (by rfl) ((hf6 _ (by omega)).trans hc3) hs3 Tryd.infoFa (by simp [Value.oneCell']) ?_
  intro w7 hh7 hf7 hz7 hb7
  refine hK.out _ _ ?_
  clear hK K
  refine done_ (by kernel_rfl) ?_
  have HZ := Lib.hid (HD3.out.answer hh6 hb6 hf7 hh7 hb7)
  clear hh6 hb6 hf6 hz6 hf7 hh7 hb7 hz7 hc2 hs2 hc3 hs3
  go_wp2_with fail
  exact bodyPost_ret (results_cc rfl _ _ w.heap.size (w.heap.size + 1) 38 24 (frC noneF nilS nilS) #[.int .u8 1, .int .u32 6] (0, 0) (0, 0) _ _ rfl HZ.out.1 Tryd.underlying38 rfl Tryd.infoFr rfl HZ.out.2.1 Tryd.underlying24 rfl Tryd.infoFa) rfl (HP.out _ _ ⟨HZ.out.2.2, rfl⟩)
 ·have hk2 : (hn != (l.length : Int)) = true := by simpa using hk
  clear hk
  go_wp2_with fail
  have hdr : GW w w1.drew noneF := (HG1).out.step (below_drew (Below.refl _ _))
  have hd4 := hdr.b4
  refine start_ (n := 5) (S := fun w' => w'.heap[w.heap.size + 1 + 1]? = some (.cells (frC noneF nilS nilS) 38 (0, 0))) (ds := [3, 4]) #[false, false, false, false, false] (by kernel_rfl) rfl rfl hd4 (fun hHeld => ?_)
  have HD := Lib.hid hdr
  clear hdr hd4
  generalize w1.drew = wd at HD hHeld ⊢
  refine take_ (i := 0) (N := some 23) (v := ?_) (a' := ?_) #[true, false, false, false, false] rfl rfl (by kernel_rfl) (fun _ _ _ h => h) (Or.inl ⟨by rfl, ?_⟩) hHeld ?_ ?_
  rotate_left
  ·intro w' s
   have s0 := blk_cell s 0
   have s1 := blk_cell s 1
   have s2 := blk_cell s 2
   have s3 := blk_cell s 3
   have s4 := blk_cell s 4
   have s5 := blk_cell s 5
   have s6 := blk_cell s 6
   have s7 := blk_cell s 7
   have s8 := blk_cell s 8
   have s9 := blk_cell s 9
   have s10 := blk_cell s 10
   simp at s0 s1 s2 s3 s4 s5 s6 s7 s8 s9 s10
   go_simp
   with_reducible rfl
  rotate_left
  ·simp only [Act.put, putA, putB, putC]
   rfl
  refine one_ (i := 1) (N := some 24) #[true, true, false, false, false] rfl rfl (by kernel_rfl) (by decide) (fun K hK => ?_)
  refine goes_ Tryd.func59 (by kernel_rfl) rfl #[] (by rfl) rfl rfl (by (try simp only [List.map_toArray, List.map_cons, List.map_nil]); first | done | rfl) ?_
  refine (size_calls _).mono ?_
  rintro e w4 ⟨v, rfl, hb4, hE4⟩
  obtain ⟨T, p, rfl⟩ := hE4.form
  have HD2 := Lib.hid (And.intro (HD.out.step hb4) hE4)
  clear hb4 hE4
  refine ⟨_, rfl, ?_⟩
  refine hK.out _ _ HD2.out.1.b4 (fun hHeld => ?_)
  clear hK K
  refine norm_ (a' := ?_) ?_ ?_
  rotate_left
  ·show Act.put _ (some 24) _ = _
   simp only [Act.put, putA, putB, putC]
   rfl
  refine one_ (i := 2) (N := some 25) #[true, true, true, false, false] rfl rfl (by kernel_rfl) (by decide) (fun K hK => ?_)
  refine goes_ Tryd.func18 (by kernel_rfl) rfl #[.iface T (.pointer (some ⟨p, 0, none⟩))] (by rfl) rfl rfl (by (try simp only [List.map_toArray, List.map_cons, List.map_nil]); first | done | rfl) ?_
  refine (of_err 0 _ 1 6 _ ((HR.out.2.2.2).below HD2.out.1.bel) HD2.out.2).mono ?_
  rintro e w5 ⟨rfl, hb5⟩
  have HD3 := Lib.hid (HD2.out.1.step hb5)
  clear hb5
  refine ⟨_, rfl, ?_⟩
  refine hK.out _ _ HD3.out.b4 (fun hHeld => ?_)
  clear hK K
  refine norm_ (a' := ?_) ?_ ?_
  rotate_left
  ·show Act.put _ (some 25) _ = _
   simp only [Act.put, putA, putB, putC]
   rfl
  obtain ⟨c2, hc2, hs2⟩ := HD3.out.b2
  obtain ⟨c3, hc3, hs3⟩ := HD3.out.b3
  refine last_ (i := 3) (N := none) #[true, true, true, true, false] rfl rfl (by kernel_rfl) (by decide) (fun K hK => ?_)
  refine store_step (g := w.heap.size) (T := 38) (frC noneF nilS nilS) (.tmp 2) (.tmp 23) (by rfl) rfl rfl (by rfl) (by rfl) hc2 hs2 Tryd.infoFr (by simp [Value.oneCell']) ?_
  intro w6 hh6 hf6 hz6 hb6
  refine hK.out _ _ ?_
  clear hK K
  refine last_ (i := 4) (N := none) #[true, true, true, true, true] rfl rfl (by kernel_rfl) (by decide) (fun K hK => ?_)
  refine store_step (g := w.heap.size + 1) (T := 24) #[.int .u8 1, .int .u32 6] (.tmp 3) (.tmp 25) (by rfl) rfl rfl (by rfl) (by rfl) ((hf6 _ (by omega)).trans hc3) hs3 Tryd.infoFa (by simp [Value.oneCell']) ?_
  intro w7 hh7 hf7 hz7 hb7
  refine hK.out _ _ ?_
  clear hK K
  refine done_ (by kernel_rfl) ?_
  have HZ := Lib.hid (HD3.out.answer hh6 hb6 hf7 hh7 hb7)
  clear hh6 hb6 hf6 hz6 hf7 hh7 hb7 hz7 hc2 hs2 hc3 hs3
  go_wp2_with fail
  exact bodyPost_ret (results_cc rfl _ _ w.heap.size (w.heap.size + 1) 38 24 (frC noneF nilS nilS) #[.int .u8 1, .int .u32 6] (0, 0) (0, 0) _ _ rfl HZ.out.1 Tryd.underlying38 rfl Tryd.infoFr rfl HZ.out.2.1 Tryd.underlying24 rfl Tryd.infoFa) rfl (HP.out _ _ ⟨HZ.out.2.2, rfl⟩)

abbrev hdF (l : List Int) : Fr := ⟨l.getD 3 0, l.getD 4 0, valL ((l.take 9).drop 5) % 2147483648, [], -1, 0, 0, 0, false, 0, []⟩
theorem GW.sets {w W : World} (h : GW w W noneF) (x y z : Int) : GW w (((W.setCell ⟨w.heap.size + 1 + 1, 0, none⟩ (.int .u8 x)).setCell ⟨w.heap.size + 1 + 1, 1, none⟩ (.int .u8 y)).setCell ⟨w.heap.size + 1 + 1, 2, none⟩ (.int .u32 z)) ⟨x, y, z, [], -1, 0, 0, 0, false, 0, []⟩ := by
 have hf : ∀ k, k ≠ w.heap.size + 1 + 1 → (((W.setCell ⟨w.heap.size + 1 + 1, 0, none⟩ (.int .u8 x)).setCell ⟨w.heap.size + 1 + 1, 1, none⟩ (.int .u8 y)).setCell ⟨w.heap.size + 1 + 1, 2, none⟩ (.int .u32 z)).heap[k]? = W.heap[k]? := fun k hk =>
  (Below.heap_setCell _ ⟨w.heap.size + 1 + 1, 2, none⟩ _ k hk).trans ((Below.heap_setCell _ ⟨w.heap.size + 1 + 1, 1, none⟩ _ k hk).trans (Below.heap_setCell _ ⟨w.heap.size + 1 + 1, 0, none⟩ _ k hk))
 obtain ⟨⟨c2, h2, s2⟩, ⟨c3, h3, s3⟩, h4, hb⟩ := h
 exact ⟨⟨c2, (hf _ (by omega)).trans h2, s2⟩, ⟨c3, (hf _ (by omega)).trans h3, s3⟩, blk_set (blk_set (blk_set h4 0 _) 1 _) 2 _, ((hb.setCell (p := ⟨w.heap.size + 1 + 1, 0, none⟩) (by show _ ≤ w.heap.size + 1 + 1; omega) _).setCell (p := ⟨w.heap.size + 1 + 1, 1, none⟩) (by show _ ≤ w.heap.size + 1 + 1; omega) _).setCell (p := ⟨w.heap.size + 1 + 1, 2, none⟩) (by show _ ≤ w.heap.size + 1 + 1; omega) _⟩
structure GIn (w : World) (A : Option Addr) (c : Nat) (l : List Int) : Prop where
 rd : ReadsInt w .u8 A l.length l
 hc : l.length ≤ c
 hby : Byte8 l
 hl : l.length ≤ 20000000
 hgv : GV w
 h9 : 9 ≤ l.length
 hn : headN l = (l.length : Int)
set_option maxHeartbeats 1000000 in
set_option maxRecDepth 100000 in
theorem get_great (w : World) (A : Option Addr) (c : Nat) (l : List Int) (hI : GIn w A c l) (hgr : 16393 < l.length) :
  Calls Tryd.prog 27 #[.slice A l.length c] w fun e w' => Below w.heap.size w w' ∧ e = .returned (.tuple #[.agg (frC (hdF l) nilS nilS), .agg #[.int .u8 1, .int .u32 6]]) := by
 refine of_post0 fun R hRR => ?_
 have HP := Lib.hid hRR
 have HI := Lib.hid hI
 have hl := hI.hl
 have b9 : decide (9 ≤ l.length) = true := by rw [decide_eq_true_iff]; exact hI.h9
 obtain ⟨ad, rfl, hcc⟩ := hI.rd.2.2 (by have := hI.h9; omega)
 have hc3 := hcc 3 (by have := hI.h9; omega)
 have hc4 := hcc 4 (by have := hI.h9; omega)
 rw [show ad.add 3 = ⟨ad.block, ad.off + 3, none⟩ by unfold Addr.add; rfl] at hc3
 rw [show ad.add 4 = ⟨ad.block, ad.off + 4, none⟩ by unfold Addr.add; rfl] at hc4
 obtain ⟨i0, hi, _, hsz, _⟩ := info_parts Tryd.infoB8
 obtain ⟨Am, hcut0, hr0, hm0⟩ := print_mid_int (P := Tryd.prog) (k := .u8) 35 5 Tryd.underlying35 hi hsz (some ad) c l 5 9 (by decide) (by decide) (by have := hI.h9; omega) hI.hc
 obtain ⟨A9, hcut9, hr9, hm9⟩ := print_drop_of (P := Tryd.prog) (Value.int .u8) (0 : Int) 35 5 .i64 Tryd.underlying35 hi hsz (some ad) c l 9 (by decide) (by have := hI.h9; omega) hI.hc
 rw [show (5 : Int).toNat = 5 from rfl, show (9 : Int).toNat = 9 from rfl] at hcut0 hr0 hm0
 rw [show (9 : Int).toNat = 9 from rfl] at hcut9 hr9 hm9
 have hlm : ((l.take 9).drop 5).length = 4 := by rw [List.length_drop, List.length_take]; have := hI.h9; omega
 have hbm : Byte8 ((l.take 9).drop 5) := fun x hx => hI.hby x (List.mem_of_mem_take (List.mem_of_mem_drop hx))
 have hv := valL_bound hbm
 rw [hlm] at hv
 have hlow := low31 hv.1 (by have h256 : (256 : Int) ^ 4 = 4294967296 := rfl; omega : valL ((l.take 9).drop 5) < 4294967296)
 have hV : ∀ W, ReadsInt W .u8 (some ad) l.length l → Calls Tryd.prog 53 #[.slice Am ((l.take 9).drop 5).length (c - 5)] W fun e w' => e = .returned (.int .u32 (valL ((l.take 9).drop 5))) ∧ Drawn0 W w' := fun W h => number_calls W Am (c - 5) _ (by omega) hbm (hr0 W h) hm0
 have HV := Lib.hid hV
 have hb9' : Byte8 (l.drop 9) := fun x hx => hI.hby x (List.mem_of_mem_drop hx)
 have hl9 : (l.drop 9).length ≤ 20000000 := by rw [List.length_drop]; omega
 obtain ⟨L9, hL9⟩ : ∃ L9, l.drop 9 = L9 := ⟨_, rfl⟩
 rw [hL9] at hcut9 hr9 hm9 hb9' hl9
 have HR9 := Lib.hid (And.intro hr9 (And.intro hm9 (And.intro hb9' (And.intro hl9 hL9))))
 have b3 : (3 : Int) < (l.length : Int) := by have := hI.h9; omega
 have b4 : (4 : Int) < (l.length : Int) := by have := hI.h9; omega
 have b3' : 3 < l.length := by have := hI.h9; omega
 have b4' : 4 < l.length := by have := hI.h9; omega
 have b99 : (9 : Int) ≤ (l.length : Int) := by have := hI.h9; omega
 obtain ⟨x3, hx3⟩ : ∃ x, l.getD 3 0 = x := ⟨_, rfl⟩
 obtain ⟨x4, hx4⟩ : ∃ x, l.getD 4 0 = x := ⟨_, rfl⟩
 obtain ⟨vs, hvs⟩ : ∃ x, valL ((l.take 9).drop 5) = x := ⟨_, rfl⟩
 rw [hx3] at hc3
 rw [hx4] at hc4
 rw [hvs] at hlow HV
 have HE := Lib.hid (show hdF l = ⟨x3, x4, vs % 2147483648, [], -1, 0, 0, 0, false, 0, []⟩ by rw [← hx3, ← hx4, ← hvs])
 have HXV := Lib.hid (And.intro hx3 (And.intro hx4 hvs))
 generalize (l.take 9).drop 5 = Lm at hcut0 HV
 have hnn : (headN l != (l.length : Int)) = false := by rw [bne_eq_false_iff_eq]; exact hI.hn
 have HC3 := Lib.hid (And.intro hc3 hc4)
 have HN := Lib.hid hI.hn
 clear hRR hI hcc hi hsz hr0 hm0 hr9 hm9 hb9' hl9 hL9 hlm hbm hv hV hx3 hx4 hvs hc3 hc4
 go_enter Tryd.func27, Tryd.ntmps27
 go_wp2_with fail
 have HG := Lib.hid (GW.start w)
 refine (head_calls _ (some ad) c l HI.out.hby (HI.out.rd.below HG.out.bel) HI.out.hc).mono ?_
 rintro e w1 ⟨rfl, n1, rfl⟩
 have HG1 := Lib.hid (HG.out.step (pw_below_drewN (Below.refl _ _) n1))
 generalize World.drewN _ n1 = w1 at HG1 ⊢
 clear HG
 rw [b9]
 rw [HN.out] at hnn ⊢
 go_wp2_with fail
 have hdr : GW w w1.drew noneF := HG1.out.step (below_drew (Below.refl _ _))
 refine start_ (n := 16) (S := fun w' => w'.cell? ⟨ad.block, ad.off + 3, none⟩ = some (.int .u8 x3) ∧ w'.cell? ⟨ad.block, ad.off + 4, none⟩ = some (.int .u8 x4)) (ds := []) #[false, false, false, false, false, false, false, false, false, false, false, false, false, false, false, false] (by kernel_rfl) rfl rfl ⟨cell_below hdr.bel HC3.out.1, cell_below hdr.bel HC3.out.2⟩ (fun hHeld => ?_)
 have HD := Lib.hid hdr
 clear hdr
 generalize w1.drew = wd at HD hHeld ⊢
 refine pure_ (i := 0) (N := some 26) (v := ?_) (a' := ?_) #[true, false, false, false, false, false, false, false, false, false, false, false, false, false, false, false] rfl rfl (by kernel_rfl) (fun _ _ _ h => h) (Or.inl ⟨by rfl, ?_⟩) ?_ ?_
 rotate_left
 ·intro w'
  go_simp
  with_reducible rfl
 rotate_left
 ·simp only [Act.put, putA, putB, putC]
  rfl
 refine pure_ (i := 1) (N := some 27) (v := ?_) (a' := ?_) #[true, true, false, false, false, false, false, false, false, false, false, false, false, false, false, false] rfl rfl (by kernel_rfl) (fun _ _ _ h => h) (Or.inl ⟨by rfl, ?_⟩) ?_ ?_
 rotate_left
 ·intro w'
  go_simp
  with_reducible rfl
 rotate_left
 ·simp only [Act.put, putA, putB, putC]
  rfl
 refine take_ (i := 2) (N := some 28) (v := ?_) (a' := ?_) #[true, true, true, false, false, false, false, false, false, false, false, false, false, false, false, false] rfl rfl (by kernel_rfl) (fun _ _ _ h => h) (Or.inl ⟨by rfl, ?_⟩) hHeld ?_ ?_
 rotate_left
 ·rintro w' ⟨s0, s1⟩
  go_simp
  with_reducible rfl
 rotate_left
 ·simp only [Act.put, putA, putB, putC]
  rfl
 refine pure_ (i := 3) (N := some 29) (v := ?_) (a' := ?_) #[true, true, true, true, false, false, false, false, false, false, false, false, false, false, false, false] rfl rfl (by kernel_rfl) (fun _ _ _ h => h) (Or.inl ⟨by rfl, ?_⟩) ?_ ?_
 rotate_left
 ·intro w'
  go_simp
  with_reducible rfl
 rotate_left
 ·simp only [Act.put, putA, putB, putC]
  rfl
 refine pure_ (i := 4) (N := some 30) (v := ?_) (a' := ?_) #[true, true, true, true, true, false, false, false, false, false, false, false, false, false, false, false] rfl rfl (by kernel_rfl) (fun _ _ _ h => h) (Or.inl ⟨by rfl, ?_⟩) ?_ ?_
 rotate_left
 ·intro w'
  go_simp
  with_reducible rfl
 rotate_left
 ·simp only [Act.put, putA, putB, putC]
  rfl
 refine take_ (i := 5) (N := some 31) (v := ?_) (a' := ?_) #[true, true, true, true, true, true, false, false, false, false, false, false, false, false, false, false] rfl rfl (by kernel_rfl) (fun _ _ _ h => h) (Or.inl ⟨by rfl, ?_⟩) hHeld ?_ ?_
 rotate_left
 ·rintro w' ⟨s0, s1⟩
  go_simp
  with_reducible rfl
 rotate_left
 ·simp only [Act.put, putA, putB, putC]
  rfl
 refine pure_ (i := 6) (N := some 32) (v := ?_) (a' := ?_) #[true, true, true, true, true, true, true, false, false, false, false, false, false, false, false, false] rfl rfl (by kernel_rfl) (fun _ _ _ h => h) (Or.inl ⟨by rfl, ?_⟩) ?_ ?_
 rotate_left
 ·intro w'
  go_simp
  with_reducible rfl
 rotate_left
 ·simp only [Act.put, putA, putB, putC]
  rfl
 refine pure_ (i := 7) (N := some 33) (v := ?_) (a' := ?_) #[true, true, true, true, true, true, true, true, false, false, false, false, false, false, false, false] rfl rfl (by kernel_rfl) (fun _ _ _ h => h) (Or.inl ⟨by rfl, ?_⟩) ?_ ?_
 rotate_left
 ·intro w'
  go_simp
  with_reducible rfl
 rotate_left
 ·simp only [Act.put, putA, putB, putC]
  rfl
 refine pure_ (i := 10) (N := some 36) (v := ?_) (a' := ?_) #[true, true, true, true, true, true, true, true, false, false, true, false, false, false, false, false] rfl rfl (by kernel_rfl) (fun _ _ _ h => h) (Or.inl ⟨by rfl, ?_⟩) ?_ ?_
 rotate_left
 ·intro w'
  go_simp
  with_reducible rfl
 rotate_left
 ·simp only [Act.put, putA, putB, putC]
  rfl
 refine one_ (i := 8) (N := some 34) #[true, true, true, true, true, true, true, true, true, false, true, false, false, false, false, false] rfl rfl (by kernel_rfl) (by decide) (fun K hK => ?_)
 refine goes_ Tryd.func53 (by kernel_rfl) rfl #[.slice Am Lm.length (c - 5)] (by rfl) rfl rfl (by (try simp only [List.map_toArray, List.map_cons, List.map_nil]); first | done | rfl) ?_
 refine (HV.out _ (HI.out.rd.below HD.out.bel)).mono ?_
 rintro e w3 ⟨rfl, n3, rfl⟩
 have HD2 := Lib.hid (HD.out.step (pw_below_drewN (Below.refl _ _) n3))
 generalize World.drewN _ n3 = w3 at HD2 ⊢
 have y3 := cell_below HD2.out.bel HC3.out.1
 have y4 := cell_below HD2.out.bel HC3.out.2
 refine ⟨_, rfl, ?_⟩
 refine hK.out _ _ ⟨y3, y4⟩ (fun hHeld => ?_)
 clear hK K
 refine norm_ (a' := ?_) ?_ ?_
 rotate_left
 ·show Act.put _ (some 34) _ = _
  simp only [Act.put, putA, putB, putC]
  rfl
 refine pure_ (i := 9) (N := some 35) (v := ?_) (a' := ?_) #[true, true, true, true, true, true, true, true, true, true, true, false, false, false, false, false] rfl rfl (by kernel_rfl) (fun _ _ _ h => h) (Or.inl ⟨by rfl, ?_⟩) ?_ ?_
 rotate_left
 ·intro w'
  go_simp
  with_reducible rfl
 rotate_left
 ·simp only [Act.put, putA, putB, putC]
  rfl
 have z0 := blk_cell HD2.out.b4 0
 have z1 := blk_cell HD2.out.b4 1
 have z2 := blk_cell HD2.out.b4 2
 have f0 := blk_frozen HD2.out.b4 0
 have f1 := blk_frozen HD2.out.b4 1
 have f2 := blk_frozen HD2.out.b4 2
 simp at z0 z1 z2
 have HB0 := Lib.hid HD2.out.bel
 refine one_ (i := 11) (N := none) #[true, true, true, true, true, true, true, true, true, true, true, true, false, false, false, false] rfl rfl (by kernel_rfl) (by decide) (fun K hK => ?_)
 refine skip_ (w1 := ?_) (by rfl) rfl ?_ ?_
 rotate_left
 ·go_simp
  rfl
 have HB1 := Lib.hid (HB0.out.setCell (p := ⟨w.heap.size + 1 + 1, 0, none⟩) (by show _ ≤ w.heap.size + 1 + 1; omega) (.int .u8 x3))
 refine hK.out _ _ ⟨cell_below HB1.out HC3.out.1, cell_below HB1.out HC3.out.2⟩ (fun hHeld => ?_)
 clear hK K
 refine pure_ (i := 12) (N := some 37) (v := ?_) (a' := ?_) #[true, true, true, true, true, true, true, true, true, true, true, true, true, false, false, false] rfl rfl (by kernel_rfl) (fun _ _ _ h => h) (Or.inl ⟨by rfl, ?_⟩) ?_ ?_
 rotate_left
 ·intro w'
  go_simp
  with_reducible rfl
 rotate_left
 ·simp only [Act.put, putA, putB, putC]
  rfl
 refine one_ (i := 13) (N := none) #[true, true, true, true, true, true, true, true, true, true, true, true, true, true, false, false] rfl rfl (by kernel_rfl) (by decide) (fun K hK => ?_)
 refine skip_ (w1 := ?_) (by rfl) rfl ?_ ?_
 rotate_left
 ·go_simp
  rfl
 have HB2 := Lib.hid (HB1.out.setCell (p := ⟨w.heap.size + 1 + 1, 1, none⟩) (by show _ ≤ w.heap.size + 1 + 1; omega) (.int .u8 x4))
 refine hK.out _ _ ⟨cell_below HB2.out HC3.out.1, cell_below HB2.out HC3.out.2⟩ (fun hHeld => ?_)
 clear hK K
 refine pure_ (i := 14) (N := some 38) (v := ?_) (a' := ?_) #[true, true, true, true, true, true, true, true, true, true, true, true, true, true, true, false] rfl rfl (by kernel_rfl) (fun _ _ _ h => h) (Or.inl ⟨by rfl, ?_⟩) ?_ ?_
 rotate_left
 ·intro w'
  go_simp
  with_reducible rfl
 rotate_left
 ·simp only [Act.put, putA, putB, putC]
  rfl
 refine one_ (i := 15) (N := none) #[true, true, true, true, true, true, true, true, true, true, true, true, true, true, true, true] rfl rfl (by kernel_rfl) (by decide) (fun K hK => ?_)
 refine skip_ (w1 := ?_) (by rfl) rfl ?_ ?_
 rotate_left
 ·go_simp
  rfl
 have HB3 := Lib.hid (HB2.out.setCell (p := ⟨w.heap.size + 1 + 1, 2, none⟩) (by show _ ≤ w.heap.size + 1 + 1; omega) (.int .u32 (vs % 2147483648)))
 refine hK.out _ _ ⟨cell_below HB3.out HC3.out.1, cell_below HB3.out HC3.out.2⟩ (fun hHeld => ?_)
 clear hK K
 refine done_ (by kernel_rfl) ?_
 have HG5 := Lib.hid (HD2.out.sets x3 x4 (vs % 2147483648))
 clear y3 y4 z0 z1 z2 f0 f1 f2 hHeld HB0 HB1 HB2 HB3
 generalize ((w3.setCell ⟨w.heap.size + 1 + 1, 0, none⟩ (.int .u8 x3)).setCell ⟨w.heap.size + 1 + 1, 1, none⟩ (.int .u8 x4)).setCell ⟨w.heap.size + 1 + 1, 2, none⟩ (.int .u32 (vs % 2147483648)) = w5' at HG5 ⊢
 have bg : decide ((16393 : Int) < (l.length : Int)) = true := by rw [decide_eq_true_iff]; omega
 have bg' : decide (16393 < l.length) = true := by rw [decide_eq_true_iff]; exact hgr
 go_wp2_with fail
 have hdr : GW w w5'.drew (⟨x3, x4, vs % 2147483648, [], -1, 0, 0, 0, false, 0, []⟩ : Fr) := (HG5).out.step (below_drew (Below.refl _ _))
 have hd4 := hdr.b4
 refine start_ (n := 5) (S := fun w' => w'.heap[w.heap.size + 1 + 1]? = some (.cells (frC (⟨x3, x4, vs % 2147483648, [], -1, 0, 0, 0, false, 0, []⟩ : Fr) nilS nilS) 38 (0, 0))) (ds := [3, 4]) #[false, false, false, false, false] (by kernel_rfl) rfl rfl hd4 (fun hHeld => ?_)
 have HD := Lib.hid hdr
 clear hdr hd4
 generalize w5'.drew = wd at HD hHeld ⊢
 refine take_ (i := 0) (N := some 41) (v := ?_) (a' := ?_) #[true, false, false, false, false] rfl rfl (by kernel_rfl) (fun _ _ _ h => h) (Or.inl ⟨by rfl, ?_⟩) hHeld ?_ ?_
 rotate_left
 ·intro w' s
  have s0 := blk_cell s 0
  have s1 := blk_cell s 1
  have s2 := blk_cell s 2
  have s3 := blk_cell s 3
  have s4 := blk_cell s 4
  have s5 := blk_cell s 5
  have s6 := blk_cell s 6
  have s7 := blk_cell s 7
  have s8 := blk_cell s 8
  have s9 := blk_cell s 9
  have s10 := blk_cell s 10
  simp at s0 s1 s2 s3 s4 s5 s6 s7 s8 s9 s10
  go_simp
  with_reducible rfl
 rotate_left
 ·simp only [Act.put, putA, putB, putC]
  rfl
 refine one_ (i := 1) (N := some 42) #[true, true, false, false, false] rfl rfl (by kernel_rfl) (by decide) (fun K hK => ?_)
 refine goes_ Tryd.func59 (by kernel_rfl) rfl #[] (by rfl) rfl rfl (by (try simp only [List.map_toArray, List.map_cons, List.map_nil]); first | done | rfl) ?_
 refine (size_calls _).mono ?_
 rintro e w4 ⟨v, rfl, hb4, hE4⟩
 obtain ⟨T, p, rfl⟩ := hE4.form
 have HD2 := Lib.hid (And.intro (HD.out.step hb4) hE4)
 clear hb4 hE4
 refine ⟨_, rfl, ?_⟩
 refine hK.out _ _ HD2.out.1.b4 (fun hHeld => ?_)
 clear hK K
 refine norm_ (a' := ?_) ?_ ?_
 rotate_left
 ·show Act.put _ (some 42) _ = _
  simp only [Act.put, putA, putB, putC]
  rfl
 refine one_ (i := 2) (N := some 43) #[true, true, true, false, false] rfl rfl (by kernel_rfl) (by decide) (fun K hK => ?_)
 refine goes_ Tryd.func18 (by kernel_rfl) rfl #[.iface T (.pointer (some ⟨p, 0, none⟩))] (by rfl) rfl rfl (by (try simp only [List.map_toArray, List.map_cons, List.map_nil]); first | done | rfl) ?_
 refine (of_err 0 _ 1 6 _ ((HI.out.hgv).below HD2.out.1.bel) HD2.out.2).mono ?_
 rintro e w5 ⟨rfl, hb5⟩
 have HD3 := Lib.hid (HD2.out.1.step hb5)
 clear hb5
 refine ⟨_, rfl, ?_⟩
 refine hK.out _ _ HD3.out.b4 (fun hHeld => ?_)
 clear hK K
 refine norm_ (a' := ?_) ?_ ?_
 rotate_left
 ·show Act.put _ (some 43) _ = _
  simp only [Act.put, putA, putB, putC]
  rfl
 obtain ⟨c2, hc2, hs2⟩ := HD3.out.b2
 obtain ⟨c3, hc3, hs3⟩ := HD3.out.b3
 refine last_ (i := 3) (N := none) #[true, true, true, true, false] rfl rfl (by kernel_rfl) (by decide) (fun K hK => ?_)
 refine store_step (g := w.heap.size) (T := 38) (frC (⟨x3, x4, vs % 2147483648, [], -1, 0, 0, 0, false, 0, []⟩ : Fr) nilS nilS) (.tmp 2) (.tmp 41) (by rfl) rfl rfl (by rfl) (by rfl) hc2 hs2 Tryd.infoFr (by simp [Value.oneCell']) ?_
 intro w6 hh6 hf6 hz6 hb6
 refine hK.out _ _ ?_
 clear hK K
 refine last_ (i := 4) (N := none) #[true, true, true, true, true] rfl rfl (by kernel_rfl) (by decide) (fun K hK => ?_)
 refine store_step (g := w.heap.size + 1) (T := 24) #[.int .u8 1, .int .u32 6] (.tmp 3) (.tmp 43) (by rfl) rfl rfl (by rfl) (by rfl) ((hf6 _ (by omega)).trans hc3) hs3 Tryd.infoFa (by simp [Value.oneCell']) ?_
 intro w7 hh7 hf7 hz7 hb7
 refine hK.out _ _ ?_
 clear hK K
 refine done_ (by kernel_rfl) ?_
 have HZ := Lib.hid (HD3.out.answer hh6 hb6 hf7 hh7 hb7)
 clear hh6 hb6 hf6 hz6 hf7 hh7 hb7 hz7 hc2 hs2 hc3 hs3
 go_wp2_with fail
 exact bodyPost_ret (results_cc rfl _ _ w.heap.size (w.heap.size + 1) 38 24 (frC (⟨x3, x4, vs % 2147483648, [], -1, 0, 0, 0, false, 0, []⟩ : Fr) nilS nilS) #[.int .u8 1, .int .u32 6] (0, 0) (0, 0) _ _ rfl HZ.out.1 Tryd.underlying38 rfl Tryd.infoFr rfl HZ.out.2.1 Tryd.underlying24 rfl Tryd.infoFa) rfl (HP.out _ _ ⟨HZ.out.2.2, by rw [HE.out]⟩)

set_option maxHeartbeats 2000000 in
theorem streams_strong (w : World) (F : Fr) (D S : Value) : Calls Tryd.prog 60 #[.agg (frC F D S)] w fun ev w' => ∃ v, ev = .returned v ∧ Below w.heap.size w w' ∧ (stBad F.ty F.st = false ∧ v = .nilIface ∨ stBad F.ty F.st = true ∧ ∃ n, Err w' n v 1 1) := by
 obtain ⟨ty, fl, st, data, pad, code, oth, wgt, al, win, sets⟩ := F
 refine of_post0 fun R hRR => ?_
 have HP := Lib.hid hRR
 clear hRR
 by_cases hA : ty = 0 ∨ ty = 1 ∨ ty = 2 ∨ ty = 3 ∨ ty = 5 ∨ ty = 9
 ·have e := stBad_a (st := st) hA
  by_cases h0 : st = 0
  ·have HE := Lib.hid (show stBad ty st = true by rw [e, h0]; rfl)
   subst h0
   clear e
   rcases hA with h | h | h | h | h | h
   all_goals
    subst h
    go_enter Tryd.func60, Tryd.ntmps60
    go_wp2_with fail
    refine (protocol_calls _).mono ?_
    rintro e w1 ⟨v, rfl, hb, hE⟩
    obtain ⟨T, p, rfl⟩ := hE.form
    have HX := Lib.hid (And.intro ((below_alloc (Below.refl w.heap.size w) _).trans (hb.mono (by simp))) hE)
    clear hb hE
    go_wp2_with fail
    refine (wrap_err 0 _ _ 1 1 _ HX.out.2).mono ?_
    rintro e w2 ⟨v, rfl, hb2, hE2⟩
    have HY := Lib.hid (And.intro (HX.out.1.trans (hb2.mono HX.out.1.size)) hE2)
    clear hb2 hE2
    go_wp2_with fail
    refine HP.out _ _ ⟨_, rfl, HY.out.1, ?_⟩
    exact .inr ⟨HE.out, _, HY.out.2⟩
  ·have HE := Lib.hid (show stBad ty st = false by rw [e]; simpa using h0)
   have b1 : (st == 0) = false := by rw [beq_eq_false_iff_ne]; exact h0
   clear e h0
   rcases hA with h | h | h | h | h | h
   all_goals
    subst h
    go_enter Tryd.func60, Tryd.ntmps60
    go_wp2_with fail
    refine HP.out _ _ ⟨_, rfl, below_alloc (Below.refl _ _) _, ?_⟩
    exact .inl ⟨HE.out, rfl⟩
 ·by_cases hB : ty = 4 ∨ ty = 6 ∨ ty = 7
  ·have e := stBad_b (st := st) hB
   by_cases h0 : st = 0
   ·have HE := Lib.hid (show stBad ty st = false by rw [e, h0]; rfl)
    subst h0
    clear e hA
    rcases hB with h | h | h
    all_goals
     subst h
     go_enter Tryd.func60, Tryd.ntmps60
     go_wp2_with fail
     refine HP.out _ _ ⟨_, rfl, below_alloc (Below.refl _ _) _, ?_⟩
     exact .inl ⟨HE.out, rfl⟩
   ·have HE := Lib.hid (show stBad ty st = true by rw [e]; simpa using h0)
    have b1 : (st != 0) = true := by rw [bne_iff_ne]; exact h0
    clear e h0 hA
    rcases hB with h | h | h
    all_goals
     subst h
     go_enter Tryd.func60, Tryd.ntmps60
     go_wp2_with fail
     refine (protocol_calls _).mono ?_
     rintro e w1 ⟨v, rfl, hb, hE⟩
     obtain ⟨T, p, rfl⟩ := hE.form
     have HX := Lib.hid (And.intro ((below_alloc (Below.refl w.heap.size w) _).trans (hb.mono (by simp))) hE)
     clear hb hE
     go_wp2_with fail
     refine (wrap_err 0 _ _ 1 1 _ HX.out.2).mono ?_
     rintro e w2 ⟨v, rfl, hb2, hE2⟩
     have HY := Lib.hid (And.intro (HX.out.1.trans (hb2.mono HX.out.1.size)) hE2)
     clear hb2 hE2
     go_wp2_with fail
     refine HP.out _ _ ⟨_, rfl, HY.out.1, ?_⟩
     exact .inr ⟨HE.out, _, HY.out.2⟩
  ·have HE := Lib.hid (show stBad ty st = false by unfold stBad; rw [if_neg hA, if_neg hB])
   have g0 : (ty == 0) = false := by rw [beq_eq_false_iff_ne]; omega
   have g1 : (ty == 1) = false := by rw [beq_eq_false_iff_ne]; omega
   have g2 : (ty == 2) = false := by rw [beq_eq_false_iff_ne]; omega
   have g3 : (ty == 3) = false := by rw [beq_eq_false_iff_ne]; omega
   have g4 : (ty == 4) = false := by rw [beq_eq_false_iff_ne]; omega
   have g5 : (ty == 5) = false := by rw [beq_eq_false_iff_ne]; omega
   have g6 : (ty == 6) = false := by rw [beq_eq_false_iff_ne]; omega
   have g7 : (ty == 7) = false := by rw [beq_eq_false_iff_ne]; omega
   have g9 : (ty == 9) = false := by rw [beq_eq_false_iff_ne]; omega
   clear hA hB
   go_enter Tryd.func60, Tryd.ntmps60
   go_wp2_with fail
   refine HP.out _ _ ⟨_, rfl, below_alloc (Below.refl _ _) _, ?_⟩
   exact .inl ⟨HE.out, rfl⟩
set_option maxHeartbeats 1000000 in
set_option maxRecDepth 100000 in
theorem get_stream (w : World) (A : Option Addr) (c : Nat) (l : List Int) (hI : GIn w A c l) (hgr : ¬ 16393 < l.length) (hbad : stBad (l.getD 3 0) (valL ((l.take 9).drop 5) % 2147483648) = true) :
  Calls Tryd.prog 27 #[.slice A l.length c] w fun e w' => Below w.heap.size w w' ∧ e = .returned (.tuple #[.agg (frC (hdF l) nilS nilS), .agg #[.int .u8 1, .int .u32 1]]) := by
 refine of_post0 fun R hRR => ?_
 have HP := Lib.hid hRR
 have HI := Lib.hid hI
 have hl := hI.hl
 have b9 : decide (9 ≤ l.length) = true := by rw [decide_eq_true_iff]; exact hI.h9
 obtain ⟨ad, rfl, hcc⟩ := hI.rd.2.2 (by have := hI.h9; omega)
 have hc3 := hcc 3 (by have := hI.h9; omega)
 have hc4 := hcc 4 (by have := hI.h9; omega)
 rw [show ad.add 3 = ⟨ad.block, ad.off + 3, none⟩ by unfold Addr.add; rfl] at hc3
 rw [show ad.add 4 = ⟨ad.block, ad.off + 4, none⟩ by unfold Addr.add; rfl] at hc4
 obtain ⟨i0, hi, _, hsz, _⟩ := info_parts Tryd.infoB8
 obtain ⟨Am, hcut0, hr0, hm0⟩ := print_mid_int (P := Tryd.prog) (k := .u8) 35 5 Tryd.underlying35 hi hsz (some ad) c l 5 9 (by decide) (by decide) (by have := hI.h9; omega) hI.hc
 obtain ⟨A9, hcut9, hr9, hm9⟩ := print_drop_of (P := Tryd.prog) (Value.int .u8) (0 : Int) 35 5 .i64 Tryd.underlying35 hi hsz (some ad) c l 9 (by decide) (by have := hI.h9; omega) hI.hc
 rw [show (5 : Int).toNat = 5 from rfl, show (9 : Int).toNat = 9 from rfl] at hcut0 hr0 hm0
 rw [show (9 : Int).toNat = 9 from rfl] at hcut9 hr9 hm9
 have hlm : ((l.take 9).drop 5).length = 4 := by rw [List.length_drop, List.length_take]; have := hI.h9; omega
 have hbm : Byte8 ((l.take 9).drop 5) := fun x hx => hI.hby x (List.mem_of_mem_take (List.mem_of_mem_drop hx))
 have hv := valL_bound hbm
 rw [hlm] at hv
 have hlow := low31 hv.1 (by have h256 : (256 : Int) ^ 4 = 4294967296 := rfl; omega : valL ((l.take 9).drop 5) < 4294967296)
 have hV : ∀ W, ReadsInt W .u8 (some ad) l.length l → Calls Tryd.prog 53 #[.slice Am ((l.take 9).drop 5).length (c - 5)] W fun e w' => e = .returned (.int .u32 (valL ((l.take 9).drop 5))) ∧ Drawn0 W w' := fun W h => number_calls W Am (c - 5) _ (by omega) hbm (hr0 W h) hm0
 have HV := Lib.hid hV
 have hb9' : Byte8 (l.drop 9) := fun x hx => hI.hby x (List.mem_of_mem_drop hx)
 have hl9 : (l.drop 9).length ≤ 100000 := by rw [List.length_drop]; omega
 obtain ⟨L9, hL9⟩ : ∃ L9, l.drop 9 = L9 := ⟨_, rfl⟩
 rw [hL9] at hcut9 hr9 hm9 hb9' hl9
 have HR9 := Lib.hid (And.intro hr9 (And.intro hm9 (And.intro hb9' (And.intro hl9 hL9))))
 have b3 : (3 : Int) < (l.length : Int) := by have := hI.h9; omega
 have b4 : (4 : Int) < (l.length : Int) := by have := hI.h9; omega
 have b3' : 3 < l.length := by have := hI.h9; omega
 have b4' : 4 < l.length := by have := hI.h9; omega
 have b99 : (9 : Int) ≤ (l.length : Int) := by have := hI.h9; omega
 obtain ⟨x3, hx3⟩ : ∃ x, l.getD 3 0 = x := ⟨_, rfl⟩
 obtain ⟨x4, hx4⟩ : ∃ x, l.getD 4 0 = x := ⟨_, rfl⟩
 obtain ⟨vs, hvs⟩ : ∃ x, valL ((l.take 9).drop 5) = x := ⟨_, rfl⟩
 rw [hx3] at hc3
 rw [hx4] at hc4
 rw [hvs] at hlow HV
 have HE := Lib.hid (show hdF l = ⟨x3, x4, vs % 2147483648, [], -1, 0, 0, 0, false, 0, []⟩ by rw [← hx3, ← hx4, ← hvs])
 have HXV := Lib.hid (And.intro hx3 (And.intro hx4 hvs))
 generalize (l.take 9).drop 5 = Lm at hcut0 HV
 have hnn : (headN l != (l.length : Int)) = false := by rw [bne_eq_false_iff_eq]; exact hI.hn
 have HC3 := Lib.hid (And.intro hc3 hc4)
 have HN := Lib.hid hI.hn
 clear hRR hI hcc hi hsz hr0 hm0 hr9 hm9 hb9' hl9 hL9 hlm hbm hv hV hx3 hx4 hvs hc3 hc4
 go_enter Tryd.func27, Tryd.ntmps27
 go_wp2_with fail
 have HG := Lib.hid (GW.start w)
 refine (head_calls _ (some ad) c l HI.out.hby (HI.out.rd.below HG.out.bel) HI.out.hc).mono ?_
 rintro e w1 ⟨rfl, n1, rfl⟩
 have HG1 := Lib.hid (HG.out.step (pw_below_drewN (Below.refl _ _) n1))
 generalize World.drewN _ n1 = w1 at HG1 ⊢
 clear HG
 rw [b9]
 rw [HN.out] at hnn ⊢
 go_wp2_with fail
 have hdr : GW w w1.drew noneF := HG1.out.step (below_drew (Below.refl _ _))
 refine start_ (n := 16) (S := fun w' => w'.cell? ⟨ad.block, ad.off + 3, none⟩ = some (.int .u8 x3) ∧ w'.cell? ⟨ad.block, ad.off + 4, none⟩ = some (.int .u8 x4)) (ds := []) #[false, false, false, false, false, false, false, false, false, false, false, false, false, false, false, false] (by kernel_rfl) rfl rfl ⟨cell_below hdr.bel HC3.out.1, cell_below hdr.bel HC3.out.2⟩ (fun hHeld => ?_)
 have HD := Lib.hid hdr
 clear hdr
 generalize w1.drew = wd at HD hHeld ⊢
 refine pure_ (i := 0) (N := some 26) (v := ?_) (a' := ?_) #[true, false, false, false, false, false, false, false, false, false, false, false, false, false, false, false] rfl rfl (by kernel_rfl) (fun _ _ _ h => h) (Or.inl ⟨by rfl, ?_⟩) ?_ ?_
 rotate_left
 ·intro w'
  go_simp
  with_reducible rfl
 rotate_left
 ·simp only [Act.put, putA, putB, putC]
  rfl
 refine pure_ (i := 1) (N := some 27) (v := ?_) (a' := ?_) #[true, true, false, false, false, false, false, false, false, false, false, false, false, false, false, false] rfl rfl (by kernel_rfl) (fun _ _ _ h => h) (Or.inl ⟨by rfl, ?_⟩) ?_ ?_
 rotate_left
 ·intro w'
  go_simp
  with_reducible rfl
 rotate_left
 ·simp only [Act.put, putA, putB, putC]
  rfl
 refine take_ (i := 2) (N := some 28) (v := ?_) (a' := ?_) #[true, true, true, false, false, false, false, false, false, false, false, false, false, false, false, false] rfl rfl (by kernel_rfl) (fun _ _ _ h => h) (Or.inl ⟨by rfl, ?_⟩) hHeld ?_ ?_
 rotate_left
 ·rintro w' ⟨s0, s1⟩
  go_simp
  with_reducible rfl
 rotate_left
 ·simp only [Act.put, putA, putB, putC]
  rfl
 refine pure_ (i := 3) (N := some 29) (v := ?_) (a' := ?_) #[true, true, true, true, false, false, false, false, false, false, false, false, false, false, false, false] rfl rfl (by kernel_rfl) (fun _ _ _ h => h) (Or.inl ⟨by rfl, ?_⟩) ?_ ?_
 rotate_left
 ·intro w'
  go_simp
  with_reducible rfl
 rotate_left
 ·simp only [Act.put, putA, putB, putC]
  rfl
 refine pure_ (i := 4) (N := some 30) (v := ?_) (a' := ?_) #[true, true, true, true, true, false, false, false, false, false, false, false, false, false, false, false] rfl rfl (by kernel_rfl) (fun _ _ _ h => h) (Or.inl ⟨by rfl, ?_⟩) ?_ ?_
 rotate_left
 ·intro w'
  go_simp
  with_reducible rfl
 rotate_left
 ·simp only [Act.put, putA, putB, putC]
  rfl
 refine take_ (i := 5) (N := some 31) (v := ?_) (a' := ?_) #[true, true, true, true, true, true, false, false, false, false, false, false, false, false, false, false] rfl rfl (by kernel_rfl) (fun _ _ _ h => h) (Or.inl ⟨by rfl, ?_⟩) hHeld ?_ ?_
 rotate_left
 ·rintro w' ⟨s0, s1⟩
  go_simp
  with_reducible rfl
 rotate_left
 ·simp only [Act.put, putA, putB, putC]
  rfl
 refine pure_ (i := 6) (N := some 32) (v := ?_) (a' := ?_) #[true, true, true, true, true, true, true, false, false, false, false, false, false, false, false, false] rfl rfl (by kernel_rfl) (fun _ _ _ h => h) (Or.inl ⟨by rfl, ?_⟩) ?_ ?_
 rotate_left
 ·intro w'
  go_simp
  with_reducible rfl
 rotate_left
 ·simp only [Act.put, putA, putB, putC]
  rfl
 refine pure_ (i := 7) (N := some 33) (v := ?_) (a' := ?_) #[true, true, true, true, true, true, true, true, false, false, false, false, false, false, false, false] rfl rfl (by kernel_rfl) (fun _ _ _ h => h) (Or.inl ⟨by rfl, ?_⟩) ?_ ?_
 rotate_left
 ·intro w'
  go_simp
  with_reducible rfl
 rotate_left
 ·simp only [Act.put, putA, putB, putC]
  rfl
 refine pure_ (i := 10) (N := some 36) (v := ?_) (a' := ?_) #[true, true, true, true, true, true, true, true, false, false, true, false, false, false, false, false] rfl rfl (by kernel_rfl) (fun _ _ _ h => h) (Or.inl ⟨by rfl, ?_⟩) ?_ ?_
 rotate_left
 ·intro w'
  go_simp
  with_reducible rfl
 rotate_left
 ·simp only [Act.put, putA, putB, putC]
  rfl
 refine one_ (i := 8) (N := some 34) #[true, true, true, true, true, true, true, true, true, false, true, false, false, false, false, false] rfl rfl (by kernel_rfl) (by decide) (fun K hK => ?_)
 refine goes_ Tryd.func53 (by kernel_rfl) rfl #[.slice Am Lm.length (c - 5)] (by rfl) rfl rfl (by (try simp only [List.map_toArray, List.map_cons, List.map_nil]); first | done | rfl) ?_
 refine (HV.out _ (HI.out.rd.below HD.out.bel)).mono ?_
 rintro e w3 ⟨rfl, n3, rfl⟩
 have HD2 := Lib.hid (HD.out.step (pw_below_drewN (Below.refl _ _) n3))
 generalize World.drewN _ n3 = w3 at HD2 ⊢
 have y3 := cell_below HD2.out.bel HC3.out.1
 have y4 := cell_below HD2.out.bel HC3.out.2
 refine ⟨_, rfl, ?_⟩
 refine hK.out _ _ ⟨y3, y4⟩ (fun hHeld => ?_)
 clear hK K
 refine norm_ (a' := ?_) ?_ ?_
 rotate_left
 ·show Act.put _ (some 34) _ = _
  simp only [Act.put, putA, putB, putC]
  rfl
 refine pure_ (i := 9) (N := some 35) (v := ?_) (a' := ?_) #[true, true, true, true, true, true, true, true, true, true, true, false, false, false, false, false] rfl rfl (by kernel_rfl) (fun _ _ _ h => h) (Or.inl ⟨by rfl, ?_⟩) ?_ ?_
 rotate_left
 ·intro w'
  go_simp
  with_reducible rfl
 rotate_left
 ·simp only [Act.put, putA, putB, putC]
  rfl
 have z0 := blk_cell HD2.out.b4 0
 have z1 := blk_cell HD2.out.b4 1
 have z2 := blk_cell HD2.out.b4 2
 have f0 := blk_frozen HD2.out.b4 0
 have f1 := blk_frozen HD2.out.b4 1
 have f2 := blk_frozen HD2.out.b4 2
 simp at z0 z1 z2
 have HB0 := Lib.hid HD2.out.bel
 refine one_ (i := 11) (N := none) #[true, true, true, true, true, true, true, true, true, true, true, true, false, false, false, false] rfl rfl (by kernel_rfl) (by decide) (fun K hK => ?_)
 refine skip_ (w1 := ?_) (by rfl) rfl ?_ ?_
 rotate_left
 ·go_simp
  rfl
 have HB1 := Lib.hid (HB0.out.setCell (p := ⟨w.heap.size + 1 + 1, 0, none⟩) (by show _ ≤ w.heap.size + 1 + 1; omega) (.int .u8 x3))
 refine hK.out _ _ ⟨cell_below HB1.out HC3.out.1, cell_below HB1.out HC3.out.2⟩ (fun hHeld => ?_)
 clear hK K
 refine pure_ (i := 12) (N := some 37) (v := ?_) (a' := ?_) #[true, true, true, true, true, true, true, true, true, true, true, true, true, false, false, false] rfl rfl (by kernel_rfl) (fun _ _ _ h => h) (Or.inl ⟨by rfl, ?_⟩) ?_ ?_
 rotate_left
 ·intro w'
  go_simp
  with_reducible rfl
 rotate_left
 ·simp only [Act.put, putA, putB, putC]
  rfl
 refine one_ (i := 13) (N := none) #[true, true, true, true, true, true, true, true, true, true, true, true, true, true, false, false] rfl rfl (by kernel_rfl) (by decide) (fun K hK => ?_)
 refine skip_ (w1 := ?_) (by rfl) rfl ?_ ?_
 rotate_left
 ·go_simp
  rfl
 have HB2 := Lib.hid (HB1.out.setCell (p := ⟨w.heap.size + 1 + 1, 1, none⟩) (by show _ ≤ w.heap.size + 1 + 1; omega) (.int .u8 x4))
 refine hK.out _ _ ⟨cell_below HB2.out HC3.out.1, cell_below HB2.out HC3.out.2⟩ (fun hHeld => ?_)
 clear hK K
 refine pure_ (i := 14) (N := some 38) (v := ?_) (a' := ?_) #[true, true, true, true, true, true, true, true, true, true, true, true, true, true, true, false] rfl rfl (by kernel_rfl) (fun _ _ _ h => h) (Or.inl ⟨by rfl, ?_⟩) ?_ ?_
 rotate_left
 ·intro w'
  go_simp
  with_reducible rfl
 rotate_left
 ·simp only [Act.put, putA, putB, putC]
  rfl
 refine one_ (i := 15) (N := none) #[true, true, true, true, true, true, true, true, true, true, true, true, true, true, true, true] rfl rfl (by kernel_rfl) (by decide) (fun K hK => ?_)
 refine skip_ (w1 := ?_) (by rfl) rfl ?_ ?_
 rotate_left
 ·go_simp
  rfl
 have HB3 := Lib.hid (HB2.out.setCell (p := ⟨w.heap.size + 1 + 1, 2, none⟩) (by show _ ≤ w.heap.size + 1 + 1; omega) (.int .u32 (vs % 2147483648)))
 refine hK.out _ _ ⟨cell_below HB3.out HC3.out.1, cell_below HB3.out HC3.out.2⟩ (fun hHeld => ?_)
 clear hK K
 refine done_ (by kernel_rfl) ?_
 have HG5 := Lib.hid (HD2.out.sets x3 x4 (vs % 2147483648))
 clear y3 y4 z0 z1 z2 f0 f1 f2 hHeld HB0 HB1 HB2 HB3
 generalize ((w3.setCell ⟨w.heap.size + 1 + 1, 0, none⟩ (.int .u8 x3)).setCell ⟨w.heap.size + 1 + 1, 1, none⟩ (.int .u8 x4)).setCell ⟨w.heap.size + 1 + 1, 2, none⟩ (.int .u32 (vs % 2147483648)) = w5' at HG5 ⊢
 have bg : decide ((16393 : Int) < (l.length : Int)) = false := by rw [decide_eq_false_iff_not]; omega
 have bg' : decide (16393 < l.length) = false := by rw [decide_eq_false_iff_not]; omega
 have z0 := blk_cell HG5.out.b4 0
 have z1 := blk_cell HG5.out.b4 1
 have z2 := blk_cell HG5.out.b4 2
 have z3 := blk_cell HG5.out.b4 3
 have z4 := blk_cell HG5.out.b4 4
 have z5 := blk_cell HG5.out.b4 5
 have z6 := blk_cell HG5.out.b4 6
 have z7 := blk_cell HG5.out.b4 7
 have z8 := blk_cell HG5.out.b4 8
 have z9 := blk_cell HG5.out.b4 9
 have z10 := blk_cell HG5.out.b4 10
 simp at z0 z1 z2 z3 z4 z5 z6 z7 z8 z9 z10
 go_wp2_with fail
 refine (streams_strong _ (⟨x3, x4, vs % 2147483648, [], -1, 0, 0, 0, false, 0, []⟩ : Fr) nilS nilS).mono ?_
 rintro e w8 ⟨ve, rfl, hb8, hs8⟩
 have HG8 := Lib.hid ((HG5.out.step (below_alloc (Below.refl _ _) (.cells (frC (⟨x3, x4, vs % 2147483648, [], -1, 0, 0, 0, false, 0, []⟩ : Fr) nilS nilS) 38))).step hb8)
 rw [HXV.out.1, HXV.out.2.2] at hbad
 rcases hs8 with ⟨h, _⟩ | ⟨_, n8, hE8⟩
 ·rw [h] at hbad; cases hbad
 obtain ⟨T8, p8, rfl⟩ := hE8.form
 have HE8 := Lib.hid hE8
 clear hE8 hb8 z0 z1 z2 z3 z4 z5 z6 z7 z8 z9 z10
 go_wp2_with fail
 have hdr : GW w w8.drew (⟨x3, x4, vs % 2147483648, [], -1, 0, 0, 0, false, 0, []⟩ : Fr) := (HG8).out.step (below_drew (Below.refl _ _))
 have hd4 := hdr.b4
 refine start_ (n := 6) (S := fun w' => w'.heap[w.heap.size + 1 + 1]? = some (.cells (frC (⟨x3, x4, vs % 2147483648, [], -1, 0, 0, 0, false, 0, []⟩ : Fr) nilS nilS) 38 (0, 0))) (ds := [4, 5]) #[false, false, false, false, false, false] (by kernel_rfl) rfl rfl hd4 (fun hHeld => ?_)
 have HDE := Lib.hid ((HE8.out).below (below_drew (Below.refl w8.heap.size w8)))
 have HD := Lib.hid hdr
 clear hdr hd4
 generalize w8.drew = wd at HD HDE hHeld ⊢
 refine take_ (i := 0) (N := some 54) (v := ?_) (a' := ?_) #[true, false, false, false, false, false] rfl rfl (by kernel_rfl) (fun _ _ _ h => h) (Or.inl ⟨by rfl, ?_⟩) hHeld ?_ ?_
 rotate_left
 ·intro w' s
  have s0 := blk_cell s 0
  have s1 := blk_cell s 1
  have s2 := blk_cell s 2
  have s3 := blk_cell s 3
  have s4 := blk_cell s 4
  have s5 := blk_cell s 5
  have s6 := blk_cell s 6
  have s7 := blk_cell s 7
  have s8 := blk_cell s 8
  have s9 := blk_cell s 9
  have s10 := blk_cell s 10
  simp at s0 s1 s2 s3 s4 s5 s6 s7 s8 s9 s10
  go_simp
  with_reducible rfl
 rotate_left
 ·simp only [Act.put, putA, putB, putC]
  rfl
 refine pure_ (i := 1) (N := some 55) (v := ?_) (a' := ?_) #[true, true, false, false, false, false] rfl rfl (by kernel_rfl) (fun _ _ _ h => h) (Or.inl ⟨by rfl, ?_⟩) ?_ ?_
 rotate_left
 ·intro w'
  go_simp
  with_reducible rfl
 rotate_left
 ·simp only [Act.put, putA, putB, putC]
  rfl
 refine one_ (i := 2) (N := some 56) #[true, true, true, false, false, false] rfl rfl (by kernel_rfl) (by decide) (fun K hK => ?_)
 refine goes_ Tryd.func15 (by kernel_rfl) rfl #[.string ⟨#[102, 114, 97, 109, 101]⟩, .iface T8 (.pointer (some ⟨p8, 0, none⟩))] (by rfl) rfl rfl (by (try simp only [List.map_toArray, List.map_cons, List.map_nil]); first | done | rfl) ?_
 refine (wrap_err _ _ _ 1 1 _ HDE.out).mono ?_
 rintro e w4 ⟨v, rfl, hb4, hE4⟩
 obtain ⟨T, p, rfl⟩ := hE4.form
 have HD2 := Lib.hid (And.intro (HD.out.step hb4) hE4)
 clear hb4 hE4
 refine ⟨_, rfl, ?_⟩
 refine hK.out _ _ HD2.out.1.b4 (fun hHeld => ?_)
 clear hK K
 refine norm_ (a' := ?_) ?_ ?_
 rotate_left
 ·show Act.put _ (some 56) _ = _
  simp only [Act.put, putA, putB, putC]
  rfl
 refine one_ (i := 3) (N := some 57) #[true, true, true, true, false, false] rfl rfl (by kernel_rfl) (by decide) (fun K hK => ?_)
 refine goes_ Tryd.func18 (by kernel_rfl) rfl #[.iface T (.pointer (some ⟨p, 0, none⟩))] (by rfl) rfl rfl (by (try simp only [List.map_toArray, List.map_cons, List.map_nil]); first | done | rfl) ?_
 refine (of_err _ _ 1 1 _ ((HI.out.hgv).below HD2.out.1.bel) HD2.out.2).mono ?_
 rintro e w5 ⟨rfl, hb5⟩
 have HD3 := Lib.hid (HD2.out.1.step hb5)
 clear hb5
 refine ⟨_, rfl, ?_⟩
 refine hK.out _ _ HD3.out.b4 (fun hHeld => ?_)
 clear hK K
 refine norm_ (a' := ?_) ?_ ?_
 rotate_left
 ·show Act.put _ (some 57) _ = _
  simp only [Act.put, putA, putB, putC]
  rfl
 obtain ⟨c2, hc2, hs2⟩ := HD3.out.b2
 obtain ⟨c3, hc3, hs3⟩ := HD3.out.b3
 refine last_ (i := 4) (N := none) #[true, true, true, true, true, false] rfl rfl (by kernel_rfl) (by decide) (fun K hK => ?_)
 refine store_step (g := w.heap.size) (T := 38) (frC (⟨x3, x4, vs % 2147483648, [], -1, 0, 0, 0, false, 0, []⟩ : Fr) nilS nilS) (.tmp 2) (.tmp 54) (by rfl) rfl rfl (by rfl) (by rfl) hc2 hs2 Tryd.infoFr (by simp [Value.oneCell']) ?_
 intro w6 hh6 hf6 hz6 hb6
 refine hK.out _ _ ?_
 clear hK K
 refine last_ (i := 5) (N := none) #[true, true, true, true, true, true] rfl rfl (by kernel_rfl) (by decide) (fun K hK => ?_)
 refine store_step (g := w.heap.size + 1) (T := 24) #[.int .u8 1, .int .u32 1] (.tmp 3) (.tmp 57) (by rfl) rfl rfl (by rfl) (by rfl) ((hf6 _ (by omega)).trans hc3) hs3 Tryd.infoFa (by simp [Value.oneCell']) ?_
 intro w7 hh7 hf7 hz7 hb7
 refine hK.out _ _ ?_
 clear hK K
 refine done_ (by kernel_rfl) ?_
 have HZ := Lib.hid (HD3.out.answer hh6 hb6 hf7 hh7 hb7)
 clear hh6 hb6 hf6 hz6 hf7 hh7 hb7 hz7 hc2 hs2 hc3 hs3
 go_wp2_with fail
 exact bodyPost_ret (results_cc rfl _ _ w.heap.size (w.heap.size + 1) 38 24 (frC (⟨x3, x4, vs % 2147483648, [], -1, 0, 0, 0, false, 0, []⟩ : Fr) nilS nilS) #[.int .u8 1, .int .u32 1] (0, 0) (0, 0) _ _ rfl HZ.out.1 Tryd.underlying38 rfl Tryd.infoFr rfl HZ.out.2.1 Tryd.underlying24 rfl Tryd.infoFa) rfl (HP.out _ _ ⟨HZ.out.2.2, by rw [HE.out]⟩)
end Go.Proofs.YtjjfkmniffbgkaaDoor
