/- The statement of louver/louverlaw08.SplitFrames: for every input it returns true, and each argument reads behind the call as it read before; no other condition than the row's own. -/
import Derived.Test.YtjjfkmniffbgkaaDoorMSplitFrames8
import Derived.Test.YtjjfkmniffbgkaaDoorMSplitFrames10
import Derived.Deep.CutRange
import Derived.Test.YtjjfkmniffbgkaaDoorMSplitFrames7
import Derived.Test.YtjjfkmniffbgkaaDoorMSplitFrames2
import Derived.Test.YtjjfkmniffbgkaaDoorRows
import Derived.LaidHandle
import Derived.LaidLaws
import Derived.Stop.Joined
import Derived.Test.YtjjfkmniffbgkaaDoorCards
import Derived.Test.YtjjfkmniffbgkaaDoorTie
import Derived.WalkKit
import Derived.ProofKit
import Derived.OpenShut
import Derived.ShutString
import Derived.ChangeOld
import Derived.Below
import Derived.SizedLaws
import Derived.Carry
import Derived.Deep.DeepHandedRow
import Derived.Test.YtjjfkmniffbgkaaDoorMSplitFrames0
/- FramePuts' pure part: both say the same of whether a frame may be. -/
namespace Go.Proofs.YtjjfkmniffbgkaaDoor
set_option linter.unusedVariables false
set_option linter.unusedSimpArgs false
open Go.RowKit Go.Proofs.YtjjfkmniffbgkaaDoorW.PrintWords Go.Proofs.YtjjfkmniffbgkaaDoorW.PrintLast Go.Proofs.YtjjfkmniffbgkaaDoorW.PrintMore Go.Proofs.YtjjfkmniffbgkaaDoor.QFrmA Go.Proofs.YtjjfkmniffbgkaaDoor.Given
theorem mayPad_iff {F : Fr} (h : FrWf F) : mayPad F = true ↔ ((F.ty = 0 ∨ F.ty = 1 ∨ F.ty = 5) ∧ Go.bits .and .u8 F.fl 8 ≠ 0) := by
 unfold mayPad
 rw [bit8' h.fl0 h.fl1, Bool.and_eq_true, decide_eq_true_iff, bne_iff_ne]
theorem mayT2_iff (F : Fr) (pd : Bool) : mayT2 F pd = false ↔ (if pd = true then 0 ≤ F.pad ∧ F.pad ≤ 255 else F.pad = -1) := by
 unfold mayT2
 cases pd
 ·simp
 ·simp
  try omega
theorem mayT4_iff (F : Fr) : mayT4 F = false ↔ F.st ≤ 2147483647 ∧ F.oth ≤ 2147483647 ∧ F.win ≤ 2147483647 := by
 unfold mayT4
 simp [Bool.or_eq_false_iff]
 try omega
theorem mayT6_iff (F : Fr) : mayT6 F = false ↔ (leansB F.ty F.fl = true ∨ (F.wgt = 0 ∧ F.al = false)) ∧ ((leansB F.ty F.fl = true ∨ F.ty = 5 ∨ F.ty = 7) ∨ F.oth = 0) := by
 unfold mayT6
 cases leansB F.ty F.fl <;> cases F.al <;> by_cases hw : F.wgt = 0 <;> by_cases ho : F.oth = 0 <;> by_cases h5 : F.ty = 5 <;> by_cases h7 : F.ty = 7 <;> simp [hw, ho, h5, h7]
theorem mayT8_iff (F : Fr) : mayT8 F = false ↔ ((F.ty = 3 ∨ F.ty = 7) ∨ F.code = 0) ∧ (F.ty = 8 ∨ F.win = 0) ∧ (F.ty = 4 ∨ F.sets = []) := by
 unfold mayT8
 have e : decide (0 < (F.sets.length : Int)) = !decide (F.sets = []) := by
  rw [Bool.eq_iff_iff, Bool.not_eq_true', decide_eq_true_iff, decide_eq_false_iff_not, ← nil_len]
  omega
 rw [e]
 by_cases hc : F.code = 0 <;> by_cases hw : F.win = 0 <;> by_cases hs : F.sets = [] <;> by_cases h3 : F.ty = 3 <;> by_cases h7 : F.ty = 7 <;> by_cases h8 : F.ty = 8 <;> by_cases h4 : F.ty = 4 <;> simp [hc, hw, hs, h3, h7, h8, h4]
theorem mayT10_iff (F : Fr) : mayT10 F = false ↔ ((F.ty ≠ 2 ∧ F.ty ≠ 3 ∧ F.ty ≠ 4 ∧ F.ty ≠ 8) ∨ F.data = []) ∧ (F.ty = 6 → F.data.length = 8) := by
 unfold mayT10
 have e : decide (0 < (F.data.length : Int)) = !decide (F.data = []) := by
  rw [Bool.eq_iff_iff, Bool.not_eq_true', decide_eq_true_iff, decide_eq_false_iff_not, ← nil_len]
  omega
 have e8 : ((F.data.length : Int) != 8) = !decide (F.data.length = 8) := by
  rw [Bool.eq_iff_iff, Bool.not_eq_true', bne_iff_ne, decide_eq_false_iff_not]
  omega
 rw [e, e8]
 by_cases hd : F.data = [] <;> by_cases h8d : F.data.length = 8 <;> by_cases h2 : F.ty = 2 <;> by_cases h3 : F.ty = 3 <;> by_cases h4 : F.ty = 4 <;> by_cases h8 : F.ty = 8 <;> by_cases h6 : F.ty = 6 <;> simp [hd, h8d, h2, h3, h4, h8, h6] <;> omega
theorem mayT12_iff (F : Fr) : mayT12 F = true ↔ F.data.length ≤ 16384 ∧ F.sets.length ≤ 3000 ∧ (rpayL F).length ≤ 16384 := by
 unfold mayT12
 rw [Bool.and_eq_true, Bool.and_eq_true, decide_eq_true_iff, decide_eq_true_iff, decide_eq_true_iff]
 omega
theorem rmayB_iff (F : Fr) : rmayB F = true ↔ mayT2 F (mayPad F) = false ∧ mayT4 F = false ∧ mayT6 F = false ∧ mayT8 F = false ∧ mayT10 F = false ∧ mayT12 F = true := by
 unfold rmayB
 cases mayT2 F (mayPad F) <;> cases mayT4 F <;> cases mayT6 F <;> cases mayT8 F <;> cases mayT10 F <;> simp
theorem rmay_ok {F : Fr} (h : FrWf F) : rmayB F = true ↔ MayOk F := by
 rw [rmayB_iff, mayT2_iff, mayT4_iff, mayT6_iff, mayT8_iff, mayT10_iff, mayT12_iff]
 have hp := mayPad_iff h
 constructor
 ·rintro ⟨h2, ⟨s1, s2, s3⟩, ⟨a1, a2⟩, ⟨b1, b2, b3⟩, ⟨c1, c2⟩, ⟨d1, d2, d3⟩⟩
  have e := pay_rpay h s2
  refine ⟨⟨a1, a2, b1, b2, b3, c1⟩, s1, s2, s3, ?_, c2, d1, ?_, by rw [e]; exact d3⟩
  ·by_cases hq : (F.ty = 0 ∨ F.ty = 1 ∨ F.ty = 5) ∧ Go.bits .and .u8 F.fl 8 ≠ 0
   ·rw [if_pos hq]
    rw [if_pos (hp.2 hq)] at h2
    exact h2
   ·rw [if_neg hq]
    rw [if_neg (fun hx => hq (hp.1 hx))] at h2
    exact h2
  ·rcases b3 with h4 | h0
   ·have hl : leansB F.ty F.fl = false := notlean (by omega) (by omega)
    have hr : rheadL F = F.sets.flatMap rsetL := by
     unfold rheadL rmidL
     rw [hl, if_neg (by decide), if_neg (by omega), if_pos h4]
    have hlen : (F.sets.flatMap rsetL).length ≤ (rpayL F).length := by
     unfold rpayL
     rw [hr]
     split
     ·simp only [List.length_append]; omega
     ·simp only [List.length_append]; omega
    rw [sets_len] at hlen
    omega
   ·rw [h0]; decide
 ·intro m
  have e := pay_rpay h m.oth
  refine ⟨?_, ⟨m.st, m.oth, m.win⟩, ⟨m.fields.lean, m.fields.oth⟩, ⟨m.fields.code, m.fields.win, m.fields.sets⟩, ⟨m.fields.data, m.ping⟩, m.data, by have := m.sets; omega, by rw [← e]; exact m.pay⟩
  have h2 := m.pad
  by_cases hq : (F.ty = 0 ∨ F.ty = 1 ∨ F.ty = 5) ∧ Go.bits .and .u8 F.fl 8 ≠ 0
  ·rw [if_pos hq] at h2
   rw [if_pos (hp.2 hq)]
   exact h2
  ·rw [if_neg hq] at h2
   rw [if_neg (fun hx => hq (hp.1 hx))]
   exact h2
theorem FrWf.ok {F : Fr} (h : FrWf F) : FrOk F := ⟨h.fl0, h.fl1, h.code0, h.code1, h.oth0, h.oth1, h.win0, h.win1, h.sets⟩
theorem read_put {F G : Fr} (hw : FrWf F) (hm : MayOk F) (hr : readR ⟨F.ty, F.fl, F.st, [], -1, 0, 0, 0, false, 0, []⟩ (payL F) = .ok G) : G = F := by
 unfold readR unpadR at hr
 have hp := hm.pad
 have hc := pay_core F
 by_cases hq : (F.ty = 0 ∨ F.ty = 1 ∨ F.ty = 5) ∧ Go.bits .and .u8 F.fl 8 ≠ 0
 ·rw [if_pos hq] at hp
  have e0 : (mx F.pad 0) = F.pad := by unfold mx; split <;> omega
  rw [if_pos hp.1, e0] at hc
  have hx : (payL F).getD 0 0 = F.pad := by
   rw [hc]
   show F.pad % 256 = F.pad
   omega
  have hlen : (payL F).length = 1 + (coreL F).length + F.pad.toNat := by
   rw [hc]
   simp only [List.length_append, List.length_cons, List.length_nil, List.length_replicate]
   omega
  dsimp only at hr
  rw [if_pos hq, if_neg (by omega), hx, if_neg (by omega)] at hr
  dsimp only at hr
  have hd : ((payL F).drop 1).take ((payL F).length - 1 - F.pad.toNat) = coreL F := by
   rw [hlen, show 1 + (coreL F).length + F.pad.toNat - 1 - F.pad.toNat = (coreL F).length by omega, hc]
   show (coreL F ++ List.replicate F.pad.toNat 0).take (coreL F).length = coreL F
   exact List.take_left
  rw [hd] at hr
  exact body_put hw hm hr
 ·rw [if_neg hq] at hp
  have e0 : (mx F.pad 0).toNat = 0 := by unfold mx; split <;> omega
  rw [if_neg (by omega), e0, List.nil_append, List.replicate_zero, List.append_nil] at hc
  dsimp only at hr
  rw [if_neg hq] at hr
  dsimp only at hr
  rw [List.drop_zero, List.take_length, hc] at hr
  refine body_put hw hm ?_
  rw [hp]
  exact hr
theorem put_len (F : Fr) : (putL F).length = 9 + (payL F).length := by
 unfold putL be3 be4
 simp only [List.length_append, List.length_cons, List.length_nil]
theorem put_byte {F : Fr} (hw : FrWf F) (hm : MayOk F) : Byte8 (putL F) := by
 have hmid : Byte8 (midL F) := by
  unfold midL
  repeat' split
  ·exact byte_be4 _
  ·intro x hx
   obtain ⟨s, hs, hx⟩ := List.mem_flatMap.1 hx
   exact byte_app (byte_be2 _) (byte_be4 _) x hx
  ·exact byte_app (byte_be4 _) (byte_be4 _)
  ·exact byte_be4 _
  ·exact byte_be4 _
  ·intro x hx; cases hx
 have hl : Byte8 (leanL F) := by
  unfold leanL
  refine byte_app (byte_be4 _) fun x hx => ?_
  rw [List.mem_singleton.1 hx]
  exact ⟨hw.wgt0, hw.wgt1⟩
 have hc : Byte8 (coreL F) := by
  unfold coreL
  refine byte_app (byte_app hmid ?_) hw.data
  split
  ·exact hl
  ·intro x hx; cases hx
 have hp : Byte8 (payL F) := by
  rw [pay_core]
  refine byte_app ?_ (byte_app hc fun x hx => ?_)
  ·split
   ·intro x hx
    rw [List.mem_singleton.1 hx]
    omega
   ·intro x hx; cases hx
  ·rw [(List.mem_replicate.1 hx).2]
   decide
 unfold putL
 refine byte_app (byte_app (byte_app (byte_be3 _) fun x hx => ?_) (byte_be4 _)) hp
 rcases List.mem_cons.1 hx with rfl | hx
 ·exact ⟨hw.ty0, hw.ty1⟩
 ·rw [List.mem_singleton.1 hx]
  exact ⟨hw.fl0, hw.fl1⟩
theorem put_head {F : Fr} (hm : MayOk F) : headN (putL F) = ((putL F).length : Int) := by
 have hl := put_len F
 have hp := hm.pay
 unfold headN
 rw [if_neg (by omega)]
 have e : (putL F).take 3 = be3 ((payL F).length % 4294967296) := rfl
 rw [e, Int.emod_eq_of_lt (by omega) (by omega), val_be3 (by omega) (by omega), hl]
 omega
theorem getFr_code {l : List Int} (h0 : (getFr l).2.1 = 0) : (getFr l).2.2 = 0 := by
 unfold getFr at h0 ⊢
 by_cases h1 : ¬ (9 ≤ l.length ∧ headN l = (l.length : Int))
 ·rw [if_pos h1] at h0; cases h0
 rw [if_neg h1] at h0 ⊢
 by_cases h2 : 16393 < l.length
 ·rw [if_pos h2] at h0; cases h0
 rw [if_neg h2] at h0 ⊢
 by_cases h3 : stBad (l.getD 3 0) (valL ((l.take 9).drop 5) % 2147483648) = true
 ·rw [if_pos h3] at h0; cases h0
 rw [if_neg h3] at h0 ⊢
 cases hr : readR ⟨l.getD 3 0, l.getD 4 0, valL ((l.take 9).drop 5) % 2147483648, [], -1, 0, 0, 0, false, 0, []⟩ (l.drop 9) with
 | bad s c =>
  rw [hr] at h0
  exact absurd h0 (read_bad hr)
 | ok F => rfl
theorem put_rput {F : Fr} (h : FrWf F) (hm : MayOk F) : putL F = rputL F := by
 have e := pay_rpay h hm.oth
 have hp := hm.pay
 unfold putL rputL
 rw [← e, be4_beL, Int.emod_eq_of_lt (by omega) (by omega)]
 have e3 : be3 ((payL F).length : Int) = beL ((payL F).length : Int) 3 := by
  unfold be3
  rw [shr16, shr8, shr0]
  simp [beL]
 rw [e3]
theorem get_put {F : Fr} (hw : FrWf F) (hm : MayOk F) (h0 : (getFr (putL F)).2.1 = 0) : getFr (putL F) = (F, 0, 0) := by
 have hg := get_good h0
 have e3 : (putL F).getD 3 0 = F.ty := rfl
 have e4 : (putL F).getD 4 0 = F.fl := rfl
 have e5 : ((putL F).take 9).drop 5 = be4 F.st := rfl
 have e9 : (putL F).drop 9 = payL F := rfl
 have es : valL ((List.take 9 (putL F)).drop 5) % 2147483648 = F.st := by
  rw [e5, val_be4 hw.st0 hw.st1, Int.emod_eq_of_lt hw.st0 (by have := hm.st; omega)]
 obtain ⟨h9, hn, hl, hr⟩ := hg
 rw [e3, e4, es, e9] at hr
 have eG := read_put hw hm hr
 have hx : getFr (putL F) = ((getFr (putL F)).1, (getFr (putL F)).2.1, (getFr (putL F)).2.2) := rfl
 rw [hx, eG, h0]
 rw [getFr_code h0]
end Go.Proofs.YtjjfkmniffbgkaaDoor

/- Frames that may be, put one behind the other, come as they were. No program. -/
namespace Go.Proofs.YtjjfkmniffbgkaaDoor
set_option linter.unusedVariables false
set_option linter.unusedSimpArgs false
open Go.RowKit
structure GoodF (F : Fr) : Prop where
 wf : FrWf F
 may : MayOk F
 got : (getFr (putL F)).2.1 = 0
theorem GoodF.of {F : Fr} (hw : FrWf F) (hm : rmayB F = true) (h0 : (getFr (rputL F)).2.1 = 0) : GoodF F :=
 ⟨hw, (rmay_ok hw).1 hm, by rw [put_rput hw ((rmay_ok hw).1 hm)]; exact h0⟩
theorem nextB_put {F : Fr} (h : GoodF F) : nextB (putL F) = some ((F, 0, 0), [], false) := by
 have hl := put_len F
 have hh := put_head h.may
 have hp := h.may.pay
 have h0 := h.got
 have hg := get_put h.wf h.may h0
 unfold nextB
 rw [hh, if_neg (by omega), if_neg (by omega), if_neg (by omega), Int.toNat_natCast, List.take_length, if_neg (by rw [h0]; decide), hg, List.drop_length]
theorem byte_puts : ∀ (l : List Fr), (∀ F ∈ l, GoodF F) → Byte8 (l.flatMap putL)
 | [], _ => fun x hx => (by cases hx)
 | F :: l, h => by
  rw [List.flatMap_cons]
  exact byte_app (put_byte (h F (List.mem_cons_self)).wf (h F (List.mem_cons_self)).may) (byte_puts l fun G hG => h G (List.mem_cons_of_mem _ hG))
theorem allB_puts : ∀ (l : List Fr), (∀ F ∈ l, GoodF F) → allB (l.flatMap putL).length (l.flatMap putL) = (l.map (fun F => ((F, 0, 0) : Rs)), 0, false)
 | [], _ => rfl
 | F :: l, h => by
  have hF := h F (List.mem_cons_self)
  have hl := fun G hG => h G (List.mem_cons_of_mem _ hG)
  rw [List.flatMap_cons, allB_one (put_byte hF.wf hF.may) (byte_puts l hl) (nextB_put hF), if_neg (by decide), List.nil_append, allB_puts l hl]
  rfl
theorem rputs_puts (l : List Fr) (h : ∀ F ∈ l, GoodF F) : l.flatMap rputL = l.flatMap putL := by
 induction l with
 | nil => rfl
 | cons F l ih =>
  rw [List.flatMap_cons, List.flatMap_cons, ih (fun G hG => h G (List.mem_cons_of_mem _ hG)), put_rput (h F (List.mem_cons_self)).wf (h F (List.mem_cons_self)).may]
theorem allP_puts (l : List Fr) (h : ∀ F ∈ l, GoodF F) : allP true (pre24 ++ l.flatMap rputL) = (l.map (fun F => ((F, 0, 0) : Rs)), 0, false) := by
 rw [rputs_puts l h]
 unfold allP
 rw [preOk_long _ (by decide) (by decide), if_pos rfl, if_neg (by decide), if_neg (by rw [List.length_append]; have : pre24.length = 24 := rfl; omega), List.drop_append_of_le_length (by decide), show pre24.drop 24 = [] from rfl, List.nil_append]
 exact allB_puts l h
theorem byte_full (l : List Fr) (h : ∀ F ∈ l, GoodF F) : Byte8 (pre24 ++ l.flatMap rputL) := by
 rw [rputs_puts l h]
 refine byte_app ?_ (byte_puts l h)
 intro x hx
 simp only [pre24, List.mem_cons, List.not_mem_nil, or_false] at hx
 rcases hx with rfl | rfl | rfl | rfl | rfl | rfl | rfl | rfl | rfl | rfl | rfl | rfl | rfl | rfl | rfl | rfl | rfl | rfl | rfl | rfl | rfl | rfl | rfl | rfl <;> decide
theorem len_rput {F : Fr} (h : GoodF F) : (rputL F).length ≤ 16393 := by
 rw [← put_rput h.wf h.may, put_len]
 have := h.may.pay
 omega
theorem len_full : ∀ (l : List Fr), (∀ F ∈ l, GoodF F) → (l.flatMap rputL).length ≤ 16393 * l.length
 | [], _ => Nat.le_refl _
 | F :: l, h => by
  rw [List.flatMap_cons, List.length_append, List.length_cons]
  have h1 := len_rput (h F (List.mem_cons_self))
  have h2 := len_full l fun G hG => h G (List.mem_cons_of_mem _ hG)
  omega
end Go.Proofs.YtjjfkmniffbgkaaDoor

/- The reference of frames: May, walked. (This text is printed by wip/gen/rmay.py.) -/
namespace Go.Proofs.YtjjfkmniffbgkaaDoor
set_option linter.unusedVariables false
set_option linter.unusedSimpArgs false
open Go.RowKit Go.Proofs.YtjjfkmniffbgkaaDoorW.PrintWords Go.Proofs.YtjjfkmniffbgkaaDoorW.PrintLast Go.Proofs.YtjjfkmniffbgkaaDoorW.PrintMore Go.Proofs.YtjjfkmniffbgkaaDoor.QFrmA Go.Proofs.YtjjfkmniffbgkaaDoor.Given Go.Extern.Stop Go.Stop Go.Extern Go.Maps
theorem fr_cells {w W : World} {t : List Nat} {F : Fr} {A B : Option Addr} {c m g : Nat} {l : List Own} (H : Hold w W t (cl g (frC F (.slice A F.data.length c) (.slice B F.sets.length m)).toList 38 :: l)) : W.cell? ⟨g, 0, none⟩ = some (.int .u8 F.ty) ∧ W.cell? ⟨g, 1, none⟩ = some (.int .u8 F.fl) ∧ W.cell? ⟨g, 2, none⟩ = some (.int .u32 F.st) ∧ W.cell? ⟨g, 3, none⟩ = some (.slice A F.data.length c) ∧ W.cell? ⟨g, 4, none⟩ = some (.int .i64 F.pad) ∧ W.cell? ⟨g, 5, none⟩ = some (.int .u32 F.code) ∧ W.cell? ⟨g, 6, none⟩ = some (.int .u32 F.oth) ∧ W.cell? ⟨g, 7, none⟩ = some (.int .u8 F.wgt) ∧ W.cell? ⟨g, 8, none⟩ = some (.bool F.al) ∧ W.cell? ⟨g, 9, none⟩ = some (.int .u32 F.win) ∧ W.cell? ⟨g, 10, none⟩ = some (.slice B F.sets.length m) := by
 have h := fun k => H.cell (List.Mem.head _) k
 exact ⟨(h 0).trans rfl, (h 1).trans rfl, (h 2).trans rfl, (h 3).trans rfl, (h 4).trans rfl, (h 5).trans rfl, (h 6).trans rfl, (h 7).trans rfl, (h 8).trans rfl, (h 9).trans rfl, (h 10).trans rfl⟩
set_option maxHeartbeats 100000000 in
set_option maxRecDepth 100000 in
theorem rmay_calls (w : World) (F : Fr) (A B : Option Addr) (c m : Nat) (hA : Kd.C (Kd.int .u8) w A F.data.length F.data) (hc : F.data.length ≤ c) (hB : Kd.C k99 w B F.sets.length F.sets) (hm : F.sets.length ≤ m) (h : FrOk F) :
  Calls Tryd.prog 23 #[.agg (frC F (.slice A F.data.length c) (.slice B F.sets.length m))] w fun e w' => e = .returned (.bool (rmayB F)) ∧ Below w.heap.size w w' := by
 refine of_post0 fun R hRR => ?_
 have HP := Lib.hid hRR
 have HK := Lib.hid h
 have HA := Lib.hid (And.intro hA (And.intro hc (And.intro hB hm)))
 clear hRR h hA hc hB hm
 have H : Hold w w [] [] := Hold.nothing (Kept.refl _ _)
 go_enter Tryd.func23, Tryd.ntmps23
 go_upto_region 1 with (first
  | (refine box_h H rfl rfl rfl rfl ?_; clear H; intro g w_ H))
 (try simp only [Act.put, putA, putB, putC])
 go_cut [3] from 4 to 13 (fun v wc => v = .bool (mayPad F) ∧ Hold w wc [] [cl g (frC F (.slice A F.data.length c) (.slice B F.sets.length m)).toList 38])
 case first =>
  rename_i J_ K_ hJ_ hK_
  repeat (rename_i kx_ hx_; clear hx_ kx_)
  have BJ : PLift _ := PLift.up hJ_
  clear hJ_
  have HM := Lib.hid (show mayPad F = (decide (F.ty = 0 ∨ F.ty = 1 ∨ F.ty = 5) && (F.fl.tdiv 8 % 2 == 1)) from rfl)
  cases hPT : decide (F.ty = 0 ∨ F.ty = 1 ∨ F.ty = 5)
  ·obtain ⟨x0, x1, x2, x3, x4, x5, x6, x7, x8, x9, x10⟩ := fr_cells H
   go_wp2_with (first
    | (go_at_call 50; refine (rpads_calls _ F.ty).mono ?_; rintro e_ w_ ⟨rfl, h_⟩; rw [hPT]; replace H := H.below h_.below; clear h_; clear x0 x1 x2 x3 x4 x5 x6 x7 x8 x9 x10; obtain ⟨x0, x1, x2, x3, x4, x5, x6, x7, x8, x9, x10⟩ := fr_cells H))
   have hJ_ := BJ.down
   clear BJ
   go_meet
   exact ⟨by rw [HM.out, hPT]; rfl, H⟩
  ·cases hB8 : (F.fl.tdiv 8 % 2 == 1)
   ·obtain ⟨x0, x1, x2, x3, x4, x5, x6, x7, x8, x9, x10⟩ := fr_cells H
    go_wp2_with (first
     | (go_at_call 50; refine (rpads_calls _ F.ty).mono ?_; rintro e_ w_ ⟨rfl, h_⟩; rw [hPT]; replace H := H.below h_.below; clear h_; clear x0 x1 x2 x3 x4 x5 x6 x7 x8 x9 x10; obtain ⟨x0, x1, x2, x3, x4, x5, x6, x7, x8, x9, x10⟩ := fr_cells H))
    have hJ_ := BJ.down
    clear BJ
    go_meet
    exact ⟨by rw [HM.out, hPT, hB8]; rfl, H⟩
   ·obtain ⟨x0, x1, x2, x3, x4, x5, x6, x7, x8, x9, x10⟩ := fr_cells H
    go_wp2_with (first
     | (go_at_call 50; refine (rpads_calls _ F.ty).mono ?_; rintro e_ w_ ⟨rfl, h_⟩; rw [hPT]; replace H := H.below h_.below; clear h_; clear x0 x1 x2 x3 x4 x5 x6 x7 x8 x9 x10; obtain ⟨x0, x1, x2, x3, x4, x5, x6, x7, x8, x9, x10⟩ := fr_cells H))
    have hJ_ := BJ.down
    clear BJ
    go_meet
    exact ⟨by rw [HM.out, hPT, hB8]; rfl, H⟩
 case rest =>
  obtain ⟨rfl, H⟩ := hcut
  generalize hpd : mayPad F = pd at H ⊢
  have HPD := Lib.hid hpd
  clear hpd
  go_upto_region 2 with fail
  (try simp only [Act.put, putA, putB, putC])
  go_cut [3, 33] from 14 to 33 (fun v3 v wc => v3 = .bool pd ∧ v = .bool (mayT2 F pd) ∧ Hold w wc [] [cl g (frC F (.slice A F.data.length c) (.slice B F.sets.length m)).toList 38])
  case first =>
   rename_i J_ K_ hJ_ hK_
   repeat (rename_i kx_ hx_; clear hx_ kx_)
   have BJ : PLift _ := PLift.up hJ_
   clear hJ_
   have HM := Lib.hid (show mayT2 F pd = ((pd && (decide (F.pad < 0) || decide (255 < F.pad))) || ((!pd) && (F.pad != -1))) from rfl)
   cases hPD : pd
   ·cases hPM : (F.pad != -1)
    ·obtain ⟨x0, x1, x2, x3, x4, x5, x6, x7, x8, x9, x10⟩ := fr_cells H
     go_wp2_with (first
      | (fail))
     have hJ_ := BJ.down
     clear BJ
     go_meet
     exact ⟨by first | rfl | rw [hPD], by rw [HM.out, hPD, hPM]; rfl, H⟩
    ·obtain ⟨x0, x1, x2, x3, x4, x5, x6, x7, x8, x9, x10⟩ := fr_cells H
     go_wp2_with (first
      | (fail))
     have hJ_ := BJ.down
     clear BJ
     go_meet
     exact ⟨by first | rfl | rw [hPD], by rw [HM.out, hPD, hPM]; rfl, H⟩
   ·cases hPN : decide (F.pad < 0)
    ·cases hPG : decide (255 < F.pad)
     ·obtain ⟨x0, x1, x2, x3, x4, x5, x6, x7, x8, x9, x10⟩ := fr_cells H
      go_wp2_with (first
       | (fail))
      have hJ_ := BJ.down
      clear BJ
      go_meet
      exact ⟨by first | rfl | rw [hPD], by rw [HM.out, hPD, hPN, hPG]; rfl, H⟩
     ·obtain ⟨x0, x1, x2, x3, x4, x5, x6, x7, x8, x9, x10⟩ := fr_cells H
      go_wp2_with (first
       | (fail))
      have hJ_ := BJ.down
      clear BJ
      go_meet
      exact ⟨by first | rfl | rw [hPD], by rw [HM.out, hPD, hPN, hPG]; rfl, H⟩
    ·obtain ⟨x0, x1, x2, x3, x4, x5, x6, x7, x8, x9, x10⟩ := fr_cells H
     go_wp2_with (first
      | (fail))
     have hJ_ := BJ.down
     clear BJ
     go_meet
     exact ⟨by first | rfl | rw [hPD], by rw [HM.out, hPD, hPN]; rfl, H⟩
  case rest =>
   obtain ⟨rfl, rfl, H⟩ := hcut
   cases g2 : mayT2 F pd
   case true =>
    go_wp2_with fail
    exact HP.out _ _ ⟨by unfold rmayB; rw [HPD.out]; rw [if_pos g2], H.all⟩
   have G2H := Lib.hid g2
   clear g2
   go_upto_region 4 with fail
   (try simp only [Act.put, putA, putB, putC])
   go_cut [46] from 34 to 46 (fun v wc => v = .bool (mayT4 F) ∧ Hold w wc [] [cl g (frC F (.slice A F.data.length c) (.slice B F.sets.length m)).toList 38])
   case first =>
    rename_i J_ K_ hJ_ hK_
    repeat (rename_i kx_ hx_; clear hx_ kx_)
    have BJ : PLift _ := PLift.up hJ_
    clear hJ_
    have HM := Lib.hid (show mayT4 F = ((decide (2147483647 < F.st) || decide (2147483647 < F.oth)) || decide (2147483647 < F.win)) from rfl)
    cases hST : decide (2147483647 < F.st)
    ·cases hOT : decide (2147483647 < F.oth)
     ·cases hWT : decide (2147483647 < F.win)
      ·obtain ⟨x0, x1, x2, x3, x4, x5, x6, x7, x8, x9, x10⟩ := fr_cells H
       go_wp2_with (first
        | (fail))
       have hJ_ := BJ.down
       clear BJ
       go_meet
       exact ⟨by rw [HM.out, hST, hOT, hWT]; rfl, H⟩
      ·obtain ⟨x0, x1, x2, x3, x4, x5, x6, x7, x8, x9, x10⟩ := fr_cells H
       go_wp2_with (first
        | (fail))
       have hJ_ := BJ.down
       clear BJ
       go_meet
       exact ⟨by rw [HM.out, hST, hOT, hWT]; rfl, H⟩
     ·obtain ⟨x0, x1, x2, x3, x4, x5, x6, x7, x8, x9, x10⟩ := fr_cells H
      go_wp2_with (first
       | (fail))
      have hJ_ := BJ.down
      clear BJ
      go_meet
      exact ⟨by rw [HM.out, hST, hOT]; rfl, H⟩
    ·obtain ⟨x0, x1, x2, x3, x4, x5, x6, x7, x8, x9, x10⟩ := fr_cells H
     go_wp2_with (first
      | (fail))
     have hJ_ := BJ.down
     clear BJ
     go_meet
     exact ⟨by rw [HM.out, hST]; rfl, H⟩
   case rest =>
    obtain ⟨rfl, H⟩ := hcut
    cases g4 : mayT4 F
    case true =>
     go_wp2_with fail
     exact HP.out _ _ ⟨by unfold rmayB; rw [HPD.out]; rw [if_neg (by rw [G2H.out]; exact Bool.false_ne_true)]; rw [if_pos g4], H.all⟩
    have G4H := Lib.hid g4
    clear g4
    go_upto_region 6 with fail
    (try simp only [Act.put, putA, putB, putC])
    go_cut [78] from 47 to 78 (fun v wc => v = .bool (mayT6 F) ∧ Hold w wc [] [cl g (frC F (.slice A F.data.length c) (.slice B F.sets.length m)).toList 38])
    case first =>
     rename_i J_ K_ hJ_ hK_
     repeat (rename_i kx_ hx_; clear hx_ kx_)
     have BJ : PLift _ := PLift.up hJ_
     clear hJ_
     have HM := Lib.hid (show mayT6 F = ((((F.wgt != 0) || F.al) && (!leansB F.ty F.fl)) || ((((F.oth != 0) && (!leansB F.ty F.fl)) && (F.ty != 5)) && (F.ty != 7))) from rfl)
     cases hWG : (F.wgt != 0)
     ·cases hAL : F.al
      ·cases hO : (F.oth != 0)
       ·obtain ⟨x0, x1, x2, x3, x4, x5, x6, x7, x8, x9, x10⟩ := fr_cells H
        go_wp2_with (first
         | (fail))
        have hJ_ := BJ.down
        clear BJ
        go_meet
        exact ⟨by rw [HM.out, hWG, hAL, hO]; rfl, H⟩
       ·cases hL : leansB F.ty F.fl
        ·cases hN5 : (F.ty != 5)
         ·obtain ⟨x0, x1, x2, x3, x4, x5, x6, x7, x8, x9, x10⟩ := fr_cells H
          go_wp2_with (first
           | (go_at_call 51; refine (rleans_calls _ ⟨_, F.fl, _, [], _, _, _, _, _, _, []⟩ _ _ HK.out.fl0 HK.out.fl1).mono ?_; rintro e_ w_ ⟨rfl, h_⟩; dsimp only; (first | rw [hL] | (rw [show F.ty = 5 by simpa using hN5] at hL; rw [hL]) | (rw [show F.ty = 7 by simpa using hN7] at hL; rw [hL])); replace H := H.below h_; clear h_; clear x0 x1 x2 x3 x4 x5 x6 x7 x8 x9 x10; obtain ⟨x0, x1, x2, x3, x4, x5, x6, x7, x8, x9, x10⟩ := fr_cells H))
          have hJ_ := BJ.down
          clear BJ
          go_meet
          exact ⟨by rw [HM.out, hWG, hAL, hO, hL, hN5]; rfl, H⟩
         ·cases hN7 : (F.ty != 7)
          ·obtain ⟨x0, x1, x2, x3, x4, x5, x6, x7, x8, x9, x10⟩ := fr_cells H
           go_wp2_with (first
            | (go_at_call 51; refine (rleans_calls _ ⟨_, F.fl, _, [], _, _, _, _, _, _, []⟩ _ _ HK.out.fl0 HK.out.fl1).mono ?_; rintro e_ w_ ⟨rfl, h_⟩; dsimp only; (first | rw [hL] | (rw [show F.ty = 5 by simpa using hN5] at hL; rw [hL]) | (rw [show F.ty = 7 by simpa using hN7] at hL; rw [hL])); replace H := H.below h_; clear h_; clear x0 x1 x2 x3 x4 x5 x6 x7 x8 x9 x10; obtain ⟨x0, x1, x2, x3, x4, x5, x6, x7, x8, x9, x10⟩ := fr_cells H))
           have hJ_ := BJ.down
           clear BJ
           go_meet
           exact ⟨by rw [HM.out, hWG, hAL, hO, hL, hN5, hN7]; rfl, H⟩
          ·obtain ⟨x0, x1, x2, x3, x4, x5, x6, x7, x8, x9, x10⟩ := fr_cells H
           go_wp2_with (first
            | (go_at_call 51; refine (rleans_calls _ ⟨_, F.fl, _, [], _, _, _, _, _, _, []⟩ _ _ HK.out.fl0 HK.out.fl1).mono ?_; rintro e_ w_ ⟨rfl, h_⟩; dsimp only; (first | rw [hL] | (rw [show F.ty = 5 by simpa using hN5] at hL; rw [hL]) | (rw [show F.ty = 7 by simpa using hN7] at hL; rw [hL])); replace H := H.below h_; clear h_; clear x0 x1 x2 x3 x4 x5 x6 x7 x8 x9 x10; obtain ⟨x0, x1, x2, x3, x4, x5, x6, x7, x8, x9, x10⟩ := fr_cells H))
           have hJ_ := BJ.down
           clear BJ
           go_meet
           exact ⟨by rw [HM.out, hWG, hAL, hO, hL, hN5, hN7]; rfl, H⟩
        ·obtain ⟨x0, x1, x2, x3, x4, x5, x6, x7, x8, x9, x10⟩ := fr_cells H
         go_wp2_with (first
          | (go_at_call 51; refine (rleans_calls _ ⟨_, F.fl, _, [], _, _, _, _, _, _, []⟩ _ _ HK.out.fl0 HK.out.fl1).mono ?_; rintro e_ w_ ⟨rfl, h_⟩; dsimp only; (first | rw [hL] | (rw [show F.ty = 5 by simpa using hN5] at hL; rw [hL]) | (rw [show F.ty = 7 by simpa using hN7] at hL; rw [hL])); replace H := H.below h_; clear h_; clear x0 x1 x2 x3 x4 x5 x6 x7 x8 x9 x10; obtain ⟨x0, x1, x2, x3, x4, x5, x6, x7, x8, x9, x10⟩ := fr_cells H))
         have hJ_ := BJ.down
         clear BJ
         go_meet
         exact ⟨by rw [HM.out, hWG, hAL, hO, hL]; rfl, H⟩
      ·cases hL : leansB F.ty F.fl
       ·obtain ⟨x0, x1, x2, x3, x4, x5, x6, x7, x8, x9, x10⟩ := fr_cells H
        go_wp2_with (first
         | (go_at_call 51; refine (rleans_calls _ ⟨_, F.fl, _, [], _, _, _, _, _, _, []⟩ _ _ HK.out.fl0 HK.out.fl1).mono ?_; rintro e_ w_ ⟨rfl, h_⟩; dsimp only; (first | rw [hL] | (rw [show F.ty = 5 by simpa using hN5] at hL; rw [hL]) | (rw [show F.ty = 7 by simpa using hN7] at hL; rw [hL])); replace H := H.below h_; clear h_; clear x0 x1 x2 x3 x4 x5 x6 x7 x8 x9 x10; obtain ⟨x0, x1, x2, x3, x4, x5, x6, x7, x8, x9, x10⟩ := fr_cells H))
        have hJ_ := BJ.down
        clear BJ
        go_meet
        exact ⟨by rw [HM.out, hWG, hAL, hL]; rfl, H⟩
       ·cases hO : (F.oth != 0)
        ·obtain ⟨x0, x1, x2, x3, x4, x5, x6, x7, x8, x9, x10⟩ := fr_cells H
         go_wp2_with (first
          | (go_at_call 51; refine (rleans_calls _ ⟨_, F.fl, _, [], _, _, _, _, _, _, []⟩ _ _ HK.out.fl0 HK.out.fl1).mono ?_; rintro e_ w_ ⟨rfl, h_⟩; dsimp only; (first | rw [hL] | (rw [show F.ty = 5 by simpa using hN5] at hL; rw [hL]) | (rw [show F.ty = 7 by simpa using hN7] at hL; rw [hL])); replace H := H.below h_; clear h_; clear x0 x1 x2 x3 x4 x5 x6 x7 x8 x9 x10; obtain ⟨x0, x1, x2, x3, x4, x5, x6, x7, x8, x9, x10⟩ := fr_cells H))
         have hJ_ := BJ.down
         clear BJ
         go_meet
         exact ⟨by rw [HM.out, hWG, hAL, hL, hO]; rfl, H⟩
        ·obtain ⟨x0, x1, x2, x3, x4, x5, x6, x7, x8, x9, x10⟩ := fr_cells H
         go_wp2_with (first
          | (go_at_call 51; refine (rleans_calls _ ⟨_, F.fl, _, [], _, _, _, _, _, _, []⟩ _ _ HK.out.fl0 HK.out.fl1).mono ?_; rintro e_ w_ ⟨rfl, h_⟩; dsimp only; (first | rw [hL] | (rw [show F.ty = 5 by simpa using hN5] at hL; rw [hL]) | (rw [show F.ty = 7 by simpa using hN7] at hL; rw [hL])); replace H := H.below h_; clear h_; clear x0 x1 x2 x3 x4 x5 x6 x7 x8 x9 x10; obtain ⟨x0, x1, x2, x3, x4, x5, x6, x7, x8, x9, x10⟩ := fr_cells H))
         have hJ_ := BJ.down
         clear BJ
         go_meet
         exact ⟨by rw [HM.out, hWG, hAL, hL, hO]; rfl, H⟩
     ·cases hL : leansB F.ty F.fl
      ·obtain ⟨x0, x1, x2, x3, x4, x5, x6, x7, x8, x9, x10⟩ := fr_cells H
       go_wp2_with (first
        | (go_at_call 51; refine (rleans_calls _ ⟨_, F.fl, _, [], _, _, _, _, _, _, []⟩ _ _ HK.out.fl0 HK.out.fl1).mono ?_; rintro e_ w_ ⟨rfl, h_⟩; dsimp only; (first | rw [hL] | (rw [show F.ty = 5 by simpa using hN5] at hL; rw [hL]) | (rw [show F.ty = 7 by simpa using hN7] at hL; rw [hL])); replace H := H.below h_; clear h_; clear x0 x1 x2 x3 x4 x5 x6 x7 x8 x9 x10; obtain ⟨x0, x1, x2, x3, x4, x5, x6, x7, x8, x9, x10⟩ := fr_cells H))
       have hJ_ := BJ.down
       clear BJ
       go_meet
       exact ⟨by rw [HM.out, hWG, hL]; rfl, H⟩
      ·cases hO : (F.oth != 0)
       ·obtain ⟨x0, x1, x2, x3, x4, x5, x6, x7, x8, x9, x10⟩ := fr_cells H
        go_wp2_with (first
         | (go_at_call 51; refine (rleans_calls _ ⟨_, F.fl, _, [], _, _, _, _, _, _, []⟩ _ _ HK.out.fl0 HK.out.fl1).mono ?_; rintro e_ w_ ⟨rfl, h_⟩; dsimp only; (first | rw [hL] | (rw [show F.ty = 5 by simpa using hN5] at hL; rw [hL]) | (rw [show F.ty = 7 by simpa using hN7] at hL; rw [hL])); replace H := H.below h_; clear h_; clear x0 x1 x2 x3 x4 x5 x6 x7 x8 x9 x10; obtain ⟨x0, x1, x2, x3, x4, x5, x6, x7, x8, x9, x10⟩ := fr_cells H))
        have hJ_ := BJ.down
        clear BJ
        go_meet
        exact ⟨by rw [HM.out, hWG, hL, hO]; rfl, H⟩
       ·obtain ⟨x0, x1, x2, x3, x4, x5, x6, x7, x8, x9, x10⟩ := fr_cells H
        go_wp2_with (first
         | (go_at_call 51; refine (rleans_calls _ ⟨_, F.fl, _, [], _, _, _, _, _, _, []⟩ _ _ HK.out.fl0 HK.out.fl1).mono ?_; rintro e_ w_ ⟨rfl, h_⟩; dsimp only; (first | rw [hL] | (rw [show F.ty = 5 by simpa using hN5] at hL; rw [hL]) | (rw [show F.ty = 7 by simpa using hN7] at hL; rw [hL])); replace H := H.below h_; clear h_; clear x0 x1 x2 x3 x4 x5 x6 x7 x8 x9 x10; obtain ⟨x0, x1, x2, x3, x4, x5, x6, x7, x8, x9, x10⟩ := fr_cells H))
        have hJ_ := BJ.down
        clear BJ
        go_meet
        exact ⟨by rw [HM.out, hWG, hL, hO]; rfl, H⟩
    case rest =>
     obtain ⟨rfl, H⟩ := hcut
     cases g6 : mayT6 F
     case true =>
      go_wp2_with fail
      exact HP.out _ _ ⟨by unfold rmayB; rw [HPD.out]; rw [if_neg (by rw [G2H.out]; exact Bool.false_ne_true)]; rw [if_neg (by rw [G4H.out]; exact Bool.false_ne_true)]; rw [if_pos g6], H.all⟩
     have G6H := Lib.hid g6
     clear g6
     go_upto_region 8 with fail
     (try simp only [Act.put, putA, putB, putC])
     go_cut [112] from 79 to 112 (fun v wc => v = .bool (mayT8 F) ∧ Hold w wc [] [cl g (frC F (.slice A F.data.length c) (.slice B F.sets.length m)).toList 38])
     case first =>
      rename_i J_ K_ hJ_ hK_
      repeat (rename_i kx_ hx_; clear hx_ kx_)
      have BJ : PLift _ := PLift.up hJ_
      clear hJ_
      have HM := Lib.hid (show mayT8 F = (((((F.code != 0) && (F.ty != 3)) && (F.ty != 7)) || ((F.win != 0) && (F.ty != 8))) || (decide (0 < (F.sets.length : Int)) && (F.ty != 4))) from rfl)
      cases hC : (F.code != 0)
      ·cases hW : (F.win != 0)
       ·cases hS : decide (0 < (F.sets.length : Int))
        ·have hS' : decide (0 < F.sets.length) = false := by rw [← hS]; congr 1; exact propext ⟨fun h => by omega, fun h => by omega⟩
         obtain ⟨x0, x1, x2, x3, x4, x5, x6, x7, x8, x9, x10⟩ := fr_cells H
         go_wp2_with (first
          | (fail))
         have hJ_ := BJ.down
         clear BJ
         go_meet
         exact ⟨by rw [HM.out, hC, hW, hS]; rfl, H⟩
        ·have hS' : decide (0 < F.sets.length) = true := by rw [← hS]; congr 1; exact propext ⟨fun h => by omega, fun h => by omega⟩
         cases hN4 : (F.ty != 4)
         ·obtain ⟨x0, x1, x2, x3, x4, x5, x6, x7, x8, x9, x10⟩ := fr_cells H
          go_wp2_with (first
           | (fail))
          have hJ_ := BJ.down
          clear BJ
          go_meet
          exact ⟨by rw [HM.out, hC, hW, hS, hN4]; rfl, H⟩
         ·obtain ⟨x0, x1, x2, x3, x4, x5, x6, x7, x8, x9, x10⟩ := fr_cells H
          go_wp2_with (first
           | (fail))
          have hJ_ := BJ.down
          clear BJ
          go_meet
          exact ⟨by rw [HM.out, hC, hW, hS, hN4]; rfl, H⟩
       ·cases hN8 : (F.ty != 8)
        ·cases hS : decide (0 < (F.sets.length : Int))
         ·have hS' : decide (0 < F.sets.length) = false := by rw [← hS]; congr 1; exact propext ⟨fun h => by omega, fun h => by omega⟩
          obtain ⟨x0, x1, x2, x3, x4, x5, x6, x7, x8, x9, x10⟩ := fr_cells H
          go_wp2_with (first
           | (fail))
          have hJ_ := BJ.down
          clear BJ
          go_meet
          exact ⟨by rw [HM.out, hC, hW, hN8, hS]; rfl, H⟩
         ·have hS' : decide (0 < F.sets.length) = true := by rw [← hS]; congr 1; exact propext ⟨fun h => by omega, fun h => by omega⟩
          cases hN4 : (F.ty != 4)
          ·obtain ⟨x0, x1, x2, x3, x4, x5, x6, x7, x8, x9, x10⟩ := fr_cells H
           go_wp2_with (first
            | (fail))
           have hJ_ := BJ.down
           clear BJ
           go_meet
           exact ⟨by rw [HM.out, hC, hW, hN8, hS, hN4]; rfl, H⟩
          ·obtain ⟨x0, x1, x2, x3, x4, x5, x6, x7, x8, x9, x10⟩ := fr_cells H
           go_wp2_with (first
            | (fail))
           have hJ_ := BJ.down
           clear BJ
           go_meet
           exact ⟨by rw [HM.out, hC, hW, hN8, hS, hN4]; rfl, H⟩
        ·obtain ⟨x0, x1, x2, x3, x4, x5, x6, x7, x8, x9, x10⟩ := fr_cells H
         go_wp2_with (first
          | (fail))
         have hJ_ := BJ.down
         clear BJ
         go_meet
         exact ⟨by rw [HM.out, hC, hW, hN8]; rfl, H⟩
      ·cases hN3 : (F.ty != 3)
       ·cases hW : (F.win != 0)
        ·cases hS : decide (0 < (F.sets.length : Int))
         ·have hS' : decide (0 < F.sets.length) = false := by rw [← hS]; congr 1; exact propext ⟨fun h => by omega, fun h => by omega⟩
          obtain ⟨x0, x1, x2, x3, x4, x5, x6, x7, x8, x9, x10⟩ := fr_cells H
          go_wp2_with (first
           | (fail))
          have hJ_ := BJ.down
          clear BJ
          go_meet
          exact ⟨by rw [HM.out, hC, hN3, hW, hS]; rfl, H⟩
         ·have hS' : decide (0 < F.sets.length) = true := by rw [← hS]; congr 1; exact propext ⟨fun h => by omega, fun h => by omega⟩
          cases hN4 : (F.ty != 4)
          ·obtain ⟨x0, x1, x2, x3, x4, x5, x6, x7, x8, x9, x10⟩ := fr_cells H
           go_wp2_with (first
            | (fail))
           have hJ_ := BJ.down
           clear BJ
           go_meet
           exact ⟨by rw [HM.out, hC, hN3, hW, hS, hN4]; rfl, H⟩
          ·obtain ⟨x0, x1, x2, x3, x4, x5, x6, x7, x8, x9, x10⟩ := fr_cells H
           go_wp2_with (first
            | (fail))
           have hJ_ := BJ.down
           clear BJ
           go_meet
           exact ⟨by rw [HM.out, hC, hN3, hW, hS, hN4]; rfl, H⟩
        ·cases hN8 : (F.ty != 8)
         ·cases hS : decide (0 < (F.sets.length : Int))
          ·have hS' : decide (0 < F.sets.length) = false := by rw [← hS]; congr 1; exact propext ⟨fun h => by omega, fun h => by omega⟩
           obtain ⟨x0, x1, x2, x3, x4, x5, x6, x7, x8, x9, x10⟩ := fr_cells H
           go_wp2_with (first
            | (fail))
           have hJ_ := BJ.down
           clear BJ
           go_meet
           exact ⟨by rw [HM.out, hC, hN3, hW, hN8, hS]; rfl, H⟩
          ·have hS' : decide (0 < F.sets.length) = true := by rw [← hS]; congr 1; exact propext ⟨fun h => by omega, fun h => by omega⟩
           cases hN4 : (F.ty != 4)
           ·obtain ⟨x0, x1, x2, x3, x4, x5, x6, x7, x8, x9, x10⟩ := fr_cells H
            go_wp2_with (first
             | (fail))
            have hJ_ := BJ.down
            clear BJ
            go_meet
            exact ⟨by rw [HM.out, hC, hN3, hW, hN8, hS, hN4]; rfl, H⟩
           ·obtain ⟨x0, x1, x2, x3, x4, x5, x6, x7, x8, x9, x10⟩ := fr_cells H
            go_wp2_with (first
             | (fail))
            have hJ_ := BJ.down
            clear BJ
            go_meet
            exact ⟨by rw [HM.out, hC, hN3, hW, hN8, hS, hN4]; rfl, H⟩
         ·obtain ⟨x0, x1, x2, x3, x4, x5, x6, x7, x8, x9, x10⟩ := fr_cells H
          go_wp2_with (first
           | (fail))
          have hJ_ := BJ.down
          clear BJ
          go_meet
          exact ⟨by rw [HM.out, hC, hN3, hW, hN8]; rfl, H⟩
       ·cases hN7 : (F.ty != 7)
        ·cases hW : (F.win != 0)
         ·cases hS : decide (0 < (F.sets.length : Int))
          ·have hS' : decide (0 < F.sets.length) = false := by rw [← hS]; congr 1; exact propext ⟨fun h => by omega, fun h => by omega⟩
           obtain ⟨x0, x1, x2, x3, x4, x5, x6, x7, x8, x9, x10⟩ := fr_cells H
           go_wp2_with (first
            | (fail))
           have hJ_ := BJ.down
           clear BJ
           go_meet
           exact ⟨by rw [HM.out, hC, hN3, hN7, hW, hS]; rfl, H⟩
          ·have hS' : decide (0 < F.sets.length) = true := by rw [← hS]; congr 1; exact propext ⟨fun h => by omega, fun h => by omega⟩
           cases hN4 : (F.ty != 4)
           ·obtain ⟨x0, x1, x2, x3, x4, x5, x6, x7, x8, x9, x10⟩ := fr_cells H
            go_wp2_with (first
             | (fail))
            have hJ_ := BJ.down
            clear BJ
            go_meet
            exact ⟨by rw [HM.out, hC, hN3, hN7, hW, hS, hN4]; rfl, H⟩
           ·obtain ⟨x0, x1, x2, x3, x4, x5, x6, x7, x8, x9, x10⟩ := fr_cells H
            go_wp2_with (first
             | (fail))
            have hJ_ := BJ.down
            clear BJ
            go_meet
            exact ⟨by rw [HM.out, hC, hN3, hN7, hW, hS, hN4]; rfl, H⟩
         ·cases hN8 : (F.ty != 8)
          ·cases hS : decide (0 < (F.sets.length : Int))
           ·have hS' : decide (0 < F.sets.length) = false := by rw [← hS]; congr 1; exact propext ⟨fun h => by omega, fun h => by omega⟩
            obtain ⟨x0, x1, x2, x3, x4, x5, x6, x7, x8, x9, x10⟩ := fr_cells H
            go_wp2_with (first
             | (fail))
            have hJ_ := BJ.down
            clear BJ
            go_meet
            exact ⟨by rw [HM.out, hC, hN3, hN7, hW, hN8, hS]; rfl, H⟩
           ·have hS' : decide (0 < F.sets.length) = true := by rw [← hS]; congr 1; exact propext ⟨fun h => by omega, fun h => by omega⟩
            cases hN4 : (F.ty != 4)
            ·obtain ⟨x0, x1, x2, x3, x4, x5, x6, x7, x8, x9, x10⟩ := fr_cells H
             go_wp2_with (first
              | (fail))
             have hJ_ := BJ.down
             clear BJ
             go_meet
             exact ⟨by rw [HM.out, hC, hN3, hN7, hW, hN8, hS, hN4]; rfl, H⟩
            ·obtain ⟨x0, x1, x2, x3, x4, x5, x6, x7, x8, x9, x10⟩ := fr_cells H
             go_wp2_with (first
              | (fail))
             have hJ_ := BJ.down
             clear BJ
             go_meet
             exact ⟨by rw [HM.out, hC, hN3, hN7, hW, hN8, hS, hN4]; rfl, H⟩
          ·obtain ⟨x0, x1, x2, x3, x4, x5, x6, x7, x8, x9, x10⟩ := fr_cells H
           go_wp2_with (first
            | (fail))
           have hJ_ := BJ.down
           clear BJ
           go_meet
           exact ⟨by rw [HM.out, hC, hN3, hN7, hW, hN8]; rfl, H⟩
        ·obtain ⟨x0, x1, x2, x3, x4, x5, x6, x7, x8, x9, x10⟩ := fr_cells H
         go_wp2_with (first
          | (fail))
         have hJ_ := BJ.down
         clear BJ
         go_meet
         exact ⟨by rw [HM.out, hC, hN3, hN7]; rfl, H⟩
     case rest =>
      obtain ⟨rfl, H⟩ := hcut
      cases g8 : mayT8 F
      case true =>
       go_wp2_with fail
       exact HP.out _ _ ⟨by unfold rmayB; rw [HPD.out]; rw [if_neg (by rw [G2H.out]; exact Bool.false_ne_true)]; rw [if_neg (by rw [G4H.out]; exact Bool.false_ne_true)]; rw [if_neg (by rw [G6H.out]; exact Bool.false_ne_true)]; rw [if_pos g8], H.all⟩
      have G8H := Lib.hid g8
      clear g8
      go_upto_region 10 with fail
      (try simp only [Act.put, putA, putB, putC])
      go_cut [147] from 113 to 147 (fun v wc => v = .bool (mayT10 F) ∧ Hold w wc [] [cl g (frC F (.slice A F.data.length c) (.slice B F.sets.length m)).toList 38])
      case first =>
       rename_i J_ K_ hJ_ hK_
       repeat (rename_i kx_ hx_; clear hx_ kx_)
       have BJ : PLift _ := PLift.up hJ_
       clear hJ_
       have HM := Lib.hid (show mayT10 F = ((decide (0 < (F.data.length : Int)) && ((((F.ty == 2) || (F.ty == 3)) || (F.ty == 4)) || (F.ty == 8))) || ((F.ty == 6) && ((F.data.length : Int) != 8))) from rfl)
       cases hD : decide (0 < (F.data.length : Int))
       ·have hD' : decide (0 < F.data.length) = false := by rw [← hD]; congr 1; exact propext ⟨fun h => by omega, fun h => by omega⟩
        cases hE6 : (F.ty == 6)
        ·obtain ⟨x0, x1, x2, x3, x4, x5, x6, x7, x8, x9, x10⟩ := fr_cells H
         go_wp2_with (first
          | (fail))
         have hJ_ := BJ.down
         clear BJ
         go_meet
         exact ⟨by rw [HM.out, hD, hE6]; rfl, H⟩
        ·cases hD8 : ((F.data.length : Int) != 8)
         ·obtain ⟨x0, x1, x2, x3, x4, x5, x6, x7, x8, x9, x10⟩ := fr_cells H
          go_wp2_with (first
           | (fail))
          have hJ_ := BJ.down
          clear BJ
          go_meet
          exact ⟨by rw [HM.out, hD, hE6, hD8]; rfl, H⟩
         ·obtain ⟨x0, x1, x2, x3, x4, x5, x6, x7, x8, x9, x10⟩ := fr_cells H
          go_wp2_with (first
           | (fail))
          have hJ_ := BJ.down
          clear BJ
          go_meet
          exact ⟨by rw [HM.out, hD, hE6, hD8]; rfl, H⟩
       ·have hD' : decide (0 < F.data.length) = true := by rw [← hD]; congr 1; exact propext ⟨fun h => by omega, fun h => by omega⟩
        cases hE2 : (F.ty == 2)
        ·cases hE3 : (F.ty == 3)
         ·cases hE4 : (F.ty == 4)
          ·cases hE8 : (F.ty == 8)
           ·cases hE6 : (F.ty == 6)
            ·obtain ⟨x0, x1, x2, x3, x4, x5, x6, x7, x8, x9, x10⟩ := fr_cells H
             go_wp2_with (first
              | (fail))
             have hJ_ := BJ.down
             clear BJ
             go_meet
             exact ⟨by rw [HM.out, hD, hE2, hE3, hE4, hE8, hE6]; rfl, H⟩
            ·cases hD8 : ((F.data.length : Int) != 8)
             ·obtain ⟨x0, x1, x2, x3, x4, x5, x6, x7, x8, x9, x10⟩ := fr_cells H
              go_wp2_with (first
               | (fail))
              have hJ_ := BJ.down
              clear BJ
              go_meet
              exact ⟨by rw [HM.out, hD, hE2, hE3, hE4, hE8, hE6, hD8]; rfl, H⟩
             ·obtain ⟨x0, x1, x2, x3, x4, x5, x6, x7, x8, x9, x10⟩ := fr_cells H
              go_wp2_with (first
               | (fail))
              have hJ_ := BJ.down
              clear BJ
              go_meet
              exact ⟨by rw [HM.out, hD, hE2, hE3, hE4, hE8, hE6, hD8]; rfl, H⟩
           ·obtain ⟨x0, x1, x2, x3, x4, x5, x6, x7, x8, x9, x10⟩ := fr_cells H
            go_wp2_with (first
             | (fail))
            have hJ_ := BJ.down
            clear BJ
            go_meet
            exact ⟨by rw [HM.out, hD, hE2, hE3, hE4, hE8]; rfl, H⟩
          ·obtain ⟨x0, x1, x2, x3, x4, x5, x6, x7, x8, x9, x10⟩ := fr_cells H
           go_wp2_with (first
            | (fail))
           have hJ_ := BJ.down
           clear BJ
           go_meet
           exact ⟨by rw [HM.out, hD, hE2, hE3, hE4]; rfl, H⟩
         ·obtain ⟨x0, x1, x2, x3, x4, x5, x6, x7, x8, x9, x10⟩ := fr_cells H
          go_wp2_with (first
           | (fail))
          have hJ_ := BJ.down
          clear BJ
          go_meet
          exact ⟨by rw [HM.out, hD, hE2, hE3]; rfl, H⟩
        ·obtain ⟨x0, x1, x2, x3, x4, x5, x6, x7, x8, x9, x10⟩ := fr_cells H
         go_wp2_with (first
          | (fail))
         have hJ_ := BJ.down
         clear BJ
         go_meet
         exact ⟨by rw [HM.out, hD, hE2]; rfl, H⟩
      case rest =>
       obtain ⟨rfl, H⟩ := hcut
       cases g10 : mayT10 F
       case true =>
        go_wp2_with fail
        exact HP.out _ _ ⟨by unfold rmayB; rw [HPD.out]; rw [if_neg (by rw [G2H.out]; exact Bool.false_ne_true)]; rw [if_neg (by rw [G4H.out]; exact Bool.false_ne_true)]; rw [if_neg (by rw [G6H.out]; exact Bool.false_ne_true)]; rw [if_neg (by rw [G8H.out]; exact Bool.false_ne_true)]; rw [if_pos g10], H.all⟩
       have G10H := Lib.hid g10
       clear g10
       have e12 : rmayB F = mayT12 F := by unfold rmayB; rw [HPD.out]; rw [if_neg (by rw [G2H.out]; exact Bool.false_ne_true)]; rw [if_neg (by rw [G4H.out]; exact Bool.false_ne_true)]; rw [if_neg (by rw [G6H.out]; exact Bool.false_ne_true)]; rw [if_neg (by rw [G8H.out]; exact Bool.false_ne_true)]; rw [if_neg (by rw [G10H.out]; exact Bool.false_ne_true)]
       have HE := Lib.hid (show rmayB F = ((decide ((F.data.length : Int) ≤ 16384) && decide ((F.sets.length : Int) ≤ 3000)) && decide (((rpayL F).length : Int) ≤ 16384)) from e12)
       clear e12
       have hpad : -1 ≤ F.pad ∧ F.pad ≤ 255 := by
        have h2 := G2H.out
        unfold mayT2 at h2
        cases pd <;> simp at h2 <;> omega
       have HPA := Lib.hid hpad
       clear hpad
       have hsz := str_size (rpayL F)
       obtain ⟨sP, hsP⟩ : ∃ sP, strOfNums (rpayL F) = sP := ⟨_, rfl⟩
       rw [hsP] at hsz
       have HSP := Lib.hid (And.intro hsP hsz)
       clear hsP hsz
       cases hDL : decide ((F.data.length : Int) ≤ 16384)
       ·have hDL' : decide (F.data.length ≤ 16384) = false := by rw [← hDL]; congr 1; exact propext ⟨fun h => by omega, fun h => by omega⟩
        obtain ⟨x0, x1, x2, x3, x4, x5, x6, x7, x8, x9, x10⟩ := fr_cells H
        go_wp2_with (first
         | (fail))
        exact HP.out _ _ ⟨by rw [HE.out, hDL]; rfl, H.all⟩
       ·have hDL' : decide (F.data.length ≤ 16384) = true := by rw [← hDL]; congr 1; exact propext ⟨fun h => by omega, fun h => by omega⟩
        cases hSL : decide ((F.sets.length : Int) ≤ 3000)
        ·have hSL' : decide (F.sets.length ≤ 3000) = false := by rw [← hSL]; congr 1; exact propext ⟨fun h => by omega, fun h => by omega⟩
         obtain ⟨x0, x1, x2, x3, x4, x5, x6, x7, x8, x9, x10⟩ := fr_cells H
         go_wp2_with (first
          | (fail))
         exact HP.out _ _ ⟨by rw [HE.out, hDL, hSL]; rfl, H.all⟩
        ·have hSL' : decide (F.sets.length ≤ 3000) = true := by rw [← hSL]; congr 1; exact propext ⟨fun h => by omega, fun h => by omega⟩
         cases hPL : decide (((rpayL F).length : Int) ≤ 16384)
         ·have kd := of_decide_eq_true hDL
          have ks := of_decide_eq_true hSL
          have KDS := Lib.hid (show F.data.length ≤ 100000 ∧ F.sets.length ≤ 10000 by omega)
          clear kd ks
          have hPL' : decide ((sP.size : Int) ≤ 16384) = false := by rw [HSP.out.2]; exact hPL
          have HPL := Lib.hid hPL
          clear hPL
          obtain ⟨x0, x1, x2, x3, x4, x5, x6, x7, x8, x9, x10⟩ := fr_cells H
          go_wp2_with (first
           | (fail)
           | (go_at_call 52; refine (rpay_calls _ F A B c m (Kd.C_below HA.out.1 H.all) HA.out.2.1 (Kd.C_below HA.out.2.2.1 H.all) HA.out.2.2.2 HK.out HPA.out.1 HPA.out.2 KDS.out.1 KDS.out.2).mono ?_; rintro e_ w_ ⟨rfl, h_⟩; rw [HSP.out.1]; replace H := H.below h_; clear h_; clear x0 x1 x2 x3 x4 x5 x6 x7 x8 x9 x10; obtain ⟨x0, x1, x2, x3, x4, x5, x6, x7, x8, x9, x10⟩ := fr_cells H))
          exact HP.out _ _ ⟨by rw [HE.out, hDL, hSL, HPL.out]; rfl, H.all⟩
         ·have kd := of_decide_eq_true hDL
          have ks := of_decide_eq_true hSL
          have KDS := Lib.hid (show F.data.length ≤ 100000 ∧ F.sets.length ≤ 10000 by omega)
          clear kd ks
          have hPL' : decide ((sP.size : Int) ≤ 16384) = true := by rw [HSP.out.2]; exact hPL
          have HPL := Lib.hid hPL
          clear hPL
          obtain ⟨x0, x1, x2, x3, x4, x5, x6, x7, x8, x9, x10⟩ := fr_cells H
          go_wp2_with (first
           | (fail)
           | (go_at_call 52; refine (rpay_calls _ F A B c m (Kd.C_below HA.out.1 H.all) HA.out.2.1 (Kd.C_below HA.out.2.2.1 H.all) HA.out.2.2.2 HK.out HPA.out.1 HPA.out.2 KDS.out.1 KDS.out.2).mono ?_; rintro e_ w_ ⟨rfl, h_⟩; rw [HSP.out.1]; replace H := H.below h_; clear h_; clear x0 x1 x2 x3 x4 x5 x6 x7 x8 x9 x10; obtain ⟨x0, x1, x2, x3, x4, x5, x6, x7, x8, x9, x10⟩ := fr_cells H))
          exact HP.out _ _ ⟨by rw [HE.out, hDL, hSL, HPL.out]; rfl, H.all⟩
end Go.Proofs.YtjjfkmniffbgkaaDoor

/- The law of split, in plain lists: what play needs of a step. No program. -/
namespace Go.Proofs.YtjjfkmniffbgkaaDoor
set_option linter.unusedVariables false
set_option linter.unusedSimpArgs false
open Go.RowKit Go.Proofs.YtjjfkmniffbgkaaDoorW.PrintWords
theorem nextN_sets {b : List Int} (hl : b.length ≤ 16393) {x : Rs} (h : (nextN b).1 = some x) : x.1.sets.length ≤ 1000000 := by
 unfold nextN at h
 cases hx : nextB b with
 | none => rw [hx] at h; cases h
 | some v =>
  obtain ⟨x', b', y⟩ := v
  rw [hx] at h
  obtain rfl : x' = x := by simpa using h
  unfold nextB at hx
  split at hx
  ·cases hx
  ·split at hx
   ·cases hx
   ·split at hx
    ·obtain ⟨rfl, _, _⟩ : _ ∧ _ ∧ _ := by simpa using hx
     simp
    ·have hg := getFr_sets (b.take (headN b).toNat)
     rw [List.length_take] at hg
     split at hx
     ·obtain ⟨rfl, _, _⟩ : _ ∧ _ ∧ _ := by simpa using hx
      omega
     ·obtain ⟨rfl, _, _⟩ : _ ∧ _ ∧ _ := by simpa using hx
      omega
theorem nextS_sets {s : Sp} (hl : s.b.length ≤ 16393) {x : Rs} (h : (nextS s).1 = some x) : x.1.sets.length ≤ 1000000 := by
 unfold nextS at h
 split at h
 ·split at h
  ·obtain rfl : (noneF, 1, 1) = x := by simpa using h
   simp
  ·cases h
 ·split at h
  ·split at h
   ·obtain rfl : (noneF, 1, 1) = x := by simpa using h
    simp
   ·split at h
    ·cases h
    ·exact nextN_sets (by rw [List.length_drop]; omega) h
  ·exact nextN_sets hl h
structure PInv (w W : World) (g : Nat) (r : List Own) (p : Bool) (full : List Int) (vs vo : Value) (es : List FE) (s : Sp) (rest : List Int) (A : Option Addr) (c : Nat) : Prop where
 H : Hold w W [] ([spO g vs s, spR vs s, rowO vo es] ++ (rowT es ++ r))
 rd : ∀ (W' : World) (l' : List Own), Hold w W' [] (l' ++ r) → ReadsInt W' .u8 A rest.length rest
 le : rest.length ≤ c
 inv : SInv p full (es.map FE.x) s rest
 sets : ∀ e ∈ es, e.x.1.sets.length ≤ 1000000
 sum : es.length + spM s + rest.length ≤ full.length + 1
theorem PInv.badw {w W : World} {g : Nat} {r : List Own} {p : Bool} {full : List Int} {vs vo : Value} {es : List FE} {s : Sp} {rest : List Int} {A : Option Addr} {c : Nat} (h : PInv w W g r p full vs vo es s rest A c) : s.bad = true → s.waits = false := fun hb => (h.inv.bad hb).1
theorem PInv.more {w W W1 : World} {g : Nat} {r : List Own} {p : Bool} {full : List Int} {vs vo vs1 vo1 : Value} {es : List FE} {s : Sp} {rest : List Int} {A : Option Addr} {c : Nat} (h : PInv w W g r p full vs vo es s rest A c) (e : FE) (hx : (nextS s).1 = some e.x)
  (H : Hold w W1 [] ([spO g vs1 (nextS s).2, spR vs1 (nextS s).2, rowO vo1 (es ++ [e])] ++ (rowT (es ++ [e]) ++ r))) : PInv w W1 g r p full vs1 vo1 (es ++ [e]) (nextS s).2 rest A c ∧ spM (nextS s).2 < spM s := by
 have hless := nextS_less h.inv.bb h.badw hx
 refine ⟨⟨H, h.rd, h.le, by rw [List.map_append]; exact h.inv.next.1 _ hx, fun e' he' => ?_, ?_⟩, hless.1⟩
 ·rcases List.mem_append.1 he' with he' | he'
  ·exact h.sets e' he'
  ·obtain rfl := List.mem_singleton.1 he'
   exact nextS_sets h.inv.le hx
 ·have := h.sum
  have h2 := hless.1
  rw [List.length_append, List.length_singleton]
  omega
theorem PInv.nomore {w W W1 : World} {g : Nat} {r : List Own} {p : Bool} {full : List Int} {vs vo vs1 vo1 : Value} {es : List FE} {s : Sp} {rest : List Int} {A : Option Addr} {c : Nat} (h : PInv w W g r p full vs vo es s rest A c) (hx : (nextS s).1 = none)
  (H : Hold w W1 [] ([spO g vs1 (nextS s).2, spR vs1 (nextS s).2, rowO vo1 es] ++ (rowT es ++ r))) :
  PInv w W1 g r p full vs1 vo1 es (nextS s).2 rest A c ∧ ((nextS s).2.bad = true ∨ ((nextS s).2.bad = false ∧ (nextS s).2.b.length < 16393 ∧ nextS (nextS s).2 = (.none, (nextS s).2))) := by
 cases hb : s.bad with
 | true =>
  have e := nextS_badly hb (h.badw hb)
  rw [e] at H ⊢
  exact ⟨⟨H, h.rd, h.le, h.inv, h.sets, h.sum⟩, .inl hb⟩
 | false =>
  have hn := nextS_none hx hb
  refine ⟨⟨H, h.rd, h.le, h.inv.next.2 hx, h.sets, ?_⟩, .inr hn⟩
  have := h.sum
  have h2 : spM (nextS s).2 ≤ spM s := nextS_le hx hb
  omega
where
 nextS_le {s : Sp} (hx : (nextS s).1 = Option.none) (hb : s.bad = false) : spM (nextS s).2 ≤ spM s := by
  obtain ⟨b, w, y⟩ := s
  simp only at hb
  subst hb
  unfold nextS at hx ⊢
  simp only [Bool.false_eq_true, if_false] at hx ⊢
  cases w with
  | false =>
   simp only [Bool.false_eq_true, if_false] at hx ⊢
   rw [(nextN_none hx).1]
   exact Nat.le_refl _
  | true =>
   simp only [if_true] at hx ⊢
   cases hp : preOk b with
   | false => rw [hp] at hx; simp at hx
   | true =>
    rw [hp] at hx
    simp only [Bool.true_eq_false, if_false] at hx ⊢
    by_cases h24 : b.length < 24
    ·rw [if_pos h24]
     exact Nat.le_refl _
    ·rw [if_neg h24] at hx ⊢
     rw [(nextN_none hx).1]
     simp [spM]
theorem PInv.feed {w W W1 : World} {g : Nat} {r : List Own} {p : Bool} {full : List Int} {vs vo vs1 : Value} {es : List FE} {s : Sp} {rest : List Int} {A A1 : Option Addr} {c c1 : Nat} (h : PInv w W g r p full vs vo es s rest A c) (hb : s.bad = false) (n k : Nat) (hn : n ≤ rest.length) (hk : feedN s (rest.take n) = k)
  (H : Hold w W1 [] ([spO g vs1 ⟨s.b ++ (rest.take n).take k, s.waits, false⟩, spR vs1 ⟨s.b ++ (rest.take n).take k, s.waits, false⟩, rowO vo es] ++ (rowT es ++ r))) (rd : ∀ (W' : World) (l' : List Own), Hold w W' [] (l' ++ r) → ReadsInt W' .u8 A1 (rest.drop k).length (rest.drop k)) (le : (rest.drop k).length ≤ c1) :
  PInv w W1 g r p full vs1 vo es ⟨s.b ++ (rest.take n).take k, s.waits, false⟩ (rest.drop k) A1 c1 := by
 have hk' : k ≤ n ∧ s.b.length + k ≤ 16393 := by
  have h1 := h.inv.le
  unfold feedN at hk
  rw [List.length_take] at hk
  omega
 have e : (rest.take n).take k = rest.take k := by rw [List.take_take, Nat.min_eq_left hk'.1]
 rw [e] at H ⊢
 refine ⟨H, rd, le, h.inv.feed k hb hk'.2, h.sets, ?_⟩
 have := h.sum
 unfold spM at this ⊢
 rw [hb] at this
 simp only [Bool.false_eq_true, if_false, List.length_append, List.length_take, List.length_drop] at this ⊢
 omega
end Go.Proofs.YtjjfkmniffbgkaaDoor

/- louverlaw08.play, walked. (This text is printed by wip/gen/split10.py.) -/
namespace Go.Proofs.YtjjfkmniffbgkaaDoor
set_option linter.unusedVariables false
set_option linter.unusedSimpArgs false
open Go.RowKit Go.Proofs.YtjjfkmniffbgkaaDoorW.PrintWords Go.Proofs.YtjjfkmniffbgkaaDoorW.PrintLast Go.Proofs.YtjjfkmniffbgkaaDoorW.PrintMore Go.Proofs.YtjjfkmniffbgkaaDoor.QFrmA Go.Proofs.YtjjfkmniffbgkaaDoor.Given Go.Extern.Stop Go.Stop Go.Extern Go.Maps
attribute [local go_sem] max2_int min2_int max_two min_two
attribute [local go_sem high] eqFault
theorem Tryd.infoF : (Tryd.prog.info? 45).map (fun i => (i.zero, i.size, i.bytes)) = some (some (.agg (fC ⟨0, 0, 0, [], 0, 0, 0, 0, false, 0, []⟩ nilS nilS 0 0)), 13, 88) := by kernel_rfl
theorem Hold.assoc {w W : World} {t : List Nat} {a b r : List Own} (H : Hold w W t (a ++ (b ++ r))) : Hold w W t ((a ++ b) ++ r) := by rw [List.append_assoc]; exact H
theorem rowO_more (v : Value) (es : List FE) (e : FE) : Own.row 45 13 v (es.length + 1) (es.flatMap FE.cells ++ e.cells) = rowO v (es ++ [e]) := by
 unfold rowO
 rw [List.length_append, List.flatMap_append]
 simp
structure PHead (w W : World) (g : Nat) (r : List Own) (p : Bool) (full : List Int) (vs vo : Value) (es : List FE) (s : Sp) (rest : List Int) (A : Option Addr) (c : Nat) (j k : Nat) : Prop where
 P : PInv w W g r p full vs vo es s rest A c
 fuel : 2 * rest.length + (if 16393 ≤ s.b.length then 1 else 0) ≤ k
 jk : j + k ≤ 2 * full.length + 2
 fin : rest = [] → s.bad = false → nextS s = (none, s)
def PlayEnd (w : World) (g : Nat) (r : List Own) (p : Bool) (full : List Int) (e : Ending) (w' : World) : Prop :=
 ∃ vs vo es s, e = .returned (.tuple #[vo, .bool true]) ∧ (∃ A c, vo = .slice A es.length c) ∧ Hold w w' [] ([spO g vs s, spR vs s, rowO vo es] ++ (rowT es ++ r)) ∧ (∀ e ∈ es, e.x.1.sets.length ≤ 1000000) ∧ es.length ≤ full.length + 1 ∧ Byte8 s.b ∧ s.b.length ≤ 16393 ∧ nextS s = (none, s) ∧ allP p full = (es.map FE.x, s.b.length, s.bad)
theorem PInv.end_ {w W : World} {g : Nat} {r : List Own} {p : Bool} {full : List Int} {vs vo : Value} {es : List FE} {s : Sp} {rest : List Int} {A : Option Addr} {c : Nat} (h : PInv w W g r p full vs vo es s rest A c) (hv : ∃ A c, vo = .slice A es.length c) (hb : s.bad = true ∨ (rest = [] ∧ nextS s = (none, s))) : PlayEnd w g r p full (.returned (.tuple #[vo, .bool true])) W := by
 refine ⟨vs, vo, es, s, rfl, hv, h.H, h.sets, by have := h.sum; omega, h.inv.bb, h.inv.le, ?_, ?_⟩
 ·rcases hb with hb | ⟨_, hn⟩
  ·exact nextS_badly hb (h.badw hb)
  ·exact hn
 ·cases hbad : s.bad with
  | true =>
   obtain ⟨_, h2, h3⟩ := h.inv.bad hbad
   rw [h3, h2]
   rfl
  | false =>
   rcases hb with hb | ⟨rfl, hn⟩
   ·rw [hbad] at hb; cases hb
   ·exact h.inv.done hbad hn
set_option maxHeartbeats 16000000 in
set_option maxRecDepth 100000 in
theorem play_calls (w W : World) (g : Nat) (r : List Own) (hgv : GV w) (p : Bool) (full : List Int) (hby : Byte8 full) (hlen : full.length ≤ 10000000) (A : Option Addr) (c : Nat) (hc : full.length ≤ c) (hrd : ∀ (W' : World) (l' : List Own), Hold w W' [] (l' ++ r) → ReadsInt W' .u8 A full.length full) (As : Option Addr) (cs : Nat) (ns : List Int) (hns : Byte8 ns) (hrs : ∀ (W' : World) (l' : List Own), Hold w W' [] (l' ++ r) → ReadsInt W' .u8 As ns.length ns) (often : Int) (ho : 0 ≤ often ∧ often ≤ 255) (H0 : Hold w W [] ([spO g nilS ⟨[], p, false⟩, spR nilS ⟨[], p, false⟩] ++ r)) :
  Calls Tryd.prog 34 #[.pointer (some ⟨g, 0, none⟩), .slice A full.length c, .slice As ns.length cs, .int .u8 often] W (PlayEnd w g r p full) := by
 refine of_post0 fun R hRR => ?_
 have HP := Lib.hid hRR
 have HGV := Lib.hid hgv
 have HRS := Lib.hid (And.intro hrs hns)
 have HST := Lib.hid (And.intro hrd (And.intro hc hby))
 have H := H0
 clear hRR hgv hrs hns hrd hc hby H0
 go_enter Tryd.func34, Tryd.ntmps34
 go_wp2_with (first
  | ((with_reducible refine is_lit rfl ?_); refine emptyrow_h H rfl 45 13 (by first | (go_simp; done) | (go_simp; rfl)) ?_; clear H; intro go w_ H))
 go_loopg [1, 10, 11] (2 * full.length + 2) (fun k v1 v10 v11 wr => ∃ (j : Nat) (rest : List Int) (Ab : Option Addr) (cb : Nat) (vs : Value) (es : List FE) (s : Sp) (Ao : Option Addr) (co : Nat), v1 = .slice Ab rest.length cb ∧ v10 = .slice Ao es.length co ∧ v11 = .int .i64 (j : Int) ∧ Aside0 (PHead w wr g r p full vs (.slice Ao es.length co) es s rest Ab cb j k))
 case atStart =>
  refine ⟨0, full, A, c, nilS, [], ⟨[], p, false⟩, some ⟨go, 0, none⟩, 0, rfl, rfl, rfl, Aside0.mk ⟨⟨H.want (Want.take (by repeat (first | exact Pull.head | apply Pull.tail)) (Want.take (by repeat (first | exact Pull.head | apply Pull.tail)) (Want.take (by repeat (first | exact Pull.head | apply Pull.tail)) (Want.done (by repeat (first | exact Suf.refl | apply Suf.cons)))))), HST.out.1, HST.out.2.1, SInv.start p full HST.out.2.2, fun e he => (by cases he), by simp [spM]; omega⟩, ?_, ?_, fun h _ => ?_⟩⟩
  ·simp
  ·simp
  ·cases p <;> rfl
 case round =>
  obtain ⟨j, rest, Ab, cb, vs, es, s, Ao, co, rfl, rfl, rfl, hP⟩ := hrel
  have HPH := Lib.hid hP.out
  clear hP H
  have H := HPH.out.P.H
  by_cases hr0 : rest.length = 0
  ·have d0 : decide ((0 : Int) < (rest.length : Int)) = false := decide_eq_false (by omega)
   have d1 : decide (0 < rest.length) = false := decide_eq_false (by omega)
   go_wp2_with fail
   refine HP.out _ _ (HPH.out.P.end_ ⟨_, _, rfl⟩ ?_)
   have hr : rest = [] := List.eq_nil_of_length_eq_zero hr0
   cases hb : s.bad with
   | true => exact .inl rfl
   | false => exact .inr ⟨hr, HPH.out.fin hr hb⟩
  ·have d0 : decide ((0 : Int) < (rest.length : Int)) = true := decide_eq_true (by omega)
   have d1 : decide (0 < rest.length) = true := decide_eq_true (by omega)
   have hjk := HPH.out.jk
   have hfu := HPH.out.fuel
   go_upto_if 28 with fail
   go_cut [12] from 20 to 111 (fun v12 wc => ∃ n : Nat, v12 = .int .i64 (n : Int) ∧ 1 ≤ n ∧ n ≤ rest.length ∧ wc = wr)
   case first =>
    by_cases hjn : j < ns.length
    ·have d2 : decide ((j : Int) < (ns.length : Int)) = true := decide_eq_true (by omega)
     have d3 : decide (j < ns.length) = true := decide_eq_true hjn
     obtain ⟨ad, rfl, hcell⟩ := (HRS.out.1 wr _ (Hold.assoc H)).at_ (j : Int) (by omega) (by omega)
     have hx : 0 ≤ rd ns (j : Int) ∧ rd ns (j : Int) ≤ 255 := by
      unfold rd
      rw [List.getD_eq_getElem?_getD, Int.toNat_natCast, List.getElem?_eq_getElem hjn]
      exact HRS.out.2 _ (List.getElem_mem hjn)
     generalize rd ns (j : Int) = x at hcell hx
     rw [Int.toNat_natCast] at hcell
     obtain ⟨n, hn⟩ : ∃ n : Nat, n = min rest.length (1 + x.toNat) := ⟨_, rfl⟩
     have hmn : (if 1 + x < (rest.length : Int) then 1 + x else (rest.length : Int)) = (n : Int) := by split <;> omega
     have d4 : (j : Int) < (ns.length : Int) := by omega
     go_wp2_with fail
     go_meet
     exact ⟨n, by first | rfl | (simp; omega), by omega, by omega, rfl⟩
    ·have d2 : decide ((j : Int) < (ns.length : Int)) = false := decide_eq_false (by omega)
     have d3 : decide (j < ns.length) = false := decide_eq_false hjn
     go_wp2_with fail
     go_meet
     exact ⟨rest.length, by first | rfl | simp, by omega, Nat.le_refl _, rfl⟩
   case rest =>
    obtain ⟨n, rfl, hn1, hn2, rfl⟩ := hcut
    have hle := HPH.out.P.le
    obtain ⟨i0, hi, _, hsz, _⟩ := info_parts Tryd.infoB8
    obtain ⟨hcut, hrX, hcX⟩ := print_take_int (P := Tryd.prog) (k := .u8) 35 5 Tryd.underlying35 hi hsz Ab cb rest (n : Int) (by omega) (by omega) hle
    rw [Int.toNat_natCast] at hcut hrX hcX
    have q1 : (n : Int) ≤ (rest.length : Int) := by omega
    have q2 : wrap64 ((j : Int) + 1) = ((j + 1 : Nat) : Int) := by rw [wrap_okF (by omega) (by omega)]; omega
    obtain ⟨X, hX⟩ : ∃ X, rest.take n = X := ⟨_, rfl⟩
    rw [hX] at hcut hrX hcX
    have hXl : X.length = n := by rw [← hX, List.length_take]; omega
    cases hbad : s.bad with
    | true =>
     obtain ⟨hw0, hb0, _⟩ := HPH.out.P.inv.bad hbad
     obtain ⟨sb, sw, sy⟩ := s
     simp only at hw0 hb0 hbad
     subst hw0 hb0 hbad
     obtain ⟨A0, hcut0, hr0', hm0⟩ := print_drop_of (P := Tryd.prog) (Value.int .u8) (0 : Int) 35 5 .i64 Tryd.underlying35 hi hsz Ab cb rest 0 (by decide) (by omega) hle
     rw [show (0 : Int).toNat = 0 from rfl] at hcut0
     generalize rest.drop 0 = rest0 at hcut0
     have q3 : (if (16393 : Int) < (n : Int) then (16393 : Int) else (n : Int)) = (if (16393 : Int) < (n : Int) then (16393 : Int) else (n : Int)) := rfl
     clear hX hXl hrX hcX hr0' hm0 hi hsz q3
     go_wp2_with (first
      | (go_at_call 37; refine (bad_calls _ g _ _ _ (H.blk (by repeat (first | exact List.Mem.head _ | apply List.Mem.tail)))).mono ?_; rintro e_ w_ ⟨rfl, h_⟩; replace H := H.below h_; clear h_)
      | (go_at_call 38; refine (held_calls _ g _ ⟨[], false, true⟩ (H.sp (s := ⟨[], false, true⟩) (by repeat (first | exact List.Mem.head _ | apply List.Mem.tail)) (by repeat (first | exact List.Mem.head _ | apply List.Mem.tail)))).mono ?_; rintro e_ w_ ⟨rfl, h_⟩; replace H := H.below h_; clear h_)
      | (go_at_call 40; refine (feed_bad _ g _ ⟨[], false, true⟩ (H.sp (s := ⟨[], false, true⟩) (by repeat (first | exact List.Mem.head _ | apply List.Mem.tail)) (by repeat (first | exact List.Mem.head _ | apply List.Mem.tail))) rfl _ _ _).mono ?_; rintro e_ w_ ⟨rfl, h_⟩; replace H := H.below h_; clear h_))
     all_goals exact HP.out _ _ (PInv.end_ ⟨H, HPH.out.P.rd, HPH.out.P.le, HPH.out.P.inv, HPH.out.P.sets, HPH.out.P.sum⟩ ⟨_, _, rfl⟩ (.inl rfl))
    | false =>
     have hsl := HPH.out.P.inv.le
     obtain ⟨sb, sw, sy⟩ := s
     simp only at hbad hsl
     subst hbad
     obtain ⟨k, hk⟩ : ∃ k, feedN ⟨sb, sw, false⟩ X = k := ⟨_, rfl⟩
     have hkk : k = min n (16393 - sb.length) := by rw [← hk]; unfold feedN; simp only; omega
     have HPF := Lib.hid (fun (W1 : World) (vs1 : Value) (A1 : Option Addr) (c1 : Nat) => HPH.out.P.feed (W1 := W1) (vs1 := vs1) (A1 := A1) (c1 := c1) rfl n k hn2 (by rw [hX]; exact hk))
     have HFD := Lib.hid (fun (W1 : World) (v1 : Value) (h : IsSp W1 g v1 ⟨sb, sw, false⟩) (hR : ReadsInt W1 .u8 Ab X.length X) => feed_good W1 g v1 ⟨sb, sw, false⟩ h rfl hsl Ab cb X hR hcX)
     rw [hk] at HFD
     rw [hX] at HPF
     obtain ⟨A3, hcut3, hr3, hm3⟩ := print_drop_of (P := Tryd.prog) (Value.int .u8) (0 : Int) 35 5 .i64 Tryd.underlying35 hi hsz Ab cb rest (k : Int) (by omega) (by omega) hle
     rw [Int.toNat_natCast] at hcut3 hr3 hm3
     have q4 : (k : Int) ≤ (rest.length : Int) := by omega
     obtain ⟨b2, hb2⟩ : ∃ b2, sb ++ X.take k = b2 := ⟨_, rfl⟩
     have hb2l : b2.length = sb.length + k := by rw [← hb2, List.length_append, List.length_take]; omega
     rw [hb2] at HFD HPF
     obtain ⟨rest2, hr2⟩ : ∃ rest2, rest.drop k = rest2 := ⟨_, rfl⟩
     have hr2l : rest2.length = rest.length - k := by rw [← hr2, List.length_drop]
     rw [hr2] at hcut3 hr3 hm3 HPF
     have q3 : (if 16393 - (sb.length : Int) < (n : Int) then 16393 - (sb.length : Int) else (n : Int)) = (k : Int) := by split <;> omega
     have q5 : decide ((16393 : Int) < (b2.length : Int)) = false := decide_eq_false (by omega)
     have q6 : decide (16393 < b2.length) = false := decide_eq_false (by omega)
     have HRX := Lib.hid hrX
     have HR3 := Lib.hid (And.intro hr3 hm3)
     have HLN := Lib.hid (And.intro hXl (And.intro hb2l (And.intro hr2l hkk)))
     clear hX hXl hrX hcX hk hb2 hr2 hr3 hm3 hi hsz hb2l hr2l hle hkk
     go_upto_region 11 with (first
      | (go_at_call 38; refine (held_calls _ g _ ⟨sb, sw, false⟩ (H.sp (s := ⟨sb, sw, false⟩) (by repeat (first | exact List.Mem.head _ | apply List.Mem.tail)) (by repeat (first | exact List.Mem.head _ | apply List.Mem.tail)))).mono ?_; rintro e_ w_ ⟨rfl, h_⟩; replace H := H.below h_; clear h_)
      | (go_at_call 40; refine (HFD.out _ _ (H.sp (s := ⟨sb, sw, false⟩) (by repeat (first | exact List.Mem.head _ | apply List.Mem.tail)) (by repeat (first | exact List.Mem.head _ | apply List.Mem.tail))) (HRX.out _ (HPH.out.P.rd _ _ (Hold.assoc H)))).mono ?_; rintro e_ w_ ⟨vs2, rfl, h_⟩; replace H := Hold.call (H.pull2 (by repeat (first | exact Pull.head | apply Pull.tail)) (by repeat (first | exact Pull.head | apply Pull.tail))) h_; clear h_))
     go_upto_block 2 with (first
      | (go_at_call 37; refine (bad_calls _ g _ _ _ (H.blk (by repeat (first | exact List.Mem.head _ | apply List.Mem.tail)))).mono ?_; rintro e_ w_ ⟨rfl, h_⟩; replace H := H.below h_; clear h_)
      | (go_at_call 38; refine (held_calls _ g _ ⟨b2, sw, false⟩ (H.sp (s := ⟨b2, sw, false⟩) (by repeat (first | exact List.Mem.head _ | apply List.Mem.tail)) (by repeat (first | exact List.Mem.head _ | apply List.Mem.tail)))).mono ?_; rintro e_ w_ ⟨rfl, h_⟩; replace H := H.below h_; clear h_))
     have P2 := Lib.hid (HPF.out _ _ _ _ H (fun W' l' h => HR3.out.1 W' (HPH.out.P.rd W' l' h)) HR3.out.2)
     obtain ⟨K0, hK0⟩ : ∃ K0, gk = K0 := ⟨_, rfl⟩
     go_cut [10] from 20 to 111 (fun v10 wc => ∃ (vs3 : Value) (es3 : List FE) (s3 : Sp) (Ao3 : Option Addr) (co3 : Nat), v10 = .slice Ao3 es3.length co3 ∧ Aside0 (PInv w wc g r p full vs3 (.slice Ao3 es3.length co3) es3 s3 rest2 A3 (cb - k)) ∧ Aside0 ((k = n ∧ rest2.length ≠ 0) ∨ (s3.bad = true ∨ (s3.bad = false ∧ s3.b.length < 16393 ∧ nextS s3 = (none, s3)))))
     case first =>
      go_wp2_with fail
      go_loopg [10] (spM ⟨b2, sw, false⟩) (fun kk v10 wr2 => ∃ (vs3 : Value) (es3 : List FE) (s3 : Sp) (Ao3 : Option Addr) (co3 : Nat), v10 = .slice Ao3 es3.length co3 ∧ Aside0 (PInv w wr2 g r p full vs3 (.slice Ao3 es3.length co3) es3 s3 rest2 A3 (cb - k)) ∧ spM s3 ≤ kk)
      case atStart => exact ⟨vs2, es, ⟨b2, sw, false⟩, Ao, co, rfl, Aside0.mk P2.out, Nat.le_refl _⟩
      case round =>
       obtain ⟨vs3, es3, s3, Ao3, co3, rfl, hP3, hM3⟩ := hrel
       have HP3 := Lib.hid hP3.out
       clear hP3 H
       have H := HP3.out.H
       go_upto_region 18 with fail
       go_cut [85] from 67 to 102 (fun v85 wc => ∃ C : Bool, v85 = .bool C ∧ (C = false → k = n ∧ rest2.length ≠ 0) ∧ wc = wr)
       case first =>
        have hkn := HLN.out.2.2.2
        by_cases c1 : k < n
        ·have d1 : decide ((k : Int) < (n : Int)) = true := decide_eq_true (by omega)
         have d2 : decide (k < n) = true := decide_eq_true c1
         clear hkn
         go_wp2_with fail
         go_meet
         exact ⟨true, rfl, (fun h => by cases h), rfl⟩
        ·have d1 : decide ((k : Int) < (n : Int)) = false := decide_eq_false (by omega)
         have d2 : decide (k < n) = false := decide_eq_false c1
         have hkn2 : k = n := by omega
         have HKN := Lib.hid hkn2
         clear hkn hkn2
         by_cases c2 : often = 0
         ·have d3 : (often == 0) = true := by simpa using c2
          have d4 : decide (often = 0) = true := decide_eq_true c2
          clear c2
          go_wp2_with fail
          go_meet
          exact ⟨true, rfl, (fun h => by cases h), rfl⟩
         ·have d3 : (often == 0) = false := by simpa using c2
          have d4 : decide (often = 0) = false := decide_eq_false c2
          have HC2 := Lib.hid c2
          go_wp2_with fail
          ·go_meet
           exact ⟨true, rfl, (fun h => by cases h), rfl⟩
          ·go_meet
           exact ⟨_, rfl, (fun h => ⟨HKN.out, by intro h0; simp at h; exact h.2 (List.eq_nil_of_length_eq_zero h0)⟩), rfl⟩
       case rest =>
        obtain ⟨C, rfl, hC, rfl⟩ := hcut
        have HCC := Lib.hid hC
        clear hC
        have hes : es3.length ≤ 10000001 := by have := HP3.out.sum; omega
        cases C with
        | false =>
         go_wp2_with fail
         go_meet
         exact ⟨vs3, es3, s3, Ao3, co3, rfl, Aside0.mk HP3.out, Aside0.mk (.inl (by first | exact HCC.out rfl | exact HCC.out trivial | exact HCC.out))⟩
        | true =>
         have hnx := fun (W1 : World) (v1 : Value) (h : IsSp W1 g v1 s3) (hg : ∀ W2, Kept W1 W2 (ats [spO g v1 s3, spR v1 s3]) → GV W2) => next_calls W1 g v1 s3 h hg HP3.out.inv.bb HP3.out.inv.le
         obtain ⟨s4, hs4⟩ : ∃ s4, (nextS s3).2 = s4 := ⟨_, rfl⟩
         cases hN : (nextS s3).1 with
         | none =>
          have hmr := fun (W1 : World) (vs1 vo1 : Value) => HP3.out.nomore (W1 := W1) (vs1 := vs1) (vo1 := vo1) hN
          rw [hN, hs4] at hnx
          rw [hs4] at hmr
          simp only [Option.getD_none, Option.isSome_none] at hnx
          have HNX := Lib.hid hnx
          have HMR := Lib.hid hmr
          clear hnx hmr hs4 hN
          go_wp2_with (first
           | (go_at_call 39; refine (HNX.out _ _ (H.sp (s := s3) (by repeat (first | exact List.Mem.head _ | apply List.Mem.tail)) (by repeat (first | exact List.Mem.head _ | apply List.Mem.tail))) (Hold.gv H HGV.out (Want.take (by repeat (first | exact Pull.head | apply Pull.tail)) (Want.take (by repeat (first | exact Pull.head | apply Pull.tail)) (Want.done (by repeat (first | exact Suf.refl | apply Suf.cons))))))).mono ?_; rintro e_ w_ ⟨vs4, Ap, cp, Bp, mp, rfl, h_⟩; replace H := Hold.call (H.pull2 (by repeat (first | exact Pull.head | apply Pull.tail)) (by repeat (first | exact Pull.head | apply Pull.tail))) h_; clear h_)
           | ((with_reducible refine is_alloc (ty := 38) rfl ?_); refine alloc_h H rfl rfl (cs := (frC ⟨0, 0, 0, [], 0, 0, 0, 0, false, 0, []⟩ nilS nilS).toList) (by first | (go_simp; done) | (go_simp; rfl)) ?_; clear H; intro gF w_ H)
           | ((with_reducible refine is_alloc (ty := 24) rfl ?_); refine alloc_h H rfl rfl (cs := [.int .u8 0, .int .u32 0]) (by first | (go_simp; done) | (go_simp; rfl)) ?_; clear H; intro gE w_ H)
           | ((with_reducible refine is_store rfl ?_); (try simp only [Act.put, putA, putB, putC]); refine store_h H rfl rfl rfl rfl rfl (by repeat (first | exact Put.head | apply Put.tail)) (by kernel_rfl) (Nat.le_of_ble_eq_true rfl) rfl ?_; clear H; intro w_ H; simp only [setC, Value.cells, List.toList_toArray] at H))
          go_meet
          have h_ := HMR.out _ _ _ (H.want (Want.take (by repeat (first | exact Pull.head | apply Pull.tail)) (Want.take (by repeat (first | exact Pull.head | apply Pull.tail)) (Want.take (by repeat (first | exact Pull.head | apply Pull.tail)) (Want.done (by repeat (first | exact Suf.refl | apply Suf.cons)))))))
          exact ⟨_, es3, s4, Ao3, co3, rfl, Aside0.mk h_.1, Aside0.mk (.inr h_.2)⟩
         | some x =>
          have hmr := fun (e : FE) (he : e.x = x) (W1 : World) (vs1 vo1 : Value) => HP3.out.more (W1 := W1) (vs1 := vs1) (vo1 := vo1) e (by rw [he]; exact hN)
          rw [hN, hs4] at hnx
          rw [hs4] at hmr
          simp only [Option.getD_some, Option.isSome_some] at hnx
          obtain ⟨F, sc, cd⟩ := x
          have HNX := Lib.hid hnx
          have HMR := Lib.hid (And.intro hmr hM3)
          clear hnx hmr hs4 hN hM3
          go_wp2_with (first
           | (go_at_call 39; refine (HNX.out _ _ (H.sp (s := s3) (by repeat (first | exact List.Mem.head _ | apply List.Mem.tail)) (by repeat (first | exact List.Mem.head _ | apply List.Mem.tail))) (Hold.gv H HGV.out (Want.take (by repeat (first | exact Pull.head | apply Pull.tail)) (Want.take (by repeat (first | exact Pull.head | apply Pull.tail)) (Want.done (by repeat (first | exact Suf.refl | apply Suf.cons))))))).mono ?_; rintro e_ w_ ⟨vs4, Ap, cp, Bp, mp, rfl, h_⟩; replace H := Hold.call (H.pull2 (by repeat (first | exact Pull.head | apply Pull.tail)) (by repeat (first | exact Pull.head | apply Pull.tail))) h_; clear h_)
           | ((with_reducible refine is_alloc (ty := 38) rfl ?_); refine alloc_h H rfl rfl (cs := (frC ⟨0, 0, 0, [], 0, 0, 0, 0, false, 0, []⟩ nilS nilS).toList) (by first | (go_simp; done) | (go_simp; rfl)) ?_; clear H; intro gF w_ H)
           | ((with_reducible refine is_alloc (ty := 24) rfl ?_); refine alloc_h H rfl rfl (cs := [.int .u8 0, .int .u32 0]) (by first | (go_simp; done) | (go_simp; rfl)) ?_; clear H; intro gE w_ H)
           | ((with_reducible refine is_store (ty := 38) rfl ?_); refine store_h H rfl rfl rfl rfl (u := .agg (frC F (.slice Ap F.data.length cp) (.slice Bp F.sets.length mp))) rfl (by repeat (first | exact Put.head | apply Put.tail)) (by kernel_rfl) (Nat.le_of_ble_eq_true rfl) rfl ?_; clear H; intro w_ H; simp only [setC, Value.cells, List.toList_toArray] at H)
           | ((with_reducible refine is_store (ty := 24) rfl ?_); refine store_h H rfl rfl rfl rfl (u := .agg #[.int .u8 sc, .int .u32 cd]) rfl (by repeat (first | exact Put.head | apply Put.tail)) (by kernel_rfl) (Nat.le_of_ble_eq_true rfl) rfl ?_; clear H; intro w_ H; simp only [setC, Value.cells, List.toList_toArray] at H)
           | ((with_reducible refine is_load (ty := 38) rfl ?_); refine load_h H rfl rfl rfl (by repeat (first | exact List.Mem.head _ | apply List.Mem.tail)) (by kernel_rfl) (by kernel_rfl) ?_)
           | ((with_reducible refine is_load rfl ?_); refine loadf_h H rfl rfl rfl (by repeat (first | exact List.Mem.head _ | apply List.Mem.tail)) rfl (by kernel_rfl) ?_)
           | ((with_reducible refine is_lit rfl ?_); refine onerow_h H rfl (e := 45) (cs := (fC F (.slice Ap F.data.length cp) (.slice Bp F.sets.length mp) sc cd).toList) (by first | (go_simp; done) | (go_simp; rfl)) ?_; clear H; intro gl w_ H)
           | ((with_reducible refine is_call rfl ?_); refine appends_h H rfl rfl Tryd.underlying61 Tryd.infoF rfl (by decide) rfl rfl (g := gl) (by repeat (first | exact List.Mem.head _ | apply List.Mem.tail)) rfl rfl (fun y => (by repeat (first | exact Put.head | apply Put.tail))) (by omega) (by omega) ?_; clear H; intro vo4 w_ H))
          obtain ⟨A4, c4, e4⟩ := own_slice (H.ok (.row 45 13 vo4 (es3.length + 1) (es3.flatMap FE.cells ++ (FE.mk (F, sc, cd) Ap cp Bp mp).cells)) (by repeat (first | exact List.Mem.head _ | apply List.Mem.tail)))
          subst e4
          have h_ := HMR.out.1 ⟨(F, sc, cd), Ap, cp, Bp, mp⟩ rfl _ vs4 (.slice A4 (es3.length + 1) c4) (by rw [rowT_more, ← rowO_more]; exact H.want (Want.take (by repeat (first | exact Pull.head | apply Pull.tail)) (Want.take (by repeat (first | exact Pull.head | apply Pull.tail)) (Want.take (by repeat (first | exact Pull.head | apply Pull.tail)) (Want.take (by repeat (first | exact Pull.head | apply Pull.tail)) (Want.done (by repeat (first | exact Suf.refl | apply Suf.cons))))))))
          have hm4 := HMR.out.2
          obtain ⟨kk, hkk2⟩ : ∃ kk, gk = kk + 1 := ⟨gk - 1, by have := h_.2; omega⟩
          go_roundg kk
          case measure => omega
          case rel => exact ⟨vs4, es3 ++ [⟨(F, sc, cd), Ap, cp, Bp, mp⟩], s4, A4, c4, by simp, Aside0.mk (by have h2_ := h_.1; rw [show (.slice A4 (es3.length + 1) c4 : Value) = .slice A4 (es3 ++ [(⟨(F, sc, cd), Ap, cp, Bp, mp⟩ : FE)]).length c4 by simp] at h2_; exact h2_), by have := h_.2; omega⟩
     case rest =>
      obtain ⟨vs3, es3, s3, Ao3, co3, rfl, hP3, hD3⟩ := hcut
      have HP3 := Lib.hid hP3.out
      have hkn := HLN.out.2.2.2
      have hr2l := HLN.out.2.2.1
      have hbl : k < n → s3.b.length < 16393 := fun hlt => by
       rcases hD3.out with ⟨h1, _⟩ | h1 | ⟨_, h1, _⟩
       ·omega
       ·rw [(HP3.out.inv.bad h1).2.1]
        decide
       ·exact h1
      have hfin : rest2 = [] → s3.bad = false → nextS s3 = (none, s3) := fun h0 hb => by
       rcases hD3.out with ⟨_, h1⟩ | h1 | ⟨_, _, h1⟩
       ·rw [h0] at h1
        exact absurd rfl h1
       ·rw [hb] at h1
        cases h1
       ·exact h1
      have hf1 : k < n → 2 * rest2.length + (if 16393 ≤ s3.b.length then 1 else 0) < gk := fun hlt => by
       have h1 := hbl hlt
       rw [if_neg (by omega)]
       split at hfu <;> omega
      have hf2 : ¬ k < n → 2 * rest2.length + (if 16393 ≤ s3.b.length then 1 else 0) < gk := fun hlt => by
       split at hfu <;> split <;> omega
      have HFN := Lib.hid (And.intro hfin (And.intro hf1 (And.intro hf2 hjk)))
      clear hfin hf1 hf2 hD3 hP3 H hkn hr2l hfu hjk
      have H := HP3.out.H
      by_cases c1 : k < n
      ·have d1 : decide ((k : Int) < (n : Int)) = true := decide_eq_true (by omega)
       have d2 : decide (k < n) = true := decide_eq_true c1
       have d3 : decide ((16393 : Int) ≤ (s3.b.length : Int)) = false := decide_eq_false (by have := hbl c1; omega)
       have d4 : decide (16393 ≤ s3.b.length) = false := decide_eq_false (by have := hbl c1; omega)
       clear hbl
       go_wp2_with (first
        | (go_at_call 38; refine (held_calls _ g _ s3 (H.sp (s := s3) (by repeat (first | exact List.Mem.head _ | apply List.Mem.tail)) (by repeat (first | exact List.Mem.head _ | apply List.Mem.tail)))).mono ?_; rintro e_ w_ ⟨rfl, h_⟩; replace H := H.below h_; clear h_))
       have hlt := HFN.out.2.1 c1
       go_roundg (gk - 1)
       case measure => omega
       case rel => exact ⟨j + 1, rest2, A3, cb - k, vs3, es3, s3, Ao3, co3, rfl, rfl, by simp, Aside0.mk ⟨⟨H, HP3.out.rd, HP3.out.le, HP3.out.inv, HP3.out.sets, HP3.out.sum⟩, by omega, by have := HFN.out.2.2.2; omega, HFN.out.1⟩⟩
      ·have d1 : decide ((k : Int) < (n : Int)) = false := decide_eq_false (by omega)
       have d2 : decide (k < n) = false := decide_eq_false c1
       clear hbl
       go_wp2_with fail
       have hlt := HFN.out.2.2.1 c1
       go_roundg (gk - 1)
       case measure => omega
       case rel => exact ⟨j + 1, rest2, A3, cb - k, vs3, es3, s3, Ao3, co3, rfl, rfl, by simp, Aside0.mk ⟨⟨H, HP3.out.rd, HP3.out.le, HP3.out.inv, HP3.out.sets, HP3.out.sum⟩, by omega, by have := HFN.out.2.2.2; omega, HFN.out.1⟩⟩
end Go.Proofs.YtjjfkmniffbgkaaDoor

/- SplitNil, walked. (This text is printed by wip/gen/split7.py.) -/
namespace Go.Proofs.YtjjfkmniffbgkaaDoor
set_option linter.unusedVariables false
set_option linter.unusedSimpArgs false
open Go.RowKit Go.Proofs.YtjjfkmniffbgkaaDoorW.PrintWords Go.Proofs.YtjjfkmniffbgkaaDoorW.PrintLast Go.Proofs.YtjjfkmniffbgkaaDoorW.PrintMore Go.Proofs.YtjjfkmniffbgkaaDoor.QFrmA Go.Proofs.YtjjfkmniffbgkaaDoor.Given Go.Extern.Stop Go.Stop Go.Extern Go.Maps
attribute [local go_sem high] eqFault
end Go.Proofs.YtjjfkmniffbgkaaDoor

/- The reference of split: All, walked. (This text is printed by wip/gen/split11.py.) -/
namespace Go.Proofs.YtjjfkmniffbgkaaDoor
set_option linter.unusedVariables false
set_option linter.unusedSimpArgs false
open Go.RowKit Go.Proofs.YtjjfkmniffbgkaaDoorW.PrintWords Go.Proofs.YtjjfkmniffbgkaaDoorW.PrintLast Go.Proofs.YtjjfkmniffbgkaaDoorW.PrintMore Go.Proofs.YtjjfkmniffbgkaaDoor.QFrmA Go.Proofs.YtjjfkmniffbgkaaDoor.Given Go.Extern.Stop Go.Stop Go.Extern Go.Maps
attribute [local go_sem] max2_int min2_int max_two min_two
theorem rget_hold (W : World) (l : List Int) (hby : Byte8 l) (hl : l.length ≤ 20000000) : Calls Tryd.prog 26 #[.string (strOfNums l)] W fun e w' => ∃ Aq cq Bq mq, e = .returned (.agg (fC (getFr l).1 (.slice Aq (getFr l).1.data.length cq) (.slice Bq (getFr l).1.sets.length mq) (getFr l).2.1 (getFr l).2.2)) ∧ Hold W w' [] [frThing Aq cq Bq mq (getFr l).1] := by
 refine (rget_calls W l hby hl).mono ?_
 intro e w' hp
 obtain ⟨⟨Aq, cq, Bq, mq, rfl, Ar, cr, Br, mr, er, h1, h2⟩, hb⟩ := RGetPost.of hp
 obtain ⟨rfl, rfl, rfl, rfl⟩ := frC_inj er
 exact ⟨Aq, cq, Bq, mq, rfl, frThing_hold hb h1 h2⟩
def AllEnd (w : World) (p : Bool) (full : List Int) (e : Ending) (w' : World) : Prop :=
 ∃ vo es, e = .returned (.tuple #[vo, .int .i64 (((allP p full).2.1 : Nat) : Int), .bool (allP p full).2.2]) ∧ (∃ A c, vo = .slice A es.length c) ∧ Hold w w' [] ([rowO vo es] ++ rowT es) ∧ es.map FE.x = (allP p full).1
theorem AllEnd.of {w w' : World} {p : Bool} {full : List Int} {es : List FE} {A : Option Addr} {c : Nat} {left : Nat} {bad : Bool} {l : List Own} (H : Hold w w' [] l) (hw : Want l ([rowO (.slice A es.length c) es] ++ rowT es)) (h : allP p full = (es.map FE.x, left, bad)) :
  AllEnd w p full (.returned (.tuple #[.slice A es.length c, .int .i64 (left : Int), .bool bad])) w' := ⟨_, es, by rw [h], ⟨A, c, rfl⟩, H.want hw, by rw [h]⟩
end Go.Proofs.YtjjfkmniffbgkaaDoor

/- SplitFrames, walked. (This text is printed by wip/gen/split13.py.) -/
namespace Go.Proofs.YtjjfkmniffbgkaaDoor
set_option linter.unusedVariables false
set_option linter.unusedSimpArgs false
open Go.RowKit Go.Proofs.YtjjfkmniffbgkaaDoorW.PrintWords Go.Proofs.YtjjfkmniffbgkaaDoorW.PrintLast Go.Proofs.YtjjfkmniffbgkaaDoorW.PrintMore Go.Proofs.YtjjfkmniffbgkaaDoor.QFrmA Go.Proofs.YtjjfkmniffbgkaaDoor.Given Go.Extern.Stop Go.Stop Go.Extern Go.Maps
attribute [local go_sem high] eqFault
theorem IsB.reads {ob : Own} {v : Value} {xs : List Int} {W : World} (h : IsB ob v xs) (ho : ob.ok W) : ∃ A c, v = .slice A xs.length c ∧ xs.length ≤ c ∧ ∀ W', ob.ok W' → ReadsInt W' .u8 A xs.length xs := by
 rcases h with ⟨g, rfl, rfl, rfl⟩ | rfl
 ·exact ⟨_, _, rfl, Nat.le_refl _, fun W' h' => reads_obj h' (by decide)⟩
 ·obtain ⟨A, c, rfl, _, hc⟩ := own_reads2 (show W.ownsRow 0 5 1 v xs.length (nums .u8 xs) from ho)
  exact ⟨A, c, rfl, hc, fun W' h' => reads_own h'⟩
structure FLoop (w W : World) (l : List FE) (j : Nat) (ob : Own) (vb vw : Value) : Prop where
 H : Hold w W [] [ob, rowO vw (l.take j)]
 B : IsB ob vb (pre24 ++ ((l.take j).map (fun e => e.x.1)).flatMap rputL)
 good : ∀ e ∈ l.take j, GoodF e.x.1 ∧ e.x.2 = (0, 0)
theorem rget_frs (W : World) {l : List Int} {G : Fr} {s c : Int} (hG : getFr l = (G, s, c)) (hby : Byte8 l) (hl : l.length ≤ 20000000) : Calls Tryd.prog 26 #[.string (strOfNums l)] W fun e w' => ∃ vA vB, e = .returned (.agg #[.int .u8 G.ty, .int .u8 G.fl, .int .u32 G.st, vA, .int .i64 G.pad, .int .u32 G.code, .int .u32 G.oth, .int .u8 G.wgt, .bool G.al, .int .u32 G.win, vB, .int .u8 s, .int .u32 c]) ∧ Below W.heap.size W w' := by
 refine (rget_hold W l hby hl).mono ?_
 rintro e w' ⟨Aq, cq, Bq, mq, rfl, h⟩
 rw [hG]
 exact ⟨_, _, rfl, h.all⟩
set_option maxRecDepth 100000 in
theorem run_scope (W : World) (a : Int) (v0 v1 v2 v3 v4 v5 v6 v7 v8 v9 v10 v12 : Value) : (Instr.field 45 (.agg #[v0, v1, v2, v3, v4, v5, v6, v7, v8, v9, v10, .int .u8 a, v12]) 1).run Tryd.prog W = .ok (.int .u8 a) W := by kernel_rfl
attribute [local go_sem] run_scope
theorem perm_tail (B T R : List Own) : (B ++ (T ++ R)).Perm ((B ++ R) ++ T) := by rw [List.append_assoc]; exact List.perm_append_comm.append_left _
theorem Hold.framesIn {w W : World} {t : List Nat} {lo : List Own} (H : Hold w W t lo) {v : Value} {es : List FE} {A : Option Addr} (h1 : rowO v es ∈ lo) (hin : FsIn W A es) : FsRead W v es := fun i e he => by
 have hrow : W.ownsRow 0 45 13 v es.length (es.flatMap FE.cells) := H.ok _ h1
 have hi : i < es.length := (List.getElem?_eq_some_iff.1 he).1
 rcases hrow.2 with ⟨rfl, h0⟩ | ⟨g, cap, cur, rfl, _, hb, hle, _, hsz, htk⟩
 ·omega
 ·obtain ⟨_, _, _, h3, h4, _⟩ := hin i e he
  refine ⟨g, cap, rfl, fun j u hu => ?_, h3, h4⟩
  have hf := flat_at es i j e u he hu
  have hj : j < 13 := (List.getElem?_eq_some_iff.1 hu).1
  rw [← htk, List.getElem?_take] at hf
  rw [blk_cell hb, ← Array.getElem?_toList]
  split at hf
  ·exact hf
  ·cases hf
theorem pad_may {F : Fr} (h : MayOk F) : -1 ≤ F.pad := by
 have := h.pad
 split at this <;> omega
set_option maxHeartbeats 4000000 in
set_option maxRecDepth 100000 in
theorem frames_great (w : World) (A : Option Addr) (l : List FE) (c : Nat) (hl : FsIn w A l) (As : Option Addr) (ns : List Int) (cs : Nat) (hRs : ReadsInt w .u8 As ns.length ns) (hns : Byte8 ns) (hgv : GV w) (hg : 30 < l.length ∨ 3000 < ns.length) : Calls Tryd.prog 10 #[.slice A l.length c, .slice As ns.length cs] w fun e w' => e = .returned (.bool true) ∧ Below w.heap.size w w' := by
 refine of_post0 fun R hRR => ?_
 have HP := Lib.hid hRR
 have HGV := Lib.hid hgv
 have HL := Lib.hid hl
 have HNS := Lib.hid (And.intro hRs hns)
 clear hRR hgv hl hRs hns
 have hc1 : decide ((30 : Int) < (l.length : Int)) = true ∨ (decide ((30 : Int) < (l.length : Int)) = false ∧ decide ((3000 : Int) < (ns.length : Int)) = true) := by
  by_cases h : 30 < l.length
  ·exact .inl (decide_eq_true (by omega))
  ·exact .inr ⟨decide_eq_false (by omega), decide_eq_true (by omega)⟩
 have hc2 : decide (30 < l.length) = decide ((30 : Int) < (l.length : Int)) := by rw [decide_eq_decide]; omega
 have hc3 : decide (3000 < ns.length) = decide ((3000 : Int) < (ns.length : Int)) := by rw [decide_eq_decide]; omega
 have H : Hold w w [] [] := Hold.nothing (Kept.refl _ _)
 rcases hc1 with h1 | ⟨h1, h2⟩
 all_goals
  try rw [h2] at hc3
  rw [h1] at hc2
  clear hg
  go_enter Tryd.func10, Tryd.ntmps10
  go_wp2_with (first
   | (go_at_call 32; refine (fixed8_calls _ (GV.below HGV.out H.all)).mono ?_; rintro e_ w_ ⟨rfl, h_⟩; replace H := H.below h_; clear h_))
  exact HP.out _ _ ⟨rfl, H.all⟩
set_option maxHeartbeats 16000000 in
set_option maxRecDepth 100000 in
theorem frames_main (w : World) (A : Option Addr) (l : List FE) (c : Nat) (hl : FsIn w A l) (As : Option Addr) (ns : List Int) (cs : Nat) (hRs : ReadsInt w .u8 As ns.length ns) (hns : Byte8 ns) (hgv : GV w) (h1 : l.length ≤ 30) (h2 : ns.length ≤ 3000) : Calls Tryd.prog 10 #[.slice A l.length c, .slice As ns.length cs] w fun e w' => e = .returned (.bool true) ∧ Below w.heap.size w w' := by
 refine of_post0 fun R hRR => ?_
 have HP := Lib.hid hRR
 have HGV := Lib.hid hgv
 have HL := Lib.hid hl
 have HNS := Lib.hid (And.intro hRs hns)
 clear hRR hgv hl hRs hns
 have d1 : decide ((30 : Int) < (l.length : Int)) = false := decide_eq_false (by omega)
 have d2 : decide (30 < l.length) = false := decide_eq_false (by omega)
 have d3 : decide ((3000 : Int) < (ns.length : Int)) = false := decide_eq_false (by omega)
 have d4 : decide (3000 < ns.length) = false := decide_eq_false (by omega)
 have HLL := Lib.hid h1
 clear h2
 have H : Hold w w [] [Own.row 45 13 nilS 0 []] := Hold.made (Below.refl _ _) (World.ownsRow_nil _ _ _ _) (fun k hk => by cases hk)
 go_enter Tryd.func10, Tryd.ntmps10
 go_wp2_with (first
  | (go_at_call 41; refine (preface_calls _).mono ?_; rintro e_ w_ ⟨gp, rfl, h_⟩; replace H := Hold.push H h_; clear h_))
 go_loopg [5, 6, 24] l.length (fun k v5 v6 v24 wr => ∃ (j : Nat) (ob : Own) (vb vw : Value), vb = v5 ∧ vw = v6 ∧ v24 = .int .i64 (j : Int) ∧ j + k = l.length ∧ Aside0 (FLoop w wr l j ob vb vw))
 case atStart => exact ⟨0, _, _, _, rfl, rfl, rfl, by omega, Aside0.mk ⟨H, .inl ⟨_, rfl, rfl, rfl⟩, fun e he => (by cases he)⟩⟩
 case round =>
  obtain ⟨j, ob, vb, vw, rfl, rfl, rfl, hjk, hF⟩ := hrel
  have HF := Lib.hid hF.out
  clear hF H
  have H := HF.out.H
  cases gk with
  | zero =>
   have hjl : j = l.length := by omega
   have d5 : decide ((j : Int) < (l.length : Int)) = false := decide_eq_false (by omega)
   have d6 : decide (j < l.length) = false := decide_eq_false (by omega)
   have htk : l.take j = l := by rw [hjl, List.take_length]
   have hB := HF.out.B
   have hgd := HF.out.good
   rw [htk] at H hB hgd
   obtain ⟨xs, hxs⟩ : ∃ xs, pre24 ++ (l.map (fun e => e.x.1)).flatMap rputL = xs := ⟨_, rfl⟩
   have hg2 : ∀ F ∈ l.map (fun e => e.x.1), GoodF F := fun G hG => by obtain ⟨e, he, rfl⟩ := List.mem_map.1 hG; exact (hgd e he).1
   have hmm : (l.map (fun e => e.x.1)).map (fun F => ((F, 0, 0) : Rs)) = l.map FE.x := by
    rw [List.map_map]
    refine List.map_congr_left fun e he => ?_
    have h2 := (hgd e he).2
    show ((e.x.1, 0, 0) : Rs) = e.x
    rw [← h2]
   have hall : allP true xs = (l.map FE.x, 0, false) := by rw [← hxs, allP_puts _ hg2, hmm]
   have hby : Byte8 xs := by rw [← hxs]; exact byte_full _ hg2
   have hxl : xs.length ≤ 600000 := by
    have q := len_full (l.map (fun e => e.x.1)) hg2
    rw [← hxs, List.length_append, show pre24.length = 24 from rfl]
    rw [List.length_map] at q
    omega
   rw [hxs] at hB
   obtain ⟨Ab, cb, rfl, hcb, hrd⟩ := hB.reads (H.ok _ (List.Mem.head _))
   obtain ⟨Aw, cw, rfl⟩ := own_slice (H.ok (rowO vw l) (by repeat (first | exact List.Mem.head _ | apply List.Mem.tail)))
   have HX := Lib.hid (And.intro hby (And.intro (show xs.length ≤ 10000000 by omega) (And.intro hcb (And.intro hrd hall))))
   have HXL := Lib.hid hxl
   clear hby hcb hrd hall hxl hxs hg2 hmm hB hgd htk HF hjk hjl h1
   go_upto_region 15 with (first
    | (go_at_call 33; refine (new_split _ true).mono ?_; rintro e_ w_ ⟨g, rfl, h_⟩; replace H := Hold.push H h_; clear h_)
    | (go_at_call 34; refine (play_calls w _ g [ob, rowO (.slice Aw l.length cw) l] HGV.out true xs HX.out.1 HX.out.2.1 Ab cb HX.out.2.2.1 (fun W' l' h => HX.out.2.2.2.1 W' (h.ok _ (List.mem_append_right _ (List.Mem.head _)))) As cs ns HNS.out.2 (fun W' l' h => HNS.out.1.below h.all) 1 (by decide) H).mono ?_; rintro e_ w_ ⟨vs, vo, es, s, rfl, ⟨A1, c1, rfl⟩, h_, hsets, hlen, hbb, hble, hnx, hall⟩; replace H := h_.perm (perm_tail _ _ _); rw [HX.out.2.2.2.2] at hall; have HPL := Lib.hid (And.intro hsets (And.intro hlen (And.intro hbb (And.intro hble (And.intro hnx hall))))); clear h_ hsets hlen hbb hble hnx hall))
   obtain ⟨sb, sw, sy⟩ := s
   have hq := HPL.out.2.2.2.2.2
   simp only [Prod.mk.injEq] at hq
   obtain ⟨hq1, hq2, hq3⟩ := hq
   have hq4 : sb = [] := List.eq_nil_of_length_eq_zero hq2.symm
   subst hq4
   subst hq3
   have HE := Lib.hid (And.intro hq1.symm (show es.length ≤ 1000000 by have := HPL.out.2.1; have := HXL.out; omega))
   clear hq1 hq2
   go_wp2_with (first
    | (go_at_call 32; refine (fixed8_calls _ (GV.below HGV.out H.all)).mono ?_; rintro e_ w_ ⟨rfl, h_⟩; replace H := H.below h_; clear h_)
    | (go_at_call 36; refine (same8_calls _ _ _ es l undef undef ⟨_, _, rfl⟩ ⟨_, _, rfl⟩ (H.frames (v := .slice A1 es.length c1) (es := es) (by repeat (first | exact List.Mem.head _ | apply List.Mem.tail)) (fun o ho => by repeat (first | exact ho | exact List.mem_append_left _ ho | apply List.mem_append_right | apply List.Mem.tail))) (H.framesIn (v := .slice Aw l.length cw) (A := A) (by repeat (first | exact List.Mem.head _ | apply List.Mem.tail)) (HL.out.below H.all)) HE.out.1 HPL.out.1 HE.out.2).mono ?_; rintro e_ w_ ⟨rfl, h_⟩; replace H := H.below h_; clear h_)
    | (go_at_call 38; refine (held_calls _ g _ ⟨[], sw, false⟩ (H.sp (s := ⟨[], sw, false⟩) (by repeat (first | exact List.Mem.head _ | apply List.Mem.tail)) (by repeat (first | exact List.Mem.head _ | apply List.Mem.tail)))).mono ?_; rintro e_ w_ ⟨rfl, h_⟩; replace H := H.below h_; clear h_)
    | (go_at_call 37; refine (bad_calls _ g _ _ _ (H.blk (by repeat (first | exact List.Mem.head _ | apply List.Mem.tail)))).mono ?_; rintro e_ w_ ⟨rfl, h_⟩; replace H := H.below h_; clear h_))
   exact HP.out _ _ ⟨rfl, H.all⟩
  | succ k =>
   have d5 : j < l.length := by omega
   have d6 : decide ((j : Int) < (l.length : Int)) = true := decide_eq_true (by omega)
   have d7 : decide (j < l.length) = true := decide_eq_true d5
   have d8 : (j : Int) < (l.length : Int) := by omega
   have hw : wrap64 ((j : Int) + 1) = ((j + 1 : Nat) : Int) := by rw [wrap_okF (by omega) (by omega)]; omega
   obtain ⟨e, he⟩ : ∃ e, l[j]? = some e := ⟨_, List.getElem?_eq_getElem d5⟩
   have htk : l.take (j + 1) = l.take j ++ [e] := by rw [List.take_add_one, he]; rfl
   obtain ⟨a0, rfl, hC, hRA, hRB, hwf, hx2⟩ := HL.out j e he
   obtain ⟨⟨F, sc, cd⟩, A1, c1, B1, m1⟩ := e
   obtain ⟨rfl, rfl⟩ : sc = 0 ∧ cd = 0 := by simpa using hx2
   obtain ⟨es, hes⟩ : ∃ es, l.take j = es := ⟨_, rfl⟩
   have hel : es.length ≤ 30 := by rw [← hes, List.length_take]; omega
   have hB := HF.out.B
   have hgd := HF.out.good
   rw [hes] at H hB hgd htk
   obtain ⟨xs, hxs⟩ : ∃ xs, pre24 ++ (es.map (fun e => e.x.1)).flatMap rputL = xs := ⟨_, rfl⟩
   have hxl : 0 < xs.length ∧ xs.length ≤ 600000 := by
    have q := len_full (es.map (fun e => e.x.1)) (fun G hG => by obtain ⟨e, he, rfl⟩ := List.mem_map.1 hG; exact (hgd e he).1)
    rw [← hxs, List.length_append, show pre24.length = 24 from rfl]
    rw [List.length_map] at q
    omega
   rw [hxs] at hB
   have HC := Lib.hid hC
   have HR := Lib.hid (And.intro hRA (And.intro hRB hwf))
   have HIB := Lib.hid hB
   have HES := Lib.hid (And.intro htk (And.intro hxs (And.intro hgd hxl)))
   have HJ := Lib.hid hjk
   clear hC hRA hRB hwf hx2 hes htk hxs hgd hxl hB he hjk HF
   go_upto_region 8 with (first
    | ((with_reducible refine is_load (ty := 38) rfl ?_); refine list_load_at rfl rfl (ad := a0.add (j * 11)) rfl [.int .u8 F.ty, .int .u8 F.fl, .int .u32 F.st, .slice A1 F.data.length c1, .int .i64 F.pad, .int .u32 F.code, .int .u32 F.oth, .int .u8 F.wgt, .bool F.al, .int .u32 F.win, .slice B1 F.sets.length m1] (fun x u hu => pw_cell_below H.all (HC.out x u hu)) (by kernel_rfl) (by kernel_rfl) ?_)
    | ((with_reducible refine is_alloc (ty := 38) rfl ?_); refine alloc_h H rfl rfl (cs := (frC ⟨0, 0, 0, [], 0, 0, 0, 0, false, 0, []⟩ nilS nilS).toList) (by first | (go_simp; done) | (go_simp; rfl)) ?_; clear H; intro gF w_ H)
    | ((with_reducible refine is_store (ty := 38) rfl ?_); refine store_h H rfl rfl rfl rfl (u := .agg (#[.int .u8 F.ty, .int .u8 F.fl, .int .u32 F.st, .slice A1 F.data.length c1, .int .i64 F.pad, .int .u32 F.code, .int .u32 F.oth, .int .u8 F.wgt, .bool F.al, .int .u32 F.win, .slice B1 F.sets.length m1])) rfl (by repeat (first | exact Put.head | apply Put.tail)) (by kernel_rfl) (Nat.le_of_ble_eq_true rfl) rfl ?_; clear H; intro w_ H; simp only [setC, Value.cells, List.toList_toArray] at H))
   by_cases b1 : 1000 < F.data.length
   ·have a1 : decide ((1000 : Int) < (F.data.length : Int)) = true := decide_eq_true (by omega)
    have a2 : decide (1000 < F.data.length) = true := decide_eq_true b1
    go_wp2_with (first
     | (go_at_call 32; refine (fixed8_calls _ (GV.below HGV.out H.all)).mono ?_; rintro e_ w_ ⟨rfl, h_⟩; replace H := H.below h_; clear h_)
     | ((with_reducible refine is_load rfl ?_); refine loadf_g H rfl rfl (by repeat (first | exact List.Mem.head _ | apply List.Mem.tail)) rfl (by kernel_rfl) (by rfl) ?_)
     | ((with_reducible refine is_load rfl ?_); refine loadf_h H rfl rfl rfl (by repeat (first | exact List.Mem.head _ | apply List.Mem.tail)) rfl (by kernel_rfl) ?_))
    exact HP.out _ _ ⟨rfl, H.all⟩
   have a1 : decide ((1000 : Int) < (F.data.length : Int)) = false := decide_eq_false (by omega)
   have a2 : decide (1000 < F.data.length) = false := decide_eq_false b1
   by_cases b2 : 100 < F.sets.length
   ·have a3 : decide ((100 : Int) < (F.sets.length : Int)) = true := decide_eq_true (by omega)
    have a4 : decide (100 < F.sets.length) = true := decide_eq_true b2
    go_wp2_with (first
     | (go_at_call 32; refine (fixed8_calls _ (GV.below HGV.out H.all)).mono ?_; rintro e_ w_ ⟨rfl, h_⟩; replace H := H.below h_; clear h_)
     | ((with_reducible refine is_load rfl ?_); refine loadf_g H rfl rfl (by repeat (first | exact List.Mem.head _ | apply List.Mem.tail)) rfl (by kernel_rfl) (by rfl) ?_)
     | ((with_reducible refine is_load rfl ?_); refine loadf_h H rfl rfl rfl (by repeat (first | exact List.Mem.head _ | apply List.Mem.tail)) rfl (by kernel_rfl) ?_))
    exact HP.out _ _ ⟨rfl, H.all⟩
   have a3 : decide ((100 : Int) < (F.sets.length : Int)) = false := decide_eq_false (by omega)
   have a4 : decide (100 < F.sets.length) = false := decide_eq_false b2
   cases hM : rmayB F with
   | false =>
    have HM := Lib.hid hM
    clear hM
    go_wp2_with (first
     | (go_at_call 32; refine (fixed8_calls _ (GV.below HGV.out H.all)).mono ?_; rintro e_ w_ ⟨rfl, h_⟩; replace H := H.below h_; clear h_)
     | ((with_reducible refine is_load (ty := 38) rfl ?_); refine load_g H rfl rfl (by repeat (first | exact List.Mem.head _ | apply List.Mem.tail)) (by kernel_rfl) (by kernel_rfl) (by rfl) ?_)
     | ((with_reducible refine is_load rfl ?_); refine loadf_g H rfl rfl (by repeat (first | exact List.Mem.head _ | apply List.Mem.tail)) rfl (by kernel_rfl) (by rfl) ?_)
     | ((with_reducible refine is_load rfl ?_); refine loadf_h H rfl rfl rfl (by repeat (first | exact List.Mem.head _ | apply List.Mem.tail)) rfl (by kernel_rfl) ?_)
     | (go_at_call 23; refine (rmay_calls _ F A1 B1 c1 m1 (Kd_of_reads (HR.out.1.1.below H.all)) HR.out.1.2 (Kd.C_below HR.out.2.1.1 H.all) HR.out.2.1.2 HR.out.2.2.ok).mono ?_; rintro e_ w_ ⟨he_, h_⟩; rw [HM.out] at he_; subst he_; replace H := H.below h_; clear h_))
    exact HP.out _ _ ⟨rfl, H.all⟩
   | true =>
    have HM := Lib.hid hM
    have hmo := (rmay_ok HR.out.2.2).1 hM
    have hpl : (rputL F).length = 9 + (rpayL F).length := by rw [← put_rput HR.out.2.2 hmo, put_len, pay_rpay HR.out.2.2 hmo.oth]
    have hrp : (rpayL F).length ≤ 16384 := by have := hmo.pay; rw [pay_rpay HR.out.2.2 hmo.oth] at this; exact this
    have HQ := Lib.hid (And.intro (pad_may hmo) (And.intro hmo.pad255 (And.intro (show F.data.length ≤ 100000 by omega) (And.intro (show F.sets.length ≤ 10000 by omega) hrp))))
    have HB8 := Lib.hid (And.intro (show Byte8 (rputL F) by rw [← put_rput HR.out.2.2 hmo]; exact put_byte HR.out.2.2 hmo) (show (rputL F).length ≤ 20000000 by omega))
    have HLN := Lib.hid (And.intro HES.out.2.2.2.1 (And.intro (show 0 < (rputL F).length by omega) (show xs.length + (rputL F).length ≤ 140737488350000 by have := HES.out.2.2.2.2; omega)))
    obtain ⟨⟨G, sG, cG⟩, hG⟩ : ∃ G, getFr (rputL F) = G := ⟨_, rfl⟩
    have HG := Lib.hid hG
    clear hM hmo hpl hrp hG
    by_cases b3 : sG = 0
    ·have hgf : GoodF F := GoodF.of HR.out.2.2 HM.out (by rw [HG.out]; exact b3)
     have HGF := Lib.hid hgf
     clear hgf
     subst b3
     go_wp2_with (first
      | ((with_reducible refine is_load (ty := 38) rfl ?_); refine load_g H rfl rfl (by repeat (first | exact List.Mem.head _ | apply List.Mem.tail)) (by kernel_rfl) (by kernel_rfl) (by rfl) ?_)
      | ((with_reducible refine is_load (ty := 38) rfl ?_); refine load_h H rfl rfl rfl (by repeat (first | exact List.Mem.head _ | apply List.Mem.tail)) (by kernel_rfl) (by kernel_rfl) ?_)
      | ((with_reducible refine is_load rfl ?_); refine loadf_g H rfl rfl (by repeat (first | exact List.Mem.head _ | apply List.Mem.tail)) rfl (by kernel_rfl) (by rfl) ?_)
      | ((with_reducible refine is_load rfl ?_); refine loadf_h H rfl rfl rfl (by repeat (first | exact List.Mem.head _ | apply List.Mem.tail)) rfl (by kernel_rfl) ?_)
      | (go_at_call 23; refine (rmay_calls _ F A1 B1 c1 m1 (Kd_of_reads (HR.out.1.1.below H.all)) HR.out.1.2 (Kd.C_below HR.out.2.1.1 H.all) HR.out.2.1.2 HR.out.2.2.ok).mono ?_; rintro e_ w_ ⟨he_, h_⟩; rw [HM.out] at he_; subst he_; replace H := H.below h_; clear h_)
      | (go_at_call 24; refine (rput_calls _ F A1 B1 c1 m1 (Kd_of_reads (HR.out.1.1.below H.all)) HR.out.1.2 (Kd.C_below HR.out.2.1.1 H.all) HR.out.2.1.2 HR.out.2.2.ok HQ.out.1 HQ.out.2.1 HQ.out.2.2.1 HQ.out.2.2.2.1 HR.out.2.2.st0 HR.out.2.2.st1 HQ.out.2.2.2.2).mono ?_; rintro e_ w_ ⟨rfl, h_⟩; replace H := H.below h_; clear h_)
      | (go_at_call 26; refine (rget_frs _ HG.out HB8.out.1 HB8.out.2).mono ?_; rintro e_ w_ ⟨vA, vB, rfl, h_⟩; replace H := H.below h_; clear h_)
      | ((with_reducible refine is_call rfl ?_); refine appendstr_h H rfl rfl Tryd.underlying35 Tryd.underlying9 Tryd.infoB8 (xs := xs) (ys := rputL F) rfl rfl HIB.out HB8.out.1 HLN.out.1 HLN.out.2.1 HLN.out.2.2 (fun y => (by repeat (first | exact Put.head | apply Put.tail))) ?_; clear H; intro vb2 w_ H)
      | ((with_reducible refine is_lit rfl ?_); refine onerow_h H rfl (e := 45) (cs := (fC F (.slice A1 F.data.length c1) (.slice B1 F.sets.length m1) 0 0).toList) (by first | (go_simp; done) | (go_simp; rfl)) ?_; clear H; intro gl w_ H)
      | ((with_reducible refine is_call rfl ?_); refine appends_h H rfl rfl Tryd.underlying61 Tryd.infoF rfl (by decide) rfl rfl (g := gl) (by repeat (first | exact List.Mem.head _ | apply List.Mem.tail)) rfl rfl (fun y => (by repeat (first | exact Put.head | apply Put.tail))) (by omega) (by omega) ?_; clear H; intro vw2 w_ H))
     go_roundg k
     case measure => have := HJ.out; omega
     case rel =>
      have hx3 : pre24 ++ ((l.take (j + 1)).map (fun e => e.x.1)).flatMap rputL = xs ++ rputL F := by
       rw [HES.out.1, ← HES.out.2.1]
       simp
      refine ⟨j + 1, nrow 5 vb2 .u8 (xs ++ rputL F), vb2, vw2, rfl, rfl, by first | rfl | simp, by have := HJ.out; omega, Aside0.mk ⟨?_, .inr (by rw [hx3]), fun e he => ?_⟩⟩
      ·rw [HES.out.1, ← rowO_more]
       exact H.want (Want.take (by repeat (first | exact Pull.head | apply Pull.tail)) (Want.take (by repeat (first | exact Pull.head | apply Pull.tail)) (Want.done (by repeat (first | exact Suf.refl | apply Suf.cons)))))
      ·rw [HES.out.1] at he
       rcases List.mem_append.1 he with he | he
       ·exact HES.out.2.2.1 e he
       ·obtain rfl := List.mem_singleton.1 he
        exact ⟨HGF.out, rfl⟩
    ·have b4 : (sG != 0) = true := by simpa using b3
     have b5 : decide (sG = 0) = false := decide_eq_false b3
     have b6 : (sG == 0) = false := by simpa using b3
     go_wp2_with (first
      | (go_at_call 32; refine (fixed8_calls _ (GV.below HGV.out H.all)).mono ?_; rintro e_ w_ ⟨rfl, h_⟩; replace H := H.below h_; clear h_)
      | ((with_reducible refine is_load (ty := 38) rfl ?_); refine load_g H rfl rfl (by repeat (first | exact List.Mem.head _ | apply List.Mem.tail)) (by kernel_rfl) (by kernel_rfl) (by rfl) ?_)
      | ((with_reducible refine is_load rfl ?_); refine loadf_g H rfl rfl (by repeat (first | exact List.Mem.head _ | apply List.Mem.tail)) rfl (by kernel_rfl) (by rfl) ?_)
      | ((with_reducible refine is_load rfl ?_); refine loadf_h H rfl rfl rfl (by repeat (first | exact List.Mem.head _ | apply List.Mem.tail)) rfl (by kernel_rfl) ?_)
      | (go_at_call 23; refine (rmay_calls _ F A1 B1 c1 m1 (Kd_of_reads (HR.out.1.1.below H.all)) HR.out.1.2 (Kd.C_below HR.out.2.1.1 H.all) HR.out.2.1.2 HR.out.2.2.ok).mono ?_; rintro e_ w_ ⟨he_, h_⟩; rw [HM.out] at he_; subst he_; replace H := H.below h_; clear h_)
      | (go_at_call 24; refine (rput_calls _ F A1 B1 c1 m1 (Kd_of_reads (HR.out.1.1.below H.all)) HR.out.1.2 (Kd.C_below HR.out.2.1.1 H.all) HR.out.2.1.2 HR.out.2.2.ok HQ.out.1 HQ.out.2.1 HQ.out.2.2.1 HQ.out.2.2.2.1 HR.out.2.2.st0 HR.out.2.2.st1 HQ.out.2.2.2.2).mono ?_; rintro e_ w_ ⟨rfl, h_⟩; replace H := H.below h_; clear h_)
      | (go_at_call 26; refine (rget_frs _ HG.out HB8.out.1 HB8.out.2).mono ?_; rintro e_ w_ ⟨vA, vB, rfl, h_⟩; replace H := H.below h_; clear h_))
     exact HP.out _ _ ⟨rfl, H.all⟩
theorem splitFrames_walk (w : World) (A : Option Addr) (l : List FE) (c : Nat) (hl : FsIn w A l) (As : Option Addr) (ns : List Int) (cs : Nat) (hRs : ReadsInt w .u8 As ns.length ns) (hns : Byte8 ns) (hgv : GV w) : Calls Tryd.prog 10 #[.slice A l.length c, .slice As ns.length cs] w fun e w' => e = .returned (.bool true) ∧ Below w.heap.size w w' := by
 by_cases h1 : l.length ≤ 30
 ·by_cases h2 : ns.length ≤ 3000
  ·exact frames_main w A l c hl As ns cs hRs hns hgv h1 h2
  ·exact frames_great w A l c hl As ns cs hRs hns hgv (.inr (by omega))
 ·exact frames_great w A l c hl As ns cs hRs hns hgv (.inl (by omega))
end Go.Proofs.YtjjfkmniffbgkaaDoor

/- From the row's list to the cell of errors.errorType; bounds of numbers that came in. -/
namespace Go.Proofs.YtjjfkmniffbgkaaDoor
set_option linter.unusedVariables false
set_option linter.unusedSimpArgs false
open Go.RowKit
theorem Tryd.et : Tryd.prog.globalNamed "errors.errorType" = some 1 := by kernel_rfl
theorem Tryd.rt : (Tryd.prog.cutTypes.find? (·.1 == "internal/reflectlite.rtype")).map (·.2) = some 130 := by kernel_rfl
theorem Tryd.oneRow : ((List.range 182).filter fun t => Tryd.prog.rowNamed t [101, 114, 114, 111, 114]) = [28] := by kernel_rfl
theorem Tryd.sizeT : Tryd.prog.types.size = 182 := by kernel_rfl
theorem gv_of_laid {W : World} (h : laidMetH Tryd.prog [("errors.errorType", Rows.laid_errors_errorType)] W) : GV W := by
 have h' : laidMet Tryd.prog [] W ∧ handlesMet Tryd.prog [("errors.errorType", Rows.laid_errors_errorType)] W := h
 obtain ⟨name, u, ty, e1, e2, e3, e4, e5⟩ := h'.2 _ (List.mem_singleton.2 rfl)
 have en : name = [101, 114, 114, 111, 114] := (Option.some.inj e1).symm
 subst en
 obtain rfl := Option.some.inj (Tryd.rt.symm.trans e2)
 have hm : ty ∈ (List.range 182).filter fun t => Tryd.prog.rowNamed t [101, 114, 114, 111, 114] := List.mem_filter.2 ⟨List.mem_range.2 (by rw [← Tryd.sizeT]; exact e3), e4⟩
 rw [Tryd.oneRow] at hm
 obtain rfl := List.mem_singleton.1 hm
 have hh : typeHandle Tryd.prog 28 = hOf 28 := by kernel_rfl
 rw [hh] at e5
 unfold GV
 simpa using World.var?_cell Tryd.et e5 0
end Go.Proofs.YtjjfkmniffbgkaaDoor

/- The statement of louver/louverlaw08.SplitFrames: for every input it returns true, and each argument reads behind the call as it read before; no other condition than the row's own. -/
namespace Go.Proofs.YtjjfkmniffbgkaaDoor.splitFrames
set_option linter.unusedVariables false
set_option linter.unusedSimpArgs false
open Go.ChangeShapes Go.WideShapes Go.ChangeAt Go.RowKit
open Go.ChangeMaps (open_string shut_string)
set_option linter.unusedVariables false
theorem own : ownKnob Tryd.prog.godebug = none := by kernel_rfl
theorem laidOut : laidOutB Tryd.prog = true := by kernel_rfl
set_option maxRecDepth 100000 in
theorem contract (H : Type) (enc : TypeId × Value → H) (W : World) (base : Nat) (args : Array Value) (ds gs : List (DataW H)) (before : List MemPlace)
  (hval : ∀ (j : Nat) t v, Tryd.f10.params[j]? = some t → args[j]? = some v → Value.okWide Tryd.prog W .any base t v)
  (hW : DataW.Whole enc Tryd.prog Tryd.f10.params.toList Rows.splitFramesSpec.vars false W args.toList ds gs before)
  (hsz : (DataW.weightsEach Tryd.prog (Tryd.f10.params.toList ++ Rows.splitFramesSpec.plain.varTypes Tryd.prog) (ds ++ gs)).all (· ≤ reachBytes) = true)
  (hL : laidMetH Tryd.prog Rows.splitFramesRow.laid W) (hS : W.ShapedOpen Tryd.prog) :
  Calls Tryd.prog 10 args W fun e W' => ∃ v, e = .returned v ∧ Rows.splitFramesSpec.post enc Tryd.prog Tryd.f10 false true false false W args v W' := by
 have hW' := hW
 obtain ⟨p, q, hA0, hV, rfl, hfz, hnd⟩ := hW
 have hA : DataW.TrodAll enc Tryd.prog W 0 (fun _ => true) true Tryd.f10.params.toList args.toList ds p := hA0
 rw [Tryd.params10] at hA hval hsz
 obtain ⟨v0, vs0, d0, ds0, p0, q0, hargs, rfl, rfl, h0, r0⟩ := trodAll_cons hA
 obtain ⟨v1, vs1, d1, ds1, p1, q1, rfl, rfl, rfl, h1, r1⟩ := trodAll_cons r0
 obtain ⟨rfl, rfl, rfl⟩ := trodAll_nil r1
 obtain rfl : args = #[v0, v1] := by cases args; simp_all
 obtain ⟨rfl, rfl⟩ := trodVars_none hV
 have k0 := h0
 have ok0 := (hval 0 72 v0 rfl rfl)
 have lt0 : ∀ x ∈ p0, x.block < W.heap.size := by obtain ⟨m, hm⟩ := k0; exact DataW.trod_lt m _ _ _ hm
 have k1 := h1
 have ok1 := (hval 1 35 v1 rfl rfl)
 have lt1 : ∀ x ∈ p1, x.block < W.heap.size := by obtain ⟨m, hm⟩ := k1; exact DataW.trod_lt m _ _ _ hm
 obtain ⟨A0, l0, c0, rfl, hn0, hR0⟩ := open_frs ok0 h0; obtain ⟨A1, l1, c1, rfl, hR1, hc1, hb1⟩ := open_bytes_arg ok1 h1
 clear hA0 hval
 refine (splitFrames_walk W A0 l0 c0 hR0 A1 l1 c1 hR1 hb1 (gv_of_laid hL)).mono fun e W' ⟨he, bel⟩ => ?_
 subst he
 exact ⟨_, rfl, _, _, _, [], _, [], hW', trodAll_mk1 (shut_bool Tryd.underlying4 _), (trodAll_cons_mk (Below.trod laidOut (by kernel_rfl) (of_decide_eq_true (by kernel_rfl)) k0 bel lt0) (trodAll_cons_mk (Below.trod laidOut (by kernel_rfl) (of_decide_eq_true (by kernel_rfl)) k1 bel lt1) trodAll_mk0)), rfl, bel.frame _, fun h => by cases h⟩
noncomputable def laidWorld (os : Os) : World :=
 { World.holding Tryd.prog os ⟨#[], #[], []⟩ with heap := (World.holding Tryd.prog os ⟨#[], #[], []⟩).heap.modify 1 fun
   | .cells _ t frozen => .cells #[.iface 130 (.agg #[.pointer (some ⟨5, 28, none⟩)])] t frozen
   | o => o }
set_option maxRecDepth 100000 in
theorem laid_met (os : Os) (args : Array Value) : laidMetH Tryd.prog Rows.splitFramesRow.laid ((laidWorld os).forCall (fun _ _ => 0) ⟨#[], args, []⟩).memory := laidMetH_of_parts (laidMet_nil _ _) (by kernel_rfl)
set_option maxRecDepth 100000 in
theorem lifted (os : Os) (started : os.Started) (H : Type) (enc : TypeId × Value → H) (F : Stop.Interp) :
  ReturnsInHanded {} Tryd.checked os 10 .any ((OpenSpec.ofChange Rows.splitFramesSpec).preRow enc Tryd.prog Tryd.f10 Rows.splitFramesRow.domain false Rows.splitFramesRow.laid) (((OpenSpec.ofChange Rows.splitFramesSpec).at F).post enc Tryd.prog Tryd.f10 false true false false) := by
 refine returnsInHanded_of_row (C := Tryd.checked) (s := (OpenSpec.ofChange Rows.splitFramesSpec)) own started (by kernel_rfl) Tryd.func10
  (witness_row_at (enc := enc) (C := Tryd.checked) false (laidWorld os) #[.slice none 0 0, .slice none 0 0] rfl (by kernel_rfl) (by kernel_rfl) (by kernel_rfl)
   (OpenSpec.preRow_of_cond 8 (x := ([.nil, .nil], [], [])) (by kernel_rfl) (by kernel_rfl) (fun k hk => by cases hk) (by kernel_rfl) (laid_met os _))) ?_
 intro W base args ds gs before hval hW _ hcond hsz hL hS _
 exact contract H enc W base args ds gs before hval hW hsz hL hS
theorem said : Rows.SplitFramesSaid :=
 OpenClaim.holds_of_cond 10 Tryd.f10 rfl rfl rfl rfl rfl rfl rfl ⟨rfl, rfl, rfl, rfl, rfl⟩ rfl rfl rfl rfl rfl (by kernel_rfl) Tryd.func10 (by kernel_rfl)
  (of_decide_eq_true (by kernel_rfl)) (by unfold Func.isWrapper; first | (rw [if_pos (by decide +kernel)]; kernel_rfl) | (rw [if_neg (by decide +kernel)]; exact ⟨rfl, rfl⟩))
  (fun os started H enc _ F => by rw [OpenClaim.pre_eq_preRow]; exact lifted os started H enc F)
theorem plain (f : FuncId) (fn : Func) (hf : Tryd.pinned.checked.prog.funcNamed "louver/louverlaw08.SplitFrames" = some f) (hfn : Tryd.pinned.checked.prog.funcs[f]? = some fn) :
  true = Tryd.pinned.checked.prog.looks [] ∧ ∀ (j : Nat) t, fn.params[j]? = some t → Tryd.pinned.checked.prog.wantsStandIn t = false := by
 obtain rfl : f = 10 := Option.some.inj ((show Tryd.prog.funcNamed "louver/louverlaw08.SplitFrames" = some 10 by kernel_rfl).symm.trans hf) |>.symm
 obtain rfl : fn = Tryd.f10 := (Option.some.inj (Tryd.func10.symm.trans hfn)).symm
 refine ⟨by kernel_rfl, fun j t ht => ?_⟩
 rw [Tryd.params10] at ht
 have hm := Array.mem_of_getElem? ht
 have hall : ∀ t ∈ #[72, 35], Tryd.prog.wantsStandIn t = false := by intro t h; simp only [List.mem_toArray, List.mem_cons, List.not_mem_nil, or_false] at h; rcases h with rfl | rfl <;> kernel_rfl
 exact hall t hm
theorem card : Rows.SplitFramesCardSaid :=
 Claim7.holds_tied_plain_at .later [] _ _ _ _ said (fun _ h => by cases h) (by kernel_rfl) (fun _ h => by cases h) splitFrames_row_tie rfl ⟨rfl, rfl⟩ (by kernel_rfl) rfl plain (by kernel_rfl)
#print axioms card
end Go.Proofs.YtjjfkmniffbgkaaDoor.splitFrames
