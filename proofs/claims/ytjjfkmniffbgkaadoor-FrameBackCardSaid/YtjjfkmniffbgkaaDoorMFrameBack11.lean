/- The statement of louver/louverlaw07.FrameBack: for every input it returns true, and each argument reads behind the call as it read before; no other condition than the row's own. -/
import Derived.Test.YtjjfkmniffbgkaaDoorMFrameBack10
import Derived.Test.YtjjfkmniffbgkaaDoorMFrameBack2
import Derived.ChangeSlices
import Derived.Deep.Slices
import Derived.ChangeArms
import Derived.ChangeSame
import Derived.WideLaws
import Derived.OpenShut
import Derived.Lib.SmallJoins
import Derived.WideShapes
import Derived.ChangeShapes
import Derived.Test.YtjjfkmniffbgkaaDoorRows
import Derived.LaidHandle
import Derived.LaidLaws
import Derived.Stop.Joined
import Derived.Test.YtjjfkmniffbgkaaDoorCards
import Derived.Test.YtjjfkmniffbgkaaDoorTie
import Derived.WalkKit
import Derived.ProofKit
import Derived.ShutString
import Derived.ChangeOld
import Derived.Below
import Derived.SizedLaws
import Derived.Carry
import Derived.Deep.DeepHandedRow
/- FrameBack's pure part: how numbers are put. -/
namespace Go.Proofs.YtjjfkmniffbgkaaDoor
set_option linter.unusedVariables false
set_option linter.unusedSimpArgs false
open Go.RowKit Go.Proofs.YtjjfkmniffbgkaaDoorW.PrintWords Go.Proofs.YtjjfkmniffbgkaaDoorW.PrintLast Go.Proofs.YtjjfkmniffbgkaaDoorW.PrintMore Go.Proofs.YtjjfkmniffbgkaaDoor.QFrmA Go.Proofs.YtjjfkmniffbgkaaDoor.QFrmB Go.Proofs.YtjjfkmniffbgkaaDoor.Given

theorem ev_put_round (l : List Int) (n s : Int) (r : List Int) (hl : l.length ≤ 100000) (h0 : 0 ≤ s) (h1 : s ≤ 64) (h : Ev (fun k => QFrmB.frame_put.l0 k (l ++ [(shr .u32 n s) % 256]) n (s - 8)) r) : Ev (fun k => QFrmB.frame_put.l0 k l n s) r := by
  refine Ev.step (fun k => ?_) h
  simp only [QFrmB.frame_put.l0]
  rw [if_pos (by omega), if_pos h0, if_pos (by omega)]
  rw [wrap_okF (by omega) (by omega)]
theorem ev_put_end (l : List Int) (n : Int) : Ev (fun k => QFrmB.frame_put.l0 k l n (-8)) l := by
  refine Ev.step (f := fun _ => some l) (fun k => ?_) (Ev.now l)
  simp only [QFrmB.frame_put.l0]
  rw [if_neg (by omega)]
theorem ev_put2 (l : List Int) (n : Int) (hl : l.length ≤ 99990) : Ev (fun k => QFrmB.frame_put.f k l n 2) (l ++ [(shr .u32 n 8) % 256, (shr .u32 n 0) % 256]) := by
  unfold QFrmB.frame_put.f
  rw [show wrap64 (8 * wrap64 (2 - 1)) = 8 by unfold wrap64; omega]
  refine ev_put_round l n 8 _ (by omega) (by omega) (by omega) ?_
  refine ev_put_round _ n (8 - 8) _ (by simp; omega) (by omega) (by omega) ?_
  rw [show (8 - 8 - 8 : Int) = -8 from rfl]
  simpa using ev_put_end (l ++ [(shr .u32 n 8) % 256, (shr .u32 n 0) % 256]) n
theorem ev_put3 (l : List Int) (n : Int) (hl : l.length ≤ 99990) : Ev (fun k => QFrmB.frame_put.f k l n 3) (l ++ [(shr .u32 n 16) % 256, (shr .u32 n 8) % 256, (shr .u32 n 0) % 256]) := by
  unfold QFrmB.frame_put.f
  rw [show wrap64 (8 * wrap64 (3 - 1)) = 16 by unfold wrap64; omega]
  refine ev_put_round l n 16 _ (by omega) (by omega) (by omega) ?_
  refine ev_put_round _ n (16 - 8) _ (by simp; omega) (by omega) (by omega) ?_
  refine ev_put_round _ n (16 - 8 - 8) _ (by simp; omega) (by omega) (by omega) ?_
  rw [show (16 - 8 - 8 - 8 : Int) = -8 from rfl]
  simpa using ev_put_end (l ++ [(shr .u32 n 16) % 256, (shr .u32 n 8) % 256, (shr .u32 n 0) % 256]) n
theorem ev_put4 (l : List Int) (n : Int) (hl : l.length ≤ 99990) : Ev (fun k => QFrmB.frame_put.f k l n 4) (l ++ [(shr .u32 n 24) % 256, (shr .u32 n 16) % 256, (shr .u32 n 8) % 256, (shr .u32 n 0) % 256]) := by
  unfold QFrmB.frame_put.f
  rw [show wrap64 (8 * wrap64 (4 - 1)) = 24 by unfold wrap64; omega]
  refine ev_put_round l n 24 _ (by omega) (by omega) (by omega) ?_
  refine ev_put_round _ n (24 - 8) _ (by simp; omega) (by omega) (by omega) ?_
  refine ev_put_round _ n (24 - 8 - 8) _ (by simp; omega) (by omega) (by omega) ?_
  refine ev_put_round _ n (24 - 8 - 8 - 8) _ (by simp; omega) (by omega) (by omega) ?_
  rw [show (24 - 8 - 8 - 8 - 8 : Int) = -8 from rfl]
  simpa using ev_put_end (l ++ [(shr .u32 n 24) % 256, (shr .u32 n 16) % 256, (shr .u32 n 8) % 256, (shr .u32 n 0) % 256]) n
theorem shr24 (n : Int) : shr .u32 n 24 = n / 16777216 := rfl
theorem shr16 (n : Int) : shr .u32 n 16 = n / 65536 := rfl
theorem shr8 (n : Int) : shr .u32 n 8 = n / 256 := rfl
theorem shr0 (n : Int) : shr .u32 n 0 = n := by show n / 1 = n; omega
/-- A number that was read is put as it stood. -/
theorem ev_put2_val (l : List Int) {a b : Int} (hb : Byte8 [a, b]) (hl : l.length ≤ 99990) : Ev (fun k => QFrmB.frame_put.f k l (valL [a, b]) 2) (l ++ [a, b]) := by
  have h := ev_put2 l (valL [a, b]) hl
  have ha := hb a (by simp)
  have hb' := hb b (by simp)
  rw [shr8, shr0] at h
  have e1 : valL [a, b] / 256 % 256 = a := by simp only [valL, valFrom]; omega
  have e0 : valL [a, b] % 256 = b := by simp only [valL, valFrom]; omega
  rw [e1, e0] at h
  exact h
theorem ev_put3_val (l : List Int) {a b c : Int} (hb : Byte8 [a, b, c]) (hl : l.length ≤ 99990) : Ev (fun k => QFrmB.frame_put.f k l (valL [a, b, c]) 3) (l ++ [a, b, c]) := by
  have h := ev_put3 l (valL [a, b, c]) hl
  have ha := hb a (by simp)
  have hb' := hb b (by simp)
  have hc := hb c (by simp)
  rw [shr16, shr8, shr0] at h
  have e2 : valL [a, b, c] / 65536 % 256 = a := by simp only [valL, valFrom]; omega
  have e1 : valL [a, b, c] / 256 % 256 = b := by simp only [valL, valFrom]; omega
  have e0 : valL [a, b, c] % 256 = c := by simp only [valL, valFrom]; omega
  rw [e2, e1, e0] at h
  exact h
theorem ev_put4_val (l : List Int) {a b c d : Int} (hb : Byte8 [a, b, c, d]) (hl : l.length ≤ 99990) : Ev (fun k => QFrmB.frame_put.f k l (valL [a, b, c, d]) 4) (l ++ [a, b, c, d]) := by
  have h := ev_put4 l (valL [a, b, c, d]) hl
  have ha := hb a (by simp)
  have hb' := hb b (by simp)
  have hc := hb c (by simp)
  have hd := hb d (by simp)
  rw [shr24, shr16, shr8, shr0] at h
  have e3 : valL [a, b, c, d] / 16777216 % 256 = a := by simp only [valL, valFrom]; omega
  have e2 : valL [a, b, c, d] / 65536 % 256 = b := by simp only [valL, valFrom]; omega
  have e1 : valL [a, b, c, d] / 256 % 256 = c := by simp only [valL, valFrom]; omega
  have e0 : valL [a, b, c, d] % 256 = d := by simp only [valL, valFrom]; omega
  rw [e3, e2, e1, e0] at h
  exact h
end Go.Proofs.YtjjfkmniffbgkaaDoor

/- FrameBack's pure part: the payload. -/
namespace Go.Proofs.YtjjfkmniffbgkaaDoor
set_option linter.unusedVariables false
set_option linter.unusedSimpArgs false
open Go.RowKit Go.Proofs.YtjjfkmniffbgkaaDoorW.PrintWords Go.Proofs.YtjjfkmniffbgkaaDoorW.PrintLast Go.Proofs.YtjjfkmniffbgkaaDoorW.PrintMore Go.Proofs.YtjjfkmniffbgkaaDoor.QFrmA Go.Proofs.YtjjfkmniffbgkaaDoor.Given

/-- A number's four bytes. -/
def be4 (n : Int) : List Int := [(shr .u32 n 24) % 256, (shr .u32 n 16) % 256, (shr .u32 n 8) % 256, (shr .u32 n 0) % 256]
theorem be4_len (n : Int) : (be4 n).length = 4 := rfl
def leanL (F : Fr) : List Int := be4 (if F.al = true then Go.bits .or .u32 F.oth 2147483648 else F.oth) ++ [F.wgt]
theorem ev_lean (l : List Int) (F : Fr) (hl : l.length ≤ 99000) : Ev (fun k => QFrmB.frame_lean.f k l F.ty F.fl F.st F.data F.pad F.code F.oth F.wgt F.al F.win F.sets) (l ++ leanL F) := by
  unfold QFrmB.frame_lean.f leanL
  have hh : ∀ n, Ev (fun k => (QFrmB.frame_put.f k l n 4).bind fun t => ((some (([F.wgt] : List Int) : List Int)).bind fun y => (if t.length + y.length < 140737488355328 then (some (t ++ y)) else (none)))) (l ++ (be4 n ++ [F.wgt])) := by
    intro n
    refine Ev.bind (ev_put4 l n (by omega)) ?_
    simp only [Option.bind_some]
    rw [if_pos (by simp; omega)]
    have := Ev.now (l ++ (be4 n ++ [F.wgt]))
    simpa [be4] using this
  by_cases ha : F.al = true
  · simp only [if_pos ha]
    exact hh _
  · simp only [if_neg ha]
    exact hh _
/-- What stands behind a payload's own numbers. -/
def tailL (F : Fr) : List Int := (if leansB F.ty F.fl = true then leanL F else []) ++ F.data ++ List.replicate (mx F.pad 0).toNat 0
theorem ev_tail (l : List Int) (F : Fr) (hl : l.length ≤ 90000) (hd : F.data.length ≤ 100000) (hp : F.pad ≤ 255) : Ev (fun k => QFrmB.frame_payload.j2 k l F.ty F.fl F.st F.data F.pad F.code F.oth F.wgt F.al F.win F.sets) (l ++ tailL F) := by
  have hm : 0 ≤ mx F.pad 0 ∧ mx F.pad 0 ≤ 255 := by unfold mx; split <;> omega
  have hln : QFrmB.frame_leans.f F.ty F.fl F.st F.data F.pad F.code F.oth F.wgt F.al F.win F.sets = some (leansB F.ty F.fl) := by
    unfold QFrmB.frame_leans.f leansB
    by_cases h2 : F.ty = 2
    · rw [if_pos h2, if_pos h2]
    · rw [if_neg h2, if_neg h2]
      by_cases h1 : F.ty = 1
      · rw [if_pos h1, if_pos h1]
      · rw [if_neg h1, if_neg h1]
  have hlen : (leanL F).length = 5 := rfl
  by_cases hL : leansB F.ty F.fl = true
  · refine Ev.step (f := fun k => (QFrmB.frame_lean.f k l F.ty F.fl F.st F.data F.pad F.code F.oth F.wgt F.al F.win F.sets).bind fun t => (if t.length + F.data.length < 140737488355328 then ((some (t ++ F.data : List Int)).bind fun y => (if 0 ≤ (mx F.pad 0) then (if y.length + (mx F.pad 0 : Int).toNat < 140737488355328 then (some (y ++ List.replicate (mx F.pad 0 : Int).toNat 0)) else (none)) else (none))) else (none))) (fun k => ?_) ?_
    · simp only [QFrmB.frame_payload.j2]
      rw [hln]
      simp only [Option.bind_some, hL, if_true]
    · refine Ev.bind (ev_lean l F (by omega)) ?_
      simp only [Option.bind_some]
      rw [if_pos (by rw [List.length_append, hlen]; omega), if_pos hm.1, if_pos (by rw [List.length_append, List.length_append, hlen]; omega)]
      have := Ev.now (l ++ tailL F)
      simpa [tailL, hL] using this
  · refine Ev.step (f := fun k => some (l ++ tailL F)) (fun k => ?_) (Ev.now _)
    simp only [QFrmB.frame_payload.j2]
    rw [hln]
    simp only [Option.bind_some, hL]
    rw [if_neg (by simp), if_pos (by omega), if_pos hm.1, if_pos (by rw [List.length_append]; omega)]
    simp [tailL, hL]
end Go.Proofs.YtjjfkmniffbgkaaDoor

/- FrameBack's pure part: a payload, whole. -/
namespace Go.Proofs.YtjjfkmniffbgkaaDoor
set_option linter.unusedVariables false
set_option linter.unusedSimpArgs false
open Go.RowKit Go.Proofs.YtjjfkmniffbgkaaDoorW.PrintWords Go.Proofs.YtjjfkmniffbgkaaDoorW.PrintLast Go.Proofs.YtjjfkmniffbgkaaDoorW.PrintMore Go.Proofs.YtjjfkmniffbgkaaDoor.QFrmA Go.Proofs.YtjjfkmniffbgkaaDoor.Given

def be2 (n : Int) : List Int := [(shr .u32 n 8) % 256, (shr .u32 n 0) % 256]
def setL (s : S99) : List Int := be2 (s.f0 % 4294967296) ++ be4 s.f1
theorem setL_len (s : S99) : (setL s).length = 6 := rfl
theorem ev_sets (F : Fr) (hd : F.data.length ≤ 100000) (hp : F.pad ≤ 255) (hns : F.sets.length ≤ 100000) : ∀ (m i : Nat) (l : List Int), m + i = F.sets.length → l.length + 6 * m ≤ 90000 →
    Ev (fun k => QFrmB.frame_payload.l0 k l F.sets (F.sets.length : Int) (i : Int) F.ty F.fl F.st F.data F.pad F.code F.oth F.wgt F.al F.win F.sets) (l ++ ((F.sets.drop i).flatMap setL ++ tailL F))
  | 0, i, l, hi, hl => by
    refine Ev.step (f := fun k => QFrmB.frame_payload.j2 k l F.ty F.fl F.st F.data F.pad F.code F.oth F.wgt F.al F.win F.sets) (fun k => ?_) ?_
    · simp only [QFrmB.frame_payload.l0]
      rw [if_neg (by omega)]
    · rw [List.drop_eq_nil_of_le (by omega)]
      simpa using ev_tail l F (by omega) hd hp
  | m + 1, i, l, hi, hl => by
    have hlt : i < F.sets.length := by omega
    have hrd : rd_T99 F.sets (i : Int) = F.sets[i] := by
      unfold rd_T99
      rw [List.getD_eq_getElem?_getD, Int.toNat_natCast, List.getElem?_eq_getElem hlt]
      rfl
    have ih := ev_sets F hd hp hns m (i + 1) (l ++ setL F.sets[i]) (by omega) (by rw [List.length_append, setL_len]; omega)
    refine Ev.step (f := fun k => (QFrmB.frame_put.f k l (F.sets[i].f0 % 4294967296) 2).bind fun t133 => (QFrmB.frame_put.f k t133 F.sets[i].f1 4).bind fun t136 => QFrmB.frame_payload.l0 k t136 F.sets (F.sets.length : Int) ((i + 1 : Nat) : Int) F.ty F.fl F.st F.data F.pad F.code F.oth F.wgt F.al F.win F.sets) (fun k => ?_) ?_
    · simp only [QFrmB.frame_payload.l0]
      rw [if_pos (by omega), if_pos (by omega), if_pos (by omega), hrd, wrap_okF (by omega) (by have := hl; omega)]
      rfl
    · refine Ev.bind (ev_put2 l _ (by omega)) ?_
      refine Ev.bind (ev_put4 _ _ (by simp; omega)) ?_
      rw [List.drop_eq_getElem_cons hlt]
      have e : l ++ [(shr .u32 (F.sets[i].f0 % 4294967296) 8) % 256, (shr .u32 (F.sets[i].f0 % 4294967296) 0) % 256] ++ [(shr .u32 F.sets[i].f1 24) % 256, (shr .u32 F.sets[i].f1 16) % 256, (shr .u32 F.sets[i].f1 8) % 256, (shr .u32 F.sets[i].f1 0) % 256] = l ++ setL F.sets[i] := by simp [setL, be2, be4]
      rw [e]
      have e2 : l ++ ((F.sets[i] :: F.sets.drop (i + 1)).flatMap setL ++ tailL F) = (l ++ setL F.sets[i]) ++ ((F.sets.drop (i + 1)).flatMap setL ++ tailL F) := by rw [List.flatMap_cons]; simp only [List.append_assoc]
      rw [e2]
      exact ih
/-- A payload's own numbers. -/
def midL (F : Fr) : List Int :=
  if F.ty = 3 then be4 F.code else if F.ty = 4 then F.sets.flatMap setL else if F.ty = 7 then be4 F.oth ++ be4 F.code else if F.ty = 5 then be4 F.oth else if F.ty = 8 then be4 F.win else []
theorem ev_mid (F : Fr) (l : List Int) (hl : l.length ≤ 10) (hd : F.data.length ≤ 100000) (hp : F.pad ≤ 255) (hns : F.sets.length ≤ 10000) :
    Ev (fun k => QFrmB.frame_payload.j0 k l F.ty F.fl F.st F.data F.pad F.code F.oth F.wgt F.al F.win F.sets) (l ++ (midL F ++ tailL F)) := by
  unfold midL
  have h4 : ∀ (l : List Int) (n : Int) (r : List Int), l.length ≤ 80000 → Ev (fun k => QFrmB.frame_payload.j2 k (l ++ be4 n) F.ty F.fl F.st F.data F.pad F.code F.oth F.wgt F.al F.win F.sets) r → Ev (fun k => (QFrmB.frame_put.f k l n 4).bind fun t => QFrmB.frame_payload.j2 k t F.ty F.fl F.st F.data F.pad F.code F.oth F.wgt F.al F.win F.sets) r := fun l n r hl h => Ev.bind (ev_put4 l n (by omega)) h
  by_cases t3 : F.ty = 3
  · refine Ev.step (f := fun k => (QFrmB.frame_put.f k l F.code 4).bind fun t => QFrmB.frame_payload.j2 k t F.ty F.fl F.st F.data F.pad F.code F.oth F.wgt F.al F.win F.sets) (fun k => by simp only [QFrmB.frame_payload.j0]; rw [if_pos t3]) ?_
    rw [if_pos t3, ← List.append_assoc]
    exact h4 l F.code _ (by omega) (ev_tail _ F (by rw [List.length_append, be4_len]; omega) hd hp)
  by_cases t4 : F.ty = 4
  · refine Ev.step (f := fun k => QFrmB.frame_payload.l0 k l F.sets (F.sets.length : Int) 0 F.ty F.fl F.st F.data F.pad F.code F.oth F.wgt F.al F.win F.sets) (fun k => by simp only [QFrmB.frame_payload.j0]; rw [if_neg t3, if_pos t4]) ?_
    rw [if_neg t3, if_pos t4]
    exact ev_sets F hd hp (by omega) F.sets.length 0 l (by omega) (by omega)
  by_cases t7 : F.ty = 7
  · refine Ev.step (f := fun k => (QFrmB.frame_put.f k l F.oth 4).bind fun t139 => (QFrmB.frame_put.f k t139 F.code 4).bind fun t => QFrmB.frame_payload.j2 k t F.ty F.fl F.st F.data F.pad F.code F.oth F.wgt F.al F.win F.sets) (fun k => by simp only [QFrmB.frame_payload.j0]; rw [if_neg t3, if_neg t4, if_pos t7]) ?_
    rw [if_neg t3, if_neg t4, if_pos t7, ← List.append_assoc, ← List.append_assoc]
    exact Ev.bind (ev_put4 l F.oth (by omega)) (h4 _ F.code _ (by simp; omega) (ev_tail _ F (by simp [be4]; omega) hd hp))
  by_cases t5 : F.ty = 5
  · refine Ev.step (f := fun k => (QFrmB.frame_put.f k l F.oth 4).bind fun t => QFrmB.frame_payload.j2 k t F.ty F.fl F.st F.data F.pad F.code F.oth F.wgt F.al F.win F.sets) (fun k => by simp only [QFrmB.frame_payload.j0]; rw [if_neg t3, if_neg t4, if_neg t7, if_pos t5]) ?_
    rw [if_neg t3, if_neg t4, if_neg t7, if_pos t5, ← List.append_assoc]
    exact h4 l F.oth _ (by omega) (ev_tail _ F (by rw [List.length_append, be4_len]; omega) hd hp)
  by_cases t8 : F.ty = 8
  · refine Ev.step (f := fun k => (QFrmB.frame_put.f k l F.win 4).bind fun t => QFrmB.frame_payload.j2 k t F.ty F.fl F.st F.data F.pad F.code F.oth F.wgt F.al F.win F.sets) (fun k => by simp only [QFrmB.frame_payload.j0]; rw [if_neg t3, if_neg t4, if_neg t7, if_neg t5, if_pos t8]) ?_
    rw [if_neg t3, if_neg t4, if_neg t7, if_neg t5, if_pos t8, ← List.append_assoc]
    exact h4 l F.win _ (by omega) (ev_tail _ F (by rw [List.length_append, be4_len]; omega) hd hp)
  · refine Ev.step (f := fun k => QFrmB.frame_payload.j2 k l F.ty F.fl F.st F.data F.pad F.code F.oth F.wgt F.al F.win F.sets) (fun k => by simp only [QFrmB.frame_payload.j0]; rw [if_neg t3, if_neg t4, if_neg t7, if_neg t5, if_neg t8]) ?_
    rw [if_neg t3, if_neg t4, if_neg t7, if_neg t5, if_neg t8, List.nil_append]
    exact ev_tail _ F (by omega) hd hp
/-- A frame's payload. -/
def payL (F : Fr) : List Int := (if 0 ≤ F.pad then [F.pad % 256] else []) ++ (midL F ++ tailL F)
theorem ev_payload (F : Fr) (hd : F.data.length ≤ 100000) (hp : F.pad ≤ 255) (hns : F.sets.length ≤ 10000) :
    Ev (fun k => QFrmB.frame_payload.f k F.ty F.fl F.st F.data F.pad F.code F.oth F.wgt F.al F.win F.sets) (payL F) := by
  unfold QFrmB.frame_payload.f payL
  by_cases h0 : F.pad ≥ 0
  · have h := ev_mid F [F.pad % 256] (by simp) hd hp hns
    rw [if_pos h0]
    refine Ev.congr (fun k => ?_) h
    rw [if_pos h0, if_pos (by simp)]
    rfl
  · have h := ev_mid F [] (by simp) hd hp hns
    rw [if_neg h0]
    refine Ev.congr (fun k => ?_) h
    rw [if_neg h0]
end Go.Proofs.YtjjfkmniffbgkaaDoor

/- FrameBack's pure part: Put. -/
namespace Go.Proofs.YtjjfkmniffbgkaaDoor
set_option linter.unusedVariables false
set_option linter.unusedSimpArgs false
open Go.RowKit Go.Proofs.YtjjfkmniffbgkaaDoorW.PrintWords Go.Proofs.YtjjfkmniffbgkaaDoorW.PrintLast Go.Proofs.YtjjfkmniffbgkaaDoorW.PrintMore Go.Proofs.YtjjfkmniffbgkaaDoor.QFrmA Go.Proofs.YtjjfkmniffbgkaaDoor.Given

def be3 (n : Int) : List Int := [(shr .u32 n 16) % 256, (shr .u32 n 8) % 256, (shr .u32 n 0) % 256]
/-- A frame's bytes. -/
def putL (F : Fr) : List Int := be3 ((payL F).length % 4294967296) ++ [F.ty, F.fl] ++ be4 F.st ++ payL F
theorem ev_Put (F : Fr) (hd : F.data.length ≤ 100000) (hp : F.pad ≤ 255) (hns : F.sets.length ≤ 10000) (hm : Ev (fun k => QFrmB.frame_May.f k F.ty F.fl F.st F.data F.pad F.code F.oth F.wgt F.al F.win F.sets) true) (hl : (payL F).length ≤ 1000000) :
    Ev (fun k => QFrmB.frame_Put.f k F.ty F.fl F.st F.data F.pad F.code F.oth F.wgt F.al F.win F.sets) (putL F) := by
  unfold QFrmB.frame_Put.f putL
  refine Ev.bind hm ?_
  simp only [if_true]
  refine Ev.bind (ev_payload F hd hp hns) ?_
  refine Ev.bind (ev_put3 [] _ (by simp)) ?_
  simp only [Option.bind_some]
  refine Ev.congr (fun n => if_pos (by simp)) ?_
  refine Ev.bind (ev_put4 _ _ (by simp)) ?_
  refine Ev.congr (fun n => if_pos (by simp; omega)) ?_
  have := Ev.now (be3 ((payL F).length % 4294967296) ++ [F.ty, F.fl] ++ be4 F.st ++ payL F)
  simpa [be3, be4] using this
end Go.Proofs.YtjjfkmniffbgkaaDoor

/- FrameBack's pure part: the fields. -/
namespace Go.Proofs.YtjjfkmniffbgkaaDoor
set_option linter.unusedVariables false
set_option linter.unusedSimpArgs false
open Go.RowKit Go.Proofs.YtjjfkmniffbgkaaDoorW.PrintWords Go.Proofs.YtjjfkmniffbgkaaDoorW.PrintLast Go.Proofs.YtjjfkmniffbgkaaDoorW.PrintMore Go.Proofs.YtjjfkmniffbgkaaDoor.QFrmA Go.Proofs.YtjjfkmniffbgkaaDoor.Given

theorem ev_f5 (F : Fr) (x4 : Bool) (h4 : x4 = true ∨ F.data = []) (hS : F.ty = 4 ∨ F.sets = []) : Ev (fun k => QFrmB.frame_fields.j5 k x4 false F.ty F.fl F.st F.data F.pad F.code F.oth F.wgt F.al F.win F.sets) true := by
  refine Ev.step (f := fun _ => some true) (fun k => ?_) (Ev.now true)
  simp only [QFrmB.frame_fields.j5]
  by_cases t4 : F.ty = 4
  · rcases h4 with h | h
    · simp [t4, h]
    · simp [t4, h]
  · rcases hS with h | h
    · exact absurd h t4
    · rcases h4 with h' | h'
      · simp [t4, h, h']
      · simp [t4, h, h']
theorem ev_f4 (F : Fr) (x4 : Bool) (h4 : x4 = true ∨ F.data = []) (hS : F.ty = 4 ∨ F.sets = []) (hW : F.ty = 8 ∨ F.win = 0) : Ev (fun k => QFrmB.frame_fields.j4 k x4 false F.ty F.fl F.st F.data F.pad F.code F.oth F.wgt F.al F.win F.sets) true := by
  refine Ev.step (fun k => ?_) (ev_f5 F x4 h4 hS)
  simp only [QFrmB.frame_fields.j4]
  rcases hW with h | h
  · simp [h]
  · simp [h]
theorem ev_f3 (F : Fr) (x3 x4 x5 : Bool) (h4 : x4 = true ∨ F.data = []) (hS : F.ty = 4 ∨ F.sets = []) (hW : F.ty = 8 ∨ F.win = 0) (hO : x3 = true ∨ F.oth = 0) (hC : x5 = true ∨ F.code = 0) : Ev (fun k => QFrmB.frame_fields.j3 k x3 x4 x5 false F.ty F.fl F.st F.data F.pad F.code F.oth F.wgt F.al F.win F.sets) true := by
  refine Ev.step (fun k => ?_) (ev_f4 F x4 h4 hS hW)
  simp only [QFrmB.frame_fields.j3]
  rcases hO with h | h <;> rcases hC with h' | h' <;> simp [h, h']
theorem ev_f2 (F : Fr) (x3 x4 x5 : Bool) (h4 : x4 = true ∨ F.data = []) (hS : F.ty = 4 ∨ F.sets = []) (hW : F.ty = 8 ∨ F.win = 0) (hO : x3 = true ∨ F.oth = 0) (hC : x5 = true ∨ F.code = 0) (hL : leansB F.ty F.fl = true ∨ (F.wgt = 0 ∧ F.al = false)) : Ev (fun k => QFrmB.frame_fields.j2 k x3 x4 x5 F.ty F.fl F.st F.data F.pad F.code F.oth F.wgt F.al F.win F.sets) true := by
  refine Ev.step (fun k => ?_) (ev_f3 F x3 x4 x5 h4 hS hW hO hC)
  have hln : QFrmB.frame_leans.f F.ty F.fl F.st F.data F.pad F.code F.oth F.wgt F.al F.win F.sets = some (leansB F.ty F.fl) := by
    unfold QFrmB.frame_leans.f leansB
    by_cases h2 : F.ty = 2
    · rw [if_pos h2, if_pos h2]
    · rw [if_neg h2, if_neg h2]
      by_cases h1 : F.ty = 1
      · rw [if_pos h1, if_pos h1]
      · rw [if_neg h1, if_neg h1]
  simp only [QFrmB.frame_fields.j2]
  rw [hln]
  by_cases h : leansB F.ty F.fl = true
  · simp [h]
  · obtain ⟨h1, h2⟩ := hL.resolve_left h
    simp [h, h1, h2]
end Go.Proofs.YtjjfkmniffbgkaaDoor

/- FrameBack's pure part: fields, whole; May. -/
namespace Go.Proofs.YtjjfkmniffbgkaaDoor
set_option linter.unusedVariables false
set_option linter.unusedSimpArgs false
open Go.RowKit Go.Proofs.YtjjfkmniffbgkaaDoorW.PrintWords Go.Proofs.YtjjfkmniffbgkaaDoorW.PrintLast Go.Proofs.YtjjfkmniffbgkaaDoorW.PrintMore Go.Proofs.YtjjfkmniffbgkaaDoor.QFrmA Go.Proofs.YtjjfkmniffbgkaaDoor.Given

/-- A frame all of whose fields that its type has not are none. -/
structure FieldsOk (F : Fr) : Prop where
  lean : leansB F.ty F.fl = true ∨ (F.wgt = 0 ∧ F.al = false)
  oth : (leansB F.ty F.fl = true ∨ F.ty = 5 ∨ F.ty = 7) ∨ F.oth = 0
  code : (F.ty = 3 ∨ F.ty = 7) ∨ F.code = 0
  win : F.ty = 8 ∨ F.win = 0
  sets : F.ty = 4 ∨ F.sets = []
  data : (F.ty ≠ 2 ∧ F.ty ≠ 3 ∧ F.ty ≠ 4 ∧ F.ty ≠ 8) ∨ F.data = []
theorem ev_f1 (F : Fr) (h : FieldsOk F) (x3 x4 : Bool) (h3 : x3 = true ∨ F.oth = 0) (h4 : x4 = true ∨ F.data = []) : Ev (fun k => QFrmB.frame_fields.j1 k x3 x4 F.ty F.fl F.st F.data F.pad F.code F.oth F.wgt F.al F.win F.sets) true := by
  by_cases t3 : F.ty = 3
  · refine Ev.step (fun k => ?_) (ev_f2 F x3 x4 true h4 h.sets h.win h3 (.inl rfl) h.lean)
    simp only [QFrmB.frame_fields.j1]
    rw [if_pos t3]
  · refine Ev.step (fun k => ?_) (ev_f2 F x3 x4 (F.ty == 7) h4 h.sets h.win h3 ?_ h.lean)
    · simp only [QFrmB.frame_fields.j1]
      rw [if_neg t3]
    · rcases h.code with (h' | h') | h'
      · exact absurd h' t3
      · exact .inl (by simp [h'])
      · exact .inr h'
theorem ev_f0 (F : Fr) (h : FieldsOk F) (x3 : Bool) (h3 : x3 = true ∨ F.oth = 0) : Ev (fun k => QFrmB.frame_fields.j0 k x3 F.ty F.fl F.st F.data F.pad F.code F.oth F.wgt F.al F.win F.sets) true := by
  have hF : (¬(F.ty ≠ 2 ∧ F.ty ≠ 3 ∧ F.ty ≠ 4 ∧ F.ty ≠ 8)) → Ev (fun k => QFrmB.frame_fields.j1 k x3 false F.ty F.fl F.st F.data F.pad F.code F.oth F.wgt F.al F.win F.sets) true := fun hn => ev_f1 F h x3 false h3 (.inr (h.data.resolve_left hn))
  by_cases t2 : F.ty = 2
  · refine Ev.step (fun k => ?_) (hF (by omega))
    simp only [QFrmB.frame_fields.j0]
    rw [if_pos t2]
  by_cases t3 : F.ty = 3
  · refine Ev.step (fun k => ?_) (hF (by omega))
    simp only [QFrmB.frame_fields.j0]
    rw [if_neg t2, if_pos t3]
  by_cases t4 : F.ty = 4
  · refine Ev.step (fun k => ?_) (hF (by omega))
    simp only [QFrmB.frame_fields.j0]
    rw [if_neg t2, if_neg t3, if_pos t4]
  · refine Ev.step (fun k => ?_) (ev_f1 F h x3 (F.ty != 8) h3 ?_)
    · simp only [QFrmB.frame_fields.j0]
      rw [if_neg t2, if_neg t3, if_neg t4]
    · by_cases t8 : F.ty = 8
      · exact .inr (h.data.resolve_left (by omega))
      · exact .inl (by simpa using t8)
theorem leans_f (F : Fr) : QFrmB.frame_leans.f F.ty F.fl F.st F.data F.pad F.code F.oth F.wgt F.al F.win F.sets = some (leansB F.ty F.fl) := by
  unfold QFrmB.frame_leans.f leansB
  by_cases h2 : F.ty = 2
  · rw [if_pos h2, if_pos h2]
  · rw [if_neg h2, if_neg h2]
    by_cases h1 : F.ty = 1
    · rw [if_pos h1, if_pos h1]
    · rw [if_neg h1, if_neg h1]
theorem ev_fields (F : Fr) (h : FieldsOk F) : Ev (fun k => QFrmB.frame_fields.f k F.ty F.fl F.st F.data F.pad F.code F.oth F.wgt F.al F.win F.sets) true := by
  unfold QFrmB.frame_fields.f
  simp only [leans_f F, Option.bind_some]
  by_cases hL : leansB F.ty F.fl = true
  · simp only [if_pos hL]
    exact ev_f0 F h true (.inl rfl)
  · simp only [if_neg hL]
    by_cases t5 : F.ty = 5
    · simp only [if_pos t5]
      exact ev_f0 F h true (.inl rfl)
    · simp only [if_neg t5]
      refine ev_f0 F h (F.ty == 7) ?_
      rcases h.oth with (h' | h' | h') | h'
      · exact absurd h' hL
      · exact absurd h' t5
      · exact .inl (by simp [h'])
      · exact .inr h'
end Go.Proofs.YtjjfkmniffbgkaaDoor

/- FrameBack's pure part: May. -/
namespace Go.Proofs.YtjjfkmniffbgkaaDoor
set_option linter.unusedVariables false
set_option linter.unusedSimpArgs false
open Go.RowKit Go.Proofs.YtjjfkmniffbgkaaDoorW.PrintWords Go.Proofs.YtjjfkmniffbgkaaDoorW.PrintLast Go.Proofs.YtjjfkmniffbgkaaDoorW.PrintMore Go.Proofs.YtjjfkmniffbgkaaDoor.QFrmA Go.Proofs.YtjjfkmniffbgkaaDoor.Given

/-- A frame that may be. -/
structure MayOk (F : Fr) : Prop where
  fields : FieldsOk F
  st : F.st ≤ 2147483647
  oth : F.oth ≤ 2147483647
  win : F.win ≤ 2147483647
  pad : if (F.ty = 0 ∨ F.ty = 1 ∨ F.ty = 5) ∧ Go.bits .and .u8 F.fl 8 ≠ 0 then 0 ≤ F.pad ∧ F.pad ≤ 255 else F.pad = -1
  ping : F.ty = 6 → F.data.length = 8
  data : F.data.length ≤ 16384
  sets : F.sets.length ≤ 2730
  pay : (payL F).length ≤ 16384
theorem MayOk.pad255 {F : Fr} (h : MayOk F) : F.pad ≤ 255 := by
  have := h.pad
  split at this <;> omega
theorem ev_m3 (F : Fr) (h : MayOk F) : Ev (fun k => QFrmB.frame_May.j3 k false F.ty F.fl F.st F.data F.pad F.code F.oth F.wgt F.al F.win F.sets) true := by
  have hp := ev_payload F (by have := h.data; omega) h.pad255 (by have := h.sets; omega)
  have hq : Ev (fun k => (QFrmB.frame_payload.f k F.ty F.fl F.st F.data F.pad F.code F.oth F.wgt F.al F.win F.sets).bind fun t => some (decide ((t.length : Int) ≤ 16384))) true := by
    refine Ev.bind hp ?_
    have hd : decide (((payL F).length : Int) ≤ 16384) = true := by rw [decide_eq_true_iff]; have := h.pay; omega
    rw [hd]
    exact Ev.now true
  refine Ev.step (fun k => ?_) hq
  simp only [QFrmB.frame_May.j3]
  have h1 : (F.data.length : Int) ≤ 16384 := by have := h.data; omega
  have h2 : (F.sets.length : Int) ≤ 2730 := by have := h.sets; omega
  rw [if_neg (by simp)]
  by_cases t6 : F.ty = 6
  · have h8 : (F.data.length : Int) = 8 := by have := h.ping t6; omega
    rw [if_pos t6, if_pos h8, if_pos h1, if_pos h2]
  · rw [if_neg t6, if_pos h1, if_pos h2]
theorem ev_m2 (F : Fr) (h : MayOk F) (x3 : Bool) (h3 : x3 = true ∨ F.pad = -1) : Ev (fun k => QFrmB.frame_May.j2 k x3 false F.ty F.fl F.st F.data F.pad F.code F.oth F.wgt F.al F.win F.sets) true := by
  refine Ev.step (fun k => ?_) (ev_m3 F h)
  simp only [QFrmB.frame_May.j2]
  rcases h3 with h' | h'
  · simp [h']
  · simp [h']
theorem ev_m1 (F : Fr) (h : MayOk F) (x3 : Bool) (h3 : if x3 = true then 0 ≤ F.pad else F.pad = -1) : Ev (fun k => QFrmB.frame_May.j1 k x3 false F.ty F.fl F.st F.data F.pad F.code F.oth F.wgt F.al F.win F.sets) true := by
  by_cases hx : x3 = true
  · rw [if_pos hx] at h3
    refine Ev.step (fun k => ?_) (ev_m2 F h x3 (.inl hx))
    simp only [QFrmB.frame_May.j1]
    have hd : decide (F.pad > 255) = false := by rw [decide_eq_false_iff_not]; have := h.pad255; omega
    rw [if_neg (by simp), if_pos hx, if_neg (by omega), hd]
  · rw [if_neg hx] at h3
    refine Ev.step (fun k => ?_) (ev_m2 F h x3 (.inr h3))
    simp only [QFrmB.frame_May.j1]
    rw [if_neg (by simp), if_neg hx]
theorem ev_m0 (F : Fr) (h : MayOk F) (x3 : Bool) (h3 : if x3 = true then 0 ≤ F.pad else F.pad = -1) : Ev (fun k => QFrmB.frame_May.j0 k x3 F.ty F.fl F.st F.data F.pad F.code F.oth F.wgt F.al F.win F.sets) true := by
  have hb : Ev (fun k => (QFrmB.frame_fields.f k F.ty F.fl F.st F.data F.pad F.code F.oth F.wgt F.al F.win F.sets).bind fun t => QFrmB.frame_May.j1 k x3 (!t) F.ty F.fl F.st F.data F.pad F.code F.oth F.wgt F.al F.win F.sets) true := Ev.bind (ev_fields F h.fields) (ev_m1 F h x3 h3)
  refine Ev.step (fun k => ?_) hb
  simp only [QFrmB.frame_May.j0]
  rw [if_neg (by have := h.st; omega), if_neg (by have := h.oth; omega), if_neg (by have := h.win; omega)]
theorem pads_f (ty : Int) : QFrmB.frame_pads.f ty = some (decide (ty = 0 ∨ ty = 1 ∨ ty = 5)) := by
  unfold QFrmB.frame_pads.f
  by_cases h0 : ty = 0
  · simp [h0]
  · by_cases h1 : ty = 1
    · simp [h1]
    · rw [if_neg h0, if_neg h1]
      congr 1
      rw [Bool.eq_iff_iff, beq_iff_eq, decide_eq_true_iff]
      omega
theorem ev_May (F : Fr) (h : MayOk F) : Ev (fun k => QFrmB.frame_May.f k F.ty F.fl F.st F.data F.pad F.code F.oth F.wgt F.al F.win F.sets) true := by
  unfold QFrmB.frame_May.f
  simp only [pads_f, Option.bind_some]
  have hp := h.pad
  by_cases ht : F.ty = 0 ∨ F.ty = 1 ∨ F.ty = 5
  · simp only [decide_eq_true ht, if_true]
    refine ev_m0 F h _ ?_
    by_cases h8 : Go.bits .and .u8 F.fl 8 = 0
    · rw [if_neg (fun hh => hh.2 h8)] at hp
      simp [h8, hp]
    · rw [if_pos ⟨ht, h8⟩] at hp
      simp [h8, hp.1]
  · rw [if_neg (fun hh => ht hh.1)] at hp
    simp only [decide_eq_false ht]
    exact ev_m0 F h false (by simp [hp])
end Go.Proofs.YtjjfkmniffbgkaaDoor

/- FrameBack's pure part: what is fixed. -/
namespace Go.Proofs.YtjjfkmniffbgkaaDoor
set_option linter.unusedVariables false
set_option linter.unusedSimpArgs false
open Go.RowKit Go.Proofs.YtjjfkmniffbgkaaDoorW.PrintWords Go.Proofs.YtjjfkmniffbgkaaDoorW.PrintLast Go.Proofs.YtjjfkmniffbgkaaDoorW.PrintMore Go.Proofs.YtjjfkmniffbgkaaDoor.QFrmA Go.Proofs.YtjjfkmniffbgkaaDoor.Given

abbrev pingF : Fr := ⟨6, 0, 0, List.replicate 8 0, -1, 0, 0, 0, false, 0, []⟩
theorem pingF_ok : MayOk pingF := by
  refine ⟨⟨.inr ⟨rfl, rfl⟩, .inr rfl, .inr rfl, .inr rfl, .inr rfl, .inl (by decide)⟩, by decide, by decide, by decide, ?_, fun _ => rfl, by decide, by decide, ?_⟩
  · rw [if_neg (by decide)]
  · show (payL pingF).length ≤ 16384
    rw [show (payL pingF).length = 8 from rfl]
    decide
theorem ev_fixed : Ev (fun k => QFrmB.louverlaw07_fixed.f k) true := by
  unfold QFrmB.louverlaw07_fixed.f
  simp only [show (8 ≤ 281474976710656) = True from by simp, if_true]
  refine Ev.bind (ev_Put pingF (by decide) (by decide) (by decide) (ev_May pingF pingF_ok) (by rw [show (payL pingF).length = 8 from rfl]; decide)) ?_
  have e : ((strOfNums (putL pingF)).toList == ([0, 0, 8, 6, 0, 0, 0, 0, 0, 0, 0, 0, 0, 0, 0, 0, 0] : List UInt8)) = true := by
    rw [show putL pingF = [0, 0, 8, 6, 0, 0, 0, 0, 0, 0, 0, 0, 0, 0, 0, 0, 0] from rfl]
    kernel_rfl
  rw [e]
  exact Ev.now true
end Go.Proofs.YtjjfkmniffbgkaaDoor

/- FrameBack's pure part: numbers that were read, as bytes. -/
namespace Go.Proofs.YtjjfkmniffbgkaaDoor
set_option linter.unusedVariables false
set_option linter.unusedSimpArgs false
open Go.RowKit Go.Proofs.YtjjfkmniffbgkaaDoorW.PrintWords Go.Proofs.YtjjfkmniffbgkaaDoorW.PrintLast Go.Proofs.YtjjfkmniffbgkaaDoorW.PrintMore Go.Proofs.YtjjfkmniffbgkaaDoor.QFrmA Go.Proofs.YtjjfkmniffbgkaaDoor.Given

theorem be4_val {l : List Int} (hb : Byte8 l) (h : l.length = 4) : be4 (valL l) = l := by
  match l, h with
  | [a, b, c, d], _ =>
    have ha := hb a (by simp)
    have hb' := hb b (by simp)
    have hc := hb c (by simp)
    have hd := hb d (by simp)
    unfold be4
    rw [shr24, shr16, shr8, shr0]
    simp only [valL, valFrom, List.cons.injEq, and_true]
    refine ⟨?_, ?_, ?_, ?_⟩ <;> omega
theorem be3_val {l : List Int} (hb : Byte8 l) (h : l.length = 3) : be3 (valL l) = l := by
  match l, h with
  | [a, b, c], _ =>
    have ha := hb a (by simp)
    have hb' := hb b (by simp)
    have hc := hb c (by simp)
    unfold be3
    rw [shr16, shr8, shr0]
    simp only [valL, valFrom, List.cons.injEq, and_true]
    refine ⟨?_, ?_, ?_⟩ <;> omega
theorem be2_val {l : List Int} (hb : Byte8 l) (h : l.length = 2) : be2 (valL l) = l := by
  match l, h with
  | [a, b], _ =>
    have ha := hb a (by simp)
    have hb' := hb b (by simp)
    unfold be2
    rw [shr8, shr0]
    simp only [valL, valFrom, List.cons.injEq, and_true]
    refine ⟨?_, ?_⟩ <;> omega
/-- The highest bit is none: the number is as it was read. -/
theorem low_val {l : List Int} (hb : Byte8 l) (h : l.length = 4) (h7 : l.getD 0 0 ≤ 127) : valL l % 2147483648 = valL l := by
  match l, h with
  | [a, b, c, d], _ =>
    have ha := hb a (by simp)
    have hb' := hb b (by simp)
    have hc := hb c (by simp)
    have hd := hb d (by simp)
    simp only [List.getD_cons_zero] at h7
    simp only [valL, valFrom]
    omega
end Go.Proofs.YtjjfkmniffbgkaaDoor

/- FrameBack's pure part: settings that were read, as bytes. -/
namespace Go.Proofs.YtjjfkmniffbgkaaDoor
set_option linter.unusedVariables false
set_option linter.unusedSimpArgs false
open Go.RowKit Go.Proofs.YtjjfkmniffbgkaaDoorW.PrintWords Go.Proofs.YtjjfkmniffbgkaaDoorW.PrintLast Go.Proofs.YtjjfkmniffbgkaaDoorW.PrintMore Go.Proofs.YtjjfkmniffbgkaaDoor.QFrmA Go.Proofs.YtjjfkmniffbgkaaDoor.Given

theorem parseS_len : ∀ (m : Nat) (l : List Int), (parseS m l).length = m
  | 0, _ => rfl
  | m + 1, l => by simp [parseS, parseS_len m (l.drop 6)]
theorem parseS_back : ∀ (m : Nat) (l : List Int), Byte8 l → l.length = 6 * m → (parseS m l).flatMap setL = l
  | 0, l, _, h => by rw [List.eq_nil_of_length_eq_zero (by omega : l.length = 0)]; rfl
  | m + 1, l, hb, h => by
    have ih := parseS_back m (l.drop 6) (fun x hx => hb x (List.mem_of_mem_drop hx)) (by rw [List.length_drop]; omega)
    have h2 : (l.take 2).length = 2 := by rw [List.length_take]; omega
    have h4 : ((l.take 6).drop 2).length = 4 := by rw [List.length_drop, List.length_take]; omega
    have hb2 : Byte8 (l.take 2) := fun x hx => hb x (List.mem_of_mem_take hx)
    have hb4 : Byte8 ((l.take 6).drop 2) := fun x hx => hb x (List.mem_of_mem_take (List.mem_of_mem_drop hx))
    have hv := valL_bound hb2
    rw [h2, show (256 : Int) ^ 2 = 65536 from rfl] at hv
    have e : setL ⟨valL (l.take 2), valL ((l.take 6).drop 2)⟩ = l.take 6 := by
      show be2 (valL (l.take 2) % 4294967296) ++ be4 (valL ((l.take 6).drop 2)) = l.take 6
      rw [Int.emod_eq_of_lt hv.1 (by omega), be2_val hb2 h2, be4_val hb4 h4]
      have := List.take_append_drop 2 (l.take 6)
      rw [List.take_take] at this
      exact this
    show setL ⟨valL (l.take 2), valL ((l.take 6).drop 2)⟩ ++ (parseS m (l.drop 6)).flatMap setL = l
    rw [e, ih, List.take_append_drop]
end Go.Proofs.YtjjfkmniffbgkaaDoor

/- FrameBack's pure part: a priority that was read, as bytes. -/
namespace Go.Proofs.YtjjfkmniffbgkaaDoor
set_option linter.unusedVariables false
set_option linter.unusedSimpArgs false
open Go.RowKit Go.Proofs.YtjjfkmniffbgkaaDoorW.PrintWords Go.Proofs.YtjjfkmniffbgkaaDoorW.PrintLast Go.Proofs.YtjjfkmniffbgkaaDoorW.PrintMore Go.Proofs.YtjjfkmniffbgkaaDoor.QFrmA Go.Proofs.YtjjfkmniffbgkaaDoor.Given

theorem top_or {v : Int} (h0 : 2147483648 ≤ v) (h1 : v < 4294967296) : Go.bits .or .u32 (v % 2147483648) 2147483648 = v := by
  obtain ⟨m, hm⟩ := Int.eq_ofNat_of_zero_le (show 0 ≤ v % 2147483648 by omega)
  have hm' : m < 2147483648 := by omega
  rw [hm, show (2147483648 : Int) = ((2147483648 : Nat) : Int) from rfl, u32_or_nat m 2147483648 (by omega) (by omega)]
  have h2 : m ||| 2147483648 = 2147483648 + m := by
    have := Nat.shiftLeft_add_eq_or_of_lt (show m < 2 ^ 31 by omega) 1
    rw [Nat.or_comm]
    rw [show (1 <<< 31 : Nat) = 2147483648 from rfl] at this
    exact this.symm
  rw [h2]
  omega
theorem lean_back {F : Fr} {l : List Int} (hb : Byte8 l) (h5 : 5 ≤ l.length) : leanL (leanF F l) = l.take 5 := by
  have h4 : (l.take 4).length = 4 := by rw [List.length_take]; omega
  have hb4 : Byte8 (l.take 4) := fun x hx => hb x (List.mem_of_mem_take hx)
  have hv := valL_bound hb4
  rw [h4, show (256 : Int) ^ 4 = 4294967296 from rfl] at hv
  have hx : (l.take 4) ++ [l.getD 4 0] = l.take 5 := by
    match l, h5 with
    | a :: b :: c :: d :: e :: r, _ => rfl
  have e : (if decide (2147483648 ≤ valL (l.take 4)) = true then Go.bits .or .u32 (valL (l.take 4) % 2147483648) 2147483648 else valL (l.take 4) % 2147483648) = valL (l.take 4) := by
    by_cases ha : 2147483648 ≤ valL (l.take 4)
    · rw [if_pos (decide_eq_true ha)]
      exact top_or ha hv.2
    · rw [if_neg (by simpa using ha)]
      omega
  show be4 (if decide (2147483648 ≤ valL (l.take 4)) = true then Go.bits .or .u32 (valL (l.take 4) % 2147483648) 2147483648 else valL (l.take 4) % 2147483648) ++ [l.getD 4 0] = l.take 5
  rw [e, be4_val hb4 h4, hx]
end Go.Proofs.YtjjfkmniffbgkaaDoor

/- FrameBack's pure part: what read answered is put as it stood (some types). -/
namespace Go.Proofs.YtjjfkmniffbgkaaDoor
set_option linter.unusedVariables false
set_option linter.unusedSimpArgs false
open Go.RowKit Go.Proofs.YtjjfkmniffbgkaaDoorW.PrintWords Go.Proofs.YtjjfkmniffbgkaaDoorW.PrintLast Go.Proofs.YtjjfkmniffbgkaaDoorW.PrintMore Go.Proofs.YtjjfkmniffbgkaaDoor.QFrmA Go.Proofs.YtjjfkmniffbgkaaDoor.Given

theorem tail_plain {F : Fr} (hl : leansB F.ty F.fl = false) (hp : F.pad ≤ 0) : tailL F = F.data := by
  unfold tailL
  have hm : (mx F.pad 0).toNat = 0 := by unfold mx; split <;> omega
  rw [hm, if_neg (by simp [hl])]
  simp
theorem tail_lean {F : Fr} (hl : leansB F.ty F.fl = true) (hp : F.pad ≤ 0) : tailL F = leanL F ++ F.data := by
  unfold tailL
  have hm : (mx F.pad 0).toNat = 0 := by unfold mx; split <;> omega
  rw [hm, if_pos hl]
  simp
end Go.Proofs.YtjjfkmniffbgkaaDoor

/- FrameBack's pure part: what read answered is put as it stood. -/
namespace Go.Proofs.YtjjfkmniffbgkaaDoor
set_option linter.unusedVariables false
set_option linter.unusedSimpArgs false
open Go.RowKit Go.Proofs.YtjjfkmniffbgkaaDoorW.PrintWords Go.Proofs.YtjjfkmniffbgkaaDoorW.PrintLast Go.Proofs.YtjjfkmniffbgkaaDoorW.PrintMore Go.Proofs.YtjjfkmniffbgkaaDoor.QFrmA Go.Proofs.YtjjfkmniffbgkaaDoor.Given

theorem notlean {ty fl : Int} (h2 : ty ≠ 2) (h1 : ty ≠ 1) : leansB ty fl = false := by
  unfold leansB
  rw [if_neg h2, if_neg h1]
theorem body_back (F F2 : Fr) (b : List Int) (hb : Byte8 b) (hp : F.pad ≤ 0) (hd : F.data = []) (hr : bodyR F b = .ok F2) (h7 : (F.ty = 5 ∨ F.ty = 7 ∨ F.ty = 8) → b.getD 0 0 ≤ 127) : midL F2 ++ tailL F2 = b := by
  unfold bodyR at hr
  by_cases h1 : F.ty = 2 ∧ b.length ≠ 5
  · rw [if_pos h1] at hr; cases hr
  rw [if_neg h1] at hr
  by_cases h2 : shortR F b
  · rw [if_pos h2] at hr; cases hr
  rw [if_neg h2] at hr
  have h4 : ¬ b.length < leastR F.ty := fun h => h2 (.inr (.inl h))
  have h5 : ¬ (0 < leastR F.ty ∧ F.ty ≠ 5 ∧ F.ty ≠ 7 ∧ leastR F.ty < b.length) := fun h => h2 (.inr (.inr h))
  by_cases t4 : F.ty = 4
  · rw [if_pos t4] at hr
    unfold setsR at hr
    by_cases h6 : b.length % 6 ≠ 0 ∨ (Go.bits .and .u8 F.fl 1 ≠ 0 ∧ 0 < b.length)
    · rw [if_pos h6] at hr; cases hr
    rw [if_neg h6] at hr
    injection hr with hr
    subst hr
    rw [tail_plain (F := { F with sets := parseS (b.length / 6) b }) (notlean (by simp [t4]) (by simp [t4])) hp]
    simp only [midL, t4, hd]
    simpa using parseS_back (b.length / 6) b hb (by omega)
  rw [if_neg t4] at hr
  by_cases t3 : F.ty = 3
  · rw [if_pos t3] at hr
    injection hr with hr
    subst hr
    have hL : leastR F.ty = 4 := by rw [t3]; rfl
    rw [tail_plain (F := { F with code := valL b }) (notlean (by simp [t3]) (by simp [t3])) hp]
    simp only [midL, t3, hd]
    simpa using be4_val hb (by omega)
  rw [if_neg t3] at hr
  by_cases t8 : F.ty = 8
  · rw [if_pos t8] at hr
    have hL : leastR F.ty = 4 := by rw [t8]; rfl
    by_cases hw : 0 < valL b % 2147483648
    · rw [if_pos hw] at hr
      injection hr with hr
      subst hr
      rw [tail_plain (F := { F with win := valL b % 2147483648 }) (notlean (by simp [t8]) (by simp [t8])) hp, low_val hb (by omega) (h7 (by omega))]
      simp only [midL, t8, hd]
      simpa using be4_val hb (by omega)
    · rw [if_neg hw] at hr; cases hr
  rw [if_neg t8] at hr
  have hb4 : Byte8 (b.take 4) := fun x hx => hb x (List.mem_of_mem_take hx)
  have hg4 : (b.take 4).getD 0 0 = b.getD 0 0 := by cases b <;> rfl
  by_cases t7 : F.ty = 7
  · rw [if_pos t7] at hr
    injection hr with hr
    subst hr
    have hL : leastR F.ty = 8 := by rw [t7]; rfl
    have hl4 : (b.take 4).length = 4 := by rw [List.length_take]; omega
    have hlm : ((b.drop 4).take 4).length = 4 := by rw [List.length_take, List.length_drop]; omega
    rw [tail_plain (F := { F with code := valL ((b.drop 4).take 4), oth := valL (b.take 4) % 2147483648, data := b.drop 8 }) (notlean (by simp [t7]) (by simp [t7])) hp, low_val hb4 hl4 (by rw [hg4]; exact h7 (by omega))]
    simp only [midL, t7]
    rw [if_neg (by decide), if_neg (by decide), if_pos trivial, be4_val hb4 hl4, be4_val (fun x hx => hb x (List.mem_of_mem_drop (List.mem_of_mem_take hx))) hlm, List.append_assoc]
    have := List.take_append_drop 4 (b.drop 4)
    rw [List.drop_drop] at this
    rw [this, List.take_append_drop]
  rw [if_neg t7] at hr
  by_cases t5 : F.ty = 5
  · rw [if_pos t5] at hr
    injection hr with hr
    subst hr
    have hL : leastR F.ty = 4 := by rw [t5]; rfl
    have hl4 : (b.take 4).length = 4 := by rw [List.length_take]; omega
    rw [tail_plain (F := { F with oth := valL (b.take 4) % 2147483648, data := b.drop 4 }) (notlean (by simp [t5]) (by simp [t5])) hp, low_val hb4 hl4 (by rw [hg4]; exact h7 (by omega))]
    simp only [midL, t5]
    rw [if_neg (by decide), if_neg (by decide), if_neg (by decide), if_pos trivial, be4_val hb4 hl4, List.take_append_drop]
  rw [if_neg t5] at hr
  by_cases hl : leansB F.ty F.fl = true
  · rw [if_pos hl] at hr
    injection hr with hr
    subst hr
    have hlen : 5 ≤ b.length := by
      by_cases t2 : F.ty = 2
      · have : b.length = 5 := Classical.not_not.1 (fun h => h1 ⟨t2, h⟩)
        omega
      · exact Nat.le_of_not_lt fun h => h2 (.inl ⟨hl, h⟩)
    rw [tail_lean (F := { leanF F b with data := b.drop 5 }) hl hp]
    have e : leanL ({ leanF F b with data := b.drop 5 } : Fr) = b.take 5 := lean_back (F := F) hb hlen
    rw [e]
    have hm : midL ({ leanF F b with data := b.drop 5 } : Fr) = [] := by
      unfold midL
      exact (if_neg t3).trans ((if_neg t4).trans ((if_neg t7).trans ((if_neg t5).trans (if_neg t8))))
    rw [hm, List.nil_append, List.take_append_drop]
  · rw [if_neg hl] at hr
    injection hr with hr
    subst hr
    rw [tail_plain (F := { F with data := b }) (by simpa using hl) hp]
    simp only [midL]
    rw [if_neg t3, if_neg t4, if_neg t7, if_neg t5, if_neg t8, List.nil_append]
end Go.Proofs.YtjjfkmniffbgkaaDoor

/- FrameBack's pure part: a payload that was read is put as it stood. -/
namespace Go.Proofs.YtjjfkmniffbgkaaDoor
set_option linter.unusedVariables false
set_option linter.unusedSimpArgs false
open Go.RowKit Go.Proofs.YtjjfkmniffbgkaaDoorW.PrintWords Go.Proofs.YtjjfkmniffbgkaaDoorW.PrintLast Go.Proofs.YtjjfkmniffbgkaaDoorW.PrintMore Go.Proofs.YtjjfkmniffbgkaaDoor.QFrmA Go.Proofs.YtjjfkmniffbgkaaDoor.Given

theorem body_pad {F F2 : Fr} {b : List Int} (hr : bodyR F b = .ok F2) : F2.pad = F.pad ∧ F2.ty = F.ty ∧ F2.fl = F.fl ∧ F2.st = F.st := by
  unfold bodyR setsR at hr
  repeat' (first | (split at hr) | (injection hr with hr; subst hr; exact ⟨rfl, rfl, rfl, rfl⟩) | cases hr)
theorem read_back (F F2 : Fr) (l : List Int) (hb : Byte8 l) (hp : F.pad = -1) (hd : F.data = []) (hr : readR F l = .ok F2) (h0 : F2.pad ≤ 0)
    (h7 : (F.ty = 5 ∨ F.ty = 7 ∨ F.ty = 8) → l.getD (if 0 ≤ F2.pad then 1 else 0) 0 ≤ 127) : payL F2 = l := by
  unfold readR at hr
  unfold unpadR at hr
  by_cases hq : (F.ty = 0 ∨ F.ty = 1 ∨ F.ty = 5) ∧ Go.bits .and .u8 F.fl 8 ≠ 0
  · rw [if_pos hq] at hr
    by_cases hl0 : l.length = 0
    · rw [if_pos hl0] at hr; cases hr
    rw [if_neg hl0] at hr
    by_cases hx : (l.length : Int) - 1 < l.getD 0 0
    · rw [if_pos hx] at hr; cases hr
    rw [if_neg hx] at hr
    simp only at hr
    have hpd : F2.pad = l.getD 0 0 := (body_pad hr).1
    match l, hl0 with
    | x :: r, _ =>
      have hx0 := hb x (by simp)
      have e0 : (x :: r).getD 0 0 = x := rfl
      rw [e0] at hpd hr
      have ex : x = 0 := by omega
      subst ex
      have er : (List.drop 1 (0 :: r)).take ((0 :: r : List Int).length - 1 - (0 : Int).toNat) = r := by simp
      rw [er] at hr
      have hbk := body_back { F with pad := 0 } F2 r (fun x hx => hb x (by simp [hx])) (by simp) hd hr (fun h => by
        have := h7 h
        rw [if_pos (by omega)] at this
        simpa using this)
      unfold payL
      rw [if_pos (by omega), hpd, hbk]
      rfl
  · rw [if_neg hq] at hr
    simp only at hr
    have hpd : F2.pad = F.pad := (body_pad hr).1
    rw [List.drop_zero, List.take_length] at hr
    have hbk := body_back { F with pad := F.pad } F2 l hb (by simp [hp]) hd hr (fun h => by
      have := h7 h
      rwa [if_neg (by omega)] at this)
    unfold payL
    rw [if_neg (by omega), hbk]
    rfl
end Go.Proofs.YtjjfkmniffbgkaaDoor

/- FrameBack's pure part: what read answered may be. -/
namespace Go.Proofs.YtjjfkmniffbgkaaDoor
set_option linter.unusedVariables false
set_option linter.unusedSimpArgs false
open Go.RowKit Go.Proofs.YtjjfkmniffbgkaaDoorW.PrintWords Go.Proofs.YtjjfkmniffbgkaaDoorW.PrintLast Go.Proofs.YtjjfkmniffbgkaaDoorW.PrintMore Go.Proofs.YtjjfkmniffbgkaaDoor.QFrmA Go.Proofs.YtjjfkmniffbgkaaDoor.Given

/-- A frame of which the head alone is known. -/
structure HeadOnly (F : Fr) : Prop where
  code : F.code = 0
  oth : F.oth = 0
  wgt : F.wgt = 0
  al : F.al = false
  win : F.win = 0
  sets : F.sets = []
  data : F.data = []
theorem body_fields {F F2 : Fr} {b : List Int} (h : HeadOnly F) (hr : bodyR F b = .ok F2) : FieldsOk F2 := by
  unfold bodyR at hr
  by_cases h1 : F.ty = 2 ∧ b.length ≠ 5
  · rw [if_pos h1] at hr; cases hr
  rw [if_neg h1] at hr
  by_cases h2 : shortR F b
  · rw [if_pos h2] at hr; cases hr
  rw [if_neg h2] at hr
  by_cases t4 : F.ty = 4
  · rw [if_pos t4] at hr
    unfold setsR at hr
    split at hr
    · cases hr
    · injection hr with hr
      subst hr
      exact ⟨.inr ⟨h.wgt, h.al⟩, .inr h.oth, .inr h.code, .inr h.win, .inl t4, .inr h.data⟩
  rw [if_neg t4] at hr
  by_cases t3 : F.ty = 3
  · rw [if_pos t3] at hr
    injection hr with hr
    subst hr
    exact ⟨.inr ⟨h.wgt, h.al⟩, .inr h.oth, .inl (.inl t3), .inr h.win, .inr h.sets, .inr h.data⟩
  rw [if_neg t3] at hr
  by_cases t8 : F.ty = 8
  · rw [if_pos t8] at hr
    split at hr
    · injection hr with hr
      subst hr
      exact ⟨.inr ⟨h.wgt, h.al⟩, .inr h.oth, .inr h.code, .inl t8, .inr h.sets, .inr h.data⟩
    · cases hr
  rw [if_neg t8] at hr
  by_cases t7 : F.ty = 7
  · rw [if_pos t7] at hr
    injection hr with hr
    subst hr
    exact ⟨.inr ⟨h.wgt, h.al⟩, .inl (.inr (.inr t7)), .inl (.inr t7), .inr h.win, .inr h.sets, .inl ⟨by show F.ty ≠ 2; omega, t3, t4, t8⟩⟩
  rw [if_neg t7] at hr
  by_cases t5 : F.ty = 5
  · rw [if_pos t5] at hr
    injection hr with hr
    subst hr
    exact ⟨.inr ⟨h.wgt, h.al⟩, .inl (.inr (.inl t5)), .inr h.code, .inr h.win, .inr h.sets, .inl ⟨by show F.ty ≠ 2; omega, t3, t4, t8⟩⟩
  rw [if_neg t5] at hr
  by_cases hl : leansB F.ty F.fl = true
  · rw [if_pos hl] at hr
    injection hr with hr
    subst hr
    refine ⟨.inl hl, .inl (.inl hl), .inr h.code, .inr h.win, .inr h.sets, ?_⟩
    by_cases t2 : F.ty = 2
    · right
      have : b.length = 5 := Classical.not_not.1 (fun hh => h1 ⟨t2, hh⟩)
      exact List.drop_eq_nil_of_le (by omega)
    · exact .inl ⟨t2, t3, t4, t8⟩
  · rw [if_neg hl] at hr
    injection hr with hr
    subst hr
    refine ⟨.inr ⟨h.wgt, h.al⟩, .inr h.oth, .inr h.code, .inr h.win, .inr h.sets, .inl ⟨?_, t3, t4, t8⟩⟩
    intro t2
    apply hl
    unfold leansB
    exact if_pos t2
end Go.Proofs.YtjjfkmniffbgkaaDoor

/- FrameBack's pure part: what read answered may be: bounds. -/
namespace Go.Proofs.YtjjfkmniffbgkaaDoor
set_option linter.unusedVariables false
set_option linter.unusedSimpArgs false
open Go.RowKit Go.Proofs.YtjjfkmniffbgkaaDoorW.PrintWords Go.Proofs.YtjjfkmniffbgkaaDoorW.PrintLast Go.Proofs.YtjjfkmniffbgkaaDoorW.PrintMore Go.Proofs.YtjjfkmniffbgkaaDoor.QFrmA Go.Proofs.YtjjfkmniffbgkaaDoor.Given

structure Bnd (F : Fr) (n : Nat) : Prop where
  oth : F.oth ≤ 2147483647
  win : F.win ≤ 2147483647
  data : F.data.length ≤ n
  sets : F.sets.length ≤ n / 6
  ping : F.ty = 6 → F.data.length = 8
theorem body_bnd {F F2 : Fr} {b : List Int} (h : HeadOnly F) (hr : bodyR F b = .ok F2) : Bnd F2 b.length := by
  have ho : F.oth ≤ 2147483647 := by rw [h.oth]; omega
  have hw : F.win ≤ 2147483647 := by rw [h.win]; omega
  have hd : F.data.length ≤ b.length := by rw [h.data]; exact Nat.zero_le _
  have hs : F.sets.length ≤ b.length / 6 := by rw [h.sets]; exact Nat.zero_le _
  unfold bodyR at hr
  by_cases h1 : F.ty = 2 ∧ b.length ≠ 5
  · rw [if_pos h1] at hr; cases hr
  rw [if_neg h1] at hr
  by_cases h2 : shortR F b
  · rw [if_pos h2] at hr; cases hr
  rw [if_neg h2] at hr
  have h4 : ¬ b.length < leastR F.ty := fun h => h2 (.inr (.inl h))
  have h5 : ¬ (0 < leastR F.ty ∧ F.ty ≠ 5 ∧ F.ty ≠ 7 ∧ leastR F.ty < b.length) := fun h => h2 (.inr (.inr h))
  by_cases t4 : F.ty = 4
  · rw [if_pos t4] at hr
    unfold setsR at hr
    split at hr
    · cases hr
    · injection hr with hr
      subst hr
      exact ⟨ho, hw, hd, by rw [parseS_len]; exact Nat.le_refl _, fun t6 => absurd (t4.symm.trans t6) (by decide)⟩
  rw [if_neg t4] at hr
  by_cases t3 : F.ty = 3
  · rw [if_pos t3] at hr
    injection hr with hr
    subst hr
    exact ⟨ho, hw, hd, hs, fun t6 => absurd (t3.symm.trans t6) (by decide)⟩
  rw [if_neg t3] at hr
  by_cases t8 : F.ty = 8
  · rw [if_pos t8] at hr
    split at hr
    · injection hr with hr
      subst hr
      exact ⟨ho, by show valL b % 2147483648 ≤ 2147483647; omega, hd, hs, fun t6 => absurd (t8.symm.trans t6) (by decide)⟩
    · cases hr
  rw [if_neg t8] at hr
  by_cases t7 : F.ty = 7
  · rw [if_pos t7] at hr
    injection hr with hr
    subst hr
    exact ⟨by show valL (b.take 4) % 2147483648 ≤ 2147483647; omega, hw, by show (b.drop 8).length ≤ _; rw [List.length_drop]; omega, hs, fun t6 => absurd (t7.symm.trans t6) (by decide)⟩
  rw [if_neg t7] at hr
  by_cases t5 : F.ty = 5
  · rw [if_pos t5] at hr
    injection hr with hr
    subst hr
    exact ⟨by show valL (b.take 4) % 2147483648 ≤ 2147483647; omega, hw, by show (b.drop 4).length ≤ _; rw [List.length_drop]; omega, hs, fun t6 => absurd (t5.symm.trans t6) (by decide)⟩
  rw [if_neg t5] at hr
  by_cases hl : leansB F.ty F.fl = true
  · rw [if_pos hl] at hr
    injection hr with hr
    subst hr
    refine ⟨by show valL (b.take 4) % 2147483648 ≤ 2147483647; omega, hw, by show (b.drop 5).length ≤ _; rw [List.length_drop]; omega, hs, fun t6 => ?_⟩
    have t6' : F.ty = 6 := t6
    rw [t6'] at hl
    cases hl
  · rw [if_neg hl] at hr
    injection hr with hr
    subst hr
    refine ⟨ho, hw, Nat.le_refl _, hs, fun t6 => ?_⟩
    have hL : leastR F.ty = 8 := by rw [show F.ty = 6 from t6]; rfl
    have t6' : F.ty = 6 := t6
    show b.length = 8
    omega
end Go.Proofs.YtjjfkmniffbgkaaDoor

/- FrameBack's pure part: what read answered may be, whole. -/
namespace Go.Proofs.YtjjfkmniffbgkaaDoor
set_option linter.unusedVariables false
set_option linter.unusedSimpArgs false
open Go.RowKit Go.Proofs.YtjjfkmniffbgkaaDoorW.PrintWords Go.Proofs.YtjjfkmniffbgkaaDoorW.PrintLast Go.Proofs.YtjjfkmniffbgkaaDoorW.PrintMore Go.Proofs.YtjjfkmniffbgkaaDoor.QFrmA Go.Proofs.YtjjfkmniffbgkaaDoor.Given

theorem HeadOnly.pad {F : Fr} (h : HeadOnly F) (p : Int) : HeadOnly { F with pad := p } := ⟨h.code, h.oth, h.wgt, h.al, h.win, h.sets, h.data⟩
theorem read_may (F F2 : Fr) (l : List Int) (hb : Byte8 l) (hp : F.pad = -1) (h : HeadOnly F) (hst : F.st ≤ 2147483647) (hl : l.length ≤ 16384) (hr : readR F l = .ok F2) (hpay : payL F2 = l) : MayOk F2 := by
  have key : ∃ (p : Int) (b : List Int), b.length ≤ l.length ∧ bodyR { F with pad := p } b = .ok F2 ∧ (if (F.ty = 0 ∨ F.ty = 1 ∨ F.ty = 5) ∧ Go.bits .and .u8 F.fl 8 ≠ 0 then 0 ≤ p ∧ p ≤ 255 else p = -1) := by
    unfold readR unpadR at hr
    by_cases hq : (F.ty = 0 ∨ F.ty = 1 ∨ F.ty = 5) ∧ Go.bits .and .u8 F.fl 8 ≠ 0
    · rw [if_pos hq] at hr
      by_cases hl0 : l.length = 0
      · rw [if_pos hl0] at hr; cases hr
      rw [if_neg hl0] at hr
      by_cases hx : (l.length : Int) - 1 < l.getD 0 0
      · rw [if_pos hx] at hr; cases hr
      rw [if_neg hx] at hr
      simp only at hr
      refine ⟨_, _, ?_, hr, ?_⟩
      · rw [List.length_take, List.length_drop]; omega
      · rw [if_pos hq]
        refine hb _ ?_
        rw [List.getD_eq_getElem?_getD, List.getElem?_eq_getElem (by omega)]
        exact List.getElem_mem _
    · rw [if_neg hq] at hr
      simp only at hr
      refine ⟨_, _, ?_, hr, ?_⟩
      · rw [List.length_take]; exact Nat.min_le_left _ _
      · rw [if_neg hq]
        exact hp
  obtain ⟨p, b, hbl, hbr, hpp⟩ := key
  have hB := body_bnd (h.pad p) hbr
  obtain ⟨e1, e2, e3, e4⟩ := body_pad hbr
  refine ⟨body_fields (h.pad p) hbr, by rw [e4]; exact hst, hB.oth, hB.win, ?_, hB.ping, Nat.le_trans hB.data (by omega), Nat.le_trans hB.sets (by omega), by rw [hpay]; exact hl⟩
  rw [e1, e2, e3]
  exact hpp
end Go.Proofs.YtjjfkmniffbgkaaDoor

/- FrameBack's pure part: a frame is put as it stood. -/
namespace Go.Proofs.YtjjfkmniffbgkaaDoor
set_option linter.unusedVariables false
set_option linter.unusedSimpArgs false
open Go.RowKit Go.Proofs.YtjjfkmniffbgkaaDoorW.PrintWords Go.Proofs.YtjjfkmniffbgkaaDoorW.PrintLast Go.Proofs.YtjjfkmniffbgkaaDoorW.PrintMore Go.Proofs.YtjjfkmniffbgkaaDoor.QFrmA Go.Proofs.YtjjfkmniffbgkaaDoor.Given

theorem body_bad {F : Fr} {b : List Int} {s c : Int} (hr : bodyR F b = .bad s c) : s ≠ 0 := by
  unfold bodyR setsR at hr
  repeat' (first | (split at hr) | (injection hr with h1 h2; omega) | cases hr)
theorem read_bad {F : Fr} {l : List Int} {s c : Int} (hr : readR F l = .bad s c) : s ≠ 0 := by
  unfold readR at hr
  split at hr
  · injection hr with h1 h2; omega
  · exact body_bad hr
/-- What is known of a frame that was got. -/
theorem get_good {l : List Int} (h0 : (getFr l).2.1 = 0) : 9 ≤ l.length ∧ headN l = (l.length : Int) ∧ l.length ≤ 16393 ∧ readR ⟨l.getD 3 0, l.getD 4 0, valL ((l.take 9).drop 5) % 2147483648, [], -1, 0, 0, 0, false, 0, []⟩ (l.drop 9) = .ok (getFr l).1 := by
  unfold getFr at h0 ⊢
  by_cases h1 : ¬ (9 ≤ l.length ∧ headN l = (l.length : Int))
  · rw [if_pos h1] at h0; cases h0
  rw [if_neg h1] at h0 ⊢
  have h1' := Classical.not_not.1 h1
  by_cases h2 : 16393 < l.length
  · rw [if_pos h2] at h0; cases h0
  rw [if_neg h2] at h0 ⊢
  by_cases h3 : stBad (l.getD 3 0) (valL ((l.take 9).drop 5) % 2147483648) = true
  · rw [if_pos h3] at h0; cases h0
  rw [if_neg h3] at h0 ⊢
  cases hr : readR ⟨l.getD 3 0, l.getD 4 0, valL ((l.take 9).drop 5) % 2147483648, [], -1, 0, 0, 0, false, 0, []⟩ (l.drop 9) with
  | bad s c =>
    rw [hr] at h0
    exact absurd h0 (read_bad hr)
  | ok F => exact ⟨h1'.1, h1'.2, by omega, rfl⟩
theorem put_back {l : List Int} (hb : Byte8 l) (h0 : (getFr l).2.1 = 0) (hp : (getFr l).1.pad ≤ 0) (h5 : l.getD 5 0 ≤ 127)
    (h7 : ((getFr l).1.ty = 5 ∨ (getFr l).1.ty = 7 ∨ (getFr l).1.ty = 8) → l.getD (9 + (if 0 ≤ (getFr l).1.pad then 1 else 0)) 0 ≤ 127) :
    putL (getFr l).1 = l ∧ MayOk (getFr l).1 ∧ (payL (getFr l).1).length ≤ 16384 := by
  obtain ⟨h9, hn, hl, hr⟩ := get_good h0
  generalize (getFr l).1 = F2 at hp h7 hr ⊢
  have hb9 : Byte8 (l.drop 9) := fun x hx => hb x (List.mem_of_mem_drop hx)
  have hb3 : Byte8 (l.take 3) := fun x hx => hb x (List.mem_of_mem_take hx)
  have hb5 : Byte8 ((l.take 9).drop 5) := fun x hx => hb x (List.mem_of_mem_take (List.mem_of_mem_drop hx))
  have hl3 : (l.take 3).length = 3 := by rw [List.length_take]; omega
  have hl5 : ((l.take 9).drop 5).length = 4 := by rw [List.length_drop, List.length_take]; omega
  have hg5 : ((l.take 9).drop 5).getD 0 0 = l.getD 5 0 := by
    rw [List.getD_eq_getElem?_getD, List.getD_eq_getElem?_getD, List.getElem?_drop, List.getElem?_take_of_lt (by omega)]
  have hst : valL ((l.take 9).drop 5) % 2147483648 = valL ((l.take 9).drop 5) := low_val hb5 hl5 (by rw [hg5]; exact h5)
  have hgd : ∀ i, (l.drop 9).getD i 0 = l.getD (9 + i) 0 := fun i => by
    rw [List.getD_eq_getElem?_getD, List.getD_eq_getElem?_getD, List.getElem?_drop]
  obtain ⟨eb, hty, hfl, hst2⟩ : True ∧ F2.ty = l.getD 3 0 ∧ F2.fl = l.getD 4 0 ∧ F2.st = valL ((l.take 9).drop 5) % 2147483648 := by
    have hr2 := hr
    unfold readR at hr2
    split at hr2
    · cases hr2
    · obtain ⟨_, a, b, c⟩ := body_pad hr2
      exact ⟨trivial, a, b, c⟩
  have hpay := read_back _ F2 (l.drop 9) hb9 rfl rfl hr hp (fun h => by
    rw [hgd]
    refine h7 ?_
    rw [hty]
    exact h)
  have hm := read_may _ F2 (l.drop 9) hb9 rfl ⟨rfl, rfl, rfl, rfl, rfl, rfl, rfl⟩ (by show valL ((l.take 9).drop 5) % 2147483648 ≤ 2147483647; omega) (by rw [List.length_drop]; omega) hr hpay
  refine ⟨?_, hm, hm.pay⟩
  have hv : valL (l.take 3) = ((l.drop 9).length : Int) := by
    unfold headN at hn
    rw [if_neg (by omega)] at hn
    rw [List.length_drop]
    omega
  unfold putL
  rw [hpay, hty, hfl, hst2, hst, be4_val hb5 hl5, ← hv]
  have hv2 := valL_bound hb3
  rw [hl3, show (256 : Int) ^ 3 = 16777216 from rfl] at hv2
  rw [Int.emod_eq_of_lt hv2.1 (by omega), be3_val hb3 hl3]
  have e1 : l.take 3 ++ [l.getD 3 0, l.getD 4 0] = l.take 5 := by
    match l, h9 with
    | a :: b :: c :: d :: e :: r, _ => rfl
  have e2 : l.take 5 ++ (l.take 9).drop 5 = l.take 9 := by
    have := List.take_append_drop 5 (l.take 9)
    rw [List.take_take] at this
    exact this
  rw [e1, e2, List.take_append_drop]
end Go.Proofs.YtjjfkmniffbgkaaDoor

/- FrameBack: the printed law's pure statement; its walk. -/
namespace Go.Proofs.YtjjfkmniffbgkaaDoor
set_option linter.unusedVariables false
set_option linter.unusedSimpArgs false
open Go.RowKit Go.Proofs.YtjjfkmniffbgkaaDoorW.PrintWords Go.Proofs.YtjjfkmniffbgkaaDoorW.PrintLast Go.Proofs.YtjjfkmniffbgkaaDoorW.PrintMore Go.Proofs.YtjjfkmniffbgkaaDoor.QFrmA Go.Proofs.YtjjfkmniffbgkaaDoor.Given

theorem body_len {F F2 : Fr} {b : List Int} (hr : bodyR F b = .ok F2) (h : F.ty = 5 ∨ F.ty = 7 ∨ F.ty = 8) : 4 ≤ b.length := by
  unfold bodyR at hr
  rw [if_neg (by omega)] at hr
  by_cases hs : shortR F b
  · rw [if_pos hs] at hr; cases hr
  · unfold shortR leastR at hs
    rcases h with h | h | h
    all_goals
      simp [h] at hs
      omega
theorem read_len {F F2 : Fr} {l : List Int} (hr : readR F l = .ok F2) (h : F.ty = 5 ∨ F.ty = 7 ∨ F.ty = 8) : (if 0 ≤ F2.pad then 1 else 0) < l.length := by
  unfold readR unpadR at hr
  by_cases hq : (F.ty = 0 ∨ F.ty = 1 ∨ F.ty = 5) ∧ Go.bits .and .u8 F.fl 8 ≠ 0
  · rw [if_pos hq] at hr
    by_cases hl0 : l.length = 0
    · rw [if_pos hl0] at hr; cases hr
    rw [if_neg hl0] at hr
    by_cases hx : (l.length : Int) - 1 < l.getD 0 0
    · rw [if_pos hx] at hr; cases hr
    rw [if_neg hx] at hr
    simp only at hr
    have hb := body_len hr h
    rw [List.length_take, List.length_drop] at hb
    split <;> omega
  · rw [if_neg hq] at hr
    simp only at hr
    have hb := body_len hr h
    rw [List.length_take, List.length_drop] at hb
    split <;> omega
theorem read_pad {F F2 : Fr} {l : List Int} (hb : Byte8 l) (hr : readR F l = .ok F2) (hp : F.pad = -1) : -1 ≤ F2.pad := by
  unfold readR unpadR at hr
  by_cases hq : (F.ty = 0 ∨ F.ty = 1 ∨ F.ty = 5) ∧ Go.bits .and .u8 F.fl 8 ≠ 0
  · rw [if_pos hq] at hr
    by_cases hl0 : l.length = 0
    · rw [if_pos hl0] at hr; cases hr
    rw [if_neg hl0] at hr
    by_cases hx : (l.length : Int) - 1 < l.getD 0 0
    · rw [if_pos hx] at hr; cases hr
    rw [if_neg hx] at hr
    have hpd : F2.pad = l.getD 0 0 := (body_pad hr).1
    match l, hl0 with
    | x :: r, _ =>
      have hx0 := hb x (by simp)
      have e0 : (x :: r).getD 0 0 = x := rfl
      rw [e0] at hpd
      omega
  · rw [if_neg hq] at hr
    have hpd : F2.pad = F.pad := (body_pad hr).1
    omega

theorem ev_b1 (l : List Int) (F : Fr) (x : Bool) (h : x = false → putL F = l ∧ MayOk F ∧ (payL F).length ≤ 16384) :
    Ev (fun k => QFrmB.louverlaw07_FrameBack.j1 k l x F.ty F.fl F.st F.data F.pad F.code F.oth F.wgt F.al F.win F.sets) true := by
  cases x with
  | true =>
    refine Ev.step (f := fun k => (QFrmB.louverlaw07_fixed.f k).bind fun t => some t) (fun k => ?_) (Ev.bind ev_fixed (Ev.now true))
    simp only [QFrmB.louverlaw07_FrameBack.j1, if_true]
  | false =>
    obtain ⟨e, hm, hp⟩ := h rfl
    refine Ev.step (f := fun k => (QFrmB.frame_Put.f k F.ty F.fl F.st F.data F.pad F.code F.oth F.wgt F.al F.win F.sets).bind fun t => (QFrmB.louverlaw07_fixed.f k).bind fun u => if u = true then (QFrmB.frame_May.f k F.ty F.fl F.st F.data F.pad F.code F.oth F.wgt F.al F.win F.sets).bind fun v => if v = true then some ((strOfNums t).toList == (strOfNums l).toList) else some false else some false) (fun k => ?_) ?_
    · simp only [QFrmB.louverlaw07_FrameBack.j1, Bool.false_eq_true, if_false]
    · refine Ev.bind (ev_Put F (by have := hm.data; omega) hm.pad255 (by have := hm.sets; omega) (ev_May F hm) (by omega)) ?_
      refine Ev.bind ev_fixed ?_
      simp only [if_true]
      refine Ev.bind (ev_May F hm) ?_
      simp only [if_true, e]
      simpa using Ev.now true
theorem ev_b0 (l : List Int) (F : Fr) (x : Bool) (hl : l.length ≤ 20000)
    (h : x = false → -1 ≤ F.pad ∧ F.pad ≤ 0 ∧ ((F.ty = 5 ∨ F.ty = 7 ∨ F.ty = 8) → 9 + (if 0 ≤ F.pad then 1 else 0) < l.length) ∧ (((F.ty = 5 ∨ F.ty = 7 ∨ F.ty = 8) → l.getD (9 + (if 0 ≤ F.pad then 1 else 0)) 0 ≤ 127) → putL F = l ∧ MayOk F ∧ (payL F).length ≤ 16384)) :
    Ev (fun k => QFrmB.louverlaw07_FrameBack.j0 k l x F.ty F.fl F.st F.data F.pad F.code F.oth F.wgt F.al F.win F.sets) true := by
  cases x with
  | true =>
    refine Ev.step (f := fun k => (QFrmB.louverlaw07_fixed.f k).bind fun t => some t) (fun k => ?_) (Ev.bind ev_fixed (Ev.now true))
    simp only [QFrmB.louverlaw07_FrameBack.j0, if_true]
  | false =>
    obtain ⟨p0, p1, h1, h2⟩ := h rfl
    have hi : wrap64 (wrap64 (9 + mx F.pad (-1)) + 1) = ((9 + (if 0 ≤ F.pad then 1 else 0) : Nat) : Int) := by
      have hm : mx F.pad (-1) = if 0 ≤ F.pad then 0 else -1 := by unfold mx; split <;> split <;> omega
      rw [hm]
      split <;> rw [wrap_okF (x := 9 + _) (by omega) (by omega), wrap_okF (by omega) (by omega)] <;> omega
    by_cases ht : F.ty = 5 ∨ F.ty = 7 ∨ F.ty = 8
    · have hlt := h1 ht
      have hrd : rd l ((9 + (if 0 ≤ F.pad then 1 else 0) : Nat) : Int) = l.getD (9 + (if 0 ≤ F.pad then 1 else 0)) 0 := by
        unfold rd
        rw [Int.toNat_natCast]
      refine Ev.step (f := fun k => QFrmB.louverlaw07_FrameBack.j1 k l (decide (l.getD (9 + (if 0 ≤ F.pad then 1 else 0)) 0 > 127)) F.ty F.fl F.st F.data F.pad F.code F.oth F.wgt F.al F.win F.sets) (fun k => ?_) ?_
      · simp only [QFrmB.louverlaw07_FrameBack.j0, hi, hrd, Bool.false_eq_true, if_false]
        have a1 : (0 : Int) ≤ ((9 + (if 0 ≤ F.pad then 1 else 0) : Nat) : Int) := by omega
        have a2 : ((9 + (if 0 ≤ F.pad then 1 else 0) : Nat) : Int) < (l.length : Int) := by omega
        simp only [a1, a2, if_true]
        by_cases t5 : F.ty = 5
        · simp only [t5, if_true]
        · by_cases t7 : F.ty = 7
          · rw [if_neg t5, if_pos t7]
          · have t8 : F.ty = 8 := by omega
            rw [if_neg t5, if_neg t7, if_pos t8]
      · refine ev_b1 l F _ fun hd => h2 fun _ => ?_
        have := of_decide_eq_false hd
        omega
    · refine Ev.step (f := fun k => QFrmB.louverlaw07_FrameBack.j1 k l false F.ty F.fl F.st F.data F.pad F.code F.oth F.wgt F.al F.win F.sets) (fun k => ?_) ?_
      · simp only [QFrmB.louverlaw07_FrameBack.j0, Bool.false_eq_true, if_false]
        rw [if_neg (by omega), if_neg (by omega), if_neg (by omega)]
      · exact ev_b1 l F _ fun _ => h2 fun h => absurd h ht
theorem frameBack_pure (l : List Int) (hb : Byte8 l) : ∃ k, QFrmB.louverlaw07_FrameBack.f k l = some true := by
  apply Ev.rounds
  unfold QFrmB.louverlaw07_FrameBack.f
  by_cases h : (l.length : Int) > 20000
  · simp only [h, if_true]
    exact Ev.bind ev_fixed (Ev.now true)
  · simp only [h, if_false]
    have hg : frame_Get.f l = some ((getFr l).1.ty, (getFr l).1.fl, (getFr l).1.st, (getFr l).1.data, (getFr l).1.pad, (getFr l).1.code, (getFr l).1.oth, (getFr l).1.wgt, (getFr l).1.al, (getFr l).1.win, (getFr l).1.sets, (getFr l).2.1, (getFr l).2.2) := by
      unfold frame_Get.f
      rw [if_pos ⟨by omega, byteB_iff.2 hb⟩]
    simp only [hg, Option.bind_some]
    by_cases hz : (getFr l).2.1 = 0 ∧ (getFr l).2.2 = 0
    · obtain ⟨z1, z2⟩ := hz
      simp only [z1, z2]
      refine Ev.congr (fun n => if_neg (by decide)) ?_
      obtain ⟨h9, hn, hl, hr⟩ := get_good z1
      by_cases hp : (getFr l).1.pad > 0
      · refine Ev.congr (fun n => if_pos hp) ?_
        exact ev_b0 l (getFr l).1 true (by omega) (fun h => by cases h)
      · refine Ev.congr (fun n => (if_neg hp).trans (if_pos (by omega))) ?_
        refine ev_b0 l (getFr l).1 _ (by omega) fun hx => ?_
        have h5 : l.getD 5 0 ≤ 127 := by
          have := of_decide_eq_false hx
          unfold rd at this
          simp only [show (5 : Int).toNat = 5 from rfl] at this
          omega
        have hty : (getFr l).1.ty = l.getD 3 0 := by
          have hr2 := hr
          unfold readR at hr2
          split at hr2
          · cases hr2
          · exact (body_pad hr2).2.1
        refine ⟨?_, by omega, fun ht => ?_, fun h7 => put_back hb z1 (by omega) h5 h7⟩
        · exact read_pad (fun x hx => hb x (List.mem_of_mem_drop hx)) hr rfl
        · rw [hty] at ht
          have := read_len hr ht
          rw [List.length_drop] at this
          omega
    · have hc : (!((getFr l).2.1 == 0) || !((getFr l).2.2 == 0)) = true := by
        rw [Bool.or_eq_true]
        simp
        omega
      refine Ev.congr (fun n => if_pos hc) ?_
      exact ev_b0 l (getFr l).1 true (by omega) (fun h => by cases h)
theorem frameBack_walk (A : Option Addr) (l : List Int) (c : Nat) (W : World) (hc : l.length ≤ c) (hR : ReadsInt W .u8 A l.length l) (hb : Byte8 l) (hG : WFact W) :
    Calls Tryd.prog 7 #[.slice A l.length c] W fun e w' => e = .returned (.bool true) ∧ Below W.heap.size W w' := by
  obtain ⟨k, h⟩ := frameBack_pure l hb
  exact QFrmB.louverlaw07_FrameBack.calls k A c l true W ⟨hG⟩ (Kd.C_of_reads (d := (0 : Int)) (h1 := fun _ => rfl) hR) hc h
end Go.Proofs.YtjjfkmniffbgkaaDoor

/- A row of bytes that came in, opened. -/
namespace Go.Proofs.YtjjfkmniffbgkaaDoor
set_option linter.unusedVariables false
set_option linter.unusedSimpArgs false
open Go.RowKit Go.ChangeShapes Go.WideShapes Go.Deep Go.Joins Go.Proofs.YtjjfkmniffbgkaaDoorW.PrintWords
set_option maxRecDepth 100000 in
theorem open_bytes_arg {H : Type} {enc : TypeId × Value → H} {W : World} {b0 : Nat} {v : Value} {d : DataW H} {p : List MemPlace} (hv : Value.okWide Tryd.prog W .any b0 35 v)
    (h : DataW.Trod enc Tryd.prog W 0 (fun _ => true) true 35 v d p) : ∃ (A : Option Addr) (l : List Int) (c : Nat), v = .slice A l.length c ∧ ReadsInt W .u8 A l.length l ∧ l.length ≤ c ∧ ∀ x ∈ l, 0 ≤ x ∧ x ≤ 255 := by
  obtain ⟨A, n, cap, rfl⟩ := okWide_slice Tryd.underlying35 hv
  obtain ⟨fuel, hf⟩ := h
  have e1 : Tryd.prog.cellsOf 5 = 1 := by kernel_rfl
  have wf8 : ∀ {n : Int}, (Lit.int .u8 n).wf = true → 0 ≤ n ∧ n ≤ 255 := fun h => by simp [Lit.wf, IntKind.min, IntKind.max, IntKind.signed, IntKind.bits] at h; omega
  rcases open_ints Tryd.underlying35 Tryd.underlying5 e1 hf with ⟨hc, _⟩ | ⟨a, len, cap', zs, hc, _, g1, g2, g3, _, g4, g5⟩
  · simp [Value.cells] at hc
    obtain ⟨rfl, rfl, rfl⟩ := hc
    obtain ⟨l, hl1, hr, hm, hw, hcc⟩ := ReadsInt.ofRowC (w := W) (k := .u8) (a := none) (len := 0) (cap := 0) (zs := []) (.inl ⟨rfl, rfl, rfl, rfl⟩)
    exact ⟨none, l, 0, by rw [← hl1], hr, hcc, fun x hx => wf8 (hw x hx)⟩
  · simp [Value.cells] at hc
    obtain ⟨rfl, rfl, rfl⟩ := hc
    obtain ⟨l, hl1, hr, hm, hw, hcc⟩ := ReadsInt.ofRowC (.inr ⟨a, rfl, g1, g2, by simpa using g3, g4, g5⟩)
    exact ⟨some a, l, cap, by rw [← hl1], hr, hcc, fun x hx => wf8 (hw x hx)⟩

end Go.Proofs.YtjjfkmniffbgkaaDoor

/- From the row's list to the cell of errors.errorType; bounds of numbers that came in. -/
namespace Go.Proofs.YtjjfkmniffbgkaaDoor
set_option linter.unusedVariables false
set_option linter.unusedSimpArgs false
open Go.RowKit
theorem Tryd.et : Tryd.prog.globalNamed "errors.errorType" = some 1 := by kernel_rfl
theorem Tryd.rt : (Tryd.prog.cutTypes.find? (·.1 == "internal/reflectlite.rtype")).map (·.2) = some 130 := by kernel_rfl
theorem Tryd.oneRow : ((List.range 182).filter fun t => Tryd.prog.rowNamed t [101, 114, 114, 111, 114]) = [28] := by kernel_rfl
theorem Tryd.sizeT : Tryd.prog.types.size = 182 := by kernel_rfl
theorem gv_of_laid {W : World} (h : laidMetH Tryd.prog [("errors.errorType", Rows.laid_errors_errorType)] W) : GV W := by
  have h' : laidMet Tryd.prog [] W ∧ handlesMet Tryd.prog [("errors.errorType", Rows.laid_errors_errorType)] W := h
  obtain ⟨name, u, ty, e1, e2, e3, e4, e5⟩ := h'.2 _ (List.mem_singleton.2 rfl)
  have en : name = [101, 114, 114, 111, 114] := (Option.some.inj e1).symm
  subst en
  obtain rfl := Option.some.inj (Tryd.rt.symm.trans e2)
  have hm : ty ∈ (List.range 182).filter fun t => Tryd.prog.rowNamed t [101, 114, 114, 111, 114] := List.mem_filter.2 ⟨List.mem_range.2 (by rw [← Tryd.sizeT]; exact e3), e4⟩
  rw [Tryd.oneRow] at hm
  obtain rfl := List.mem_singleton.1 hm
  have hh : typeHandle Tryd.prog 28 = hOf 28 := by kernel_rfl
  rw [hh] at e5
  unfold GV
  simpa using World.var?_cell Tryd.et e5 0
theorem u8_ge {n : Int} (h : (Lit.int .u8 n).wf = true) : 0 ≤ n := by simp [Lit.wf, IntKind.min, IntKind.max, IntKind.signed, IntKind.bits] at h; omega
theorem u8_le {n : Int} (h : (Lit.int .u8 n).wf = true) : n ≤ 255 := by simp [Lit.wf, IntKind.min, IntKind.max, IntKind.signed, IntKind.bits] at h; omega
theorem u32_ge {n : Int} (h : (Lit.int .u32 n).wf = true) : 0 ≤ n := by simp [Lit.wf, IntKind.min, IntKind.max, IntKind.signed, IntKind.bits] at h; omega
theorem u32_le {n : Int} (h : (Lit.int .u32 n).wf = true) : n ≤ 4294967295 := by simp [Lit.wf, IntKind.min, IntKind.max, IntKind.signed, IntKind.bits] at h; omega
end Go.Proofs.YtjjfkmniffbgkaaDoor

/- The statement of louver/louverlaw07.FrameBack: for every input it returns true, and each argument reads behind the call as it read before; no other condition than the row's own. -/
namespace Go.Proofs.YtjjfkmniffbgkaaDoor.frameBack
set_option linter.unusedVariables false
set_option linter.unusedSimpArgs false
open Go.ChangeShapes Go.WideShapes Go.ChangeAt Go.RowKit
open Go.ChangeMaps (open_string shut_string)
set_option linter.unusedVariables false
theorem own : ownKnob Tryd.prog.godebug = none := by kernel_rfl
theorem laidOut : laidOutB Tryd.prog = true := by kernel_rfl
set_option maxRecDepth 100000 in
theorem contract (H : Type) (enc : TypeId × Value → H) (W : World) (base : Nat) (args : Array Value) (ds gs : List (DataW H)) (before : List MemPlace)
    (hval : ∀ (j : Nat) t v, Tryd.f7.params[j]? = some t → args[j]? = some v → Value.okWide Tryd.prog W .any base t v)
    (hW : DataW.Whole enc Tryd.prog Tryd.f7.params.toList Rows.frameBackSpec.vars false W args.toList ds gs before)
    (hsz : (DataW.weightsEach Tryd.prog (Tryd.f7.params.toList ++ Rows.frameBackSpec.plain.varTypes Tryd.prog) (ds ++ gs)).all (· ≤ reachBytes) = true)
    (hL : laidMetH Tryd.prog Rows.frameBackRow.laid W) (hS : W.ShapedOpen Tryd.prog) :
    Calls Tryd.prog 7 args W fun e W' => ∃ v, e = .returned v ∧ Rows.frameBackSpec.post enc Tryd.prog Tryd.f7 false true false false W args v W' := by
  have hW' := hW
  obtain ⟨p, q, hA0, hV, rfl, hfz, hnd⟩ := hW
  have hA : DataW.TrodAll enc Tryd.prog W 0 (fun _ => true) true Tryd.f7.params.toList args.toList ds p := hA0
  rw [Tryd.params7] at hA hval hsz
  obtain ⟨v0, vs0, d0, ds0, p0, q0, hargs, rfl, rfl, h0, r0⟩ := trodAll_cons hA
  obtain ⟨rfl, rfl, rfl⟩ := trodAll_nil r0
  obtain rfl : args = #[v0] := by cases args; simp_all
  obtain ⟨rfl, rfl⟩ := trodVars_none hV
  have k0 := h0
  have ok0 := (hval 0 35 v0 rfl rfl)
  have lt0 : ∀ x ∈ p0, x.block < W.heap.size := by obtain ⟨m, hm⟩ := k0; exact DataW.trod_lt m _ _ _ hm
  obtain ⟨A0, l0, c0, rfl, hR0, hc0, hb0⟩ := open_bytes_arg ok0 h0
  clear hA0 hval
  refine (frameBack_walk A0 l0 c0 W hc0 hR0 hb0 (gv_of_laid hL)).mono fun e W' ⟨he, bel⟩ => ?_
  subst he
  exact ⟨_, rfl, _, _, _, [], _, [], hW', trodAll_mk1 (shut_bool Tryd.underlying4 _), (trodAll_cons_mk (Below.trod laidOut (by kernel_rfl) (of_decide_eq_true (by kernel_rfl)) k0 bel lt0) trodAll_mk0), rfl, bel.frame _, fun h => by cases h⟩
noncomputable def laidWorld (os : Os) : World :=
  { World.holding Tryd.prog os ⟨#[], #[], []⟩ with heap := (World.holding Tryd.prog os ⟨#[], #[], []⟩).heap.modify 1 fun
      | .cells _ t frozen => .cells #[.iface 130 (.agg #[.pointer (some ⟨5, 28, none⟩)])] t frozen
      | o => o }
set_option maxRecDepth 100000 in
theorem laid_met (os : Os) (args : Array Value) : laidMetH Tryd.prog Rows.frameBackRow.laid ((laidWorld os).forCall (fun _ _ => 0) ⟨#[], args, []⟩).memory := laidMetH_of_parts (laidMet_nil _ _) (by kernel_rfl)
set_option maxRecDepth 100000 in
theorem lifted (os : Os) (started : os.Started) (H : Type) (enc : TypeId × Value → H) (F : Stop.Interp) :
    ReturnsInHanded {} Tryd.checked os 7 .any ((OpenSpec.ofChange Rows.frameBackSpec).preRow enc Tryd.prog Tryd.f7 Rows.frameBackRow.domain false Rows.frameBackRow.laid) (((OpenSpec.ofChange Rows.frameBackSpec).at F).post enc Tryd.prog Tryd.f7 false true false false) := by
  refine returnsInHanded_of_row (C := Tryd.checked) (s := (OpenSpec.ofChange Rows.frameBackSpec)) own started (by kernel_rfl) Tryd.func7
    (witness_row_at (enc := enc) (C := Tryd.checked) false (laidWorld os) #[.slice none 0 0] rfl (by kernel_rfl) (by kernel_rfl) (by kernel_rfl)
      (OpenSpec.preRow_of_cond 8 (x := ([.nil], [], [])) (by kernel_rfl) (by kernel_rfl) (fun k hk => by cases hk) (by kernel_rfl) (laid_met os _))) ?_
  intro W base args ds gs before hval hW _ hcond hsz hL hS _
  exact contract H enc W base args ds gs before hval hW hsz hL hS
theorem said : Rows.FrameBackSaid :=
  OpenClaim.holds_of_cond 7 Tryd.f7 rfl rfl rfl rfl rfl rfl rfl ⟨rfl, rfl, rfl, rfl, rfl⟩ rfl rfl rfl rfl rfl (by kernel_rfl) Tryd.func7 (by kernel_rfl)
    (of_decide_eq_true (by kernel_rfl)) (by unfold Func.isWrapper; first | (rw [if_pos (by decide +kernel)]; kernel_rfl) | (rw [if_neg (by decide +kernel)]; exact ⟨rfl, rfl⟩))
    (fun os started H enc _ F => by rw [OpenClaim.pre_eq_preRow]; exact lifted os started H enc F)
theorem plain (f : FuncId) (fn : Func) (hf : Tryd.pinned.checked.prog.funcNamed "louver/louverlaw07.FrameBack" = some f) (hfn : Tryd.pinned.checked.prog.funcs[f]? = some fn) :
    true = Tryd.pinned.checked.prog.looks [] ∧ ∀ (j : Nat) t, fn.params[j]? = some t → Tryd.pinned.checked.prog.wantsStandIn t = false := by
  obtain rfl : f = 7 := Option.some.inj ((show Tryd.prog.funcNamed "louver/louverlaw07.FrameBack" = some 7 by kernel_rfl).symm.trans hf) |>.symm
  obtain rfl : fn = Tryd.f7 := (Option.some.inj (Tryd.func7.symm.trans hfn)).symm
  refine ⟨by kernel_rfl, fun j t ht => ?_⟩
  rw [Tryd.params7] at ht
  have hm := Array.mem_of_getElem? ht
  have hall : ∀ t ∈ #[35], Tryd.prog.wantsStandIn t = false := by intro t h; simp only [List.mem_toArray, List.mem_cons, List.not_mem_nil, or_false] at h; rcases h with rfl <;> kernel_rfl
  exact hall t hm
theorem card : Rows.FrameBackCardSaid :=
  Claim7.holds_tied_plain_at .later [] _ _ _ _ said (fun _ h => by cases h) (by kernel_rfl) (fun _ h => by cases h) frameBack_row_tie rfl ⟨rfl, rfl⟩ (by kernel_rfl) rfl plain (by kernel_rfl)
#print axioms card
end Go.Proofs.YtjjfkmniffbgkaaDoor.frameBack
