/- The statement of louver/louverlaw22.CommandWhy: for every input it returns true, and each argument reads behind the call as it read before; no other condition than the row's own. -/
import Derived.Test.YtkgedjaihimafaaDoorMCommandWhy2
import Derived.Test.YtkgedjaihimafaaDoorProg
import Derived.Below
import Derived.Deep.Draws
import Derived.Deep.AppendLies
import Derived.Maps.AppendAt
import Derived.OwnWalk
import Derived.Laws.BytesArg
import Derived.Laws.MakeOwn
import Derived.Laws.OwnMore
import Derived.Deep.OwnRows
import Derived.Tactics
import Derived.Lib.ConvBytes
import Derived.Laws.Slices
import Derived.WalkKit
import Derived.KernelRfl
import Derived.RowKit3
import Derived.Deep.LoopGhost
import Derived.Deep.QuietTactic
import Derived.BigQuiet
import Derived.WideLaws
import Derived.Deep.DeepCutAuto
import Derived.Deep.CutBlock
import Derived.Deep.RegionHeld3
import Derived.Laws.Rows
import Derived.Lib.AppendStr
import Derived.ArgAppend
import Derived.Laws.IdiomCopy
import Derived.OrdersHeld
import Derived.Laws.BitsLemmas
import Derived.RowKit
import Derived.Test.YtkgedjaihimafaaDoorWWords
import Derived.Test.YtkgedjaihimafaaDoorWLast
import Derived.Test.YtkgedjaihimafaaDoorWTab
import Derived.Test.YtkgedjaihimafaaDoorWFour
import Derived.Test.YtkgedjaihimafaaDoorWQPut
import Derived.Test.YtkgedjaihimafaaDoorWApart
import Derived.Test.YtkgedjaihimafaaDoorWArr
import Derived.Test.YtkgedjaihimafaaDoorWZeros
import Derived.Test.YtkgedjaihimafaaDoorWFoot
import Derived.Test.YtkgedjaihimafaaDoorWKept
import Derived.Test.YtkgedjaihimafaaDoorWShare
import Derived.Test.YtkgedjaihimafaaDoorWN
import Derived.Test.YtkgedjaihimafaaDoorWFootNe
import Derived.Test.YtkgedjaihimafaaDoorWAt
import Derived.Test.YtkgedjaihimafaaDoorWEqStruct
import Derived.Test.YtkgedjaihimafaaDoorWRepsOne
import Derived.Test.YtkgedjaihimafaaDoorWInv
import Derived.Test.YtkgedjaihimafaaDoorWInvWords
import Derived.Test.YtkgedjaihimafaaDoorWGuard
import Derived.Test.YtkgedjaihimafaaDoorWNEv
import Derived.Test.YtkgedjaihimafaaDoorWMore
import Derived.ChangeSlices
import Derived.Deep.Slices
import Derived.ChangeArms
import Derived.ChangeSame
import Derived.OpenShut
import Derived.Lib.SmallJoins
import Derived.Test.YtkgedjaihimafaaDoorCards
import Derived.Test.YtkgedjaihimafaaDoorTie
import Derived.ProofKit
import Derived.ShutString
import Derived.ChangeOld
import Derived.SizedLaws
import Derived.Carry
import Derived.Deep.DeepHandedRow
import Derived.LaidHandle
import Derived.LaidLaws
import Derived.Lay
import Derived.Stop.Joined
/- command.Get, walked. -/
namespace Go.Proofs.YtkgedjaihimafaaDoor
set_option linter.unusedVariables false
set_option linter.unusedSimpArgs false
open Go.RowKit Go.Proofs.YtkgedjaihimafaaDoorW.PrintWords Go.Proofs.YtkgedjaihimafaaDoor.QCmd

/-- What Get leaves. -/
def GetPost (w : World) (r : Int × Int × ByteArray × Int × Int × List Int × Int × Bool) (e : Ending) (w' : World) : Prop :=
  (∃ v, e = .returned (.tuple #[.agg #[.int .u8 r.1, .int .u32 r.2.1, .string r.2.2.1, .int .u64 r.2.2.2.1, .int .u8 r.2.2.2.2.1, v], .int .u8 r.2.2.2.2.2.2.1, .bool r.2.2.2.2.2.2.2]) ∧
    w'.ownsRow w.heap.size 5 1 v r.2.2.2.2.2.1.length (nums .u8 r.2.2.2.2.2.1)) ∧ Below w.heap.size w w'

/-- What Get answers behind a whole head. -/
def getT (kind id : Int) : Option (ByteArray × Int × Int × List Int) → Int × Int × ByteArray × Int × Int × List Int × Int × Bool
  | none => (0, 0, ⟨#[]⟩, 0, 0, [], 0, false)
  | some (topic, seq, code, pay) =>
    if (kind = 1 ∨ kind = 3) ∧ topicOk topic = false then (kind, id, ⟨#[]⟩, 0, 0, [], 1, false)
    else if kind = 3 ∧ 2048 < pay.length then (kind, id, ⟨#[]⟩, 0, 0, [], 5, false)
    else if cmdOk kind topic seq code pay = true then (kind, id, topic, seq, code, pay, 0, true)
    else (0, 0, ⟨#[]⟩, 0, 0, [], 0, false)
theorem getR_long {l : List Int} (h5 : ¬ l.length < 5) : getR l = getT (l.getD 0 0) (valL ((l.take 5).drop 1)) (restR (l.getD 0 0) (l.drop 5)) := by
  unfold getR
  rw [if_neg h5]
  generalize restR (l.getD 0 0) (l.drop 5) = r
  rcases r with _ | ⟨topic, seq, code, pay⟩ <;> rfl

/-- Behind rest: the result's block, the bare command's, the command's. -/
structure Aft (w W : World) (gb : Nat) (kind id : Int) (topic : ByteArray) (seq code : Int) (pay : List Int) (v : Value) : Prop where
  z : W.heap[w.heap.size]? = some (.cells (cmdC 0 0 ⟨#[]⟩ 0 0 (.slice none 0 0)) 26 (0, 0))
  b : W.heap[gb]? = some (.cells (cmdC kind id ⟨#[]⟩ 0 0 (.slice none 0 0)) 26 (0, 0))
  is : IsCmd W w.heap.size (w.heap.size + 1) kind id topic seq code pay v
  bel : Below w.heap.size w W
theorem Aft.below {w W W' : World} {gb : Nat} {kind id : Int} {topic : ByteArray} {seq code : Int} {pay : List Int} {v : Value} (h : Aft w W gb kind id topic seq code pay v) (hb : Below W.heap.size W W') : Aft w W' gb kind id topic seq code pay v :=
  ⟨blk_below h.z hb, blk_below h.b hb, ⟨blk_below h.is.blk hb, pw_own_below h.is.own hb⟩, h.bel.trans (hb.mono h.bel.size)⟩
/-- The result's cells, written. -/
abbrev put6 (W : World) (g : Nat) (k i : Int) (t : ByteArray) (q c : Int) (v : Value) : World := (((((W.setCell ⟨g, 0, none⟩ (.int .u8 k)).setCell ⟨g, 1, none⟩ (.int .u32 i)).setCell ⟨g, 2, none⟩ (.string t)).setCell ⟨g, 3, none⟩ (.int .u64 q)).setCell ⟨g, 4, none⟩ (.int .u8 c)).setCell ⟨g, 5, none⟩ v
theorem put6_blk {W : World} {g : Nat} {k' i' q' c' : Int} {t' : ByteArray} {v' : Value} (h : W.heap[g]? = some (.cells (cmdC k' i' t' q' c' v') 26 (0, 0))) (k i : Int) (t : ByteArray) (q c : Int) (v : Value) :
    (put6 W g k i t q c v).heap[g]? = some (.cells (cmdC k i t q c v) 26 (0, 0)) := blk_set (blk_set (blk_set (blk_set (blk_set (blk_set h 0 _) 1 _) 2 _) 3 _) 4 _) 5 _
theorem put6_below {B : Nat} {w W : World} {g : Nat} (h : Below B w W) (hg : B ≤ g) (k i : Int) (t : ByteArray) (q c : Int) (v : Value) : Below B w (put6 W g k i t q c v) :=
  (((((h.setCell (p := ⟨g, 0, none⟩) hg _).setCell (p := ⟨g, 1, none⟩) hg _).setCell (p := ⟨g, 2, none⟩) hg _).setCell (p := ⟨g, 3, none⟩) hg _).setCell (p := ⟨g, 4, none⟩) hg _).setCell (p := ⟨g, 5, none⟩) hg _
theorem put6_own {W : World} {g base n : Nat} {v : Value} {xs : List Value} (h : W.ownsRow base 5 1 v n xs) (hne : some g ≠ v.ownBlock) (k i : Int) (t : ByteArray) (q c : Int) (u : Value) : (put6 W g k i t q c u).ownsRow base 5 1 v n xs :=
  own_setCell (own_setCell (own_setCell (own_setCell (own_setCell (own_setCell h hne _) hne _) hne _) hne _) hne _) hne _

theorem topics_calls (w : World) (k : Int) (hk : 0 ≤ k ∧ k ≤ 255) : Calls Tryd.prog 37 #[.int .u8 k] w fun e w' => e = .returned (.bool (decide (k = 1 ∨ k = 3))) ∧ w = w' := by
  by_cases h1 : k = 1
  · subst h1
    go_enter Tryd.func37, Tryd.ntmps37
    go_wp2
    go_ret
    exact ⟨rfl, rfl⟩
  · have b1 : (k == 1) = false := by simpa using h1
    have e : decide (k = 1 ∨ k = 3) = (k == 3) := by
      rw [Bool.eq_iff_iff, decide_eq_true_iff, beq_iff_eq]
      omega
    rw [e]
    clear e
    go_enter Tryd.func37, Tryd.ntmps37
    go_wp2
    go_ret
    exact ⟨rfl, rfl⟩
theorem cmay_calls (w : World) (base : Nat) (kind id : Int) (topic : ByteArray) (seq code : Int) (pay : List Int) (A : Option Addr) (c : Nat) (hk : 0 ≤ kind) (hc : 0 ≤ code) (ht : topic.size ≤ 1000000000) (hO : w.ownsRow base 5 1 (.slice A pay.length c) pay.length (nums .u8 pay)) :
    Calls Tryd.prog 17 #[.agg (cmdC kind id topic seq code (.slice A pay.length c))] w fun e w' => e = .returned (.bool (cmdOk kind topic seq code pay)) ∧ Below w.heap.size w w' := by
  obtain ⟨k, hk'⟩ := (ev_cmdMay kind id topic seq code pay hk hc ht).rounds
  exact command_May.calls k kind id topic seq code A c pay _ w (Kd.C_of_reads (d := (0 : Int)) (h1 := fun _ => rfl) (own_reads' hO)) (own_cap hO) hk'

theorem get_short (w : World) (A : Option Addr) (c : Nat) (l : List Int) (h5 : l.length < 5) :
    Calls Tryd.prog 14 #[.slice A l.length c] w (GetPost w (0, 0, ⟨#[]⟩, 0, 0, [], 0, false)) := by
  refine of_post0 fun R hRR => ?_
  have HP := Lib.hid hRR
  have c1 : decide ((l.length : Int) < 5) = true := by rw [decide_eq_true_iff]; omega
  clear hRR h5
  go_enter Tryd.func14, Tryd.ntmps14
  go_wp2_with fail
  refine bodyPost_ret (results_ctt rfl _ _ w.heap.size 26 #[.int .u8 0, .int .u32 0, .string ⟨#[]⟩, .int .u64 0, .int .u8 0, .slice none 0 0] (0, 0) _ rfl (blk_new w _) Tryd.underlying26 rfl (by kernel_rfl)) rfl (HP.out _ _ ⟨⟨_, rfl, own_nil _ _ _ _⟩, Below.alloc (Below.refl _ _) (Nat.le_refl _) _⟩)

/-- Behind the head's region, in its second order. -/
def six (w : World) (n : Nat) (kind id : Int) : World := (((((((((w.alloc (.cells (cmdC 0 0 ⟨#[]⟩ 0 0 (.slice none 0 0)) 26)).alloc (.cells (cmdC 0 0 ⟨#[]⟩ 0 0 (.slice none 0 0)) 26)).drewN (1 + n)).setCell ⟨w.heap.size + 1, 0, none⟩ (.int .u8 kind)).setCell ⟨w.heap.size + 1, 1, none⟩ (.int .u32 id)).setCell ⟨w.heap.size + 1, 2, none⟩ (.string ⟨#[]⟩)).setCell ⟨w.heap.size + 1, 3, none⟩ (.int .u64 0)).setCell ⟨w.heap.size + 1, 4, none⟩ (.int .u8 0)).setCell ⟨w.heap.size + 1, 5, none⟩ (.slice none 0 0))
theorem six_is (w : World) (n : Nat) (kind id : Int) : Below w.heap.size w (six w n kind id) ∧ (six w n kind id).heap[w.heap.size]? = some (.cells (cmdC 0 0 ⟨#[]⟩ 0 0 (.slice none 0 0)) 26 (0, 0)) ∧
    (six w n kind id).heap[w.heap.size + 1]? = some (.cells (cmdC kind id ⟨#[]⟩ 0 0 (.slice none 0 0)) 26 (0, 0)) ∧ (six w n kind id).heap.size = w.heap.size + 1 + 1 := by
  have hne : ∀ j, w.heap.size ≠ (⟨w.heap.size + 1, j, none⟩ : Addr).block := fun j => by show w.heap.size ≠ w.heap.size + 1; omega
  have hle : ∀ j, w.heap.size ≤ (⟨w.heap.size + 1, j, none⟩ : Addr).block := fun j => Nat.le_succ _
  have z := blk_drewN (blk_alloc (blk_new w (.cells (cmdC 0 0 ⟨#[]⟩ 0 0 (.slice none 0 0)) 26)) (.cells (cmdC 0 0 ⟨#[]⟩ 0 0 (.slice none 0 0)) 26)) (1 + n)
  have c := blk_drewN (blk_new1 w (.cells (cmdC 0 0 ⟨#[]⟩ 0 0 (.slice none 0 0)) 26) (.cells (cmdC 0 0 ⟨#[]⟩ 0 0 (.slice none 0 0)) 26)) (1 + n)
  unfold six
  refine ⟨?_, ?_, ?_, by simp [World.setCell]⟩
  · exact ((((((pw_below_drewN (below_alloc (below_alloc (Below.refl _ _) _) _) _).setCell (hle 0) _).setCell (hle 1) _).setCell (hle 2) _).setCell (hle 3) _).setCell (hle 4) _).setCell (hle 5) _
  · exact blk_far (blk_far (blk_far (blk_far (blk_far (blk_far z (hne 0) _) (hne 1) _) (hne 2) _) (hne 3) _) (hne 4) _) (hne 5) _
  · exact blk_set (blk_set (blk_set (blk_set (blk_set (blk_set c 0 _) 1 _) 2 _) 3 _) 4 _) 5 _

set_option maxHeartbeats 1000000 in
set_option maxRecDepth 100000 in
theorem get_long (w : World) (A : Option Addr) (c : Nat) (l : List Int) (h5 : ¬ l.length < 5) (hl : l.length ≤ 100000) (hlc : l.length ≤ c) (hR : ReadsInt w .u8 A l.length l) (hby : ∀ x ∈ l, 0 ≤ x ∧ x ≤ 255)
    (kind : Int) (hkind : l.getD 0 0 = kind) (id : Int) (hid : valL ((l.take 5).drop 1) = id) (hid0 : 0 ≤ id) (hid1 : id ≤ 4294967295) (r : Option (ByteArray × Int × Int × List Int)) (hr : restR kind (l.drop 5) = r) :
    Calls Tryd.prog 14 #[.slice A l.length c] w (GetPost w (getR l)) := by
  refine of_post0 fun R hRR => ?_
  have HP := Lib.hid hRR
  have c1 : decide ((l.length : Int) < 5) = false := by rw [decide_eq_false_iff_not]; omega
  obtain ⟨i0, hi, _, hsz, _⟩ := info_parts Tryd.infoB8
  obtain ⟨A1, hcut1, hr1, hm1⟩ := print_mid_int (P := Tryd.prog) (k := .u8) 24 5 Tryd.underlying24 hi hsz A c l 1 5 (by decide) (by decide) (by omega) hlc
  obtain ⟨A2, hcut2, hr2, hm2⟩ := print_drop_of (P := Tryd.prog) (Value.int .u8) (0 : Int) 24 5 .i64 Tryd.underlying24 hi hsz A c l 5 (by decide) (by omega) hlc
  obtain ⟨ad, rfl, hc⟩ := hR.2.2 (by omega)
  have hc0 := hc 0 (by omega)
  have ha : ad.add 0 = ad := by unfold Addr.add; rfl
  rw [ha, hkind] at hc0
  have hk := hby _ (getD0_mem (show 0 < l.length by omega))
  rw [hkind] at hk
  rw [show (5 : Int).toNat = 5 from rfl, show (1 : Int).toNat = 1 from rfl] at *
  generalize hL1 : (l.take 5).drop 1 = L1 at *
  generalize hL2 : l.drop 5 = L2 at *
  have hl2 : L2.length ≤ 100000 := by rw [← hL2, List.length_drop]; omega
  have hby2 : Byte8 L2 := fun x hx => by
    rw [← hL2] at hx
    exact hby x (List.mem_of_mem_drop hx)
  have HR2 := Lib.hid (And.intro (hr2 w hR) (And.intro hm2 (And.intro hl2 hby2)))
  have HG := Lib.hid (show getR l = getT kind id r by rw [getR_long h5, hkind, hL2, hr, hL1, hid])
  have HRR := Lib.hid hr
  have hE2 : Elsewhere A2 L2.length (w.heap.size + 1) := far_int HR2.out.1 (Nat.le_succ _)
  have hl1 : L1.length ≤ 8 := by rw [← hL1, List.length_drop, List.length_take]; omega
  have hby1 : ∀ x ∈ L1, 0 ≤ x ∧ x ≤ 255 := fun x hx => by
    rw [← hL1] at hx
    exact hby x (List.mem_of_mem_take (List.mem_of_mem_drop hx))
  have hV : ∀ W, Below w.heap.size w W → Calls Tryd.prog 35 #[.slice A1 L1.length (c - 1)] W fun e w' => e = .returned (.int .u64 id) ∧ Drawn0 W w' := fun W hW => by
    rw [← hid]
    exact value_calls W A1 (c - 1) L1 hl1 hby1 (hr1 W (hR.below hW)) hm1
  have HV := Lib.hid hV
  have hS : ∀ W, Below w.heap.size w W → W.cell? ad = some (.int .u8 kind) := fun W hW => by
    have h := (hR.below hW).2.2 (by omega)
    obtain ⟨ad', e, h⟩ := h
    cases e
    have h := h 0 (by omega)
    rw [ha, hkind] at h
    exact h
  have HS := Lib.hid hS
  have HE := Lib.hid (And.intro hE2 hk)
  have b5 : (0 : Int) < (l.length : Int) := by omega
  have b6 : 0 < l.length := by omega
  have b7 : (1 : Int) ≤ (l.length : Int) := by omega
  clear hS hV hRR hR hr1 hr2 hm1 hm2 hby hby1 hi hsz hc hE2 hL1 hL2 hl2 hby2 hr hid hkind h5 ha
  have HW32 := Lib.hid (show IntKind.u32.wrap id = id by simp [IntKind.wrap, IntKind.bits, IntKind.signed]; omega)
  go_enter Tryd.func14, Tryd.ntmps14
  go_wp2_with fail
  go_region_held3 (fun w' => w'.cell? ad = some (.int .u8 kind))
    (exact HS.out _ (by repeat (first | (with_reducible exact Below.refl _ _) | (with_reducible apply below_drew1) | (with_reducible apply pw_below_drewN) | (with_reducible refine Below.setCell ?_ (by first | exact Nat.le_refl _ | (simp; done) | (simp; omega)) _) | (with_reducible refine Below.alloc ?_ (by first | exact Nat.le_refl _ | (simp; done) | (simp; omega)) _))))
    ((go_at_call 35; refine (HV.out _ (by repeat (first | (with_reducible exact Below.refl _ _) | (with_reducible apply below_drew1) | (with_reducible apply pw_below_drewN) | (with_reducible refine Below.setCell ?_ (by first | exact Nat.le_refl _ | (simp; done) | (simp; omega)) _) | (with_reducible refine Below.alloc ?_ (by first | exact Nat.le_refl _ | (simp; done) | (simp; omega)) _)))).mono ?_; rintro e w1 ⟨rfl, n, rfl⟩))
  all_goals
    rename_i K hK hHeld
    clear hHeld
    refine hK _ _ ?_
    clear hK K
    rw [HW32.out]
  · have hb2 : Below w.heap.size w (((w.alloc (.cells (cmdC 0 0 ⟨#[]⟩ 0 0 (.slice none 0 0)) 26)).drewN (1 + n)).alloc (.cells (cmdC kind id ⟨#[]⟩ 0 0 (.slice none 0 0)) 26)) := below_alloc (pw_below_drewN (below_alloc (Below.refl _ _) _) _) _
    have z2 : (((w.alloc (.cells (cmdC 0 0 ⟨#[]⟩ 0 0 (.slice none 0 0)) 26)).drewN (1 + n)).alloc (.cells (cmdC kind id ⟨#[]⟩ 0 0 (.slice none 0 0)) 26)).heap[w.heap.size]? = some (.cells (cmdC 0 0 ⟨#[]⟩ 0 0 (.slice none 0 0)) 26 (0, 0)) := blk_alloc (blk_drewN (blk_new w _) _) _
    have c2 : (((w.alloc (.cells (cmdC 0 0 ⟨#[]⟩ 0 0 (.slice none 0 0)) 26)).drewN (1 + n)).alloc (.cells (cmdC kind id ⟨#[]⟩ 0 0 (.slice none 0 0)) 26)).heap[w.heap.size + 1]? = some (.cells (cmdC kind id ⟨#[]⟩ 0 0 (.slice none 0 0)) 26 (0, 0)) := blk_at _ (by simp)
    have s2 : (((w.alloc (.cells (cmdC 0 0 ⟨#[]⟩ 0 0 (.slice none 0 0)) 26)).drewN (1 + n)).alloc (.cells (cmdC kind id ⟨#[]⟩ 0 0 (.slice none 0 0)) 26)).heap.size = w.heap.size + 1 + 1 := by simp
    generalize (((w.alloc (.cells (cmdC 0 0 ⟨#[]⟩ 0 0 (.slice none 0 0)) 26)).drewN (1 + n)).alloc (.cells (cmdC kind id ⟨#[]⟩ 0 0 (.slice none 0 0)) 26)) = W2 at *
    have H2 := Lib.hid (And.intro hb2 (And.intro z2 (And.intro c2 s2)))
    clear hb2 z2 c2 s2
    have q0 := blk_cell H2.out.2.2.1 0
    have q1 := blk_cell H2.out.2.2.1 1
    have q2 := blk_cell H2.out.2.2.1 2
    have q3 := blk_cell H2.out.2.2.1 3
    have q4 := blk_cell H2.out.2.2.1 4
    have q5 := blk_cell H2.out.2.2.1 5
    simp at q0 q1 q2 q3 q4 q5
    go_wp2_with fail
    have hbA := below_alloc H2.out.1 (.cells (cmdC kind id ⟨#[]⟩ 0 0 (.slice none 0 0)) 26)
    refine (rest_calls _ w.heap.size (w.heap.size + 1) kind id A2 (c - 5) L2 (Nat.le_succ _) HE.out.2 ⟨blk_alloc H2.out.2.2.1 _, own_nil _ _ _ _⟩ HR2.out.2.2.1 HR2.out.2.1 (HR2.out.1.below hbA) HE.out.1 HR2.out.2.2.2).mono ?_
    rintro e w3 ⟨⟨hb3, hk3⟩, hm⟩
    rw [HRR.out] at hm
    have hz3 := hk3.blk (blk_alloc H2.out.2.1 _) (Nat.ne_of_lt (Nat.lt_succ_self _)) (by simp)
    have hc3 := hk3.blk (blk_new W2 (.cells (cmdC kind id ⟨#[]⟩ 0 0 (.slice none 0 0)) 26)) (by rw [H2.out.2.2.2]; exact Nat.ne_of_gt (Nat.lt_succ_self _)) (by simp)
    have hB3 := hbA.trans hb3
    clear hb3 hk3 hbA q0 q1 q2 q3 q4 q5
    have HGG := HG.out
    rcases r with _ | ⟨topic, seq, code, pay⟩
    · simp only [getT] at hm HGG
      subst hm
      have z0 := blk_cell hz3 0
      have z1 := blk_cell hz3 1
      have z2 := blk_cell hz3 2
      have z3 := blk_cell hz3 3
      have z4 := blk_cell hz3 4
      have z5 := blk_cell hz3 5
      have zf0 := blk_frozen hz3 0
      have zf1 := blk_frozen hz3 1
      have zf2 := blk_frozen hz3 2
      have zf3 := blk_frozen hz3 3
      have zf4 := blk_frozen hz3 4
      have zf5 := blk_frozen hz3 5
      simp at z0 z1 z2 z3 z4 z5
      have HZ := Lib.hid hz3
      have H3 := Lib.hid hB3
      have HGN := Lib.hid HGG
      clear hz3 hc3 hB3 HGG HG HRR
      go_wp2_with fail
      refine bodyPost_ret (results_ctt rfl _ _ w.heap.size 26 (cmdC 0 0 ⟨#[]⟩ 0 0 (.slice none 0 0)) (0, 0) _ rfl (put6_blk HZ.out 0 0 ⟨#[]⟩ 0 0 (.slice none 0 0)) Tryd.underlying26 rfl (by kernel_rfl)) rfl (HP.out _ _ ?_)
      rw [HGN.out]
      exact ⟨⟨_, rfl, own_nil _ _ _ _⟩, put6_below H3.out (Nat.le_refl _) 0 0 ⟨#[]⟩ 0 0 (.slice none 0 0)⟩
    · simp only [getT] at hm HGG
      obtain ⟨rfl, v, hIs⟩ := hm
      obtain ⟨A3, c3, rfl⟩ := own_slice hIs.own
      have hin := restR_in HR2.out.2.2.2 HRR.out
      have HIN := Lib.hid (And.intro HE.out.2.1 (And.intro hin.2.1.1 (show topic.size ≤ 1000000000 by have := hin.2.2.2.2; have := HR2.out.2.2.1; omega)))
      have hpl9 : pay.length ≤ 100000 := by have := hin.2.2.2.1; have := HR2.out.2.2.1; omega
      have HA := Lib.hid (Aft.mk hz3 hc3 hIs hB3)
      have HGS := Lib.hid HGG
      clear hz3 hc3 hB3 hIs HGG HG HRR hin
      have z0 := blk_cell HA.out.z 0
      have z1 := blk_cell HA.out.z 1
      have z2 := blk_cell HA.out.z 2
      have z3 := blk_cell HA.out.z 3
      have z4 := blk_cell HA.out.z 4
      have z5 := blk_cell HA.out.z 5
      have zf0 := blk_frozen HA.out.z 0
      have zf1 := blk_frozen HA.out.z 1
      have zf2 := blk_frozen HA.out.z 2
      have zf3 := blk_frozen HA.out.z 3
      have zf4 := blk_frozen HA.out.z 4
      have zf5 := blk_frozen HA.out.z 5
      simp at z0 z1 z2 z3 z4 z5
      have y0 := blk_cell HA.out.b 0
      have y1 := blk_cell HA.out.b 1
      have y2 := blk_cell HA.out.b 2
      have y3 := blk_cell HA.out.b 3
      have y4 := blk_cell HA.out.b 4
      have y5 := blk_cell HA.out.b 5
      simp at y0 y1 y2 y3 y4 y5
      have x0 := blk_cell HA.out.is.blk 0
      have x1 := blk_cell HA.out.is.blk 1
      have x2 := blk_cell HA.out.is.blk 2
      have x3 := blk_cell HA.out.is.blk 3
      have x4 := blk_cell HA.out.is.blk 4
      have x5 := blk_cell HA.out.is.blk 5
      simp at x0 x1 x2 x3 x4 x5
      go_wp2_with fail
      refine (topics_calls _ kind HE.out.2).mono ?_
      rintro e w4 ⟨rfl, rfl⟩
      by_cases hT : kind = 1 ∨ kind = 3
      · rw [decide_eq_true hT]
        cases htok : topicOk topic
        · have HG1 := Lib.hid (HGS.out.trans (if_pos ⟨hT, htok⟩))
          have HTK := Lib.hid htok
          clear hT htok
          go_wp2_with fail
          refine (may_calls _ topic HIN.out.2.2).mono ?_
          rintro e w4 ⟨rfl, hb4⟩
          rw [HTK.out]
          have HA4 := Lib.hid (HA.out.below hb4)
          clear hb4 HTK
          clear z0 z1 z2 z3 z4 z5 y0 y1 y2 y3 y4 y5 x0 x1 x2 x3 x4 x5 zf0 zf1 zf2 zf3 zf4 zf5
          have z0 := blk_cell HA4.out.z 0
          have z1 := blk_cell HA4.out.z 1
          have z2 := blk_cell HA4.out.z 2
          have z3 := blk_cell HA4.out.z 3
          have z4 := blk_cell HA4.out.z 4
          have z5 := blk_cell HA4.out.z 5
          have zf0 := blk_frozen HA4.out.z 0
          have zf1 := blk_frozen HA4.out.z 1
          have zf2 := blk_frozen HA4.out.z 2
          have zf3 := blk_frozen HA4.out.z 3
          have zf4 := blk_frozen HA4.out.z 4
          have zf5 := blk_frozen HA4.out.z 5
          simp at z0 z1 z2 z3 z4 z5
          have y0 := blk_cell HA4.out.b 0
          have y1 := blk_cell HA4.out.b 1
          have y2 := blk_cell HA4.out.b 2
          have y3 := blk_cell HA4.out.b 3
          have y4 := blk_cell HA4.out.b 4
          have y5 := blk_cell HA4.out.b 5
          simp at y0 y1 y2 y3 y4 y5
          have x0 := blk_cell HA4.out.is.blk 0
          have x1 := blk_cell HA4.out.is.blk 1
          have x2 := blk_cell HA4.out.is.blk 2
          have x3 := blk_cell HA4.out.is.blk 3
          have x4 := blk_cell HA4.out.is.blk 4
          have x5 := blk_cell HA4.out.is.blk 5
          simp at x0 x1 x2 x3 x4 x5
          go_wp2_with fail
          refine bodyPost_ret (results_ctt rfl _ _ w.heap.size 26 (cmdC kind id ⟨#[]⟩ 0 0 (.slice none 0 0)) (0, 0) _ rfl (put6_blk HA4.out.z kind id ⟨#[]⟩ 0 0 (.slice none 0 0)) Tryd.underlying26 rfl (by kernel_rfl)) rfl (HP.out _ _ ?_)
          rw [HG1.out]
          exact ⟨⟨_, rfl, own_nil _ _ _ _⟩, put6_below HA4.out.bel (Nat.le_refl _) kind id ⟨#[]⟩ 0 0 (.slice none 0 0)⟩
        · have HGT := Lib.hid (HGS.out.trans (if_neg (fun h => by rw [htok] at h; exact Bool.noConfusion h.2)))
          have HTK := Lib.hid htok
          clear hT htok
          go_wp2_with fail
          refine (may_calls _ topic HIN.out.2.2).mono ?_
          rintro e w4 ⟨rfl, hb4⟩
          rw [HTK.out]
          have HA4 := Lib.hid (HA.out.below hb4)
          clear hb4 HTK
          clear z0 z1 z2 z3 z4 z5 y0 y1 y2 y3 y4 y5 x0 x1 x2 x3 x4 x5 zf0 zf1 zf2 zf3 zf4 zf5
          have z0 := blk_cell HA4.out.z 0
          have z1 := blk_cell HA4.out.z 1
          have z2 := blk_cell HA4.out.z 2
          have z3 := blk_cell HA4.out.z 3
          have z4 := blk_cell HA4.out.z 4
          have z5 := blk_cell HA4.out.z 5
          have zf0 := blk_frozen HA4.out.z 0
          have zf1 := blk_frozen HA4.out.z 1
          have zf2 := blk_frozen HA4.out.z 2
          have zf3 := blk_frozen HA4.out.z 3
          have zf4 := blk_frozen HA4.out.z 4
          have zf5 := blk_frozen HA4.out.z 5
          simp at z0 z1 z2 z3 z4 z5
          have y0 := blk_cell HA4.out.b 0
          have y1 := blk_cell HA4.out.b 1
          have y2 := blk_cell HA4.out.b 2
          have y3 := blk_cell HA4.out.b 3
          have y4 := blk_cell HA4.out.b 4
          have y5 := blk_cell HA4.out.b 5
          simp at y0 y1 y2 y3 y4 y5
          have x0 := blk_cell HA4.out.is.blk 0
          have x1 := blk_cell HA4.out.is.blk 1
          have x2 := blk_cell HA4.out.is.blk 2
          have x3 := blk_cell HA4.out.is.blk 3
          have x4 := blk_cell HA4.out.is.blk 4
          have x5 := blk_cell HA4.out.is.blk 5
          simp at x0 x1 x2 x3 x4 x5
          by_cases hP : kind = 3 ∧ 2048 < pay.length
          · obtain ⟨hk3, hpl⟩ := hP
            have bk : (kind == 3) = true := by rw [beq_iff_eq]; exact hk3
            have bl : decide ((2048 : Int) < (pay.length : Int)) = true := by rw [decide_eq_true_iff]; omega
            have bl2 : decide (2048 < pay.length) = true := by rw [decide_eq_true_iff]; omega
            have HG5 := Lib.hid (HGT.out.trans (by rw [if_pos ⟨hk3, hpl⟩] : _ = (kind, id, (⟨#[]⟩ : ByteArray), (0 : Int), (0 : Int), ([] : List Int), (5 : Int), false)))
            clear hk3 hpl
            go_wp2_with fail
            refine bodyPost_ret (results_ctt rfl _ _ w.heap.size 26 (cmdC kind id ⟨#[]⟩ 0 0 (.slice none 0 0)) (0, 0) _ rfl (put6_blk HA4.out.z kind id ⟨#[]⟩ 0 0 (.slice none 0 0)) Tryd.underlying26 rfl (by kernel_rfl)) rfl (HP.out _ _ ?_)
            rw [HG5.out]
            exact ⟨⟨_, rfl, own_nil _ _ _ _⟩, put6_below HA4.out.bel (Nat.le_refl _) kind id ⟨#[]⟩ 0 0 (.slice none 0 0)⟩
          · have HGM := Lib.hid (HGT.out.trans (if_neg hP))
            have hbb : ((kind == 3) = true ∧ decide ((2048 : Int) < (pay.length : Int)) = false) ∨ (kind == 3) = false := by
              by_cases h3 : kind = 3
              · exact .inl ⟨by rw [beq_iff_eq]; exact h3, by rw [decide_eq_false_iff_not]; omega⟩
              · exact .inr (by rw [beq_eq_false_iff_ne]; exact h3)
            clear hP
            rcases hbb with ⟨bk, bl⟩ | bk
            all_goals
              go_wp2_with fail
              refine (cmay_calls _ w.heap.size kind id topic seq code pay A3 c3 HIN.out.1 HIN.out.2.1 HIN.out.2.2 (HA4.out.is.own)).mono ?_
              rintro e w5 ⟨rfl, hb5⟩
              have HA5 := Lib.hid (HA4.out.below hb5)
              clear hb5
              clear z0 z1 z2 z3 z4 z5 y0 y1 y2 y3 y4 y5 x0 x1 x2 x3 x4 x5 zf0 zf1 zf2 zf3 zf4 zf5
              have z0 := blk_cell HA5.out.z 0
              have z1 := blk_cell HA5.out.z 1
              have z2 := blk_cell HA5.out.z 2
              have z3 := blk_cell HA5.out.z 3
              have z4 := blk_cell HA5.out.z 4
              have z5 := blk_cell HA5.out.z 5
              have zf0 := blk_frozen HA5.out.z 0
              have zf1 := blk_frozen HA5.out.z 1
              have zf2 := blk_frozen HA5.out.z 2
              have zf3 := blk_frozen HA5.out.z 3
              have zf4 := blk_frozen HA5.out.z 4
              have zf5 := blk_frozen HA5.out.z 5
              simp at z0 z1 z2 z3 z4 z5
              have y0 := blk_cell HA5.out.b 0
              have y1 := blk_cell HA5.out.b 1
              have y2 := blk_cell HA5.out.b 2
              have y3 := blk_cell HA5.out.b 3
              have y4 := blk_cell HA5.out.b 4
              have y5 := blk_cell HA5.out.b 5
              simp at y0 y1 y2 y3 y4 y5
              have x0 := blk_cell HA5.out.is.blk 0
              have x1 := blk_cell HA5.out.is.blk 1
              have x2 := blk_cell HA5.out.is.blk 2
              have x3 := blk_cell HA5.out.is.blk 3
              have x4 := blk_cell HA5.out.is.blk 4
              have x5 := blk_cell HA5.out.is.blk 5
              simp at x0 x1 x2 x3 x4 x5
              cases hok : cmdOk kind topic seq code pay
              · have HG9 := Lib.hid (HGM.out.trans (if_neg (by rw [hok]; decide)))
                clear hok
                go_wp2_with fail
                refine bodyPost_ret (results_ctt rfl _ _ w.heap.size 26 (cmdC 0 0 ⟨#[]⟩ 0 0 (.slice none 0 0)) (0, 0) _ rfl (put6_blk HA5.out.z 0 0 ⟨#[]⟩ 0 0 (.slice none 0 0)) Tryd.underlying26 rfl (by kernel_rfl)) rfl (HP.out _ _ ?_)
                rw [HG9.out]
                exact ⟨⟨_, rfl, own_nil _ _ _ _⟩, put6_below HA5.out.bel (Nat.le_refl _) 0 0 ⟨#[]⟩ 0 0 (.slice none 0 0)⟩
              · have HG9 := Lib.hid (HGM.out.trans (if_pos hok))
                clear hok
                go_wp2_with fail
                refine bodyPost_ret (results_ctt rfl _ _ w.heap.size 26 (cmdC kind id topic seq code (.slice A3 pay.length c3)) (0, 0) _ rfl (put6_blk HA5.out.z kind id topic seq code (.slice A3 pay.length c3)) Tryd.underlying26 rfl (by kernel_rfl)) rfl (HP.out _ _ ?_)
                rw [HG9.out]
                exact ⟨⟨_, rfl, put6_own HA5.out.is.own (own_ne HA5.out.is.own HA5.out.z (by decide)) kind id topic seq code (.slice A3 pay.length c3)⟩, put6_below HA5.out.bel (Nat.le_refl _) kind id topic seq code (.slice A3 pay.length c3)⟩
      · rw [decide_eq_false hT]
        have HGT := Lib.hid (HGS.out.trans (if_neg (fun h => hT h.1)))
        clear hT
        clear z0 z1 z2 z3 z4 z5 y0 y1 y2 y3 y4 y5 x0 x1 x2 x3 x4 x5 zf0 zf1 zf2 zf3 zf4 zf5
        have z0 := blk_cell HA.out.z 0
        have z1 := blk_cell HA.out.z 1
        have z2 := blk_cell HA.out.z 2
        have z3 := blk_cell HA.out.z 3
        have z4 := blk_cell HA.out.z 4
        have z5 := blk_cell HA.out.z 5
        have zf0 := blk_frozen HA.out.z 0
        have zf1 := blk_frozen HA.out.z 1
        have zf2 := blk_frozen HA.out.z 2
        have zf3 := blk_frozen HA.out.z 3
        have zf4 := blk_frozen HA.out.z 4
        have zf5 := blk_frozen HA.out.z 5
        simp at z0 z1 z2 z3 z4 z5
        have y0 := blk_cell HA.out.b 0
        have y1 := blk_cell HA.out.b 1
        have y2 := blk_cell HA.out.b 2
        have y3 := blk_cell HA.out.b 3
        have y4 := blk_cell HA.out.b 4
        have y5 := blk_cell HA.out.b 5
        simp at y0 y1 y2 y3 y4 y5
        have x0 := blk_cell HA.out.is.blk 0
        have x1 := blk_cell HA.out.is.blk 1
        have x2 := blk_cell HA.out.is.blk 2
        have x3 := blk_cell HA.out.is.blk 3
        have x4 := blk_cell HA.out.is.blk 4
        have x5 := blk_cell HA.out.is.blk 5
        simp at x0 x1 x2 x3 x4 x5
        by_cases hP : kind = 3 ∧ 2048 < pay.length
        · obtain ⟨hk3, hpl⟩ := hP
          have bk : (kind == 3) = true := by rw [beq_iff_eq]; exact hk3
          have bl : decide ((2048 : Int) < (pay.length : Int)) = true := by rw [decide_eq_true_iff]; omega
          have bl2 : decide (2048 < pay.length) = true := by rw [decide_eq_true_iff]; omega
          have HG5 := Lib.hid (HGT.out.trans (by rw [if_pos ⟨hk3, hpl⟩] : _ = (kind, id, (⟨#[]⟩ : ByteArray), (0 : Int), (0 : Int), ([] : List Int), (5 : Int), false)))
          clear hk3 hpl
          go_wp2_with fail
          refine bodyPost_ret (results_ctt rfl _ _ w.heap.size 26 (cmdC kind id ⟨#[]⟩ 0 0 (.slice none 0 0)) (0, 0) _ rfl (put6_blk HA.out.z kind id ⟨#[]⟩ 0 0 (.slice none 0 0)) Tryd.underlying26 rfl (by kernel_rfl)) rfl (HP.out _ _ ?_)
          rw [HG5.out]
          exact ⟨⟨_, rfl, own_nil _ _ _ _⟩, put6_below HA.out.bel (Nat.le_refl _) kind id ⟨#[]⟩ 0 0 (.slice none 0 0)⟩
        · have HGM := Lib.hid (HGT.out.trans (if_neg hP))
          have hbb : ((kind == 3) = true ∧ decide ((2048 : Int) < (pay.length : Int)) = false) ∨ (kind == 3) = false := by
            by_cases h3 : kind = 3
            · exact .inl ⟨by rw [beq_iff_eq]; exact h3, by rw [decide_eq_false_iff_not]; omega⟩
            · exact .inr (by rw [beq_eq_false_iff_ne]; exact h3)
          clear hP
          rcases hbb with ⟨bk, bl⟩ | bk
          all_goals
            go_wp2_with fail
            refine (cmay_calls _ w.heap.size kind id topic seq code pay A3 c3 HIN.out.1 HIN.out.2.1 HIN.out.2.2 (HA.out.is.own)).mono ?_
            rintro e w5 ⟨rfl, hb5⟩
            have HA5 := Lib.hid (HA.out.below hb5)
            clear hb5
            clear z0 z1 z2 z3 z4 z5 y0 y1 y2 y3 y4 y5 x0 x1 x2 x3 x4 x5 zf0 zf1 zf2 zf3 zf4 zf5
            have z0 := blk_cell HA5.out.z 0
            have z1 := blk_cell HA5.out.z 1
            have z2 := blk_cell HA5.out.z 2
            have z3 := blk_cell HA5.out.z 3
            have z4 := blk_cell HA5.out.z 4
            have z5 := blk_cell HA5.out.z 5
            have zf0 := blk_frozen HA5.out.z 0
            have zf1 := blk_frozen HA5.out.z 1
            have zf2 := blk_frozen HA5.out.z 2
            have zf3 := blk_frozen HA5.out.z 3
            have zf4 := blk_frozen HA5.out.z 4
            have zf5 := blk_frozen HA5.out.z 5
            simp at z0 z1 z2 z3 z4 z5
            have y0 := blk_cell HA5.out.b 0
            have y1 := blk_cell HA5.out.b 1
            have y2 := blk_cell HA5.out.b 2
            have y3 := blk_cell HA5.out.b 3
            have y4 := blk_cell HA5.out.b 4
            have y5 := blk_cell HA5.out.b 5
            simp at y0 y1 y2 y3 y4 y5
            have x0 := blk_cell HA5.out.is.blk 0
            have x1 := blk_cell HA5.out.is.blk 1
            have x2 := blk_cell HA5.out.is.blk 2
            have x3 := blk_cell HA5.out.is.blk 3
            have x4 := blk_cell HA5.out.is.blk 4
            have x5 := blk_cell HA5.out.is.blk 5
            simp at x0 x1 x2 x3 x4 x5
            cases hok : cmdOk kind topic seq code pay
            · have HG9 := Lib.hid (HGM.out.trans (if_neg (by rw [hok]; decide)))
              clear hok
              go_wp2_with fail
              refine bodyPost_ret (results_ctt rfl _ _ w.heap.size 26 (cmdC 0 0 ⟨#[]⟩ 0 0 (.slice none 0 0)) (0, 0) _ rfl (put6_blk HA5.out.z 0 0 ⟨#[]⟩ 0 0 (.slice none 0 0)) Tryd.underlying26 rfl (by kernel_rfl)) rfl (HP.out _ _ ?_)
              rw [HG9.out]
              exact ⟨⟨_, rfl, own_nil _ _ _ _⟩, put6_below HA5.out.bel (Nat.le_refl _) 0 0 ⟨#[]⟩ 0 0 (.slice none 0 0)⟩
            · have HG9 := Lib.hid (HGM.out.trans (if_pos hok))
              clear hok
              go_wp2_with fail
              refine bodyPost_ret (results_ctt rfl _ _ w.heap.size 26 (cmdC kind id topic seq code (.slice A3 pay.length c3)) (0, 0) _ rfl (put6_blk HA5.out.z kind id topic seq code (.slice A3 pay.length c3)) Tryd.underlying26 rfl (by kernel_rfl)) rfl (HP.out _ _ ?_)
              rw [HG9.out]
              exact ⟨⟨_, rfl, put6_own HA5.out.is.own (own_ne HA5.out.is.own HA5.out.z (by decide)) kind id topic seq code (.slice A3 pay.length c3)⟩, put6_below HA5.out.bel (Nat.le_refl _) kind id topic seq code (.slice A3 pay.length c3)⟩
  · have y1 : (((((((((w.alloc (.cells (cmdC 0 0 ⟨#[]⟩ 0 0 (.slice none 0 0)) 26)).alloc (.cells (cmdC 0 0 ⟨#[]⟩ 0 0 (.slice none 0 0)) 26)).drewN (1 + n)).setCell ⟨w.heap.size + 1, 0, none⟩ (.int .u8 kind)).setCell ⟨w.heap.size + 1, 1, none⟩ (.int .u32 id)).setCell ⟨w.heap.size + 1, 2, none⟩ (.string ⟨#[]⟩)).setCell ⟨w.heap.size + 1, 3, none⟩ (.int .u64 0)).setCell ⟨w.heap.size + 1, 4, none⟩ (.int .u8 0)).setCell ⟨w.heap.size + 1, 5, none⟩ (.slice none 0 0)) = six w n kind id := rfl
    rw [y1]
    obtain ⟨hb2, z2, c2, s2⟩ := six_is w n kind id
    generalize six w n kind id = W2 at *
    have H2 := Lib.hid (And.intro hb2 (And.intro z2 (And.intro c2 s2)))
    clear hb2 z2 c2 s2 y1
    have q0 := blk_cell H2.out.2.2.1 0
    have q1 := blk_cell H2.out.2.2.1 1
    have q2 := blk_cell H2.out.2.2.1 2
    have q3 := blk_cell H2.out.2.2.1 3
    have q4 := blk_cell H2.out.2.2.1 4
    have q5 := blk_cell H2.out.2.2.1 5
    simp at q0 q1 q2 q3 q4 q5
    go_wp2_with fail
    have hbA := below_alloc H2.out.1 (.cells (cmdC kind id ⟨#[]⟩ 0 0 (.slice none 0 0)) 26)
    refine (rest_calls _ w.heap.size (w.heap.size + 1) kind id A2 (c - 5) L2 (Nat.le_succ _) HE.out.2 ⟨blk_alloc H2.out.2.2.1 _, own_nil _ _ _ _⟩ HR2.out.2.2.1 HR2.out.2.1 (HR2.out.1.below hbA) HE.out.1 HR2.out.2.2.2).mono ?_
    rintro e w3 ⟨⟨hb3, hk3⟩, hm⟩
    rw [HRR.out] at hm
    have hz3 := hk3.blk (blk_alloc H2.out.2.1 _) (Nat.ne_of_lt (Nat.lt_succ_self _)) (by simp)
    have hc3 := hk3.blk (blk_new W2 (.cells (cmdC kind id ⟨#[]⟩ 0 0 (.slice none 0 0)) 26)) (by rw [H2.out.2.2.2]; exact Nat.ne_of_gt (Nat.lt_succ_self _)) (by simp)
    have hB3 := hbA.trans hb3
    clear hb3 hk3 hbA q0 q1 q2 q3 q4 q5
    have HGG := HG.out
    rcases r with _ | ⟨topic, seq, code, pay⟩
    · simp only [getT] at hm HGG
      subst hm
      have z0 := blk_cell hz3 0
      have z1 := blk_cell hz3 1
      have z2 := blk_cell hz3 2
      have z3 := blk_cell hz3 3
      have z4 := blk_cell hz3 4
      have z5 := blk_cell hz3 5
      have zf0 := blk_frozen hz3 0
      have zf1 := blk_frozen hz3 1
      have zf2 := blk_frozen hz3 2
      have zf3 := blk_frozen hz3 3
      have zf4 := blk_frozen hz3 4
      have zf5 := blk_frozen hz3 5
      simp at z0 z1 z2 z3 z4 z5
      have HZ := Lib.hid hz3
      have H3 := Lib.hid hB3
      have HGN := Lib.hid HGG
      clear hz3 hc3 hB3 HGG HG HRR
      go_wp2_with fail
      refine bodyPost_ret (results_ctt rfl _ _ w.heap.size 26 (cmdC 0 0 ⟨#[]⟩ 0 0 (.slice none 0 0)) (0, 0) _ rfl (put6_blk HZ.out 0 0 ⟨#[]⟩ 0 0 (.slice none 0 0)) Tryd.underlying26 rfl (by kernel_rfl)) rfl (HP.out _ _ ?_)
      rw [HGN.out]
      exact ⟨⟨_, rfl, own_nil _ _ _ _⟩, put6_below H3.out (Nat.le_refl _) 0 0 ⟨#[]⟩ 0 0 (.slice none 0 0)⟩
    · simp only [getT] at hm HGG
      obtain ⟨rfl, v, hIs⟩ := hm
      obtain ⟨A3, c3, rfl⟩ := own_slice hIs.own
      have hin := restR_in HR2.out.2.2.2 HRR.out
      have HIN := Lib.hid (And.intro HE.out.2.1 (And.intro hin.2.1.1 (show topic.size ≤ 1000000000 by have := hin.2.2.2.2; have := HR2.out.2.2.1; omega)))
      have hpl9 : pay.length ≤ 100000 := by have := hin.2.2.2.1; have := HR2.out.2.2.1; omega
      have HA := Lib.hid (Aft.mk hz3 hc3 hIs hB3)
      have HGS := Lib.hid HGG
      clear hz3 hc3 hB3 hIs HGG HG HRR hin
      have z0 := blk_cell HA.out.z 0
      have z1 := blk_cell HA.out.z 1
      have z2 := blk_cell HA.out.z 2
      have z3 := blk_cell HA.out.z 3
      have z4 := blk_cell HA.out.z 4
      have z5 := blk_cell HA.out.z 5
      have zf0 := blk_frozen HA.out.z 0
      have zf1 := blk_frozen HA.out.z 1
      have zf2 := blk_frozen HA.out.z 2
      have zf3 := blk_frozen HA.out.z 3
      have zf4 := blk_frozen HA.out.z 4
      have zf5 := blk_frozen HA.out.z 5
      simp at z0 z1 z2 z3 z4 z5
      have y0 := blk_cell HA.out.b 0
      have y1 := blk_cell HA.out.b 1
      have y2 := blk_cell HA.out.b 2
      have y3 := blk_cell HA.out.b 3
      have y4 := blk_cell HA.out.b 4
      have y5 := blk_cell HA.out.b 5
      simp at y0 y1 y2 y3 y4 y5
      have x0 := blk_cell HA.out.is.blk 0
      have x1 := blk_cell HA.out.is.blk 1
      have x2 := blk_cell HA.out.is.blk 2
      have x3 := blk_cell HA.out.is.blk 3
      have x4 := blk_cell HA.out.is.blk 4
      have x5 := blk_cell HA.out.is.blk 5
      simp at x0 x1 x2 x3 x4 x5
      go_wp2_with fail
      refine (topics_calls _ kind HE.out.2).mono ?_
      rintro e w4 ⟨rfl, rfl⟩
      by_cases hT : kind = 1 ∨ kind = 3
      · rw [decide_eq_true hT]
        cases htok : topicOk topic
        · have HG1 := Lib.hid (HGS.out.trans (if_pos ⟨hT, htok⟩))
          have HTK := Lib.hid htok
          clear hT htok
          go_wp2_with fail
          refine (may_calls _ topic HIN.out.2.2).mono ?_
          rintro e w4 ⟨rfl, hb4⟩
          rw [HTK.out]
          have HA4 := Lib.hid (HA.out.below hb4)
          clear hb4 HTK
          clear z0 z1 z2 z3 z4 z5 y0 y1 y2 y3 y4 y5 x0 x1 x2 x3 x4 x5 zf0 zf1 zf2 zf3 zf4 zf5
          have z0 := blk_cell HA4.out.z 0
          have z1 := blk_cell HA4.out.z 1
          have z2 := blk_cell HA4.out.z 2
          have z3 := blk_cell HA4.out.z 3
          have z4 := blk_cell HA4.out.z 4
          have z5 := blk_cell HA4.out.z 5
          have zf0 := blk_frozen HA4.out.z 0
          have zf1 := blk_frozen HA4.out.z 1
          have zf2 := blk_frozen HA4.out.z 2
          have zf3 := blk_frozen HA4.out.z 3
          have zf4 := blk_frozen HA4.out.z 4
          have zf5 := blk_frozen HA4.out.z 5
          simp at z0 z1 z2 z3 z4 z5
          have y0 := blk_cell HA4.out.b 0
          have y1 := blk_cell HA4.out.b 1
          have y2 := blk_cell HA4.out.b 2
          have y3 := blk_cell HA4.out.b 3
          have y4 := blk_cell HA4.out.b 4
          have y5 := blk_cell HA4.out.b 5
          simp at y0 y1 y2 y3 y4 y5
          have x0 := blk_cell HA4.out.is.blk 0
          have x1 := blk_cell HA4.out.is.blk 1
          have x2 := blk_cell HA4.out.is.blk 2
          have x3 := blk_cell HA4.out.is.blk 3
          have x4 := blk_cell HA4.out.is.blk 4
          have x5 := blk_cell HA4.out.is.blk 5
          simp at x0 x1 x2 x3 x4 x5
          go_wp2_with fail
          refine bodyPost_ret (results_ctt rfl _ _ w.heap.size 26 (cmdC kind id ⟨#[]⟩ 0 0 (.slice none 0 0)) (0, 0) _ rfl (put6_blk HA4.out.z kind id ⟨#[]⟩ 0 0 (.slice none 0 0)) Tryd.underlying26 rfl (by kernel_rfl)) rfl (HP.out _ _ ?_)
          rw [HG1.out]
          exact ⟨⟨_, rfl, own_nil _ _ _ _⟩, put6_below HA4.out.bel (Nat.le_refl _) kind id ⟨#[]⟩ 0 0 (.slice none 0 0)⟩
        · have HGT := Lib.hid (HGS.out.trans (if_neg (fun h => by rw [htok] at h; exact Bool.noConfusion h.2)))
          have HTK := Lib.hid htok
          clear hT htok
          go_wp2_with fail
          refine (may_calls _ topic HIN.out.2.2).mono ?_
          rintro e w4 ⟨rfl, hb4⟩
          rw [HTK.out]
          have HA4 := Lib.hid (HA.out.below hb4)
          clear hb4 HTK
          clear z0 z1 z2 z3 z4 z5 y0 y1 y2 y3 y4 y5 x0 x1 x2 x3 x4 x5 zf0 zf1 zf2 zf3 zf4 zf5
          have z0 := blk_cell HA4.out.z 0
          have z1 := blk_cell HA4.out.z 1
          have z2 := blk_cell HA4.out.z 2
          have z3 := blk_cell HA4.out.z 3
          have z4 := blk_cell HA4.out.z 4
          have z5 := blk_cell HA4.out.z 5
          have zf0 := blk_frozen HA4.out.z 0
          have zf1 := blk_frozen HA4.out.z 1
          have zf2 := blk_frozen HA4.out.z 2
          have zf3 := blk_frozen HA4.out.z 3
          have zf4 := blk_frozen HA4.out.z 4
          have zf5 := blk_frozen HA4.out.z 5
          simp at z0 z1 z2 z3 z4 z5
          have y0 := blk_cell HA4.out.b 0
          have y1 := blk_cell HA4.out.b 1
          have y2 := blk_cell HA4.out.b 2
          have y3 := blk_cell HA4.out.b 3
          have y4 := blk_cell HA4.out.b 4
          have y5 := blk_cell HA4.out.b 5
          simp at y0 y1 y2 y3 y4 y5
          have x0 := blk_cell HA4.out.is.blk 0
          have x1 := blk_cell HA4.out.is.blk 1
          have x2 := blk_cell HA4.out.is.blk 2
          have x3 := blk_cell HA4.out.is.blk 3
          have x4 := blk_cell HA4.out.is.blk 4
          have x5 := blk_cell HA4.out.is.blk 5
          simp at x0 x1 x2 x3 x4 x5
          by_cases hP : kind = 3 ∧ 2048 < pay.length
          · obtain ⟨hk3, hpl⟩ := hP
            have bk : (kind == 3) = true := by rw [beq_iff_eq]; exact hk3
            have bl : decide ((2048 : Int) < (pay.length : Int)) = true := by rw [decide_eq_true_iff]; omega
            have bl2 : decide (2048 < pay.length) = true := by rw [decide_eq_true_iff]; omega
            have HG5 := Lib.hid (HGT.out.trans (by rw [if_pos ⟨hk3, hpl⟩] : _ = (kind, id, (⟨#[]⟩ : ByteArray), (0 : Int), (0 : Int), ([] : List Int), (5 : Int), false)))
            clear hk3 hpl
            go_wp2_with fail
            refine bodyPost_ret (results_ctt rfl _ _ w.heap.size 26 (cmdC kind id ⟨#[]⟩ 0 0 (.slice none 0 0)) (0, 0) _ rfl (put6_blk HA4.out.z kind id ⟨#[]⟩ 0 0 (.slice none 0 0)) Tryd.underlying26 rfl (by kernel_rfl)) rfl (HP.out _ _ ?_)
            rw [HG5.out]
            exact ⟨⟨_, rfl, own_nil _ _ _ _⟩, put6_below HA4.out.bel (Nat.le_refl _) kind id ⟨#[]⟩ 0 0 (.slice none 0 0)⟩
          · have HGM := Lib.hid (HGT.out.trans (if_neg hP))
            have hbb : ((kind == 3) = true ∧ decide ((2048 : Int) < (pay.length : Int)) = false) ∨ (kind == 3) = false := by
              by_cases h3 : kind = 3
              · exact .inl ⟨by rw [beq_iff_eq]; exact h3, by rw [decide_eq_false_iff_not]; omega⟩
              · exact .inr (by rw [beq_eq_false_iff_ne]; exact h3)
            clear hP
            rcases hbb with ⟨bk, bl⟩ | bk
            all_goals
              go_wp2_with fail
              refine (cmay_calls _ w.heap.size kind id topic seq code pay A3 c3 HIN.out.1 HIN.out.2.1 HIN.out.2.2 (HA4.out.is.own)).mono ?_
              rintro e w5 ⟨rfl, hb5⟩
              have HA5 := Lib.hid (HA4.out.below hb5)
              clear hb5
              clear z0 z1 z2 z3 z4 z5 y0 y1 y2 y3 y4 y5 x0 x1 x2 x3 x4 x5 zf0 zf1 zf2 zf3 zf4 zf5
              have z0 := blk_cell HA5.out.z 0
              have z1 := blk_cell HA5.out.z 1
              have z2 := blk_cell HA5.out.z 2
              have z3 := blk_cell HA5.out.z 3
              have z4 := blk_cell HA5.out.z 4
              have z5 := blk_cell HA5.out.z 5
              have zf0 := blk_frozen HA5.out.z 0
              have zf1 := blk_frozen HA5.out.z 1
              have zf2 := blk_frozen HA5.out.z 2
              have zf3 := blk_frozen HA5.out.z 3
              have zf4 := blk_frozen HA5.out.z 4
              have zf5 := blk_frozen HA5.out.z 5
              simp at z0 z1 z2 z3 z4 z5
              have y0 := blk_cell HA5.out.b 0
              have y1 := blk_cell HA5.out.b 1
              have y2 := blk_cell HA5.out.b 2
              have y3 := blk_cell HA5.out.b 3
              have y4 := blk_cell HA5.out.b 4
              have y5 := blk_cell HA5.out.b 5
              simp at y0 y1 y2 y3 y4 y5
              have x0 := blk_cell HA5.out.is.blk 0
              have x1 := blk_cell HA5.out.is.blk 1
              have x2 := blk_cell HA5.out.is.blk 2
              have x3 := blk_cell HA5.out.is.blk 3
              have x4 := blk_cell HA5.out.is.blk 4
              have x5 := blk_cell HA5.out.is.blk 5
              simp at x0 x1 x2 x3 x4 x5
              cases hok : cmdOk kind topic seq code pay
              · have HG9 := Lib.hid (HGM.out.trans (if_neg (by rw [hok]; decide)))
                clear hok
                go_wp2_with fail
                refine bodyPost_ret (results_ctt rfl _ _ w.heap.size 26 (cmdC 0 0 ⟨#[]⟩ 0 0 (.slice none 0 0)) (0, 0) _ rfl (put6_blk HA5.out.z 0 0 ⟨#[]⟩ 0 0 (.slice none 0 0)) Tryd.underlying26 rfl (by kernel_rfl)) rfl (HP.out _ _ ?_)
                rw [HG9.out]
                exact ⟨⟨_, rfl, own_nil _ _ _ _⟩, put6_below HA5.out.bel (Nat.le_refl _) 0 0 ⟨#[]⟩ 0 0 (.slice none 0 0)⟩
              · have HG9 := Lib.hid (HGM.out.trans (if_pos hok))
                clear hok
                go_wp2_with fail
                refine bodyPost_ret (results_ctt rfl _ _ w.heap.size 26 (cmdC kind id topic seq code (.slice A3 pay.length c3)) (0, 0) _ rfl (put6_blk HA5.out.z kind id topic seq code (.slice A3 pay.length c3)) Tryd.underlying26 rfl (by kernel_rfl)) rfl (HP.out _ _ ?_)
                rw [HG9.out]
                exact ⟨⟨_, rfl, put6_own HA5.out.is.own (own_ne HA5.out.is.own HA5.out.z (by decide)) kind id topic seq code (.slice A3 pay.length c3)⟩, put6_below HA5.out.bel (Nat.le_refl _) kind id topic seq code (.slice A3 pay.length c3)⟩
      · rw [decide_eq_false hT]
        have HGT := Lib.hid (HGS.out.trans (if_neg (fun h => hT h.1)))
        clear hT
        clear z0 z1 z2 z3 z4 z5 y0 y1 y2 y3 y4 y5 x0 x1 x2 x3 x4 x5 zf0 zf1 zf2 zf3 zf4 zf5
        have z0 := blk_cell HA.out.z 0
        have z1 := blk_cell HA.out.z 1
        have z2 := blk_cell HA.out.z 2
        have z3 := blk_cell HA.out.z 3
        have z4 := blk_cell HA.out.z 4
        have z5 := blk_cell HA.out.z 5
        have zf0 := blk_frozen HA.out.z 0
        have zf1 := blk_frozen HA.out.z 1
        have zf2 := blk_frozen HA.out.z 2
        have zf3 := blk_frozen HA.out.z 3
        have zf4 := blk_frozen HA.out.z 4
        have zf5 := blk_frozen HA.out.z 5
        simp at z0 z1 z2 z3 z4 z5
        have y0 := blk_cell HA.out.b 0
        have y1 := blk_cell HA.out.b 1
        have y2 := blk_cell HA.out.b 2
        have y3 := blk_cell HA.out.b 3
        have y4 := blk_cell HA.out.b 4
        have y5 := blk_cell HA.out.b 5
        simp at y0 y1 y2 y3 y4 y5
        have x0 := blk_cell HA.out.is.blk 0
        have x1 := blk_cell HA.out.is.blk 1
        have x2 := blk_cell HA.out.is.blk 2
        have x3 := blk_cell HA.out.is.blk 3
        have x4 := blk_cell HA.out.is.blk 4
        have x5 := blk_cell HA.out.is.blk 5
        simp at x0 x1 x2 x3 x4 x5
        by_cases hP : kind = 3 ∧ 2048 < pay.length
        · obtain ⟨hk3, hpl⟩ := hP
          have bk : (kind == 3) = true := by rw [beq_iff_eq]; exact hk3
          have bl : decide ((2048 : Int) < (pay.length : Int)) = true := by rw [decide_eq_true_iff]; omega
          have bl2 : decide (2048 < pay.length) = true := by rw [decide_eq_true_iff]; omega
          have HG5 := Lib.hid (HGT.out.trans (by rw [if_pos ⟨hk3, hpl⟩] : _ = (kind, id, (⟨#[]⟩ : ByteArray), (0 : Int), (0 : Int), ([] : List Int), (5 : Int), false)))
          clear hk3 hpl
          go_wp2_with fail
          refine bodyPost_ret (results_ctt rfl _ _ w.heap.size 26 (cmdC kind id ⟨#[]⟩ 0 0 (.slice none 0 0)) (0, 0) _ rfl (put6_blk HA.out.z kind id ⟨#[]⟩ 0 0 (.slice none 0 0)) Tryd.underlying26 rfl (by kernel_rfl)) rfl (HP.out _ _ ?_)
          rw [HG5.out]
          exact ⟨⟨_, rfl, own_nil _ _ _ _⟩, put6_below HA.out.bel (Nat.le_refl _) kind id ⟨#[]⟩ 0 0 (.slice none 0 0)⟩
        · have HGM := Lib.hid (HGT.out.trans (if_neg hP))
          have hbb : ((kind == 3) = true ∧ decide ((2048 : Int) < (pay.length : Int)) = false) ∨ (kind == 3) = false := by
            by_cases h3 : kind = 3
            · exact .inl ⟨by rw [beq_iff_eq]; exact h3, by rw [decide_eq_false_iff_not]; omega⟩
            · exact .inr (by rw [beq_eq_false_iff_ne]; exact h3)
          clear hP
          rcases hbb with ⟨bk, bl⟩ | bk
          all_goals
            go_wp2_with fail
            refine (cmay_calls _ w.heap.size kind id topic seq code pay A3 c3 HIN.out.1 HIN.out.2.1 HIN.out.2.2 (HA.out.is.own)).mono ?_
            rintro e w5 ⟨rfl, hb5⟩
            have HA5 := Lib.hid (HA.out.below hb5)
            clear hb5
            clear z0 z1 z2 z3 z4 z5 y0 y1 y2 y3 y4 y5 x0 x1 x2 x3 x4 x5 zf0 zf1 zf2 zf3 zf4 zf5
            have z0 := blk_cell HA5.out.z 0
            have z1 := blk_cell HA5.out.z 1
            have z2 := blk_cell HA5.out.z 2
            have z3 := blk_cell HA5.out.z 3
            have z4 := blk_cell HA5.out.z 4
            have z5 := blk_cell HA5.out.z 5
            have zf0 := blk_frozen HA5.out.z 0
            have zf1 := blk_frozen HA5.out.z 1
            have zf2 := blk_frozen HA5.out.z 2
            have zf3 := blk_frozen HA5.out.z 3
            have zf4 := blk_frozen HA5.out.z 4
            have zf5 := blk_frozen HA5.out.z 5
            simp at z0 z1 z2 z3 z4 z5
            have y0 := blk_cell HA5.out.b 0
            have y1 := blk_cell HA5.out.b 1
            have y2 := blk_cell HA5.out.b 2
            have y3 := blk_cell HA5.out.b 3
            have y4 := blk_cell HA5.out.b 4
            have y5 := blk_cell HA5.out.b 5
            simp at y0 y1 y2 y3 y4 y5
            have x0 := blk_cell HA5.out.is.blk 0
            have x1 := blk_cell HA5.out.is.blk 1
            have x2 := blk_cell HA5.out.is.blk 2
            have x3 := blk_cell HA5.out.is.blk 3
            have x4 := blk_cell HA5.out.is.blk 4
            have x5 := blk_cell HA5.out.is.blk 5
            simp at x0 x1 x2 x3 x4 x5
            cases hok : cmdOk kind topic seq code pay
            · have HG9 := Lib.hid (HGM.out.trans (if_neg (by rw [hok]; decide)))
              clear hok
              go_wp2_with fail
              refine bodyPost_ret (results_ctt rfl _ _ w.heap.size 26 (cmdC 0 0 ⟨#[]⟩ 0 0 (.slice none 0 0)) (0, 0) _ rfl (put6_blk HA5.out.z 0 0 ⟨#[]⟩ 0 0 (.slice none 0 0)) Tryd.underlying26 rfl (by kernel_rfl)) rfl (HP.out _ _ ?_)
              rw [HG9.out]
              exact ⟨⟨_, rfl, own_nil _ _ _ _⟩, put6_below HA5.out.bel (Nat.le_refl _) 0 0 ⟨#[]⟩ 0 0 (.slice none 0 0)⟩
            · have HG9 := Lib.hid (HGM.out.trans (if_pos hok))
              clear hok
              go_wp2_with fail
              refine bodyPost_ret (results_ctt rfl _ _ w.heap.size 26 (cmdC kind id topic seq code (.slice A3 pay.length c3)) (0, 0) _ rfl (put6_blk HA5.out.z kind id topic seq code (.slice A3 pay.length c3)) Tryd.underlying26 rfl (by kernel_rfl)) rfl (HP.out _ _ ?_)
              rw [HG9.out]
              exact ⟨⟨_, rfl, put6_own HA5.out.is.own (own_ne HA5.out.is.own HA5.out.z (by decide)) kind id topic seq code (.slice A3 pay.length c3)⟩, put6_below HA5.out.bel (Nat.le_refl _) kind id topic seq code (.slice A3 pay.length c3)⟩
end Go.Proofs.YtkgedjaihimafaaDoor

/- command.Get: its contract in the printed form. -/
namespace Go.Proofs.YtkgedjaihimafaaDoor
set_option linter.unusedVariables false
set_option linter.unusedSimpArgs false
open Go.RowKit Go.Proofs.YtkgedjaihimafaaDoorW.PrintWords Go.Proofs.YtkgedjaihimafaaDoor.QCmd Go.Proofs.YtkgedjaihimafaaDoor.Given

theorem get_calls (w : World) (A : Option Addr) (c : Nat) (l : List Int) (hl : l.length ≤ 100000) (hlc : l.length ≤ c) (hR : ReadsInt w .u8 A l.length l) (hby : Byte8 l) :
    Calls Tryd.prog 14 #[.slice A l.length c] w (GetPost w (getR l)) := by
  by_cases h5 : l.length < 5
  · have e : getR l = (0, 0, ⟨#[]⟩, 0, 0, [], 0, false) := by unfold getR; rw [if_pos h5]
    rw [e]
    exact get_short w A c l h5
  · have h4 := (split5 h5).2
    have hv := valL_bound (l := (l.take 5).drop 1) (fun y hy => hby y (List.mem_of_mem_take (List.mem_of_mem_drop hy)))
    rw [h4] at hv
    exact get_long w A c l h5 hl hlc hR hby _ rfl _ rfl hv.1 (by have := hv.2; omega) _ rfl

namespace Given
def byteB (l : List Int) : Bool := l.all fun x => decide (0 ≤ x) && decide (x ≤ 255)
theorem byteB_iff {l : List Int} : byteB l = true ↔ Byte8 l := by
  unfold byteB Byte8
  simp
def command_Get.f (l0 : List Int) : Option (Int × Int × ByteArray × Int × Int × List Int × Int × Bool) := if l0.length ≤ 100000 ∧ byteB l0 = true then some (getR l0) else none
theorem command_Get.calls (A0 : Option Addr) (c0 : Nat) (l0 : List Int) (r0 r1 : Int) (r2 : ByteArray) (r3 r4 : Int) (r5 : List Int) (r6 : Int) (r7 : Bool) (w : World) (hr0 : Kd.C (Kd.int .u8) w A0 l0.length l0) (hc0 : l0.length ≤ c0) (h : command_Get.f l0 = some (r0, r1, r2, r3, r4, r5, r6, r7)) :
    Calls Tryd.prog 14 #[.slice A0 l0.length c0] w fun e w' => ∃ v0_ : Value, e = .returned (.tuple #[.agg #[.int .u8 r0, .int .u32 r1, .string r2, .int .u64 r3, .int .u8 r4, v0_], .int .u8 r6, .bool r7]) ∧ Kd.R (Kd.int .u8) 5 w' w.heap.size (fun _ => True) v0_ r5 ∧ Below w.heap.size w w' := by
  unfold command_Get.f at h
  split at h
  · rename_i hs
    injection h with h
    have hR : ReadsInt w .u8 A0 l0.length l0 := Kd.reads_of_C (d := (0 : Int)) hr0
    refine (get_calls w A0 c0 l0 hs.1 hc0 hR (byteB_iff.1 hs.2)).mono fun e w' hp => ?_
    rw [h] at hp
    obtain ⟨⟨v, he, ho⟩, hb⟩ := hp
    exact ⟨v, he, Kd.R_of_own ho (fun _ _ => trivial), hb⟩
  · cases h
end Given
end Go.Proofs.YtkgedjaihimafaaDoor

/- Printed by a program of this claim's author (wip/pr.py); not trusted: Lean checks it. -/
namespace Go.Proofs.YtkgedjaihimafaaDoor.QCmdP
open Go.Proofs.YtkgedjaihimafaaDoor Go.Proofs.YtkgedjaihimafaaDoor.Given Go.Proofs.YtkgedjaihimafaaDoor.QCmd
open Go.RowKit Go.Proofs.YtkgedjaihimafaaDoorW.PrintWords Go.Proofs.YtkgedjaihimafaaDoorW.PrintLast Go.Proofs.YtkgedjaihimafaaDoorW.PrintMore
attribute [local go_sem] max2_int min2_int max_two min_two max_three min_three max_four min_four   -- for this text's walks alone
set_option linter.unusedVariables false
set_option linter.unusedSimpArgs false



def errW : Option Int → Value
 | none => .nilIface
 | some c => .iface 0 (.int .i64 c)
theorem errW_none : errW none = .nilIface := rfl
theorem errW_some (c : Int) : errW (some c) = .iface 0 (.int .i64 c) := rfl

theorem info5 : (Tryd.prog.info? 5).map (fun i => (i.zero, i.size, i.bytes)) = some (some (.int .u8 0), 1, 1) := by kernel_rfl
-- the values' own types

end Go.Proofs.YtkgedjaihimafaaDoor.QCmdP

/- Printed by a program of this claim's author (wip/pr.py); not trusted: Lean checks it. -/
namespace Go.Proofs.YtkgedjaihimafaaDoor.QCmdP
open Go.Proofs.YtkgedjaihimafaaDoor Go.Proofs.YtkgedjaihimafaaDoor.Given Go.Proofs.YtkgedjaihimafaaDoor.QCmd
open Go.RowKit Go.Proofs.YtkgedjaihimafaaDoorW.PrintWords Go.Proofs.YtkgedjaihimafaaDoorW.PrintLast Go.Proofs.YtkgedjaihimafaaDoorW.PrintMore
attribute [local go_sem] max2_int min2_int max_two min_two max_three min_three max_four min_four   -- for this text's walks alone
set_option linter.unusedVariables false
set_option linter.unusedSimpArgs false

-- given: function 16 (louverref21_May)

/-! ### louverlaw22_CommandWhy: function 5 -/
def louverlaw22_CommandWhy.j0 : Nat → ByteArray → Int → Int → Bool → Bool → Int → Int → ByteArray → Int → Int → List Int → Option (Bool)
 | 0, _, _, _, _, _, _, _, _, _, _, _ => none
 | k + 1, x1, x7, x10, x11, x53, x163000, x163001, x163002, x163003, x163004, x163005 => if x53 = true then (some false) else ((louverref21_May.f k x1).bind fun t163 => (if t163 = true then (if x7 > 2048 then ((louverlaw22_fixed.f k).bind fun t164 => (if t164 = true then (if x10 = 5 then (if x11 = true then (some false) else (if x163002.toList = ([] : List UInt8) then (some ((x163005.length : Int) == 0)) else (some false))) else (some false)) else (some false))) else ((louverlaw22_fixed.f k).bind fun t165 => (if t165 = true then (if x10 = 0 then (if x11 = true then (if x163002.toList = x1.toList then (some ((x163005.length : Int) == x7)) else (some false)) else (some false)) else (some false)) else (some false)))) else ((louverlaw22_fixed.f k).bind fun t166 => (if t166 = true then (if x10 = 1 then (if x11 = true then (some false) else (if x163002.toList = ([] : List UInt8) then (some ((x163005.length : Int) == 0)) else (some false))) else (some false)) else (some false)))))
def louverlaw22_CommandWhy.f (k : Nat) (a0 : Int) (a1 : ByteArray) (a2 : Int) : Option (Bool) := if (a1.size : Int) > 200 then ((louverlaw22_fixed.f k).bind fun t142 => (some t142)) else ((some (([3, (a0 / 16777216) % 256, (a0 / 65536) % 256, (a0 / 256) % 256, (a0) % 256, ((a1.size : Int)) % 256] : List Int) : List Int)).bind fun y143 => (if y143.length + a1.size < 140737488355328 then ((some (y143 ++ bytesOf a1 : List Int)).bind fun y146 => (if 0 ≤ (Int.tmod (wrap64 (a2)) 5001) then (if y146.length + (Int.tmod (wrap64 (a2)) 5001 : Int).toNat < 140737488355328 then ((command_Get.f (y146 ++ List.replicate (Int.tmod (wrap64 (a2)) 5001 : Int).toNat 0)).bind fun bt152 => (if bt152.1 = 3 then (louverlaw22_CommandWhy.j0 k a1 (Int.tmod (wrap64 (a2)) 5001) bt152.2.2.2.2.2.2.1 bt152.2.2.2.2.2.2.2 (bt152.2.1 != a0) bt152.1 bt152.2.1 bt152.2.2.1 bt152.2.2.2.1 bt152.2.2.2.2.1 bt152.2.2.2.2.2.1) else (louverlaw22_CommandWhy.j0 k a1 (Int.tmod (wrap64 (a2)) 5001) bt152.2.2.2.2.2.2.1 bt152.2.2.2.2.2.2.2 true bt152.1 bt152.2.1 bt152.2.2.1 bt152.2.2.2.1 bt152.2.2.2.2.1 bt152.2.2.2.2.2.1))) else (none)) else (none))) else (none)))
theorem louverlaw22_CommandWhy.mono_l : ∀ k, (∀ y0 y1 y2 y3 y4 y5 y6 y7 y8 y9 y10, LeO (louverlaw22_CommandWhy.j0 k y0 y1 y2 y3 y4 y5 y6 y7 y8 y9 y10) (louverlaw22_CommandWhy.j0 (k + 1) y0 y1 y2 y3 y4 y5 y6 y7 y8 y9 y10))
 | 0 => fun _ _ _ _ _ _ _ _ _ _ _ r h => by simp [louverlaw22_CommandWhy.j0] at h
 | k + 1 => by
  have ih0 := louverlaw22_CommandWhy.mono_l k
  ·intro y0 y1 y2 y3 y4 y5 y6 y7 y8 y9 y10
   unfold louverlaw22_CommandWhy.j0
   repeat' first
   | (with_reducible exact ih0 _ _ _ _ _ _ _ _ _ _ _)
   | (with_reducible exact louverlaw22_fixed.mono _)
   | (with_reducible exact louverref21_May.mono _ _)
   | (with_reducible exact LeO.refl _)
   | (with_reducible exact LeO.none _)
   | (with_reducible refine LeO.ite ?_ ?_)
   | (with_reducible refine LeO.bind ?_ (fun _ => ?_))
   | exact ih0 _ _ _ _ _ _ _ _ _ _ _
   | exact louverlaw22_fixed.mono _
   | exact louverref21_May.mono _ _
   | exact LeO.none _
   | refine LeO.ite ?_ ?_
   | refine LeO.bind ?_ (fun _ => ?_)
theorem louverlaw22_CommandWhy.mono : ∀ a0 a1 a2 k, LeO (louverlaw22_CommandWhy.f k a0 a1 a2) (louverlaw22_CommandWhy.f (k + 1) a0 a1 a2) := by
 intro a0 a1 a2 k
 have ih0 := louverlaw22_CommandWhy.mono_l k
 unfold louverlaw22_CommandWhy.f
 repeat' first
   | (with_reducible exact ih0 _ _ _ _ _ _ _ _ _ _ _)
   | (with_reducible exact louverlaw22_fixed.mono _)
   | (with_reducible exact louverref21_May.mono _ _)
   | (with_reducible exact LeO.refl _)
   | (with_reducible exact LeO.none _)
   | (with_reducible refine LeO.ite ?_ ?_)
   | (with_reducible refine LeO.bind ?_ (fun _ => ?_))
   | exact ih0 _ _ _ _ _ _ _ _ _ _ _
   | exact louverlaw22_fixed.mono _
   | exact louverref21_May.mono _ _
   | exact LeO.none _
   | refine LeO.ite ?_ ?_
   | refine LeO.bind ?_ (fun _ => ?_)
set_option maxHeartbeats 8000000 in
set_option maxRecDepth 100000 in
theorem louverlaw22_CommandWhy.calls (k : Nat) (a0 : Int) (a1 : ByteArray) (a2 : Int) (r : Bool) (w : World) (h : louverlaw22_CommandWhy.f k a0 a1 a2 = some r) :
  Calls Tryd.prog 5 #[.int .u32 a0, .string a1, .int .u16 a2] w fun e w' => e = .returned (.bool r) ∧ Below w.heap.size w w' := by
 have hu26 := Tryd.underlying26
 have HB := Aside0.mk (Below.refl w.heap.size w)
 have H : (if (a1.size : Int) > 200 then ((louverlaw22_fixed.f k).bind fun t142 => (some t142)) else ((some (([3, (a0 / 16777216) % 256, (a0 / 65536) % 256, (a0 / 256) % 256, (a0) % 256, ((a1.size : Int)) % 256] : List Int) : List Int)).bind fun y143 => (if y143.length + a1.size < 140737488355328 then ((some (y143 ++ bytesOf a1 : List Int)).bind fun y146 => (if 0 ≤ (Int.tmod (wrap64 (a2)) 5001) then (if y146.length + (Int.tmod (wrap64 (a2)) 5001 : Int).toNat < 140737488355328 then ((command_Get.f (y146 ++ List.replicate (Int.tmod (wrap64 (a2)) 5001 : Int).toNat 0)).bind fun bt152 => (if bt152.1 = 3 then (louverlaw22_CommandWhy.j0 k a1 (Int.tmod (wrap64 (a2)) 5001) bt152.2.2.2.2.2.2.1 bt152.2.2.2.2.2.2.2 (bt152.2.1 != a0) bt152.1 bt152.2.1 bt152.2.2.1 bt152.2.2.2.1 bt152.2.2.2.2.1 bt152.2.2.2.2.2.1) else (louverlaw22_CommandWhy.j0 k a1 (Int.tmod (wrap64 (a2)) 5001) bt152.2.2.2.2.2.2.1 bt152.2.2.2.2.2.2.2 true bt152.1 bt152.2.1 bt152.2.2.1 bt152.2.2.2.1 bt152.2.2.2.2.1 bt152.2.2.2.2.2.1))) else (none)) else (none))) else (none)))) = some r := h
 clear h
 by_cases c4 : (a1.size : Int) > 200
 ·rw [if_pos c4] at H
  have c4b0 : decide (200 < (a1.size : Int)) = true := decide_eq_true c4
  have c4b1 : decide (200 < a1.size) = true := decide_eq_true (by omega)
  clear c4
  replace H := Option.bind_eq_some_iff.mp H
  obtain ⟨t142, A50, H⟩ := H
  replace H : (some t142) = some r := H
  have A5 := Aside0.mk A50
  clear A50
  obtain rfl := Option.some.inj H
  have hBNE_ := isEmpty_bne
  go_enter Tryd.func5, Tryd.ntmps5
  go_wp2_with (first | ((with_reducible refine gate_callee (f := 11) rfl ?_); refine goesL_ (some 15) rfl rfl Tryd.func11 (by kernel_rfl) rfl #[] rfl (by (try simp only [List.map_toArray, List.map_cons, List.map_nil]); first | done | rfl | (simp only [List.length_drop, List.length_take]; rfl)) ?_; (with_reducible refine (louverlaw22_fixed.calls k  t142 _ A5.out).mono ?_); rintro e w6 ⟨rfl, hb⟩; refine ⟨_, rfl, ?_⟩; have n0_ := Aside0.mk (below_step (by repeat (first | (with_reducible first | exact HB.out | apply below_alloc | apply pw_below_drewN | apply below_drew1) | exact HB.out)) hb); clear HB; have HB := n0_; clear n0_; (try clear hb); (try clear hb2); (try clear hk); (try clear hi)))
  go_ret
  exact ⟨by first | rfl | (simp [errW_none, errW_some] <;> rfl) | (simp [*, errW_none, errW_some] <;> rfl), by repeat (first | (with_reducible first | exact HB.out | apply below_alloc | apply pw_below_drewN | apply below_drew1) | exact HB.out)⟩
 ·rw [if_neg c4] at H
  have c4b0 : decide (200 < (a1.size : Int)) = false := decide_eq_false c4
  have c4b1 : decide (200 < a1.size) = false := decide_eq_false (by omega)
  clear c4
  obtain ⟨y143, hy143⟩ : ∃ y_ : List Int, y_ = (([3, (a0 / 16777216) % 256, (a0 / 65536) % 256, (a0 / 256) % 256, (a0) % 256, ((a1.size : Int)) % 256] : List Int)) := ⟨_, rfl⟩
  replace H : (if y143.length + a1.size < 140737488355328 then ((some (y143 ++ bytesOf a1 : List Int)).bind fun y146 => (if 0 ≤ (Int.tmod (wrap64 (a2)) 5001) then (if y146.length + (Int.tmod (wrap64 (a2)) 5001 : Int).toNat < 140737488355328 then ((command_Get.f (y146 ++ List.replicate (Int.tmod (wrap64 (a2)) 5001 : Int).toNat 0)).bind fun bt152 => (if bt152.1 = 3 then (louverlaw22_CommandWhy.j0 k a1 (Int.tmod (wrap64 (a2)) 5001) bt152.2.2.2.2.2.2.1 bt152.2.2.2.2.2.2.2 (bt152.2.1 != a0) bt152.1 bt152.2.1 bt152.2.2.1 bt152.2.2.2.1 bt152.2.2.2.2.1 bt152.2.2.2.2.2.1) else (louverlaw22_CommandWhy.j0 k a1 (Int.tmod (wrap64 (a2)) 5001) bt152.2.2.2.2.2.2.1 bt152.2.2.2.2.2.2.2 true bt152.1 bt152.2.1 bt152.2.2.1 bt152.2.2.2.1 bt152.2.2.2.2.1 bt152.2.2.2.2.2.1))) else (none)) else (none))) else (none)) = some r := by first | (rw [hy143]; with_reducible exact H) | (have H2_ := (Option.bind_some _ _).symm.trans H; rw [hy143]; with_reducible exact H2_) | (have H2_ := (Option.bind_some _ _).symm.trans H; with_reducible exact H2_) | with_reducible exact H | (rw [hy143]; exact H) | exact H
  have Ny143 := Aside0.mk hy143
  clear hy143
  by_cases c7 : y143.length + a1.size < 140737488355328
  ·rw [if_pos c7] at H
   have LMc7 := Aside0.mk c7
   clear c7
   obtain ⟨y146, hy146⟩ : ∃ y_ : List Int, y_ = (y143 ++ bytesOf a1) := ⟨_, rfl⟩
   replace H : (if 0 ≤ (Int.tmod (wrap64 (a2)) 5001) then (if y146.length + (Int.tmod (wrap64 (a2)) 5001 : Int).toNat < 140737488355328 then ((command_Get.f (y146 ++ List.replicate (Int.tmod (wrap64 (a2)) 5001 : Int).toNat 0)).bind fun bt152 => (if bt152.1 = 3 then (louverlaw22_CommandWhy.j0 k a1 (Int.tmod (wrap64 (a2)) 5001) bt152.2.2.2.2.2.2.1 bt152.2.2.2.2.2.2.2 (bt152.2.1 != a0) bt152.1 bt152.2.1 bt152.2.2.1 bt152.2.2.2.1 bt152.2.2.2.2.1 bt152.2.2.2.2.2.1) else (louverlaw22_CommandWhy.j0 k a1 (Int.tmod (wrap64 (a2)) 5001) bt152.2.2.2.2.2.2.1 bt152.2.2.2.2.2.2.2 true bt152.1 bt152.2.1 bt152.2.2.1 bt152.2.2.2.1 bt152.2.2.2.2.1 bt152.2.2.2.2.2.1))) else (none)) else (none)) = some r := by first | (rw [hy146]; with_reducible exact H) | (have H2_ := (Option.bind_some _ _).symm.trans H; rw [hy146]; with_reducible exact H2_) | (have H2_ := (Option.bind_some _ _).symm.trans H; with_reducible exact H2_) | with_reducible exact H | (rw [hy146]; exact H) | exact H
   have Ny146 := Aside0.mk hy146
   clear hy146
   obtain ⟨ji8, hji8⟩ : ∃ j_ : Int, (Int.tmod (wrap64 (a2)) 5001) = j_ := ⟨_, rfl⟩
   replace H : (if 0 ≤ (ji8) then (if y146.length + (ji8 : Int).toNat < 140737488355328 then ((command_Get.f (y146 ++ List.replicate (ji8 : Int).toNat 0)).bind fun bt152 => (if bt152.1 = 3 then (louverlaw22_CommandWhy.j0 k a1 ji8 bt152.2.2.2.2.2.2.1 bt152.2.2.2.2.2.2.2 (bt152.2.1 != a0) bt152.1 bt152.2.1 bt152.2.2.1 bt152.2.2.2.1 bt152.2.2.2.2.1 bt152.2.2.2.2.2.1) else (louverlaw22_CommandWhy.j0 k a1 ji8 bt152.2.2.2.2.2.2.1 bt152.2.2.2.2.2.2.2 true bt152.1 bt152.2.1 bt152.2.2.1 bt152.2.2.2.1 bt152.2.2.2.2.1 bt152.2.2.2.2.2.1))) else (none)) else (none)) = some r := by first | (rw [hji8] at H; exact H) | (simp only [hji8] at H ⊢; exact H)
   by_cases c9 : 0 ≤ (ji8)
   ·rw [if_pos c9] at H
    have c9b0 := eq_true c9
    have c9b1 : decide (0 ≤ (ji8)) = true := decide_eq_true c9
    clear c9
    by_cases c10 : y146.length + (ji8 : Int).toNat < 140737488355328
    ·rw [if_pos c10] at H
     have LMc10 := Aside0.mk c10
     clear c10
     obtain ⟨y149, hy149⟩ : ∃ y_ : List Int, y_ = (y146 ++ List.replicate (ji8 : Int).toNat 0) := ⟨_, rfl⟩
     replace H : ((command_Get.f y149).bind fun bt152 => (if bt152.1 = 3 then (louverlaw22_CommandWhy.j0 k a1 ji8 bt152.2.2.2.2.2.2.1 bt152.2.2.2.2.2.2.2 (bt152.2.1 != a0) bt152.1 bt152.2.1 bt152.2.2.1 bt152.2.2.2.1 bt152.2.2.2.2.1 bt152.2.2.2.2.2.1) else (louverlaw22_CommandWhy.j0 k a1 ji8 bt152.2.2.2.2.2.2.1 bt152.2.2.2.2.2.2.2 true bt152.1 bt152.2.1 bt152.2.2.1 bt152.2.2.2.1 bt152.2.2.2.2.1 bt152.2.2.2.2.2.1))) = some r := by first | (rw [hy149]; with_reducible exact H) | (have H2_ := (Option.bind_some _ _).symm.trans H; rw [hy149]; with_reducible exact H2_) | (have H2_ := (Option.bind_some _ _).symm.trans H; with_reducible exact H2_) | with_reducible exact H | (rw [hy149]; exact H) | exact H
     have Ny149 := Aside0.mk hy149
     clear hy149
     replace H := Option.bind_eq_some_iff.mp H
     obtain ⟨⟨t152, t153, t154, t155, t156, t157, t160, t161⟩, A110, H⟩ := H
     replace H : (if t152 = 3 then (louverlaw22_CommandWhy.j0 k a1 ji8 t160 t161 (t153 != a0) t152 t153 t154 t155 t156 t157) else (louverlaw22_CommandWhy.j0 k a1 ji8 t160 t161 true t152 t153 t154 t155 t156 t157)) = some r := H
     have A11 := Aside0.mk A110
     clear A110
     have HC12 := Aside0.mk H
     clear H
     have hBNE_ := isEmpty_bne
     go_enter Tryd.func5, Tryd.ntmps5
     go_upto_region 7 with (first | ((with_reducible refine gate_dst (N := 33) rfl ?_); (try (refine gate_guard (by rfl) ?_; dsimp only)); refine Kd.R_lit (Kd.int .u8) _ 5 ?hg (N := 33) ?hd (xs := ([3, (a0 / 16777216) % 256, (a0 / 65536) % 256, (a0 / 256) % 256, (a0) % 256, ((a1.size : Int)) % 256] : List Int)) (inner := [.int .u8 3, .int .u8 ((a0 / 16777216) % 256), .int .u8 ((a0 / 65536) % 256), .int .u8 ((a0 / 256) % 256), .int .u8 ((a0) % 256), .int .u8 (((a1.size : Int)) % 256)]) (ok := fun _ => True) (okp := fun _ => True) ?hr ?hp (fun _ hk => hk) trivial (Below.refl _ _) (Nat.le_refl _) (by simp) ?_; (case hd => rfl); (case hg => rfl); (case hr => first | (go_simp; done) | (go_simp; rfl)); (case hp => exact (Reps.one (show Kd.M (Kd.int .u8) _ _ _ 3 [.int .u8 3] from rfl) (Reps.one (show Kd.M (Kd.int .u8) _ _ _ ((a0 / 16777216) % 256) [.int .u8 ((a0 / 16777216) % 256)] from rfl) (Reps.one (show Kd.M (Kd.int .u8) _ _ _ ((a0 / 65536) % 256) [.int .u8 ((a0 / 65536) % 256)] from rfl) (Reps.one (show Kd.M (Kd.int .u8) _ _ _ ((a0 / 256) % 256) [.int .u8 ((a0 / 256) % 256)] from rfl) (Reps.one (show Kd.M (Kd.int .u8) _ _ _ ((a0) % 256) [.int .u8 ((a0) % 256)] from rfl) (Reps.one (show Kd.M (Kd.int .u8) _ _ _ (((a1.size : Int)) % 256) [.int .u8 (((a1.size : Int)) % 256)] from rfl) (Reps.none _ _)))))))); intro v144 w13 ho14 hb hg_ hnew_; clear hg_ hnew_; (first | rw [← Ny143.out] at ho14 | (simp only [Int.reduceToNat] at ho14; rw [← Ny143.out] at ho14)); have n0_ := Aside0.mk (Kd.R_lower ho14 (below_size (by repeat (first | (with_reducible first | exact HB.out | apply below_alloc | apply pw_below_drewN | apply below_drew1) | exact HB.out)))); have n1_ := Aside0.mk (below_step (by repeat (first | (with_reducible first | exact HB.out | apply below_alloc | apply pw_below_drewN | apply below_drew1) | exact HB.out)) hb); clear HB; have HO145 := n0_; have HB := n1_; clear n0_ n1_; clear hb ho14) | (at_builtin; refine print_append_str (w0 := w) w.heap.size rfl (.tmp 34) _ 24 9 5 rfl Tryd.underlying24 Tryd.underlying9 info5 v144 y143 a1 rfl rfl ?aO ?aB ?aS ?aL ?_; (case aB => exact (by repeat (first | (with_reducible first | exact HB.out | apply below_alloc | apply pw_below_drewN | apply below_drew1) | exact HB.out))); (case aO => exact (Kd.own_of_R (by (with_reducible repeat (first | apply Kd.R_alloc | apply Kd.R_drewN | apply Kd.R_drew)); exact HO145.out))); (case aS => exact (below_size (by repeat (first | (with_reducible first | exact HB.out | apply below_alloc | apply pw_below_drewN | apply below_drew1) | exact HB.out)))); (case aL => have := LMc7.out; omega); intro v147 w15 ho0 hb hg; have ho := Kd.R_of_own (h1 := fun _ => rfl) (ok := fun _ => True) ho0 (fun _ _ => trivial); clear ho0; have hat := True.intro; rw [← Ny146.out] at ho; change Kd.R (Kd.int .u8) 5 w15 w.heap.size (fun _ => True) v147 y146 at ho; have n0_ := Aside0.mk (hb); have n1_ := Aside0.mk (ho); clear HB; clear HO145; have HB := n0_; have HO148 := n1_; clear n0_ n1_; clear ho hb hg hat) | (at_builtin; refine Kd.R_append_zeros (Kd.int .u8) (w0 := w) w.heap.size rfl (.tmp 36) (.tmp 37) 24 3 5 (.int .u8 0) 1 rfl Tryd.underlying24 Tryd.underlying3 info5 rfl (by decide) (by omega) v147 y146 0 (ji8 : Int) (fun _ => True) rfl rfl rfl ?aF ?aO (of_decide_eq_true (by first | (with_reducible assumption) | assumption)) ?aB ?aS ?aL ?_; (case aB => exact (by repeat (first | (with_reducible first | exact HB.out | apply below_alloc | apply pw_below_drewN | apply below_drew1) | exact HB.out))); (case aF => exact (fun _ _ => trivial)); (case aO => exact (by (with_reducible repeat (first | apply Kd.R_alloc | apply Kd.R_drewN | apply Kd.R_drew)); exact HO148.out)); (case aS => exact (below_size (by repeat (first | (with_reducible first | exact HB.out | apply below_alloc | apply pw_below_drewN | apply below_drew1) | exact HB.out)))); (case aL => have := LMc10.out; omega); intro v150 w16 ho hb hg hat; rw [← Ny149.out] at ho; have n0_ := Aside0.mk (hb); have n1_ := Aside0.mk (ho); clear HB; clear HO148; have HB := n0_; have HO151 := n1_; clear n0_ n1_; clear ho hb hg hat; obtain ⟨Ao17, co17, eo17⟩ := Kd.R_slice HO151.out; subst eo17) | ((with_reducible refine gate_callee (f := 14) rfl ?_); refine goesL_ (some 41) rfl rfl Tryd.func14 (by kernel_rfl) rfl #[.slice Ao17 y149.length co17] rfl (by (try simp only [List.map_toArray, List.map_cons, List.map_nil]); first | done | rfl | (simp only [List.length_drop, List.length_take]; rfl)) ?_; (with_reducible refine (command_Get.calls _ _ y149 t152 t153 t154 t155 t156 t157 t160 t161 _ ?side1 ?side2 A11.out).mono ?_); (case side1 => repeat (first | exact (Kd.R_reads' HO151.out).2.2 | (with_reducible refine Kd.C_alloc ?_ _) | (with_reducible refine Kd.C_drewN ?_ _) | (with_reducible refine Kd.C_drew ?_))); (case side2 => exact (Kd.R_reads' HO151.out).2.1); rintro e w18 ⟨v158, rfl, ho0, hb⟩; refine ⟨_, rfl, ?_⟩; have n0_ := Aside0.mk (Kd.R_elder' (by (with_reducible repeat (first | apply Kd.R_alloc | apply Kd.R_drewN | apply Kd.R_drew)); exact HO151.out) (Kd.R_base ho0) hb); have n1_ := Aside0.mk (Kd.R_lower (Kd.R_new' ho0 (Kd.R_lt (by (with_reducible repeat (first | apply Kd.R_alloc | apply Kd.R_drewN | apply Kd.R_drew)); exact HO151.out))) (below_size (by repeat (first | (with_reducible first | exact HB.out | apply below_alloc | apply pw_below_drewN | apply below_drew1) | exact HB.out)))); have n2_ := Aside0.mk (below_step (by repeat (first | (with_reducible first | exact HB.out | apply below_alloc | apply pw_below_drewN | apply below_drew1) | exact HB.out)) hb); clear HO151; clear HB; have HO151 := n0_; have HO159 := n1_; have HB := n2_; clear n0_ n1_ n2_; (try clear hb); (try clear hb2); (try clear hk); (try clear hi); (try clear ho0)) | ((with_reducible refine gate_dst (N := 9) rfl ?_); (try (refine gate_guard (by rfl) ?_; dsimp only)); refine box_event ?hg (N := 9) ?hd (cs := #[.int .u8 0, .int .u32 0, .string (⟨#[]⟩ : ByteArray), .int .u64 0, .int .u8 0, .slice none 0 0]) (t := 26) ?hr ?_; (case hd => rfl); (case hg => rfl); (case hr => first | (go_simp; done) | (go_simp; rfl)); intro gb162 hg w19 hbox hb; have n0_ := Aside0.mk (Kd.R_below (by (with_reducible repeat (first | apply Kd.R_alloc | apply Kd.R_drewN | apply Kd.R_drew)); exact HO151.out) hb); have n1_ := Aside0.mk (Kd.R_below (by (with_reducible repeat (first | apply Kd.R_alloc | apply Kd.R_drewN | apply Kd.R_drew)); exact HO159.out) hb); have n2_ := Aside0.mk (below_step (by repeat (first | (with_reducible first | exact HB.out | apply below_alloc | apply pw_below_drewN | apply below_drew1) | exact HB.out)) hb); have n3_ := Aside0.mk (hbox); have n4_ := Aside0.mk ((by rw [hg]; exact (below_size (by repeat (first | (with_reducible first | exact HB.out | apply below_alloc | apply pw_below_drewN | apply below_drew1) | exact HB.out))) : w.heap.size ≤ gb162)); have n5_ := Aside0.mk ((by rw [hg]; exact (below_size (by repeat (first | (with_reducible first | exact HB.out | apply below_alloc | apply pw_below_drewN | apply below_drew1) | exact HB.out))) : w.heap.size ≤ gb162)); clear HO151; clear HO159; clear HB; have HO151 := n0_; have HO159 := n1_; have HB := n2_; have BK162 := n3_; have GW162 := n4_; have GE162 := n5_; clear n0_ n1_ n2_ n3_ n4_ n5_; clear hb hbox hg; have hcz20_0 : w19.cell? ⟨gb162, 0, none⟩ = some (.int .u8 0) := (blk_cell BK162.out 0).trans rfl; have hcz20_1 : w19.cell? ⟨gb162, 1, none⟩ = some (.int .u32 0) := (blk_cell BK162.out 1).trans rfl; have hcz20_2 : w19.cell? ⟨gb162, 2, none⟩ = some (.string (⟨#[]⟩ : ByteArray)) := (blk_cell BK162.out 2).trans rfl; have hcz20_3 : w19.cell? ⟨gb162, 3, none⟩ = some (.int .u64 0) := (blk_cell BK162.out 3).trans rfl; have hcz20_4 : w19.cell? ⟨gb162, 4, none⟩ = some (.int .u8 0) := (blk_cell BK162.out 4).trans rfl; have hcz20_5 : w19.cell? ⟨gb162, 5, none⟩ = some (.slice none 0 0) := (blk_cell BK162.out 5).trans rfl; have hfz20_0 := blk_frozen BK162.out 0; have hfz20_1 := blk_frozen BK162.out 1; have hfz20_2 := blk_frozen BK162.out 2; have hfz20_3 := blk_frozen BK162.out 3; have hfz20_4 := blk_frozen BK162.out 4; have hfz20_5 := blk_frozen BK162.out 5; obtain ⟨Ao21, co21, eo21⟩ := Kd.R_slice HO159.out; subst eo21))
     (try simp only [Act.put, List.setIfInBounds_toArray, List.set_cons_zero, List.set_cons_succ])
     go_cut [53] (fun v53 wc => ∃ (kq : Nat) (x53_11 : Bool), v53 = .bool x53_11 ∧ Aside0 (louverlaw22_CommandWhy.j0 kq a1 ji8 t160 t161 x53_11 t152 t153 t154 t155 t156 t157 = some r) ∧ Aside0 (kq ≤ k) ∧ Aside0 (Kd.R (Kd.int .u8) 5 wc w.heap.size (fun _ => True) (.slice Ao21 t157.length co21) t157) ∧ Aside0 (wc.heap[gb162]? = some (.cells #[.int .u8 t152, .int .u32 t153, .string t154, .int .u64 t155, .int .u8 t156, (.slice Ao21 t157.length co21)] 26 (0, 0))) ∧ Aside0 (Below w.heap.size w wc))
     case first =>
      have H := HC12.out
      clear HC12
      by_cases c22 : t152 = 3
      ·rw [if_pos c22] at H
       have c22b0 : (t152 == 3) = true := beq_iff_eq.mpr c22
       have c22b1 : (t152 != 3) = false := bne_eq_false_iff_eq.mpr c22
       clear c22
       (first | rw [c22b0] | (simp only [i64_w, i32_w]; rw [c22b0]) | skip)
       have H' := Aside0.mk H
       clear H
       have hcz23_0 : w19.cell? ⟨gb162, 0, none⟩ = some (.int .u8 0) := (blk_cell BK162.out 0).trans rfl
       have hcz23_1 : w19.cell? ⟨gb162, 1, none⟩ = some (.int .u32 0) := (blk_cell BK162.out 1).trans rfl
       have hcz23_2 : w19.cell? ⟨gb162, 2, none⟩ = some (.string (⟨#[]⟩ : ByteArray)) := (blk_cell BK162.out 2).trans rfl
       have hcz23_3 : w19.cell? ⟨gb162, 3, none⟩ = some (.int .u64 0) := (blk_cell BK162.out 3).trans rfl
       have hcz23_4 : w19.cell? ⟨gb162, 4, none⟩ = some (.int .u8 0) := (blk_cell BK162.out 4).trans rfl
       have hcz23_5 : w19.cell? ⟨gb162, 5, none⟩ = some (.slice none 0 0) := (blk_cell BK162.out 5).trans rfl
       have hfz23_0 := blk_frozen BK162.out 0
       have hfz23_1 := blk_frozen BK162.out 1
       have hfz23_2 := blk_frozen BK162.out 2
       have hfz23_3 := blk_frozen BK162.out 3
       have hfz23_4 := blk_frozen BK162.out 4
       have hfz23_5 := blk_frozen BK162.out 5
       go_wp2
       go_meet
       case rel => exact ⟨_, ((t153 != a0)), (by first | rfl | (simp; done) | (simp [*]; done)), H', ⟨by first | omega | exact Nat.le_refl _⟩, ⟨by (with_reducible repeat (first | apply Kd.R_alloc | apply Kd.R_drewN | apply Kd.R_drew)); exact Kd.R_mono (Kd.R_far (p := ⟨gb162, 5, none⟩) (Kd.R_far (p := ⟨gb162, 4, none⟩) (Kd.R_far (p := ⟨gb162, 3, none⟩) (Kd.R_far (p := ⟨gb162, 2, none⟩) (Kd.R_far (p := ⟨gb162, 1, none⟩) (Kd.R_far (p := ⟨gb162, 0, none⟩) (Kd.R_types HO159.out BK162.out (by decide)) (fun _ hk => hk.2) (.int .u8 t152)) (fun _ hk => hk.2) (.int .u32 t153)) (fun _ hk => hk.2) (.string t154)) (fun _ hk => hk.2) (.int .u64 t155)) (fun _ hk => hk.2) (.int .u8 t156)) (fun _ hk => hk.2) (.slice Ao21 t157.length co21)) (fun _ hk => trivial)⟩, ⟨by (with_reducible repeat (first | refine blk_drewN ?_ _ | refine blk_drew ?_ | refine blk_alloc ?_ _)); refine blk_put (cs := #[.int .u8 t152, .int .u32 t153, .string t154, .int .u64 t155, .int .u8 t156, .slice none 0 0]) ?_ 5 _ rfl; (with_reducible repeat (first | refine blk_drewN ?_ _ | refine blk_drew ?_ | refine blk_alloc ?_ _)); refine blk_put (cs := #[.int .u8 t152, .int .u32 t153, .string t154, .int .u64 t155, .int .u8 0, .slice none 0 0]) ?_ 4 _ rfl; (with_reducible repeat (first | refine blk_drewN ?_ _ | refine blk_drew ?_ | refine blk_alloc ?_ _)); refine blk_put (cs := #[.int .u8 t152, .int .u32 t153, .string t154, .int .u64 0, .int .u8 0, .slice none 0 0]) ?_ 3 _ rfl; (with_reducible repeat (first | refine blk_drewN ?_ _ | refine blk_drew ?_ | refine blk_alloc ?_ _)); refine blk_put (cs := #[.int .u8 t152, .int .u32 t153, .string (⟨#[]⟩ : ByteArray), .int .u64 0, .int .u8 0, .slice none 0 0]) ?_ 2 _ rfl; (with_reducible repeat (first | refine blk_drewN ?_ _ | refine blk_drew ?_ | refine blk_alloc ?_ _)); refine blk_put (cs := #[.int .u8 t152, .int .u32 0, .string (⟨#[]⟩ : ByteArray), .int .u64 0, .int .u8 0, .slice none 0 0]) ?_ 1 _ rfl; (with_reducible repeat (first | refine blk_drewN ?_ _ | refine blk_drew ?_ | refine blk_alloc ?_ _)); refine blk_put (cs := #[.int .u8 0, .int .u32 0, .string (⟨#[]⟩ : ByteArray), .int .u64 0, .int .u8 0, .slice none 0 0]) ?_ 0 _ rfl; (with_reducible repeat (first | refine blk_drewN ?_ _ | refine blk_drew ?_ | refine blk_alloc ?_ _)); exact BK162.out⟩, ⟨by repeat (first | (with_reducible first | exact HB.out | apply below_alloc | apply pw_below_drewN | apply below_drew1 | refine below_set ?_ GE162.out) | exact HB.out)⟩⟩
      ·rw [if_neg c22] at H
       have c22b0 : (t152 == 3) = false := beq_eq_false_iff_ne.mpr c22
       have c22b1 : (t152 != 3) = true := bne_iff_ne.mpr c22
       (first | rw [c22b0] | (simp only [i64_w, i32_w]; rw [c22b0]) | skip)
       have H' := Aside0.mk H
       clear H
       have hcz24_0 : w19.cell? ⟨gb162, 0, none⟩ = some (.int .u8 0) := (blk_cell BK162.out 0).trans rfl
       have hcz24_1 : w19.cell? ⟨gb162, 1, none⟩ = some (.int .u32 0) := (blk_cell BK162.out 1).trans rfl
       have hcz24_2 : w19.cell? ⟨gb162, 2, none⟩ = some (.string (⟨#[]⟩ : ByteArray)) := (blk_cell BK162.out 2).trans rfl
       have hcz24_3 : w19.cell? ⟨gb162, 3, none⟩ = some (.int .u64 0) := (blk_cell BK162.out 3).trans rfl
       have hcz24_4 : w19.cell? ⟨gb162, 4, none⟩ = some (.int .u8 0) := (blk_cell BK162.out 4).trans rfl
       have hcz24_5 : w19.cell? ⟨gb162, 5, none⟩ = some (.slice none 0 0) := (blk_cell BK162.out 5).trans rfl
       have hfz24_0 := blk_frozen BK162.out 0
       have hfz24_1 := blk_frozen BK162.out 1
       have hfz24_2 := blk_frozen BK162.out 2
       have hfz24_3 := blk_frozen BK162.out 3
       have hfz24_4 := blk_frozen BK162.out 4
       have hfz24_5 := blk_frozen BK162.out 5
       go_wp2
       go_meet
       case rel => exact ⟨_, (true), (by first | rfl | (simp; done) | (simp [*]; done)), H', ⟨by first | omega | exact Nat.le_refl _⟩, ⟨by (with_reducible repeat (first | apply Kd.R_alloc | apply Kd.R_drewN | apply Kd.R_drew)); exact Kd.R_mono (Kd.R_far (p := ⟨gb162, 5, none⟩) (Kd.R_far (p := ⟨gb162, 4, none⟩) (Kd.R_far (p := ⟨gb162, 3, none⟩) (Kd.R_far (p := ⟨gb162, 2, none⟩) (Kd.R_far (p := ⟨gb162, 1, none⟩) (Kd.R_far (p := ⟨gb162, 0, none⟩) (Kd.R_types HO159.out BK162.out (by decide)) (fun _ hk => hk.2) (.int .u8 t152)) (fun _ hk => hk.2) (.int .u32 t153)) (fun _ hk => hk.2) (.string t154)) (fun _ hk => hk.2) (.int .u64 t155)) (fun _ hk => hk.2) (.int .u8 t156)) (fun _ hk => hk.2) (.slice Ao21 t157.length co21)) (fun _ hk => trivial)⟩, ⟨by (with_reducible repeat (first | refine blk_drewN ?_ _ | refine blk_drew ?_ | refine blk_alloc ?_ _)); refine blk_put (cs := #[.int .u8 t152, .int .u32 t153, .string t154, .int .u64 t155, .int .u8 t156, .slice none 0 0]) ?_ 5 _ rfl; (with_reducible repeat (first | refine blk_drewN ?_ _ | refine blk_drew ?_ | refine blk_alloc ?_ _)); refine blk_put (cs := #[.int .u8 t152, .int .u32 t153, .string t154, .int .u64 t155, .int .u8 0, .slice none 0 0]) ?_ 4 _ rfl; (with_reducible repeat (first | refine blk_drewN ?_ _ | refine blk_drew ?_ | refine blk_alloc ?_ _)); refine blk_put (cs := #[.int .u8 t152, .int .u32 t153, .string t154, .int .u64 0, .int .u8 0, .slice none 0 0]) ?_ 3 _ rfl; (with_reducible repeat (first | refine blk_drewN ?_ _ | refine blk_drew ?_ | refine blk_alloc ?_ _)); refine blk_put (cs := #[.int .u8 t152, .int .u32 t153, .string (⟨#[]⟩ : ByteArray), .int .u64 0, .int .u8 0, .slice none 0 0]) ?_ 2 _ rfl; (with_reducible repeat (first | refine blk_drewN ?_ _ | refine blk_drew ?_ | refine blk_alloc ?_ _)); refine blk_put (cs := #[.int .u8 t152, .int .u32 0, .string (⟨#[]⟩ : ByteArray), .int .u64 0, .int .u8 0, .slice none 0 0]) ?_ 1 _ rfl; (with_reducible repeat (first | refine blk_drewN ?_ _ | refine blk_drew ?_ | refine blk_alloc ?_ _)); refine blk_put (cs := #[.int .u8 0, .int .u32 0, .string (⟨#[]⟩ : ByteArray), .int .u64 0, .int .u8 0, .slice none 0 0]) ?_ 0 _ rfl; (with_reducible repeat (first | refine blk_drewN ?_ _ | refine blk_drew ?_ | refine blk_alloc ?_ _)); exact BK162.out⟩, ⟨by repeat (first | (with_reducible first | exact HB.out | apply below_alloc | apply pw_below_drewN | apply below_drew1 | refine below_set ?_ GE162.out) | exact HB.out)⟩⟩
     case rest =>
      clear HC12
      try clear c1
      try clear c2
      try clear p2
      try clear c4
      try clear c4b0
      try clear c4b1
      try clear c5
      try clear p6
      try clear c7
      try clear c9
      try clear c9b0
      try clear c9b1
      try clear c10
      try clear c11
      try clear c14
      try clear c22
      try clear c22b0
      try clear c22b1
      try clear hcz20_0
      try clear hcz20_1
      try clear hcz20_2
      try clear hcz20_3
      try clear hcz20_4
      try clear hcz20_5
      try clear hcz23_0
      try clear hcz23_1
      try clear hcz23_2
      try clear hcz23_3
      try clear hcz23_4
      try clear hcz23_5
      try clear hcz24_0
      try clear hcz24_1
      try clear hcz24_2
      try clear hcz24_3
      try clear hcz24_4
      try clear hcz24_5
      try clear hfz20_0
      try clear hfz20_1
      try clear hfz20_2
      try clear hfz20_3
      try clear hfz20_4
      try clear hfz20_5
      try clear hfz23_0
      try clear hfz23_1
      try clear hfz23_2
      try clear hfz23_3
      try clear hfz23_4
      try clear hfz23_5
      try clear hfz24_0
      try clear hfz24_1
      try clear hfz24_2
      try clear hfz24_3
      try clear hfz24_4
      try clear hfz24_5
      obtain ⟨kq, x53_11, rfl, HA, HJ11, HO_163005, BK162, HB⟩ := hcut
      cases kq with
      | zero => exact absurd HA.out (by simp [louverlaw22_CommandWhy.j0])
      | succ kj11 =>
       have H := HA.out
       clear HA
       simp only [louverlaw22_CommandWhy.j0] at H
       by_cases c25 : x53_11 = true
       ·subst c25
        have H1 : (some false) = some r := by rw [if_pos rfl] at H; exact H
        clear H
        have H := H1
        clear H1
        obtain rfl := Option.some.inj H
        go_wp2
        go_ret
        exact ⟨by first | rfl | (simp [errW_none, errW_some] <;> rfl) | (simp only [← hji8]; first | rfl | (simp [errW_none, errW_some] <;> rfl)) | (simp [*, errW_none, errW_some] <;> rfl), by repeat (first | (with_reducible first | exact HB.out | apply below_alloc | apply pw_below_drewN | apply below_drew1 | refine below_set ?_ GE162.out) | exact HB.out)⟩
       ·replace c25 := Bool.eq_false_iff.mpr c25
        subst c25
        have H1 : ((louverref21_May.f kj11 a1).bind fun t163 => (if t163 = true then (if ji8 > 2048 then ((louverlaw22_fixed.f kj11).bind fun t164 => (if t164 = true then (if t160 = 5 then (if t161 = true then (some false) else (if t154.toList = ([] : List UInt8) then (some ((t157.length : Int) == 0)) else (some false))) else (some false)) else (some false))) else ((louverlaw22_fixed.f kj11).bind fun t165 => (if t165 = true then (if t160 = 0 then (if t161 = true then (if t154.toList = a1.toList then (some ((t157.length : Int) == ji8)) else (some false)) else (some false)) else (some false)) else (some false)))) else ((louverlaw22_fixed.f kj11).bind fun t166 => (if t166 = true then (if t160 = 1 then (if t161 = true then (some false) else (if t154.toList = ([] : List UInt8) then (some ((t157.length : Int) == 0)) else (some false))) else (some false)) else (some false))))) = some r := by rw [if_neg (show ¬ (false = true) by decide)] at H; exact H
        clear H
        have H := H1
        clear H1
        replace H := Option.bind_eq_some_iff.mp H
        obtain ⟨t163, A260, H⟩ := H
        replace H : (if t163 = true then (if ji8 > 2048 then ((louverlaw22_fixed.f kj11).bind fun t164 => (if t164 = true then (if t160 = 5 then (if t161 = true then (some false) else (if t154.toList = ([] : List UInt8) then (some ((t157.length : Int) == 0)) else (some false))) else (some false)) else (some false))) else ((louverlaw22_fixed.f kj11).bind fun t165 => (if t165 = true then (if t160 = 0 then (if t161 = true then (if t154.toList = a1.toList then (some ((t157.length : Int) == ji8)) else (some false)) else (some false)) else (some false)) else (some false)))) else ((louverlaw22_fixed.f kj11).bind fun t166 => (if t166 = true then (if t160 = 1 then (if t161 = true then (some false) else (if t154.toList = ([] : List UInt8) then (some ((t157.length : Int) == 0)) else (some false))) else (some false)) else (some false)))) = some r := H
        have A26 := Aside0.mk A260
        clear A260
        by_cases c27 : t163 = true
        ·subst c27
         have H1 : (if ji8 > 2048 then ((louverlaw22_fixed.f kj11).bind fun t164 => (if t164 = true then (if t160 = 5 then (if t161 = true then (some false) else (if t154.toList = ([] : List UInt8) then (some ((t157.length : Int) == 0)) else (some false))) else (some false)) else (some false))) else ((louverlaw22_fixed.f kj11).bind fun t165 => (if t165 = true then (if t160 = 0 then (if t161 = true then (if t154.toList = a1.toList then (some ((t157.length : Int) == ji8)) else (some false)) else (some false)) else (some false)) else (some false)))) = some r := by rw [if_pos rfl] at H; exact H
         clear H
         have H := H1
         clear H1
         by_cases c28 : ji8 > 2048
         ·rw [if_pos c28] at H
          have c28b0 : decide (2048 < ji8) = true := decide_eq_true c28
          clear c28
          replace H := Option.bind_eq_some_iff.mp H
          obtain ⟨t164, A290, H⟩ := H
          replace H : (if t164 = true then (if t160 = 5 then (if t161 = true then (some false) else (if t154.toList = ([] : List UInt8) then (some ((t157.length : Int) == 0)) else (some false))) else (some false)) else (some false)) = some r := H
          have A29 := Aside0.mk A290
          clear A290
          by_cases c30 : t164 = true
          ·subst c30
           have H1 : (if t160 = 5 then (if t161 = true then (some false) else (if t154.toList = ([] : List UInt8) then (some ((t157.length : Int) == 0)) else (some false))) else (some false)) = some r := by rw [if_pos rfl] at H; exact H
           clear H
           have H := H1
           clear H1
           by_cases c31 : t160 = 5
           ·rw [if_pos c31] at H
            have c31b0 : (t160 == 5) = true := beq_iff_eq.mpr c31
            have c31b1 : (t160 != 5) = false := bne_eq_false_iff_eq.mpr c31
            clear c31
            by_cases c32 : t161 = true
            ·subst c32
             have H1 : (some false) = some r := by rw [if_pos rfl] at H; exact H
             clear H
             have H := H1
             clear H1
             obtain rfl := Option.some.inj H
             go_wp2_with (first | ((with_reducible refine gate_callee (f := 16) rfl ?_); refine goesL_ (some 56) rfl rfl Tryd.func16 (by kernel_rfl) rfl #[.string a1] rfl (by (try simp only [List.map_toArray, List.map_cons, List.map_nil]); first | done | rfl | (simp only [List.length_drop, List.length_take]; rfl)) ?_; (with_reducible refine (louverref21_May.calls kj11 a1 true _ A26.out).mono ?_); rintro e w33 ⟨rfl, hb⟩; refine ⟨_, rfl, ?_⟩; have n0_ := Aside0.mk (Kd.R_below (by (with_reducible repeat (first | apply Kd.R_alloc | apply Kd.R_drewN | apply Kd.R_drew)); exact HO_163005.out) hb); have n1_ := Aside0.mk (blk_below (g := gb162) (o := .cells #[.int .u8 t152, .int .u32 t153, .string t154, .int .u64 t155, .int .u8 t156, .slice Ao21 t157.length co21] 26 (0, 0)) (by (with_reducible repeat (first | refine blk_drewN ?_ _ | refine blk_drew ?_ | refine blk_alloc ?_ _)); exact BK162.out) hb); have n2_ := Aside0.mk (below_step (by repeat (first | (with_reducible first | exact HB.out | apply below_alloc | apply pw_below_drewN | apply below_drew1 | refine below_set ?_ GE162.out) | exact HB.out)) hb); clear HO_163005; clear BK162; clear HB; have HO_163005 := n0_; have BK162 := n1_; have HB := n2_; clear n0_ n1_ n2_; (try clear hb); (try clear hb2); (try clear hk); (try clear hi)) | ((with_reducible refine gate_callee (f := 11) rfl ?_); refine goesL_ (some 81) rfl rfl Tryd.func11 (by kernel_rfl) rfl #[] rfl (by (try simp only [List.map_toArray, List.map_cons, List.map_nil]); first | done | rfl | (simp only [List.length_drop, List.length_take]; rfl)) ?_; (with_reducible refine (louverlaw22_fixed.calls kj11  true _ A29.out).mono ?_); rintro e w34 ⟨rfl, hb⟩; refine ⟨_, rfl, ?_⟩; have n0_ := Aside0.mk (Kd.R_below (by (with_reducible repeat (first | apply Kd.R_alloc | apply Kd.R_drewN | apply Kd.R_drew)); exact HO_163005.out) hb); have n1_ := Aside0.mk (blk_below (g := gb162) (o := .cells #[.int .u8 t152, .int .u32 t153, .string t154, .int .u64 t155, .int .u8 t156, .slice Ao21 t157.length co21] 26 (0, 0)) (by (with_reducible repeat (first | refine blk_drewN ?_ _ | refine blk_drew ?_ | refine blk_alloc ?_ _)); exact BK162.out) hb); have n2_ := Aside0.mk (below_step (by repeat (first | (with_reducible first | exact HB.out | apply below_alloc | apply pw_below_drewN | apply below_drew1 | refine below_set ?_ GE162.out) | exact HB.out)) hb); clear HO_163005; clear BK162; clear HB; have HO_163005 := n0_; have BK162 := n1_; have HB := n2_; clear n0_ n1_ n2_; (try clear hb); (try clear hb2); (try clear hk); (try clear hi)))
             go_ret
             exact ⟨by first | rfl | (simp [errW_none, errW_some] <;> rfl) | (simp only [← hji8]; first | rfl | (simp [errW_none, errW_some] <;> rfl)) | (simp [*, errW_none, errW_some] <;> rfl), by repeat (first | (with_reducible first | exact HB.out | apply below_alloc | apply pw_below_drewN | apply below_drew1 | refine below_set ?_ GE162.out) | exact HB.out)⟩
            ·replace c32 := Bool.eq_false_iff.mpr c32
             subst c32
             have H1 : (if t154.toList = ([] : List UInt8) then (some ((t157.length : Int) == 0)) else (some false)) = some r := by rw [if_neg (show ¬ (false = true) by decide)] at H; exact H
             clear H
             have H := H1
             clear H1
             by_cases c35 : t154.toList = ([] : List UInt8)
             ·rw [if_pos c35] at H
              have c35b0 : (t154.toList == ([] : List UInt8)) = true := beq_iff_eq.mpr c35
              have c35b1 : (t154.toList != ([] : List UInt8)) = false := bne_eq_false_iff_eq.mpr c35
              clear c35
              obtain rfl := Option.some.inj H
              go_wp2_with (first | ((with_reducible refine gate_callee (f := 16) rfl ?_); refine goesL_ (some 56) rfl rfl Tryd.func16 (by kernel_rfl) rfl #[.string a1] rfl (by (try simp only [List.map_toArray, List.map_cons, List.map_nil]); first | done | rfl | (simp only [List.length_drop, List.length_take]; rfl)) ?_; (with_reducible refine (louverref21_May.calls kj11 a1 true _ A26.out).mono ?_); rintro e w36 ⟨rfl, hb⟩; refine ⟨_, rfl, ?_⟩; have n0_ := Aside0.mk (Kd.R_below (by (with_reducible repeat (first | apply Kd.R_alloc | apply Kd.R_drewN | apply Kd.R_drew)); exact HO_163005.out) hb); have n1_ := Aside0.mk (blk_below (g := gb162) (o := .cells #[.int .u8 t152, .int .u32 t153, .string t154, .int .u64 t155, .int .u8 t156, .slice Ao21 t157.length co21] 26 (0, 0)) (by (with_reducible repeat (first | refine blk_drewN ?_ _ | refine blk_drew ?_ | refine blk_alloc ?_ _)); exact BK162.out) hb); have n2_ := Aside0.mk (below_step (by repeat (first | (with_reducible first | exact HB.out | apply below_alloc | apply pw_below_drewN | apply below_drew1 | refine below_set ?_ GE162.out) | exact HB.out)) hb); clear HO_163005; clear BK162; clear HB; have HO_163005 := n0_; have BK162 := n1_; have HB := n2_; clear n0_ n1_ n2_; (try clear hb); (try clear hb2); (try clear hk); (try clear hi)) | ((with_reducible refine gate_callee (f := 11) rfl ?_); refine goesL_ (some 81) rfl rfl Tryd.func11 (by kernel_rfl) rfl #[] rfl (by (try simp only [List.map_toArray, List.map_cons, List.map_nil]); first | done | rfl | (simp only [List.length_drop, List.length_take]; rfl)) ?_; (with_reducible refine (louverlaw22_fixed.calls kj11  true _ A29.out).mono ?_); rintro e w37 ⟨rfl, hb⟩; refine ⟨_, rfl, ?_⟩; have n0_ := Aside0.mk (Kd.R_below (by (with_reducible repeat (first | apply Kd.R_alloc | apply Kd.R_drewN | apply Kd.R_drew)); exact HO_163005.out) hb); have n1_ := Aside0.mk (blk_below (g := gb162) (o := .cells #[.int .u8 t152, .int .u32 t153, .string t154, .int .u64 t155, .int .u8 t156, .slice Ao21 t157.length co21] 26 (0, 0)) (by (with_reducible repeat (first | refine blk_drewN ?_ _ | refine blk_drew ?_ | refine blk_alloc ?_ _)); exact BK162.out) hb); have n2_ := Aside0.mk (below_step (by repeat (first | (with_reducible first | exact HB.out | apply below_alloc | apply pw_below_drewN | apply below_drew1 | refine below_set ?_ GE162.out) | exact HB.out)) hb); clear HO_163005; clear BK162; clear HB; have HO_163005 := n0_; have BK162 := n1_; have HB := n2_; clear n0_ n1_ n2_; (try clear hb); (try clear hb2); (try clear hk); (try clear hi); have hcz38_0 : w37.cell? ⟨gb162, 0, none⟩ = some (.int .u8 t152) := (blk_cell BK162.out 0).trans rfl; have hcz38_1 : w37.cell? ⟨gb162, 1, none⟩ = some (.int .u32 t153) := (blk_cell BK162.out 1).trans rfl; have hcz38_2 : w37.cell? ⟨gb162, 2, none⟩ = some (.string t154) := (blk_cell BK162.out 2).trans rfl; have hcz38_3 : w37.cell? ⟨gb162, 3, none⟩ = some (.int .u64 t155) := (blk_cell BK162.out 3).trans rfl; have hcz38_4 : w37.cell? ⟨gb162, 4, none⟩ = some (.int .u8 t156) := (blk_cell BK162.out 4).trans rfl; have hcz38_5 : w37.cell? ⟨gb162, 5, none⟩ = some (.slice Ao21 t157.length co21) := (blk_cell BK162.out 5).trans rfl; have hfz38_0 := blk_frozen BK162.out 0; have hfz38_1 := blk_frozen BK162.out 1; have hfz38_2 := blk_frozen BK162.out 2; have hfz38_3 := blk_frozen BK162.out 3; have hfz38_4 := blk_frozen BK162.out 4; have hfz38_5 := blk_frozen BK162.out 5))
              go_ret
              exact ⟨by first | rfl | (simp [errW_none, errW_some] <;> rfl) | (simp only [← hji8]; first | rfl | (simp [errW_none, errW_some] <;> rfl)) | (simp [*, errW_none, errW_some] <;> rfl), by repeat (first | (with_reducible first | exact HB.out | apply below_alloc | apply pw_below_drewN | apply below_drew1 | refine below_set ?_ GE162.out) | exact HB.out)⟩
             ·rw [if_neg c35] at H
              have c35b0 : (t154.toList == ([] : List UInt8)) = false := beq_eq_false_iff_ne.mpr c35
              have c35b1 : (t154.toList != ([] : List UInt8)) = true := bne_iff_ne.mpr c35
              obtain rfl := Option.some.inj H
              go_wp2_with (first | ((with_reducible refine gate_callee (f := 16) rfl ?_); refine goesL_ (some 56) rfl rfl Tryd.func16 (by kernel_rfl) rfl #[.string a1] rfl (by (try simp only [List.map_toArray, List.map_cons, List.map_nil]); first | done | rfl | (simp only [List.length_drop, List.length_take]; rfl)) ?_; (with_reducible refine (louverref21_May.calls kj11 a1 true _ A26.out).mono ?_); rintro e w39 ⟨rfl, hb⟩; refine ⟨_, rfl, ?_⟩; have n0_ := Aside0.mk (Kd.R_below (by (with_reducible repeat (first | apply Kd.R_alloc | apply Kd.R_drewN | apply Kd.R_drew)); exact HO_163005.out) hb); have n1_ := Aside0.mk (blk_below (g := gb162) (o := .cells #[.int .u8 t152, .int .u32 t153, .string t154, .int .u64 t155, .int .u8 t156, .slice Ao21 t157.length co21] 26 (0, 0)) (by (with_reducible repeat (first | refine blk_drewN ?_ _ | refine blk_drew ?_ | refine blk_alloc ?_ _)); exact BK162.out) hb); have n2_ := Aside0.mk (below_step (by repeat (first | (with_reducible first | exact HB.out | apply below_alloc | apply pw_below_drewN | apply below_drew1 | refine below_set ?_ GE162.out) | exact HB.out)) hb); clear HO_163005; clear BK162; clear HB; have HO_163005 := n0_; have BK162 := n1_; have HB := n2_; clear n0_ n1_ n2_; (try clear hb); (try clear hb2); (try clear hk); (try clear hi)) | ((with_reducible refine gate_callee (f := 11) rfl ?_); refine goesL_ (some 81) rfl rfl Tryd.func11 (by kernel_rfl) rfl #[] rfl (by (try simp only [List.map_toArray, List.map_cons, List.map_nil]); first | done | rfl | (simp only [List.length_drop, List.length_take]; rfl)) ?_; (with_reducible refine (louverlaw22_fixed.calls kj11  true _ A29.out).mono ?_); rintro e w40 ⟨rfl, hb⟩; refine ⟨_, rfl, ?_⟩; have n0_ := Aside0.mk (Kd.R_below (by (with_reducible repeat (first | apply Kd.R_alloc | apply Kd.R_drewN | apply Kd.R_drew)); exact HO_163005.out) hb); have n1_ := Aside0.mk (blk_below (g := gb162) (o := .cells #[.int .u8 t152, .int .u32 t153, .string t154, .int .u64 t155, .int .u8 t156, .slice Ao21 t157.length co21] 26 (0, 0)) (by (with_reducible repeat (first | refine blk_drewN ?_ _ | refine blk_drew ?_ | refine blk_alloc ?_ _)); exact BK162.out) hb); have n2_ := Aside0.mk (below_step (by repeat (first | (with_reducible first | exact HB.out | apply below_alloc | apply pw_below_drewN | apply below_drew1 | refine below_set ?_ GE162.out) | exact HB.out)) hb); clear HO_163005; clear BK162; clear HB; have HO_163005 := n0_; have BK162 := n1_; have HB := n2_; clear n0_ n1_ n2_; (try clear hb); (try clear hb2); (try clear hk); (try clear hi); have hcz41_0 : w40.cell? ⟨gb162, 0, none⟩ = some (.int .u8 t152) := (blk_cell BK162.out 0).trans rfl; have hcz41_1 : w40.cell? ⟨gb162, 1, none⟩ = some (.int .u32 t153) := (blk_cell BK162.out 1).trans rfl; have hcz41_2 : w40.cell? ⟨gb162, 2, none⟩ = some (.string t154) := (blk_cell BK162.out 2).trans rfl; have hcz41_3 : w40.cell? ⟨gb162, 3, none⟩ = some (.int .u64 t155) := (blk_cell BK162.out 3).trans rfl; have hcz41_4 : w40.cell? ⟨gb162, 4, none⟩ = some (.int .u8 t156) := (blk_cell BK162.out 4).trans rfl; have hcz41_5 : w40.cell? ⟨gb162, 5, none⟩ = some (.slice Ao21 t157.length co21) := (blk_cell BK162.out 5).trans rfl; have hfz41_0 := blk_frozen BK162.out 0; have hfz41_1 := blk_frozen BK162.out 1; have hfz41_2 := blk_frozen BK162.out 2; have hfz41_3 := blk_frozen BK162.out 3; have hfz41_4 := blk_frozen BK162.out 4; have hfz41_5 := blk_frozen BK162.out 5))
              go_ret
              exact ⟨by first | rfl | (simp [errW_none, errW_some] <;> rfl) | (simp only [← hji8]; first | rfl | (simp [errW_none, errW_some] <;> rfl)) | (simp [*, errW_none, errW_some] <;> rfl), by repeat (first | (with_reducible first | exact HB.out | apply below_alloc | apply pw_below_drewN | apply below_drew1 | refine below_set ?_ GE162.out) | exact HB.out)⟩
           ·rw [if_neg c31] at H
            have c31b0 : (t160 == 5) = false := beq_eq_false_iff_ne.mpr c31
            have c31b1 : (t160 != 5) = true := bne_iff_ne.mpr c31
            obtain rfl := Option.some.inj H
            go_wp2_with (first | ((with_reducible refine gate_callee (f := 16) rfl ?_); refine goesL_ (some 56) rfl rfl Tryd.func16 (by kernel_rfl) rfl #[.string a1] rfl (by (try simp only [List.map_toArray, List.map_cons, List.map_nil]); first | done | rfl | (simp only [List.length_drop, List.length_take]; rfl)) ?_; (with_reducible refine (louverref21_May.calls kj11 a1 true _ A26.out).mono ?_); rintro e w42 ⟨rfl, hb⟩; refine ⟨_, rfl, ?_⟩; have n0_ := Aside0.mk (Kd.R_below (by (with_reducible repeat (first | apply Kd.R_alloc | apply Kd.R_drewN | apply Kd.R_drew)); exact HO_163005.out) hb); have n1_ := Aside0.mk (blk_below (g := gb162) (o := .cells #[.int .u8 t152, .int .u32 t153, .string t154, .int .u64 t155, .int .u8 t156, .slice Ao21 t157.length co21] 26 (0, 0)) (by (with_reducible repeat (first | refine blk_drewN ?_ _ | refine blk_drew ?_ | refine blk_alloc ?_ _)); exact BK162.out) hb); have n2_ := Aside0.mk (below_step (by repeat (first | (with_reducible first | exact HB.out | apply below_alloc | apply pw_below_drewN | apply below_drew1 | refine below_set ?_ GE162.out) | exact HB.out)) hb); clear HO_163005; clear BK162; clear HB; have HO_163005 := n0_; have BK162 := n1_; have HB := n2_; clear n0_ n1_ n2_; (try clear hb); (try clear hb2); (try clear hk); (try clear hi)) | ((with_reducible refine gate_callee (f := 11) rfl ?_); refine goesL_ (some 81) rfl rfl Tryd.func11 (by kernel_rfl) rfl #[] rfl (by (try simp only [List.map_toArray, List.map_cons, List.map_nil]); first | done | rfl | (simp only [List.length_drop, List.length_take]; rfl)) ?_; (with_reducible refine (louverlaw22_fixed.calls kj11  true _ A29.out).mono ?_); rintro e w43 ⟨rfl, hb⟩; refine ⟨_, rfl, ?_⟩; have n0_ := Aside0.mk (Kd.R_below (by (with_reducible repeat (first | apply Kd.R_alloc | apply Kd.R_drewN | apply Kd.R_drew)); exact HO_163005.out) hb); have n1_ := Aside0.mk (blk_below (g := gb162) (o := .cells #[.int .u8 t152, .int .u32 t153, .string t154, .int .u64 t155, .int .u8 t156, .slice Ao21 t157.length co21] 26 (0, 0)) (by (with_reducible repeat (first | refine blk_drewN ?_ _ | refine blk_drew ?_ | refine blk_alloc ?_ _)); exact BK162.out) hb); have n2_ := Aside0.mk (below_step (by repeat (first | (with_reducible first | exact HB.out | apply below_alloc | apply pw_below_drewN | apply below_drew1 | refine below_set ?_ GE162.out) | exact HB.out)) hb); clear HO_163005; clear BK162; clear HB; have HO_163005 := n0_; have BK162 := n1_; have HB := n2_; clear n0_ n1_ n2_; (try clear hb); (try clear hb2); (try clear hk); (try clear hi)))
            go_ret
            exact ⟨by first | rfl | (simp [errW_none, errW_some] <;> rfl) | (simp only [← hji8]; first | rfl | (simp [errW_none, errW_some] <;> rfl)) | (simp [*, errW_none, errW_some] <;> rfl), by repeat (first | (with_reducible first | exact HB.out | apply below_alloc | apply pw_below_drewN | apply below_drew1 | refine below_set ?_ GE162.out) | exact HB.out)⟩
          ·replace c30 := Bool.eq_false_iff.mpr c30
           subst c30
           have H1 : (some false) = some r := by rw [if_neg (show ¬ (false = true) by decide)] at H; exact H
           clear H
           have H := H1
           clear H1
           obtain rfl := Option.some.inj H
           go_wp2_with (first | ((with_reducible refine gate_callee (f := 16) rfl ?_); refine goesL_ (some 56) rfl rfl Tryd.func16 (by kernel_rfl) rfl #[.string a1] rfl (by (try simp only [List.map_toArray, List.map_cons, List.map_nil]); first | done | rfl | (simp only [List.length_drop, List.length_take]; rfl)) ?_; (with_reducible refine (louverref21_May.calls kj11 a1 true _ A26.out).mono ?_); rintro e w44 ⟨rfl, hb⟩; refine ⟨_, rfl, ?_⟩; have n0_ := Aside0.mk (Kd.R_below (by (with_reducible repeat (first | apply Kd.R_alloc | apply Kd.R_drewN | apply Kd.R_drew)); exact HO_163005.out) hb); have n1_ := Aside0.mk (blk_below (g := gb162) (o := .cells #[.int .u8 t152, .int .u32 t153, .string t154, .int .u64 t155, .int .u8 t156, .slice Ao21 t157.length co21] 26 (0, 0)) (by (with_reducible repeat (first | refine blk_drewN ?_ _ | refine blk_drew ?_ | refine blk_alloc ?_ _)); exact BK162.out) hb); have n2_ := Aside0.mk (below_step (by repeat (first | (with_reducible first | exact HB.out | apply below_alloc | apply pw_below_drewN | apply below_drew1 | refine below_set ?_ GE162.out) | exact HB.out)) hb); clear HO_163005; clear BK162; clear HB; have HO_163005 := n0_; have BK162 := n1_; have HB := n2_; clear n0_ n1_ n2_; (try clear hb); (try clear hb2); (try clear hk); (try clear hi)) | ((with_reducible refine gate_callee (f := 11) rfl ?_); refine goesL_ (some 81) rfl rfl Tryd.func11 (by kernel_rfl) rfl #[] rfl (by (try simp only [List.map_toArray, List.map_cons, List.map_nil]); first | done | rfl | (simp only [List.length_drop, List.length_take]; rfl)) ?_; (with_reducible refine (louverlaw22_fixed.calls kj11  false _ A29.out).mono ?_); rintro e w45 ⟨rfl, hb⟩; refine ⟨_, rfl, ?_⟩; have n0_ := Aside0.mk (Kd.R_below (by (with_reducible repeat (first | apply Kd.R_alloc | apply Kd.R_drewN | apply Kd.R_drew)); exact HO_163005.out) hb); have n1_ := Aside0.mk (blk_below (g := gb162) (o := .cells #[.int .u8 t152, .int .u32 t153, .string t154, .int .u64 t155, .int .u8 t156, .slice Ao21 t157.length co21] 26 (0, 0)) (by (with_reducible repeat (first | refine blk_drewN ?_ _ | refine blk_drew ?_ | refine blk_alloc ?_ _)); exact BK162.out) hb); have n2_ := Aside0.mk (below_step (by repeat (first | (with_reducible first | exact HB.out | apply below_alloc | apply pw_below_drewN | apply below_drew1 | refine below_set ?_ GE162.out) | exact HB.out)) hb); clear HO_163005; clear BK162; clear HB; have HO_163005 := n0_; have BK162 := n1_; have HB := n2_; clear n0_ n1_ n2_; (try clear hb); (try clear hb2); (try clear hk); (try clear hi)))
           go_ret
           exact ⟨by first | rfl | (simp [errW_none, errW_some] <;> rfl) | (simp only [← hji8]; first | rfl | (simp [errW_none, errW_some] <;> rfl)) | (simp [*, errW_none, errW_some] <;> rfl), by repeat (first | (with_reducible first | exact HB.out | apply below_alloc | apply pw_below_drewN | apply below_drew1 | refine below_set ?_ GE162.out) | exact HB.out)⟩
         ·rw [if_neg c28] at H
          have c28b0 : decide (2048 < ji8) = false := decide_eq_false c28
          clear c28
          replace H := Option.bind_eq_some_iff.mp H
          obtain ⟨t165, A460, H⟩ := H
          replace H : (if t165 = true then (if t160 = 0 then (if t161 = true then (if t154.toList = a1.toList then (some ((t157.length : Int) == ji8)) else (some false)) else (some false)) else (some false)) else (some false)) = some r := H
          have A46 := Aside0.mk A460
          clear A460
          by_cases c47 : t165 = true
          ·subst c47
           have H1 : (if t160 = 0 then (if t161 = true then (if t154.toList = a1.toList then (some ((t157.length : Int) == ji8)) else (some false)) else (some false)) else (some false)) = some r := by rw [if_pos rfl] at H; exact H
           clear H
           have H := H1
           clear H1
           by_cases c48 : t160 = 0
           ·rw [if_pos c48] at H
            have c48b0 : (t160 == 0) = true := beq_iff_eq.mpr c48
            have c48b1 : (t160 != 0) = false := bne_eq_false_iff_eq.mpr c48
            clear c48
            by_cases c49 : t161 = true
            ·subst c49
             have H1 : (if t154.toList = a1.toList then (some ((t157.length : Int) == ji8)) else (some false)) = some r := by rw [if_pos rfl] at H; exact H
             clear H
             have H := H1
             clear H1
             by_cases c50 : t154.toList = a1.toList
             ·rw [if_pos c50] at H
              have c50b0 : (t154.toList == a1.toList) = true := beq_iff_eq.mpr c50
              have c50b1 : (t154.toList != a1.toList) = false := bne_eq_false_iff_eq.mpr c50
              clear c50
              obtain rfl := Option.some.inj H
              go_wp2_with (first | ((with_reducible refine gate_callee (f := 16) rfl ?_); refine goesL_ (some 56) rfl rfl Tryd.func16 (by kernel_rfl) rfl #[.string a1] rfl (by (try simp only [List.map_toArray, List.map_cons, List.map_nil]); first | done | rfl | (simp only [List.length_drop, List.length_take]; rfl)) ?_; (with_reducible refine (louverref21_May.calls kj11 a1 true _ A26.out).mono ?_); rintro e w51 ⟨rfl, hb⟩; refine ⟨_, rfl, ?_⟩; have n0_ := Aside0.mk (Kd.R_below (by (with_reducible repeat (first | apply Kd.R_alloc | apply Kd.R_drewN | apply Kd.R_drew)); exact HO_163005.out) hb); have n1_ := Aside0.mk (blk_below (g := gb162) (o := .cells #[.int .u8 t152, .int .u32 t153, .string t154, .int .u64 t155, .int .u8 t156, .slice Ao21 t157.length co21] 26 (0, 0)) (by (with_reducible repeat (first | refine blk_drewN ?_ _ | refine blk_drew ?_ | refine blk_alloc ?_ _)); exact BK162.out) hb); have n2_ := Aside0.mk (below_step (by repeat (first | (with_reducible first | exact HB.out | apply below_alloc | apply pw_below_drewN | apply below_drew1 | refine below_set ?_ GE162.out) | exact HB.out)) hb); clear HO_163005; clear BK162; clear HB; have HO_163005 := n0_; have BK162 := n1_; have HB := n2_; clear n0_ n1_ n2_; (try clear hb); (try clear hb2); (try clear hk); (try clear hi)) | ((with_reducible refine gate_callee (f := 11) rfl ?_); refine goesL_ (some 101) rfl rfl Tryd.func11 (by kernel_rfl) rfl #[] rfl (by (try simp only [List.map_toArray, List.map_cons, List.map_nil]); first | done | rfl | (simp only [List.length_drop, List.length_take]; rfl)) ?_; (with_reducible refine (louverlaw22_fixed.calls kj11  true _ A46.out).mono ?_); rintro e w52 ⟨rfl, hb⟩; refine ⟨_, rfl, ?_⟩; have n0_ := Aside0.mk (Kd.R_below (by (with_reducible repeat (first | apply Kd.R_alloc | apply Kd.R_drewN | apply Kd.R_drew)); exact HO_163005.out) hb); have n1_ := Aside0.mk (blk_below (g := gb162) (o := .cells #[.int .u8 t152, .int .u32 t153, .string t154, .int .u64 t155, .int .u8 t156, .slice Ao21 t157.length co21] 26 (0, 0)) (by (with_reducible repeat (first | refine blk_drewN ?_ _ | refine blk_drew ?_ | refine blk_alloc ?_ _)); exact BK162.out) hb); have n2_ := Aside0.mk (below_step (by repeat (first | (with_reducible first | exact HB.out | apply below_alloc | apply pw_below_drewN | apply below_drew1 | refine below_set ?_ GE162.out) | exact HB.out)) hb); clear HO_163005; clear BK162; clear HB; have HO_163005 := n0_; have BK162 := n1_; have HB := n2_; clear n0_ n1_ n2_; (try clear hb); (try clear hb2); (try clear hk); (try clear hi); have hcz53_0 : w52.cell? ⟨gb162, 0, none⟩ = some (.int .u8 t152) := (blk_cell BK162.out 0).trans rfl; have hcz53_1 : w52.cell? ⟨gb162, 1, none⟩ = some (.int .u32 t153) := (blk_cell BK162.out 1).trans rfl; have hcz53_2 : w52.cell? ⟨gb162, 2, none⟩ = some (.string t154) := (blk_cell BK162.out 2).trans rfl; have hcz53_3 : w52.cell? ⟨gb162, 3, none⟩ = some (.int .u64 t155) := (blk_cell BK162.out 3).trans rfl; have hcz53_4 : w52.cell? ⟨gb162, 4, none⟩ = some (.int .u8 t156) := (blk_cell BK162.out 4).trans rfl; have hcz53_5 : w52.cell? ⟨gb162, 5, none⟩ = some (.slice Ao21 t157.length co21) := (blk_cell BK162.out 5).trans rfl; have hfz53_0 := blk_frozen BK162.out 0; have hfz53_1 := blk_frozen BK162.out 1; have hfz53_2 := blk_frozen BK162.out 2; have hfz53_3 := blk_frozen BK162.out 3; have hfz53_4 := blk_frozen BK162.out 4; have hfz53_5 := blk_frozen BK162.out 5))
              go_ret
              exact ⟨by first | rfl | (simp [errW_none, errW_some] <;> rfl) | (simp only [← hji8]; first | rfl | (simp [errW_none, errW_some] <;> rfl)) | (simp [*, errW_none, errW_some] <;> rfl), by repeat (first | (with_reducible first | exact HB.out | apply below_alloc | apply pw_below_drewN | apply below_drew1 | refine below_set ?_ GE162.out) | exact HB.out)⟩
             ·rw [if_neg c50] at H
              have c50b0 : (t154.toList == a1.toList) = false := beq_eq_false_iff_ne.mpr c50
              have c50b1 : (t154.toList != a1.toList) = true := bne_iff_ne.mpr c50
              obtain rfl := Option.some.inj H
              go_wp2_with (first | ((with_reducible refine gate_callee (f := 16) rfl ?_); refine goesL_ (some 56) rfl rfl Tryd.func16 (by kernel_rfl) rfl #[.string a1] rfl (by (try simp only [List.map_toArray, List.map_cons, List.map_nil]); first | done | rfl | (simp only [List.length_drop, List.length_take]; rfl)) ?_; (with_reducible refine (louverref21_May.calls kj11 a1 true _ A26.out).mono ?_); rintro e w54 ⟨rfl, hb⟩; refine ⟨_, rfl, ?_⟩; have n0_ := Aside0.mk (Kd.R_below (by (with_reducible repeat (first | apply Kd.R_alloc | apply Kd.R_drewN | apply Kd.R_drew)); exact HO_163005.out) hb); have n1_ := Aside0.mk (blk_below (g := gb162) (o := .cells #[.int .u8 t152, .int .u32 t153, .string t154, .int .u64 t155, .int .u8 t156, .slice Ao21 t157.length co21] 26 (0, 0)) (by (with_reducible repeat (first | refine blk_drewN ?_ _ | refine blk_drew ?_ | refine blk_alloc ?_ _)); exact BK162.out) hb); have n2_ := Aside0.mk (below_step (by repeat (first | (with_reducible first | exact HB.out | apply below_alloc | apply pw_below_drewN | apply below_drew1 | refine below_set ?_ GE162.out) | exact HB.out)) hb); clear HO_163005; clear BK162; clear HB; have HO_163005 := n0_; have BK162 := n1_; have HB := n2_; clear n0_ n1_ n2_; (try clear hb); (try clear hb2); (try clear hk); (try clear hi)) | ((with_reducible refine gate_callee (f := 11) rfl ?_); refine goesL_ (some 101) rfl rfl Tryd.func11 (by kernel_rfl) rfl #[] rfl (by (try simp only [List.map_toArray, List.map_cons, List.map_nil]); first | done | rfl | (simp only [List.length_drop, List.length_take]; rfl)) ?_; (with_reducible refine (louverlaw22_fixed.calls kj11  true _ A46.out).mono ?_); rintro e w55 ⟨rfl, hb⟩; refine ⟨_, rfl, ?_⟩; have n0_ := Aside0.mk (Kd.R_below (by (with_reducible repeat (first | apply Kd.R_alloc | apply Kd.R_drewN | apply Kd.R_drew)); exact HO_163005.out) hb); have n1_ := Aside0.mk (blk_below (g := gb162) (o := .cells #[.int .u8 t152, .int .u32 t153, .string t154, .int .u64 t155, .int .u8 t156, .slice Ao21 t157.length co21] 26 (0, 0)) (by (with_reducible repeat (first | refine blk_drewN ?_ _ | refine blk_drew ?_ | refine blk_alloc ?_ _)); exact BK162.out) hb); have n2_ := Aside0.mk (below_step (by repeat (first | (with_reducible first | exact HB.out | apply below_alloc | apply pw_below_drewN | apply below_drew1 | refine below_set ?_ GE162.out) | exact HB.out)) hb); clear HO_163005; clear BK162; clear HB; have HO_163005 := n0_; have BK162 := n1_; have HB := n2_; clear n0_ n1_ n2_; (try clear hb); (try clear hb2); (try clear hk); (try clear hi); have hcz56_0 : w55.cell? ⟨gb162, 0, none⟩ = some (.int .u8 t152) := (blk_cell BK162.out 0).trans rfl; have hcz56_1 : w55.cell? ⟨gb162, 1, none⟩ = some (.int .u32 t153) := (blk_cell BK162.out 1).trans rfl; have hcz56_2 : w55.cell? ⟨gb162, 2, none⟩ = some (.string t154) := (blk_cell BK162.out 2).trans rfl; have hcz56_3 : w55.cell? ⟨gb162, 3, none⟩ = some (.int .u64 t155) := (blk_cell BK162.out 3).trans rfl; have hcz56_4 : w55.cell? ⟨gb162, 4, none⟩ = some (.int .u8 t156) := (blk_cell BK162.out 4).trans rfl; have hcz56_5 : w55.cell? ⟨gb162, 5, none⟩ = some (.slice Ao21 t157.length co21) := (blk_cell BK162.out 5).trans rfl; have hfz56_0 := blk_frozen BK162.out 0; have hfz56_1 := blk_frozen BK162.out 1; have hfz56_2 := blk_frozen BK162.out 2; have hfz56_3 := blk_frozen BK162.out 3; have hfz56_4 := blk_frozen BK162.out 4; have hfz56_5 := blk_frozen BK162.out 5))
              go_ret
              exact ⟨by first | rfl | (simp [errW_none, errW_some] <;> rfl) | (simp only [← hji8]; first | rfl | (simp [errW_none, errW_some] <;> rfl)) | (simp [*, errW_none, errW_some] <;> rfl), by repeat (first | (with_reducible first | exact HB.out | apply below_alloc | apply pw_below_drewN | apply below_drew1 | refine below_set ?_ GE162.out) | exact HB.out)⟩
            ·replace c49 := Bool.eq_false_iff.mpr c49
             subst c49
             have H1 : (some false) = some r := by rw [if_neg (show ¬ (false = true) by decide)] at H; exact H
             clear H
             have H := H1
             clear H1
             obtain rfl := Option.some.inj H
             go_wp2_with (first | ((with_reducible refine gate_callee (f := 16) rfl ?_); refine goesL_ (some 56) rfl rfl Tryd.func16 (by kernel_rfl) rfl #[.string a1] rfl (by (try simp only [List.map_toArray, List.map_cons, List.map_nil]); first | done | rfl | (simp only [List.length_drop, List.length_take]; rfl)) ?_; (with_reducible refine (louverref21_May.calls kj11 a1 true _ A26.out).mono ?_); rintro e w57 ⟨rfl, hb⟩; refine ⟨_, rfl, ?_⟩; have n0_ := Aside0.mk (Kd.R_below (by (with_reducible repeat (first | apply Kd.R_alloc | apply Kd.R_drewN | apply Kd.R_drew)); exact HO_163005.out) hb); have n1_ := Aside0.mk (blk_below (g := gb162) (o := .cells #[.int .u8 t152, .int .u32 t153, .string t154, .int .u64 t155, .int .u8 t156, .slice Ao21 t157.length co21] 26 (0, 0)) (by (with_reducible repeat (first | refine blk_drewN ?_ _ | refine blk_drew ?_ | refine blk_alloc ?_ _)); exact BK162.out) hb); have n2_ := Aside0.mk (below_step (by repeat (first | (with_reducible first | exact HB.out | apply below_alloc | apply pw_below_drewN | apply below_drew1 | refine below_set ?_ GE162.out) | exact HB.out)) hb); clear HO_163005; clear BK162; clear HB; have HO_163005 := n0_; have BK162 := n1_; have HB := n2_; clear n0_ n1_ n2_; (try clear hb); (try clear hb2); (try clear hk); (try clear hi)) | ((with_reducible refine gate_callee (f := 11) rfl ?_); refine goesL_ (some 101) rfl rfl Tryd.func11 (by kernel_rfl) rfl #[] rfl (by (try simp only [List.map_toArray, List.map_cons, List.map_nil]); first | done | rfl | (simp only [List.length_drop, List.length_take]; rfl)) ?_; (with_reducible refine (louverlaw22_fixed.calls kj11  true _ A46.out).mono ?_); rintro e w58 ⟨rfl, hb⟩; refine ⟨_, rfl, ?_⟩; have n0_ := Aside0.mk (Kd.R_below (by (with_reducible repeat (first | apply Kd.R_alloc | apply Kd.R_drewN | apply Kd.R_drew)); exact HO_163005.out) hb); have n1_ := Aside0.mk (blk_below (g := gb162) (o := .cells #[.int .u8 t152, .int .u32 t153, .string t154, .int .u64 t155, .int .u8 t156, .slice Ao21 t157.length co21] 26 (0, 0)) (by (with_reducible repeat (first | refine blk_drewN ?_ _ | refine blk_drew ?_ | refine blk_alloc ?_ _)); exact BK162.out) hb); have n2_ := Aside0.mk (below_step (by repeat (first | (with_reducible first | exact HB.out | apply below_alloc | apply pw_below_drewN | apply below_drew1 | refine below_set ?_ GE162.out) | exact HB.out)) hb); clear HO_163005; clear BK162; clear HB; have HO_163005 := n0_; have BK162 := n1_; have HB := n2_; clear n0_ n1_ n2_; (try clear hb); (try clear hb2); (try clear hk); (try clear hi)))
             go_ret
             exact ⟨by first | rfl | (simp [errW_none, errW_some] <;> rfl) | (simp only [← hji8]; first | rfl | (simp [errW_none, errW_some] <;> rfl)) | (simp [*, errW_none, errW_some] <;> rfl), by repeat (first | (with_reducible first | exact HB.out | apply below_alloc | apply pw_below_drewN | apply below_drew1 | refine below_set ?_ GE162.out) | exact HB.out)⟩
           ·rw [if_neg c48] at H
            have c48b0 : (t160 == 0) = false := beq_eq_false_iff_ne.mpr c48
            have c48b1 : (t160 != 0) = true := bne_iff_ne.mpr c48
            obtain rfl := Option.some.inj H
            go_wp2_with (first | ((with_reducible refine gate_callee (f := 16) rfl ?_); refine goesL_ (some 56) rfl rfl Tryd.func16 (by kernel_rfl) rfl #[.string a1] rfl (by (try simp only [List.map_toArray, List.map_cons, List.map_nil]); first | done | rfl | (simp only [List.length_drop, List.length_take]; rfl)) ?_; (with_reducible refine (louverref21_May.calls kj11 a1 true _ A26.out).mono ?_); rintro e w59 ⟨rfl, hb⟩; refine ⟨_, rfl, ?_⟩; have n0_ := Aside0.mk (Kd.R_below (by (with_reducible repeat (first | apply Kd.R_alloc | apply Kd.R_drewN | apply Kd.R_drew)); exact HO_163005.out) hb); have n1_ := Aside0.mk (blk_below (g := gb162) (o := .cells #[.int .u8 t152, .int .u32 t153, .string t154, .int .u64 t155, .int .u8 t156, .slice Ao21 t157.length co21] 26 (0, 0)) (by (with_reducible repeat (first | refine blk_drewN ?_ _ | refine blk_drew ?_ | refine blk_alloc ?_ _)); exact BK162.out) hb); have n2_ := Aside0.mk (below_step (by repeat (first | (with_reducible first | exact HB.out | apply below_alloc | apply pw_below_drewN | apply below_drew1 | refine below_set ?_ GE162.out) | exact HB.out)) hb); clear HO_163005; clear BK162; clear HB; have HO_163005 := n0_; have BK162 := n1_; have HB := n2_; clear n0_ n1_ n2_; (try clear hb); (try clear hb2); (try clear hk); (try clear hi)) | ((with_reducible refine gate_callee (f := 11) rfl ?_); refine goesL_ (some 101) rfl rfl Tryd.func11 (by kernel_rfl) rfl #[] rfl (by (try simp only [List.map_toArray, List.map_cons, List.map_nil]); first | done | rfl | (simp only [List.length_drop, List.length_take]; rfl)) ?_; (with_reducible refine (louverlaw22_fixed.calls kj11  true _ A46.out).mono ?_); rintro e w60 ⟨rfl, hb⟩; refine ⟨_, rfl, ?_⟩; have n0_ := Aside0.mk (Kd.R_below (by (with_reducible repeat (first | apply Kd.R_alloc | apply Kd.R_drewN | apply Kd.R_drew)); exact HO_163005.out) hb); have n1_ := Aside0.mk (blk_below (g := gb162) (o := .cells #[.int .u8 t152, .int .u32 t153, .string t154, .int .u64 t155, .int .u8 t156, .slice Ao21 t157.length co21] 26 (0, 0)) (by (with_reducible repeat (first | refine blk_drewN ?_ _ | refine blk_drew ?_ | refine blk_alloc ?_ _)); exact BK162.out) hb); have n2_ := Aside0.mk (below_step (by repeat (first | (with_reducible first | exact HB.out | apply below_alloc | apply pw_below_drewN | apply below_drew1 | refine below_set ?_ GE162.out) | exact HB.out)) hb); clear HO_163005; clear BK162; clear HB; have HO_163005 := n0_; have BK162 := n1_; have HB := n2_; clear n0_ n1_ n2_; (try clear hb); (try clear hb2); (try clear hk); (try clear hi)))
            go_ret
            exact ⟨by first | rfl | (simp [errW_none, errW_some] <;> rfl) | (simp only [← hji8]; first | rfl | (simp [errW_none, errW_some] <;> rfl)) | (simp [*, errW_none, errW_some] <;> rfl), by repeat (first | (with_reducible first | exact HB.out | apply below_alloc | apply pw_below_drewN | apply below_drew1 | refine below_set ?_ GE162.out) | exact HB.out)⟩
          ·replace c47 := Bool.eq_false_iff.mpr c47
           subst c47
           have H1 : (some false) = some r := by rw [if_neg (show ¬ (false = true) by decide)] at H; exact H
           clear H
           have H := H1
           clear H1
           obtain rfl := Option.some.inj H
           go_wp2_with (first | ((with_reducible refine gate_callee (f := 16) rfl ?_); refine goesL_ (some 56) rfl rfl Tryd.func16 (by kernel_rfl) rfl #[.string a1] rfl (by (try simp only [List.map_toArray, List.map_cons, List.map_nil]); first | done | rfl | (simp only [List.length_drop, List.length_take]; rfl)) ?_; (with_reducible refine (louverref21_May.calls kj11 a1 true _ A26.out).mono ?_); rintro e w61 ⟨rfl, hb⟩; refine ⟨_, rfl, ?_⟩; have n0_ := Aside0.mk (Kd.R_below (by (with_reducible repeat (first | apply Kd.R_alloc | apply Kd.R_drewN | apply Kd.R_drew)); exact HO_163005.out) hb); have n1_ := Aside0.mk (blk_below (g := gb162) (o := .cells #[.int .u8 t152, .int .u32 t153, .string t154, .int .u64 t155, .int .u8 t156, .slice Ao21 t157.length co21] 26 (0, 0)) (by (with_reducible repeat (first | refine blk_drewN ?_ _ | refine blk_drew ?_ | refine blk_alloc ?_ _)); exact BK162.out) hb); have n2_ := Aside0.mk (below_step (by repeat (first | (with_reducible first | exact HB.out | apply below_alloc | apply pw_below_drewN | apply below_drew1 | refine below_set ?_ GE162.out) | exact HB.out)) hb); clear HO_163005; clear BK162; clear HB; have HO_163005 := n0_; have BK162 := n1_; have HB := n2_; clear n0_ n1_ n2_; (try clear hb); (try clear hb2); (try clear hk); (try clear hi)) | ((with_reducible refine gate_callee (f := 11) rfl ?_); refine goesL_ (some 101) rfl rfl Tryd.func11 (by kernel_rfl) rfl #[] rfl (by (try simp only [List.map_toArray, List.map_cons, List.map_nil]); first | done | rfl | (simp only [List.length_drop, List.length_take]; rfl)) ?_; (with_reducible refine (louverlaw22_fixed.calls kj11  false _ A46.out).mono ?_); rintro e w62 ⟨rfl, hb⟩; refine ⟨_, rfl, ?_⟩; have n0_ := Aside0.mk (Kd.R_below (by (with_reducible repeat (first | apply Kd.R_alloc | apply Kd.R_drewN | apply Kd.R_drew)); exact HO_163005.out) hb); have n1_ := Aside0.mk (blk_below (g := gb162) (o := .cells #[.int .u8 t152, .int .u32 t153, .string t154, .int .u64 t155, .int .u8 t156, .slice Ao21 t157.length co21] 26 (0, 0)) (by (with_reducible repeat (first | refine blk_drewN ?_ _ | refine blk_drew ?_ | refine blk_alloc ?_ _)); exact BK162.out) hb); have n2_ := Aside0.mk (below_step (by repeat (first | (with_reducible first | exact HB.out | apply below_alloc | apply pw_below_drewN | apply below_drew1 | refine below_set ?_ GE162.out) | exact HB.out)) hb); clear HO_163005; clear BK162; clear HB; have HO_163005 := n0_; have BK162 := n1_; have HB := n2_; clear n0_ n1_ n2_; (try clear hb); (try clear hb2); (try clear hk); (try clear hi)))
           go_ret
           exact ⟨by first | rfl | (simp [errW_none, errW_some] <;> rfl) | (simp only [← hji8]; first | rfl | (simp [errW_none, errW_some] <;> rfl)) | (simp [*, errW_none, errW_some] <;> rfl), by repeat (first | (with_reducible first | exact HB.out | apply below_alloc | apply pw_below_drewN | apply below_drew1 | refine below_set ?_ GE162.out) | exact HB.out)⟩
        ·replace c27 := Bool.eq_false_iff.mpr c27
         subst c27
         have H1 : ((louverlaw22_fixed.f kj11).bind fun t166 => (if t166 = true then (if t160 = 1 then (if t161 = true then (some false) else (if t154.toList = ([] : List UInt8) then (some ((t157.length : Int) == 0)) else (some false))) else (some false)) else (some false))) = some r := by rw [if_neg (show ¬ (false = true) by decide)] at H; exact H
         clear H
         have H := H1
         clear H1
         replace H := Option.bind_eq_some_iff.mp H
         obtain ⟨t166, A630, H⟩ := H
         replace H : (if t166 = true then (if t160 = 1 then (if t161 = true then (some false) else (if t154.toList = ([] : List UInt8) then (some ((t157.length : Int) == 0)) else (some false))) else (some false)) else (some false)) = some r := H
         have A63 := Aside0.mk A630
         clear A630
         by_cases c64 : t166 = true
         ·subst c64
          have H1 : (if t160 = 1 then (if t161 = true then (some false) else (if t154.toList = ([] : List UInt8) then (some ((t157.length : Int) == 0)) else (some false))) else (some false)) = some r := by rw [if_pos rfl] at H; exact H
          clear H
          have H := H1
          clear H1
          by_cases c65 : t160 = 1
          ·rw [if_pos c65] at H
           have c65b0 : (t160 == 1) = true := beq_iff_eq.mpr c65
           have c65b1 : (t160 != 1) = false := bne_eq_false_iff_eq.mpr c65
           clear c65
           by_cases c66 : t161 = true
           ·subst c66
            have H1 : (some false) = some r := by rw [if_pos rfl] at H; exact H
            clear H
            have H := H1
            clear H1
            obtain rfl := Option.some.inj H
            go_wp2_with (first | ((with_reducible refine gate_callee (f := 16) rfl ?_); refine goesL_ (some 56) rfl rfl Tryd.func16 (by kernel_rfl) rfl #[.string a1] rfl (by (try simp only [List.map_toArray, List.map_cons, List.map_nil]); first | done | rfl | (simp only [List.length_drop, List.length_take]; rfl)) ?_; (with_reducible refine (louverref21_May.calls kj11 a1 false _ A26.out).mono ?_); rintro e w67 ⟨rfl, hb⟩; refine ⟨_, rfl, ?_⟩; have n0_ := Aside0.mk (Kd.R_below (by (with_reducible repeat (first | apply Kd.R_alloc | apply Kd.R_drewN | apply Kd.R_drew)); exact HO_163005.out) hb); have n1_ := Aside0.mk (blk_below (g := gb162) (o := .cells #[.int .u8 t152, .int .u32 t153, .string t154, .int .u64 t155, .int .u8 t156, .slice Ao21 t157.length co21] 26 (0, 0)) (by (with_reducible repeat (first | refine blk_drewN ?_ _ | refine blk_drew ?_ | refine blk_alloc ?_ _)); exact BK162.out) hb); have n2_ := Aside0.mk (below_step (by repeat (first | (with_reducible first | exact HB.out | apply below_alloc | apply pw_below_drewN | apply below_drew1 | refine below_set ?_ GE162.out) | exact HB.out)) hb); clear HO_163005; clear BK162; clear HB; have HO_163005 := n0_; have BK162 := n1_; have HB := n2_; clear n0_ n1_ n2_; (try clear hb); (try clear hb2); (try clear hk); (try clear hi)) | ((with_reducible refine gate_callee (f := 11) rfl ?_); refine goesL_ (some 58) rfl rfl Tryd.func11 (by kernel_rfl) rfl #[] rfl (by (try simp only [List.map_toArray, List.map_cons, List.map_nil]); first | done | rfl | (simp only [List.length_drop, List.length_take]; rfl)) ?_; (with_reducible refine (louverlaw22_fixed.calls kj11  true _ A63.out).mono ?_); rintro e w68 ⟨rfl, hb⟩; refine ⟨_, rfl, ?_⟩; have n0_ := Aside0.mk (Kd.R_below (by (with_reducible repeat (first | apply Kd.R_alloc | apply Kd.R_drewN | apply Kd.R_drew)); exact HO_163005.out) hb); have n1_ := Aside0.mk (blk_below (g := gb162) (o := .cells #[.int .u8 t152, .int .u32 t153, .string t154, .int .u64 t155, .int .u8 t156, .slice Ao21 t157.length co21] 26 (0, 0)) (by (with_reducible repeat (first | refine blk_drewN ?_ _ | refine blk_drew ?_ | refine blk_alloc ?_ _)); exact BK162.out) hb); have n2_ := Aside0.mk (below_step (by repeat (first | (with_reducible first | exact HB.out | apply below_alloc | apply pw_below_drewN | apply below_drew1 | refine below_set ?_ GE162.out) | exact HB.out)) hb); clear HO_163005; clear BK162; clear HB; have HO_163005 := n0_; have BK162 := n1_; have HB := n2_; clear n0_ n1_ n2_; (try clear hb); (try clear hb2); (try clear hk); (try clear hi)))
            go_ret
            exact ⟨by first | rfl | (simp [errW_none, errW_some] <;> rfl) | (simp only [← hji8]; first | rfl | (simp [errW_none, errW_some] <;> rfl)) | (simp [*, errW_none, errW_some] <;> rfl), by repeat (first | (with_reducible first | exact HB.out | apply below_alloc | apply pw_below_drewN | apply below_drew1 | refine below_set ?_ GE162.out) | exact HB.out)⟩
           ·replace c66 := Bool.eq_false_iff.mpr c66
            subst c66
            have H1 : (if t154.toList = ([] : List UInt8) then (some ((t157.length : Int) == 0)) else (some false)) = some r := by rw [if_neg (show ¬ (false = true) by decide)] at H; exact H
            clear H
            have H := H1
            clear H1
            by_cases c69 : t154.toList = ([] : List UInt8)
            ·rw [if_pos c69] at H
             have c69b0 : (t154.toList == ([] : List UInt8)) = true := beq_iff_eq.mpr c69
             have c69b1 : (t154.toList != ([] : List UInt8)) = false := bne_eq_false_iff_eq.mpr c69
             clear c69
             obtain rfl := Option.some.inj H
             go_wp2_with (first | ((with_reducible refine gate_callee (f := 16) rfl ?_); refine goesL_ (some 56) rfl rfl Tryd.func16 (by kernel_rfl) rfl #[.string a1] rfl (by (try simp only [List.map_toArray, List.map_cons, List.map_nil]); first | done | rfl | (simp only [List.length_drop, List.length_take]; rfl)) ?_; (with_reducible refine (louverref21_May.calls kj11 a1 false _ A26.out).mono ?_); rintro e w70 ⟨rfl, hb⟩; refine ⟨_, rfl, ?_⟩; have n0_ := Aside0.mk (Kd.R_below (by (with_reducible repeat (first | apply Kd.R_alloc | apply Kd.R_drewN | apply Kd.R_drew)); exact HO_163005.out) hb); have n1_ := Aside0.mk (blk_below (g := gb162) (o := .cells #[.int .u8 t152, .int .u32 t153, .string t154, .int .u64 t155, .int .u8 t156, .slice Ao21 t157.length co21] 26 (0, 0)) (by (with_reducible repeat (first | refine blk_drewN ?_ _ | refine blk_drew ?_ | refine blk_alloc ?_ _)); exact BK162.out) hb); have n2_ := Aside0.mk (below_step (by repeat (first | (with_reducible first | exact HB.out | apply below_alloc | apply pw_below_drewN | apply below_drew1 | refine below_set ?_ GE162.out) | exact HB.out)) hb); clear HO_163005; clear BK162; clear HB; have HO_163005 := n0_; have BK162 := n1_; have HB := n2_; clear n0_ n1_ n2_; (try clear hb); (try clear hb2); (try clear hk); (try clear hi)) | ((with_reducible refine gate_callee (f := 11) rfl ?_); refine goesL_ (some 58) rfl rfl Tryd.func11 (by kernel_rfl) rfl #[] rfl (by (try simp only [List.map_toArray, List.map_cons, List.map_nil]); first | done | rfl | (simp only [List.length_drop, List.length_take]; rfl)) ?_; (with_reducible refine (louverlaw22_fixed.calls kj11  true _ A63.out).mono ?_); rintro e w71 ⟨rfl, hb⟩; refine ⟨_, rfl, ?_⟩; have n0_ := Aside0.mk (Kd.R_below (by (with_reducible repeat (first | apply Kd.R_alloc | apply Kd.R_drewN | apply Kd.R_drew)); exact HO_163005.out) hb); have n1_ := Aside0.mk (blk_below (g := gb162) (o := .cells #[.int .u8 t152, .int .u32 t153, .string t154, .int .u64 t155, .int .u8 t156, .slice Ao21 t157.length co21] 26 (0, 0)) (by (with_reducible repeat (first | refine blk_drewN ?_ _ | refine blk_drew ?_ | refine blk_alloc ?_ _)); exact BK162.out) hb); have n2_ := Aside0.mk (below_step (by repeat (first | (with_reducible first | exact HB.out | apply below_alloc | apply pw_below_drewN | apply below_drew1 | refine below_set ?_ GE162.out) | exact HB.out)) hb); clear HO_163005; clear BK162; clear HB; have HO_163005 := n0_; have BK162 := n1_; have HB := n2_; clear n0_ n1_ n2_; (try clear hb); (try clear hb2); (try clear hk); (try clear hi); have hcz72_0 : w71.cell? ⟨gb162, 0, none⟩ = some (.int .u8 t152) := (blk_cell BK162.out 0).trans rfl; have hcz72_1 : w71.cell? ⟨gb162, 1, none⟩ = some (.int .u32 t153) := (blk_cell BK162.out 1).trans rfl; have hcz72_2 : w71.cell? ⟨gb162, 2, none⟩ = some (.string t154) := (blk_cell BK162.out 2).trans rfl; have hcz72_3 : w71.cell? ⟨gb162, 3, none⟩ = some (.int .u64 t155) := (blk_cell BK162.out 3).trans rfl; have hcz72_4 : w71.cell? ⟨gb162, 4, none⟩ = some (.int .u8 t156) := (blk_cell BK162.out 4).trans rfl; have hcz72_5 : w71.cell? ⟨gb162, 5, none⟩ = some (.slice Ao21 t157.length co21) := (blk_cell BK162.out 5).trans rfl; have hfz72_0 := blk_frozen BK162.out 0; have hfz72_1 := blk_frozen BK162.out 1; have hfz72_2 := blk_frozen BK162.out 2; have hfz72_3 := blk_frozen BK162.out 3; have hfz72_4 := blk_frozen BK162.out 4; have hfz72_5 := blk_frozen BK162.out 5))
             go_ret
             exact ⟨by first | rfl | (simp [errW_none, errW_some] <;> rfl) | (simp only [← hji8]; first | rfl | (simp [errW_none, errW_some] <;> rfl)) | (simp [*, errW_none, errW_some] <;> rfl), by repeat (first | (with_reducible first | exact HB.out | apply below_alloc | apply pw_below_drewN | apply below_drew1 | refine below_set ?_ GE162.out) | exact HB.out)⟩
            ·rw [if_neg c69] at H
             have c69b0 : (t154.toList == ([] : List UInt8)) = false := beq_eq_false_iff_ne.mpr c69
             have c69b1 : (t154.toList != ([] : List UInt8)) = true := bne_iff_ne.mpr c69
             obtain rfl := Option.some.inj H
             go_wp2_with (first | ((with_reducible refine gate_callee (f := 16) rfl ?_); refine goesL_ (some 56) rfl rfl Tryd.func16 (by kernel_rfl) rfl #[.string a1] rfl (by (try simp only [List.map_toArray, List.map_cons, List.map_nil]); first | done | rfl | (simp only [List.length_drop, List.length_take]; rfl)) ?_; (with_reducible refine (louverref21_May.calls kj11 a1 false _ A26.out).mono ?_); rintro e w73 ⟨rfl, hb⟩; refine ⟨_, rfl, ?_⟩; have n0_ := Aside0.mk (Kd.R_below (by (with_reducible repeat (first | apply Kd.R_alloc | apply Kd.R_drewN | apply Kd.R_drew)); exact HO_163005.out) hb); have n1_ := Aside0.mk (blk_below (g := gb162) (o := .cells #[.int .u8 t152, .int .u32 t153, .string t154, .int .u64 t155, .int .u8 t156, .slice Ao21 t157.length co21] 26 (0, 0)) (by (with_reducible repeat (first | refine blk_drewN ?_ _ | refine blk_drew ?_ | refine blk_alloc ?_ _)); exact BK162.out) hb); have n2_ := Aside0.mk (below_step (by repeat (first | (with_reducible first | exact HB.out | apply below_alloc | apply pw_below_drewN | apply below_drew1 | refine below_set ?_ GE162.out) | exact HB.out)) hb); clear HO_163005; clear BK162; clear HB; have HO_163005 := n0_; have BK162 := n1_; have HB := n2_; clear n0_ n1_ n2_; (try clear hb); (try clear hb2); (try clear hk); (try clear hi)) | ((with_reducible refine gate_callee (f := 11) rfl ?_); refine goesL_ (some 58) rfl rfl Tryd.func11 (by kernel_rfl) rfl #[] rfl (by (try simp only [List.map_toArray, List.map_cons, List.map_nil]); first | done | rfl | (simp only [List.length_drop, List.length_take]; rfl)) ?_; (with_reducible refine (louverlaw22_fixed.calls kj11  true _ A63.out).mono ?_); rintro e w74 ⟨rfl, hb⟩; refine ⟨_, rfl, ?_⟩; have n0_ := Aside0.mk (Kd.R_below (by (with_reducible repeat (first | apply Kd.R_alloc | apply Kd.R_drewN | apply Kd.R_drew)); exact HO_163005.out) hb); have n1_ := Aside0.mk (blk_below (g := gb162) (o := .cells #[.int .u8 t152, .int .u32 t153, .string t154, .int .u64 t155, .int .u8 t156, .slice Ao21 t157.length co21] 26 (0, 0)) (by (with_reducible repeat (first | refine blk_drewN ?_ _ | refine blk_drew ?_ | refine blk_alloc ?_ _)); exact BK162.out) hb); have n2_ := Aside0.mk (below_step (by repeat (first | (with_reducible first | exact HB.out | apply below_alloc | apply pw_below_drewN | apply below_drew1 | refine below_set ?_ GE162.out) | exact HB.out)) hb); clear HO_163005; clear BK162; clear HB; have HO_163005 := n0_; have BK162 := n1_; have HB := n2_; clear n0_ n1_ n2_; (try clear hb); (try clear hb2); (try clear hk); (try clear hi); have hcz75_0 : w74.cell? ⟨gb162, 0, none⟩ = some (.int .u8 t152) := (blk_cell BK162.out 0).trans rfl; have hcz75_1 : w74.cell? ⟨gb162, 1, none⟩ = some (.int .u32 t153) := (blk_cell BK162.out 1).trans rfl; have hcz75_2 : w74.cell? ⟨gb162, 2, none⟩ = some (.string t154) := (blk_cell BK162.out 2).trans rfl; have hcz75_3 : w74.cell? ⟨gb162, 3, none⟩ = some (.int .u64 t155) := (blk_cell BK162.out 3).trans rfl; have hcz75_4 : w74.cell? ⟨gb162, 4, none⟩ = some (.int .u8 t156) := (blk_cell BK162.out 4).trans rfl; have hcz75_5 : w74.cell? ⟨gb162, 5, none⟩ = some (.slice Ao21 t157.length co21) := (blk_cell BK162.out 5).trans rfl; have hfz75_0 := blk_frozen BK162.out 0; have hfz75_1 := blk_frozen BK162.out 1; have hfz75_2 := blk_frozen BK162.out 2; have hfz75_3 := blk_frozen BK162.out 3; have hfz75_4 := blk_frozen BK162.out 4; have hfz75_5 := blk_frozen BK162.out 5))
             go_ret
             exact ⟨by first | rfl | (simp [errW_none, errW_some] <;> rfl) | (simp only [← hji8]; first | rfl | (simp [errW_none, errW_some] <;> rfl)) | (simp [*, errW_none, errW_some] <;> rfl), by repeat (first | (with_reducible first | exact HB.out | apply below_alloc | apply pw_below_drewN | apply below_drew1 | refine below_set ?_ GE162.out) | exact HB.out)⟩
          ·rw [if_neg c65] at H
           have c65b0 : (t160 == 1) = false := beq_eq_false_iff_ne.mpr c65
           have c65b1 : (t160 != 1) = true := bne_iff_ne.mpr c65
           obtain rfl := Option.some.inj H
           go_wp2_with (first | ((with_reducible refine gate_callee (f := 16) rfl ?_); refine goesL_ (some 56) rfl rfl Tryd.func16 (by kernel_rfl) rfl #[.string a1] rfl (by (try simp only [List.map_toArray, List.map_cons, List.map_nil]); first | done | rfl | (simp only [List.length_drop, List.length_take]; rfl)) ?_; (with_reducible refine (louverref21_May.calls kj11 a1 false _ A26.out).mono ?_); rintro e w76 ⟨rfl, hb⟩; refine ⟨_, rfl, ?_⟩; have n0_ := Aside0.mk (Kd.R_below (by (with_reducible repeat (first | apply Kd.R_alloc | apply Kd.R_drewN | apply Kd.R_drew)); exact HO_163005.out) hb); have n1_ := Aside0.mk (blk_below (g := gb162) (o := .cells #[.int .u8 t152, .int .u32 t153, .string t154, .int .u64 t155, .int .u8 t156, .slice Ao21 t157.length co21] 26 (0, 0)) (by (with_reducible repeat (first | refine blk_drewN ?_ _ | refine blk_drew ?_ | refine blk_alloc ?_ _)); exact BK162.out) hb); have n2_ := Aside0.mk (below_step (by repeat (first | (with_reducible first | exact HB.out | apply below_alloc | apply pw_below_drewN | apply below_drew1 | refine below_set ?_ GE162.out) | exact HB.out)) hb); clear HO_163005; clear BK162; clear HB; have HO_163005 := n0_; have BK162 := n1_; have HB := n2_; clear n0_ n1_ n2_; (try clear hb); (try clear hb2); (try clear hk); (try clear hi)) | ((with_reducible refine gate_callee (f := 11) rfl ?_); refine goesL_ (some 58) rfl rfl Tryd.func11 (by kernel_rfl) rfl #[] rfl (by (try simp only [List.map_toArray, List.map_cons, List.map_nil]); first | done | rfl | (simp only [List.length_drop, List.length_take]; rfl)) ?_; (with_reducible refine (louverlaw22_fixed.calls kj11  true _ A63.out).mono ?_); rintro e w77 ⟨rfl, hb⟩; refine ⟨_, rfl, ?_⟩; have n0_ := Aside0.mk (Kd.R_below (by (with_reducible repeat (first | apply Kd.R_alloc | apply Kd.R_drewN | apply Kd.R_drew)); exact HO_163005.out) hb); have n1_ := Aside0.mk (blk_below (g := gb162) (o := .cells #[.int .u8 t152, .int .u32 t153, .string t154, .int .u64 t155, .int .u8 t156, .slice Ao21 t157.length co21] 26 (0, 0)) (by (with_reducible repeat (first | refine blk_drewN ?_ _ | refine blk_drew ?_ | refine blk_alloc ?_ _)); exact BK162.out) hb); have n2_ := Aside0.mk (below_step (by repeat (first | (with_reducible first | exact HB.out | apply below_alloc | apply pw_below_drewN | apply below_drew1 | refine below_set ?_ GE162.out) | exact HB.out)) hb); clear HO_163005; clear BK162; clear HB; have HO_163005 := n0_; have BK162 := n1_; have HB := n2_; clear n0_ n1_ n2_; (try clear hb); (try clear hb2); (try clear hk); (try clear hi)))
           go_ret
           exact ⟨by first | rfl | (simp [errW_none, errW_some] <;> rfl) | (simp only [← hji8]; first | rfl | (simp [errW_none, errW_some] <;> rfl)) | (simp [*, errW_none, errW_some] <;> rfl), by repeat (first | (with_reducible first | exact HB.out | apply below_alloc | apply pw_below_drewN | apply below_drew1 | refine below_set ?_ GE162.out) | exact HB.out)⟩
         ·replace c64 := Bool.eq_false_iff.mpr c64
          subst c64
          have H1 : (some false) = some r := by rw [if_neg (show ¬ (false = true) by decide)] at H; exact H
          clear H
          have H := H1
          clear H1
          obtain rfl := Option.some.inj H
          go_wp2_with (first | ((with_reducible refine gate_callee (f := 16) rfl ?_); refine goesL_ (some 56) rfl rfl Tryd.func16 (by kernel_rfl) rfl #[.string a1] rfl (by (try simp only [List.map_toArray, List.map_cons, List.map_nil]); first | done | rfl | (simp only [List.length_drop, List.length_take]; rfl)) ?_; (with_reducible refine (louverref21_May.calls kj11 a1 false _ A26.out).mono ?_); rintro e w78 ⟨rfl, hb⟩; refine ⟨_, rfl, ?_⟩; have n0_ := Aside0.mk (Kd.R_below (by (with_reducible repeat (first | apply Kd.R_alloc | apply Kd.R_drewN | apply Kd.R_drew)); exact HO_163005.out) hb); have n1_ := Aside0.mk (blk_below (g := gb162) (o := .cells #[.int .u8 t152, .int .u32 t153, .string t154, .int .u64 t155, .int .u8 t156, .slice Ao21 t157.length co21] 26 (0, 0)) (by (with_reducible repeat (first | refine blk_drewN ?_ _ | refine blk_drew ?_ | refine blk_alloc ?_ _)); exact BK162.out) hb); have n2_ := Aside0.mk (below_step (by repeat (first | (with_reducible first | exact HB.out | apply below_alloc | apply pw_below_drewN | apply below_drew1 | refine below_set ?_ GE162.out) | exact HB.out)) hb); clear HO_163005; clear BK162; clear HB; have HO_163005 := n0_; have BK162 := n1_; have HB := n2_; clear n0_ n1_ n2_; (try clear hb); (try clear hb2); (try clear hk); (try clear hi)) | ((with_reducible refine gate_callee (f := 11) rfl ?_); refine goesL_ (some 58) rfl rfl Tryd.func11 (by kernel_rfl) rfl #[] rfl (by (try simp only [List.map_toArray, List.map_cons, List.map_nil]); first | done | rfl | (simp only [List.length_drop, List.length_take]; rfl)) ?_; (with_reducible refine (louverlaw22_fixed.calls kj11  false _ A63.out).mono ?_); rintro e w79 ⟨rfl, hb⟩; refine ⟨_, rfl, ?_⟩; have n0_ := Aside0.mk (Kd.R_below (by (with_reducible repeat (first | apply Kd.R_alloc | apply Kd.R_drewN | apply Kd.R_drew)); exact HO_163005.out) hb); have n1_ := Aside0.mk (blk_below (g := gb162) (o := .cells #[.int .u8 t152, .int .u32 t153, .string t154, .int .u64 t155, .int .u8 t156, .slice Ao21 t157.length co21] 26 (0, 0)) (by (with_reducible repeat (first | refine blk_drewN ?_ _ | refine blk_drew ?_ | refine blk_alloc ?_ _)); exact BK162.out) hb); have n2_ := Aside0.mk (below_step (by repeat (first | (with_reducible first | exact HB.out | apply below_alloc | apply pw_below_drewN | apply below_drew1 | refine below_set ?_ GE162.out) | exact HB.out)) hb); clear HO_163005; clear BK162; clear HB; have HO_163005 := n0_; have BK162 := n1_; have HB := n2_; clear n0_ n1_ n2_; (try clear hb); (try clear hb2); (try clear hk); (try clear hi)))
          go_ret
          exact ⟨by first | rfl | (simp [errW_none, errW_some] <;> rfl) | (simp only [← hji8]; first | rfl | (simp [errW_none, errW_some] <;> rfl)) | (simp [*, errW_none, errW_some] <;> rfl), by repeat (first | (with_reducible first | exact HB.out | apply below_alloc | apply pw_below_drewN | apply below_drew1 | refine below_set ?_ GE162.out) | exact HB.out)⟩
    ·rw [if_neg c10] at H
     exact absurd H (by simp)
   ·rw [if_neg c9] at H
    exact absurd H (by simp)
  ·rw [if_neg c7] at H
   exact absurd H (by simp)

/-- THE ONE PURE STATEMENT of louverlaw22_CommandWhy: yours. -/
def louverlaw22_CommandWhy.Pure : Prop := ∀ (a0 : Int) (a1 : ByteArray) (a2 : Int), (Lit.int .u32 a0).wf = true → a1.size ≤ 140737488351232 → (Lit.int .u16 a2).wf = true → ∃ k, louverlaw22_CommandWhy.f k a0 a1 a2 = some true
theorem louverlaw22_CommandWhy.walk (P : louverlaw22_CommandWhy.Pure) (a0 : Int) (a1 : ByteArray) (a2 : Int) (w : World) (w0 : (Lit.int .u32 a0).wf = true) (w1 : a1.size ≤ 140737488351232) (w2 : (Lit.int .u16 a2).wf = true) :
  Calls Tryd.prog 5 #[.int .u32 a0, .string a1, .int .u16 a2] w fun e w' => e = .returned (.bool true) ∧ Below w.heap.size w w' := by
 obtain ⟨k, h⟩ := P a0 a1 a2 w0 w1 w2
 refine (louverlaw22_CommandWhy.calls k a0 a1 a2 true w h).mono ?_
 rintro e w' ⟨rfl, hd⟩
 exact ⟨rfl, hd⟩

end Go.Proofs.YtkgedjaihimafaaDoor.QCmdP

/- A command that came in by value, opened. -/
namespace Go.Proofs.YtkgedjaihimafaaDoor
set_option linter.unusedVariables false
set_option linter.unusedSimpArgs false
open Go.RowKit Go.ChangeShapes Go.WideShapes Go.Deep Go.Joins Go.Proofs.YtkgedjaihimafaaDoorW.PrintWords Go.Proofs.YtkgedjaihimafaaDoor.QCmd Go.Proofs.YtkgedjaihimafaaDoor.Given
theorem list6 {α : Type} {l : List α} (h : l.length = 6) : ∃ c0 c1 c2 c3 c4 c5, l = [c0, c1, c2, c3, c4, c5] := by
  match l, h with
  | [c0, c1, c2, c3, c4, c5], _ => exact ⟨c0, c1, c2, c3, c4, c5, rfl⟩
theorem agg_of6 {cs : Array Value} {l : List Value} (h : cs.toList = l) : cs = l.toArray := by subst h; simp

set_option maxRecDepth 100000 in
theorem open_command {H : Type} {enc : TypeId × Value → H} {W : World} {fuel : Nat} {cs : List Value} {x : DataW H × List MemPlace}
    (h : DataW.trod enc Tryd.prog W 0 (fun _ => true) true fuel 26 cs = some x) :
    ∃ kind id topic seq code A c pay, cs = [.int .u8 kind, .int .u32 id, .string topic, .int .u64 seq, .int .u8 code, .slice A (List.length pay) c] ∧ CmdIn kind id seq code topic pay ∧ Kd.C (Kd.int .u8) W A pay.length pay ∧ pay.length ≤ c := by
  obtain ⟨xs, m, _, rfl, hl, hlen, hf⟩ := DataW.trod_struct Tryd.underlying26 h
  have hC : Tryd.prog.cellsOf 26 = 6 := by kernel_rfl
  rw [hC] at hl
  have e1 : Tryd.prog.cellsOf 5 = 1 := by kernel_rfl
  have e2 : Tryd.prog.cellsOf 22 = 1 := by kernel_rfl
  have e3 : Tryd.prog.cellsOf 24 = 1 := by kernel_rfl
  have e4 : Tryd.prog.cellsOf 9 = 1 := by kernel_rfl
  have e5 : Tryd.prog.cellsOf 23 = 1 := by kernel_rfl
  obtain ⟨c0, c1, c2, c3, c4, c5, rfl⟩ := list6 hl
  obtain ⟨y0, y1, y2, y3, y4, y5, rfl⟩ := list6 (show xs.length = 6 from hlen)
  have h0 := hf 0 _ rfl
  have h1 := hf 1 _ rfl
  have h2 := hf 2 _ rfl
  have h3 := hf 3 _ rfl
  have h4 := hf 4 _ rfl
  have h5 := hf 5 _ rfl
  clear hf h hl
  simp [e1, e2, e3, e4, e5] at h0 h1 h2 h3 h4 h5
  obtain ⟨n0, k0, _, w0⟩ := DataW.trod_int Tryd.underlying5 h0
  obtain ⟨n1, k1, _, w1⟩ := DataW.trod_int Tryd.underlying22 h1
  obtain ⟨s2, k2, _, _⟩ := DataW.trod_string Tryd.underlying9 h2
  obtain ⟨n3, k3, _, w3⟩ := DataW.trod_int Tryd.underlying23 h3
  obtain ⟨n4, k4, _, w4⟩ := DataW.trod_int Tryd.underlying5 h4
  obtain ⟨A, n5, cp, k5⟩ := slice_form Tryd.underlying24 h5
  simp at k0 k1 k2 k3 k4 k5
  subst k0 k1 k2 k3 k4 k5
  have z := open_ints Tryd.underlying24 Tryd.underlying5 e1 h5
  have hz : ∃ l : List Int, n5 = l.length ∧ ReadsInt W .u8 A l.length l ∧ (∀ x ∈ l, (Lit.int .u8 x).wf = true) ∧ l.length ≤ cp := by
    rcases z with ⟨hc, _⟩ | ⟨a, len, cap, zs, hc, _, g1, g2, g3, _, g4, g5⟩
    · injection hc with hc _
      injection hc with q1 q2 q3
      subst q1 q2 q3
      obtain ⟨l, hl1, hr, hm, hw, hcc⟩ := ReadsInt.ofRowC (w := W) (k := .u8) (a := none) (len := 0) (cap := 0) (zs := []) (.inl ⟨rfl, rfl, rfl, rfl⟩)
      exact ⟨l, hl1, hr, hw, hcc⟩
    · injection hc with hc _
      injection hc with q1 q2 q3
      subst q1 q2 q3
      obtain ⟨l, hl1, hr, hm, hw, hcc⟩ := ReadsInt.ofRowC (.inr ⟨a, rfl, g1, g2, by simpa using g3, g4, g5⟩)
      exact ⟨l, hl1, hr, hw, hcc⟩
  obtain ⟨l, rfl, r1, r3, r4⟩ := hz
  have wf8 : ∀ {n : Int}, (Lit.int .u8 n).wf = true → 0 ≤ n ∧ n ≤ 255 := fun h => by simp [Lit.wf, IntKind.min, IntKind.max, IntKind.signed, IntKind.bits] at h; omega
  have wf32 : ∀ {n : Int}, (Lit.int .u32 n).wf = true → 0 ≤ n ∧ n ≤ 4294967295 := fun h => by simp [Lit.wf, IntKind.min, IntKind.max, IntKind.signed, IntKind.bits] at h; omega
  have wf64 : ∀ {n : Int}, (Lit.int .u64 n).wf = true → 0 ≤ n ∧ n ≤ 18446744073709551615 := fun h => by simp [Lit.wf, IntKind.min, IntKind.max, IntKind.signed, IntKind.bits] at h; omega
  exact ⟨n0, n1, s2, n3, n4, A, cp, l, rfl, ⟨wf8 w0, wf32 w1, wf64 w3, wf8 w4, fun x hx => wf8 (r3 x hx)⟩, Kd.C_of_reads (d := (0 : Int)) (h1 := fun _ => rfl) r1, r4⟩

set_option maxRecDepth 100000 in
theorem open_command_arg {H : Type} {enc : TypeId × Value → H} {W : World} {b0 : Nat} {v : Value} {d : DataW H} {p : List MemPlace} (hv : Value.okWide Tryd.prog W .any b0 26 v)
    (h : DataW.Trod enc Tryd.prog W 0 (fun _ => true) true 26 v d p) : ∃ kind id topic seq code A c pay, v = .agg #[.int .u8 kind, .int .u32 id, .string topic, .int .u64 seq, .int .u8 code, .slice A (List.length pay) c] ∧ CmdIn kind id seq code topic pay ∧ Kd.C (Kd.int .u8) W A pay.length pay ∧ pay.length ≤ c := by
  obtain ⟨cs, rfl, -⟩ := Go.WideShapes.okWide_struct Tryd.underlying26 hv
  obtain ⟨fuel, hf⟩ := h
  obtain ⟨kind, id, topic, seq, code, A, c, pay, hc, h1⟩ := open_command hf
  exact ⟨kind, id, topic, seq, code, A, c, pay, congrArg Value.agg (agg_of6 hc), h1⟩
end Go.Proofs.YtkgedjaihimafaaDoor

/- The statement CommandWhy, over lists. -/
namespace Go.Proofs.YtkgedjaihimafaaDoor
set_option linter.unusedVariables false
set_option linter.unusedSimpArgs false
open Go.RowKit Go.Proofs.YtkgedjaihimafaaDoorW.PrintWords Go.Proofs.YtkgedjaihimafaaDoorW.PrintMore Go.Proofs.YtkgedjaihimafaaDoor.QCmd Go.Proofs.YtkgedjaihimafaaDoor.Given Go.Proofs.YtkgedjaihimafaaDoor.QCmdP

/-- A publication's bytes are read so. -/
theorem getR_pub (i : Int) (t : ByteArray) (n : Nat) (hi : 0 ≤ i ∧ i ≤ 4294967295) (ht : t.size ≤ 200) :
    getR ([3, (i / 16777216) % 256, (i / 65536) % 256, (i / 256) % 256, i % 256, (t.size : Int) % 256] ++ bytesOf t ++ List.replicate n 0) =
      if topicOk t = false then (3, i, ⟨#[]⟩, 0, 0, [], 1, false) else if 2048 < n then (3, i, ⟨#[]⟩, 0, 0, [], 5, false) else (3, i, t, 0, 0, List.replicate n 0, 0, true) := by
  have e1 : (t.size : Int) % 256 = t.size := by omega
  have e2 : [3, (i / 16777216) % 256, (i / 65536) % 256, (i / 256) % 256, i % 256, (t.size : Int) % 256] ++ bytesOf t ++ List.replicate n 0 = 3 :: (beL i 4 ++ ((t.size : Int) :: (bytesOf t ++ List.replicate n 0))) := by
    simp [beL, e1]
  have hl : (beL i 4).length = 4 := beL_length i 4
  have hd : (3 :: (beL i 4 ++ ((t.size : Int) :: (bytesOf t ++ List.replicate n 0)))).drop 5 = (t.size : Int) :: (bytesOf t ++ List.replicate n 0) := by
    rw [List.drop_succ_cons, List.drop_left' hl]
  have ht' : ((3 :: (beL i 4 ++ ((t.size : Int) :: (bytesOf t ++ List.replicate n 0)))).take 5).drop 1 = beL i 4 := by
    rw [List.take_succ_cons, List.take_left' hl, List.drop_succ_cons, List.drop_zero]
  rw [e2]
  unfold getR
  rw [if_neg (by simp only [List.length_cons, List.length_append, hl]; omega), hd, ht', List.getD_cons_zero, restR_pub, valL_be4 hi]
  simp only [List.length_replicate]
  cases hok : topicOk t
  · simp
  · simp only [Bool.true_eq_false, and_false, if_false, true_and]
    by_cases h : 2048 < n
    · simp [h]
    · rw [if_neg h, if_neg h]
      have hc : cmdOk 3 t 0 0 (List.replicate n 0) = true := by
        unfold cmdOk
        simp [hok]
        omega
      rw [if_pos hc]

def whyBody (k : Nat) (x1 : ByteArray) (x7 x10 : Int) (x11 : Bool) (x163002 : ByteArray) (x163005 : List Int) : Option Bool :=
  (louverref21_May.f k x1).bind fun t163 => (if t163 = true then (if x7 > 2048 then ((louverlaw22_fixed.f k).bind fun t164 => (if t164 = true then (if x10 = 5 then (if x11 = true then (some false) else (if x163002.toList = ([] : List UInt8) then (some ((x163005.length : Int) == 0)) else (some false))) else (some false)) else (some false))) else ((louverlaw22_fixed.f k).bind fun t165 => (if t165 = true then (if x10 = 0 then (if x11 = true then (if x163002.toList = x1.toList then (some ((x163005.length : Int) == x7)) else (some false)) else (some false)) else (some false)) else (some false)))) else ((louverlaw22_fixed.f k).bind fun t166 => (if t166 = true then (if x10 = 1 then (if x11 = true then (some false) else (if x163002.toList = ([] : List UInt8) then (some ((x163005.length : Int) == 0)) else (some false))) else (some false)) else (some false))))
theorem ev_why {t : ByteArray} {ok is : Bool} {d why id : Int} {tt : ByteArray} {seq code : Int} {pay : List Int} {kind : Int} (hmay : Ev (fun k => louverref21_May.f k t) ok) (hb : (false : Bool) = false)
    (h1 : ok = true → ((2048 < d → why = 5 ∧ is = false ∧ tt.toList = [] ∧ pay.length = 0) ∧ (¬ 2048 < d → why = 0 ∧ is = true ∧ tt.toList = t.toList ∧ (pay.length : Int) = d)))
    (h2 : ok = false → why = 1 ∧ is = false ∧ tt.toList = [] ∧ pay.length = 0) :
    Ev (fun k => louverlaw22_CommandWhy.j0 k t d why is false kind id tt seq code pay) true := by
  refine Ev.step (f := fun k => whyBody k t d why is tt pay) (fun k => ?_) ?_
  · simp only [louverlaw22_CommandWhy.j0, whyBody]
    rfl
  · refine Ev.bind hmay ?_
    cases ok
    · obtain ⟨rfl, rfl, e1, e2⟩ := h2 rfl
      simp only [Bool.false_eq_true, if_false]
      refine Ev.bind ev_fixed22 ?_
      simp only [if_true, e1, e2]
      exact Ev.now true
    · simp only [if_true]
      by_cases h : d > 2048
      · obtain ⟨rfl, rfl, e1, e2⟩ := (h1 rfl).1 h
        simp only [h, if_true]
        refine Ev.bind ev_fixed22 ?_
        simp only [if_true, e1, e2]
        exact Ev.now true
      · obtain ⟨rfl, rfl, e1, e2⟩ := (h1 rfl).2 h
        simp only [h, if_false]
        refine Ev.bind ev_fixed22 ?_
        simp only [if_true, e1, e2, beq_self_eq_true]
        exact Ev.now true

theorem commandWhy_pure : louverlaw22_CommandWhy.Pure := by
  intro i t n hi ht hn
  have hi' : 0 ≤ i ∧ i ≤ 4294967295 := by simp [Lit.wf, IntKind.min, IntKind.max, IntKind.signed, IntKind.bits] at hi; omega
  have hn' : 0 ≤ n ∧ n ≤ 65535 := by simp [Lit.wf, IntKind.min, IntKind.max, IntKind.signed, IntKind.bits] at hn; omega
  apply Ev.rounds
  unfold louverlaw22_CommandWhy.f
  by_cases h2 : (t.size : Int) > 200
  · simp only [h2, if_true]
    exact Ev.bind ev_fixed22 (Ev.now true)
  · have ew : Int.tmod (wrap64 n) 5001 = n % 5001 := by
      rw [wrap_okC (by omega) (by omega), Int.tmod_eq_emod_of_nonneg hn'.1]
    simp only [h2, if_false, ew]
    have hb := bytesOf_length t
    generalize hm : n % 5001 = m
    have hm0 : 0 ≤ m ∧ m ≤ 5000 := by omega
    obtain ⟨d, rfl⟩ := Int.eq_ofNat_of_zero_le hm0.1
    simp only [Option.bind_some, Int.toNat_natCast]
    have q1 : [3, (i / 16777216) % 256, (i / 65536) % 256, (i / 256) % 256, i % 256, (t.size : Int) % 256].length + t.size < 140737488355328 := by simp; omega
    have q2 : ([3, (i / 16777216) % 256, (i / 65536) % 256, (i / 256) % 256, i % 256, (t.size : Int) % 256] ++ bytesOf t).length + d < 140737488355328 := by simp only [List.length_append, List.length_cons, List.length_nil, hb]; omega
    simp only [q1, q2, hm0.1, if_true]
    have hg : command_Get.f ([3, (i / 16777216) % 256, (i / 65536) % 256, (i / 256) % 256, i % 256, (t.size : Int) % 256] ++ bytesOf t ++ List.replicate d 0) = some (if topicOk t = false then (3, i, ⟨#[]⟩, 0, 0, [], 1, false) else if 2048 < d then (3, i, ⟨#[]⟩, 0, 0, [], 5, false) else (3, i, t, 0, 0, List.replicate d 0, 0, true)) := by
      unfold command_Get.f
      rw [if_pos, getR_pub i t d hi' (by omega)]
      refine ⟨by simp only [List.length_append, List.length_cons, List.length_nil, List.length_replicate, hb]; omega, byteB_iff.2 ?_⟩
      intro x hx
      simp only [List.mem_append, List.mem_cons, List.not_mem_nil, or_false, List.mem_replicate] at hx
      rcases hx with ((rfl | rfl | rfl | rfl | rfl | rfl) | hx) | ⟨-, rfl⟩
      all_goals first | omega | exact bytes_byte t x hx
    rw [hg]
    have hmay : Ev (fun k => louverref21_May.f k t) (topicOk t) := ev_may t (by omega)
    have hd : ((d : Int) > 2048) ↔ 2048 < d := by omega
    cases hok : topicOk t
    · simp only [if_true, Option.bind_some, bne_self_eq_false]
      exact ev_why (hok ▸ hmay) (by decide) (fun h => absurd h (by decide)) (fun _ => ⟨rfl, rfl, ByteArray.toList_eq ⟨#[]⟩, rfl⟩)
    · simp only [Bool.true_eq_false, if_false, Option.bind_some]
      by_cases h : 2048 < d
      · simp only [h, if_true, bne_self_eq_false]
        exact ev_why (hok ▸ hmay) (by decide) (fun _ => ⟨fun _ => ⟨rfl, rfl, ByteArray.toList_eq ⟨#[]⟩, rfl⟩, fun h' => absurd h (by omega)⟩) (fun h => absurd h (by decide))
      · simp only [h, if_false, if_true, bne_self_eq_false]
        exact ev_why (hok ▸ hmay) (by decide) (fun _ => ⟨fun h' => absurd h' (by omega), fun _ => ⟨rfl, rfl, rfl, by simp⟩⟩) (fun h => absurd h (by decide))

theorem commandWhy_walk (i : Int) (t : ByteArray) (n : Int) (W : World) (w0 : (Lit.int .u32 i).wf = true) (w1 : t.size ≤ 140737488351232) (w2 : (Lit.int .u16 n).wf = true) :
    Calls Tryd.prog 5 #[.int .u32 i, .string t, .int .u16 n] W fun e w' => e = .returned (.bool true) ∧ Below W.heap.size W w' := by
  obtain ⟨k, h⟩ := commandWhy_pure i t n w0 w1 w2
  exact louverlaw22_CommandWhy.calls k i t n true W h
end Go.Proofs.YtkgedjaihimafaaDoor

/- The statement of louver/louverlaw22.CommandWhy: for every input it returns true, and each argument reads behind the call as it read before; no other condition than the row's own. -/
namespace Go.Proofs.YtkgedjaihimafaaDoor.commandWhy
set_option linter.unusedVariables false
set_option linter.unusedSimpArgs false
open Go.ChangeShapes Go.WideShapes Go.ChangeAt Go.RowKit
open Go.ChangeMaps (open_string shut_string)
set_option linter.unusedVariables false
theorem own : ownKnob Tryd.prog.godebug = none := by kernel_rfl
theorem laidOut : laidOutB Tryd.prog = true := by kernel_rfl
set_option maxRecDepth 100000 in
theorem contract (H : Type) (enc : TypeId × Value → H) (W : World) (base : Nat) (args : Array Value) (ds gs : List (DataW H)) (before : List MemPlace)
    (hval : ∀ (j : Nat) t v, Tryd.f5.params[j]? = some t → args[j]? = some v → Value.okWide Tryd.prog W .any base t v)
    (hW : DataW.Whole enc Tryd.prog Tryd.f5.params.toList Rows.commandWhySpec.vars false W args.toList ds gs before)
    (hsz : (DataW.weightsEach Tryd.prog (Tryd.f5.params.toList ++ Rows.commandWhySpec.plain.varTypes Tryd.prog) (ds ++ gs)).all (· ≤ reachBytes) = true)
    (hL : laidMetH Tryd.prog Rows.commandWhyRow.laid W) (hS : W.ShapedOpen Tryd.prog) :
    Calls Tryd.prog 5 args W fun e W' => ∃ v, e = .returned v ∧ Rows.commandWhySpec.post enc Tryd.prog Tryd.f5 false true false false W args v W' := by
  have hW' := hW
  obtain ⟨p, q, hA0, hV, rfl, hfz, hnd⟩ := hW
  have hA : DataW.TrodAll enc Tryd.prog W 0 (fun _ => true) true Tryd.f5.params.toList args.toList ds p := hA0
  rw [Tryd.params5] at hA hval hsz
  obtain ⟨v0, vs0, d0, ds0, p0, q0, hargs, rfl, rfl, h0, r0⟩ := trodAll_cons hA
  obtain ⟨v1, vs1, d1, ds1, p1, q1, rfl, rfl, rfl, h1, r1⟩ := trodAll_cons r0
  obtain ⟨v2, vs2, d2, ds2, p2, q2, rfl, rfl, rfl, h2, r2⟩ := trodAll_cons r1
  obtain ⟨rfl, rfl, rfl⟩ := trodAll_nil r2
  obtain rfl : args = #[v0, v1, v2] := by cases args; simp_all
  obtain ⟨rfl, rfl⟩ := trodVars_none hV
  obtain ⟨a0, rfl, rfl, rfl, w0⟩ := open_int Tryd.underlying22 (hval 0 22 v0 rfl rfl) h0
  obtain ⟨a1, rfl, rfl, rfl, y1⟩ := open_string Tryd.underlying9 (hval 1 9 v1 rfl rfl) h1
  have w1 : a1.size ≤ 140737488351232 := by
    have z := sized_string hsz (j := 1) (t := 9) rfl rfl
    rw [Array.length_toList] at z
    exact z
  obtain ⟨a2, rfl, rfl, rfl, w2⟩ := open_int Tryd.underlying36 (hval 2 36 v2 rfl rfl) h2
  clear hA0 hval
  refine (commandWhy_walk a0 a1 a2 W w0 w1 w2).mono fun e W' ⟨he, bel⟩ => ?_
  subst he
  exact ⟨_, rfl, _, _, _, [], _, [], hW', trodAll_mk1 (shut_bool Tryd.underlying4 _), (trodAll_cons_mk (shut_int Tryd.underlying22 w0) (trodAll_cons_mk (shut_string Tryd.underlying9 y1) (trodAll_cons_mk (shut_int Tryd.underlying36 w2) trodAll_mk0))), rfl, bel.frame _, fun h => by cases h⟩
noncomputable def laidWorld (os : Os) : World := World.laidAll Tryd.prog os Rows.commandWhyRow.laid
set_option maxRecDepth 100000 in
theorem laid_met (os : Os) (args : Array Value) : laidMetH Tryd.prog Rows.commandWhyRow.laid ((laidWorld os).forCall (fun _ _ => 0) ⟨#[], args, []⟩).memory := by rw [MakeChecks.laidMetH_plain _ _ _ (by kernel_rfl)]; exact laidMet_laidAll _ (by kernel_rfl) (by kernel_rfl)
set_option maxRecDepth 100000 in
theorem lifted (os : Os) (started : os.Started) (H : Type) (enc : TypeId × Value → H) (F : Stop.Interp) :
    ReturnsInHanded {} Tryd.checked os 5 .any ((OpenSpec.ofChange Rows.commandWhySpec).preRow enc Tryd.prog Tryd.f5 Rows.commandWhyRow.domain false Rows.commandWhyRow.laid) (((OpenSpec.ofChange Rows.commandWhySpec).at F).post enc Tryd.prog Tryd.f5 false true false false) := by
  refine returnsInHanded_of_row (C := Tryd.checked) (s := (OpenSpec.ofChange Rows.commandWhySpec)) own started (by kernel_rfl) Tryd.func5
    (witness_row_at (enc := enc) (C := Tryd.checked) false (laidWorld os) #[.int .u32 0, .string ByteArray.empty, .int .u16 0] (World.laidAll_os _ _ _) (by kernel_rfl) (by kernel_rfl) (by kernel_rfl)
      (OpenSpec.preRow_of_cond 8 (x := ([.lit (.int .u32 0), .lit (.string []), .lit (.int .u16 0)], [], [])) (by kernel_rfl) (by kernel_rfl) (fun k hk => by cases hk) (by kernel_rfl) (laid_met os _))) ?_
  intro W base args ds gs before hval hW _ hcond hsz hL hS _
  exact contract H enc W base args ds gs before hval hW hsz hL hS
theorem said : Rows.CommandWhySaid :=
  OpenClaim.holds_of_cond 5 Tryd.f5 rfl rfl rfl rfl rfl rfl rfl ⟨rfl, rfl, rfl, rfl, rfl⟩ rfl rfl rfl rfl rfl (by kernel_rfl) Tryd.func5 (by kernel_rfl)
    (of_decide_eq_true (by kernel_rfl)) (by unfold Func.isWrapper; first | (rw [if_pos (by decide +kernel)]; kernel_rfl) | (rw [if_neg (by decide +kernel)]; exact ⟨rfl, rfl⟩))
    (fun os started H enc _ F => by rw [OpenClaim.pre_eq_preRow]; exact lifted os started H enc F)
theorem plain (f : FuncId) (fn : Func) (hf : Tryd.pinned.checked.prog.funcNamed "louver/louverlaw22.CommandWhy" = some f) (hfn : Tryd.pinned.checked.prog.funcs[f]? = some fn) :
    false = Tryd.pinned.checked.prog.looks [] ∧ ∀ (j : Nat) t, fn.params[j]? = some t → Tryd.pinned.checked.prog.wantsStandIn t = false := by
  obtain rfl : f = 5 := Option.some.inj ((show Tryd.prog.funcNamed "louver/louverlaw22.CommandWhy" = some 5 by kernel_rfl).symm.trans hf) |>.symm
  obtain rfl : fn = Tryd.f5 := (Option.some.inj (Tryd.func5.symm.trans hfn)).symm
  refine ⟨by kernel_rfl, fun j t ht => ?_⟩
  rw [Tryd.params5] at ht
  have hm := Array.mem_of_getElem? ht
  have hall : ∀ t ∈ #[22, 9, 36], Tryd.prog.wantsStandIn t = false := by intro t h; simp only [List.mem_toArray, List.mem_cons, List.not_mem_nil, or_false] at h; rcases h with rfl | rfl | rfl <;> kernel_rfl
  exact hall t hm
theorem card : Rows.CommandWhyCardSaid :=
  Claim7.holds_tied_plain_at .later [] _ _ _ _ said (fun _ h => by cases h) (by kernel_rfl) (fun _ h => by cases h) commandWhy_row_tie rfl ⟨rfl, rfl⟩ (by kernel_rfl) rfl plain (by kernel_rfl)
#print axioms card
end Go.Proofs.YtkgedjaihimafaaDoor.commandWhy
