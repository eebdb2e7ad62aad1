/- Texts of this claim, put together: CmdGet, CmdGiven, QCmdPx0, QCmdPx1, QCmdPx2. -/
import Derived.Test.YtkgedjaihimafaaDoorMCommandPuts2
import Derived.Test.YtkgedjaihimafaaDoorProg
import Derived.Below
import Derived.Deep.Draws
import Derived.Deep.AppendLies
import Derived.Maps.AppendAt
import Derived.OwnWalk
import Derived.Laws.BytesArg
import Derived.Laws.MakeOwn
import Derived.Laws.OwnMore
import Derived.Deep.OwnRows
import Derived.Tactics
import Derived.Lib.ConvBytes
import Derived.Laws.Slices
import Derived.WalkKit
import Derived.KernelRfl
import Derived.RowKit3
import Derived.Deep.LoopGhost
import Derived.Deep.QuietTactic
import Derived.BigQuiet
import Derived.WideLaws
import Derived.Deep.DeepCutAuto
import Derived.Deep.CutBlock
import Derived.Deep.RegionHeld3
import Derived.Laws.Rows
import Derived.Lib.AppendStr
import Derived.ArgAppend
import Derived.Laws.IdiomCopy
import Derived.OrdersHeld
import Derived.Laws.BitsLemmas
import Derived.RowKit
import Derived.Test.YtkgedjaihimafaaDoorWWords
import Derived.Test.YtkgedjaihimafaaDoorWLast
import Derived.Test.YtkgedjaihimafaaDoorWTab
import Derived.Test.YtkgedjaihimafaaDoorWFour
import Derived.Test.YtkgedjaihimafaaDoorWQPut
import Derived.Test.YtkgedjaihimafaaDoorWApart
import Derived.Test.YtkgedjaihimafaaDoorWArr
import Derived.Test.YtkgedjaihimafaaDoorWZeros
import Derived.Test.YtkgedjaihimafaaDoorWFoot
import Derived.Test.YtkgedjaihimafaaDoorWKept
import Derived.Test.YtkgedjaihimafaaDoorWShare
import Derived.Test.YtkgedjaihimafaaDoorWN
import Derived.Test.YtkgedjaihimafaaDoorWFootNe
import Derived.Test.YtkgedjaihimafaaDoorWAt
import Derived.Test.YtkgedjaihimafaaDoorWEqStruct
import Derived.Test.YtkgedjaihimafaaDoorWRepsOne
import Derived.Test.YtkgedjaihimafaaDoorWInv
import Derived.Test.YtkgedjaihimafaaDoorWInvWords
import Derived.Test.YtkgedjaihimafaaDoorWGuard
import Derived.Test.YtkgedjaihimafaaDoorWNEv
import Derived.Test.YtkgedjaihimafaaDoorWMore
/- command.Get, walked. -/
namespace Go.Proofs.YtkgedjaihimafaaDoor
set_option linter.unusedVariables false
set_option linter.unusedSimpArgs false
open Go.RowKit Go.Proofs.YtkgedjaihimafaaDoorW.PrintWords Go.Proofs.YtkgedjaihimafaaDoor.QCmd

/-- What Get leaves. -/
def GetPost (w : World) (r : Int × Int × ByteArray × Int × Int × List Int × Int × Bool) (e : Ending) (w' : World) : Prop :=
  (∃ v, e = .returned (.tuple #[.agg #[.int .u8 r.1, .int .u32 r.2.1, .string r.2.2.1, .int .u64 r.2.2.2.1, .int .u8 r.2.2.2.2.1, v], .int .u8 r.2.2.2.2.2.2.1, .bool r.2.2.2.2.2.2.2]) ∧
    w'.ownsRow w.heap.size 5 1 v r.2.2.2.2.2.1.length (nums .u8 r.2.2.2.2.2.1)) ∧ Below w.heap.size w w'

/-- What Get answers behind a whole head. -/
def getT (kind id : Int) : Option (ByteArray × Int × Int × List Int) → Int × Int × ByteArray × Int × Int × List Int × Int × Bool
  | none => (0, 0, ⟨#[]⟩, 0, 0, [], 0, false)
  | some (topic, seq, code, pay) =>
    if (kind = 1 ∨ kind = 3) ∧ topicOk topic = false then (kind, id, ⟨#[]⟩, 0, 0, [], 1, false)
    else if kind = 3 ∧ 2048 < pay.length then (kind, id, ⟨#[]⟩, 0, 0, [], 5, false)
    else if cmdOk kind topic seq code pay = true then (kind, id, topic, seq, code, pay, 0, true)
    else (0, 0, ⟨#[]⟩, 0, 0, [], 0, false)
theorem getR_long {l : List Int} (h5 : ¬ l.length < 5) : getR l = getT (l.getD 0 0) (valL ((l.take 5).drop 1)) (restR (l.getD 0 0) (l.drop 5)) := by
  unfold getR
  rw [if_neg h5]
  generalize restR (l.getD 0 0) (l.drop 5) = r
  rcases r with _ | ⟨topic, seq, code, pay⟩ <;> rfl

/-- Behind rest: the result's block, the bare command's, the command's. -/
structure Aft (w W : World) (gb : Nat) (kind id : Int) (topic : ByteArray) (seq code : Int) (pay : List Int) (v : Value) : Prop where
  z : W.heap[w.heap.size]? = some (.cells (cmdC 0 0 ⟨#[]⟩ 0 0 (.slice none 0 0)) 26 (0, 0))
  b : W.heap[gb]? = some (.cells (cmdC kind id ⟨#[]⟩ 0 0 (.slice none 0 0)) 26 (0, 0))
  is : IsCmd W w.heap.size (w.heap.size + 1) kind id topic seq code pay v
  bel : Below w.heap.size w W
theorem Aft.below {w W W' : World} {gb : Nat} {kind id : Int} {topic : ByteArray} {seq code : Int} {pay : List Int} {v : Value} (h : Aft w W gb kind id topic seq code pay v) (hb : Below W.heap.size W W') : Aft w W' gb kind id topic seq code pay v :=
  ⟨blk_below h.z hb, blk_below h.b hb, ⟨blk_below h.is.blk hb, pw_own_below h.is.own hb⟩, h.bel.trans (hb.mono h.bel.size)⟩
/-- The result's cells, written. -/
abbrev put6 (W : World) (g : Nat) (k i : Int) (t : ByteArray) (q c : Int) (v : Value) : World := (((((W.setCell ⟨g, 0, none⟩ (.int .u8 k)).setCell ⟨g, 1, none⟩ (.int .u32 i)).setCell ⟨g, 2, none⟩ (.string t)).setCell ⟨g, 3, none⟩ (.int .u64 q)).setCell ⟨g, 4, none⟩ (.int .u8 c)).setCell ⟨g, 5, none⟩ v
theorem put6_blk {W : World} {g : Nat} {k' i' q' c' : Int} {t' : ByteArray} {v' : Value} (h : W.heap[g]? = some (.cells (cmdC k' i' t' q' c' v') 26 (0, 0))) (k i : Int) (t : ByteArray) (q c : Int) (v : Value) :
    (put6 W g k i t q c v).heap[g]? = some (.cells (cmdC k i t q c v) 26 (0, 0)) := blk_set (blk_set (blk_set (blk_set (blk_set (blk_set h 0 _) 1 _) 2 _) 3 _) 4 _) 5 _
theorem put6_below {B : Nat} {w W : World} {g : Nat} (h : Below B w W) (hg : B ≤ g) (k i : Int) (t : ByteArray) (q c : Int) (v : Value) : Below B w (put6 W g k i t q c v) :=
  (((((h.setCell (p := ⟨g, 0, none⟩) hg _).setCell (p := ⟨g, 1, none⟩) hg _).setCell (p := ⟨g, 2, none⟩) hg _).setCell (p := ⟨g, 3, none⟩) hg _).setCell (p := ⟨g, 4, none⟩) hg _).setCell (p := ⟨g, 5, none⟩) hg _
theorem put6_own {W : World} {g base n : Nat} {v : Value} {xs : List Value} (h : W.ownsRow base 5 1 v n xs) (hne : some g ≠ v.ownBlock) (k i : Int) (t : ByteArray) (q c : Int) (u : Value) : (put6 W g k i t q c u).ownsRow base 5 1 v n xs :=
  own_setCell (own_setCell (own_setCell (own_setCell (own_setCell (own_setCell h hne _) hne _) hne _) hne _) hne _) hne _

theorem topics_calls (w : World) (k : Int) (hk : 0 ≤ k ∧ k ≤ 255) : Calls Tryd.prog 37 #[.int .u8 k] w fun e w' => e = .returned (.bool (decide (k = 1 ∨ k = 3))) ∧ w = w' := by
  by_cases h1 : k = 1
  · subst h1
    go_enter Tryd.func37, Tryd.ntmps37
    go_wp2
    go_ret
    exact ⟨rfl, rfl⟩
  · have b1 : (k == 1) = false := by simpa using h1
    have e : decide (k = 1 ∨ k = 3) = (k == 3) := by
      rw [Bool.eq_iff_iff, decide_eq_true_iff, beq_iff_eq]
      omega
    rw [e]
    clear e
    go_enter Tryd.func37, Tryd.ntmps37
    go_wp2
    go_ret
    exact ⟨rfl, rfl⟩
theorem cmay_calls (w : World) (base : Nat) (kind id : Int) (topic : ByteArray) (seq code : Int) (pay : List Int) (A : Option Addr) (c : Nat) (hk : 0 ≤ kind) (hc : 0 ≤ code) (ht : topic.size ≤ 1000000000) (hO : w.ownsRow base 5 1 (.slice A pay.length c) pay.length (nums .u8 pay)) :
    Calls Tryd.prog 17 #[.agg (cmdC kind id topic seq code (.slice A pay.length c))] w fun e w' => e = .returned (.bool (cmdOk kind topic seq code pay)) ∧ Below w.heap.size w w' := by
  obtain ⟨k, hk'⟩ := (ev_cmdMay kind id topic seq code pay hk hc ht).rounds
  exact command_May.calls k kind id topic seq code A c pay _ w (Kd.C_of_reads (d := (0 : Int)) (h1 := fun _ => rfl) (own_reads' hO)) (own_cap hO) hk'

theorem get_short (w : World) (A : Option Addr) (c : Nat) (l : List Int) (h5 : l.length < 5) :
    Calls Tryd.prog 14 #[.slice A l.length c] w (GetPost w (0, 0, ⟨#[]⟩, 0, 0, [], 0, false)) := by
  refine of_post0 fun R hRR => ?_
  have HP := Lib.hid hRR
  have c1 : decide ((l.length : Int) < 5) = true := by rw [decide_eq_true_iff]; omega
  clear hRR h5
  go_enter Tryd.func14, Tryd.ntmps14
  go_wp2_with fail
  refine bodyPost_ret (results_ctt rfl _ _ w.heap.size 26 #[.int .u8 0, .int .u32 0, .string ⟨#[]⟩, .int .u64 0, .int .u8 0, .slice none 0 0] (0, 0) _ rfl (blk_new w _) Tryd.underlying26 rfl (by kernel_rfl)) rfl (HP.out _ _ ⟨⟨_, rfl, own_nil _ _ _ _⟩, Below.alloc (Below.refl _ _) (Nat.le_refl _) _⟩)

/-- Behind the head's region, in its second order. -/
def six (w : World) (n : Nat) (kind id : Int) : World := (((((((((w.alloc (.cells (cmdC 0 0 ⟨#[]⟩ 0 0 (.slice none 0 0)) 26)).alloc (.cells (cmdC 0 0 ⟨#[]⟩ 0 0 (.slice none 0 0)) 26)).drewN (1 + n)).setCell ⟨w.heap.size + 1, 0, none⟩ (.int .u8 kind)).setCell ⟨w.heap.size + 1, 1, none⟩ (.int .u32 id)).setCell ⟨w.heap.size + 1, 2, none⟩ (.string ⟨#[]⟩)).setCell ⟨w.heap.size + 1, 3, none⟩ (.int .u64 0)).setCell ⟨w.heap.size + 1, 4, none⟩ (.int .u8 0)).setCell ⟨w.heap.size + 1, 5, none⟩ (.slice none 0 0))
theorem six_is (w : World) (n : Nat) (kind id : Int) : Below w.heap.size w (six w n kind id) ∧ (six w n kind id).heap[w.heap.size]? = some (.cells (cmdC 0 0 ⟨#[]⟩ 0 0 (.slice none 0 0)) 26 (0, 0)) ∧
    (six w n kind id).heap[w.heap.size + 1]? = some (.cells (cmdC kind id ⟨#[]⟩ 0 0 (.slice none 0 0)) 26 (0, 0)) ∧ (six w n kind id).heap.size = w.heap.size + 1 + 1 := by
  have hne : ∀ j, w.heap.size ≠ (⟨w.heap.size + 1, j, none⟩ : Addr).block := fun j => by show w.heap.size ≠ w.heap.size + 1; omega
  have hle : ∀ j, w.heap.size ≤ (⟨w.heap.size + 1, j, none⟩ : Addr).block := fun j => Nat.le_succ _
  have z := blk_drewN (blk_alloc (blk_new w (.cells (cmdC 0 0 ⟨#[]⟩ 0 0 (.slice none 0 0)) 26)) (.cells (cmdC 0 0 ⟨#[]⟩ 0 0 (.slice none 0 0)) 26)) (1 + n)
  have c := blk_drewN (blk_new1 w (.cells (cmdC 0 0 ⟨#[]⟩ 0 0 (.slice none 0 0)) 26) (.cells (cmdC 0 0 ⟨#[]⟩ 0 0 (.slice none 0 0)) 26)) (1 + n)
  unfold six
  refine ⟨?_, ?_, ?_, by simp [World.setCell]⟩
  · exact ((((((pw_below_drewN (below_alloc (below_alloc (Below.refl _ _) _) _) _).setCell (hle 0) _).setCell (hle 1) _).setCell (hle 2) _).setCell (hle 3) _).setCell (hle 4) _).setCell (hle 5) _
  · exact blk_far (blk_far (blk_far (blk_far (blk_far (blk_far z (hne 0) _) (hne 1) _) (hne 2) _) (hne 3) _) (hne 4) _) (hne 5) _
  · exact blk_set (blk_set (blk_set (blk_set (blk_set (blk_set c 0 _) 1 _) 2 _) 3 _) 4 _) 5 _

set_option maxHeartbeats 1000000 in
set_option maxRecDepth 100000 in
theorem get_long (w : World) (A : Option Addr) (c : Nat) (l : List Int) (h5 : ¬ l.length < 5) (hl : l.length ≤ 100000) (hlc : l.length ≤ c) (hR : ReadsInt w .u8 A l.length l) (hby : ∀ x ∈ l, 0 ≤ x ∧ x ≤ 255)
    (kind : Int) (hkind : l.getD 0 0 = kind) (id : Int) (hid : valL ((l.take 5).drop 1) = id) (hid0 : 0 ≤ id) (hid1 : id ≤ 4294967295) (r : Option (ByteArray × Int × Int × List Int)) (hr : restR kind (l.drop 5) = r) :
    Calls Tryd.prog 14 #[.slice A l.length c] w (GetPost w (getR l)) := by
  refine of_post0 fun R hRR => ?_
  have HP := Lib.hid hRR
  have c1 : decide ((l.length : Int) < 5) = false := by rw [decide_eq_false_iff_not]; omega
  obtain ⟨i0, hi, _, hsz, _⟩ := info_parts Tryd.infoB8
  obtain ⟨A1, hcut1, hr1, hm1⟩ := print_mid_int (P := Tryd.prog) (k := .u8) 24 5 Tryd.underlying24 hi hsz A c l 1 5 (by decide) (by decide) (by omega) hlc
  obtain ⟨A2, hcut2, hr2, hm2⟩ := print_drop_of (P := Tryd.prog) (Value.int .u8) (0 : Int) 24 5 .i64 Tryd.underlying24 hi hsz A c l 5 (by decide) (by omega) hlc
  obtain ⟨ad, rfl, hc⟩ := hR.2.2 (by omega)
  have hc0 := hc 0 (by omega)
  have ha : ad.add 0 = ad := by unfold Addr.add; rfl
  rw [ha, hkind] at hc0
  have hk := hby _ (getD0_mem (show 0 < l.length by omega))
  rw [hkind] at hk
  rw [show (5 : Int).toNat = 5 from rfl, show (1 : Int).toNat = 1 from rfl] at *
  generalize hL1 : (l.take 5).drop 1 = L1 at *
  generalize hL2 : l.drop 5 = L2 at *
  have hl2 : L2.length ≤ 100000 := by rw [← hL2, List.length_drop]; omega
  have hby2 : Byte8 L2 := fun x hx => by
    rw [← hL2] at hx
    exact hby x (List.mem_of_mem_drop hx)
  have HR2 := Lib.hid (And.intro (hr2 w hR) (And.intro hm2 (And.intro hl2 hby2)))
  have HG := Lib.hid (show getR l = getT kind id r by rw [getR_long h5, hkind, hL2, hr, hL1, hid])
  have HRR := Lib.hid hr
  have hE2 : Elsewhere A2 L2.length (w.heap.size + 1) := far_int HR2.out.1 (Nat.le_succ _)
  have hl1 : L1.length ≤ 8 := by rw [← hL1, List.length_drop, List.length_take]; omega
  have hby1 : ∀ x ∈ L1, 0 ≤ x ∧ x ≤ 255 := fun x hx => by
    rw [← hL1] at hx
    exact hby x (List.mem_of_mem_take (List.mem_of_mem_drop hx))
  have hV : ∀ W, Below w.heap.size w W → Calls Tryd.prog 35 #[.slice A1 L1.length (c - 1)] W fun e w' => e = .returned (.int .u64 id) ∧ Drawn0 W w' := fun W hW => by
    rw [← hid]
    exact value_calls W A1 (c - 1) L1 hl1 hby1 (hr1 W (hR.below hW)) hm1
  have HV := Lib.hid hV
  have hS : ∀ W, Below w.heap.size w W → W.cell? ad = some (.int .u8 kind) := fun W hW => by
    have h := (hR.below hW).2.2 (by omega)
    obtain ⟨ad', e, h⟩ := h
    cases e
    have h := h 0 (by omega)
    rw [ha, hkind] at h
    exact h
  have HS := Lib.hid hS
  have HE := Lib.hid (And.intro hE2 hk)
  have b5 : (0 : Int) < (l.length : Int) := by omega
  have b6 : 0 < l.length := by omega
  have b7 : (1 : Int) ≤ (l.length : Int) := by omega
  clear hS hV hRR hR hr1 hr2 hm1 hm2 hby hby1 hi hsz hc hE2 hL1 hL2 hl2 hby2 hr hid hkind h5 ha
  have HW32 := Lib.hid (show IntKind.u32.wrap id = id by simp [IntKind.wrap, IntKind.bits, IntKind.signed]; omega)
  go_enter Tryd.func14, Tryd.ntmps14
  go_wp2_with fail
  go_region_held3 (fun w' => w'.cell? ad = some (.int .u8 kind))
    (exact HS.out _ (by repeat (first | (with_reducible exact Below.refl _ _) | (with_reducible apply below_drew1) | (with_reducible apply pw_below_drewN) | (with_reducible refine Below.setCell ?_ (by first | exact Nat.le_refl _ | (simp; done) | (simp; omega)) _) | (with_reducible refine Below.alloc ?_ (by first | exact Nat.le_refl _ | (simp; done) | (simp; omega)) _))))
    ((go_at_call 35; refine (HV.out _ (by repeat (first | (with_reducible exact Below.refl _ _) | (with_reducible apply below_drew1) | (with_reducible apply pw_below_drewN) | (with_reducible refine Below.setCell ?_ (by first | exact Nat.le_refl _ | (simp; done) | (simp; omega)) _) | (with_reducible refine Below.alloc ?_ (by first | exact Nat.le_refl _ | (simp; done) | (simp; omega)) _)))).mono ?_; rintro e w1 ⟨rfl, n, rfl⟩))
  all_goals
    rename_i K hK hHeld
    clear hHeld
    refine hK _ _ ?_
    clear hK K
    rw [HW32.out]
  · have hb2 : Below w.heap.size w (((w.alloc (.cells (cmdC 0 0 ⟨#[]⟩ 0 0 (.slice none 0 0)) 26)).drewN (1 + n)).alloc (.cells (cmdC kind id ⟨#[]⟩ 0 0 (.slice none 0 0)) 26)) := below_alloc (pw_below_drewN (below_alloc (Below.refl _ _) _) _) _
    have z2 : (((w.alloc (.cells (cmdC 0 0 ⟨#[]⟩ 0 0 (.slice none 0 0)) 26)).drewN (1 + n)).alloc (.cells (cmdC kind id ⟨#[]⟩ 0 0 (.slice none 0 0)) 26)).heap[w.heap.size]? = some (.cells (cmdC 0 0 ⟨#[]⟩ 0 0 (.slice none 0 0)) 26 (0, 0)) := blk_alloc (blk_drewN (blk_new w _) _) _
    have c2 : (((w.alloc (.cells (cmdC 0 0 ⟨#[]⟩ 0 0 (.slice none 0 0)) 26)).drewN (1 + n)).alloc (.cells (cmdC kind id ⟨#[]⟩ 0 0 (.slice none 0 0)) 26)).heap[w.heap.size + 1]? = some (.cells (cmdC kind id ⟨#[]⟩ 0 0 (.slice none 0 0)) 26 (0, 0)) := blk_at _ (by simp)
    have s2 : (((w.alloc (.cells (cmdC 0 0 ⟨#[]⟩ 0 0 (.slice none 0 0)) 26)).drewN (1 + n)).alloc (.cells (cmdC kind id ⟨#[]⟩ 0 0 (.slice none 0 0)) 26)).heap.size = w.heap.size + 1 + 1 := by simp
    generalize (((w.alloc (.cells (cmdC 0 0 ⟨#[]⟩ 0 0 (.slice none 0 0)) 26)).drewN (1 + n)).alloc (.cells (cmdC kind id ⟨#[]⟩ 0 0 (.slice none 0 0)) 26)) = W2 at *
    have H2 := Lib.hid (And.intro hb2 (And.intro z2 (And.intro c2 s2)))
    clear hb2 z2 c2 s2
    have q0 := blk_cell H2.out.2.2.1 0
    have q1 := blk_cell H2.out.2.2.1 1
    have q2 := blk_cell H2.out.2.2.1 2
    have q3 := blk_cell H2.out.2.2.1 3
    have q4 := blk_cell H2.out.2.2.1 4
    have q5 := blk_cell H2.out.2.2.1 5
    simp at q0 q1 q2 q3 q4 q5
    go_wp2_with fail
    have hbA := below_alloc H2.out.1 (.cells (cmdC kind id ⟨#[]⟩ 0 0 (.slice none 0 0)) 26)
    refine (rest_calls _ w.heap.size (w.heap.size + 1) kind id A2 (c - 5) L2 (Nat.le_succ _) HE.out.2 ⟨blk_alloc H2.out.2.2.1 _, own_nil _ _ _ _⟩ HR2.out.2.2.1 HR2.out.2.1 (HR2.out.1.below hbA) HE.out.1 HR2.out.2.2.2).mono ?_
    rintro e w3 ⟨⟨hb3, hk3⟩, hm⟩
    rw [HRR.out] at hm
    have hz3 := hk3.blk (blk_alloc H2.out.2.1 _) (Nat.ne_of_lt (Nat.lt_succ_self _)) (by simp)
    have hc3 := hk3.blk (blk_new W2 (.cells (cmdC kind id ⟨#[]⟩ 0 0 (.slice none 0 0)) 26)) (by rw [H2.out.2.2.2]; exact Nat.ne_of_gt (Nat.lt_succ_self _)) (by simp)
    have hB3 := hbA.trans hb3
    clear hb3 hk3 hbA q0 q1 q2 q3 q4 q5
    have HGG := HG.out
    rcases r with _ | ⟨topic, seq, code, pay⟩
    · simp only [getT] at hm HGG
      subst hm
      have z0 := blk_cell hz3 0
      have z1 := blk_cell hz3 1
      have z2 := blk_cell hz3 2
      have z3 := blk_cell hz3 3
      have z4 := blk_cell hz3 4
      have z5 := blk_cell hz3 5
      have zf0 := blk_frozen hz3 0
      have zf1 := blk_frozen hz3 1
      have zf2 := blk_frozen hz3 2
      have zf3 := blk_frozen hz3 3
      have zf4 := blk_frozen hz3 4
      have zf5 := blk_frozen hz3 5
      simp at z0 z1 z2 z3 z4 z5
      have HZ := Lib.hid hz3
      have H3 := Lib.hid hB3
      have HGN := Lib.hid HGG
      clear hz3 hc3 hB3 HGG HG HRR
      go_wp2_with fail
      refine bodyPost_ret (results_ctt rfl _ _ w.heap.size 26 (cmdC 0 0 ⟨#[]⟩ 0 0 (.slice none 0 0)) (0, 0) _ rfl (put6_blk HZ.out 0 0 ⟨#[]⟩ 0 0 (.slice none 0 0)) Tryd.underlying26 rfl (by kernel_rfl)) rfl (HP.out _ _ ?_)
      rw [HGN.out]
      exact ⟨⟨_, rfl, own_nil _ _ _ _⟩, put6_below H3.out (Nat.le_refl _) 0 0 ⟨#[]⟩ 0 0 (.slice none 0 0)⟩
    · simp only [getT] at hm HGG
      obtain ⟨rfl, v, hIs⟩ := hm
      obtain ⟨A3, c3, rfl⟩ := own_slice hIs.own
      have hin := restR_in HR2.out.2.2.2 HRR.out
      have HIN := Lib.hid (And.intro HE.out.2.1 (And.intro hin.2.1.1 (show topic.size ≤ 1000000000 by have := hin.2.2.2.2; have := HR2.out.2.2.1; omega)))
      have hpl9 : pay.length ≤ 100000 := by have := hin.2.2.2.1; have := HR2.out.2.2.1; omega
      have HA := Lib.hid (Aft.mk hz3 hc3 hIs hB3)
      have HGS := Lib.hid HGG
      clear hz3 hc3 hB3 hIs HGG HG HRR hin
      have z0 := blk_cell HA.out.z 0
      have z1 := blk_cell HA.out.z 1
      have z2 := blk_cell HA.out.z 2
      have z3 := blk_cell HA.out.z 3
      have z4 := blk_cell HA.out.z 4
      have z5 := blk_cell HA.out.z 5
      have zf0 := blk_frozen HA.out.z 0
      have zf1 := blk_frozen HA.out.z 1
      have zf2 := blk_frozen HA.out.z 2
      have zf3 := blk_frozen HA.out.z 3
      have zf4 := blk_frozen HA.out.z 4
      have zf5 := blk_frozen HA.out.z 5
      simp at z0 z1 z2 z3 z4 z5
      have y0 := blk_cell HA.out.b 0
      have y1 := blk_cell HA.out.b 1
      have y2 := blk_cell HA.out.b 2
      have y3 := blk_cell HA.out.b 3
      have y4 := blk_cell HA.out.b 4
      have y5 := blk_cell HA.out.b 5
      simp at y0 y1 y2 y3 y4 y5
      have x0 := blk_cell HA.out.is.blk 0
      have x1 := blk_cell HA.out.is.blk 1
      have x2 := blk_cell HA.out.is.blk 2
      have x3 := blk_cell HA.out.is.blk 3
      have x4 := blk_cell HA.out.is.blk 4
      have x5 := blk_cell HA.out.is.blk 5
      simp at x0 x1 x2 x3 x4 x5
      go_wp2_with fail
      refine (topics_calls _ kind HE.out.2).mono ?_
      rintro e w4 ⟨rfl, rfl⟩
      by_cases hT : kind = 1 ∨ kind = 3
      · rw [decide_eq_true hT]
        cases htok : topicOk topic
        · have HG1 := Lib.hid (HGS.out.trans (if_pos ⟨hT, htok⟩))
          have HTK := Lib.hid htok
          clear hT htok
          go_wp2_with fail
          refine (may_calls _ topic HIN.out.2.2).mono ?_
          rintro e w4 ⟨rfl, hb4⟩
          rw [HTK.out]
          have HA4 := Lib.hid (HA.out.below hb4)
          clear hb4 HTK
          clear z0 z1 z2 z3 z4 z5 y0 y1 y2 y3 y4 y5 x0 x1 x2 x3 x4 x5 zf0 zf1 zf2 zf3 zf4 zf5
          have z0 := blk_cell HA4.out.z 0
          have z1 := blk_cell HA4.out.z 1
          have z2 := blk_cell HA4.out.z 2
          have z3 := blk_cell HA4.out.z 3
          have z4 := blk_cell HA4.out.z 4
          have z5 := blk_cell HA4.out.z 5
          have zf0 := blk_frozen HA4.out.z 0
          have zf1 := blk_frozen HA4.out.z 1
          have zf2 := blk_frozen HA4.out.z 2
          have zf3 := blk_frozen HA4.out.z 3
          have zf4 := blk_frozen HA4.out.z 4
          have zf5 := blk_frozen HA4.out.z 5
          simp at z0 z1 z2 z3 z4 z5
          have y0 := blk_cell HA4.out.b 0
          have y1 := blk_cell HA4.out.b 1
          have y2 := blk_cell HA4.out.b 2
          have y3 := blk_cell HA4.out.b 3
          have y4 := blk_cell HA4.out.b 4
          have y5 := blk_cell HA4.out.b 5
          simp at y0 y1 y2 y3 y4 y5
          have x0 := blk_cell HA4.out.is.blk 0
          have x1 := blk_cell HA4.out.is.blk 1
          have x2 := blk_cell HA4.out.is.blk 2
          have x3 := blk_cell HA4.out.is.blk 3
          have x4 := blk_cell HA4.out.is.blk 4
          have x5 := blk_cell HA4.out.is.blk 5
          simp at x0 x1 x2 x3 x4 x5
          go_wp2_with fail
          refine bodyPost_ret (results_ctt rfl _ _ w.heap.size 26 (cmdC kind id ⟨#[]⟩ 0 0 (.slice none 0 0)) (0, 0) _ rfl (put6_blk HA4.out.z kind id ⟨#[]⟩ 0 0 (.slice none 0 0)) Tryd.underlying26 rfl (by kernel_rfl)) rfl (HP.out _ _ ?_)
          rw [HG1.out]
          exact ⟨⟨_, rfl, own_nil _ _ _ _⟩, put6_below HA4.out.bel (Nat.le_refl _) kind id ⟨#[]⟩ 0 0 (.slice none 0 0)⟩
        · have HGT := Lib.hid (HGS.out.trans (if_neg (fun h => by rw [htok] at h; exact Bool.noConfusion h.2)))
          have HTK := Lib.hid htok
          clear hT htok
          go_wp2_with fail
          refine (may_calls _ topic HIN.out.2.2).mono ?_
          rintro e w4 ⟨rfl, hb4⟩
          rw [HTK.out]
          have HA4 := Lib.hid (HA.out.below hb4)
          clear hb4 HTK
          clear z0 z1 z2 z3 z4 z5 y0 y1 y2 y3 y4 y5 x0 x1 x2 x3 x4 x5 zf0 zf1 zf2 zf3 zf4 zf5
          have z0 := blk_cell HA4.out.z 0
          have z1 := blk_cell HA4.out.z 1
          have z2 := blk_cell HA4.out.z 2
          have z3 := blk_cell HA4.out.z 3
          have z4 := blk_cell HA4.out.z 4
          have z5 := blk_cell HA4.out.z 5
          have zf0 := blk_frozen HA4.out.z 0
          have zf1 := blk_frozen HA4.out.z 1
          have zf2 := blk_frozen HA4.out.z 2
          have zf3 := blk_frozen HA4.out.z 3
          have zf4 := blk_frozen HA4.out.z 4
          have zf5 := blk_frozen HA4.out.z 5
          simp at z0 z1 z2 z3 z4 z5
          have y0 := blk_cell HA4.out.b 0
          have y1 := blk_cell HA4.out.b 1
          have y2 := blk_cell HA4.out.b 2
          have y3 := blk_cell HA4.out.b 3
          have y4 := blk_cell HA4.out.b 4
          have y5 := blk_cell HA4.out.b 5
          simp at y0 y1 y2 y3 y4 y5
          have x0 := blk_cell HA4.out.is.blk 0
          have x1 := blk_cell HA4.out.is.blk 1
          have x2 := blk_cell HA4.out.is.blk 2
          have x3 := blk_cell HA4.out.is.blk 3
          have x4 := blk_cell HA4.out.is.blk 4
          have x5 := blk_cell HA4.out.is.blk 5
          simp at x0 x1 x2 x3 x4 x5
          by_cases hP : kind = 3 ∧ 2048 < pay.length
          · obtain ⟨hk3, hpl⟩ := hP
            have bk : (kind == 3) = true := by rw [beq_iff_eq]; exact hk3
            have bl : decide ((2048 : Int) < (pay.length : Int)) = true := by rw [decide_eq_true_iff]; omega
            have bl2 : decide (2048 < pay.length) = true := by rw [decide_eq_true_iff]; omega
            have HG5 := Lib.hid (HGT.out.trans (by rw [if_pos ⟨hk3, hpl⟩] : _ = (kind, id, (⟨#[]⟩ : ByteArray), (0 : Int), (0 : Int), ([] : List Int), (5 : Int), false)))
            clear hk3 hpl
            go_wp2_with fail
            refine bodyPost_ret (results_ctt rfl _ _ w.heap.size 26 (cmdC kind id ⟨#[]⟩ 0 0 (.slice none 0 0)) (0, 0) _ rfl (put6_blk HA4.out.z kind id ⟨#[]⟩ 0 0 (.slice none 0 0)) Tryd.underlying26 rfl (by kernel_rfl)) rfl (HP.out _ _ ?_)
            rw [HG5.out]
            exact ⟨⟨_, rfl, own_nil _ _ _ _⟩, put6_below HA4.out.bel (Nat.le_refl _) kind id ⟨#[]⟩ 0 0 (.slice none 0 0)⟩
          · have HGM := Lib.hid (HGT.out.trans (if_neg hP))
            have hbb : ((kind == 3) = true ∧ decide ((2048 : Int) < (pay.length : Int)) = false) ∨ (kind == 3) = false := by
              by_cases h3 : kind = 3
              · exact .inl ⟨by rw [beq_iff_eq]; exact h3, by rw [decide_eq_false_iff_not]; omega⟩
              · exact .inr (by rw [beq_eq_false_iff_ne]; exact h3)
            clear hP
            rcases hbb with ⟨bk, bl⟩ | bk
            all_goals
              go_wp2_with fail
              refine (cmay_calls _ w.heap.size kind id topic seq code pay A3 c3 HIN.out.1 HIN.out.2.1 HIN.out.2.2 (HA4.out.is.own)).mono ?_
              rintro e w5 ⟨rfl, hb5⟩
              have HA5 := Lib.hid (HA4.out.below hb5)
              clear hb5
              clear z0 z1 z2 z3 z4 z5 y0 y1 y2 y3 y4 y5 x0 x1 x2 x3 x4 x5 zf0 zf1 zf2 zf3 zf4 zf5
              have z0 := blk_cell HA5.out.z 0
              have z1 := blk_cell HA5.out.z 1
              have z2 := blk_cell HA5.out.z 2
              have z3 := blk_cell HA5.out.z 3
              have z4 := blk_cell HA5.out.z 4
              have z5 := blk_cell HA5.out.z 5
              have zf0 := blk_frozen HA5.out.z 0
              have zf1 := blk_frozen HA5.out.z 1
              have zf2 := blk_frozen HA5.out.z 2
              have zf3 := blk_frozen HA5.out.z 3
              have zf4 := blk_frozen HA5.out.z 4
              have zf5 := blk_frozen HA5.out.z 5
              simp at z0 z1 z2 z3 z4 z5
              have y0 := blk_cell HA5.out.b 0
              have y1 := blk_cell HA5.out.b 1
              have y2 := blk_cell HA5.out.b 2
              have y3 := blk_cell HA5.out.b 3
              have y4 := blk_cell HA5.out.b 4
              have y5 := blk_cell HA5.out.b 5
              simp at y0 y1 y2 y3 y4 y5
              have x0 := blk_cell HA5.out.is.blk 0
              have x1 := blk_cell HA5.out.is.blk 1
              have x2 := blk_cell HA5.out.is.blk 2
              have x3 := blk_cell HA5.out.is.blk 3
              have x4 := blk_cell HA5.out.is.blk 4
              have x5 := blk_cell HA5.out.is.blk 5
              simp at x0 x1 x2 x3 x4 x5
              cases hok : cmdOk kind topic seq code pay
              · have HG9 := Lib.hid (HGM.out.trans (if_neg (by rw [hok]; decide)))
                clear hok
                go_wp2_with fail
                refine bodyPost_ret (results_ctt rfl _ _ w.heap.size 26 (cmdC 0 0 ⟨#[]⟩ 0 0 (.slice none 0 0)) (0, 0) _ rfl (put6_blk HA5.out.z 0 0 ⟨#[]⟩ 0 0 (.slice none 0 0)) Tryd.underlying26 rfl (by kernel_rfl)) rfl (HP.out _ _ ?_)
                rw [HG9.out]
                exact ⟨⟨_, rfl, own_nil _ _ _ _⟩, put6_below HA5.out.bel (Nat.le_refl _) 0 0 ⟨#[]⟩ 0 0 (.slice none 0 0)⟩
              · have HG9 := Lib.hid (HGM.out.trans (if_pos hok))
                clear hok
                go_wp2_with fail
                refine bodyPost_ret (results_ctt rfl _ _ w.heap.size 26 (cmdC kind id topic seq code (.slice A3 pay.length c3)) (0, 0) _ rfl (put6_blk HA5.out.z kind id topic seq code (.slice A3 pay.length c3)) Tryd.underlying26 rfl (by kernel_rfl)) rfl (HP.out _ _ ?_)
                rw [HG9.out]
                exact ⟨⟨_, rfl, put6_own HA5.out.is.own (own_ne HA5.out.is.own HA5.out.z (by decide)) kind id topic seq code (.slice A3 pay.length c3)⟩, put6_below HA5.out.bel (Nat.le_refl _) kind id topic seq code (.slice A3 pay.length c3)⟩
      · rw [decide_eq_false hT]
        have HGT := Lib.hid (HGS.out.trans (if_neg (fun h => hT h.1)))
        clear hT
        clear z0 z1 z2 z3 z4 z5 y0 y1 y2 y3 y4 y5 x0 x1 x2 x3 x4 x5 zf0 zf1 zf2 zf3 zf4 zf5
        have z0 := blk_cell HA.out.z 0
        have z1 := blk_cell HA.out.z 1
        have z2 := blk_cell HA.out.z 2
        have z3 := blk_cell HA.out.z 3
        have z4 := blk_cell HA.out.z 4
        have z5 := blk_cell HA.out.z 5
        have zf0 := blk_frozen HA.out.z 0
        have zf1 := blk_frozen HA.out.z 1
        have zf2 := blk_frozen HA.out.z 2
        have zf3 := blk_frozen HA.out.z 3
        have zf4 := blk_frozen HA.out.z 4
        have zf5 := blk_frozen HA.out.z 5
        simp at z0 z1 z2 z3 z4 z5
        have y0 := blk_cell HA.out.b 0
        have y1 := blk_cell HA.out.b 1
        have y2 := blk_cell HA.out.b 2
        have y3 := blk_cell HA.out.b 3
        have y4 := blk_cell HA.out.b 4
        have y5 := blk_cell HA.out.b 5
        simp at y0 y1 y2 y3 y4 y5
        have x0 := blk_cell HA.out.is.blk 0
        have x1 := blk_cell HA.out.is.blk 1
        have x2 := blk_cell HA.out.is.blk 2
        have x3 := blk_cell HA.out.is.blk 3
        have x4 := blk_cell HA.out.is.blk 4
        have x5 := blk_cell HA.out.is.blk 5
        simp at x0 x1 x2 x3 x4 x5
        by_cases hP : kind = 3 ∧ 2048 < pay.length
        · obtain ⟨hk3, hpl⟩ := hP
          have bk : (kind == 3) = true := by rw [beq_iff_eq]; exact hk3
          have bl : decide ((2048 : Int) < (pay.length : Int)) = true := by rw [decide_eq_true_iff]; omega
          have bl2 : decide (2048 < pay.length) = true := by rw [decide_eq_true_iff]; omega
          have HG5 := Lib.hid (HGT.out.trans (by rw [if_pos ⟨hk3, hpl⟩] : _ = (kind, id, (⟨#[]⟩ : ByteArray), (0 : Int), (0 : Int), ([] : List Int), (5 : Int), false)))
          clear hk3 hpl
          go_wp2_with fail
          refine bodyPost_ret (results_ctt rfl _ _ w.heap.size 26 (cmdC kind id ⟨#[]⟩ 0 0 (.slice none 0 0)) (0, 0) _ rfl (put6_blk HA.out.z kind id ⟨#[]⟩ 0 0 (.slice none 0 0)) Tryd.underlying26 rfl (by kernel_rfl)) rfl (HP.out _ _ ?_)
          rw [HG5.out]
          exact ⟨⟨_, rfl, own_nil _ _ _ _⟩, put6_below HA.out.bel (Nat.le_refl _) kind id ⟨#[]⟩ 0 0 (.slice none 0 0)⟩
        · have HGM := Lib.hid (HGT.out.trans (if_neg hP))
          have hbb : ((kind == 3) = true ∧ decide ((2048 : Int) < (pay.length : Int)) = false) ∨ (kind == 3) = false := by
            by_cases h3 : kind = 3
            · exact .inl ⟨by rw [beq_iff_eq]; exact h3, by rw [decide_eq_false_iff_not]; omega⟩
            · exact .inr (by rw [beq_eq_false_iff_ne]; exact h3)
          clear hP
          rcases hbb with ⟨bk, bl⟩ | bk
          all_goals
            go_wp2_with fail
            refine (cmay_calls _ w.heap.size kind id topic seq code pay A3 c3 HIN.out.1 HIN.out.2.1 HIN.out.2.2 (HA.out.is.own)).mono ?_
            rintro e w5 ⟨rfl, hb5⟩
            have HA5 := Lib.hid (HA.out.below hb5)
            clear hb5
            clear z0 z1 z2 z3 z4 z5 y0 y1 y2 y3 y4 y5 x0 x1 x2 x3 x4 x5 zf0 zf1 zf2 zf3 zf4 zf5
            have z0 := blk_cell HA5.out.z 0
            have z1 := blk_cell HA5.out.z 1
            have z2 := blk_cell HA5.out.z 2
            have z3 := blk_cell HA5.out.z 3
            have z4 := blk_cell HA5.out.z 4
            have z5 := blk_cell HA5.out.z 5
            have zf0 := blk_frozen HA5.out.z 0
            have zf1 := blk_frozen HA5.out.z 1
            have zf2 := blk_frozen HA5.out.z 2
            have zf3 := blk_frozen HA5.out.z 3
            have zf4 := blk_frozen HA5.out.z 4
            have zf5 := blk_frozen HA5.out.z 5
            simp at z0 z1 z2 z3 z4 z5
            have y0 := blk_cell HA5.out.b 0
            have y1 := blk_cell HA5.out.b 1
            have y2 := blk_cell HA5.out.b 2
            have y3 := blk_cell HA5.out.b 3
            have y4 := blk_cell HA5.out.b 4
            have y5 := blk_cell HA5.out.b 5
            simp at y0 y1 y2 y3 y4 y5
            have x0 := blk_cell HA5.out.is.blk 0
            have x1 := blk_cell HA5.out.is.blk 1
            have x2 := blk_cell HA5.out.is.blk 2
            have x3 := blk_cell HA5.out.is.blk 3
            have x4 := blk_cell HA5.out.is.blk 4
            have x5 := blk_cell HA5.out.is.blk 5
            simp at x0 x1 x2 x3 x4 x5
            cases hok : cmdOk kind topic seq code pay
            · have HG9 := Lib.hid (HGM.out.trans (if_neg (by rw [hok]; decide)))
              clear hok
              go_wp2_with fail
              refine bodyPost_ret (results_ctt rfl _ _ w.heap.size 26 (cmdC 0 0 ⟨#[]⟩ 0 0 (.slice none 0 0)) (0, 0) _ rfl (put6_blk HA5.out.z 0 0 ⟨#[]⟩ 0 0 (.slice none 0 0)) Tryd.underlying26 rfl (by kernel_rfl)) rfl (HP.out _ _ ?_)
              rw [HG9.out]
              exact ⟨⟨_, rfl, own_nil _ _ _ _⟩, put6_below HA5.out.bel (Nat.le_refl _) 0 0 ⟨#[]⟩ 0 0 (.slice none 0 0)⟩
            · have HG9 := Lib.hid (HGM.out.trans (if_pos hok))
              clear hok
              go_wp2_with fail
              refine bodyPost_ret (results_ctt rfl _ _ w.heap.size 26 (cmdC kind id topic seq code (.slice A3 pay.length c3)) (0, 0) _ rfl (put6_blk HA5.out.z kind id topic seq code (.slice A3 pay.length c3)) Tryd.underlying26 rfl (by kernel_rfl)) rfl (HP.out _ _ ?_)
              rw [HG9.out]
              exact ⟨⟨_, rfl, put6_own HA5.out.is.own (own_ne HA5.out.is.own HA5.out.z (by decide)) kind id topic seq code (.slice A3 pay.length c3)⟩, put6_below HA5.out.bel (Nat.le_refl _) kind id topic seq code (.slice A3 pay.length c3)⟩
  · have y1 : (((((((((w.alloc (.cells (cmdC 0 0 ⟨#[]⟩ 0 0 (.slice none 0 0)) 26)).alloc (.cells (cmdC 0 0 ⟨#[]⟩ 0 0 (.slice none 0 0)) 26)).drewN (1 + n)).setCell ⟨w.heap.size + 1, 0, none⟩ (.int .u8 kind)).setCell ⟨w.heap.size + 1, 1, none⟩ (.int .u32 id)).setCell ⟨w.heap.size + 1, 2, none⟩ (.string ⟨#[]⟩)).setCell ⟨w.heap.size + 1, 3, none⟩ (.int .u64 0)).setCell ⟨w.heap.size + 1, 4, none⟩ (.int .u8 0)).setCell ⟨w.heap.size + 1, 5, none⟩ (.slice none 0 0)) = six w n kind id := rfl
    rw [y1]
    obtain ⟨hb2, z2, c2, s2⟩ := six_is w n kind id
    generalize six w n kind id = W2 at *
    have H2 := Lib.hid (And.intro hb2 (And.intro z2 (And.intro c2 s2)))
    clear hb2 z2 c2 s2 y1
    have q0 := blk_cell H2.out.2.2.1 0
    have q1 := blk_cell H2.out.2.2.1 1
    have q2 := blk_cell H2.out.2.2.1 2
    have q3 := blk_cell H2.out.2.2.1 3
    have q4 := blk_cell H2.out.2.2.1 4
    have q5 := blk_cell H2.out.2.2.1 5
    simp at q0 q1 q2 q3 q4 q5
    go_wp2_with fail
    have hbA := below_alloc H2.out.1 (.cells (cmdC kind id ⟨#[]⟩ 0 0 (.slice none 0 0)) 26)
    refine (rest_calls _ w.heap.size (w.heap.size + 1) kind id A2 (c - 5) L2 (Nat.le_succ _) HE.out.2 ⟨blk_alloc H2.out.2.2.1 _, own_nil _ _ _ _⟩ HR2.out.2.2.1 HR2.out.2.1 (HR2.out.1.below hbA) HE.out.1 HR2.out.2.2.2).mono ?_
    rintro e w3 ⟨⟨hb3, hk3⟩, hm⟩
    rw [HRR.out] at hm
    have hz3 := hk3.blk (blk_alloc H2.out.2.1 _) (Nat.ne_of_lt (Nat.lt_succ_self _)) (by simp)
    have hc3 := hk3.blk (blk_new W2 (.cells (cmdC kind id ⟨#[]⟩ 0 0 (.slice none 0 0)) 26)) (by rw [H2.out.2.2.2]; exact Nat.ne_of_gt (Nat.lt_succ_self _)) (by simp)
    have hB3 := hbA.trans hb3
    clear hb3 hk3 hbA q0 q1 q2 q3 q4 q5
    have HGG := HG.out
    rcases r with _ | ⟨topic, seq, code, pay⟩
    · simp only [getT] at hm HGG
      subst hm
      have z0 := blk_cell hz3 0
      have z1 := blk_cell hz3 1
      have z2 := blk_cell hz3 2
      have z3 := blk_cell hz3 3
      have z4 := blk_cell hz3 4
      have z5 := blk_cell hz3 5
      have zf0 := blk_frozen hz3 0
      have zf1 := blk_frozen hz3 1
      have zf2 := blk_frozen hz3 2
      have zf3 := blk_frozen hz3 3
      have zf4 := blk_frozen hz3 4
      have zf5 := blk_frozen hz3 5
      simp at z0 z1 z2 z3 z4 z5
      have HZ := Lib.hid hz3
      have H3 := Lib.hid hB3
      have HGN := Lib.hid HGG
      clear hz3 hc3 hB3 HGG HG HRR
      go_wp2_with fail
      refine bodyPost_ret (results_ctt rfl _ _ w.heap.size 26 (cmdC 0 0 ⟨#[]⟩ 0 0 (.slice none 0 0)) (0, 0) _ rfl (put6_blk HZ.out 0 0 ⟨#[]⟩ 0 0 (.slice none 0 0)) Tryd.underlying26 rfl (by kernel_rfl)) rfl (HP.out _ _ ?_)
      rw [HGN.out]
      exact ⟨⟨_, rfl, own_nil _ _ _ _⟩, put6_below H3.out (Nat.le_refl _) 0 0 ⟨#[]⟩ 0 0 (.slice none 0 0)⟩
    · simp only [getT] at hm HGG
      obtain ⟨rfl, v, hIs⟩ := hm
      obtain ⟨A3, c3, rfl⟩ := own_slice hIs.own
      have hin := restR_in HR2.out.2.2.2 HRR.out
      have HIN := Lib.hid (And.intro HE.out.2.1 (And.intro hin.2.1.1 (show topic.size ≤ 1000000000 by have := hin.2.2.2.2; have := HR2.out.2.2.1; omega)))
      have hpl9 : pay.length ≤ 100000 := by have := hin.2.2.2.1; have := HR2.out.2.2.1; omega
      have HA := Lib.hid (Aft.mk hz3 hc3 hIs hB3)
      have HGS := Lib.hid HGG
      clear hz3 hc3 hB3 hIs HGG HG HRR hin
      have z0 := blk_cell HA.out.z 0
      have z1 := blk_cell HA.out.z 1
      have z2 := blk_cell HA.out.z 2
      have z3 := blk_cell HA.out.z 3
      have z4 := blk_cell HA.out.z 4
      have z5 := blk_cell HA.out.z 5
      have zf0 := blk_frozen HA.out.z 0
      have zf1 := blk_frozen HA.out.z 1
      have zf2 := blk_frozen HA.out.z 2
      have zf3 := blk_frozen HA.out.z 3
      have zf4 := blk_frozen HA.out.z 4
      have zf5 := blk_frozen HA.out.z 5
      simp at z0 z1 z2 z3 z4 z5
      have y0 := blk_cell HA.out.b 0
      have y1 := blk_cell HA.out.b 1
      have y2 := blk_cell HA.out.b 2
      have y3 := blk_cell HA.out.b 3
      have y4 := blk_cell HA.out.b 4
      have y5 := blk_cell HA.out.b 5
      simp at y0 y1 y2 y3 y4 y5
      have x0 := blk_cell HA.out.is.blk 0
      have x1 := blk_cell HA.out.is.blk 1
      have x2 := blk_cell HA.out.is.blk 2
      have x3 := blk_cell HA.out.is.blk 3
      have x4 := blk_cell HA.out.is.blk 4
      have x5 := blk_cell HA.out.is.blk 5
      simp at x0 x1 x2 x3 x4 x5
      go_wp2_with fail
      refine (topics_calls _ kind HE.out.2).mono ?_
      rintro e w4 ⟨rfl, rfl⟩
      by_cases hT : kind = 1 ∨ kind = 3
      · rw [decide_eq_true hT]
        cases htok : topicOk topic
        · have HG1 := Lib.hid (HGS.out.trans (if_pos ⟨hT, htok⟩))
          have HTK := Lib.hid htok
          clear hT htok
          go_wp2_with fail
          refine (may_calls _ topic HIN.out.2.2).mono ?_
          rintro e w4 ⟨rfl, hb4⟩
          rw [HTK.out]
          have HA4 := Lib.hid (HA.out.below hb4)
          clear hb4 HTK
          clear z0 z1 z2 z3 z4 z5 y0 y1 y2 y3 y4 y5 x0 x1 x2 x3 x4 x5 zf0 zf1 zf2 zf3 zf4 zf5
          have z0 := blk_cell HA4.out.z 0
          have z1 := blk_cell HA4.out.z 1
          have z2 := blk_cell HA4.out.z 2
          have z3 := blk_cell HA4.out.z 3
          have z4 := blk_cell HA4.out.z 4
          have z5 := blk_cell HA4.out.z 5
          have zf0 := blk_frozen HA4.out.z 0
          have zf1 := blk_frozen HA4.out.z 1
          have zf2 := blk_frozen HA4.out.z 2
          have zf3 := blk_frozen HA4.out.z 3
          have zf4 := blk_frozen HA4.out.z 4
          have zf5 := blk_frozen HA4.out.z 5
          simp at z0 z1 z2 z3 z4 z5
          have y0 := blk_cell HA4.out.b 0
          have y1 := blk_cell HA4.out.b 1
          have y2 := blk_cell HA4.out.b 2
          have y3 := blk_cell HA4.out.b 3
          have y4 := blk_cell HA4.out.b 4
          have y5 := blk_cell HA4.out.b 5
          simp at y0 y1 y2 y3 y4 y5
          have x0 := blk_cell HA4.out.is.blk 0
          have x1 := blk_cell HA4.out.is.blk 1
          have x2 := blk_cell HA4.out.is.blk 2
          have x3 := blk_cell HA4.out.is.blk 3
          have x4 := blk_cell HA4.out.is.blk 4
          have x5 := blk_cell HA4.out.is.blk 5
          simp at x0 x1 x2 x3 x4 x5
          go_wp2_with fail
          refine bodyPost_ret (results_ctt rfl _ _ w.heap.size 26 (cmdC kind id ⟨#[]⟩ 0 0 (.slice none 0 0)) (0, 0) _ rfl (put6_blk HA4.out.z kind id ⟨#[]⟩ 0 0 (.slice none 0 0)) Tryd.underlying26 rfl (by kernel_rfl)) rfl (HP.out _ _ ?_)
          rw [HG1.out]
          exact ⟨⟨_, rfl, own_nil _ _ _ _⟩, put6_below HA4.out.bel (Nat.le_refl _) kind id ⟨#[]⟩ 0 0 (.slice none 0 0)⟩
        · have HGT := Lib.hid (HGS.out.trans (if_neg (fun h => by rw [htok] at h; exact Bool.noConfusion h.2)))
          have HTK := Lib.hid htok
          clear hT htok
          go_wp2_with fail
          refine (may_calls _ topic HIN.out.2.2).mono ?_
          rintro e w4 ⟨rfl, hb4⟩
          rw [HTK.out]
          have HA4 := Lib.hid (HA.out.below hb4)
          clear hb4 HTK
          clear z0 z1 z2 z3 z4 z5 y0 y1 y2 y3 y4 y5 x0 x1 x2 x3 x4 x5 zf0 zf1 zf2 zf3 zf4 zf5
          have z0 := blk_cell HA4.out.z 0
          have z1 := blk_cell HA4.out.z 1
          have z2 := blk_cell HA4.out.z 2
          have z3 := blk_cell HA4.out.z 3
          have z4 := blk_cell HA4.out.z 4
          have z5 := blk_cell HA4.out.z 5
          have zf0 := blk_frozen HA4.out.z 0
          have zf1 := blk_frozen HA4.out.z 1
          have zf2 := blk_frozen HA4.out.z 2
          have zf3 := blk_frozen HA4.out.z 3
          have zf4 := blk_frozen HA4.out.z 4
          have zf5 := blk_frozen HA4.out.z 5
          simp at z0 z1 z2 z3 z4 z5
          have y0 := blk_cell HA4.out.b 0
          have y1 := blk_cell HA4.out.b 1
          have y2 := blk_cell HA4.out.b 2
          have y3 := blk_cell HA4.out.b 3
          have y4 := blk_cell HA4.out.b 4
          have y5 := blk_cell HA4.out.b 5
          simp at y0 y1 y2 y3 y4 y5
          have x0 := blk_cell HA4.out.is.blk 0
          have x1 := blk_cell HA4.out.is.blk 1
          have x2 := blk_cell HA4.out.is.blk 2
          have x3 := blk_cell HA4.out.is.blk 3
          have x4 := blk_cell HA4.out.is.blk 4
          have x5 := blk_cell HA4.out.is.blk 5
          simp at x0 x1 x2 x3 x4 x5
          by_cases hP : kind = 3 ∧ 2048 < pay.length
          · obtain ⟨hk3, hpl⟩ := hP
            have bk : (kind == 3) = true := by rw [beq_iff_eq]; exact hk3
            have bl : decide ((2048 : Int) < (pay.length : Int)) = true := by rw [decide_eq_true_iff]; omega
            have bl2 : decide (2048 < pay.length) = true := by rw [decide_eq_true_iff]; omega
            have HG5 := Lib.hid (HGT.out.trans (by rw [if_pos ⟨hk3, hpl⟩] : _ = (kind, id, (⟨#[]⟩ : ByteArray), (0 : Int), (0 : Int), ([] : List Int), (5 : Int), false)))
            clear hk3 hpl
            go_wp2_with fail
            refine bodyPost_ret (results_ctt rfl _ _ w.heap.size 26 (cmdC kind id ⟨#[]⟩ 0 0 (.slice none 0 0)) (0, 0) _ rfl (put6_blk HA4.out.z kind id ⟨#[]⟩ 0 0 (.slice none 0 0)) Tryd.underlying26 rfl (by kernel_rfl)) rfl (HP.out _ _ ?_)
            rw [HG5.out]
            exact ⟨⟨_, rfl, own_nil _ _ _ _⟩, put6_below HA4.out.bel (Nat.le_refl _) kind id ⟨#[]⟩ 0 0 (.slice none 0 0)⟩
          · have HGM := Lib.hid (HGT.out.trans (if_neg hP))
            have hbb : ((kind == 3) = true ∧ decide ((2048 : Int) < (pay.length : Int)) = false) ∨ (kind == 3) = false := by
              by_cases h3 : kind = 3
              · exact .inl ⟨by rw [beq_iff_eq]; exact h3, by rw [decide_eq_false_iff_not]; omega⟩
              · exact .inr (by rw [beq_eq_false_iff_ne]; exact h3)
            clear hP
            rcases hbb with ⟨bk, bl⟩ | bk
            all_goals
              go_wp2_with fail
              refine (cmay_calls _ w.heap.size kind id topic seq code pay A3 c3 HIN.out.1 HIN.out.2.1 HIN.out.2.2 (HA4.out.is.own)).mono ?_
              rintro e w5 ⟨rfl, hb5⟩
              have HA5 := Lib.hid (HA4.out.below hb5)
              clear hb5
              clear z0 z1 z2 z3 z4 z5 y0 y1 y2 y3 y4 y5 x0 x1 x2 x3 x4 x5 zf0 zf1 zf2 zf3 zf4 zf5
              have z0 := blk_cell HA5.out.z 0
              have z1 := blk_cell HA5.out.z 1
              have z2 := blk_cell HA5.out.z 2
              have z3 := blk_cell HA5.out.z 3
              have z4 := blk_cell HA5.out.z 4
              have z5 := blk_cell HA5.out.z 5
              have zf0 := blk_frozen HA5.out.z 0
              have zf1 := blk_frozen HA5.out.z 1
              have zf2 := blk_frozen HA5.out.z 2
              have zf3 := blk_frozen HA5.out.z 3
              have zf4 := blk_frozen HA5.out.z 4
              have zf5 := blk_frozen HA5.out.z 5
              simp at z0 z1 z2 z3 z4 z5
              have y0 := blk_cell HA5.out.b 0
              have y1 := blk_cell HA5.out.b 1
              have y2 := blk_cell HA5.out.b 2
              have y3 := blk_cell HA5.out.b 3
              have y4 := blk_cell HA5.out.b 4
              have y5 := blk_cell HA5.out.b 5
              simp at y0 y1 y2 y3 y4 y5
              have x0 := blk_cell HA5.out.is.blk 0
              have x1 := blk_cell HA5.out.is.blk 1
              have x2 := blk_cell HA5.out.is.blk 2
              have x3 := blk_cell HA5.out.is.blk 3
              have x4 := blk_cell HA5.out.is.blk 4
              have x5 := blk_cell HA5.out.is.blk 5
              simp at x0 x1 x2 x3 x4 x5
              cases hok : cmdOk kind topic seq code pay
              · have HG9 := Lib.hid (HGM.out.trans (if_neg (by rw [hok]; decide)))
                clear hok
                go_wp2_with fail
                refine bodyPost_ret (results_ctt rfl _ _ w.heap.size 26 (cmdC 0 0 ⟨#[]⟩ 0 0 (.slice none 0 0)) (0, 0) _ rfl (put6_blk HA5.out.z 0 0 ⟨#[]⟩ 0 0 (.slice none 0 0)) Tryd.underlying26 rfl (by kernel_rfl)) rfl (HP.out _ _ ?_)
                rw [HG9.out]
                exact ⟨⟨_, rfl, own_nil _ _ _ _⟩, put6_below HA5.out.bel (Nat.le_refl _) 0 0 ⟨#[]⟩ 0 0 (.slice none 0 0)⟩
              · have HG9 := Lib.hid (HGM.out.trans (if_pos hok))
                clear hok
                go_wp2_with fail
                refine bodyPost_ret (results_ctt rfl _ _ w.heap.size 26 (cmdC kind id topic seq code (.slice A3 pay.length c3)) (0, 0) _ rfl (put6_blk HA5.out.z kind id topic seq code (.slice A3 pay.length c3)) Tryd.underlying26 rfl (by kernel_rfl)) rfl (HP.out _ _ ?_)
                rw [HG9.out]
                exact ⟨⟨_, rfl, put6_own HA5.out.is.own (own_ne HA5.out.is.own HA5.out.z (by decide)) kind id topic seq code (.slice A3 pay.length c3)⟩, put6_below HA5.out.bel (Nat.le_refl _) kind id topic seq code (.slice A3 pay.length c3)⟩
      · rw [decide_eq_false hT]
        have HGT := Lib.hid (HGS.out.trans (if_neg (fun h => hT h.1)))
        clear hT
        clear z0 z1 z2 z3 z4 z5 y0 y1 y2 y3 y4 y5 x0 x1 x2 x3 x4 x5 zf0 zf1 zf2 zf3 zf4 zf5
        have z0 := blk_cell HA.out.z 0
        have z1 := blk_cell HA.out.z 1
        have z2 := blk_cell HA.out.z 2
        have z3 := blk_cell HA.out.z 3
        have z4 := blk_cell HA.out.z 4
        have z5 := blk_cell HA.out.z 5
        have zf0 := blk_frozen HA.out.z 0
        have zf1 := blk_frozen HA.out.z 1
        have zf2 := blk_frozen HA.out.z 2
        have zf3 := blk_frozen HA.out.z 3
        have zf4 := blk_frozen HA.out.z 4
        have zf5 := blk_frozen HA.out.z 5
        simp at z0 z1 z2 z3 z4 z5
        have y0 := blk_cell HA.out.b 0
        have y1 := blk_cell HA.out.b 1
        have y2 := blk_cell HA.out.b 2
        have y3 := blk_cell HA.out.b 3
        have y4 := blk_cell HA.out.b 4
        have y5 := blk_cell HA.out.b 5
        simp at y0 y1 y2 y3 y4 y5
        have x0 := blk_cell HA.out.is.blk 0
        have x1 := blk_cell HA.out.is.blk 1
        have x2 := blk_cell HA.out.is.blk 2
        have x3 := blk_cell HA.out.is.blk 3
        have x4 := blk_cell HA.out.is.blk 4
        have x5 := blk_cell HA.out.is.blk 5
        simp at x0 x1 x2 x3 x4 x5
        by_cases hP : kind = 3 ∧ 2048 < pay.length
        · obtain ⟨hk3, hpl⟩ := hP
          have bk : (kind == 3) = true := by rw [beq_iff_eq]; exact hk3
          have bl : decide ((2048 : Int) < (pay.length : Int)) = true := by rw [decide_eq_true_iff]; omega
          have bl2 : decide (2048 < pay.length) = true := by rw [decide_eq_true_iff]; omega
          have HG5 := Lib.hid (HGT.out.trans (by rw [if_pos ⟨hk3, hpl⟩] : _ = (kind, id, (⟨#[]⟩ : ByteArray), (0 : Int), (0 : Int), ([] : List Int), (5 : Int), false)))
          clear hk3 hpl
          go_wp2_with fail
          refine bodyPost_ret (results_ctt rfl _ _ w.heap.size 26 (cmdC kind id ⟨#[]⟩ 0 0 (.slice none 0 0)) (0, 0) _ rfl (put6_blk HA.out.z kind id ⟨#[]⟩ 0 0 (.slice none 0 0)) Tryd.underlying26 rfl (by kernel_rfl)) rfl (HP.out _ _ ?_)
          rw [HG5.out]
          exact ⟨⟨_, rfl, own_nil _ _ _ _⟩, put6_below HA.out.bel (Nat.le_refl _) kind id ⟨#[]⟩ 0 0 (.slice none 0 0)⟩
        · have HGM := Lib.hid (HGT.out.trans (if_neg hP))
          have hbb : ((kind == 3) = true ∧ decide ((2048 : Int) < (pay.length : Int)) = false) ∨ (kind == 3) = false := by
            by_cases h3 : kind = 3
            · exact .inl ⟨by rw [beq_iff_eq]; exact h3, by rw [decide_eq_false_iff_not]; omega⟩
            · exact .inr (by rw [beq_eq_false_iff_ne]; exact h3)
          clear hP
          rcases hbb with ⟨bk, bl⟩ | bk
          all_goals
            go_wp2_with fail
            refine (cmay_calls _ w.heap.size kind id topic seq code pay A3 c3 HIN.out.1 HIN.out.2.1 HIN.out.2.2 (HA.out.is.own)).mono ?_
            rintro e w5 ⟨rfl, hb5⟩
            have HA5 := Lib.hid (HA.out.below hb5)
            clear hb5
            clear z0 z1 z2 z3 z4 z5 y0 y1 y2 y3 y4 y5 x0 x1 x2 x3 x4 x5 zf0 zf1 zf2 zf3 zf4 zf5
            have z0 := blk_cell HA5.out.z 0
            have z1 := blk_cell HA5.out.z 1
            have z2 := blk_cell HA5.out.z 2
            have z3 := blk_cell HA5.out.z 3
            have z4 := blk_cell HA5.out.z 4
            have z5 := blk_cell HA5.out.z 5
            have zf0 := blk_frozen HA5.out.z 0
            have zf1 := blk_frozen HA5.out.z 1
            have zf2 := blk_frozen HA5.out.z 2
            have zf3 := blk_frozen HA5.out.z 3
            have zf4 := blk_frozen HA5.out.z 4
            have zf5 := blk_frozen HA5.out.z 5
            simp at z0 z1 z2 z3 z4 z5
            have y0 := blk_cell HA5.out.b 0
            have y1 := blk_cell HA5.out.b 1
            have y2 := blk_cell HA5.out.b 2
            have y3 := blk_cell HA5.out.b 3
            have y4 := blk_cell HA5.out.b 4
            have y5 := blk_cell HA5.out.b 5
            simp at y0 y1 y2 y3 y4 y5
            have x0 := blk_cell HA5.out.is.blk 0
            have x1 := blk_cell HA5.out.is.blk 1
            have x2 := blk_cell HA5.out.is.blk 2
            have x3 := blk_cell HA5.out.is.blk 3
            have x4 := blk_cell HA5.out.is.blk 4
            have x5 := blk_cell HA5.out.is.blk 5
            simp at x0 x1 x2 x3 x4 x5
            cases hok : cmdOk kind topic seq code pay
            · have HG9 := Lib.hid (HGM.out.trans (if_neg (by rw [hok]; decide)))
              clear hok
              go_wp2_with fail
              refine bodyPost_ret (results_ctt rfl _ _ w.heap.size 26 (cmdC 0 0 ⟨#[]⟩ 0 0 (.slice none 0 0)) (0, 0) _ rfl (put6_blk HA5.out.z 0 0 ⟨#[]⟩ 0 0 (.slice none 0 0)) Tryd.underlying26 rfl (by kernel_rfl)) rfl (HP.out _ _ ?_)
              rw [HG9.out]
              exact ⟨⟨_, rfl, own_nil _ _ _ _⟩, put6_below HA5.out.bel (Nat.le_refl _) 0 0 ⟨#[]⟩ 0 0 (.slice none 0 0)⟩
            · have HG9 := Lib.hid (HGM.out.trans (if_pos hok))
              clear hok
              go_wp2_with fail
              refine bodyPost_ret (results_ctt rfl _ _ w.heap.size 26 (cmdC kind id topic seq code (.slice A3 pay.length c3)) (0, 0) _ rfl (put6_blk HA5.out.z kind id topic seq code (.slice A3 pay.length c3)) Tryd.underlying26 rfl (by kernel_rfl)) rfl (HP.out _ _ ?_)
              rw [HG9.out]
              exact ⟨⟨_, rfl, put6_own HA5.out.is.own (own_ne HA5.out.is.own HA5.out.z (by decide)) kind id topic seq code (.slice A3 pay.length c3)⟩, put6_below HA5.out.bel (Nat.le_refl _) kind id topic seq code (.slice A3 pay.length c3)⟩
end Go.Proofs.YtkgedjaihimafaaDoor

/- command.Get: its contract in the printed form. -/
namespace Go.Proofs.YtkgedjaihimafaaDoor
set_option linter.unusedVariables false
set_option linter.unusedSimpArgs false
open Go.RowKit Go.Proofs.YtkgedjaihimafaaDoorW.PrintWords Go.Proofs.YtkgedjaihimafaaDoor.QCmd Go.Proofs.YtkgedjaihimafaaDoor.Given

theorem get_calls (w : World) (A : Option Addr) (c : Nat) (l : List Int) (hl : l.length ≤ 100000) (hlc : l.length ≤ c) (hR : ReadsInt w .u8 A l.length l) (hby : Byte8 l) :
    Calls Tryd.prog 14 #[.slice A l.length c] w (GetPost w (getR l)) := by
  by_cases h5 : l.length < 5
  · have e : getR l = (0, 0, ⟨#[]⟩, 0, 0, [], 0, false) := by unfold getR; rw [if_pos h5]
    rw [e]
    exact get_short w A c l h5
  · have h4 := (split5 h5).2
    have hv := valL_bound (l := (l.take 5).drop 1) (fun y hy => hby y (List.mem_of_mem_take (List.mem_of_mem_drop hy)))
    rw [h4] at hv
    exact get_long w A c l h5 hl hlc hR hby _ rfl _ rfl hv.1 (by have := hv.2; omega) _ rfl

namespace Given
def byteB (l : List Int) : Bool := l.all fun x => decide (0 ≤ x) && decide (x ≤ 255)
theorem byteB_iff {l : List Int} : byteB l = true ↔ Byte8 l := by
  unfold byteB Byte8
  simp
def command_Get.f (l0 : List Int) : Option (Int × Int × ByteArray × Int × Int × List Int × Int × Bool) := if l0.length ≤ 100000 ∧ byteB l0 = true then some (getR l0) else none
theorem command_Get.calls (A0 : Option Addr) (c0 : Nat) (l0 : List Int) (r0 r1 : Int) (r2 : ByteArray) (r3 r4 : Int) (r5 : List Int) (r6 : Int) (r7 : Bool) (w : World) (hr0 : Kd.C (Kd.int .u8) w A0 l0.length l0) (hc0 : l0.length ≤ c0) (h : command_Get.f l0 = some (r0, r1, r2, r3, r4, r5, r6, r7)) :
    Calls Tryd.prog 14 #[.slice A0 l0.length c0] w fun e w' => ∃ v0_ : Value, e = .returned (.tuple #[.agg #[.int .u8 r0, .int .u32 r1, .string r2, .int .u64 r3, .int .u8 r4, v0_], .int .u8 r6, .bool r7]) ∧ Kd.R (Kd.int .u8) 5 w' w.heap.size (fun _ => True) v0_ r5 ∧ Below w.heap.size w w' := by
  unfold command_Get.f at h
  split at h
  · rename_i hs
    injection h with h
    have hR : ReadsInt w .u8 A0 l0.length l0 := Kd.reads_of_C (d := (0 : Int)) hr0
    refine (get_calls w A0 c0 l0 hs.1 hc0 hR (byteB_iff.1 hs.2)).mono fun e w' hp => ?_
    rw [h] at hp
    obtain ⟨⟨v, he, ho⟩, hb⟩ := hp
    exact ⟨v, he, Kd.R_of_own ho (fun _ _ => trivial), hb⟩
  · cases h
end Given
end Go.Proofs.YtkgedjaihimafaaDoor

/- Printed by a program of this claim's author (wip/pr.py); not trusted: Lean checks it. -/
namespace Go.Proofs.YtkgedjaihimafaaDoor.QCmdP
open Go.Proofs.YtkgedjaihimafaaDoor Go.Proofs.YtkgedjaihimafaaDoor.Given Go.Proofs.YtkgedjaihimafaaDoor.QCmd
open Go.RowKit Go.Proofs.YtkgedjaihimafaaDoorW.PrintWords Go.Proofs.YtkgedjaihimafaaDoorW.PrintLast Go.Proofs.YtkgedjaihimafaaDoorW.PrintMore
attribute [local go_sem] max2_int min2_int max_two min_two max_three min_three max_four min_four   -- for this text's walks alone
set_option linter.unusedVariables false
set_option linter.unusedSimpArgs false



def errW : Option Int → Value
 | none => .nilIface
 | some c => .iface 0 (.int .i64 c)
theorem errW_none : errW none = .nilIface := rfl
theorem errW_some (c : Int) : errW (some c) = .iface 0 (.int .i64 c) := rfl

theorem info5 : (Tryd.prog.info? 5).map (fun i => (i.zero, i.size, i.bytes)) = some (some (.int .u8 0), 1, 1) := by kernel_rfl
-- the values' own types

end Go.Proofs.YtkgedjaihimafaaDoor.QCmdP

/- Printed by a program of this claim's author (wip/pr.py); not trusted: Lean checks it. -/
namespace Go.Proofs.YtkgedjaihimafaaDoor.QCmdP
open Go.Proofs.YtkgedjaihimafaaDoor Go.Proofs.YtkgedjaihimafaaDoor.Given Go.Proofs.YtkgedjaihimafaaDoor.QCmd
open Go.RowKit Go.Proofs.YtkgedjaihimafaaDoorW.PrintWords Go.Proofs.YtkgedjaihimafaaDoorW.PrintLast Go.Proofs.YtkgedjaihimafaaDoorW.PrintMore
attribute [local go_sem] max2_int min2_int max_two min_two max_three min_three max_four min_four   -- for this text's walks alone
set_option linter.unusedVariables false
set_option linter.unusedSimpArgs false

-- given: function 9 (louverlaw22_great)

-- given: function 10 (louverref22_May)

-- given: function 11 (louverlaw22_fixed)

-- given: function 12 (command_Put)

-- given: function 13 (louverref22_Same)

-- given: function 14 (command_Get)

-- given: function 17 (command_May)

/-! ### command_Asks: function 18 -/
def command_Asks.f (a0_0 : Int) (a0_1 : Int) (a0_2 : ByteArray) (a0_3 : Int) (a0_4 : Int) (l0_5 : List Int) : Option (Bool) := if a0_0 ≥ 1 then (some (decide (a0_0 ≤ 3))) else (some false)
set_option maxHeartbeats 8000000 in
set_option maxRecDepth 100000 in
theorem command_Asks.calls (a0_0 : Int) (a0_1 : Int) (a0_2 : ByteArray) (a0_3 : Int) (a0_4 : Int) (A0_5 : Option Addr) (c0_5 : Nat) (l0_5 : List Int) (r : Bool) (w : World) (hr0_5 : Kd.C (Kd.int .u8) w A0_5 l0_5.length l0_5) (hc0_5 : l0_5.length ≤ c0_5) (h : command_Asks.f a0_0 a0_1 a0_2 a0_3 a0_4 l0_5 = some r) :
  Calls Tryd.prog 18 #[.agg #[.int .u8 a0_0, .int .u32 a0_1, .string a0_2, .int .u64 a0_3, .int .u8 a0_4, .slice A0_5 l0_5.length c0_5]] w fun e w' => e = .returned (.bool r) ∧ Below w.heap.size w w' := by
 have hu26 := Tryd.underlying26
 have HR0_5 := Aside0.mk hr0_5
 have HC0_5 := Aside0.mk hc0_5
 clear hr0_5 hc0_5
 have HB := Aside0.mk (Below.refl w.heap.size w)
 have H : (if a0_0 ≥ 1 then (some (decide (a0_0 ≤ 3))) else (some false)) = some r := h
 clear h
 by_cases c2 : a0_0 ≥ 1
 ·rw [if_pos c2] at H
  have c2b0 : decide (1 ≤ a0_0) = true := decide_eq_true c2
  clear c2
  obtain rfl := Option.some.inj H
  go_enter Tryd.func18, Tryd.ntmps18
  go_wp2_with (first | ((with_reducible refine gate_dst (N := 1) rfl ?_); refine box_event ?hg (N := 1) ?hd (cs := #[.int .u8 a0_0, .int .u32 a0_1, .string a0_2, .int .u64 a0_3, .int .u8 a0_4, .slice A0_5 l0_5.length c0_5]) (t := 26) ?hr ?_; (case hd => rfl); (case hg => rfl); (case hr => first | (go_simp; done) | (go_simp; rfl)); intro gb101 hg w3 hbox hb; have n0_ := Aside0.mk (below_step (by repeat (first | (with_reducible first | exact HB.out | apply below_alloc | apply pw_below_drewN | apply below_drew1) | exact HB.out)) hb); have n1_ := Aside0.mk (hbox); have n2_ := Aside0.mk ((by rw [hg]; exact (below_size (by repeat (first | (with_reducible first | exact HB.out | apply below_alloc | apply pw_below_drewN | apply below_drew1) | exact HB.out))) : w.heap.size ≤ gb101)); have n3_ := Aside0.mk ((by rw [hg]; exact (below_size (by repeat (first | (with_reducible first | exact HB.out | apply below_alloc | apply pw_below_drewN | apply below_drew1) | exact HB.out))) : w.heap.size ≤ gb101)); clear HB; have HB := n0_; have BK101 := n1_; have GW101 := n2_; have GE101 := n3_; clear n0_ n1_ n2_ n3_; clear hb hbox hg; have hcz4_0 : w3.cell? ⟨gb101, 0, none⟩ = some (.int .u8 a0_0) := (blk_cell BK101.out 0).trans rfl; have hcz4_1 : w3.cell? ⟨gb101, 1, none⟩ = some (.int .u32 a0_1) := (blk_cell BK101.out 1).trans rfl; have hcz4_2 : w3.cell? ⟨gb101, 2, none⟩ = some (.string a0_2) := (blk_cell BK101.out 2).trans rfl; have hcz4_3 : w3.cell? ⟨gb101, 3, none⟩ = some (.int .u64 a0_3) := (blk_cell BK101.out 3).trans rfl; have hcz4_4 : w3.cell? ⟨gb101, 4, none⟩ = some (.int .u8 a0_4) := (blk_cell BK101.out 4).trans rfl; have hcz4_5 : w3.cell? ⟨gb101, 5, none⟩ = some (.slice A0_5 l0_5.length c0_5) := (blk_cell BK101.out 5).trans rfl; have hfz4_0 := blk_frozen BK101.out 0; have hfz4_1 := blk_frozen BK101.out 1; have hfz4_2 := blk_frozen BK101.out 2; have hfz4_3 := blk_frozen BK101.out 3; have hfz4_4 := blk_frozen BK101.out 4; have hfz4_5 := blk_frozen BK101.out 5))
  go_ret
  exact ⟨by first | rfl | (simp [errW_none, errW_some] <;> rfl) | (simp [*, errW_none, errW_some] <;> rfl), by repeat (first | (with_reducible first | exact HB.out | apply below_alloc | apply pw_below_drewN | apply below_drew1 | refine below_set ?_ GE101.out) | exact HB.out)⟩
 ·rw [if_neg c2] at H
  have c2b0 : decide (1 ≤ a0_0) = false := decide_eq_false c2
  clear c2
  obtain rfl := Option.some.inj H
  go_enter Tryd.func18, Tryd.ntmps18
  go_wp2_with (first | ((with_reducible refine gate_dst (N := 1) rfl ?_); refine box_event ?hg (N := 1) ?hd (cs := #[.int .u8 a0_0, .int .u32 a0_1, .string a0_2, .int .u64 a0_3, .int .u8 a0_4, .slice A0_5 l0_5.length c0_5]) (t := 26) ?hr ?_; (case hd => rfl); (case hg => rfl); (case hr => first | (go_simp; done) | (go_simp; rfl)); intro gb101 hg w5 hbox hb; have n0_ := Aside0.mk (below_step (by repeat (first | (with_reducible first | exact HB.out | apply below_alloc | apply pw_below_drewN | apply below_drew1) | exact HB.out)) hb); have n1_ := Aside0.mk (hbox); have n2_ := Aside0.mk ((by rw [hg]; exact (below_size (by repeat (first | (with_reducible first | exact HB.out | apply below_alloc | apply pw_below_drewN | apply below_drew1) | exact HB.out))) : w.heap.size ≤ gb101)); have n3_ := Aside0.mk ((by rw [hg]; exact (below_size (by repeat (first | (with_reducible first | exact HB.out | apply below_alloc | apply pw_below_drewN | apply below_drew1) | exact HB.out))) : w.heap.size ≤ gb101)); clear HB; have HB := n0_; have BK101 := n1_; have GW101 := n2_; have GE101 := n3_; clear n0_ n1_ n2_ n3_; clear hb hbox hg; have hcz6_0 : w5.cell? ⟨gb101, 0, none⟩ = some (.int .u8 a0_0) := (blk_cell BK101.out 0).trans rfl; have hcz6_1 : w5.cell? ⟨gb101, 1, none⟩ = some (.int .u32 a0_1) := (blk_cell BK101.out 1).trans rfl; have hcz6_2 : w5.cell? ⟨gb101, 2, none⟩ = some (.string a0_2) := (blk_cell BK101.out 2).trans rfl; have hcz6_3 : w5.cell? ⟨gb101, 3, none⟩ = some (.int .u64 a0_3) := (blk_cell BK101.out 3).trans rfl; have hcz6_4 : w5.cell? ⟨gb101, 4, none⟩ = some (.int .u8 a0_4) := (blk_cell BK101.out 4).trans rfl; have hcz6_5 : w5.cell? ⟨gb101, 5, none⟩ = some (.slice A0_5 l0_5.length c0_5) := (blk_cell BK101.out 5).trans rfl; have hfz6_0 := blk_frozen BK101.out 0; have hfz6_1 := blk_frozen BK101.out 1; have hfz6_2 := blk_frozen BK101.out 2; have hfz6_3 := blk_frozen BK101.out 3; have hfz6_4 := blk_frozen BK101.out 4; have hfz6_5 := blk_frozen BK101.out 5))
  go_ret
  exact ⟨by first | rfl | (simp [errW_none, errW_some] <;> rfl) | (simp [*, errW_none, errW_some] <;> rfl), by repeat (first | (with_reducible first | exact HB.out | apply below_alloc | apply pw_below_drewN | apply below_drew1 | refine below_set ?_ GE101.out) | exact HB.out)⟩

/-! ### louverref07_Number: function 44 -/
def louverref07_Number.l0 : Nat → Int → Int → ByteArray → Int → Option (ByteArray)
 | 0, _, _, _, _ => none
 | k + 1, x0, x1, x5, x6 => if x6 < x1 then ((some (([(Int.tmod x0 256) % 256] : List Int) : List Int)).bind fun y102 => (if (strOfNums y102).size + x5.size ≤ 9223372036854775807 then (louverref07_Number.l0 k (IntKind.u64.wrap (Int.tdiv x0 256)) x1 ((strOfNums y102) ++ x5) (wrap64 (x6 + 1))) else (none))) else (some x5)
def louverref07_Number.f (k : Nat) (a0 : Int) (a1 : Int) : Option (ByteArray) := louverref07_Number.l0 k a0 a1 (⟨#[]⟩ : ByteArray) 0
theorem louverref07_Number.mono_l : ∀ k, (∀ y0 y1 y2 y3, LeO (louverref07_Number.l0 k y0 y1 y2 y3) (louverref07_Number.l0 (k + 1) y0 y1 y2 y3))
 | 0 => fun _ _ _ _ r h => by simp [louverref07_Number.l0] at h
 | k + 1 => by
  have ih0 := louverref07_Number.mono_l k
  ·intro y0 y1 y2 y3
   unfold louverref07_Number.l0
   repeat' first
   | (with_reducible exact ih0 _ _ _ _)
   | (with_reducible exact LeO.refl _)
   | (with_reducible exact LeO.none _)
   | (with_reducible refine LeO.ite ?_ ?_)
   | (with_reducible refine LeO.bind ?_ (fun _ => ?_))
   | exact ih0 _ _ _ _
   | exact LeO.none _
   | refine LeO.ite ?_ ?_
   | refine LeO.bind ?_ (fun _ => ?_)
theorem louverref07_Number.mono : ∀ a0 a1 k, LeO (louverref07_Number.f k a0 a1) (louverref07_Number.f (k + 1) a0 a1) := by
 intro a0 a1 k
 have ih0 := louverref07_Number.mono_l k
 unfold louverref07_Number.f
 repeat' first
   | (with_reducible exact ih0 _ _ _ _)
   | (with_reducible exact LeO.refl _)
   | (with_reducible exact LeO.none _)
   | (with_reducible refine LeO.ite ?_ ?_)
   | (with_reducible refine LeO.bind ?_ (fun _ => ?_))
   | exact ih0 _ _ _ _
   | exact LeO.none _
   | refine LeO.ite ?_ ?_
   | refine LeO.bind ?_ (fun _ => ?_)
set_option maxHeartbeats 8000000 in
set_option maxRecDepth 100000 in
theorem louverref07_Number.calls (k : Nat) (a0 : Int) (a1 : Int) (r : ByteArray) (w : World) (h : louverref07_Number.f k a0 a1 = some r) :
  Calls Tryd.prog 44 #[.int .u64 a0, .int .i64 a1] w fun e w' => e = .returned (.string r) ∧ Below w.heap.size w w' := by
 have HB := Aside0.mk (Below.refl w.heap.size w)
 have H : (louverref07_Number.l0 k a0 a1 (⟨#[]⟩ : ByteArray) 0) = some r := h
 clear h
 have H' := Aside0.mk H
 clear H
 go_enter Tryd.func44, Tryd.ntmps44
 go_wp2
 go_loopg [0, 5, 6] k (fun kq v0 v5 v6 w' => ∃ (x0_1 : Int) (x5_1 : ByteArray) (x6_1 : Int), v0 = .int .u64 x0_1 ∧ v5 = .string x5_1 ∧ v6 = .int .i64 x6_1 ∧ Aside0 (louverref07_Number.l0 kq x0_1 a1 x5_1 x6_1 = some r) ∧ Aside0 (kq ≤ k) ∧ Aside0 (Below w.heap.size w w'))
 case atStart => exact ⟨(a0), ((⟨#[]⟩ : ByteArray)), (0), (by first | rfl | (simp; done) | (simp [*]; done)), (by first | rfl | (simp; done) | (simp [*]; done)), (by first | rfl | (simp; done) | (simp [*]; done)), H', ⟨Nat.le_refl _⟩, ⟨by repeat (first | (with_reducible first | exact HB.out | apply below_alloc | apply pw_below_drewN | apply below_drew1) | exact HB.out)⟩⟩
 case round =>
  clear H'
  try clear p2
  obtain ⟨x0_1, x5_1, x6_1, rfl, rfl, rfl, HA, HK1, HB⟩ := hrel
  cases gk with
  | zero => exact absurd HA.out (by simp [louverref07_Number.l0])
  | succ k1 =>
   have H := HA.out
   clear HA
   simp only [louverref07_Number.l0] at H
   by_cases c3 : x6_1 < a1
   ·rw [if_pos c3] at H
    have c3b0 : decide (x6_1 < a1) = true := decide_eq_true c3
    clear c3
    obtain ⟨y102, hy102⟩ : ∃ y_ : List Int, y_ = (([(Int.tmod x0_1 256) % 256] : List Int)) := ⟨_, rfl⟩
    replace H : (if (strOfNums y102).size + x5_1.size ≤ 9223372036854775807 then (louverref07_Number.l0 k1 (IntKind.u64.wrap (Int.tdiv x0_1 256)) a1 ((strOfNums y102) ++ x5_1) (wrap64 (x6_1 + 1))) else (none)) = some r := by first | (rw [hy102]; with_reducible exact H) | (have H2_ := (Option.bind_some _ _).symm.trans H; rw [hy102]; with_reducible exact H2_) | (have H2_ := (Option.bind_some _ _).symm.trans H; with_reducible exact H2_) | with_reducible exact H | (rw [hy102]; exact H) | exact H
    have Ny102 := Aside0.mk hy102
    clear hy102
    by_cases c4 : (strOfNums y102).size + x5_1.size ≤ 9223372036854775807
    ·rw [if_pos c4] at H
     have c4b0 := eq_true c4
     have c4b1 : decide ((strOfNums y102).size + x5_1.size ≤ 9223372036854775807) = true := decide_eq_true c4
     try have c4b2 : (9223372036854775807 < (strOfNums y102).size + x5_1.size) = False := eq_false (Nat.not_lt.2 c4)
     have H' := Aside0.mk H
     clear H
     go_wp2_with (first | ((with_reducible refine gate_dst (N := 15) rfl ?_); refine Kd.R_lit (Kd.int .u8) _ 5 ?hg (N := 15) ?hd (xs := ([(Int.tmod x0_1 256) % 256] : List Int)) (inner := [.int .u8 ((Int.tmod x0_1 256) % 256)]) (ok := fun _ => True) (okp := fun _ => True) ?hr ?hp (fun _ hk => hk) trivial (Below.refl _ _) (Nat.le_refl _) (by simp) ?_; (case hd => rfl); (case hg => rfl); (case hr => first | (go_simp; done) | (go_simp; rfl)); (case hp => exact (Reps.one (show Kd.M (Kd.int .u8) _ _ _ ((Int.tmod x0_1 256) % 256) [.int .u8 ((Int.tmod x0_1 256) % 256)] from rfl) (Reps.none _ _))); intro v103 w5 ho6 hb hg_ hnew_; clear hg_ hnew_; (first | rw [← Ny102.out] at ho6 | (simp only [Int.reduceToNat] at ho6; rw [← Ny102.out] at ho6)); have n0_ := Aside0.mk (Kd.R_lower ho6 (below_size (by repeat (first | (with_reducible first | exact HB.out | apply below_alloc | apply pw_below_drewN | apply below_drew1) | exact HB.out)))); have n1_ := Aside0.mk (below_step (by repeat (first | (with_reducible first | exact HB.out | apply below_alloc | apply pw_below_drewN | apply below_drew1) | exact HB.out)) hb); clear HB; have HO104 := n0_; have HB := n1_; clear n0_ n1_; clear hb ho6; have hcv7 := own_string (P := Tryd.prog) Tryd.underlying24 Tryd.underlying5 Tryd.underlying9 (Kd.own_of_R HO104.out)))
     go_roundg k1
     case measure => have := HK1.out; omega
     case rel => exact ⟨(IntKind.u64.wrap (Int.tdiv x0_1 256)), ((strOfNums y102) ++ x5_1), (wrap64 (x6_1 + 1)), (by first | rfl | (simp; done) | (simp [*]; done)), (by first | rfl | (simp; done) | (simp [*]; done)), (by first | rfl | (simp; done) | (simp [*]; done)), H', ⟨by have := HK1.out; omega⟩, ⟨by repeat (first | (with_reducible first | exact HB.out | apply below_alloc | apply pw_below_drewN | apply below_drew1) | exact HB.out)⟩⟩
    ·rw [if_neg c4] at H
     exact absurd H (by simp)
   ·rw [if_neg c3] at H
    have c3b0 : decide (x6_1 < a1) = false := decide_eq_false c3
    clear c3
    obtain rfl := Option.some.inj H
    go_wp2
    go_ret
    exact ⟨by first | rfl | (simp [errW_none, errW_some] <;> rfl) | (simp [*, errW_none, errW_some] <;> rfl), by repeat (first | (with_reducible first | exact HB.out | apply below_alloc | apply pw_below_drewN | apply below_drew1) | exact HB.out)⟩

end Go.Proofs.YtkgedjaihimafaaDoor.QCmdP

/- Printed by a program of this claim's author (wip/pr.py); not trusted: Lean checks it. -/
namespace Go.Proofs.YtkgedjaihimafaaDoor.QCmdP
open Go.Proofs.YtkgedjaihimafaaDoor Go.Proofs.YtkgedjaihimafaaDoor.Given Go.Proofs.YtkgedjaihimafaaDoor.QCmd
open Go.RowKit Go.Proofs.YtkgedjaihimafaaDoorW.PrintWords Go.Proofs.YtkgedjaihimafaaDoorW.PrintLast Go.Proofs.YtkgedjaihimafaaDoorW.PrintMore
attribute [local go_sem] max2_int min2_int max_two min_two max_three min_three max_four min_four   -- for this text's walks alone
set_option linter.unusedVariables false
set_option linter.unusedSimpArgs false

/-! ### louverref22_Put: function 19 -/
def louverref22_Put.j0 : Nat → ByteArray → Int → Bool → Int → Int → ByteArray → Int → Int → List Int → Option (ByteArray)
 | 0, _, _, _, _, _, _, _, _, _ => none
 | k + 1, x3, x14, x34, x106000, x106001, x106002, x106003, x106004, x106005 => if x34 = true then ((louverref07_Number.f k x106003 8).bind fun t113 => (if x3.size + t113.size ≤ 9223372036854775807 then (if (x3 ++ t113).size + (strOfNums x106005).size ≤ 9223372036854775807 then (some ((x3 ++ t113) ++ (strOfNums x106005))) else (none)) else (none))) else (if x14 = 8 then ((some (([x106004] : List Int) : List Int)).bind fun y114 => (if x3.size + (strOfNums y114).size ≤ 9223372036854775807 then (if (x3 ++ (strOfNums y114)).size + (strOfNums x106005).size ≤ 9223372036854775807 then (some ((x3 ++ (strOfNums y114)) ++ (strOfNums x106005))) else (none)) else (none))) else (if x3.size + (strOfNums x106005).size ≤ 9223372036854775807 then (some (x3 ++ (strOfNums x106005))) else (none)))
def louverref22_Put.f (k : Nat) (a0_0 : Int) (a0_1 : Int) (a0_2 : ByteArray) (a0_3 : Int) (a0_4 : Int) (l0_5 : List Int) : Option (ByteArray) := (some (([a0_0] : List Int) : List Int)).bind fun y106 => ((louverref07_Number.f k (IntKind.u64.wrap (a0_1)) 4).bind fun t109 => (if (strOfNums y106).size + t109.size ≤ 9223372036854775807 then (if a0_0 = 1 then (if ((strOfNums y106) ++ t109).size + a0_2.size ≤ 9223372036854775807 then (if (((strOfNums y106) ++ t109) ++ a0_2).size + (strOfNums l0_5).size ≤ 9223372036854775807 then (some ((((strOfNums y106) ++ t109) ++ a0_2) ++ (strOfNums l0_5))) else (none)) else (none)) else (if a0_0 = 3 then ((some (([((a0_2.size : Int)) % 256] : List Int) : List Int)).bind fun y110 => (if ((strOfNums y106) ++ t109).size + (strOfNums y110).size ≤ 9223372036854775807 then (if (((strOfNums y106) ++ t109) ++ (strOfNums y110)).size + a0_2.size ≤ 9223372036854775807 then (if ((((strOfNums y106) ++ t109) ++ (strOfNums y110)) ++ a0_2).size + (strOfNums l0_5).size ≤ 9223372036854775807 then (some (((((strOfNums y106) ++ t109) ++ (strOfNums y110)) ++ a0_2) ++ (strOfNums l0_5))) else (none)) else (none)) else (none))) else (if a0_0 = 4 then (louverref22_Put.j0 k ((strOfNums y106) ++ t109) a0_0 (a0_0 == 4) a0_0 a0_1 a0_2 a0_3 a0_4 l0_5) else (if a0_0 = 5 then (louverref22_Put.j0 k ((strOfNums y106) ++ t109) a0_0 (a0_0 == 5) a0_0 a0_1 a0_2 a0_3 a0_4 l0_5) else (if a0_0 = 6 then (louverref22_Put.j0 k ((strOfNums y106) ++ t109) a0_0 (a0_0 == 6) a0_0 a0_1 a0_2 a0_3 a0_4 l0_5) else (louverref22_Put.j0 k ((strOfNums y106) ++ t109) a0_0 (a0_0 == 7) a0_0 a0_1 a0_2 a0_3 a0_4 l0_5)))))) else (none)))
theorem louverref22_Put.mono_l : ∀ k, (∀ y0 y1 y2 y3 y4 y5 y6 y7 y8, LeO (louverref22_Put.j0 k y0 y1 y2 y3 y4 y5 y6 y7 y8) (louverref22_Put.j0 (k + 1) y0 y1 y2 y3 y4 y5 y6 y7 y8))
 | 0 => fun _ _ _ _ _ _ _ _ _ r h => by simp [louverref22_Put.j0] at h
 | k + 1 => by
  have ih0 := louverref22_Put.mono_l k
  ·intro y0 y1 y2 y3 y4 y5 y6 y7 y8
   unfold louverref22_Put.j0
   repeat' first
   | (with_reducible exact ih0 _ _ _ _ _ _ _ _ _)
   | (with_reducible exact louverref07_Number.mono _ _ _)
   | (with_reducible exact LeO.refl _)
   | (with_reducible exact LeO.none _)
   | (with_reducible refine LeO.ite ?_ ?_)
   | (with_reducible refine LeO.bind ?_ (fun _ => ?_))
   | exact ih0 _ _ _ _ _ _ _ _ _
   | exact louverref07_Number.mono _ _ _
   | exact LeO.none _
   | refine LeO.ite ?_ ?_
   | refine LeO.bind ?_ (fun _ => ?_)
theorem louverref22_Put.mono : ∀ a0 a1 a2 a3 a4 a5 k, LeO (louverref22_Put.f k a0 a1 a2 a3 a4 a5) (louverref22_Put.f (k + 1) a0 a1 a2 a3 a4 a5) := by
 intro a0 a1 a2 a3 a4 a5 k
 have ih0 := louverref22_Put.mono_l k
 unfold louverref22_Put.f
 repeat' first
   | (with_reducible exact ih0 _ _ _ _ _ _ _ _ _)
   | (with_reducible exact louverref07_Number.mono _ _ _)
   | (with_reducible exact LeO.refl _)
   | (with_reducible exact LeO.none _)
   | (with_reducible refine LeO.ite ?_ ?_)
   | (with_reducible refine LeO.bind ?_ (fun _ => ?_))
   | exact ih0 _ _ _ _ _ _ _ _ _
   | exact louverref07_Number.mono _ _ _
   | exact LeO.none _
   | refine LeO.ite ?_ ?_
   | refine LeO.bind ?_ (fun _ => ?_)
def louverref22_Put.T1 : Bool × List (List Nat × List Nat) := (true, [([], []), ([0], [0]), ([1], [1]), ([2], [2]), ([], []), ([4], [4]), ([5], [5]), ([6], [6]), ([3, 7], [3, 7]), ([8, 7, 0, 1, 2, 3, 4, 5, 6, 7, 8], [8])])
def louverref22_Put.B1 : List Nat := [0, 1, 3, 7, 0, 16, 48, 112, 255, 511]
theorem louverref22_Put.tab1 : rtab .any (opsOf Tryd.f19 1) = louverref22_Put.T1 := by kernel_rfl
theorem louverref22_Put.bits1 : waitsOk louverref22_Put.T1.2 louverref22_Put.B1 = true := by kernel_rfl
set_option maxHeartbeats 8000000 in
set_option maxRecDepth 100000 in
theorem louverref22_Put.calls (k : Nat) (a0_0 : Int) (a0_1 : Int) (a0_2 : ByteArray) (a0_3 : Int) (a0_4 : Int) (A0_5 : Option Addr) (c0_5 : Nat) (l0_5 : List Int) (r : ByteArray) (w : World) (hr0_5 : Kd.C (Kd.int .u8) w A0_5 l0_5.length l0_5) (hc0_5 : l0_5.length ≤ c0_5) (h : louverref22_Put.f k a0_0 a0_1 a0_2 a0_3 a0_4 l0_5 = some r) :
  Calls Tryd.prog 19 #[.agg #[.int .u8 a0_0, .int .u32 a0_1, .string a0_2, .int .u64 a0_3, .int .u8 a0_4, .slice A0_5 l0_5.length c0_5]] w fun e w' => e = .returned (.string r) ∧ Below w.heap.size w w' := by
 have hu26 := Tryd.underlying26
 have HR0_5 := Aside0.mk hr0_5
 have HC0_5 := Aside0.mk hc0_5
 clear hr0_5 hc0_5
 have HB := Aside0.mk (Below.refl w.heap.size w)
 have H : ((some (([a0_0] : List Int) : List Int)).bind fun y106 => ((louverref07_Number.f k (IntKind.u64.wrap (a0_1)) 4).bind fun t109 => (if (strOfNums y106).size + t109.size ≤ 9223372036854775807 then (if a0_0 = 1 then (if ((strOfNums y106) ++ t109).size + a0_2.size ≤ 9223372036854775807 then (if (((strOfNums y106) ++ t109) ++ a0_2).size + (strOfNums l0_5).size ≤ 9223372036854775807 then (some ((((strOfNums y106) ++ t109) ++ a0_2) ++ (strOfNums l0_5))) else (none)) else (none)) else (if a0_0 = 3 then ((some (([((a0_2.size : Int)) % 256] : List Int) : List Int)).bind fun y110 => (if ((strOfNums y106) ++ t109).size + (strOfNums y110).size ≤ 9223372036854775807 then (if (((strOfNums y106) ++ t109) ++ (strOfNums y110)).size + a0_2.size ≤ 9223372036854775807 then (if ((((strOfNums y106) ++ t109) ++ (strOfNums y110)) ++ a0_2).size + (strOfNums l0_5).size ≤ 9223372036854775807 then (some (((((strOfNums y106) ++ t109) ++ (strOfNums y110)) ++ a0_2) ++ (strOfNums l0_5))) else (none)) else (none)) else (none))) else (if a0_0 = 4 then (louverref22_Put.j0 k ((strOfNums y106) ++ t109) a0_0 (a0_0 == 4) a0_0 a0_1 a0_2 a0_3 a0_4 l0_5) else (if a0_0 = 5 then (louverref22_Put.j0 k ((strOfNums y106) ++ t109) a0_0 (a0_0 == 5) a0_0 a0_1 a0_2 a0_3 a0_4 l0_5) else (if a0_0 = 6 then (louverref22_Put.j0 k ((strOfNums y106) ++ t109) a0_0 (a0_0 == 6) a0_0 a0_1 a0_2 a0_3 a0_4 l0_5) else (louverref22_Put.j0 k ((strOfNums y106) ++ t109) a0_0 (a0_0 == 7) a0_0 a0_1 a0_2 a0_3 a0_4 l0_5)))))) else (none)))) = some r := h
 clear h
 obtain ⟨y106, hy106⟩ : ∃ y_ : List Int, y_ = (([a0_0] : List Int)) := ⟨_, rfl⟩
 replace H : ((louverref07_Number.f k (IntKind.u64.wrap (a0_1)) 4).bind fun t109 => (if (strOfNums y106).size + t109.size ≤ 9223372036854775807 then (if a0_0 = 1 then (if ((strOfNums y106) ++ t109).size + a0_2.size ≤ 9223372036854775807 then (if (((strOfNums y106) ++ t109) ++ a0_2).size + (strOfNums l0_5).size ≤ 9223372036854775807 then (some ((((strOfNums y106) ++ t109) ++ a0_2) ++ (strOfNums l0_5))) else (none)) else (none)) else (if a0_0 = 3 then ((some (([((a0_2.size : Int)) % 256] : List Int) : List Int)).bind fun y110 => (if ((strOfNums y106) ++ t109).size + (strOfNums y110).size ≤ 9223372036854775807 then (if (((strOfNums y106) ++ t109) ++ (strOfNums y110)).size + a0_2.size ≤ 9223372036854775807 then (if ((((strOfNums y106) ++ t109) ++ (strOfNums y110)) ++ a0_2).size + (strOfNums l0_5).size ≤ 9223372036854775807 then (some (((((strOfNums y106) ++ t109) ++ (strOfNums y110)) ++ a0_2) ++ (strOfNums l0_5))) else (none)) else (none)) else (none))) else (if a0_0 = 4 then (louverref22_Put.j0 k ((strOfNums y106) ++ t109) a0_0 (a0_0 == 4) a0_0 a0_1 a0_2 a0_3 a0_4 l0_5) else (if a0_0 = 5 then (louverref22_Put.j0 k ((strOfNums y106) ++ t109) a0_0 (a0_0 == 5) a0_0 a0_1 a0_2 a0_3 a0_4 l0_5) else (if a0_0 = 6 then (louverref22_Put.j0 k ((strOfNums y106) ++ t109) a0_0 (a0_0 == 6) a0_0 a0_1 a0_2 a0_3 a0_4 l0_5) else (louverref22_Put.j0 k ((strOfNums y106) ++ t109) a0_0 (a0_0 == 7) a0_0 a0_1 a0_2 a0_3 a0_4 l0_5)))))) else (none))) = some r := by first | (rw [hy106]; with_reducible exact H) | (have H2_ := (Option.bind_some _ _).symm.trans H; rw [hy106]; with_reducible exact H2_) | (have H2_ := (Option.bind_some _ _).symm.trans H; with_reducible exact H2_) | with_reducible exact H | (rw [hy106]; exact H) | exact H
 have Ny106 := Aside0.mk hy106
 clear hy106
 replace H := Option.bind_eq_some_iff.mp H
 obtain ⟨t109, A20, H⟩ := H
 replace H : (if (strOfNums y106).size + t109.size ≤ 9223372036854775807 then (if a0_0 = 1 then (if ((strOfNums y106) ++ t109).size + a0_2.size ≤ 9223372036854775807 then (if (((strOfNums y106) ++ t109) ++ a0_2).size + (strOfNums l0_5).size ≤ 9223372036854775807 then (some ((((strOfNums y106) ++ t109) ++ a0_2) ++ (strOfNums l0_5))) else (none)) else (none)) else (if a0_0 = 3 then ((some (([((a0_2.size : Int)) % 256] : List Int) : List Int)).bind fun y110 => (if ((strOfNums y106) ++ t109).size + (strOfNums y110).size ≤ 9223372036854775807 then (if (((strOfNums y106) ++ t109) ++ (strOfNums y110)).size + a0_2.size ≤ 9223372036854775807 then (if ((((strOfNums y106) ++ t109) ++ (strOfNums y110)) ++ a0_2).size + (strOfNums l0_5).size ≤ 9223372036854775807 then (some (((((strOfNums y106) ++ t109) ++ (strOfNums y110)) ++ a0_2) ++ (strOfNums l0_5))) else (none)) else (none)) else (none))) else (if a0_0 = 4 then (louverref22_Put.j0 k ((strOfNums y106) ++ t109) a0_0 (a0_0 == 4) a0_0 a0_1 a0_2 a0_3 a0_4 l0_5) else (if a0_0 = 5 then (louverref22_Put.j0 k ((strOfNums y106) ++ t109) a0_0 (a0_0 == 5) a0_0 a0_1 a0_2 a0_3 a0_4 l0_5) else (if a0_0 = 6 then (louverref22_Put.j0 k ((strOfNums y106) ++ t109) a0_0 (a0_0 == 6) a0_0 a0_1 a0_2 a0_3 a0_4 l0_5) else (louverref22_Put.j0 k ((strOfNums y106) ++ t109) a0_0 (a0_0 == 7) a0_0 a0_1 a0_2 a0_3 a0_4 l0_5)))))) else (none)) = some r := H
 have A2 := Aside0.mk A20
 clear A20
 by_cases c3 : (strOfNums y106).size + t109.size ≤ 9223372036854775807
 ·rw [if_pos c3] at H
  have c3b0 := eq_true c3
  have c3b1 : decide ((strOfNums y106).size + t109.size ≤ 9223372036854775807) = true := decide_eq_true c3
  try have c3b2 : (9223372036854775807 < (strOfNums y106).size + t109.size) = False := eq_false (Nat.not_lt.2 c3)
  by_cases c4 : a0_0 = 1
  ·rw [if_pos c4] at H
   have c4b0 : (a0_0 == 1) = true := beq_iff_eq.mpr c4
   have c4b1 : (a0_0 != 1) = false := bne_eq_false_iff_eq.mpr c4
   clear c4
   by_cases c5 : ((strOfNums y106) ++ t109).size + a0_2.size ≤ 9223372036854775807
   ·rw [if_pos c5] at H
    have c5b0 := eq_true c5
    have c5b1 : decide (((strOfNums y106) ++ t109).size + a0_2.size ≤ 9223372036854775807) = true := decide_eq_true c5
    try have c5b2 : (9223372036854775807 < ((strOfNums y106) ++ t109).size + a0_2.size) = False := eq_false (Nat.not_lt.2 c5)
    try (have c5b2s := c5b2; simp only [ByteArray.size_append] at c5b2s)
    by_cases c6 : (((strOfNums y106) ++ t109) ++ a0_2).size + (strOfNums l0_5).size ≤ 9223372036854775807
    ·rw [if_pos c6] at H
     have c6b0 := eq_true c6
     have c6b1 : decide ((((strOfNums y106) ++ t109) ++ a0_2).size + (strOfNums l0_5).size ≤ 9223372036854775807) = true := decide_eq_true c6
     try have c6b2 : (9223372036854775807 < (((strOfNums y106) ++ t109) ++ a0_2).size + (strOfNums l0_5).size) = False := eq_false (Nat.not_lt.2 c6)
     try (have c6b2s := c6b2; simp only [ByteArray.size_append] at c6b2s)
     obtain rfl := Option.some.inj H
     go_enter Tryd.func19, Tryd.ntmps19
     try go_wp2_with (first | ((with_reducible refine gate_dst (N := 1) rfl ?_); refine box_event ?hg (N := 1) ?hd (cs := #[.int .u8 a0_0, .int .u32 a0_1, .string a0_2, .int .u64 a0_3, .int .u8 a0_4, .slice A0_5 l0_5.length c0_5]) (t := 26) ?hr ?_; (case hd => rfl); (case hg => rfl); (case hr => first | (go_simp; done) | (go_simp; rfl)); intro gb105 hg w7 hbox hb; have n0_ := Aside0.mk (below_step (by repeat (first | (with_reducible first | exact HB.out | apply below_alloc | apply pw_below_drewN | apply below_drew1) | exact HB.out)) hb); have n1_ := Aside0.mk (hbox); have n2_ := Aside0.mk ((by rw [hg]; exact (below_size (by repeat (first | (with_reducible first | exact HB.out | apply below_alloc | apply pw_below_drewN | apply below_drew1) | exact HB.out))) : w.heap.size ≤ gb105)); have n3_ := Aside0.mk ((by rw [hg]; exact (below_size (by repeat (first | (with_reducible first | exact HB.out | apply below_alloc | apply pw_below_drewN | apply below_drew1) | exact HB.out))) : w.heap.size ≤ gb105)); clear HB; have HB := n0_; have BK105 := n1_; have GW105 := n2_; have GE105 := n3_; clear n0_ n1_ n2_ n3_; clear hb hbox hg))
     have n0_ := Aside0.mk (blk_drew BK105.out)
     have n1_ := Aside0.mk (below_drew1 HB.out)
     clear BK105
     clear HB
     have BK105 := n0_
     have HB := n1_
     clear n0_ n1_
     refine start_ (n := 10) (S := fun w' => w'.cell? ⟨gb105, 0, none⟩ = some (.int .u8 a0_0) ∧ w'.cell? ⟨gb105, 1, none⟩ = some (.int .u32 a0_1) ∧ w'.cell? ⟨gb105, 2, none⟩ = some (.string a0_2) ∧ w'.cell? ⟨gb105, 3, none⟩ = some (.int .u64 a0_3) ∧ w'.cell? ⟨gb105, 4, none⟩ = some (.int .u8 a0_4) ∧ w'.cell? ⟨gb105, 5, none⟩ = some (.slice A0_5 l0_5.length c0_5)) (ds := []) #[false, false, false, false, false, false, false, false, false, false] (by kernel_rfl) rfl rfl ⟨(blk_cell BK105.out 0).trans rfl, (blk_cell BK105.out 1).trans rfl, (blk_cell BK105.out 2).trans rfl, (blk_cell BK105.out 3).trans rfl, (blk_cell BK105.out 4).trans rfl, (blk_cell BK105.out 5).trans rfl⟩ (fun hHeld => ?_); refine with_tabW louverref22_Put.tab1 louverref22_Put.bits1 (fun HT_ HW_ => ?_)
     generalize w7.drew = w8 at BK105 HB hHeld ⊢
     refine pure_ (i := 0) (N := some 4) (v := ?_) (a' := ?_) #[true, false, false, false, false, false, false, false, false, false] rfl rfl (any_of HT_.out (by kernel_rfl)) (fun _ _ _ h => h) (Or.inl ⟨by rfl, ?_⟩) ?_ ?_
     rotate_left
     ·intro w'
      go_simp
      with_reducible rfl
     rotate_left
     ·simp only [Act.put, List.setIfInBounds_toArray, List.set_cons_zero, List.set_cons_succ, i64_w, i32_w]
      rfl
     refine pure_ (i := 4) (N := some 8) (v := ?_) (a' := ?_) #[true, false, false, false, true, false, false, false, false, false] rfl rfl (any_of HT_.out (by kernel_rfl)) (fun _ _ _ h => h) (Or.inl ⟨by rfl, ?_⟩) ?_ ?_
     rotate_left
     ·intro w'
      go_simp
      with_reducible rfl
     rotate_left
     ·simp only [Act.put, List.setIfInBounds_toArray, List.set_cons_zero, List.set_cons_succ, i64_w, i32_w]
      rfl
     refine take_ (i := 1) (N := some 5) (v := ?_) (a' := ?_) #[true, true, false, false, true, false, false, false, false, false] rfl rfl (take_ofW HT_.out HW_.out (by kernel_rfl)) (fun _ _ _ h => h) (Or.inl ⟨by rfl, ?_⟩) hHeld ?_ ?_
     rotate_left
     ·rintro w' ⟨s0, s1, s2, s3, s4, s5⟩
      go_simp
      with_reducible rfl
     rotate_left
     ·simp only [Act.put, List.setIfInBounds_toArray, List.set_cons_zero, List.set_cons_succ, i64_w, i32_w]
      rfl
     refine take_ (i := 5) (N := some 9) (v := ?_) (a' := ?_) #[true, true, false, false, true, true, false, false, false, false] rfl rfl (take_ofW HT_.out HW_.out (by kernel_rfl)) (fun _ _ _ h => h) (Or.inl ⟨by rfl, ?_⟩) hHeld ?_ ?_
     rotate_left
     ·rintro w' ⟨s0, s1, s2, s3, s4, s5⟩
      go_simp
      with_reducible rfl
     rotate_left
     ·simp only [Act.put, List.setIfInBounds_toArray, List.set_cons_zero, List.set_cons_succ, i64_w, i32_w]
      rfl
     refine pure_ (i := 6) (N := some 10) (v := ?_) (a' := ?_) #[true, true, false, false, true, true, true, false, false, false] rfl rfl (any_of HT_.out (by kernel_rfl)) (fun _ _ _ h => h) (Or.inl ⟨by rfl, ?_⟩) ?_ ?_
     rotate_left
     ·intro w'
      go_simp
      with_reducible rfl
     rotate_left
     ·simp only [Act.put, List.setIfInBounds_toArray, List.set_cons_zero, List.set_cons_succ, i64_w, i32_w]
      rfl
     refine join_ (σ := Value) 2 #[true, true, true, true, true, true, true, true, false, false] (fun s_ => [(6, s_), (7, .string (strOfNums y106)), (11, .string t109)]) (fun s_ w' => (w'.cell? ⟨gb105, 0, none⟩ = some (.int .u8 a0_0) ∧ w'.cell? ⟨gb105, 1, none⟩ = some (.int .u32 a0_1) ∧ w'.cell? ⟨gb105, 2, none⟩ = some (.string a0_2) ∧ w'.cell? ⟨gb105, 3, none⟩ = some (.int .u64 a0_3) ∧ w'.cell? ⟨gb105, 4, none⟩ = some (.int .u8 a0_4) ∧ w'.cell? ⟨gb105, 5, none⟩ = some (.slice A0_5 l0_5.length c0_5)) ∧ (Kd.R (Kd.int .u8) 5 w' w.heap.size (fun _ => True) s_ y106) ∧ (w'.heap[gb105]? = some (.cells #[.int .u8 a0_0, .int .u32 a0_1, .string a0_2, .int .u64 a0_3, .int .u8 a0_4, .slice A0_5 l0_5.length c0_5] 26 (0, 0))) ∧ (Below w.heap.size w w')) ?_ ?_
     rotate_left
     ·intro hCont
      refine two_ (i := 2) (j := 7) (Ni := some 6) (Nj := some 11) #[true, true, true, false, true, true, true, false, false, false] #[true, true, false, false, true, true, true, true, false, false] rfl rfl rfl rfl (two_of HT_.out (by kernel_rfl)) (by decide) (by decide) (fun K hK => ?_) (fun K hK => ?_)
      ·skip
       refine Kd.R_lit_step (Kd.int .u8) _ 5 ?hg (N := 6) ?hd (xs := ([a0_0] : List Int)) (inner := [.int .u8 a0_0]) (ok := fun _ => True) (okp := fun _ => True) ?hr ?hp (fun _ hk => hk) trivial (Below.refl _ _) (Nat.le_refl _) (by simp) ?_; (case hd => rfl); (case hg => rfl); (case hr => first | (go_simp; done) | (go_simp; rfl)); (case hp => exact (Reps.one (show Kd.M (Kd.int .u8) _ _ _ a0_0 [.int .u8 a0_0] from rfl) (Reps.none _ _)))
       intro v107 w9 ho10 hb hg_ hnew_
       clear hg_ hnew_
       (first | rw [← Ny106.out] at ho10 | (simp only [Int.reduceToNat] at ho10; rw [← Ny106.out] at ho10))
       have n0_ := Aside0.mk (Kd.R_lower ho10 (below_size (by repeat (first | (with_reducible first | exact HB.out | apply below_alloc | apply pw_below_drewN | apply below_drew1 | refine below_set ?_ GE105.out) | exact HB.out))))
       have n1_ := Aside0.mk (blk_below (g := gb105) (o := .cells #[.int .u8 a0_0, .int .u32 a0_1, .string a0_2, .int .u64 a0_3, .int .u8 a0_4, .slice A0_5 l0_5.length c0_5] 26 (0, 0)) (by (with_reducible repeat (first | refine blk_drewN ?_ _ | refine blk_drew ?_ | refine blk_alloc ?_ _)); exact BK105.out) hb)
       have n2_ := Aside0.mk (below_step (by repeat (first | (with_reducible first | exact HB.out | apply below_alloc | apply pw_below_drewN | apply below_drew1 | refine below_set ?_ GE105.out) | exact HB.out)) hb)
       clear BK105
       clear HB
       have HO108 := n0_
       have BK105 := n1_
       have HB := n2_
       clear n0_ n1_ n2_
       clear hb ho10
       refine hK.out _ _ ⟨(blk_cell BK105.out 0).trans rfl, (blk_cell BK105.out 1).trans rfl, (blk_cell BK105.out 2).trans rfl, (blk_cell BK105.out 3).trans rfl, (blk_cell BK105.out 4).trans rfl, (blk_cell BK105.out 5).trans rfl⟩ (fun hHeld => ?_)
       clear hK K
       refine norm_ (a' := ?_) ?_ ?_
       rotate_left
       ·show Act.put _ (some 6) _ = _
        simp only [Act.put, List.setIfInBounds_toArray, List.set_cons_zero, List.set_cons_succ, i64_w, i32_w]
        rfl
       refine two_ (i := 3) (j := 7) (Ni := some 7) (Nj := some 11) #[true, true, true, true, true, true, true, false, false, false] #[true, true, true, false, true, true, true, true, false, false] rfl rfl rfl rfl (two_of HT_.out (by kernel_rfl)) (by decide) (by decide) (fun K hK => ?_) (fun K hK => ?_)
       ·skip
        have hcv11 := own_string (P := Tryd.prog) Tryd.underlying24 Tryd.underlying5 Tryd.underlying9 (Kd.own_of_R HO108.out)
        refine value_ (w1 := ?_) (v := ?_) (by rfl) rfl ?_ ?_
        rotate_left 2
        ·go_simp
         constructor
         ·rfl
         ·rfl
        clear hcv11
        refine hK.out _ _ ⟨(blk_cell BK105.out 0).trans rfl, (blk_cell BK105.out 1).trans rfl, (blk_cell BK105.out 2).trans rfl, (blk_cell BK105.out 3).trans rfl, (blk_cell BK105.out 4).trans rfl, (blk_cell BK105.out 5).trans rfl⟩ (fun hHeld => ?_)
        clear hK K
        refine norm_ (a' := ?_) ?_ ?_
        rotate_left
        ·show Act.put _ (some 7) _ = _
         simp only [Act.put, List.setIfInBounds_toArray, List.set_cons_zero, List.set_cons_succ, i64_w, i32_w]
         rfl
        refine one_ (i := 7) (N := some 11) #[true, true, true, true, true, true, true, true, false, false] rfl rfl (one_of HT_.out (by kernel_rfl)) (by decide) (fun K hK => ?_)
        refine goes_ Tryd.func44 (by kernel_rfl) rfl #[.int .u64 (IntKind.u64.wrap (a0_1)), .int .i64 4] (by rfl) rfl rfl (by (try simp only [List.map_toArray, List.map_cons, List.map_nil]); first | done | rfl | (simp only [List.length_drop, List.length_take]; rfl)) ?_
        with_reducible refine (louverref07_Number.calls k (IntKind.u64.wrap (a0_1)) 4 t109 _ A2.out).mono ?_
        rintro e w12 ⟨rfl, hb⟩
        refine ⟨_, rfl, ?_⟩
        have n0_ := Aside0.mk (Kd.R_below (by (with_reducible repeat (first | apply Kd.R_alloc | apply Kd.R_drewN | apply Kd.R_drew)); exact HO108.out) hb)
        have n1_ := Aside0.mk (blk_below (g := gb105) (o := .cells #[.int .u8 a0_0, .int .u32 a0_1, .string a0_2, .int .u64 a0_3, .int .u8 a0_4, .slice A0_5 l0_5.length c0_5] 26 (0, 0)) (by (with_reducible repeat (first | refine blk_drewN ?_ _ | refine blk_drew ?_ | refine blk_alloc ?_ _)); exact BK105.out) hb)
        have n2_ := Aside0.mk (below_step (by repeat (first | (with_reducible first | exact HB.out | apply below_alloc | apply pw_below_drewN | apply below_drew1 | refine below_set ?_ GE105.out) | exact HB.out)) hb)
        clear HO108
        clear BK105
        clear HB
        have HO108 := n0_
        have BK105 := n1_
        have HB := n2_
        clear n0_ n1_ n2_
        (try clear hb)
        (try clear hb2)
        (try clear hk)
        (try clear hi)
        refine hK.out _ _ ⟨(blk_cell BK105.out 0).trans rfl, (blk_cell BK105.out 1).trans rfl, (blk_cell BK105.out 2).trans rfl, (blk_cell BK105.out 3).trans rfl, (blk_cell BK105.out 4).trans rfl, (blk_cell BK105.out 5).trans rfl⟩ (fun hHeld => ?_)
        clear hK K
        refine norm_ (a' := ?_) ?_ ?_
        rotate_left
        ·show Act.put _ (some 11) _ = _
         simp only [Act.put, List.setIfInBounds_toArray, List.set_cons_zero, List.set_cons_succ, i64_w, i32_w]
         rfl
        exact norm_ (by simp only [putAll, Act.put, List.setIfInBounds_toArray, List.set_cons_zero, List.set_cons_succ]) (hCont (v107) _ ⟨hHeld, (by (with_reducible repeat (first | apply Kd.R_alloc | apply Kd.R_drewN | apply Kd.R_drew)); exact HO108.out), (by (with_reducible repeat (first | refine blk_drewN ?_ _ | refine blk_drew ?_ | refine blk_alloc ?_ _)); exact BK105.out), (by repeat (first | (with_reducible first | exact HB.out | apply below_alloc | apply pw_below_drewN | apply below_drew1 | refine below_set ?_ GE105.out) | exact HB.out))⟩)
       ·skip
        refine goes_ Tryd.func44 (by kernel_rfl) rfl #[.int .u64 (IntKind.u64.wrap (a0_1)), .int .i64 4] (by rfl) rfl rfl (by (try simp only [List.map_toArray, List.map_cons, List.map_nil]); first | done | rfl | (simp only [List.length_drop, List.length_take]; rfl)) ?_
        with_reducible refine (louverref07_Number.calls k (IntKind.u64.wrap (a0_1)) 4 t109 _ A2.out).mono ?_
        rintro e w11 ⟨rfl, hb⟩
        refine ⟨_, rfl, ?_⟩
        have n0_ := Aside0.mk (Kd.R_below (by (with_reducible repeat (first | apply Kd.R_alloc | apply Kd.R_drewN | apply Kd.R_drew)); exact HO108.out) hb)
        have n1_ := Aside0.mk (blk_below (g := gb105) (o := .cells #[.int .u8 a0_0, .int .u32 a0_1, .string a0_2, .int .u64 a0_3, .int .u8 a0_4, .slice A0_5 l0_5.length c0_5] 26 (0, 0)) (by (with_reducible repeat (first | refine blk_drewN ?_ _ | refine blk_drew ?_ | refine blk_alloc ?_ _)); exact BK105.out) hb)
        have n2_ := Aside0.mk (below_step (by repeat (first | (with_reducible first | exact HB.out | apply below_alloc | apply pw_below_drewN | apply below_drew1 | refine below_set ?_ GE105.out) | exact HB.out)) hb)
        clear HO108
        clear BK105
        clear HB
        have HO108 := n0_
        have BK105 := n1_
        have HB := n2_
        clear n0_ n1_ n2_
        (try clear hb)
        (try clear hb2)
        (try clear hk)
        (try clear hi)
        refine hK.out _ _ ⟨(blk_cell BK105.out 0).trans rfl, (blk_cell BK105.out 1).trans rfl, (blk_cell BK105.out 2).trans rfl, (blk_cell BK105.out 3).trans rfl, (blk_cell BK105.out 4).trans rfl, (blk_cell BK105.out 5).trans rfl⟩ (fun hHeld => ?_)
        clear hK K
        refine norm_ (a' := ?_) ?_ ?_
        rotate_left
        ·show Act.put _ (some 11) _ = _
         simp only [Act.put, List.setIfInBounds_toArray, List.set_cons_zero, List.set_cons_succ, i64_w, i32_w]
         rfl
        refine one_ (i := 3) (N := some 7) #[true, true, true, true, true, true, true, true, false, false] rfl rfl (one_of HT_.out (by kernel_rfl)) (by decide) (fun K hK => ?_)
        have hcv12 := own_string (P := Tryd.prog) Tryd.underlying24 Tryd.underlying5 Tryd.underlying9 (Kd.own_of_R HO108.out)
        refine value_ (w1 := ?_) (v := ?_) (by rfl) rfl ?_ ?_
        rotate_left 2
        ·go_simp
         constructor
         ·rfl
         ·rfl
        clear hcv12
        refine hK.out _ _ ⟨(blk_cell BK105.out 0).trans rfl, (blk_cell BK105.out 1).trans rfl, (blk_cell BK105.out 2).trans rfl, (blk_cell BK105.out 3).trans rfl, (blk_cell BK105.out 4).trans rfl, (blk_cell BK105.out 5).trans rfl⟩ (fun hHeld => ?_)
        clear hK K
        refine norm_ (a' := ?_) ?_ ?_
        rotate_left
        ·show Act.put _ (some 7) _ = _
         simp only [Act.put, List.setIfInBounds_toArray, List.set_cons_zero, List.set_cons_succ, i64_w, i32_w]
         rfl
        exact norm_ (by simp only [putAll, Act.put, List.setIfInBounds_toArray, List.set_cons_zero, List.set_cons_succ]) (hCont (v107) _ ⟨hHeld, (by (with_reducible repeat (first | apply Kd.R_alloc | apply Kd.R_drewN | apply Kd.R_drew)); exact HO108.out), (by (with_reducible repeat (first | refine blk_drewN ?_ _ | refine blk_drew ?_ | refine blk_alloc ?_ _)); exact BK105.out), (by repeat (first | (with_reducible first | exact HB.out | apply below_alloc | apply pw_below_drewN | apply below_drew1 | refine below_set ?_ GE105.out) | exact HB.out))⟩)
      ·skip
       refine goes_ Tryd.func44 (by kernel_rfl) rfl #[.int .u64 (IntKind.u64.wrap (a0_1)), .int .i64 4] (by rfl) rfl rfl (by (try simp only [List.map_toArray, List.map_cons, List.map_nil]); first | done | rfl | (simp only [List.length_drop, List.length_take]; rfl)) ?_
       with_reducible refine (louverref07_Number.calls k (IntKind.u64.wrap (a0_1)) 4 t109 _ A2.out).mono ?_
       rintro e w9 ⟨rfl, hb⟩
       refine ⟨_, rfl, ?_⟩
       have n0_ := Aside0.mk (blk_below (g := gb105) (o := .cells #[.int .u8 a0_0, .int .u32 a0_1, .string a0_2, .int .u64 a0_3, .int .u8 a0_4, .slice A0_5 l0_5.length c0_5] 26 (0, 0)) (by (with_reducible repeat (first | refine blk_drewN ?_ _ | refine blk_drew ?_ | refine blk_alloc ?_ _)); exact BK105.out) hb)
       have n1_ := Aside0.mk (below_step (by repeat (first | (with_reducible first | exact HB.out | apply below_alloc | apply pw_below_drewN | apply below_drew1 | refine below_set ?_ GE105.out) | exact HB.out)) hb)
       clear BK105
       clear HB
       have BK105 := n0_
       have HB := n1_
       clear n0_ n1_
       (try clear hb)
       (try clear hb2)
       (try clear hk)
       (try clear hi)
       refine hK.out _ _ ⟨(blk_cell BK105.out 0).trans rfl, (blk_cell BK105.out 1).trans rfl, (blk_cell BK105.out 2).trans rfl, (blk_cell BK105.out 3).trans rfl, (blk_cell BK105.out 4).trans rfl, (blk_cell BK105.out 5).trans rfl⟩ (fun hHeld => ?_)
       clear hK K
       refine norm_ (a' := ?_) ?_ ?_
       rotate_left
       ·show Act.put _ (some 11) _ = _
        simp only [Act.put, List.setIfInBounds_toArray, List.set_cons_zero, List.set_cons_succ, i64_w, i32_w]
        rfl
       refine one_ (i := 2) (N := some 6) #[true, true, true, false, true, true, true, true, false, false] rfl rfl (one_of HT_.out (by kernel_rfl)) (by decide) (fun K hK => ?_)
       refine Kd.R_lit_step (Kd.int .u8) _ 5 ?hg (N := 6) ?hd (xs := ([a0_0] : List Int)) (inner := [.int .u8 a0_0]) (ok := fun _ => True) (okp := fun _ => True) ?hr ?hp (fun _ hk => hk) trivial (Below.refl _ _) (Nat.le_refl _) (by simp) ?_; (case hd => rfl); (case hg => rfl); (case hr => first | (go_simp; done) | (go_simp; rfl)); (case hp => exact (Reps.one (show Kd.M (Kd.int .u8) _ _ _ a0_0 [.int .u8 a0_0] from rfl) (Reps.none _ _)))
       intro v107 w10 ho11 hb hg_ hnew_
       clear hg_ hnew_
       (first | rw [← Ny106.out] at ho11 | (simp only [Int.reduceToNat] at ho11; rw [← Ny106.out] at ho11))
       have n0_ := Aside0.mk (Kd.R_lower ho11 (below_size (by repeat (first | (with_reducible first | exact HB.out | apply below_alloc | apply pw_below_drewN | apply below_drew1 | refine below_set ?_ GE105.out) | exact HB.out))))
       have n1_ := Aside0.mk (blk_below (g := gb105) (o := .cells #[.int .u8 a0_0, .int .u32 a0_1, .string a0_2, .int .u64 a0_3, .int .u8 a0_4, .slice A0_5 l0_5.length c0_5] 26 (0, 0)) (by (with_reducible repeat (first | refine blk_drewN ?_ _ | refine blk_drew ?_ | refine blk_alloc ?_ _)); exact BK105.out) hb)
       have n2_ := Aside0.mk (below_step (by repeat (first | (with_reducible first | exact HB.out | apply below_alloc | apply pw_below_drewN | apply below_drew1 | refine below_set ?_ GE105.out) | exact HB.out)) hb)
       clear BK105
       clear HB
       have HO108 := n0_
       have BK105 := n1_
       have HB := n2_
       clear n0_ n1_ n2_
       clear hb ho11
       refine hK.out _ _ ⟨(blk_cell BK105.out 0).trans rfl, (blk_cell BK105.out 1).trans rfl, (blk_cell BK105.out 2).trans rfl, (blk_cell BK105.out 3).trans rfl, (blk_cell BK105.out 4).trans rfl, (blk_cell BK105.out 5).trans rfl⟩ (fun hHeld => ?_)
       clear hK K
       refine norm_ (a' := ?_) ?_ ?_
       rotate_left
       ·show Act.put _ (some 6) _ = _
        simp only [Act.put, List.setIfInBounds_toArray, List.set_cons_zero, List.set_cons_succ, i64_w, i32_w]
        rfl
       refine one_ (i := 3) (N := some 7) #[true, true, true, true, true, true, true, true, false, false] rfl rfl (one_of HT_.out (by kernel_rfl)) (by decide) (fun K hK => ?_)
       have hcv12 := own_string (P := Tryd.prog) Tryd.underlying24 Tryd.underlying5 Tryd.underlying9 (Kd.own_of_R HO108.out)
       refine value_ (w1 := ?_) (v := ?_) (by rfl) rfl ?_ ?_
       rotate_left 2
       ·go_simp
        constructor
        ·rfl
        ·rfl
       clear hcv12
       refine hK.out _ _ ⟨(blk_cell BK105.out 0).trans rfl, (blk_cell BK105.out 1).trans rfl, (blk_cell BK105.out 2).trans rfl, (blk_cell BK105.out 3).trans rfl, (blk_cell BK105.out 4).trans rfl, (blk_cell BK105.out 5).trans rfl⟩ (fun hHeld => ?_)
       clear hK K
       refine norm_ (a' := ?_) ?_ ?_
       rotate_left
       ·show Act.put _ (some 7) _ = _
        simp only [Act.put, List.setIfInBounds_toArray, List.set_cons_zero, List.set_cons_succ, i64_w, i32_w]
        rfl
       exact norm_ (by simp only [putAll, Act.put, List.setIfInBounds_toArray, List.set_cons_zero, List.set_cons_succ]) (hCont (v107) _ ⟨hHeld, (by (with_reducible repeat (first | apply Kd.R_alloc | apply Kd.R_drewN | apply Kd.R_drew)); exact HO108.out), (by (with_reducible repeat (first | refine blk_drewN ?_ _ | refine blk_drew ?_ | refine blk_alloc ?_ _)); exact BK105.out), (by repeat (first | (with_reducible first | exact HB.out | apply below_alloc | apply pw_below_drewN | apply below_drew1 | refine below_set ?_ GE105.out) | exact HB.out))⟩)
     rintro v107 w13 ⟨hS_, h0_, h1_, h2_⟩
     have n0_ : Aside0 (Kd.R (Kd.int .u8) 5 w13 w.heap.size (fun _ => True) v107 y106) := ⟨h0_⟩
     have n1_ : Aside0 (w13.heap[gb105]? = some (.cells #[.int .u8 a0_0, .int .u32 a0_1, .string a0_2, .int .u64 a0_3, .int .u8 a0_4, .slice A0_5 l0_5.length c0_5] 26 (0, 0))) := ⟨h1_⟩
     have n2_ : Aside0 (Below w.heap.size w w13) := ⟨h2_⟩
     clear BK105
     clear HB
     clear h0_ h1_ h2_
     have HO108 := n0_
     have BK105 := n1_
     have HB := n2_
     clear n0_ n1_ n2_
     have hHeld : w13.cell? ⟨gb105, 0, none⟩ = some (.int .u8 a0_0) ∧ w13.cell? ⟨gb105, 1, none⟩ = some (.int .u32 a0_1) ∧ w13.cell? ⟨gb105, 2, none⟩ = some (.string a0_2) ∧ w13.cell? ⟨gb105, 3, none⟩ = some (.int .u64 a0_3) ∧ w13.cell? ⟨gb105, 4, none⟩ = some (.int .u8 a0_4) ∧ w13.cell? ⟨gb105, 5, none⟩ = some (.slice A0_5 l0_5.length c0_5) := hS_
     refine norm_ (a' := ?_) ?_ ?_
     rotate_left
     ·simp only [putAll, Act.put, List.setIfInBounds_toArray, List.set_cons_zero, List.set_cons_succ]
      rfl
     refine pure_ (i := 8) (N := some 12) (v := ?_) (a' := ?_) #[true, true, true, true, true, true, true, true, true, false] rfl rfl (any_of HT_.out (by kernel_rfl)) (fun _ _ _ h => h) (Or.inl ⟨by rfl, ?_⟩) ?_ ?_
     rotate_left
     ·intro w'
      go_simp
      with_reducible rfl
     rotate_left
     ·simp only [Act.put, List.setIfInBounds_toArray, List.set_cons_zero, List.set_cons_succ, i64_w, i32_w]
      rfl
     refine pure_ (i := 9) (N := some 3) (v := ?_) (a' := ?_) #[true, true, true, true, true, true, true, true, true, true] rfl rfl (any_of HT_.out (by kernel_rfl)) (fun _ _ _ h => h) (Or.inl ⟨by rfl, ?_⟩) ?_ ?_
     rotate_left
     ·intro w'
      go_simp
      with_reducible rfl
     rotate_left
     ·simp only [Act.put, List.setIfInBounds_toArray, List.set_cons_zero, List.set_cons_succ, i64_w, i32_w]
      rfl
     refine done_ (done_of HT_.out (by kernel_rfl)) ?_
     have hcz14_0 : w13.cell? ⟨gb105, 0, none⟩ = some (.int .u8 a0_0) := (blk_cell BK105.out 0).trans rfl
     have hcz14_1 : w13.cell? ⟨gb105, 1, none⟩ = some (.int .u32 a0_1) := (blk_cell BK105.out 1).trans rfl
     have hcz14_2 : w13.cell? ⟨gb105, 2, none⟩ = some (.string a0_2) := (blk_cell BK105.out 2).trans rfl
     have hcz14_3 : w13.cell? ⟨gb105, 3, none⟩ = some (.int .u64 a0_3) := (blk_cell BK105.out 3).trans rfl
     have hcz14_4 : w13.cell? ⟨gb105, 4, none⟩ = some (.int .u8 a0_4) := (blk_cell BK105.out 4).trans rfl
     have hcz14_5 : w13.cell? ⟨gb105, 5, none⟩ = some (.slice A0_5 l0_5.length c0_5) := (blk_cell BK105.out 5).trans rfl
     have hfz14_0 := blk_frozen BK105.out 0
     have hfz14_1 := blk_frozen BK105.out 1
     have hfz14_2 := blk_frozen BK105.out 2
     have hfz14_3 := blk_frozen BK105.out 3
     have hfz14_4 := blk_frozen BK105.out 4
     have hfz14_5 := blk_frozen BK105.out 5
     have hcv15 := Kd.C_string (P := Tryd.prog) (A := A0_5) (c := c0_5) Tryd.underlying24 Tryd.underlying5 Tryd.underlying9 (Kd.C_below HR0_5.out HB.out)
     try go_wp2
     go_ret
     exact ⟨by first | rfl | (simp [errW_none, errW_some] <;> rfl) | (simp [*, errW_none, errW_some] <;> rfl), by repeat (first | (with_reducible first | exact HB.out | apply below_alloc | apply pw_below_drewN | apply below_drew1 | refine below_set ?_ GE105.out) | exact HB.out)⟩
    ·rw [if_neg c6] at H
     exact absurd H (by simp)
   ·rw [if_neg c5] at H
    exact absurd H (by simp)
  ·rw [if_neg c4] at H
   have c4b0 : (a0_0 == 1) = false := beq_eq_false_iff_ne.mpr c4
   have c4b1 : (a0_0 != 1) = true := bne_iff_ne.mpr c4
   by_cases c16 : a0_0 = 3
   ·rw [if_pos c16] at H
    have c16b0 : (a0_0 == 3) = true := beq_iff_eq.mpr c16
    have c16b1 : (a0_0 != 3) = false := bne_eq_false_iff_eq.mpr c16
    clear c16
    obtain ⟨y110, hy110⟩ : ∃ y_ : List Int, y_ = (([((a0_2.size : Int)) % 256] : List Int)) := ⟨_, rfl⟩
    replace H : (if ((strOfNums y106) ++ t109).size + (strOfNums y110).size ≤ 9223372036854775807 then (if (((strOfNums y106) ++ t109) ++ (strOfNums y110)).size + a0_2.size ≤ 9223372036854775807 then (if ((((strOfNums y106) ++ t109) ++ (strOfNums y110)) ++ a0_2).size + (strOfNums l0_5).size ≤ 9223372036854775807 then (some (((((strOfNums y106) ++ t109) ++ (strOfNums y110)) ++ a0_2) ++ (strOfNums l0_5))) else (none)) else (none)) else (none)) = some r := by first | (rw [hy110]; with_reducible exact H) | (have H2_ := (Option.bind_some _ _).symm.trans H; rw [hy110]; with_reducible exact H2_) | (have H2_ := (Option.bind_some _ _).symm.trans H; with_reducible exact H2_) | with_reducible exact H | (rw [hy110]; exact H) | exact H
    have Ny110 := Aside0.mk hy110
    clear hy110
    by_cases c17 : ((strOfNums y106) ++ t109).size + (strOfNums y110).size ≤ 9223372036854775807
    ·rw [if_pos c17] at H
     have c17b0 := eq_true c17
     have c17b1 : decide (((strOfNums y106) ++ t109).size + (strOfNums y110).size ≤ 9223372036854775807) = true := decide_eq_true c17
     try have c17b2 : (9223372036854775807 < ((strOfNums y106) ++ t109).size + (strOfNums y110).size) = False := eq_false (Nat.not_lt.2 c17)
     try (have c17b2s := c17b2; simp only [ByteArray.size_append] at c17b2s)
     by_cases c18 : (((strOfNums y106) ++ t109) ++ (strOfNums y110)).size + a0_2.size ≤ 9223372036854775807
     ·rw [if_pos c18] at H
      have c18b0 := eq_true c18
      have c18b1 : decide ((((strOfNums y106) ++ t109) ++ (strOfNums y110)).size + a0_2.size ≤ 9223372036854775807) = true := decide_eq_true c18
      try have c18b2 : (9223372036854775807 < (((strOfNums y106) ++ t109) ++ (strOfNums y110)).size + a0_2.size) = False := eq_false (Nat.not_lt.2 c18)
      try (have c18b2s := c18b2; simp only [ByteArray.size_append] at c18b2s)
      by_cases c19 : ((((strOfNums y106) ++ t109) ++ (strOfNums y110)) ++ a0_2).size + (strOfNums l0_5).size ≤ 9223372036854775807
      ·rw [if_pos c19] at H
       have c19b0 := eq_true c19
       have c19b1 : decide (((((strOfNums y106) ++ t109) ++ (strOfNums y110)) ++ a0_2).size + (strOfNums l0_5).size ≤ 9223372036854775807) = true := decide_eq_true c19
       try have c19b2 : (9223372036854775807 < ((((strOfNums y106) ++ t109) ++ (strOfNums y110)) ++ a0_2).size + (strOfNums l0_5).size) = False := eq_false (Nat.not_lt.2 c19)
       try (have c19b2s := c19b2; simp only [ByteArray.size_append] at c19b2s)
       obtain rfl := Option.some.inj H
       go_enter Tryd.func19, Tryd.ntmps19
       try go_wp2_with (first | ((with_reducible refine gate_dst (N := 1) rfl ?_); refine box_event ?hg (N := 1) ?hd (cs := #[.int .u8 a0_0, .int .u32 a0_1, .string a0_2, .int .u64 a0_3, .int .u8 a0_4, .slice A0_5 l0_5.length c0_5]) (t := 26) ?hr ?_; (case hd => rfl); (case hg => rfl); (case hr => first | (go_simp; done) | (go_simp; rfl)); intro gb105 hg w20 hbox hb; have n0_ := Aside0.mk (below_step (by repeat (first | (with_reducible first | exact HB.out | apply below_alloc | apply pw_below_drewN | apply below_drew1) | exact HB.out)) hb); have n1_ := Aside0.mk (hbox); have n2_ := Aside0.mk ((by rw [hg]; exact (below_size (by repeat (first | (with_reducible first | exact HB.out | apply below_alloc | apply pw_below_drewN | apply below_drew1) | exact HB.out))) : w.heap.size ≤ gb105)); have n3_ := Aside0.mk ((by rw [hg]; exact (below_size (by repeat (first | (with_reducible first | exact HB.out | apply below_alloc | apply pw_below_drewN | apply below_drew1) | exact HB.out))) : w.heap.size ≤ gb105)); clear HB; have HB := n0_; have BK105 := n1_; have GW105 := n2_; have GE105 := n3_; clear n0_ n1_ n2_ n3_; clear hb hbox hg))
       have n0_ := Aside0.mk (blk_drew BK105.out)
       have n1_ := Aside0.mk (below_drew1 HB.out)
       clear BK105
       clear HB
       have BK105 := n0_
       have HB := n1_
       clear n0_ n1_
       refine start_ (n := 10) (S := fun w' => w'.cell? ⟨gb105, 0, none⟩ = some (.int .u8 a0_0) ∧ w'.cell? ⟨gb105, 1, none⟩ = some (.int .u32 a0_1) ∧ w'.cell? ⟨gb105, 2, none⟩ = some (.string a0_2) ∧ w'.cell? ⟨gb105, 3, none⟩ = some (.int .u64 a0_3) ∧ w'.cell? ⟨gb105, 4, none⟩ = some (.int .u8 a0_4) ∧ w'.cell? ⟨gb105, 5, none⟩ = some (.slice A0_5 l0_5.length c0_5)) (ds := []) #[false, false, false, false, false, false, false, false, false, false] (by kernel_rfl) rfl rfl ⟨(blk_cell BK105.out 0).trans rfl, (blk_cell BK105.out 1).trans rfl, (blk_cell BK105.out 2).trans rfl, (blk_cell BK105.out 3).trans rfl, (blk_cell BK105.out 4).trans rfl, (blk_cell BK105.out 5).trans rfl⟩ (fun hHeld => ?_); refine with_tabW louverref22_Put.tab1 louverref22_Put.bits1 (fun HT_ HW_ => ?_)
       generalize w20.drew = w21 at BK105 HB hHeld ⊢
       refine pure_ (i := 0) (N := some 4) (v := ?_) (a' := ?_) #[true, false, false, false, false, false, false, false, false, false] rfl rfl (any_of HT_.out (by kernel_rfl)) (fun _ _ _ h => h) (Or.inl ⟨by rfl, ?_⟩) ?_ ?_
       rotate_left
       ·intro w'
        go_simp
        with_reducible rfl
       rotate_left
       ·simp only [Act.put, List.setIfInBounds_toArray, List.set_cons_zero, List.set_cons_succ, i64_w, i32_w]
        rfl
       refine pure_ (i := 4) (N := some 8) (v := ?_) (a' := ?_) #[true, false, false, false, true, false, false, false, false, false] rfl rfl (any_of HT_.out (by kernel_rfl)) (fun _ _ _ h => h) (Or.inl ⟨by rfl, ?_⟩) ?_ ?_
       rotate_left
       ·intro w'
        go_simp
        with_reducible rfl
       rotate_left
       ·simp only [Act.put, List.setIfInBounds_toArray, List.set_cons_zero, List.set_cons_succ, i64_w, i32_w]
        rfl
       refine take_ (i := 1) (N := some 5) (v := ?_) (a' := ?_) #[true, true, false, false, true, false, false, false, false, false] rfl rfl (take_ofW HT_.out HW_.out (by kernel_rfl)) (fun _ _ _ h => h) (Or.inl ⟨by rfl, ?_⟩) hHeld ?_ ?_
       rotate_left
       ·rintro w' ⟨s0, s1, s2, s3, s4, s5⟩
        go_simp
        with_reducible rfl
       rotate_left
       ·simp only [Act.put, List.setIfInBounds_toArray, List.set_cons_zero, List.set_cons_succ, i64_w, i32_w]
        rfl
       refine take_ (i := 5) (N := some 9) (v := ?_) (a' := ?_) #[true, true, false, false, true, true, false, false, false, false] rfl rfl (take_ofW HT_.out HW_.out (by kernel_rfl)) (fun _ _ _ h => h) (Or.inl ⟨by rfl, ?_⟩) hHeld ?_ ?_
       rotate_left
       ·rintro w' ⟨s0, s1, s2, s3, s4, s5⟩
        go_simp
        with_reducible rfl
       rotate_left
       ·simp only [Act.put, List.setIfInBounds_toArray, List.set_cons_zero, List.set_cons_succ, i64_w, i32_w]
        rfl
       refine pure_ (i := 6) (N := some 10) (v := ?_) (a' := ?_) #[true, true, false, false, true, true, true, false, false, false] rfl rfl (any_of HT_.out (by kernel_rfl)) (fun _ _ _ h => h) (Or.inl ⟨by rfl, ?_⟩) ?_ ?_
       rotate_left
       ·intro w'
        go_simp
        with_reducible rfl
       rotate_left
       ·simp only [Act.put, List.setIfInBounds_toArray, List.set_cons_zero, List.set_cons_succ, i64_w, i32_w]
        rfl
       refine join_ (σ := Value) 2 #[true, true, true, true, true, true, true, true, false, false] (fun s_ => [(6, s_), (7, .string (strOfNums y106)), (11, .string t109)]) (fun s_ w' => (w'.cell? ⟨gb105, 0, none⟩ = some (.int .u8 a0_0) ∧ w'.cell? ⟨gb105, 1, none⟩ = some (.int .u32 a0_1) ∧ w'.cell? ⟨gb105, 2, none⟩ = some (.string a0_2) ∧ w'.cell? ⟨gb105, 3, none⟩ = some (.int .u64 a0_3) ∧ w'.cell? ⟨gb105, 4, none⟩ = some (.int .u8 a0_4) ∧ w'.cell? ⟨gb105, 5, none⟩ = some (.slice A0_5 l0_5.length c0_5)) ∧ (Kd.R (Kd.int .u8) 5 w' w.heap.size (fun _ => True) s_ y106) ∧ (w'.heap[gb105]? = some (.cells #[.int .u8 a0_0, .int .u32 a0_1, .string a0_2, .int .u64 a0_3, .int .u8 a0_4, .slice A0_5 l0_5.length c0_5] 26 (0, 0))) ∧ (Below w.heap.size w w')) ?_ ?_
       rotate_left
       ·intro hCont
        refine two_ (i := 2) (j := 7) (Ni := some 6) (Nj := some 11) #[true, true, true, false, true, true, true, false, false, false] #[true, true, false, false, true, true, true, true, false, false] rfl rfl rfl rfl (two_of HT_.out (by kernel_rfl)) (by decide) (by decide) (fun K hK => ?_) (fun K hK => ?_)
        ·skip
         refine Kd.R_lit_step (Kd.int .u8) _ 5 ?hg (N := 6) ?hd (xs := ([a0_0] : List Int)) (inner := [.int .u8 a0_0]) (ok := fun _ => True) (okp := fun _ => True) ?hr ?hp (fun _ hk => hk) trivial (Below.refl _ _) (Nat.le_refl _) (by simp) ?_; (case hd => rfl); (case hg => rfl); (case hr => first | (go_simp; done) | (go_simp; rfl)); (case hp => exact (Reps.one (show Kd.M (Kd.int .u8) _ _ _ a0_0 [.int .u8 a0_0] from rfl) (Reps.none _ _)))
         intro v107 w22 ho23 hb hg_ hnew_
         clear hg_ hnew_
         (first | rw [← Ny106.out] at ho23 | (simp only [Int.reduceToNat] at ho23; rw [← Ny106.out] at ho23))
         have n0_ := Aside0.mk (Kd.R_lower ho23 (below_size (by repeat (first | (with_reducible first | exact HB.out | apply below_alloc | apply pw_below_drewN | apply below_drew1 | refine below_set ?_ GE105.out) | exact HB.out))))
         have n1_ := Aside0.mk (blk_below (g := gb105) (o := .cells #[.int .u8 a0_0, .int .u32 a0_1, .string a0_2, .int .u64 a0_3, .int .u8 a0_4, .slice A0_5 l0_5.length c0_5] 26 (0, 0)) (by (with_reducible repeat (first | refine blk_drewN ?_ _ | refine blk_drew ?_ | refine blk_alloc ?_ _)); exact BK105.out) hb)
         have n2_ := Aside0.mk (below_step (by repeat (first | (with_reducible first | exact HB.out | apply below_alloc | apply pw_below_drewN | apply below_drew1 | refine below_set ?_ GE105.out) | exact HB.out)) hb)
         clear BK105
         clear HB
         have HO108 := n0_
         have BK105 := n1_
         have HB := n2_
         clear n0_ n1_ n2_
         clear hb ho23
         refine hK.out _ _ ⟨(blk_cell BK105.out 0).trans rfl, (blk_cell BK105.out 1).trans rfl, (blk_cell BK105.out 2).trans rfl, (blk_cell BK105.out 3).trans rfl, (blk_cell BK105.out 4).trans rfl, (blk_cell BK105.out 5).trans rfl⟩ (fun hHeld => ?_)
         clear hK K
         refine norm_ (a' := ?_) ?_ ?_
         rotate_left
         ·show Act.put _ (some 6) _ = _
          simp only [Act.put, List.setIfInBounds_toArray, List.set_cons_zero, List.set_cons_succ, i64_w, i32_w]
          rfl
         refine two_ (i := 3) (j := 7) (Ni := some 7) (Nj := some 11) #[true, true, true, true, true, true, true, false, false, false] #[true, true, true, false, true, true, true, true, false, false] rfl rfl rfl rfl (two_of HT_.out (by kernel_rfl)) (by decide) (by decide) (fun K hK => ?_) (fun K hK => ?_)
         ·skip
          have hcv24 := own_string (P := Tryd.prog) Tryd.underlying24 Tryd.underlying5 Tryd.underlying9 (Kd.own_of_R HO108.out)
          refine value_ (w1 := ?_) (v := ?_) (by rfl) rfl ?_ ?_
          rotate_left 2
          ·go_simp
           constructor
           ·rfl
           ·rfl
          clear hcv24
          refine hK.out _ _ ⟨(blk_cell BK105.out 0).trans rfl, (blk_cell BK105.out 1).trans rfl, (blk_cell BK105.out 2).trans rfl, (blk_cell BK105.out 3).trans rfl, (blk_cell BK105.out 4).trans rfl, (blk_cell BK105.out 5).trans rfl⟩ (fun hHeld => ?_)
          clear hK K
          refine norm_ (a' := ?_) ?_ ?_
          rotate_left
          ·show Act.put _ (some 7) _ = _
           simp only [Act.put, List.setIfInBounds_toArray, List.set_cons_zero, List.set_cons_succ, i64_w, i32_w]
           rfl
          refine one_ (i := 7) (N := some 11) #[true, true, true, true, true, true, true, true, false, false] rfl rfl (one_of HT_.out (by kernel_rfl)) (by decide) (fun K hK => ?_)
          refine goes_ Tryd.func44 (by kernel_rfl) rfl #[.int .u64 (IntKind.u64.wrap (a0_1)), .int .i64 4] (by rfl) rfl rfl (by (try simp only [List.map_toArray, List.map_cons, List.map_nil]); first | done | rfl | (simp only [List.length_drop, List.length_take]; rfl)) ?_
          with_reducible refine (louverref07_Number.calls k (IntKind.u64.wrap (a0_1)) 4 t109 _ A2.out).mono ?_
          rintro e w25 ⟨rfl, hb⟩
          refine ⟨_, rfl, ?_⟩
          have n0_ := Aside0.mk (Kd.R_below (by (with_reducible repeat (first | apply Kd.R_alloc | apply Kd.R_drewN | apply Kd.R_drew)); exact HO108.out) hb)
          have n1_ := Aside0.mk (blk_below (g := gb105) (o := .cells #[.int .u8 a0_0, .int .u32 a0_1, .string a0_2, .int .u64 a0_3, .int .u8 a0_4, .slice A0_5 l0_5.length c0_5] 26 (0, 0)) (by (with_reducible repeat (first | refine blk_drewN ?_ _ | refine blk_drew ?_ | refine blk_alloc ?_ _)); exact BK105.out) hb)
          have n2_ := Aside0.mk (below_step (by repeat (first | (with_reducible first | exact HB.out | apply below_alloc | apply pw_below_drewN | apply below_drew1 | refine below_set ?_ GE105.out) | exact HB.out)) hb)
          clear HO108
          clear BK105
          clear HB
          have HO108 := n0_
          have BK105 := n1_
          have HB := n2_
          clear n0_ n1_ n2_
          (try clear hb)
          (try clear hb2)
          (try clear hk)
          (try clear hi)
          refine hK.out _ _ ⟨(blk_cell BK105.out 0).trans rfl, (blk_cell BK105.out 1).trans rfl, (blk_cell BK105.out 2).trans rfl, (blk_cell BK105.out 3).trans rfl, (blk_cell BK105.out 4).trans rfl, (blk_cell BK105.out 5).trans rfl⟩ (fun hHeld => ?_)
          clear hK K
          refine norm_ (a' := ?_) ?_ ?_
          rotate_left
          ·show Act.put _ (some 11) _ = _
           simp only [Act.put, List.setIfInBounds_toArray, List.set_cons_zero, List.set_cons_succ, i64_w, i32_w]
           rfl
          exact norm_ (by simp only [putAll, Act.put, List.setIfInBounds_toArray, List.set_cons_zero, List.set_cons_succ]) (hCont (v107) _ ⟨hHeld, (by (with_reducible repeat (first | apply Kd.R_alloc | apply Kd.R_drewN | apply Kd.R_drew)); exact HO108.out), (by (with_reducible repeat (first | refine blk_drewN ?_ _ | refine blk_drew ?_ | refine blk_alloc ?_ _)); exact BK105.out), (by repeat (first | (with_reducible first | exact HB.out | apply below_alloc | apply pw_below_drewN | apply below_drew1 | refine below_set ?_ GE105.out) | exact HB.out))⟩)
         ·skip
          refine goes_ Tryd.func44 (by kernel_rfl) rfl #[.int .u64 (IntKind.u64.wrap (a0_1)), .int .i64 4] (by rfl) rfl rfl (by (try simp only [List.map_toArray, List.map_cons, List.map_nil]); first | done | rfl | (simp only [List.length_drop, List.length_take]; rfl)) ?_
          with_reducible refine (louverref07_Number.calls k (IntKind.u64.wrap (a0_1)) 4 t109 _ A2.out).mono ?_
          rintro e w24 ⟨rfl, hb⟩
          refine ⟨_, rfl, ?_⟩
          have n0_ := Aside0.mk (Kd.R_below (by (with_reducible repeat (first | apply Kd.R_alloc | apply Kd.R_drewN | apply Kd.R_drew)); exact HO108.out) hb)
          have n1_ := Aside0.mk (blk_below (g := gb105) (o := .cells #[.int .u8 a0_0, .int .u32 a0_1, .string a0_2, .int .u64 a0_3, .int .u8 a0_4, .slice A0_5 l0_5.length c0_5] 26 (0, 0)) (by (with_reducible repeat (first | refine blk_drewN ?_ _ | refine blk_drew ?_ | refine blk_alloc ?_ _)); exact BK105.out) hb)
          have n2_ := Aside0.mk (below_step (by repeat (first | (with_reducible first | exact HB.out | apply below_alloc | apply pw_below_drewN | apply below_drew1 | refine below_set ?_ GE105.out) | exact HB.out)) hb)
          clear HO108
          clear BK105
          clear HB
          have HO108 := n0_
          have BK105 := n1_
          have HB := n2_
          clear n0_ n1_ n2_
          (try clear hb)
          (try clear hb2)
          (try clear hk)
          (try clear hi)
          refine hK.out _ _ ⟨(blk_cell BK105.out 0).trans rfl, (blk_cell BK105.out 1).trans rfl, (blk_cell BK105.out 2).trans rfl, (blk_cell BK105.out 3).trans rfl, (blk_cell BK105.out 4).trans rfl, (blk_cell BK105.out 5).trans rfl⟩ (fun hHeld => ?_)
          clear hK K
          refine norm_ (a' := ?_) ?_ ?_
          rotate_left
          ·show Act.put _ (some 11) _ = _
           simp only [Act.put, List.setIfInBounds_toArray, List.set_cons_zero, List.set_cons_succ, i64_w, i32_w]
           rfl
          refine one_ (i := 3) (N := some 7) #[true, true, true, true, true, true, true, true, false, false] rfl rfl (one_of HT_.out (by kernel_rfl)) (by decide) (fun K hK => ?_)
          have hcv25 := own_string (P := Tryd.prog) Tryd.underlying24 Tryd.underlying5 Tryd.underlying9 (Kd.own_of_R HO108.out)
          refine value_ (w1 := ?_) (v := ?_) (by rfl) rfl ?_ ?_
          rotate_left 2
          ·go_simp
           constructor
           ·rfl
           ·rfl
          clear hcv25
          refine hK.out _ _ ⟨(blk_cell BK105.out 0).trans rfl, (blk_cell BK105.out 1).trans rfl, (blk_cell BK105.out 2).trans rfl, (blk_cell BK105.out 3).trans rfl, (blk_cell BK105.out 4).trans rfl, (blk_cell BK105.out 5).trans rfl⟩ (fun hHeld => ?_)
          clear hK K
          refine norm_ (a' := ?_) ?_ ?_
          rotate_left
          ·show Act.put _ (some 7) _ = _
           simp only [Act.put, List.setIfInBounds_toArray, List.set_cons_zero, List.set_cons_succ, i64_w, i32_w]
           rfl
          exact norm_ (by simp only [putAll, Act.put, List.setIfInBounds_toArray, List.set_cons_zero, List.set_cons_succ]) (hCont (v107) _ ⟨hHeld, (by (with_reducible repeat (first | apply Kd.R_alloc | apply Kd.R_drewN | apply Kd.R_drew)); exact HO108.out), (by (with_reducible repeat (first | refine blk_drewN ?_ _ | refine blk_drew ?_ | refine blk_alloc ?_ _)); exact BK105.out), (by repeat (first | (with_reducible first | exact HB.out | apply below_alloc | apply pw_below_drewN | apply below_drew1 | refine below_set ?_ GE105.out) | exact HB.out))⟩)
        ·skip
         refine goes_ Tryd.func44 (by kernel_rfl) rfl #[.int .u64 (IntKind.u64.wrap (a0_1)), .int .i64 4] (by rfl) rfl rfl (by (try simp only [List.map_toArray, List.map_cons, List.map_nil]); first | done | rfl | (simp only [List.length_drop, List.length_take]; rfl)) ?_
         with_reducible refine (louverref07_Number.calls k (IntKind.u64.wrap (a0_1)) 4 t109 _ A2.out).mono ?_
         rintro e w22 ⟨rfl, hb⟩
         refine ⟨_, rfl, ?_⟩
         have n0_ := Aside0.mk (blk_below (g := gb105) (o := .cells #[.int .u8 a0_0, .int .u32 a0_1, .string a0_2, .int .u64 a0_3, .int .u8 a0_4, .slice A0_5 l0_5.length c0_5] 26 (0, 0)) (by (with_reducible repeat (first | refine blk_drewN ?_ _ | refine blk_drew ?_ | refine blk_alloc ?_ _)); exact BK105.out) hb)
         have n1_ := Aside0.mk (below_step (by repeat (first | (with_reducible first | exact HB.out | apply below_alloc | apply pw_below_drewN | apply below_drew1 | refine below_set ?_ GE105.out) | exact HB.out)) hb)
         clear BK105
         clear HB
         have BK105 := n0_
         have HB := n1_
         clear n0_ n1_
         (try clear hb)
         (try clear hb2)
         (try clear hk)
         (try clear hi)
         refine hK.out _ _ ⟨(blk_cell BK105.out 0).trans rfl, (blk_cell BK105.out 1).trans rfl, (blk_cell BK105.out 2).trans rfl, (blk_cell BK105.out 3).trans rfl, (blk_cell BK105.out 4).trans rfl, (blk_cell BK105.out 5).trans rfl⟩ (fun hHeld => ?_)
         clear hK K
         refine norm_ (a' := ?_) ?_ ?_
         rotate_left
         ·show Act.put _ (some 11) _ = _
          simp only [Act.put, List.setIfInBounds_toArray, List.set_cons_zero, List.set_cons_succ, i64_w, i32_w]
          rfl
         refine one_ (i := 2) (N := some 6) #[true, true, true, false, true, true, true, true, false, false] rfl rfl (one_of HT_.out (by kernel_rfl)) (by decide) (fun K hK => ?_)
         refine Kd.R_lit_step (Kd.int .u8) _ 5 ?hg (N := 6) ?hd (xs := ([a0_0] : List Int)) (inner := [.int .u8 a0_0]) (ok := fun _ => True) (okp := fun _ => True) ?hr ?hp (fun _ hk => hk) trivial (Below.refl _ _) (Nat.le_refl _) (by simp) ?_; (case hd => rfl); (case hg => rfl); (case hr => first | (go_simp; done) | (go_simp; rfl)); (case hp => exact (Reps.one (show Kd.M (Kd.int .u8) _ _ _ a0_0 [.int .u8 a0_0] from rfl) (Reps.none _ _)))
         intro v107 w23 ho24 hb hg_ hnew_
         clear hg_ hnew_
         (first | rw [← Ny106.out] at ho24 | (simp only [Int.reduceToNat] at ho24; rw [← Ny106.out] at ho24))
         have n0_ := Aside0.mk (Kd.R_lower ho24 (below_size (by repeat (first | (with_reducible first | exact HB.out | apply below_alloc | apply pw_below_drewN | apply below_drew1 | refine below_set ?_ GE105.out) | exact HB.out))))
         have n1_ := Aside0.mk (blk_below (g := gb105) (o := .cells #[.int .u8 a0_0, .int .u32 a0_1, .string a0_2, .int .u64 a0_3, .int .u8 a0_4, .slice A0_5 l0_5.length c0_5] 26 (0, 0)) (by (with_reducible repeat (first | refine blk_drewN ?_ _ | refine blk_drew ?_ | refine blk_alloc ?_ _)); exact BK105.out) hb)
         have n2_ := Aside0.mk (below_step (by repeat (first | (with_reducible first | exact HB.out | apply below_alloc | apply pw_below_drewN | apply below_drew1 | refine below_set ?_ GE105.out) | exact HB.out)) hb)
         clear BK105
         clear HB
         have HO108 := n0_
         have BK105 := n1_
         have HB := n2_
         clear n0_ n1_ n2_
         clear hb ho24
         refine hK.out _ _ ⟨(blk_cell BK105.out 0).trans rfl, (blk_cell BK105.out 1).trans rfl, (blk_cell BK105.out 2).trans rfl, (blk_cell BK105.out 3).trans rfl, (blk_cell BK105.out 4).trans rfl, (blk_cell BK105.out 5).trans rfl⟩ (fun hHeld => ?_)
         clear hK K
         refine norm_ (a' := ?_) ?_ ?_
         rotate_left
         ·show Act.put _ (some 6) _ = _
          simp only [Act.put, List.setIfInBounds_toArray, List.set_cons_zero, List.set_cons_succ, i64_w, i32_w]
          rfl
         refine one_ (i := 3) (N := some 7) #[true, true, true, true, true, true, true, true, false, false] rfl rfl (one_of HT_.out (by kernel_rfl)) (by decide) (fun K hK => ?_)
         have hcv25 := own_string (P := Tryd.prog) Tryd.underlying24 Tryd.underlying5 Tryd.underlying9 (Kd.own_of_R HO108.out)
         refine value_ (w1 := ?_) (v := ?_) (by rfl) rfl ?_ ?_
         rotate_left 2
         ·go_simp
          constructor
          ·rfl
          ·rfl
         clear hcv25
         refine hK.out _ _ ⟨(blk_cell BK105.out 0).trans rfl, (blk_cell BK105.out 1).trans rfl, (blk_cell BK105.out 2).trans rfl, (blk_cell BK105.out 3).trans rfl, (blk_cell BK105.out 4).trans rfl, (blk_cell BK105.out 5).trans rfl⟩ (fun hHeld => ?_)
         clear hK K
         refine norm_ (a' := ?_) ?_ ?_
         rotate_left
         ·show Act.put _ (some 7) _ = _
          simp only [Act.put, List.setIfInBounds_toArray, List.set_cons_zero, List.set_cons_succ, i64_w, i32_w]
          rfl
         exact norm_ (by simp only [putAll, Act.put, List.setIfInBounds_toArray, List.set_cons_zero, List.set_cons_succ]) (hCont (v107) _ ⟨hHeld, (by (with_reducible repeat (first | apply Kd.R_alloc | apply Kd.R_drewN | apply Kd.R_drew)); exact HO108.out), (by (with_reducible repeat (first | refine blk_drewN ?_ _ | refine blk_drew ?_ | refine blk_alloc ?_ _)); exact BK105.out), (by repeat (first | (with_reducible first | exact HB.out | apply below_alloc | apply pw_below_drewN | apply below_drew1 | refine below_set ?_ GE105.out) | exact HB.out))⟩)
       rintro v107 w26 ⟨hS_, h0_, h1_, h2_⟩
       have n0_ : Aside0 (Kd.R (Kd.int .u8) 5 w26 w.heap.size (fun _ => True) v107 y106) := ⟨h0_⟩
       have n1_ : Aside0 (w26.heap[gb105]? = some (.cells #[.int .u8 a0_0, .int .u32 a0_1, .string a0_2, .int .u64 a0_3, .int .u8 a0_4, .slice A0_5 l0_5.length c0_5] 26 (0, 0))) := ⟨h1_⟩
       have n2_ : Aside0 (Below w.heap.size w w26) := ⟨h2_⟩
       clear BK105
       clear HB
       clear h0_ h1_ h2_
       have HO108 := n0_
       have BK105 := n1_
       have HB := n2_
       clear n0_ n1_ n2_
       have hHeld : w26.cell? ⟨gb105, 0, none⟩ = some (.int .u8 a0_0) ∧ w26.cell? ⟨gb105, 1, none⟩ = some (.int .u32 a0_1) ∧ w26.cell? ⟨gb105, 2, none⟩ = some (.string a0_2) ∧ w26.cell? ⟨gb105, 3, none⟩ = some (.int .u64 a0_3) ∧ w26.cell? ⟨gb105, 4, none⟩ = some (.int .u8 a0_4) ∧ w26.cell? ⟨gb105, 5, none⟩ = some (.slice A0_5 l0_5.length c0_5) := hS_
       refine norm_ (a' := ?_) ?_ ?_
       rotate_left
       ·simp only [putAll, Act.put, List.setIfInBounds_toArray, List.set_cons_zero, List.set_cons_succ]
        rfl
       refine pure_ (i := 8) (N := some 12) (v := ?_) (a' := ?_) #[true, true, true, true, true, true, true, true, true, false] rfl rfl (any_of HT_.out (by kernel_rfl)) (fun _ _ _ h => h) (Or.inl ⟨by rfl, ?_⟩) ?_ ?_
       rotate_left
       ·intro w'
        go_simp
        with_reducible rfl
       rotate_left
       ·simp only [Act.put, List.setIfInBounds_toArray, List.set_cons_zero, List.set_cons_succ, i64_w, i32_w]
        rfl
       refine pure_ (i := 9) (N := some 3) (v := ?_) (a' := ?_) #[true, true, true, true, true, true, true, true, true, true] rfl rfl (any_of HT_.out (by kernel_rfl)) (fun _ _ _ h => h) (Or.inl ⟨by rfl, ?_⟩) ?_ ?_
       rotate_left
       ·intro w'
        go_simp
        with_reducible rfl
       rotate_left
       ·simp only [Act.put, List.setIfInBounds_toArray, List.set_cons_zero, List.set_cons_succ, i64_w, i32_w]
        rfl
       refine done_ (done_of HT_.out (by kernel_rfl)) ?_
       have hcz27_0 : w26.cell? ⟨gb105, 0, none⟩ = some (.int .u8 a0_0) := (blk_cell BK105.out 0).trans rfl
       have hcz27_1 : w26.cell? ⟨gb105, 1, none⟩ = some (.int .u32 a0_1) := (blk_cell BK105.out 1).trans rfl
       have hcz27_2 : w26.cell? ⟨gb105, 2, none⟩ = some (.string a0_2) := (blk_cell BK105.out 2).trans rfl
       have hcz27_3 : w26.cell? ⟨gb105, 3, none⟩ = some (.int .u64 a0_3) := (blk_cell BK105.out 3).trans rfl
       have hcz27_4 : w26.cell? ⟨gb105, 4, none⟩ = some (.int .u8 a0_4) := (blk_cell BK105.out 4).trans rfl
       have hcz27_5 : w26.cell? ⟨gb105, 5, none⟩ = some (.slice A0_5 l0_5.length c0_5) := (blk_cell BK105.out 5).trans rfl
       have hfz27_0 := blk_frozen BK105.out 0
       have hfz27_1 := blk_frozen BK105.out 1
       have hfz27_2 := blk_frozen BK105.out 2
       have hfz27_3 := blk_frozen BK105.out 3
       have hfz27_4 := blk_frozen BK105.out 4
       have hfz27_5 := blk_frozen BK105.out 5
       try go_wp2_with (first | ((with_reducible refine gate_dst (N := 28) rfl ?_); refine Kd.R_lit (Kd.int .u8) _ 5 ?hg (N := 28) ?hd (xs := ([((a0_2.size : Int)) % 256] : List Int)) (inner := [.int .u8 (((a0_2.size : Int)) % 256)]) (ok := fun _ => True) (okp := fun _ => True) ?hr ?hp (fun _ hk => hk) trivial (Below.refl _ _) (Nat.le_refl _) (by simp) ?_; (case hd => rfl); (case hg => rfl); (case hr => first | (go_simp; done) | (go_simp; rfl)); (case hp => exact (Reps.one (show Kd.M (Kd.int .u8) _ _ _ (((a0_2.size : Int)) % 256) [.int .u8 (((a0_2.size : Int)) % 256)] from rfl) (Reps.none _ _))); intro v111 w28 ho29 hb hg_ hnew_; clear hg_ hnew_; (first | rw [← Ny110.out] at ho29 | (simp only [Int.reduceToNat] at ho29; rw [← Ny110.out] at ho29)); have n0_ := Aside0.mk (Kd.R_elder' (by (with_reducible repeat (first | apply Kd.R_alloc | apply Kd.R_drewN | apply Kd.R_drew)); exact HO108.out) (Kd.R_base ho29) hb); have n1_ := Aside0.mk (Kd.R_lower (Kd.R_new' ho29 (Kd.R_lt (by (with_reducible repeat (first | apply Kd.R_alloc | apply Kd.R_drewN | apply Kd.R_drew)); exact HO108.out))) (below_size (by repeat (first | (with_reducible first | exact HB.out | apply below_alloc | apply pw_below_drewN | apply below_drew1 | refine below_set ?_ GE105.out) | exact HB.out)))); have n2_ := Aside0.mk (blk_below (g := gb105) (o := .cells #[.int .u8 a0_0, .int .u32 a0_1, .string a0_2, .int .u64 a0_3, .int .u8 a0_4, .slice A0_5 l0_5.length c0_5] 26 (0, 0)) (by (with_reducible repeat (first | refine blk_drewN ?_ _ | refine blk_drew ?_ | refine blk_alloc ?_ _)); exact BK105.out) hb); have n3_ := Aside0.mk (below_step (by repeat (first | (with_reducible first | exact HB.out | apply below_alloc | apply pw_below_drewN | apply below_drew1 | refine below_set ?_ GE105.out) | exact HB.out)) hb); clear HO108; clear BK105; clear HB; have HO108 := n0_; have HO112 := n1_; have BK105 := n2_; have HB := n3_; clear n0_ n1_ n2_ n3_; clear hb ho29; have hcv30 := own_string (P := Tryd.prog) Tryd.underlying24 Tryd.underlying5 Tryd.underlying9 (Kd.own_of_R HO112.out); have hcz31_0 : w28.cell? ⟨gb105, 0, none⟩ = some (.int .u8 a0_0) := (blk_cell BK105.out 0).trans rfl; have hcz31_1 : w28.cell? ⟨gb105, 1, none⟩ = some (.int .u32 a0_1) := (blk_cell BK105.out 1).trans rfl; have hcz31_2 : w28.cell? ⟨gb105, 2, none⟩ = some (.string a0_2) := (blk_cell BK105.out 2).trans rfl; have hcz31_3 : w28.cell? ⟨gb105, 3, none⟩ = some (.int .u64 a0_3) := (blk_cell BK105.out 3).trans rfl; have hcz31_4 : w28.cell? ⟨gb105, 4, none⟩ = some (.int .u8 a0_4) := (blk_cell BK105.out 4).trans rfl; have hcz31_5 : w28.cell? ⟨gb105, 5, none⟩ = some (.slice A0_5 l0_5.length c0_5) := (blk_cell BK105.out 5).trans rfl; have hfz31_0 := blk_frozen BK105.out 0; have hfz31_1 := blk_frozen BK105.out 1; have hfz31_2 := blk_frozen BK105.out 2; have hfz31_3 := blk_frozen BK105.out 3; have hfz31_4 := blk_frozen BK105.out 4; have hfz31_5 := blk_frozen BK105.out 5; have hcv32 := Kd.C_string (P := Tryd.prog) (A := A0_5) (c := c0_5) Tryd.underlying24 Tryd.underlying5 Tryd.underlying9 (Kd.C_below HR0_5.out HB.out)))
       go_ret
       exact ⟨by first | rfl | (simp [errW_none, errW_some] <;> rfl) | (simp [*, errW_none, errW_some] <;> rfl), by repeat (first | (with_reducible first | exact HB.out | apply below_alloc | apply pw_below_drewN | apply below_drew1 | refine below_set ?_ GE105.out) | exact HB.out)⟩
      ·rw [if_neg c19] at H
       exact absurd H (by simp)
     ·rw [if_neg c18] at H
      exact absurd H (by simp)
    ·rw [if_neg c17] at H
     exact absurd H (by simp)
   ·rw [if_neg c16] at H
    have c16b0 : (a0_0 == 3) = false := beq_eq_false_iff_ne.mpr c16
    have c16b1 : (a0_0 != 3) = true := bne_iff_ne.mpr c16
    have HC33 := Aside0.mk H
    clear H
    go_enter Tryd.func19, Tryd.ntmps19
    try go_wp2_with (first | ((with_reducible refine gate_dst (N := 1) rfl ?_); refine box_event ?hg (N := 1) ?hd (cs := #[.int .u8 a0_0, .int .u32 a0_1, .string a0_2, .int .u64 a0_3, .int .u8 a0_4, .slice A0_5 l0_5.length c0_5]) (t := 26) ?hr ?_; (case hd => rfl); (case hg => rfl); (case hr => first | (go_simp; done) | (go_simp; rfl)); intro gb105 hg w34 hbox hb; have n0_ := Aside0.mk (below_step (by repeat (first | (with_reducible first | exact HB.out | apply below_alloc | apply pw_below_drewN | apply below_drew1) | exact HB.out)) hb); have n1_ := Aside0.mk (hbox); have n2_ := Aside0.mk ((by rw [hg]; exact (below_size (by repeat (first | (with_reducible first | exact HB.out | apply below_alloc | apply pw_below_drewN | apply below_drew1) | exact HB.out))) : w.heap.size ≤ gb105)); have n3_ := Aside0.mk ((by rw [hg]; exact (below_size (by repeat (first | (with_reducible first | exact HB.out | apply below_alloc | apply pw_below_drewN | apply below_drew1) | exact HB.out))) : w.heap.size ≤ gb105)); clear HB; have HB := n0_; have BK105 := n1_; have GW105 := n2_; have GE105 := n3_; clear n0_ n1_ n2_ n3_; clear hb hbox hg))
    have n0_ := Aside0.mk (blk_drew BK105.out)
    have n1_ := Aside0.mk (below_drew1 HB.out)
    clear BK105
    clear HB
    have BK105 := n0_
    have HB := n1_
    clear n0_ n1_
    refine start_ (n := 10) (S := fun w' => w'.cell? ⟨gb105, 0, none⟩ = some (.int .u8 a0_0) ∧ w'.cell? ⟨gb105, 1, none⟩ = some (.int .u32 a0_1) ∧ w'.cell? ⟨gb105, 2, none⟩ = some (.string a0_2) ∧ w'.cell? ⟨gb105, 3, none⟩ = some (.int .u64 a0_3) ∧ w'.cell? ⟨gb105, 4, none⟩ = some (.int .u8 a0_4) ∧ w'.cell? ⟨gb105, 5, none⟩ = some (.slice A0_5 l0_5.length c0_5)) (ds := []) #[false, false, false, false, false, false, false, false, false, false] (by kernel_rfl) rfl rfl ⟨(blk_cell BK105.out 0).trans rfl, (blk_cell BK105.out 1).trans rfl, (blk_cell BK105.out 2).trans rfl, (blk_cell BK105.out 3).trans rfl, (blk_cell BK105.out 4).trans rfl, (blk_cell BK105.out 5).trans rfl⟩ (fun hHeld => ?_); refine with_tabW louverref22_Put.tab1 louverref22_Put.bits1 (fun HT_ HW_ => ?_)
    generalize w34.drew = w35 at BK105 HB hHeld ⊢
    refine pure_ (i := 0) (N := some 4) (v := ?_) (a' := ?_) #[true, false, false, false, false, false, false, false, false, false] rfl rfl (any_of HT_.out (by kernel_rfl)) (fun _ _ _ h => h) (Or.inl ⟨by rfl, ?_⟩) ?_ ?_
    rotate_left
    ·intro w'
     go_simp
     with_reducible rfl
    rotate_left
    ·simp only [Act.put, List.setIfInBounds_toArray, List.set_cons_zero, List.set_cons_succ, i64_w, i32_w]
     rfl
    refine pure_ (i := 4) (N := some 8) (v := ?_) (a' := ?_) #[true, false, false, false, true, false, false, false, false, false] rfl rfl (any_of HT_.out (by kernel_rfl)) (fun _ _ _ h => h) (Or.inl ⟨by rfl, ?_⟩) ?_ ?_
    rotate_left
    ·intro w'
     go_simp
     with_reducible rfl
    rotate_left
    ·simp only [Act.put, List.setIfInBounds_toArray, List.set_cons_zero, List.set_cons_succ, i64_w, i32_w]
     rfl
    refine take_ (i := 1) (N := some 5) (v := ?_) (a' := ?_) #[true, true, false, false, true, false, false, false, false, false] rfl rfl (take_ofW HT_.out HW_.out (by kernel_rfl)) (fun _ _ _ h => h) (Or.inl ⟨by rfl, ?_⟩) hHeld ?_ ?_
    rotate_left
    ·rintro w' ⟨s0, s1, s2, s3, s4, s5⟩
     go_simp
     with_reducible rfl
    rotate_left
    ·simp only [Act.put, List.setIfInBounds_toArray, List.set_cons_zero, List.set_cons_succ, i64_w, i32_w]
     rfl
    refine take_ (i := 5) (N := some 9) (v := ?_) (a' := ?_) #[true, true, false, false, true, true, false, false, false, false] rfl rfl (take_ofW HT_.out HW_.out (by kernel_rfl)) (fun _ _ _ h => h) (Or.inl ⟨by rfl, ?_⟩) hHeld ?_ ?_
    rotate_left
    ·rintro w' ⟨s0, s1, s2, s3, s4, s5⟩
     go_simp
     with_reducible rfl
    rotate_left
    ·simp only [Act.put, List.setIfInBounds_toArray, List.set_cons_zero, List.set_cons_succ, i64_w, i32_w]
     rfl
    refine pure_ (i := 6) (N := some 10) (v := ?_) (a' := ?_) #[true, true, false, false, true, true, true, false, false, false] rfl rfl (any_of HT_.out (by kernel_rfl)) (fun _ _ _ h => h) (Or.inl ⟨by rfl, ?_⟩) ?_ ?_
    rotate_left
    ·intro w'
     go_simp
     with_reducible rfl
    rotate_left
    ·simp only [Act.put, List.setIfInBounds_toArray, List.set_cons_zero, List.set_cons_succ, i64_w, i32_w]
     rfl
    refine join_ (σ := Value) 2 #[true, true, true, true, true, true, true, true, false, false] (fun s_ => [(6, s_), (7, .string (strOfNums y106)), (11, .string t109)]) (fun s_ w' => (w'.cell? ⟨gb105, 0, none⟩ = some (.int .u8 a0_0) ∧ w'.cell? ⟨gb105, 1, none⟩ = some (.int .u32 a0_1) ∧ w'.cell? ⟨gb105, 2, none⟩ = some (.string a0_2) ∧ w'.cell? ⟨gb105, 3, none⟩ = some (.int .u64 a0_3) ∧ w'.cell? ⟨gb105, 4, none⟩ = some (.int .u8 a0_4) ∧ w'.cell? ⟨gb105, 5, none⟩ = some (.slice A0_5 l0_5.length c0_5)) ∧ (Kd.R (Kd.int .u8) 5 w' w.heap.size (fun _ => True) s_ y106) ∧ (w'.heap[gb105]? = some (.cells #[.int .u8 a0_0, .int .u32 a0_1, .string a0_2, .int .u64 a0_3, .int .u8 a0_4, .slice A0_5 l0_5.length c0_5] 26 (0, 0))) ∧ (Below w.heap.size w w')) ?_ ?_
    rotate_left
    ·intro hCont
     refine two_ (i := 2) (j := 7) (Ni := some 6) (Nj := some 11) #[true, true, true, false, true, true, true, false, false, false] #[true, true, false, false, true, true, true, true, false, false] rfl rfl rfl rfl (two_of HT_.out (by kernel_rfl)) (by decide) (by decide) (fun K hK => ?_) (fun K hK => ?_)
     ·skip
      refine Kd.R_lit_step (Kd.int .u8) _ 5 ?hg (N := 6) ?hd (xs := ([a0_0] : List Int)) (inner := [.int .u8 a0_0]) (ok := fun _ => True) (okp := fun _ => True) ?hr ?hp (fun _ hk => hk) trivial (Below.refl _ _) (Nat.le_refl _) (by simp) ?_; (case hd => rfl); (case hg => rfl); (case hr => first | (go_simp; done) | (go_simp; rfl)); (case hp => exact (Reps.one (show Kd.M (Kd.int .u8) _ _ _ a0_0 [.int .u8 a0_0] from rfl) (Reps.none _ _)))
      intro v107 w36 ho37 hb hg_ hnew_
      clear hg_ hnew_
      (first | rw [← Ny106.out] at ho37 | (simp only [Int.reduceToNat] at ho37; rw [← Ny106.out] at ho37))
      have n0_ := Aside0.mk (Kd.R_lower ho37 (below_size (by repeat (first | (with_reducible first | exact HB.out | apply below_alloc | apply pw_below_drewN | apply below_drew1 | refine below_set ?_ GE105.out) | exact HB.out))))
      have n1_ := Aside0.mk (blk_below (g := gb105) (o := .cells #[.int .u8 a0_0, .int .u32 a0_1, .string a0_2, .int .u64 a0_3, .int .u8 a0_4, .slice A0_5 l0_5.length c0_5] 26 (0, 0)) (by (with_reducible repeat (first | refine blk_drewN ?_ _ | refine blk_drew ?_ | refine blk_alloc ?_ _)); exact BK105.out) hb)
      have n2_ := Aside0.mk (below_step (by repeat (first | (with_reducible first | exact HB.out | apply below_alloc | apply pw_below_drewN | apply below_drew1 | refine below_set ?_ GE105.out) | exact HB.out)) hb)
      clear BK105
      clear HB
      have HO108 := n0_
      have BK105 := n1_
      have HB := n2_
      clear n0_ n1_ n2_
      clear hb ho37
      refine hK.out _ _ ⟨(blk_cell BK105.out 0).trans rfl, (blk_cell BK105.out 1).trans rfl, (blk_cell BK105.out 2).trans rfl, (blk_cell BK105.out 3).trans rfl, (blk_cell BK105.out 4).trans rfl, (blk_cell BK105.out 5).trans rfl⟩ (fun hHeld => ?_)
      clear hK K
      refine norm_ (a' := ?_) ?_ ?_
      rotate_left
      ·show Act.put _ (some 6) _ = _
       simp only [Act.put, List.setIfInBounds_toArray, List.set_cons_zero, List.set_cons_succ, i64_w, i32_w]
       rfl
      refine two_ (i := 3) (j := 7) (Ni := some 7) (Nj := some 11) #[true, true, true, true, true, true, true, false, false, false] #[true, true, true, false, true, true, true, true, false, false] rfl rfl rfl rfl (two_of HT_.out (by kernel_rfl)) (by decide) (by decide) (fun K hK => ?_) (fun K hK => ?_)
      ·skip
       have hcv38 := own_string (P := Tryd.prog) Tryd.underlying24 Tryd.underlying5 Tryd.underlying9 (Kd.own_of_R HO108.out)
       refine value_ (w1 := ?_) (v := ?_) (by rfl) rfl ?_ ?_
       rotate_left 2
       ·go_simp
        constructor
        ·rfl
        ·rfl
       clear hcv38
       refine hK.out _ _ ⟨(blk_cell BK105.out 0).trans rfl, (blk_cell BK105.out 1).trans rfl, (blk_cell BK105.out 2).trans rfl, (blk_cell BK105.out 3).trans rfl, (blk_cell BK105.out 4).trans rfl, (blk_cell BK105.out 5).trans rfl⟩ (fun hHeld => ?_)
       clear hK K
       refine norm_ (a' := ?_) ?_ ?_
       rotate_left
       ·show Act.put _ (some 7) _ = _
        simp only [Act.put, List.setIfInBounds_toArray, List.set_cons_zero, List.set_cons_succ, i64_w, i32_w]
        rfl
       refine one_ (i := 7) (N := some 11) #[true, true, true, true, true, true, true, true, false, false] rfl rfl (one_of HT_.out (by kernel_rfl)) (by decide) (fun K hK => ?_)
       refine goes_ Tryd.func44 (by kernel_rfl) rfl #[.int .u64 (IntKind.u64.wrap (a0_1)), .int .i64 4] (by rfl) rfl rfl (by (try simp only [List.map_toArray, List.map_cons, List.map_nil]); first | done | rfl | (simp only [List.length_drop, List.length_take]; rfl)) ?_
       with_reducible refine (louverref07_Number.calls k (IntKind.u64.wrap (a0_1)) 4 t109 _ A2.out).mono ?_
       rintro e w39 ⟨rfl, hb⟩
       refine ⟨_, rfl, ?_⟩
       have n0_ := Aside0.mk (Kd.R_below (by (with_reducible repeat (first | apply Kd.R_alloc | apply Kd.R_drewN | apply Kd.R_drew)); exact HO108.out) hb)
       have n1_ := Aside0.mk (blk_below (g := gb105) (o := .cells #[.int .u8 a0_0, .int .u32 a0_1, .string a0_2, .int .u64 a0_3, .int .u8 a0_4, .slice A0_5 l0_5.length c0_5] 26 (0, 0)) (by (with_reducible repeat (first | refine blk_drewN ?_ _ | refine blk_drew ?_ | refine blk_alloc ?_ _)); exact BK105.out) hb)
       have n2_ := Aside0.mk (below_step (by repeat (first | (with_reducible first | exact HB.out | apply below_alloc | apply pw_below_drewN | apply below_drew1 | refine below_set ?_ GE105.out) | exact HB.out)) hb)
       clear HO108
       clear BK105
       clear HB
       have HO108 := n0_
       have BK105 := n1_
       have HB := n2_
       clear n0_ n1_ n2_
       (try clear hb)
       (try clear hb2)
       (try clear hk)
       (try clear hi)
       refine hK.out _ _ ⟨(blk_cell BK105.out 0).trans rfl, (blk_cell BK105.out 1).trans rfl, (blk_cell BK105.out 2).trans rfl, (blk_cell BK105.out 3).trans rfl, (blk_cell BK105.out 4).trans rfl, (blk_cell BK105.out 5).trans rfl⟩ (fun hHeld => ?_)
       clear hK K
       refine norm_ (a' := ?_) ?_ ?_
       rotate_left
       ·show Act.put _ (some 11) _ = _
        simp only [Act.put, List.setIfInBounds_toArray, List.set_cons_zero, List.set_cons_succ, i64_w, i32_w]
        rfl
       exact norm_ (by simp only [putAll, Act.put, List.setIfInBounds_toArray, List.set_cons_zero, List.set_cons_succ]) (hCont (v107) _ ⟨hHeld, (by (with_reducible repeat (first | apply Kd.R_alloc | apply Kd.R_drewN | apply Kd.R_drew)); exact HO108.out), (by (with_reducible repeat (first | refine blk_drewN ?_ _ | refine blk_drew ?_ | refine blk_alloc ?_ _)); exact BK105.out), (by repeat (first | (with_reducible first | exact HB.out | apply below_alloc | apply pw_below_drewN | apply below_drew1 | refine below_set ?_ GE105.out) | exact HB.out))⟩)
      ·skip
       refine goes_ Tryd.func44 (by kernel_rfl) rfl #[.int .u64 (IntKind.u64.wrap (a0_1)), .int .i64 4] (by rfl) rfl rfl (by (try simp only [List.map_toArray, List.map_cons, List.map_nil]); first | done | rfl | (simp only [List.length_drop, List.length_take]; rfl)) ?_
       with_reducible refine (louverref07_Number.calls k (IntKind.u64.wrap (a0_1)) 4 t109 _ A2.out).mono ?_
       rintro e w38 ⟨rfl, hb⟩
       refine ⟨_, rfl, ?_⟩
       have n0_ := Aside0.mk (Kd.R_below (by (with_reducible repeat (first | apply Kd.R_alloc | apply Kd.R_drewN | apply Kd.R_drew)); exact HO108.out) hb)
       have n1_ := Aside0.mk (blk_below (g := gb105) (o := .cells #[.int .u8 a0_0, .int .u32 a0_1, .string a0_2, .int .u64 a0_3, .int .u8 a0_4, .slice A0_5 l0_5.length c0_5] 26 (0, 0)) (by (with_reducible repeat (first | refine blk_drewN ?_ _ | refine blk_drew ?_ | refine blk_alloc ?_ _)); exact BK105.out) hb)
       have n2_ := Aside0.mk (below_step (by repeat (first | (with_reducible first | exact HB.out | apply below_alloc | apply pw_below_drewN | apply below_drew1 | refine below_set ?_ GE105.out) | exact HB.out)) hb)
       clear HO108
       clear BK105
       clear HB
       have HO108 := n0_
       have BK105 := n1_
       have HB := n2_
       clear n0_ n1_ n2_
       (try clear hb)
       (try clear hb2)
       (try clear hk)
       (try clear hi)
       refine hK.out _ _ ⟨(blk_cell BK105.out 0).trans rfl, (blk_cell BK105.out 1).trans rfl, (blk_cell BK105.out 2).trans rfl, (blk_cell BK105.out 3).trans rfl, (blk_cell BK105.out 4).trans rfl, (blk_cell BK105.out 5).trans rfl⟩ (fun hHeld => ?_)
       clear hK K
       refine norm_ (a' := ?_) ?_ ?_
       rotate_left
       ·show Act.put _ (some 11) _ = _
        simp only [Act.put, List.setIfInBounds_toArray, List.set_cons_zero, List.set_cons_succ, i64_w, i32_w]
        rfl
       refine one_ (i := 3) (N := some 7) #[true, true, true, true, true, true, true, true, false, false] rfl rfl (one_of HT_.out (by kernel_rfl)) (by decide) (fun K hK => ?_)
       have hcv39 := own_string (P := Tryd.prog) Tryd.underlying24 Tryd.underlying5 Tryd.underlying9 (Kd.own_of_R HO108.out)
       refine value_ (w1 := ?_) (v := ?_) (by rfl) rfl ?_ ?_
       rotate_left 2
       ·go_simp
        constructor
        ·rfl
        ·rfl
       clear hcv39
       refine hK.out _ _ ⟨(blk_cell BK105.out 0).trans rfl, (blk_cell BK105.out 1).trans rfl, (blk_cell BK105.out 2).trans rfl, (blk_cell BK105.out 3).trans rfl, (blk_cell BK105.out 4).trans rfl, (blk_cell BK105.out 5).trans rfl⟩ (fun hHeld => ?_)
       clear hK K
       refine norm_ (a' := ?_) ?_ ?_
       rotate_left
       ·show Act.put _ (some 7) _ = _
        simp only [Act.put, List.setIfInBounds_toArray, List.set_cons_zero, List.set_cons_succ, i64_w, i32_w]
        rfl
       exact norm_ (by simp only [putAll, Act.put, List.setIfInBounds_toArray, List.set_cons_zero, List.set_cons_succ]) (hCont (v107) _ ⟨hHeld, (by (with_reducible repeat (first | apply Kd.R_alloc | apply Kd.R_drewN | apply Kd.R_drew)); exact HO108.out), (by (with_reducible repeat (first | refine blk_drewN ?_ _ | refine blk_drew ?_ | refine blk_alloc ?_ _)); exact BK105.out), (by repeat (first | (with_reducible first | exact HB.out | apply below_alloc | apply pw_below_drewN | apply below_drew1 | refine below_set ?_ GE105.out) | exact HB.out))⟩)
     ·skip
      refine goes_ Tryd.func44 (by kernel_rfl) rfl #[.int .u64 (IntKind.u64.wrap (a0_1)), .int .i64 4] (by rfl) rfl rfl (by (try simp only [List.map_toArray, List.map_cons, List.map_nil]); first | done | rfl | (simp only [List.length_drop, List.length_take]; rfl)) ?_
      with_reducible refine (louverref07_Number.calls k (IntKind.u64.wrap (a0_1)) 4 t109 _ A2.out).mono ?_
      rintro e w36 ⟨rfl, hb⟩
      refine ⟨_, rfl, ?_⟩
      have n0_ := Aside0.mk (blk_below (g := gb105) (o := .cells #[.int .u8 a0_0, .int .u32 a0_1, .string a0_2, .int .u64 a0_3, .int .u8 a0_4, .slice A0_5 l0_5.length c0_5] 26 (0, 0)) (by (with_reducible repeat (first | refine blk_drewN ?_ _ | refine blk_drew ?_ | refine blk_alloc ?_ _)); exact BK105.out) hb)
      have n1_ := Aside0.mk (below_step (by repeat (first | (with_reducible first | exact HB.out | apply below_alloc | apply pw_below_drewN | apply below_drew1 | refine below_set ?_ GE105.out) | exact HB.out)) hb)
      clear BK105
      clear HB
      have BK105 := n0_
      have HB := n1_
      clear n0_ n1_
      (try clear hb)
      (try clear hb2)
      (try clear hk)
      (try clear hi)
      refine hK.out _ _ ⟨(blk_cell BK105.out 0).trans rfl, (blk_cell BK105.out 1).trans rfl, (blk_cell BK105.out 2).trans rfl, (blk_cell BK105.out 3).trans rfl, (blk_cell BK105.out 4).trans rfl, (blk_cell BK105.out 5).trans rfl⟩ (fun hHeld => ?_)
      clear hK K
      refine norm_ (a' := ?_) ?_ ?_
      rotate_left
      ·show Act.put _ (some 11) _ = _
       simp only [Act.put, List.setIfInBounds_toArray, List.set_cons_zero, List.set_cons_succ, i64_w, i32_w]
       rfl
      refine one_ (i := 2) (N := some 6) #[true, true, true, false, true, true, true, true, false, false] rfl rfl (one_of HT_.out (by kernel_rfl)) (by decide) (fun K hK => ?_)
      refine Kd.R_lit_step (Kd.int .u8) _ 5 ?hg (N := 6) ?hd (xs := ([a0_0] : List Int)) (inner := [.int .u8 a0_0]) (ok := fun _ => True) (okp := fun _ => True) ?hr ?hp (fun _ hk => hk) trivial (Below.refl _ _) (Nat.le_refl _) (by simp) ?_; (case hd => rfl); (case hg => rfl); (case hr => first | (go_simp; done) | (go_simp; rfl)); (case hp => exact (Reps.one (show Kd.M (Kd.int .u8) _ _ _ a0_0 [.int .u8 a0_0] from rfl) (Reps.none _ _)))
      intro v107 w37 ho38 hb hg_ hnew_
      clear hg_ hnew_
      (first | rw [← Ny106.out] at ho38 | (simp only [Int.reduceToNat] at ho38; rw [← Ny106.out] at ho38))
      have n0_ := Aside0.mk (Kd.R_lower ho38 (below_size (by repeat (first | (with_reducible first | exact HB.out | apply below_alloc | apply pw_below_drewN | apply below_drew1 | refine below_set ?_ GE105.out) | exact HB.out))))
      have n1_ := Aside0.mk (blk_below (g := gb105) (o := .cells #[.int .u8 a0_0, .int .u32 a0_1, .string a0_2, .int .u64 a0_3, .int .u8 a0_4, .slice A0_5 l0_5.length c0_5] 26 (0, 0)) (by (with_reducible repeat (first | refine blk_drewN ?_ _ | refine blk_drew ?_ | refine blk_alloc ?_ _)); exact BK105.out) hb)
      have n2_ := Aside0.mk (below_step (by repeat (first | (with_reducible first | exact HB.out | apply below_alloc | apply pw_below_drewN | apply below_drew1 | refine below_set ?_ GE105.out) | exact HB.out)) hb)
      clear BK105
      clear HB
      have HO108 := n0_
      have BK105 := n1_
      have HB := n2_
      clear n0_ n1_ n2_
      clear hb ho38
      refine hK.out _ _ ⟨(blk_cell BK105.out 0).trans rfl, (blk_cell BK105.out 1).trans rfl, (blk_cell BK105.out 2).trans rfl, (blk_cell BK105.out 3).trans rfl, (blk_cell BK105.out 4).trans rfl, (blk_cell BK105.out 5).trans rfl⟩ (fun hHeld => ?_)
      clear hK K
      refine norm_ (a' := ?_) ?_ ?_
      rotate_left
      ·show Act.put _ (some 6) _ = _
       simp only [Act.put, List.setIfInBounds_toArray, List.set_cons_zero, List.set_cons_succ, i64_w, i32_w]
       rfl
      refine one_ (i := 3) (N := some 7) #[true, true, true, true, true, true, true, true, false, false] rfl rfl (one_of HT_.out (by kernel_rfl)) (by decide) (fun K hK => ?_)
      have hcv39 := own_string (P := Tryd.prog) Tryd.underlying24 Tryd.underlying5 Tryd.underlying9 (Kd.own_of_R HO108.out)
      refine value_ (w1 := ?_) (v := ?_) (by rfl) rfl ?_ ?_
      rotate_left 2
      ·go_simp
       constructor
       ·rfl
       ·rfl
      clear hcv39
      refine hK.out _ _ ⟨(blk_cell BK105.out 0).trans rfl, (blk_cell BK105.out 1).trans rfl, (blk_cell BK105.out 2).trans rfl, (blk_cell BK105.out 3).trans rfl, (blk_cell BK105.out 4).trans rfl, (blk_cell BK105.out 5).trans rfl⟩ (fun hHeld => ?_)
      clear hK K
      refine norm_ (a' := ?_) ?_ ?_
      rotate_left
      ·show Act.put _ (some 7) _ = _
       simp only [Act.put, List.setIfInBounds_toArray, List.set_cons_zero, List.set_cons_succ, i64_w, i32_w]
       rfl
      exact norm_ (by simp only [putAll, Act.put, List.setIfInBounds_toArray, List.set_cons_zero, List.set_cons_succ]) (hCont (v107) _ ⟨hHeld, (by (with_reducible repeat (first | apply Kd.R_alloc | apply Kd.R_drewN | apply Kd.R_drew)); exact HO108.out), (by (with_reducible repeat (first | refine blk_drewN ?_ _ | refine blk_drew ?_ | refine blk_alloc ?_ _)); exact BK105.out), (by repeat (first | (with_reducible first | exact HB.out | apply below_alloc | apply pw_below_drewN | apply below_drew1 | refine below_set ?_ GE105.out) | exact HB.out))⟩)
    rintro v107 w40 ⟨hS_, h0_, h1_, h2_⟩
    have n0_ : Aside0 (Kd.R (Kd.int .u8) 5 w40 w.heap.size (fun _ => True) v107 y106) := ⟨h0_⟩
    have n1_ : Aside0 (w40.heap[gb105]? = some (.cells #[.int .u8 a0_0, .int .u32 a0_1, .string a0_2, .int .u64 a0_3, .int .u8 a0_4, .slice A0_5 l0_5.length c0_5] 26 (0, 0))) := ⟨h1_⟩
    have n2_ : Aside0 (Below w.heap.size w w40) := ⟨h2_⟩
    clear BK105
    clear HB
    clear h0_ h1_ h2_
    have HO108 := n0_
    have BK105 := n1_
    have HB := n2_
    clear n0_ n1_ n2_
    have hHeld : w40.cell? ⟨gb105, 0, none⟩ = some (.int .u8 a0_0) ∧ w40.cell? ⟨gb105, 1, none⟩ = some (.int .u32 a0_1) ∧ w40.cell? ⟨gb105, 2, none⟩ = some (.string a0_2) ∧ w40.cell? ⟨gb105, 3, none⟩ = some (.int .u64 a0_3) ∧ w40.cell? ⟨gb105, 4, none⟩ = some (.int .u8 a0_4) ∧ w40.cell? ⟨gb105, 5, none⟩ = some (.slice A0_5 l0_5.length c0_5) := hS_
    refine norm_ (a' := ?_) ?_ ?_
    rotate_left
    ·simp only [putAll, Act.put, List.setIfInBounds_toArray, List.set_cons_zero, List.set_cons_succ]
     rfl
    refine pure_ (i := 8) (N := some 12) (v := ?_) (a' := ?_) #[true, true, true, true, true, true, true, true, true, false] rfl rfl (any_of HT_.out (by kernel_rfl)) (fun _ _ _ h => h) (Or.inl ⟨by rfl, ?_⟩) ?_ ?_
    rotate_left
    ·intro w'
     go_simp
     with_reducible rfl
    rotate_left
    ·simp only [Act.put, List.setIfInBounds_toArray, List.set_cons_zero, List.set_cons_succ, i64_w, i32_w]
     rfl
    refine pure_ (i := 9) (N := some 3) (v := ?_) (a' := ?_) #[true, true, true, true, true, true, true, true, true, true] rfl rfl (any_of HT_.out (by kernel_rfl)) (fun _ _ _ h => h) (Or.inl ⟨by rfl, ?_⟩) ?_ ?_
    rotate_left
    ·intro w'
     go_simp
     with_reducible rfl
    rotate_left
    ·simp only [Act.put, List.setIfInBounds_toArray, List.set_cons_zero, List.set_cons_succ, i64_w, i32_w]
     rfl
    refine done_ (done_of HT_.out (by kernel_rfl)) ?_
    have hcz41_0 : w40.cell? ⟨gb105, 0, none⟩ = some (.int .u8 a0_0) := (blk_cell BK105.out 0).trans rfl
    have hcz41_1 : w40.cell? ⟨gb105, 1, none⟩ = some (.int .u32 a0_1) := (blk_cell BK105.out 1).trans rfl
    have hcz41_2 : w40.cell? ⟨gb105, 2, none⟩ = some (.string a0_2) := (blk_cell BK105.out 2).trans rfl
    have hcz41_3 : w40.cell? ⟨gb105, 3, none⟩ = some (.int .u64 a0_3) := (blk_cell BK105.out 3).trans rfl
    have hcz41_4 : w40.cell? ⟨gb105, 4, none⟩ = some (.int .u8 a0_4) := (blk_cell BK105.out 4).trans rfl
    have hcz41_5 : w40.cell? ⟨gb105, 5, none⟩ = some (.slice A0_5 l0_5.length c0_5) := (blk_cell BK105.out 5).trans rfl
    have hfz41_0 := blk_frozen BK105.out 0
    have hfz41_1 := blk_frozen BK105.out 1
    have hfz41_2 := blk_frozen BK105.out 2
    have hfz41_3 := blk_frozen BK105.out 3
    have hfz41_4 := blk_frozen BK105.out 4
    have hfz41_5 := blk_frozen BK105.out 5
    go_upto_if 34 with (fail)
    go_cut [34] (fun v34 wc => ∃ (kq : Nat) (x34_32 : Bool), v34 = .bool x34_32 ∧ Aside0 (louverref22_Put.j0 kq ((strOfNums y106) ++ t109) a0_0 x34_32 a0_0 a0_1 a0_2 a0_3 a0_4 l0_5 = some r) ∧ Aside0 (kq ≤ k) ∧ Aside0 (wc.heap[gb105]? = some (.cells #[.int .u8 a0_0, .int .u32 a0_1, .string a0_2, .int .u64 a0_3, .int .u8 a0_4, (.slice A0_5 l0_5.length c0_5)] 26 (0, 0))) ∧ Aside0 (Below w.heap.size w wc))
    case first =>
     have H := HC33.out
     clear HC33
     by_cases c42 : a0_0 = 4
     ·rw [if_pos c42] at H
      have c42b0 : (a0_0 == 4) = true := beq_iff_eq.mpr c42
      have c42b1 : (a0_0 != 4) = false := bne_eq_false_iff_eq.mpr c42
      clear c42
      (first | rw [c42b0] | (simp only [i64_w, i32_w]; rw [c42b0]) | skip)
      have H' := Aside0.mk H
      clear H
      go_wp2
      go_meet
      case rel => exact ⟨_, ((a0_0 == 4)), (by first | rfl | (simp; done) | (simp [*]; done)), H', ⟨by first | omega | exact Nat.le_refl _⟩, ⟨by (with_reducible repeat (first | refine blk_drewN ?_ _ | refine blk_drew ?_ | refine blk_alloc ?_ _)); exact BK105.out⟩, ⟨by repeat (first | (with_reducible first | exact HB.out | apply below_alloc | apply pw_below_drewN | apply below_drew1 | refine below_set ?_ GE105.out) | exact HB.out)⟩⟩
     ·rw [if_neg c42] at H
      have c42b0 : (a0_0 == 4) = false := beq_eq_false_iff_ne.mpr c42
      have c42b1 : (a0_0 != 4) = true := bne_iff_ne.mpr c42
      (first | rw [c42b0] | (simp only [i64_w, i32_w]; rw [c42b0]) | skip)
      by_cases c43 : a0_0 = 5
      ·rw [if_pos c43] at H
       have c43b0 : (a0_0 == 5) = true := beq_iff_eq.mpr c43
       have c43b1 : (a0_0 != 5) = false := bne_eq_false_iff_eq.mpr c43
       clear c43
       have H' := Aside0.mk H
       clear H
       go_wp2
       go_meet
       case rel => exact ⟨_, ((a0_0 == 5)), (by first | rfl | (simp; done) | (simp [*]; done)), H', ⟨by first | omega | exact Nat.le_refl _⟩, ⟨by (with_reducible repeat (first | refine blk_drewN ?_ _ | refine blk_drew ?_ | refine blk_alloc ?_ _)); exact BK105.out⟩, ⟨by repeat (first | (with_reducible first | exact HB.out | apply below_alloc | apply pw_below_drewN | apply below_drew1 | refine below_set ?_ GE105.out) | exact HB.out)⟩⟩
      ·rw [if_neg c43] at H
       have c43b0 : (a0_0 == 5) = false := beq_eq_false_iff_ne.mpr c43
       have c43b1 : (a0_0 != 5) = true := bne_iff_ne.mpr c43
       by_cases c44 : a0_0 = 6
       ·rw [if_pos c44] at H
        have c44b0 : (a0_0 == 6) = true := beq_iff_eq.mpr c44
        have c44b1 : (a0_0 != 6) = false := bne_eq_false_iff_eq.mpr c44
        clear c44
        have H' := Aside0.mk H
        clear H
        go_wp2
        go_meet
        case rel => exact ⟨_, ((a0_0 == 6)), (by first | rfl | (simp; done) | (simp [*]; done)), H', ⟨by first | omega | exact Nat.le_refl _⟩, ⟨by (with_reducible repeat (first | refine blk_drewN ?_ _ | refine blk_drew ?_ | refine blk_alloc ?_ _)); exact BK105.out⟩, ⟨by repeat (first | (with_reducible first | exact HB.out | apply below_alloc | apply pw_below_drewN | apply below_drew1 | refine below_set ?_ GE105.out) | exact HB.out)⟩⟩
       ·rw [if_neg c44] at H
        have c44b0 : (a0_0 == 6) = false := beq_eq_false_iff_ne.mpr c44
        have c44b1 : (a0_0 != 6) = true := bne_iff_ne.mpr c44
        have H' := Aside0.mk H
        clear H
        go_wp2
        go_meet
        case rel => exact ⟨_, ((a0_0 == 7)), (by first | rfl | (simp; done) | (simp [*]; done)), H', ⟨by first | omega | exact Nat.le_refl _⟩, ⟨by (with_reducible repeat (first | refine blk_drewN ?_ _ | refine blk_drew ?_ | refine blk_alloc ?_ _)); exact BK105.out⟩, ⟨by repeat (first | (with_reducible first | exact HB.out | apply below_alloc | apply pw_below_drewN | apply below_drew1 | refine below_set ?_ GE105.out) | exact HB.out)⟩⟩
    case rest =>
     clear HC33
     try clear c1
     try clear p2
     try clear hcv2
     try clear hcv3
     try clear c4
     try clear c16
     try clear c16b0
     try clear c16b1
     try clear c17
     try clear c18
     try clear c19
     try clear hcv24
     try clear hcv25
     try clear hcv30
     try clear hcv32
     try clear hcv38
     try clear hcv39
     try clear c42
     try clear c42b0
     try clear c42b1
     try clear c43
     try clear c43b0
     try clear c43b1
     try clear c44
     try clear c44b0
     try clear c44b1
     try clear hcz27_0
     try clear hcz27_1
     try clear hcz27_2
     try clear hcz27_3
     try clear hcz27_4
     try clear hcz27_5
     try clear hcz31_0
     try clear hcz31_1
     try clear hcz31_2
     try clear hcz31_3
     try clear hcz31_4
     try clear hcz31_5
     try clear hcz41_0
     try clear hcz41_1
     try clear hcz41_2
     try clear hcz41_3
     try clear hcz41_4
     try clear hcz41_5
     try clear hfz27_0
     try clear hfz27_1
     try clear hfz27_2
     try clear hfz27_3
     try clear hfz27_4
     try clear hfz27_5
     try clear hfz31_0
     try clear hfz31_1
     try clear hfz31_2
     try clear hfz31_3
     try clear hfz31_4
     try clear hfz31_5
     try clear hfz41_0
     try clear hfz41_1
     try clear hfz41_2
     try clear hfz41_3
     try clear hfz41_4
     try clear hfz41_5
     obtain ⟨kq, x34_32, rfl, HA, HJ32, BK105, HB⟩ := hcut
     cases kq with
     | zero => exact absurd HA.out (by simp [louverref22_Put.j0])
     | succ kj32 =>
      have H := HA.out
      clear HA
      simp only [louverref22_Put.j0] at H
      by_cases c45 : x34_32 = true
      ·subst c45
       have H1 : ((louverref07_Number.f kj32 a0_3 8).bind fun t113 => (if ((strOfNums y106) ++ t109).size + t113.size ≤ 9223372036854775807 then (if (((strOfNums y106) ++ t109) ++ t113).size + (strOfNums l0_5).size ≤ 9223372036854775807 then (some ((((strOfNums y106) ++ t109) ++ t113) ++ (strOfNums l0_5))) else (none)) else (none))) = some r := by rw [if_pos rfl] at H; exact H
       clear H
       have H := H1
       clear H1
       replace H := Option.bind_eq_some_iff.mp H
       obtain ⟨t113, A460, H⟩ := H
       replace H : (if ((strOfNums y106) ++ t109).size + t113.size ≤ 9223372036854775807 then (if (((strOfNums y106) ++ t109) ++ t113).size + (strOfNums l0_5).size ≤ 9223372036854775807 then (some ((((strOfNums y106) ++ t109) ++ t113) ++ (strOfNums l0_5))) else (none)) else (none)) = some r := H
       have A46 := Aside0.mk A460
       clear A460
       by_cases c47 : ((strOfNums y106) ++ t109).size + t113.size ≤ 9223372036854775807
       ·rw [if_pos c47] at H
        have c47b0 := eq_true c47
        have c47b1 : decide (((strOfNums y106) ++ t109).size + t113.size ≤ 9223372036854775807) = true := decide_eq_true c47
        try have c47b2 : (9223372036854775807 < ((strOfNums y106) ++ t109).size + t113.size) = False := eq_false (Nat.not_lt.2 c47)
        try (have c47b2s := c47b2; simp only [ByteArray.size_append] at c47b2s)
        by_cases c48 : (((strOfNums y106) ++ t109) ++ t113).size + (strOfNums l0_5).size ≤ 9223372036854775807
        ·rw [if_pos c48] at H
         have c48b0 := eq_true c48
         have c48b1 : decide ((((strOfNums y106) ++ t109) ++ t113).size + (strOfNums l0_5).size ≤ 9223372036854775807) = true := decide_eq_true c48
         try have c48b2 : (9223372036854775807 < (((strOfNums y106) ++ t109) ++ t113).size + (strOfNums l0_5).size) = False := eq_false (Nat.not_lt.2 c48)
         try (have c48b2s := c48b2; simp only [ByteArray.size_append] at c48b2s)
         obtain rfl := Option.some.inj H
         have hcz49_0 : wc.cell? ⟨gb105, 0, none⟩ = some (.int .u8 a0_0) := (blk_cell BK105.out 0).trans rfl
         have hcz49_1 : wc.cell? ⟨gb105, 1, none⟩ = some (.int .u32 a0_1) := (blk_cell BK105.out 1).trans rfl
         have hcz49_2 : wc.cell? ⟨gb105, 2, none⟩ = some (.string a0_2) := (blk_cell BK105.out 2).trans rfl
         have hcz49_3 : wc.cell? ⟨gb105, 3, none⟩ = some (.int .u64 a0_3) := (blk_cell BK105.out 3).trans rfl
         have hcz49_4 : wc.cell? ⟨gb105, 4, none⟩ = some (.int .u8 a0_4) := (blk_cell BK105.out 4).trans rfl
         have hcz49_5 : wc.cell? ⟨gb105, 5, none⟩ = some (.slice A0_5 l0_5.length c0_5) := (blk_cell BK105.out 5).trans rfl
         have hfz49_0 := blk_frozen BK105.out 0
         have hfz49_1 := blk_frozen BK105.out 1
         have hfz49_2 := blk_frozen BK105.out 2
         have hfz49_3 := blk_frozen BK105.out 3
         have hfz49_4 := blk_frozen BK105.out 4
         have hfz49_5 := blk_frozen BK105.out 5
         go_wp2_with (first | ((with_reducible refine gate_callee (f := 44) rfl ?_); refine goesL_ (some 42) rfl rfl Tryd.func44 (by kernel_rfl) rfl #[.int .u64 a0_3, .int .i64 8] rfl (by (try simp only [List.map_toArray, List.map_cons, List.map_nil]); first | done | rfl | (simp only [List.length_drop, List.length_take]; rfl)) ?_; (with_reducible refine (louverref07_Number.calls kj32 a0_3 8 t113 _ A46.out).mono ?_); rintro e w50 ⟨rfl, hb⟩; refine ⟨_, rfl, ?_⟩; have n0_ := Aside0.mk (blk_below (g := gb105) (o := .cells #[.int .u8 a0_0, .int .u32 a0_1, .string a0_2, .int .u64 a0_3, .int .u8 a0_4, .slice A0_5 l0_5.length c0_5] 26 (0, 0)) (by (with_reducible repeat (first | refine blk_drewN ?_ _ | refine blk_drew ?_ | refine blk_alloc ?_ _)); exact BK105.out) hb); have n1_ := Aside0.mk (below_step (by repeat (first | (with_reducible first | exact HB.out | apply below_alloc | apply pw_below_drewN | apply below_drew1 | refine below_set ?_ GE105.out) | exact HB.out)) hb); clear BK105; clear HB; have BK105 := n0_; have HB := n1_; clear n0_ n1_; (try clear hb); (try clear hb2); (try clear hk); (try clear hi); have hcz51_0 : w50.cell? ⟨gb105, 0, none⟩ = some (.int .u8 a0_0) := (blk_cell BK105.out 0).trans rfl; have hcz51_1 : w50.cell? ⟨gb105, 1, none⟩ = some (.int .u32 a0_1) := (blk_cell BK105.out 1).trans rfl; have hcz51_2 : w50.cell? ⟨gb105, 2, none⟩ = some (.string a0_2) := (blk_cell BK105.out 2).trans rfl; have hcz51_3 : w50.cell? ⟨gb105, 3, none⟩ = some (.int .u64 a0_3) := (blk_cell BK105.out 3).trans rfl; have hcz51_4 : w50.cell? ⟨gb105, 4, none⟩ = some (.int .u8 a0_4) := (blk_cell BK105.out 4).trans rfl; have hcz51_5 : w50.cell? ⟨gb105, 5, none⟩ = some (.slice A0_5 l0_5.length c0_5) := (blk_cell BK105.out 5).trans rfl; have hfz51_0 := blk_frozen BK105.out 0; have hfz51_1 := blk_frozen BK105.out 1; have hfz51_2 := blk_frozen BK105.out 2; have hfz51_3 := blk_frozen BK105.out 3; have hfz51_4 := blk_frozen BK105.out 4; have hfz51_5 := blk_frozen BK105.out 5; have hcv52 := Kd.C_string (P := Tryd.prog) (A := A0_5) (c := c0_5) Tryd.underlying24 Tryd.underlying5 Tryd.underlying9 (Kd.C_below HR0_5.out HB.out)))
         go_ret
         exact ⟨by first | rfl | (simp [errW_none, errW_some] <;> rfl) | (simp [*, errW_none, errW_some] <;> rfl), by repeat (first | (with_reducible first | exact HB.out | apply below_alloc | apply pw_below_drewN | apply below_drew1 | refine below_set ?_ GE105.out) | exact HB.out)⟩
        ·rw [if_neg c48] at H
         exact absurd H (by simp)
       ·rw [if_neg c47] at H
        exact absurd H (by simp)
      ·replace c45 := Bool.eq_false_iff.mpr c45
       subst c45
       have H1 : (if a0_0 = 8 then ((some (([a0_4] : List Int) : List Int)).bind fun y114 => (if ((strOfNums y106) ++ t109).size + (strOfNums y114).size ≤ 9223372036854775807 then (if (((strOfNums y106) ++ t109) ++ (strOfNums y114)).size + (strOfNums l0_5).size ≤ 9223372036854775807 then (some ((((strOfNums y106) ++ t109) ++ (strOfNums y114)) ++ (strOfNums l0_5))) else (none)) else (none))) else (if ((strOfNums y106) ++ t109).size + (strOfNums l0_5).size ≤ 9223372036854775807 then (some (((strOfNums y106) ++ t109) ++ (strOfNums l0_5))) else (none))) = some r := by rw [if_neg (show ¬ (false = true) by decide)] at H; exact H
       clear H
       have H := H1
       clear H1
       by_cases c53 : a0_0 = 8
       ·rw [if_pos c53] at H
        have c53b0 : (a0_0 == 8) = true := beq_iff_eq.mpr c53
        have c53b1 : (a0_0 != 8) = false := bne_eq_false_iff_eq.mpr c53
        clear c53
        obtain ⟨y114, hy114⟩ : ∃ y_ : List Int, y_ = (([a0_4] : List Int)) := ⟨_, rfl⟩
        replace H : (if ((strOfNums y106) ++ t109).size + (strOfNums y114).size ≤ 9223372036854775807 then (if (((strOfNums y106) ++ t109) ++ (strOfNums y114)).size + (strOfNums l0_5).size ≤ 9223372036854775807 then (some ((((strOfNums y106) ++ t109) ++ (strOfNums y114)) ++ (strOfNums l0_5))) else (none)) else (none)) = some r := by first | (rw [hy114]; with_reducible exact H) | (have H2_ := (Option.bind_some _ _).symm.trans H; rw [hy114]; with_reducible exact H2_) | (have H2_ := (Option.bind_some _ _).symm.trans H; with_reducible exact H2_) | with_reducible exact H | (rw [hy114]; exact H) | exact H
        have Ny114 := Aside0.mk hy114
        clear hy114
        by_cases c54 : ((strOfNums y106) ++ t109).size + (strOfNums y114).size ≤ 9223372036854775807
        ·rw [if_pos c54] at H
         have c54b0 := eq_true c54
         have c54b1 : decide (((strOfNums y106) ++ t109).size + (strOfNums y114).size ≤ 9223372036854775807) = true := decide_eq_true c54
         try have c54b2 : (9223372036854775807 < ((strOfNums y106) ++ t109).size + (strOfNums y114).size) = False := eq_false (Nat.not_lt.2 c54)
         try (have c54b2s := c54b2; simp only [ByteArray.size_append] at c54b2s)
         by_cases c55 : (((strOfNums y106) ++ t109) ++ (strOfNums y114)).size + (strOfNums l0_5).size ≤ 9223372036854775807
         ·rw [if_pos c55] at H
          have c55b0 := eq_true c55
          have c55b1 : decide ((((strOfNums y106) ++ t109) ++ (strOfNums y114)).size + (strOfNums l0_5).size ≤ 9223372036854775807) = true := decide_eq_true c55
          try have c55b2 : (9223372036854775807 < (((strOfNums y106) ++ t109) ++ (strOfNums y114)).size + (strOfNums l0_5).size) = False := eq_false (Nat.not_lt.2 c55)
          try (have c55b2s := c55b2; simp only [ByteArray.size_append] at c55b2s)
          obtain rfl := Option.some.inj H
          have hcz56_0 : wc.cell? ⟨gb105, 0, none⟩ = some (.int .u8 a0_0) := (blk_cell BK105.out 0).trans rfl
          have hcz56_1 : wc.cell? ⟨gb105, 1, none⟩ = some (.int .u32 a0_1) := (blk_cell BK105.out 1).trans rfl
          have hcz56_2 : wc.cell? ⟨gb105, 2, none⟩ = some (.string a0_2) := (blk_cell BK105.out 2).trans rfl
          have hcz56_3 : wc.cell? ⟨gb105, 3, none⟩ = some (.int .u64 a0_3) := (blk_cell BK105.out 3).trans rfl
          have hcz56_4 : wc.cell? ⟨gb105, 4, none⟩ = some (.int .u8 a0_4) := (blk_cell BK105.out 4).trans rfl
          have hcz56_5 : wc.cell? ⟨gb105, 5, none⟩ = some (.slice A0_5 l0_5.length c0_5) := (blk_cell BK105.out 5).trans rfl
          have hfz56_0 := blk_frozen BK105.out 0
          have hfz56_1 := blk_frozen BK105.out 1
          have hfz56_2 := blk_frozen BK105.out 2
          have hfz56_3 := blk_frozen BK105.out 3
          have hfz56_4 := blk_frozen BK105.out 4
          have hfz56_5 := blk_frozen BK105.out 5
          go_wp2_with (first | ((with_reducible refine gate_dst (N := 49) rfl ?_); refine Kd.R_lit (Kd.int .u8) _ 5 ?hg (N := 49) ?hd (xs := ([a0_4] : List Int)) (inner := [.int .u8 a0_4]) (ok := fun _ => True) (okp := fun _ => True) ?hr ?hp (fun _ hk => hk) trivial (Below.refl _ _) (Nat.le_refl _) (by simp) ?_; (case hd => rfl); (case hg => rfl); (case hr => first | (go_simp; done) | (go_simp; rfl)); (case hp => exact (Reps.one (show Kd.M (Kd.int .u8) _ _ _ a0_4 [.int .u8 a0_4] from rfl) (Reps.none _ _))); intro v115 w57 ho58 hb hg_ hnew_; clear hg_ hnew_; (first | rw [← Ny114.out] at ho58 | (simp only [Int.reduceToNat] at ho58; rw [← Ny114.out] at ho58)); have n0_ := Aside0.mk (Kd.R_lower ho58 (below_size (by repeat (first | (with_reducible first | exact HB.out | apply below_alloc | apply pw_below_drewN | apply below_drew1 | refine below_set ?_ GE105.out) | exact HB.out)))); have n1_ := Aside0.mk (blk_below (g := gb105) (o := .cells #[.int .u8 a0_0, .int .u32 a0_1, .string a0_2, .int .u64 a0_3, .int .u8 a0_4, .slice A0_5 l0_5.length c0_5] 26 (0, 0)) (by (with_reducible repeat (first | refine blk_drewN ?_ _ | refine blk_drew ?_ | refine blk_alloc ?_ _)); exact BK105.out) hb); have n2_ := Aside0.mk (below_step (by repeat (first | (with_reducible first | exact HB.out | apply below_alloc | apply pw_below_drewN | apply below_drew1 | refine below_set ?_ GE105.out) | exact HB.out)) hb); clear BK105; clear HB; have HO116 := n0_; have BK105 := n1_; have HB := n2_; clear n0_ n1_ n2_; clear hb ho58; have hcv59 := own_string (P := Tryd.prog) Tryd.underlying24 Tryd.underlying5 Tryd.underlying9 (Kd.own_of_R HO116.out); have hcz60_0 : w57.cell? ⟨gb105, 0, none⟩ = some (.int .u8 a0_0) := (blk_cell BK105.out 0).trans rfl; have hcz60_1 : w57.cell? ⟨gb105, 1, none⟩ = some (.int .u32 a0_1) := (blk_cell BK105.out 1).trans rfl; have hcz60_2 : w57.cell? ⟨gb105, 2, none⟩ = some (.string a0_2) := (blk_cell BK105.out 2).trans rfl; have hcz60_3 : w57.cell? ⟨gb105, 3, none⟩ = some (.int .u64 a0_3) := (blk_cell BK105.out 3).trans rfl; have hcz60_4 : w57.cell? ⟨gb105, 4, none⟩ = some (.int .u8 a0_4) := (blk_cell BK105.out 4).trans rfl; have hcz60_5 : w57.cell? ⟨gb105, 5, none⟩ = some (.slice A0_5 l0_5.length c0_5) := (blk_cell BK105.out 5).trans rfl; have hfz60_0 := blk_frozen BK105.out 0; have hfz60_1 := blk_frozen BK105.out 1; have hfz60_2 := blk_frozen BK105.out 2; have hfz60_3 := blk_frozen BK105.out 3; have hfz60_4 := blk_frozen BK105.out 4; have hfz60_5 := blk_frozen BK105.out 5; have hcv61 := Kd.C_string (P := Tryd.prog) (A := A0_5) (c := c0_5) Tryd.underlying24 Tryd.underlying5 Tryd.underlying9 (Kd.C_below HR0_5.out HB.out)))
          go_ret
          exact ⟨by first | rfl | (simp [errW_none, errW_some] <;> rfl) | (simp [*, errW_none, errW_some] <;> rfl), by repeat (first | (with_reducible first | exact HB.out | apply below_alloc | apply pw_below_drewN | apply below_drew1 | refine below_set ?_ GE105.out) | exact HB.out)⟩
         ·rw [if_neg c55] at H
          exact absurd H (by simp)
        ·rw [if_neg c54] at H
         exact absurd H (by simp)
       ·rw [if_neg c53] at H
        have c53b0 : (a0_0 == 8) = false := beq_eq_false_iff_ne.mpr c53
        have c53b1 : (a0_0 != 8) = true := bne_iff_ne.mpr c53
        by_cases c62 : ((strOfNums y106) ++ t109).size + (strOfNums l0_5).size ≤ 9223372036854775807
        ·rw [if_pos c62] at H
         have c62b0 := eq_true c62
         have c62b1 : decide (((strOfNums y106) ++ t109).size + (strOfNums l0_5).size ≤ 9223372036854775807) = true := decide_eq_true c62
         try have c62b2 : (9223372036854775807 < ((strOfNums y106) ++ t109).size + (strOfNums l0_5).size) = False := eq_false (Nat.not_lt.2 c62)
         try (have c62b2s := c62b2; simp only [ByteArray.size_append] at c62b2s)
         obtain rfl := Option.some.inj H
         have hcz63_0 : wc.cell? ⟨gb105, 0, none⟩ = some (.int .u8 a0_0) := (blk_cell BK105.out 0).trans rfl
         have hcz63_1 : wc.cell? ⟨gb105, 1, none⟩ = some (.int .u32 a0_1) := (blk_cell BK105.out 1).trans rfl
         have hcz63_2 : wc.cell? ⟨gb105, 2, none⟩ = some (.string a0_2) := (blk_cell BK105.out 2).trans rfl
         have hcz63_3 : wc.cell? ⟨gb105, 3, none⟩ = some (.int .u64 a0_3) := (blk_cell BK105.out 3).trans rfl
         have hcz63_4 : wc.cell? ⟨gb105, 4, none⟩ = some (.int .u8 a0_4) := (blk_cell BK105.out 4).trans rfl
         have hcz63_5 : wc.cell? ⟨gb105, 5, none⟩ = some (.slice A0_5 l0_5.length c0_5) := (blk_cell BK105.out 5).trans rfl
         have hfz63_0 := blk_frozen BK105.out 0
         have hfz63_1 := blk_frozen BK105.out 1
         have hfz63_2 := blk_frozen BK105.out 2
         have hfz63_3 := blk_frozen BK105.out 3
         have hfz63_4 := blk_frozen BK105.out 4
         have hfz63_5 := blk_frozen BK105.out 5
         have hcv64 := Kd.C_string (P := Tryd.prog) (A := A0_5) (c := c0_5) Tryd.underlying24 Tryd.underlying5 Tryd.underlying9 (Kd.C_below HR0_5.out HB.out)
         go_wp2
         go_ret
         exact ⟨by first | rfl | (simp [errW_none, errW_some] <;> rfl) | (simp [*, errW_none, errW_some] <;> rfl), by repeat (first | (with_reducible first | exact HB.out | apply below_alloc | apply pw_below_drewN | apply below_drew1 | refine below_set ?_ GE105.out) | exact HB.out)⟩
        ·rw [if_neg c62] at H
         exact absurd H (by simp)
 ·rw [if_neg c3] at H
  exact absurd H (by simp)

end Go.Proofs.YtkgedjaihimafaaDoor.QCmdP
