/- Texts of this claim, put together: CmdGet, CmdGiven, CmdRefG, CmdRefGet. -/
import Derived.Test.YtkgedjaihimafaaDoorMCommandGets6
import Derived.Test.YtkgedjaihimafaaDoorMCommandGets5
/- command.Get, walked. -/
namespace Go.Proofs.YtkgedjaihimafaaDoor
set_option linter.unusedVariables false
set_option linter.unusedSimpArgs false
open Go.RowKit Go.Proofs.YtkgedjaihimafaaDoorW.PrintWords Go.Proofs.YtkgedjaihimafaaDoor.QCmd

/-- What Get leaves. -/
def GetPost (w : World) (r : Int × Int × ByteArray × Int × Int × List Int × Int × Bool) (e : Ending) (w' : World) : Prop :=
  (∃ v, e = .returned (.tuple #[.agg #[.int .u8 r.1, .int .u32 r.2.1, .string r.2.2.1, .int .u64 r.2.2.2.1, .int .u8 r.2.2.2.2.1, v], .int .u8 r.2.2.2.2.2.2.1, .bool r.2.2.2.2.2.2.2]) ∧
    w'.ownsRow w.heap.size 5 1 v r.2.2.2.2.2.1.length (nums .u8 r.2.2.2.2.2.1)) ∧ Below w.heap.size w w'

/-- What Get answers behind a whole head. -/
def getT (kind id : Int) : Option (ByteArray × Int × Int × List Int) → Int × Int × ByteArray × Int × Int × List Int × Int × Bool
  | none => (0, 0, ⟨#[]⟩, 0, 0, [], 0, false)
  | some (topic, seq, code, pay) =>
    if (kind = 1 ∨ kind = 3) ∧ topicOk topic = false then (kind, id, ⟨#[]⟩, 0, 0, [], 1, false)
    else if kind = 3 ∧ 2048 < pay.length then (kind, id, ⟨#[]⟩, 0, 0, [], 5, false)
    else if cmdOk kind topic seq code pay = true then (kind, id, topic, seq, code, pay, 0, true)
    else (0, 0, ⟨#[]⟩, 0, 0, [], 0, false)
theorem getR_long {l : List Int} (h5 : ¬ l.length < 5) : getR l = getT (l.getD 0 0) (valL ((l.take 5).drop 1)) (restR (l.getD 0 0) (l.drop 5)) := by
  unfold getR
  rw [if_neg h5]
  generalize restR (l.getD 0 0) (l.drop 5) = r
  rcases r with _ | ⟨topic, seq, code, pay⟩ <;> rfl

/-- Behind rest: the result's block, the bare command's, the command's. -/
structure Aft (w W : World) (gb : Nat) (kind id : Int) (topic : ByteArray) (seq code : Int) (pay : List Int) (v : Value) : Prop where
  z : W.heap[w.heap.size]? = some (.cells (cmdC 0 0 ⟨#[]⟩ 0 0 (.slice none 0 0)) 26 (0, 0))
  b : W.heap[gb]? = some (.cells (cmdC kind id ⟨#[]⟩ 0 0 (.slice none 0 0)) 26 (0, 0))
  is : IsCmd W w.heap.size (w.heap.size + 1) kind id topic seq code pay v
  bel : Below w.heap.size w W
theorem Aft.below {w W W' : World} {gb : Nat} {kind id : Int} {topic : ByteArray} {seq code : Int} {pay : List Int} {v : Value} (h : Aft w W gb kind id topic seq code pay v) (hb : Below W.heap.size W W') : Aft w W' gb kind id topic seq code pay v :=
  ⟨blk_below h.z hb, blk_below h.b hb, ⟨blk_below h.is.blk hb, pw_own_below h.is.own hb⟩, h.bel.trans (hb.mono h.bel.size)⟩
/-- The result's cells, written. -/
abbrev put6 (W : World) (g : Nat) (k i : Int) (t : ByteArray) (q c : Int) (v : Value) : World := (((((W.setCell ⟨g, 0, none⟩ (.int .u8 k)).setCell ⟨g, 1, none⟩ (.int .u32 i)).setCell ⟨g, 2, none⟩ (.string t)).setCell ⟨g, 3, none⟩ (.int .u64 q)).setCell ⟨g, 4, none⟩ (.int .u8 c)).setCell ⟨g, 5, none⟩ v
theorem put6_blk {W : World} {g : Nat} {k' i' q' c' : Int} {t' : ByteArray} {v' : Value} (h : W.heap[g]? = some (.cells (cmdC k' i' t' q' c' v') 26 (0, 0))) (k i : Int) (t : ByteArray) (q c : Int) (v : Value) :
    (put6 W g k i t q c v).heap[g]? = some (.cells (cmdC k i t q c v) 26 (0, 0)) := blk_set (blk_set (blk_set (blk_set (blk_set (blk_set h 0 _) 1 _) 2 _) 3 _) 4 _) 5 _
theorem put6_below {B : Nat} {w W : World} {g : Nat} (h : Below B w W) (hg : B ≤ g) (k i : Int) (t : ByteArray) (q c : Int) (v : Value) : Below B w (put6 W g k i t q c v) :=
  (((((h.setCell (p := ⟨g, 0, none⟩) hg _).setCell (p := ⟨g, 1, none⟩) hg _).setCell (p := ⟨g, 2, none⟩) hg _).setCell (p := ⟨g, 3, none⟩) hg _).setCell (p := ⟨g, 4, none⟩) hg _).setCell (p := ⟨g, 5, none⟩) hg _
theorem put6_own {W : World} {g base n : Nat} {v : Value} {xs : List Value} (h : W.ownsRow base 5 1 v n xs) (hne : some g ≠ v.ownBlock) (k i : Int) (t : ByteArray) (q c : Int) (u : Value) : (put6 W g k i t q c u).ownsRow base 5 1 v n xs :=
  own_setCell (own_setCell (own_setCell (own_setCell (own_setCell (own_setCell h hne _) hne _) hne _) hne _) hne _) hne _

theorem topics_calls (w : World) (k : Int) (hk : 0 ≤ k ∧ k ≤ 255) : Calls Tryd.prog 37 #[.int .u8 k] w fun e w' => e = .returned (.bool (decide (k = 1 ∨ k = 3))) ∧ w = w' := by
  by_cases h1 : k = 1
  · subst h1
    go_enter Tryd.func37, Tryd.ntmps37
    go_wp2
    go_ret
    exact ⟨rfl, rfl⟩
  · have b1 : (k == 1) = false := by simpa using h1
    have e : decide (k = 1 ∨ k = 3) = (k == 3) := by
      rw [Bool.eq_iff_iff, decide_eq_true_iff, beq_iff_eq]
      omega
    rw [e]
    clear e
    go_enter Tryd.func37, Tryd.ntmps37
    go_wp2
    go_ret
    exact ⟨rfl, rfl⟩
theorem cmay_calls (w : World) (base : Nat) (kind id : Int) (topic : ByteArray) (seq code : Int) (pay : List Int) (A : Option Addr) (c : Nat) (hk : 0 ≤ kind) (hc : 0 ≤ code) (ht : topic.size ≤ 1000000000) (hO : w.ownsRow base 5 1 (.slice A pay.length c) pay.length (nums .u8 pay)) :
    Calls Tryd.prog 17 #[.agg (cmdC kind id topic seq code (.slice A pay.length c))] w fun e w' => e = .returned (.bool (cmdOk kind topic seq code pay)) ∧ Below w.heap.size w w' := by
  obtain ⟨k, hk'⟩ := (ev_cmdMay kind id topic seq code pay hk hc ht).rounds
  exact command_May.calls k kind id topic seq code A c pay _ w (Kd.C_of_reads (d := (0 : Int)) (h1 := fun _ => rfl) (own_reads' hO)) (own_cap hO) hk'

theorem get_short (w : World) (A : Option Addr) (c : Nat) (l : List Int) (h5 : l.length < 5) :
    Calls Tryd.prog 14 #[.slice A l.length c] w (GetPost w (0, 0, ⟨#[]⟩, 0, 0, [], 0, false)) := by
  refine of_post0 fun R hRR => ?_
  have HP := Lib.hid hRR
  have c1 : decide ((l.length : Int) < 5) = true := by rw [decide_eq_true_iff]; omega
  clear hRR h5
  go_enter Tryd.func14, Tryd.ntmps14
  go_wp2_with fail
  refine bodyPost_ret (results_ctt rfl _ _ w.heap.size 26 #[.int .u8 0, .int .u32 0, .string ⟨#[]⟩, .int .u64 0, .int .u8 0, .slice none 0 0] (0, 0) _ rfl (blk_new w _) Tryd.underlying26 rfl (by kernel_rfl)) rfl (HP.out _ _ ⟨⟨_, rfl, own_nil _ _ _ _⟩, Below.alloc (Below.refl _ _) (Nat.le_refl _) _⟩)

/-- Behind the head's region, in its second order. -/
def six (w : World) (n : Nat) (kind id : Int) : World := (((((((((w.alloc (.cells (cmdC 0 0 ⟨#[]⟩ 0 0 (.slice none 0 0)) 26)).alloc (.cells (cmdC 0 0 ⟨#[]⟩ 0 0 (.slice none 0 0)) 26)).drewN (1 + n)).setCell ⟨w.heap.size + 1, 0, none⟩ (.int .u8 kind)).setCell ⟨w.heap.size + 1, 1, none⟩ (.int .u32 id)).setCell ⟨w.heap.size + 1, 2, none⟩ (.string ⟨#[]⟩)).setCell ⟨w.heap.size + 1, 3, none⟩ (.int .u64 0)).setCell ⟨w.heap.size + 1, 4, none⟩ (.int .u8 0)).setCell ⟨w.heap.size + 1, 5, none⟩ (.slice none 0 0))
theorem six_is (w : World) (n : Nat) (kind id : Int) : Below w.heap.size w (six w n kind id) ∧ (six w n kind id).heap[w.heap.size]? = some (.cells (cmdC 0 0 ⟨#[]⟩ 0 0 (.slice none 0 0)) 26 (0, 0)) ∧
    (six w n kind id).heap[w.heap.size + 1]? = some (.cells (cmdC kind id ⟨#[]⟩ 0 0 (.slice none 0 0)) 26 (0, 0)) ∧ (six w n kind id).heap.size = w.heap.size + 1 + 1 := by
  have hne : ∀ j, w.heap.size ≠ (⟨w.heap.size + 1, j, none⟩ : Addr).block := fun j => by show w.heap.size ≠ w.heap.size + 1; omega
  have hle : ∀ j, w.heap.size ≤ (⟨w.heap.size + 1, j, none⟩ : Addr).block := fun j => Nat.le_succ _
  have z := blk_drewN (blk_alloc (blk_new w (.cells (cmdC 0 0 ⟨#[]⟩ 0 0 (.slice none 0 0)) 26)) (.cells (cmdC 0 0 ⟨#[]⟩ 0 0 (.slice none 0 0)) 26)) (1 + n)
  have c := blk_drewN (blk_new1 w (.cells (cmdC 0 0 ⟨#[]⟩ 0 0 (.slice none 0 0)) 26) (.cells (cmdC 0 0 ⟨#[]⟩ 0 0 (.slice none 0 0)) 26)) (1 + n)
  unfold six
  refine ⟨?_, ?_, ?_, by simp [World.setCell]⟩
  · exact ((((((pw_below_drewN (below_alloc (below_alloc (Below.refl _ _) _) _) _).setCell (hle 0) _).setCell (hle 1) _).setCell (hle 2) _).setCell (hle 3) _).setCell (hle 4) _).setCell (hle 5) _
  · exact blk_far (blk_far (blk_far (blk_far (blk_far (blk_far z (hne 0) _) (hne 1) _) (hne 2) _) (hne 3) _) (hne 4) _) (hne 5) _
  · exact blk_set (blk_set (blk_set (blk_set (blk_set (blk_set c 0 _) 1 _) 2 _) 3 _) 4 _) 5 _

set_option maxHeartbeats 1000000 in
set_option maxRecDepth 100000 in
theorem get_long (w : World) (A : Option Addr) (c : Nat) (l : List Int) (h5 : ¬ l.length < 5) (hl : l.length ≤ 100000) (hlc : l.length ≤ c) (hR : ReadsInt w .u8 A l.length l) (hby : ∀ x ∈ l, 0 ≤ x ∧ x ≤ 255)
    (kind : Int) (hkind : l.getD 0 0 = kind) (id : Int) (hid : valL ((l.take 5).drop 1) = id) (hid0 : 0 ≤ id) (hid1 : id ≤ 4294967295) (r : Option (ByteArray × Int × Int × List Int)) (hr : restR kind (l.drop 5) = r) :
    Calls Tryd.prog 14 #[.slice A l.length c] w (GetPost w (getR l)) := by
  refine of_post0 fun R hRR => ?_
  have HP := Lib.hid hRR
  have c1 : decide ((l.length : Int) < 5) = false := by rw [decide_eq_false_iff_not]; omega
  obtain ⟨i0, hi, _, hsz, _⟩ := info_parts Tryd.infoB8
  obtain ⟨A1, hcut1, hr1, hm1⟩ := print_mid_int (P := Tryd.prog) (k := .u8) 24 5 Tryd.underlying24 hi hsz A c l 1 5 (by decide) (by decide) (by omega) hlc
  obtain ⟨A2, hcut2, hr2, hm2⟩ := print_drop_of (P := Tryd.prog) (Value.int .u8) (0 : Int) 24 5 .i64 Tryd.underlying24 hi hsz A c l 5 (by decide) (by omega) hlc
  obtain ⟨ad, rfl, hc⟩ := hR.2.2 (by omega)
  have hc0 := hc 0 (by omega)
  have ha : ad.add 0 = ad := by unfold Addr.add; rfl
  rw [ha, hkind] at hc0
  have hk := hby _ (getD0_mem (show 0 < l.length by omega))
  rw [hkind] at hk
  rw [show (5 : Int).toNat = 5 from rfl, show (1 : Int).toNat = 1 from rfl] at *
  generalize hL1 : (l.take 5).drop 1 = L1 at *
  generalize hL2 : l.drop 5 = L2 at *
  have hl2 : L2.length ≤ 100000 := by rw [← hL2, List.length_drop]; omega
  have hby2 : Byte8 L2 := fun x hx => by
    rw [← hL2] at hx
    exact hby x (List.mem_of_mem_drop hx)
  have HR2 := Lib.hid (And.intro (hr2 w hR) (And.intro hm2 (And.intro hl2 hby2)))
  have HG := Lib.hid (show getR l = getT kind id r by rw [getR_long h5, hkind, hL2, hr, hL1, hid])
  have HRR := Lib.hid hr
  have hE2 : Elsewhere A2 L2.length (w.heap.size + 1) := far_int HR2.out.1 (Nat.le_succ _)
  have hl1 : L1.length ≤ 8 := by rw [← hL1, List.length_drop, List.length_take]; omega
  have hby1 : ∀ x ∈ L1, 0 ≤ x ∧ x ≤ 255 := fun x hx => by
    rw [← hL1] at hx
    exact hby x (List.mem_of_mem_take (List.mem_of_mem_drop hx))
  have hV : ∀ W, Below w.heap.size w W → Calls Tryd.prog 35 #[.slice A1 L1.length (c - 1)] W fun e w' => e = .returned (.int .u64 id) ∧ Drawn0 W w' := fun W hW => by
    rw [← hid]
    exact value_calls W A1 (c - 1) L1 hl1 hby1 (hr1 W (hR.below hW)) hm1
  have HV := Lib.hid hV
  have hS : ∀ W, Below w.heap.size w W → W.cell? ad = some (.int .u8 kind) := fun W hW => by
    have h := (hR.below hW).2.2 (by omega)
    obtain ⟨ad', e, h⟩ := h
    cases e
    have h := h 0 (by omega)
    rw [ha, hkind] at h
    exact h
  have HS := Lib.hid hS
  have HE := Lib.hid (And.intro hE2 hk)
  have b5 : (0 : Int) < (l.length : Int) := by omega
  have b6 : 0 < l.length := by omega
  have b7 : (1 : Int) ≤ (l.length : Int) := by omega
  clear hS hV hRR hR hr1 hr2 hm1 hm2 hby hby1 hi hsz hc hE2 hL1 hL2 hl2 hby2 hr hid hkind h5 ha
  have HW32 := Lib.hid (show IntKind.u32.wrap id = id by simp [IntKind.wrap, IntKind.bits, IntKind.signed]; omega)
  go_enter Tryd.func14, Tryd.ntmps14
  go_wp2_with fail
  go_region_held3 (fun w' => w'.cell? ad = some (.int .u8 kind))
    (exact HS.out _ (by repeat (first | (with_reducible exact Below.refl _ _) | (with_reducible apply below_drew1) | (with_reducible apply pw_below_drewN) | (with_reducible refine Below.setCell ?_ (by first | exact Nat.le_refl _ | (simp; done) | (simp; omega)) _) | (with_reducible refine Below.alloc ?_ (by first | exact Nat.le_refl _ | (simp; done) | (simp; omega)) _))))
    ((go_at_call 35; refine (HV.out _ (by repeat (first | (with_reducible exact Below.refl _ _) | (with_reducible apply below_drew1) | (with_reducible apply pw_below_drewN) | (with_reducible refine Below.setCell ?_ (by first | exact Nat.le_refl _ | (simp; done) | (simp; omega)) _) | (with_reducible refine Below.alloc ?_ (by first | exact Nat.le_refl _ | (simp; done) | (simp; omega)) _)))).mono ?_; rintro e w1 ⟨rfl, n, rfl⟩))
  all_goals
    rename_i K hK hHeld
    clear hHeld
    refine hK _ _ ?_
    clear hK K
    rw [HW32.out]
  · have hb2 : Below w.heap.size w (((w.alloc (.cells (cmdC 0 0 ⟨#[]⟩ 0 0 (.slice none 0 0)) 26)).drewN (1 + n)).alloc (.cells (cmdC kind id ⟨#[]⟩ 0 0 (.slice none 0 0)) 26)) := below_alloc (pw_below_drewN (below_alloc (Below.refl _ _) _) _) _
    have z2 : (((w.alloc (.cells (cmdC 0 0 ⟨#[]⟩ 0 0 (.slice none 0 0)) 26)).drewN (1 + n)).alloc (.cells (cmdC kind id ⟨#[]⟩ 0 0 (.slice none 0 0)) 26)).heap[w.heap.size]? = some (.cells (cmdC 0 0 ⟨#[]⟩ 0 0 (.slice none 0 0)) 26 (0, 0)) := blk_alloc (blk_drewN (blk_new w _) _) _
    have c2 : (((w.alloc (.cells (cmdC 0 0 ⟨#[]⟩ 0 0 (.slice none 0 0)) 26)).drewN (1 + n)).alloc (.cells (cmdC kind id ⟨#[]⟩ 0 0 (.slice none 0 0)) 26)).heap[w.heap.size + 1]? = some (.cells (cmdC kind id ⟨#[]⟩ 0 0 (.slice none 0 0)) 26 (0, 0)) := blk_at _ (by simp)
    have s2 : (((w.alloc (.cells (cmdC 0 0 ⟨#[]⟩ 0 0 (.slice none 0 0)) 26)).drewN (1 + n)).alloc (.cells (cmdC kind id ⟨#[]⟩ 0 0 (.slice none 0 0)) 26)).heap.size = w.heap.size + 1 + 1 := by simp
    generalize (((w.alloc (.cells (cmdC 0 0 ⟨#[]⟩ 0 0 (.slice none 0 0)) 26)).drewN (1 + n)).alloc (.cells (cmdC kind id ⟨#[]⟩ 0 0 (.slice none 0 0)) 26)) = W2 at *
    have H2 := Lib.hid (And.intro hb2 (And.intro z2 (And.intro c2 s2)))
    clear hb2 z2 c2 s2
    have q0 := blk_cell H2.out.2.2.1 0
    have q1 := blk_cell H2.out.2.2.1 1
    have q2 := blk_cell H2.out.2.2.1 2
    have q3 := blk_cell H2.out.2.2.1 3
    have q4 := blk_cell H2.out.2.2.1 4
    have q5 := blk_cell H2.out.2.2.1 5
    simp at q0 q1 q2 q3 q4 q5
    go_wp2_with fail
    have hbA := below_alloc H2.out.1 (.cells (cmdC kind id ⟨#[]⟩ 0 0 (.slice none 0 0)) 26)
    refine (rest_calls _ w.heap.size (w.heap.size + 1) kind id A2 (c - 5) L2 (Nat.le_succ _) HE.out.2 ⟨blk_alloc H2.out.2.2.1 _, own_nil _ _ _ _⟩ HR2.out.2.2.1 HR2.out.2.1 (HR2.out.1.below hbA) HE.out.1 HR2.out.2.2.2).mono ?_
    rintro e w3 ⟨⟨hb3, hk3⟩, hm⟩
    rw [HRR.out] at hm
    have hz3 := hk3.blk (blk_alloc H2.out.2.1 _) (Nat.ne_of_lt (Nat.lt_succ_self _)) (by simp)
    have hc3 := hk3.blk (blk_new W2 (.cells (cmdC kind id ⟨#[]⟩ 0 0 (.slice none 0 0)) 26)) (by rw [H2.out.2.2.2]; exact Nat.ne_of_gt (Nat.lt_succ_self _)) (by simp)
    have hB3 := hbA.trans hb3
    clear hb3 hk3 hbA q0 q1 q2 q3 q4 q5
    have HGG := HG.out
    rcases r with _ | ⟨topic, seq, code, pay⟩
    · simp only [getT] at hm HGG
      subst hm
      have z0 := blk_cell hz3 0
      have z1 := blk_cell hz3 1
      have z2 := blk_cell hz3 2
      have z3 := blk_cell hz3 3
      have z4 := blk_cell hz3 4
      have z5 := blk_cell hz3 5
      have zf0 := blk_frozen hz3 0
      have zf1 := blk_frozen hz3 1
      have zf2 := blk_frozen hz3 2
      have zf3 := blk_frozen hz3 3
      have zf4 := blk_frozen hz3 4
      have zf5 := blk_frozen hz3 5
      simp at z0 z1 z2 z3 z4 z5
      have HZ := Lib.hid hz3
      have H3 := Lib.hid hB3
      have HGN := Lib.hid HGG
      clear hz3 hc3 hB3 HGG HG HRR
      go_wp2_with fail
      refine bodyPost_ret (results_ctt rfl _ _ w.heap.size 26 (cmdC 0 0 ⟨#[]⟩ 0 0 (.slice none 0 0)) (0, 0) _ rfl (put6_blk HZ.out 0 0 ⟨#[]⟩ 0 0 (.slice none 0 0)) Tryd.underlying26 rfl (by kernel_rfl)) rfl (HP.out _ _ ?_)
      rw [HGN.out]
      exact ⟨⟨_, rfl, own_nil _ _ _ _⟩, put6_below H3.out (Nat.le_refl _) 0 0 ⟨#[]⟩ 0 0 (.slice none 0 0)⟩
    · simp only [getT] at hm HGG
      obtain ⟨rfl, v, hIs⟩ := hm
      obtain ⟨A3, c3, rfl⟩ := own_slice hIs.own
      have hin := restR_in HR2.out.2.2.2 HRR.out
      have HIN := Lib.hid (And.intro HE.out.2.1 (And.intro hin.2.1.1 (show topic.size ≤ 1000000000 by have := hin.2.2.2.2; have := HR2.out.2.2.1; omega)))
      have hpl9 : pay.length ≤ 100000 := by have := hin.2.2.2.1; have := HR2.out.2.2.1; omega
      have HA := Lib.hid (Aft.mk hz3 hc3 hIs hB3)
      have HGS := Lib.hid HGG
      clear hz3 hc3 hB3 hIs HGG HG HRR hin
      have z0 := blk_cell HA.out.z 0
      have z1 := blk_cell HA.out.z 1
      have z2 := blk_cell HA.out.z 2
      have z3 := blk_cell HA.out.z 3
      have z4 := blk_cell HA.out.z 4
      have z5 := blk_cell HA.out.z 5
      have zf0 := blk_frozen HA.out.z 0
      have zf1 := blk_frozen HA.out.z 1
      have zf2 := blk_frozen HA.out.z 2
      have zf3 := blk_frozen HA.out.z 3
      have zf4 := blk_frozen HA.out.z 4
      have zf5 := blk_frozen HA.out.z 5
      simp at z0 z1 z2 z3 z4 z5
      have y0 := blk_cell HA.out.b 0
      have y1 := blk_cell HA.out.b 1
      have y2 := blk_cell HA.out.b 2
      have y3 := blk_cell HA.out.b 3
      have y4 := blk_cell HA.out.b 4
      have y5 := blk_cell HA.out.b 5
      simp at y0 y1 y2 y3 y4 y5
      have x0 := blk_cell HA.out.is.blk 0
      have x1 := blk_cell HA.out.is.blk 1
      have x2 := blk_cell HA.out.is.blk 2
      have x3 := blk_cell HA.out.is.blk 3
      have x4 := blk_cell HA.out.is.blk 4
      have x5 := blk_cell HA.out.is.blk 5
      simp at x0 x1 x2 x3 x4 x5
      go_wp2_with fail
      refine (topics_calls _ kind HE.out.2).mono ?_
      rintro e w4 ⟨rfl, rfl⟩
      by_cases hT : kind = 1 ∨ kind = 3
      · rw [decide_eq_true hT]
        cases htok : topicOk topic
        · have HG1 := Lib.hid (HGS.out.trans (if_pos ⟨hT, htok⟩))
          have HTK := Lib.hid htok
          clear hT htok
          go_wp2_with fail
          refine (may_calls _ topic HIN.out.2.2).mono ?_
          rintro e w4 ⟨rfl, hb4⟩
          rw [HTK.out]
          have HA4 := Lib.hid (HA.out.below hb4)
          clear hb4 HTK
          clear z0 z1 z2 z3 z4 z5 y0 y1 y2 y3 y4 y5 x0 x1 x2 x3 x4 x5 zf0 zf1 zf2 zf3 zf4 zf5
          have z0 := blk_cell HA4.out.z 0
          have z1 := blk_cell HA4.out.z 1
          have z2 := blk_cell HA4.out.z 2
          have z3 := blk_cell HA4.out.z 3
          have z4 := blk_cell HA4.out.z 4
          have z5 := blk_cell HA4.out.z 5
          have zf0 := blk_frozen HA4.out.z 0
          have zf1 := blk_frozen HA4.out.z 1
          have zf2 := blk_frozen HA4.out.z 2
          have zf3 := blk_frozen HA4.out.z 3
          have zf4 := blk_frozen HA4.out.z 4
          have zf5 := blk_frozen HA4.out.z 5
          simp at z0 z1 z2 z3 z4 z5
          have y0 := blk_cell HA4.out.b 0
          have y1 := blk_cell HA4.out.b 1
          have y2 := blk_cell HA4.out.b 2
          have y3 := blk_cell HA4.out.b 3
          have y4 := blk_cell HA4.out.b 4
          have y5 := blk_cell HA4.out.b 5
          simp at y0 y1 y2 y3 y4 y5
          have x0 := blk_cell HA4.out.is.blk 0
          have x1 := blk_cell HA4.out.is.blk 1
          have x2 := blk_cell HA4.out.is.blk 2
          have x3 := blk_cell HA4.out.is.blk 3
          have x4 := blk_cell HA4.out.is.blk 4
          have x5 := blk_cell HA4.out.is.blk 5
          simp at x0 x1 x2 x3 x4 x5
          go_wp2_with fail
          refine bodyPost_ret (results_ctt rfl _ _ w.heap.size 26 (cmdC kind id ⟨#[]⟩ 0 0 (.slice none 0 0)) (0, 0) _ rfl (put6_blk HA4.out.z kind id ⟨#[]⟩ 0 0 (.slice none 0 0)) Tryd.underlying26 rfl (by kernel_rfl)) rfl (HP.out _ _ ?_)
          rw [HG1.out]
          exact ⟨⟨_, rfl, own_nil _ _ _ _⟩, put6_below HA4.out.bel (Nat.le_refl _) kind id ⟨#[]⟩ 0 0 (.slice none 0 0)⟩
        · have HGT := Lib.hid (HGS.out.trans (if_neg (fun h => by rw [htok] at h; exact Bool.noConfusion h.2)))
          have HTK := Lib.hid htok
          clear hT htok
          go_wp2_with fail
          refine (may_calls _ topic HIN.out.2.2).mono ?_
          rintro e w4 ⟨rfl, hb4⟩
          rw [HTK.out]
          have HA4 := Lib.hid (HA.out.below hb4)
          clear hb4 HTK
          clear z0 z1 z2 z3 z4 z5 y0 y1 y2 y3 y4 y5 x0 x1 x2 x3 x4 x5 zf0 zf1 zf2 zf3 zf4 zf5
          have z0 := blk_cell HA4.out.z 0
          have z1 := blk_cell HA4.out.z 1
          have z2 := blk_cell HA4.out.z 2
          have z3 := blk_cell HA4.out.z 3
          have z4 := blk_cell HA4.out.z 4
          have z5 := blk_cell HA4.out.z 5
          have zf0 := blk_frozen HA4.out.z 0
          have zf1 := blk_frozen HA4.out.z 1
          have zf2 := blk_frozen HA4.out.z 2
          have zf3 := blk_frozen HA4.out.z 3
          have zf4 := blk_frozen HA4.out.z 4
          have zf5 := blk_frozen HA4.out.z 5
          simp at z0 z1 z2 z3 z4 z5
          have y0 := blk_cell HA4.out.b 0
          have y1 := blk_cell HA4.out.b 1
          have y2 := blk_cell HA4.out.b 2
          have y3 := blk_cell HA4.out.b 3
          have y4 := blk_cell HA4.out.b 4
          have y5 := blk_cell HA4.out.b 5
          simp at y0 y1 y2 y3 y4 y5
          have x0 := blk_cell HA4.out.is.blk 0
          have x1 := blk_cell HA4.out.is.blk 1
          have x2 := blk_cell HA4.out.is.blk 2
          have x3 := blk_cell HA4.out.is.blk 3
          have x4 := blk_cell HA4.out.is.blk 4
          have x5 := blk_cell HA4.out.is.blk 5
          simp at x0 x1 x2 x3 x4 x5
          by_cases hP : kind = 3 ∧ 2048 < pay.length
          · obtain ⟨hk3, hpl⟩ := hP
            have bk : (kind == 3) = true := by rw [beq_iff_eq]; exact hk3
            have bl : decide ((2048 : Int) < (pay.length : Int)) = true := by rw [decide_eq_true_iff]; omega
            have bl2 : decide (2048 < pay.length) = true := by rw [decide_eq_true_iff]; omega
            have HG5 := Lib.hid (HGT.out.trans (by rw [if_pos ⟨hk3, hpl⟩] : _ = (kind, id, (⟨#[]⟩ : ByteArray), (0 : Int), (0 : Int), ([] : List Int), (5 : Int), false)))
            clear hk3 hpl
            go_wp2_with fail
            refine bodyPost_ret (results_ctt rfl _ _ w.heap.size 26 (cmdC kind id ⟨#[]⟩ 0 0 (.slice none 0 0)) (0, 0) _ rfl (put6_blk HA4.out.z kind id ⟨#[]⟩ 0 0 (.slice none 0 0)) Tryd.underlying26 rfl (by kernel_rfl)) rfl (HP.out _ _ ?_)
            rw [HG5.out]
            exact ⟨⟨_, rfl, own_nil _ _ _ _⟩, put6_below HA4.out.bel (Nat.le_refl _) kind id ⟨#[]⟩ 0 0 (.slice none 0 0)⟩
          · have HGM := Lib.hid (HGT.out.trans (if_neg hP))
            have hbb : ((kind == 3) = true ∧ decide ((2048 : Int) < (pay.length : Int)) = false) ∨ (kind == 3) = false := by
              by_cases h3 : kind = 3
              · exact .inl ⟨by rw [beq_iff_eq]; exact h3, by rw [decide_eq_false_iff_not]; omega⟩
              · exact .inr (by rw [beq_eq_false_iff_ne]; exact h3)
            clear hP
            rcases hbb with ⟨bk, bl⟩ | bk
            all_goals
              go_wp2_with fail
              refine (cmay_calls _ w.heap.size kind id topic seq code pay A3 c3 HIN.out.1 HIN.out.2.1 HIN.out.2.2 (HA4.out.is.own)).mono ?_
              rintro e w5 ⟨rfl, hb5⟩
              have HA5 := Lib.hid (HA4.out.below hb5)
              clear hb5
              clear z0 z1 z2 z3 z4 z5 y0 y1 y2 y3 y4 y5 x0 x1 x2 x3 x4 x5 zf0 zf1 zf2 zf3 zf4 zf5
              have z0 := blk_cell HA5.out.z 0
              have z1 := blk_cell HA5.out.z 1
              have z2 := blk_cell HA5.out.z 2
              have z3 := blk_cell HA5.out.z 3
              have z4 := blk_cell HA5.out.z 4
              have z5 := blk_cell HA5.out.z 5
              have zf0 := blk_frozen HA5.out.z 0
              have zf1 := blk_frozen HA5.out.z 1
              have zf2 := blk_frozen HA5.out.z 2
              have zf3 := blk_frozen HA5.out.z 3
              have zf4 := blk_frozen HA5.out.z 4
              have zf5 := blk_frozen HA5.out.z 5
              simp at z0 z1 z2 z3 z4 z5
              have y0 := blk_cell HA5.out.b 0
              have y1 := blk_cell HA5.out.b 1
              have y2 := blk_cell HA5.out.b 2
              have y3 := blk_cell HA5.out.b 3
              have y4 := blk_cell HA5.out.b 4
              have y5 := blk_cell HA5.out.b 5
              simp at y0 y1 y2 y3 y4 y5
              have x0 := blk_cell HA5.out.is.blk 0
              have x1 := blk_cell HA5.out.is.blk 1
              have x2 := blk_cell HA5.out.is.blk 2
              have x3 := blk_cell HA5.out.is.blk 3
              have x4 := blk_cell HA5.out.is.blk 4
              have x5 := blk_cell HA5.out.is.blk 5
              simp at x0 x1 x2 x3 x4 x5
              cases hok : cmdOk kind topic seq code pay
              · have HG9 := Lib.hid (HGM.out.trans (if_neg (by rw [hok]; decide)))
                clear hok
                go_wp2_with fail
                refine bodyPost_ret (results_ctt rfl _ _ w.heap.size 26 (cmdC 0 0 ⟨#[]⟩ 0 0 (.slice none 0 0)) (0, 0) _ rfl (put6_blk HA5.out.z 0 0 ⟨#[]⟩ 0 0 (.slice none 0 0)) Tryd.underlying26 rfl (by kernel_rfl)) rfl (HP.out _ _ ?_)
                rw [HG9.out]
                exact ⟨⟨_, rfl, own_nil _ _ _ _⟩, put6_below HA5.out.bel (Nat.le_refl _) 0 0 ⟨#[]⟩ 0 0 (.slice none 0 0)⟩
              · have HG9 := Lib.hid (HGM.out.trans (if_pos hok))
                clear hok
                go_wp2_with fail
                refine bodyPost_ret (results_ctt rfl _ _ w.heap.size 26 (cmdC kind id topic seq code (.slice A3 pay.length c3)) (0, 0) _ rfl (put6_blk HA5.out.z kind id topic seq code (.slice A3 pay.length c3)) Tryd.underlying26 rfl (by kernel_rfl)) rfl (HP.out _ _ ?_)
                rw [HG9.out]
                exact ⟨⟨_, rfl, put6_own HA5.out.is.own (own_ne HA5.out.is.own HA5.out.z (by decide)) kind id topic seq code (.slice A3 pay.length c3)⟩, put6_below HA5.out.bel (Nat.le_refl _) kind id topic seq code (.slice A3 pay.length c3)⟩
      · rw [decide_eq_false hT]
        have HGT := Lib.hid (HGS.out.trans (if_neg (fun h => hT h.1)))
        clear hT
        clear z0 z1 z2 z3 z4 z5 y0 y1 y2 y3 y4 y5 x0 x1 x2 x3 x4 x5 zf0 zf1 zf2 zf3 zf4 zf5
        have z0 := blk_cell HA.out.z 0
        have z1 := blk_cell HA.out.z 1
        have z2 := blk_cell HA.out.z 2
        have z3 := blk_cell HA.out.z 3
        have z4 := blk_cell HA.out.z 4
        have z5 := blk_cell HA.out.z 5
        have zf0 := blk_frozen HA.out.z 0
        have zf1 := blk_frozen HA.out.z 1
        have zf2 := blk_frozen HA.out.z 2
        have zf3 := blk_frozen HA.out.z 3
        have zf4 := blk_frozen HA.out.z 4
        have zf5 := blk_frozen HA.out.z 5
        simp at z0 z1 z2 z3 z4 z5
        have y0 := blk_cell HA.out.b 0
        have y1 := blk_cell HA.out.b 1
        have y2 := blk_cell HA.out.b 2
        have y3 := blk_cell HA.out.b 3
        have y4 := blk_cell HA.out.b 4
        have y5 := blk_cell HA.out.b 5
        simp at y0 y1 y2 y3 y4 y5
        have x0 := blk_cell HA.out.is.blk 0
        have x1 := blk_cell HA.out.is.blk 1
        have x2 := blk_cell HA.out.is.blk 2
        have x3 := blk_cell HA.out.is.blk 3
        have x4 := blk_cell HA.out.is.blk 4
        have x5 := blk_cell HA.out.is.blk 5
        simp at x0 x1 x2 x3 x4 x5
        by_cases hP : kind = 3 ∧ 2048 < pay.length
        · obtain ⟨hk3, hpl⟩ := hP
          have bk : (kind == 3) = true := by rw [beq_iff_eq]; exact hk3
          have bl : decide ((2048 : Int) < (pay.length : Int)) = true := by rw [decide_eq_true_iff]; omega
          have bl2 : decide (2048 < pay.length) = true := by rw [decide_eq_true_iff]; omega
          have HG5 := Lib.hid (HGT.out.trans (by rw [if_pos ⟨hk3, hpl⟩] : _ = (kind, id, (⟨#[]⟩ : ByteArray), (0 : Int), (0 : Int), ([] : List Int), (5 : Int), false)))
          clear hk3 hpl
          go_wp2_with fail
          refine bodyPost_ret (results_ctt rfl _ _ w.heap.size 26 (cmdC kind id ⟨#[]⟩ 0 0 (.slice none 0 0)) (0, 0) _ rfl (put6_blk HA.out.z kind id ⟨#[]⟩ 0 0 (.slice none 0 0)) Tryd.underlying26 rfl (by kernel_rfl)) rfl (HP.out _ _ ?_)
          rw [HG5.out]
          exact ⟨⟨_, rfl, own_nil _ _ _ _⟩, put6_below HA.out.bel (Nat.le_refl _) kind id ⟨#[]⟩ 0 0 (.slice none 0 0)⟩
        · have HGM := Lib.hid (HGT.out.trans (if_neg hP))
          have hbb : ((kind == 3) = true ∧ decide ((2048 : Int) < (pay.length : Int)) = false) ∨ (kind == 3) = false := by
            by_cases h3 : kind = 3
            · exact .inl ⟨by rw [beq_iff_eq]; exact h3, by rw [decide_eq_false_iff_not]; omega⟩
            · exact .inr (by rw [beq_eq_false_iff_ne]; exact h3)
          clear hP
          rcases hbb with ⟨bk, bl⟩ | bk
          all_goals
            go_wp2_with fail
            refine (cmay_calls _ w.heap.size kind id topic seq code pay A3 c3 HIN.out.1 HIN.out.2.1 HIN.out.2.2 (HA.out.is.own)).mono ?_
            rintro e w5 ⟨rfl, hb5⟩
            have HA5 := Lib.hid (HA.out.below hb5)
            clear hb5
            clear z0 z1 z2 z3 z4 z5 y0 y1 y2 y3 y4 y5 x0 x1 x2 x3 x4 x5 zf0 zf1 zf2 zf3 zf4 zf5
            have z0 := blk_cell HA5.out.z 0
            have z1 := blk_cell HA5.out.z 1
            have z2 := blk_cell HA5.out.z 2
            have z3 := blk_cell HA5.out.z 3
            have z4 := blk_cell HA5.out.z 4
            have z5 := blk_cell HA5.out.z 5
            have zf0 := blk_frozen HA5.out.z 0
            have zf1 := blk_frozen HA5.out.z 1
            have zf2 := blk_frozen HA5.out.z 2
            have zf3 := blk_frozen HA5.out.z 3
            have zf4 := blk_frozen HA5.out.z 4
            have zf5 := blk_frozen HA5.out.z 5
            simp at z0 z1 z2 z3 z4 z5
            have y0 := blk_cell HA5.out.b 0
            have y1 := blk_cell HA5.out.b 1
            have y2 := blk_cell HA5.out.b 2
            have y3 := blk_cell HA5.out.b 3
            have y4 := blk_cell HA5.out.b 4
            have y5 := blk_cell HA5.out.b 5
            simp at y0 y1 y2 y3 y4 y5
            have x0 := blk_cell HA5.out.is.blk 0
            have x1 := blk_cell HA5.out.is.blk 1
            have x2 := blk_cell HA5.out.is.blk 2
            have x3 := blk_cell HA5.out.is.blk 3
            have x4 := blk_cell HA5.out.is.blk 4
            have x5 := blk_cell HA5.out.is.blk 5
            simp at x0 x1 x2 x3 x4 x5
            cases hok : cmdOk kind topic seq code pay
            · have HG9 := Lib.hid (HGM.out.trans (if_neg (by rw [hok]; decide)))
              clear hok
              go_wp2_with fail
              refine bodyPost_ret (results_ctt rfl _ _ w.heap.size 26 (cmdC 0 0 ⟨#[]⟩ 0 0 (.slice none 0 0)) (0, 0) _ rfl (put6_blk HA5.out.z 0 0 ⟨#[]⟩ 0 0 (.slice none 0 0)) Tryd.underlying26 rfl (by kernel_rfl)) rfl (HP.out _ _ ?_)
              rw [HG9.out]
              exact ⟨⟨_, rfl, own_nil _ _ _ _⟩, put6_below HA5.out.bel (Nat.le_refl _) 0 0 ⟨#[]⟩ 0 0 (.slice none 0 0)⟩
            · have HG9 := Lib.hid (HGM.out.trans (if_pos hok))
              clear hok
              go_wp2_with fail
              refine bodyPost_ret (results_ctt rfl _ _ w.heap.size 26 (cmdC kind id topic seq code (.slice A3 pay.length c3)) (0, 0) _ rfl (put6_blk HA5.out.z kind id topic seq code (.slice A3 pay.length c3)) Tryd.underlying26 rfl (by kernel_rfl)) rfl (HP.out _ _ ?_)
              rw [HG9.out]
              exact ⟨⟨_, rfl, put6_own HA5.out.is.own (own_ne HA5.out.is.own HA5.out.z (by decide)) kind id topic seq code (.slice A3 pay.length c3)⟩, put6_below HA5.out.bel (Nat.le_refl _) kind id topic seq code (.slice A3 pay.length c3)⟩
  · have y1 : (((((((((w.alloc (.cells (cmdC 0 0 ⟨#[]⟩ 0 0 (.slice none 0 0)) 26)).alloc (.cells (cmdC 0 0 ⟨#[]⟩ 0 0 (.slice none 0 0)) 26)).drewN (1 + n)).setCell ⟨w.heap.size + 1, 0, none⟩ (.int .u8 kind)).setCell ⟨w.heap.size + 1, 1, none⟩ (.int .u32 id)).setCell ⟨w.heap.size + 1, 2, none⟩ (.string ⟨#[]⟩)).setCell ⟨w.heap.size + 1, 3, none⟩ (.int .u64 0)).setCell ⟨w.heap.size + 1, 4, none⟩ (.int .u8 0)).setCell ⟨w.heap.size + 1, 5, none⟩ (.slice none 0 0)) = six w n kind id := rfl
    rw [y1]
    obtain ⟨hb2, z2, c2, s2⟩ := six_is w n kind id
    generalize six w n kind id = W2 at *
    have H2 := Lib.hid (And.intro hb2 (And.intro z2 (And.intro c2 s2)))
    clear hb2 z2 c2 s2 y1
    have q0 := blk_cell H2.out.2.2.1 0
    have q1 := blk_cell H2.out.2.2.1 1
    have q2 := blk_cell H2.out.2.2.1 2
    have q3 := blk_cell H2.out.2.2.1 3
    have q4 := blk_cell H2.out.2.2.1 4
    have q5 := blk_cell H2.out.2.2.1 5
    simp at q0 q1 q2 q3 q4 q5
    go_wp2_with fail
    have hbA := below_alloc H2.out.1 (.cells (cmdC kind id ⟨#[]⟩ 0 0 (.slice none 0 0)) 26)
    refine (rest_calls _ w.heap.size (w.heap.size + 1) kind id A2 (c - 5) L2 (Nat.le_succ _) HE.out.2 ⟨blk_alloc H2.out.2.2.1 _, own_nil _ _ _ _⟩ HR2.out.2.2.1 HR2.out.2.1 (HR2.out.1.below hbA) HE.out.1 HR2.out.2.2.2).mono ?_
    rintro e w3 ⟨⟨hb3, hk3⟩, hm⟩
    rw [HRR.out] at hm
    have hz3 := hk3.blk (blk_alloc H2.out.2.1 _) (Nat.ne_of_lt (Nat.lt_succ_self _)) (by simp)
    have hc3 := hk3.blk (blk_new W2 (.cells (cmdC kind id ⟨#[]⟩ 0 0 (.slice none 0 0)) 26)) (by rw [H2.out.2.2.2]; exact Nat.ne_of_gt (Nat.lt_succ_self _)) (by simp)
    have hB3 := hbA.trans hb3
    clear hb3 hk3 hbA q0 q1 q2 q3 q4 q5
    have HGG := HG.out
    rcases r with _ | ⟨topic, seq, code, pay⟩
    · simp only [getT] at hm HGG
      subst hm
      have z0 := blk_cell hz3 0
      have z1 := blk_cell hz3 1
      have z2 := blk_cell hz3 2
      have z3 := blk_cell hz3 3
      have z4 := blk_cell hz3 4
      have z5 := blk_cell hz3 5
      have zf0 := blk_frozen hz3 0
      have zf1 := blk_frozen hz3 1
      have zf2 := blk_frozen hz3 2
      have zf3 := blk_frozen hz3 3
      have zf4 := blk_frozen hz3 4
      have zf5 := blk_frozen hz3 5
      simp at z0 z1 z2 z3 z4 z5
      have HZ := Lib.hid hz3
      have H3 := Lib.hid hB3
      have HGN := Lib.hid HGG
      clear hz3 hc3 hB3 HGG HG HRR
      go_wp2_with fail
      refine bodyPost_ret (results_ctt rfl _ _ w.heap.size 26 (cmdC 0 0 ⟨#[]⟩ 0 0 (.slice none 0 0)) (0, 0) _ rfl (put6_blk HZ.out 0 0 ⟨#[]⟩ 0 0 (.slice none 0 0)) Tryd.underlying26 rfl (by kernel_rfl)) rfl (HP.out _ _ ?_)
      rw [HGN.out]
      exact ⟨⟨_, rfl, own_nil _ _ _ _⟩, put6_below H3.out (Nat.le_refl _) 0 0 ⟨#[]⟩ 0 0 (.slice none 0 0)⟩
    · simp only [getT] at hm HGG
      obtain ⟨rfl, v, hIs⟩ := hm
      obtain ⟨A3, c3, rfl⟩ := own_slice hIs.own
      have hin := restR_in HR2.out.2.2.2 HRR.out
      have HIN := Lib.hid (And.intro HE.out.2.1 (And.intro hin.2.1.1 (show topic.size ≤ 1000000000 by have := hin.2.2.2.2; have := HR2.out.2.2.1; omega)))
      have hpl9 : pay.length ≤ 100000 := by have := hin.2.2.2.1; have := HR2.out.2.2.1; omega
      have HA := Lib.hid (Aft.mk hz3 hc3 hIs hB3)
      have HGS := Lib.hid HGG
      clear hz3 hc3 hB3 hIs HGG HG HRR hin
      have z0 := blk_cell HA.out.z 0
      have z1 := blk_cell HA.out.z 1
      have z2 := blk_cell HA.out.z 2
      have z3 := blk_cell HA.out.z 3
      have z4 := blk_cell HA.out.z 4
      have z5 := blk_cell HA.out.z 5
      have zf0 := blk_frozen HA.out.z 0
      have zf1 := blk_frozen HA.out.z 1
      have zf2 := blk_frozen HA.out.z 2
      have zf3 := blk_frozen HA.out.z 3
      have zf4 := blk_frozen HA.out.z 4
      have zf5 := blk_frozen HA.out.z 5
      simp at z0 z1 z2 z3 z4 z5
      have y0 := blk_cell HA.out.b 0
      have y1 := blk_cell HA.out.b 1
      have y2 := blk_cell HA.out.b 2
      have y3 := blk_cell HA.out.b 3
      have y4 := blk_cell HA.out.b 4
      have y5 := blk_cell HA.out.b 5
      simp at y0 y1 y2 y3 y4 y5
      have x0 := blk_cell HA.out.is.blk 0
      have x1 := blk_cell HA.out.is.blk 1
      have x2 := blk_cell HA.out.is.blk 2
      have x3 := blk_cell HA.out.is.blk 3
      have x4 := blk_cell HA.out.is.blk 4
      have x5 := blk_cell HA.out.is.blk 5
      simp at x0 x1 x2 x3 x4 x5
      go_wp2_with fail
      refine (topics_calls _ kind HE.out.2).mono ?_
      rintro e w4 ⟨rfl, rfl⟩
      by_cases hT : kind = 1 ∨ kind = 3
      · rw [decide_eq_true hT]
        cases htok : topicOk topic
        · have HG1 := Lib.hid (HGS.out.trans (if_pos ⟨hT, htok⟩))
          have HTK := Lib.hid htok
          clear hT htok
          go_wp2_with fail
          refine (may_calls _ topic HIN.out.2.2).mono ?_
          rintro e w4 ⟨rfl, hb4⟩
          rw [HTK.out]
          have HA4 := Lib.hid (HA.out.below hb4)
          clear hb4 HTK
          clear z0 z1 z2 z3 z4 z5 y0 y1 y2 y3 y4 y5 x0 x1 x2 x3 x4 x5 zf0 zf1 zf2 zf3 zf4 zf5
          have z0 := blk_cell HA4.out.z 0
          have z1 := blk_cell HA4.out.z 1
          have z2 := blk_cell HA4.out.z 2
          have z3 := blk_cell HA4.out.z 3
          have z4 := blk_cell HA4.out.z 4
          have z5 := blk_cell HA4.out.z 5
          have zf0 := blk_frozen HA4.out.z 0
          have zf1 := blk_frozen HA4.out.z 1
          have zf2 := blk_frozen HA4.out.z 2
          have zf3 := blk_frozen HA4.out.z 3
          have zf4 := blk_frozen HA4.out.z 4
          have zf5 := blk_frozen HA4.out.z 5
          simp at z0 z1 z2 z3 z4 z5
          have y0 := blk_cell HA4.out.b 0
          have y1 := blk_cell HA4.out.b 1
          have y2 := blk_cell HA4.out.b 2
          have y3 := blk_cell HA4.out.b 3
          have y4 := blk_cell HA4.out.b 4
          have y5 := blk_cell HA4.out.b 5
          simp at y0 y1 y2 y3 y4 y5
          have x0 := blk_cell HA4.out.is.blk 0
          have x1 := blk_cell HA4.out.is.blk 1
          have x2 := blk_cell HA4.out.is.blk 2
          have x3 := blk_cell HA4.out.is.blk 3
          have x4 := blk_cell HA4.out.is.blk 4
          have x5 := blk_cell HA4.out.is.blk 5
          simp at x0 x1 x2 x3 x4 x5
          go_wp2_with fail
          refine bodyPost_ret (results_ctt rfl _ _ w.heap.size 26 (cmdC kind id ⟨#[]⟩ 0 0 (.slice none 0 0)) (0, 0) _ rfl (put6_blk HA4.out.z kind id ⟨#[]⟩ 0 0 (.slice none 0 0)) Tryd.underlying26 rfl (by kernel_rfl)) rfl (HP.out _ _ ?_)
          rw [HG1.out]
          exact ⟨⟨_, rfl, own_nil _ _ _ _⟩, put6_below HA4.out.bel (Nat.le_refl _) kind id ⟨#[]⟩ 0 0 (.slice none 0 0)⟩
        · have HGT := Lib.hid (HGS.out.trans (if_neg (fun h => by rw [htok] at h; exact Bool.noConfusion h.2)))
          have HTK := Lib.hid htok
          clear hT htok
          go_wp2_with fail
          refine (may_calls _ topic HIN.out.2.2).mono ?_
          rintro e w4 ⟨rfl, hb4⟩
          rw [HTK.out]
          have HA4 := Lib.hid (HA.out.below hb4)
          clear hb4 HTK
          clear z0 z1 z2 z3 z4 z5 y0 y1 y2 y3 y4 y5 x0 x1 x2 x3 x4 x5 zf0 zf1 zf2 zf3 zf4 zf5
          have z0 := blk_cell HA4.out.z 0
          have z1 := blk_cell HA4.out.z 1
          have z2 := blk_cell HA4.out.z 2
          have z3 := blk_cell HA4.out.z 3
          have z4 := blk_cell HA4.out.z 4
          have z5 := blk_cell HA4.out.z 5
          have zf0 := blk_frozen HA4.out.z 0
          have zf1 := blk_frozen HA4.out.z 1
          have zf2 := blk_frozen HA4.out.z 2
          have zf3 := blk_frozen HA4.out.z 3
          have zf4 := blk_frozen HA4.out.z 4
          have zf5 := blk_frozen HA4.out.z 5
          simp at z0 z1 z2 z3 z4 z5
          have y0 := blk_cell HA4.out.b 0
          have y1 := blk_cell HA4.out.b 1
          have y2 := blk_cell HA4.out.b 2
          have y3 := blk_cell HA4.out.b 3
          have y4 := blk_cell HA4.out.b 4
          have y5 := blk_cell HA4.out.b 5
          simp at y0 y1 y2 y3 y4 y5
          have x0 := blk_cell HA4.out.is.blk 0
          have x1 := blk_cell HA4.out.is.blk 1
          have x2 := blk_cell HA4.out.is.blk 2
          have x3 := blk_cell HA4.out.is.blk 3
          have x4 := blk_cell HA4.out.is.blk 4
          have x5 := blk_cell HA4.out.is.blk 5
          simp at x0 x1 x2 x3 x4 x5
          by_cases hP : kind = 3 ∧ 2048 < pay.length
          · obtain ⟨hk3, hpl⟩ := hP
            have bk : (kind == 3) = true := by rw [beq_iff_eq]; exact hk3
            have bl : decide ((2048 : Int) < (pay.length : Int)) = true := by rw [decide_eq_true_iff]; omega
            have bl2 : decide (2048 < pay.length) = true := by rw [decide_eq_true_iff]; omega
            have HG5 := Lib.hid (HGT.out.trans (by rw [if_pos ⟨hk3, hpl⟩] : _ = (kind, id, (⟨#[]⟩ : ByteArray), (0 : Int), (0 : Int), ([] : List Int), (5 : Int), false)))
            clear hk3 hpl
            go_wp2_with fail
            refine bodyPost_ret (results_ctt rfl _ _ w.heap.size 26 (cmdC kind id ⟨#[]⟩ 0 0 (.slice none 0 0)) (0, 0) _ rfl (put6_blk HA4.out.z kind id ⟨#[]⟩ 0 0 (.slice none 0 0)) Tryd.underlying26 rfl (by kernel_rfl)) rfl (HP.out _ _ ?_)
            rw [HG5.out]
            exact ⟨⟨_, rfl, own_nil _ _ _ _⟩, put6_below HA4.out.bel (Nat.le_refl _) kind id ⟨#[]⟩ 0 0 (.slice none 0 0)⟩
          · have HGM := Lib.hid (HGT.out.trans (if_neg hP))
            have hbb : ((kind == 3) = true ∧ decide ((2048 : Int) < (pay.length : Int)) = false) ∨ (kind == 3) = false := by
              by_cases h3 : kind = 3
              · exact .inl ⟨by rw [beq_iff_eq]; exact h3, by rw [decide_eq_false_iff_not]; omega⟩
              · exact .inr (by rw [beq_eq_false_iff_ne]; exact h3)
            clear hP
            rcases hbb with ⟨bk, bl⟩ | bk
            all_goals
              go_wp2_with fail
              refine (cmay_calls _ w.heap.size kind id topic seq code pay A3 c3 HIN.out.1 HIN.out.2.1 HIN.out.2.2 (HA4.out.is.own)).mono ?_
              rintro e w5 ⟨rfl, hb5⟩
              have HA5 := Lib.hid (HA4.out.below hb5)
              clear hb5
              clear z0 z1 z2 z3 z4 z5 y0 y1 y2 y3 y4 y5 x0 x1 x2 x3 x4 x5 zf0 zf1 zf2 zf3 zf4 zf5
              have z0 := blk_cell HA5.out.z 0
              have z1 := blk_cell HA5.out.z 1
              have z2 := blk_cell HA5.out.z 2
              have z3 := blk_cell HA5.out.z 3
              have z4 := blk_cell HA5.out.z 4
              have z5 := blk_cell HA5.out.z 5
              have zf0 := blk_frozen HA5.out.z 0
              have zf1 := blk_frozen HA5.out.z 1
              have zf2 := blk_frozen HA5.out.z 2
              have zf3 := blk_frozen HA5.out.z 3
              have zf4 := blk_frozen HA5.out.z 4
              have zf5 := blk_frozen HA5.out.z 5
              simp at z0 z1 z2 z3 z4 z5
              have y0 := blk_cell HA5.out.b 0
              have y1 := blk_cell HA5.out.b 1
              have y2 := blk_cell HA5.out.b 2
              have y3 := blk_cell HA5.out.b 3
              have y4 := blk_cell HA5.out.b 4
              have y5 := blk_cell HA5.out.b 5
              simp at y0 y1 y2 y3 y4 y5
              have x0 := blk_cell HA5.out.is.blk 0
              have x1 := blk_cell HA5.out.is.blk 1
              have x2 := blk_cell HA5.out.is.blk 2
              have x3 := blk_cell HA5.out.is.blk 3
              have x4 := blk_cell HA5.out.is.blk 4
              have x5 := blk_cell HA5.out.is.blk 5
              simp at x0 x1 x2 x3 x4 x5
              cases hok : cmdOk kind topic seq code pay
              · have HG9 := Lib.hid (HGM.out.trans (if_neg (by rw [hok]; decide)))
                clear hok
                go_wp2_with fail
                refine bodyPost_ret (results_ctt rfl _ _ w.heap.size 26 (cmdC 0 0 ⟨#[]⟩ 0 0 (.slice none 0 0)) (0, 0) _ rfl (put6_blk HA5.out.z 0 0 ⟨#[]⟩ 0 0 (.slice none 0 0)) Tryd.underlying26 rfl (by kernel_rfl)) rfl (HP.out _ _ ?_)
                rw [HG9.out]
                exact ⟨⟨_, rfl, own_nil _ _ _ _⟩, put6_below HA5.out.bel (Nat.le_refl _) 0 0 ⟨#[]⟩ 0 0 (.slice none 0 0)⟩
              · have HG9 := Lib.hid (HGM.out.trans (if_pos hok))
                clear hok
                go_wp2_with fail
                refine bodyPost_ret (results_ctt rfl _ _ w.heap.size 26 (cmdC kind id topic seq code (.slice A3 pay.length c3)) (0, 0) _ rfl (put6_blk HA5.out.z kind id topic seq code (.slice A3 pay.length c3)) Tryd.underlying26 rfl (by kernel_rfl)) rfl (HP.out _ _ ?_)
                rw [HG9.out]
                exact ⟨⟨_, rfl, put6_own HA5.out.is.own (own_ne HA5.out.is.own HA5.out.z (by decide)) kind id topic seq code (.slice A3 pay.length c3)⟩, put6_below HA5.out.bel (Nat.le_refl _) kind id topic seq code (.slice A3 pay.length c3)⟩
      · rw [decide_eq_false hT]
        have HGT := Lib.hid (HGS.out.trans (if_neg (fun h => hT h.1)))
        clear hT
        clear z0 z1 z2 z3 z4 z5 y0 y1 y2 y3 y4 y5 x0 x1 x2 x3 x4 x5 zf0 zf1 zf2 zf3 zf4 zf5
        have z0 := blk_cell HA.out.z 0
        have z1 := blk_cell HA.out.z 1
        have z2 := blk_cell HA.out.z 2
        have z3 := blk_cell HA.out.z 3
        have z4 := blk_cell HA.out.z 4
        have z5 := blk_cell HA.out.z 5
        have zf0 := blk_frozen HA.out.z 0
        have zf1 := blk_frozen HA.out.z 1
        have zf2 := blk_frozen HA.out.z 2
        have zf3 := blk_frozen HA.out.z 3
        have zf4 := blk_frozen HA.out.z 4
        have zf5 := blk_frozen HA.out.z 5
        simp at z0 z1 z2 z3 z4 z5
        have y0 := blk_cell HA.out.b 0
        have y1 := blk_cell HA.out.b 1
        have y2 := blk_cell HA.out.b 2
        have y3 := blk_cell HA.out.b 3
        have y4 := blk_cell HA.out.b 4
        have y5 := blk_cell HA.out.b 5
        simp at y0 y1 y2 y3 y4 y5
        have x0 := blk_cell HA.out.is.blk 0
        have x1 := blk_cell HA.out.is.blk 1
        have x2 := blk_cell HA.out.is.blk 2
        have x3 := blk_cell HA.out.is.blk 3
        have x4 := blk_cell HA.out.is.blk 4
        have x5 := blk_cell HA.out.is.blk 5
        simp at x0 x1 x2 x3 x4 x5
        by_cases hP : kind = 3 ∧ 2048 < pay.length
        · obtain ⟨hk3, hpl⟩ := hP
          have bk : (kind == 3) = true := by rw [beq_iff_eq]; exact hk3
          have bl : decide ((2048 : Int) < (pay.length : Int)) = true := by rw [decide_eq_true_iff]; omega
          have bl2 : decide (2048 < pay.length) = true := by rw [decide_eq_true_iff]; omega
          have HG5 := Lib.hid (HGT.out.trans (by rw [if_pos ⟨hk3, hpl⟩] : _ = (kind, id, (⟨#[]⟩ : ByteArray), (0 : Int), (0 : Int), ([] : List Int), (5 : Int), false)))
          clear hk3 hpl
          go_wp2_with fail
          refine bodyPost_ret (results_ctt rfl _ _ w.heap.size 26 (cmdC kind id ⟨#[]⟩ 0 0 (.slice none 0 0)) (0, 0) _ rfl (put6_blk HA.out.z kind id ⟨#[]⟩ 0 0 (.slice none 0 0)) Tryd.underlying26 rfl (by kernel_rfl)) rfl (HP.out _ _ ?_)
          rw [HG5.out]
          exact ⟨⟨_, rfl, own_nil _ _ _ _⟩, put6_below HA.out.bel (Nat.le_refl _) kind id ⟨#[]⟩ 0 0 (.slice none 0 0)⟩
        · have HGM := Lib.hid (HGT.out.trans (if_neg hP))
          have hbb : ((kind == 3) = true ∧ decide ((2048 : Int) < (pay.length : Int)) = false) ∨ (kind == 3) = false := by
            by_cases h3 : kind = 3
            · exact .inl ⟨by rw [beq_iff_eq]; exact h3, by rw [decide_eq_false_iff_not]; omega⟩
            · exact .inr (by rw [beq_eq_false_iff_ne]; exact h3)
          clear hP
          rcases hbb with ⟨bk, bl⟩ | bk
          all_goals
            go_wp2_with fail
            refine (cmay_calls _ w.heap.size kind id topic seq code pay A3 c3 HIN.out.1 HIN.out.2.1 HIN.out.2.2 (HA.out.is.own)).mono ?_
            rintro e w5 ⟨rfl, hb5⟩
            have HA5 := Lib.hid (HA.out.below hb5)
            clear hb5
            clear z0 z1 z2 z3 z4 z5 y0 y1 y2 y3 y4 y5 x0 x1 x2 x3 x4 x5 zf0 zf1 zf2 zf3 zf4 zf5
            have z0 := blk_cell HA5.out.z 0
            have z1 := blk_cell HA5.out.z 1
            have z2 := blk_cell HA5.out.z 2
            have z3 := blk_cell HA5.out.z 3
            have z4 := blk_cell HA5.out.z 4
            have z5 := blk_cell HA5.out.z 5
            have zf0 := blk_frozen HA5.out.z 0
            have zf1 := blk_frozen HA5.out.z 1
            have zf2 := blk_frozen HA5.out.z 2
            have zf3 := blk_frozen HA5.out.z 3
            have zf4 := blk_frozen HA5.out.z 4
            have zf5 := blk_frozen HA5.out.z 5
            simp at z0 z1 z2 z3 z4 z5
            have y0 := blk_cell HA5.out.b 0
            have y1 := blk_cell HA5.out.b 1
            have y2 := blk_cell HA5.out.b 2
            have y3 := blk_cell HA5.out.b 3
            have y4 := blk_cell HA5.out.b 4
            have y5 := blk_cell HA5.out.b 5
            simp at y0 y1 y2 y3 y4 y5
            have x0 := blk_cell HA5.out.is.blk 0
            have x1 := blk_cell HA5.out.is.blk 1
            have x2 := blk_cell HA5.out.is.blk 2
            have x3 := blk_cell HA5.out.is.blk 3
            have x4 := blk_cell HA5.out.is.blk 4
            have x5 := blk_cell HA5.out.is.blk 5
            simp at x0 x1 x2 x3 x4 x5
            cases hok : cmdOk kind topic seq code pay
            · have HG9 := Lib.hid (HGM.out.trans (if_neg (by rw [hok]; decide)))
              clear hok
              go_wp2_with fail
              refine bodyPost_ret (results_ctt rfl _ _ w.heap.size 26 (cmdC 0 0 ⟨#[]⟩ 0 0 (.slice none 0 0)) (0, 0) _ rfl (put6_blk HA5.out.z 0 0 ⟨#[]⟩ 0 0 (.slice none 0 0)) Tryd.underlying26 rfl (by kernel_rfl)) rfl (HP.out _ _ ?_)
              rw [HG9.out]
              exact ⟨⟨_, rfl, own_nil _ _ _ _⟩, put6_below HA5.out.bel (Nat.le_refl _) 0 0 ⟨#[]⟩ 0 0 (.slice none 0 0)⟩
            · have HG9 := Lib.hid (HGM.out.trans (if_pos hok))
              clear hok
              go_wp2_with fail
              refine bodyPost_ret (results_ctt rfl _ _ w.heap.size 26 (cmdC kind id topic seq code (.slice A3 pay.length c3)) (0, 0) _ rfl (put6_blk HA5.out.z kind id topic seq code (.slice A3 pay.length c3)) Tryd.underlying26 rfl (by kernel_rfl)) rfl (HP.out _ _ ?_)
              rw [HG9.out]
              exact ⟨⟨_, rfl, put6_own HA5.out.is.own (own_ne HA5.out.is.own HA5.out.z (by decide)) kind id topic seq code (.slice A3 pay.length c3)⟩, put6_below HA5.out.bel (Nat.le_refl _) kind id topic seq code (.slice A3 pay.length c3)⟩
end Go.Proofs.YtkgedjaihimafaaDoor

/- command.Get: its contract in the printed form. -/
namespace Go.Proofs.YtkgedjaihimafaaDoor
set_option linter.unusedVariables false
set_option linter.unusedSimpArgs false
open Go.RowKit Go.Proofs.YtkgedjaihimafaaDoorW.PrintWords Go.Proofs.YtkgedjaihimafaaDoor.QCmd Go.Proofs.YtkgedjaihimafaaDoor.Given

theorem get_calls (w : World) (A : Option Addr) (c : Nat) (l : List Int) (hl : l.length ≤ 100000) (hlc : l.length ≤ c) (hR : ReadsInt w .u8 A l.length l) (hby : Byte8 l) :
    Calls Tryd.prog 14 #[.slice A l.length c] w (GetPost w (getR l)) := by
  by_cases h5 : l.length < 5
  · have e : getR l = (0, 0, ⟨#[]⟩, 0, 0, [], 0, false) := by unfold getR; rw [if_pos h5]
    rw [e]
    exact get_short w A c l h5
  · have h4 := (split5 h5).2
    have hv := valL_bound (l := (l.take 5).drop 1) (fun y hy => hby y (List.mem_of_mem_take (List.mem_of_mem_drop hy)))
    rw [h4] at hv
    exact get_long w A c l h5 hl hlc hR hby _ rfl _ rfl hv.1 (by have := hv.2; omega) _ rfl

namespace Given
def byteB (l : List Int) : Bool := l.all fun x => decide (0 ≤ x) && decide (x ≤ 255)
theorem byteB_iff {l : List Int} : byteB l = true ↔ Byte8 l := by
  unfold byteB Byte8
  simp
def command_Get.f (l0 : List Int) : Option (Int × Int × ByteArray × Int × Int × List Int × Int × Bool) := if l0.length ≤ 100000 ∧ byteB l0 = true then some (getR l0) else none
theorem command_Get.calls (A0 : Option Addr) (c0 : Nat) (l0 : List Int) (r0 r1 : Int) (r2 : ByteArray) (r3 r4 : Int) (r5 : List Int) (r6 : Int) (r7 : Bool) (w : World) (hr0 : Kd.C (Kd.int .u8) w A0 l0.length l0) (hc0 : l0.length ≤ c0) (h : command_Get.f l0 = some (r0, r1, r2, r3, r4, r5, r6, r7)) :
    Calls Tryd.prog 14 #[.slice A0 l0.length c0] w fun e w' => ∃ v0_ : Value, e = .returned (.tuple #[.agg #[.int .u8 r0, .int .u32 r1, .string r2, .int .u64 r3, .int .u8 r4, v0_], .int .u8 r6, .bool r7]) ∧ Kd.R (Kd.int .u8) 5 w' w.heap.size (fun _ => True) v0_ r5 ∧ Below w.heap.size w w' := by
  unfold command_Get.f at h
  split at h
  · rename_i hs
    injection h with h
    have hR : ReadsInt w .u8 A0 l0.length l0 := Kd.reads_of_C (d := (0 : Int)) hr0
    refine (get_calls w A0 c0 l0 hs.1 hc0 hR (byteB_iff.1 hs.2)).mono fun e w' hp => ?_
    rw [h] at hp
    obtain ⟨⟨v, he, ho⟩, hb⟩ := hp
    exact ⟨v, he, Kd.R_of_own ho (fun _ _ => trivial), hb⟩
  · cases h
end Given
end Go.Proofs.YtkgedjaihimafaaDoor

/- What the reference's Get answers: its head, and what others does. -/
namespace Go.Proofs.YtkgedjaihimafaaDoor
set_option linter.unusedVariables false
set_option linter.unusedSimpArgs false
open Go.RowKit Go.Proofs.YtkgedjaihimafaaDoorW.PrintWords Go.Proofs.YtkgedjaihimafaaDoor.QCmd Go.Proofs.YtkgedjaihimafaaDoor.Given Go.Proofs.YtkgedjaihimafaaDoor.QCmdG

theorem ev_value_ref_loop (s : ByteArray) (hs : s.size ≤ 4) : ∀ (d i : Nat) (n : Int), d + i = s.size → 0 ≤ n → n < 256 ^ i → Ev (fun k => louverref07_Value.l0 k s n (i : Int)) (valFrom n ((bytesOf s).drop i))
  | 0, i, n, hi, h0, h1 => by
    refine Ev.step (f := fun _ => some n) (fun k => ?_) ?_
    · simp only [louverref07_Value.l0]
      rw [if_neg (by omega)]
    · rw [List.drop_eq_nil_of_le (by rw [bytesOf_length]; omega)]
      exact Ev.now n
  | d + 1, i, n, hi, h0, h1 => by
    have hlt : i < (bytesOf s).length := by rw [bytesOf_length]; omega
    have hx := bytes_byte s _ (List.getElem_mem hlt)
    have hrd : bt s (i : Int) = (bytesOf s)[i] := by
      rw [← rd_bytesOf]
      unfold rd
      rw [List.getD_eq_getElem?_getD, Int.toNat_natCast, List.getElem?_eq_getElem hlt]
      rfl
    have hpw : (256 : Int) ^ i ≤ 256 ^ 3 := by
      have : (256 : Nat) ^ i ≤ 256 ^ 3 := Nat.pow_le_pow_right (by decide) (by omega)
      have h := Int.ofNat_le.2 this
      rw [Int.natCast_pow, Int.natCast_pow] at h
      exact h
    have h3 : (256 : Int) ^ 3 = 16777216 := rfl
    have ih := ev_value_ref_loop s hs d (i + 1) (n * 256 + (bytesOf s)[i]) (by omega) (by omega) (by rw [pow256_succ]; omega)
    have e : ((256 * n) % 4294967296 + (bytesOf s)[i] % 4294967296) % 4294967296 = n * 256 + (bytesOf s)[i] := by omega
    refine Ev.step (f := fun k => louverref07_Value.l0 k s (n * 256 + (bytesOf s)[i]) ((i + 1 : Nat) : Int)) (fun k => ?_) ?_
    · simp only [louverref07_Value.l0]
      rw [if_pos (by omega), if_pos (by omega), hrd, e, wrap_okC (by omega) (by omega)]
      rfl
    · rw [List.drop_eq_getElem_cons hlt]
      exact ih
theorem ev_value_ref (s : ByteArray) (hs : s.size ≤ 4) : Ev (fun k => louverref07_Value.f k s) (valL (bytesOf s)) := by
  unfold louverref07_Value.f valL
  exact ev_value_ref_loop s hs s.size 0 0 (by omega) (by omega) (by decide)
theorem value_ref_calls (w : World) (l : List Int) (hl : l.length ≤ 4) (hb : Byte8 l) : Calls Tryd.prog 39 #[.string (strOfNums l)] w fun e w' => e = .returned (.int .u32 (valL l)) ∧ Drawn0 w w' := by
  obtain ⟨k, hk⟩ := (ev_value_ref (strOfNums l) (by rw [str_size]; exact hl)).rounds
  rw [bytes_str hb] at hk
  exact louverref07_Value.calls k (strOfNums l) _ w hk

theorem str_cut (l : List Int) (lo hi : Nat) : (strOfNums l).extract lo hi = strOfNums ((l.take hi).drop lo) := by
  refine bytes_ext ?_
  rw [ByteArray.data_extract, Array.toList_extract]
  simp only [strOfNums, List.extract, List.map_drop, List.map_take, List.drop_take]
theorem str_drop (l : List Int) (lo : Nat) : (strOfNums l).extract lo (strOfNums l).size = strOfNums (l.drop lo) := by
  rw [str_cut, str_size, List.take_length]

/-- What the reference's Get leaves. -/
def RefPost (w : World) (r : Int × Int × ByteArray × Int × Int × List Int × Int × Bool) (e : Ending) (w' : World) : Prop :=
  (∃ A c, e = .returned (.tuple #[.agg (cmdC r.1 r.2.1 r.2.2.1 r.2.2.2.1 r.2.2.2.2.1 (.slice A r.2.2.2.2.2.1.length c)), .int .i64 r.2.2.2.2.2.2.1, .bool r.2.2.2.2.2.2.2]) ∧
    ReadsInt w' .u8 A r.2.2.2.2.2.1.length r.2.2.2.2.2.1 ∧ r.2.2.2.2.2.1.length ≤ c) ∧ Below w.heap.size w w'
/-- What others leaves: the bytes lie where they lay, or there are none. -/
def OthersPost (w : World) (A0 : Option Addr) (r : Int × Int × ByteArray × Int × Int × List Int × Int × Bool) (e : Ending) (w' : World) : Prop :=
  (∃ A c, e = .returned (.tuple #[.agg (cmdC r.1 r.2.1 r.2.2.1 r.2.2.2.1 r.2.2.2.2.1 (.slice A r.2.2.2.2.2.1.length c)), .int .i64 r.2.2.2.2.2.2.1, .bool r.2.2.2.2.2.2.2]) ∧
    ReadsInt w' .u8 A r.2.2.2.2.2.1.length r.2.2.2.2.2.1 ∧ r.2.2.2.2.2.1.length ≤ c ∧ (A = none ∨ A = A0)) ∧ Below w.heap.size w w'
abbrev noneR : Int × Int × ByteArray × Int × Int × List Int × Int × Bool := (0, 0, ⟨#[]⟩, 0, 0, [], 0, false)

theorem rmay_calls (w : World) (k i : Int) (t : ByteArray) (q c : Int) (pay : List Int) (A : Option Addr) (cap : Nat) (hk : 0 ≤ k) (hc : 0 ≤ c) (ht : t.size ≤ 1000000000) (hR : ReadsInt w .u8 A pay.length pay) (hcap : pay.length ≤ cap) :
    Calls Tryd.prog 10 #[.agg (cmdC k i t q c (.slice A pay.length cap))] w fun e w' => e = .returned (.bool (cmdOk k t q c pay)) ∧ Below w.heap.size w w' := by
  obtain ⟨n, hn⟩ := (ev_refMay k i t q c pay hk hc ht).rounds
  exact louverref22_May.calls n k i t q c A cap pay _ w (Kd.C_of_reads (d := (0 : Int)) (h1 := fun _ => rfl) hR) hcap hn

set_option maxHeartbeats 1000000 in
set_option maxRecDepth 100000 in
theorem others_calls (w : World) (k i : Int) (t : ByteArray) (q c : Int) (pay : List Int) (A : Option Addr) (cap : Nat) (s : ByteArray) (ok : Bool) (hk : 0 ≤ k) (hc : 0 ≤ c) (ht : t.size ≤ 1000000000) (hR : ReadsInt w .u8 A pay.length pay) (hcap : pay.length ≤ cap) :
    Calls Tryd.prog 40 #[.agg (cmdC k i t q c (.slice A pay.length cap)), .string s, .bool ok] w (OthersPost w A (if (ok && cmdOk k t q c pay) = true then (k, i, t, q, c, pay, 0, true) else noneR)) := by
  refine of_post0 fun R hRR => ?_
  have HP := Lib.hid hRR
  have HR := Lib.hid (And.intro hR hcap)
  have HM := Lib.hid (And.intro hk (And.intro hc ht))
  have hbA := below_alloc (below_alloc (Below.refl w.heap.size w) (.cells (cmdC k i t q c (.slice A pay.length cap)) 26)) (.cells (cmdC 0 0 ⟨#[]⟩ 0 0 (.slice none 0 0)) 26)
  have HBA := Lib.hid (And.intro hbA (And.intro (blk_alloc (blk_new w (.cells (cmdC k i t q c (.slice A pay.length cap)) 26)) (.cells (cmdC 0 0 ⟨#[]⟩ 0 0 (.slice none 0 0)) 26)) (blk_new1 w (.cells (cmdC k i t q c (.slice A pay.length cap)) 26) (.cells (cmdC 0 0 ⟨#[]⟩ 0 0 (.slice none 0 0)) 26))))
  clear hRR hR hcap hk hc ht hbA
  cases ok
  · go_enter Tryd.func40, Tryd.ntmps40
    go_wp2_with fail
    refine bodyPost_ret (results_ctt rfl _ _ (w.heap.size + 1) 26 (cmdC 0 0 ⟨#[]⟩ 0 0 (.slice none 0 0)) (0, 0) _ rfl HBA.out.2.2 Tryd.underlying26 rfl (by kernel_rfl)) rfl (HP.out _ _ ⟨⟨none, 0, rfl, ReadsInt.nil _ _, Nat.le_refl _, .inl rfl⟩, HBA.out.1⟩)
  · go_enter Tryd.func40, Tryd.ntmps40
    go_wp2_with fail
    refine (rmay_calls _ k i t q c pay A cap HM.out.1 HM.out.2.1 HM.out.2.2 (HR.out.1.below HBA.out.1) HR.out.2).mono ?_
    rintro e w5 ⟨rfl, hb5⟩
    have hz := blk_below HBA.out.2.2 hb5
    have hf := blk_below HBA.out.2.1 hb5
    have h0 := blk_cell hf 0
    have h1 := blk_cell hf 1
    have h2 := blk_cell hf 2
    have h3 := blk_cell hf 3
    have h4 := blk_cell hf 4
    have h5 := blk_cell hf 5
    have z0 := blk_cell hz 0
    have z1 := blk_cell hz 1
    have z2 := blk_cell hz 2
    have z3 := blk_cell hz 3
    have z4 := blk_cell hz 4
    have z5 := blk_cell hz 5
    have f0 := blk_frozen hz 0
    have f1 := blk_frozen hz 1
    have f2 := blk_frozen hz 2
    have f3 := blk_frozen hz 3
    have f4 := blk_frozen hz 4
    have f5 := blk_frozen hz 5
    simp at h0 h1 h2 h3 h4 h5 z0 z1 z2 z3 z4 z5
    have HB5 := Lib.hid (And.intro (HBA.out.1.trans (hb5.mono HBA.out.1.size)) (And.intro hz ((HR.out.1.below HBA.out.1).below hb5)))
    clear hb5 hz hf
    cases hok : cmdOk k t q c pay
    · have HOK := Lib.hid (show (if (true && cmdOk k t q c pay) = true then (k, i, t, q, c, pay, (0 : Int), true) else noneR) = noneR by rw [hok]; rfl)
      clear hok
      go_wp2_with fail
      refine bodyPost_ret (results_ctt rfl _ _ (w.heap.size + 1) 26 (cmdC 0 0 ⟨#[]⟩ 0 0 (.slice none 0 0)) (0, 0) _ rfl (put6_blk HB5.out.2.1 0 0 ⟨#[]⟩ 0 0 (.slice none 0 0)) Tryd.underlying26 rfl (by kernel_rfl)) rfl (HP.out _ _ ?_)
      rw [HOK.out]
      exact ⟨⟨none, 0, rfl, ReadsInt.nil _ _, Nat.le_refl _, .inl rfl⟩, put6_below HB5.out.1 (Nat.le_succ _) 0 0 ⟨#[]⟩ 0 0 (.slice none 0 0)⟩
    · have HOK := Lib.hid (show (if (true && cmdOk k t q c pay) = true then (k, i, t, q, c, pay, (0 : Int), true) else noneR) = (k, i, t, q, c, pay, (0 : Int), true) by rw [hok]; rfl)
      clear hok
      go_wp2_with fail
      refine bodyPost_ret (results_ctt rfl _ _ (w.heap.size + 1) 26 (cmdC k i t q c (.slice A pay.length cap)) (0, 0) _ rfl (put6_blk HB5.out.2.1 k i t q c (.slice A pay.length cap)) Tryd.underlying26 rfl (by kernel_rfl)) rfl (HP.out _ _ ?_)
      rw [HOK.out]
      refine ⟨⟨A, cap, rfl, ?_, HR.out.2, .inr rfl⟩, put6_below HB5.out.1 (Nat.le_succ _) k i t q c (.slice A pay.length cap)⟩
      refine HR.out.1.keep (g := w.heap.size + 1) ⟨?_, ?_⟩ (far_int HR.out.1 (Nat.le_succ _))
      · exact (put6_below HB5.out.1 (Nat.le_succ _) k i t q c (.slice A pay.length cap)).size
      · intro j hj _ _
        exact (put6_below HB5.out.1 (Nat.le_succ _) k i t q c (.slice A pay.length cap)).block j hj
theorem getT_bad {kind id : Int} {t : ByteArray} {q c : Int} {p : List Int} (h : kind = 1 ∨ kind = 3) (ok : topicOk t = false) : getT kind id (some (t, q, c, p)) = (kind, id, ⟨#[]⟩, 0, 0, [], 1, false) := by
  unfold getT
  dsimp only
  rw [if_pos ⟨h, ok⟩]
theorem getT_great {id : Int} {t : ByteArray} {q c : Int} {p : List Int} (ok : topicOk t = true) (h : 2048 < p.length) : getT 3 id (some (t, q, c, p)) = (3, id, ⟨#[]⟩, 0, 0, [], 5, false) := by
  unfold getT
  dsimp only
  rw [if_neg (fun h => by rw [ok] at h; exact Bool.noConfusion h.2), if_pos ⟨rfl, h⟩]
theorem getT_full {kind id : Int} {t : ByteArray} {q c : Int} {p : List Int} (ok : topicOk t = true) (h : ¬ (kind = 3 ∧ 2048 < p.length)) (hc : cmdOk kind t q c p = true) : getT kind id (some (t, q, c, p)) = (kind, id, t, q, c, p, 0, true) := by
  unfold getT
  dsimp only
  rw [if_neg (fun h => by rw [ok] at h; exact Bool.noConfusion h.2), if_neg h, if_pos hc]
theorem getT_none (kind id k i : Int) (t : ByteArray) (q c : Int) (p : List Int) (z : Bool) : (if (false && z) = true then (k, i, t, q, c, p, (0 : Int), true) else noneR) = getT kind id none := rfl
theorem getT_some {kind id : Int} {t : ByteArray} {q c : Int} {p : List Int} (h1 : kind ≠ 1) (h3 : kind ≠ 3) : (if (true && cmdOk kind t q c p) = true then (kind, id, t, q, c, p, (0 : Int), true) else noneR) = getT kind id (some (t, q, c, p)) := by
  unfold getT
  simp [h1, h3]
end Go.Proofs.YtkgedjaihimafaaDoor

/- The reference's Get, walked. -/
namespace Go.Proofs.YtkgedjaihimafaaDoor
set_option linter.unusedVariables false
set_option linter.unusedSimpArgs false
open Go.RowKit Go.Proofs.YtkgedjaihimafaaDoorW.PrintWords Go.Proofs.YtkgedjaihimafaaDoor.QCmd Go.Proofs.YtkgedjaihimafaaDoor.Given Go.Proofs.YtkgedjaihimafaaDoor.QCmdG

abbrev zO : Obj := .cells (cmdC 0 0 ⟨#[]⟩ 0 0 (.slice none 0 0)) 26
abbrev cO (kind id : Int) : Obj := .cells (cmdC kind id ⟨#[]⟩ 0 0 (.slice none 0 0)) 26
/-- Behind the head: the result's block, the empty command's, the command's. -/
structure RHead (w W : World) (kind id : Int) (topic : ByteArray) (seq code : Int) (v : Value) : Prop where
  z : W.heap[w.heap.size]? = some (.cells (cmdC 0 0 ⟨#[]⟩ 0 0 (.slice none 0 0)) 26 (0, 0))
  n : W.heap[w.heap.size + 1]? = some (.cells (cmdC 0 0 ⟨#[]⟩ 0 0 (.slice none 0 0)) 26 (0, 0))
  c : W.heap[w.heap.size + 1 + 1]? = some (.cells (cmdC kind id topic seq code v) 26 (0, 0))
  bel : Below w.heap.size w W
theorem RHead.below {w W W' : World} {kind id : Int} {topic : ByteArray} {seq code : Int} {v : Value} (h : RHead w W kind id topic seq code v) (hb : Below W.heap.size W W') : RHead w W' kind id topic seq code v :=
  ⟨blk_below h.z hb, blk_below h.n hb, blk_below h.c hb, h.bel.trans (hb.mono h.bel.size)⟩
theorem RHead.size {w W : World} {kind id : Int} {topic : ByteArray} {seq code : Int} {v : Value} (h : RHead w W kind id topic seq code v) : w.heap.size + 1 + 1 < W.heap.size := blk_lt h.c
/-- A field of the command, set. -/
theorem RHead.set {w W : World} {kind id kind' id' : Int} {topic topic' : ByteArray} {seq code seq' code' : Int} {v v' : Value} (h : RHead w W kind id topic seq code v) (i : Nat) (u : Value) (e : (cmdC kind id topic seq code v).setIfInBounds i u = cmdC kind' id' topic' seq' code' v') :
    RHead w (W.setCell ⟨w.heap.size + 1 + 1, i, none⟩ u) kind' id' topic' seq' code' v' :=
  ⟨blk_far h.z (by show w.heap.size ≠ w.heap.size + 1 + 1; omega) _, blk_far h.n (by show w.heap.size + 1 ≠ w.heap.size + 1 + 1; omega) _, by rw [← e]; exact blk_set h.c i u, h.bel.setCell (by show w.heap.size ≤ w.heap.size + 1 + 1; omega) _⟩
theorem rhead1 (w : World) (n : Nat) (kind id : Int) : RHead w ((((w.alloc zO).alloc zO).drewN n).alloc (cO kind id)) kind id ⟨#[]⟩ 0 0 (.slice none 0 0) :=
  ⟨blk_alloc (blk_drewN (blk_alloc (blk_new w _) _) n) _, blk_alloc (blk_drewN (blk_new1 w _ _) n) _, blk_at _ (by simp), below_alloc (pw_below_drewN (below_alloc (below_alloc (Below.refl _ _) _) _) _) _⟩
/-- The head's region in its second order. -/
def rsix (w : World) (n : Nat) (kind id : Int) : World := (((((((((((w.alloc zO).alloc zO).alloc zO).drewN n).setCell ⟨w.heap.size + 1 + 1, 0, none⟩ (.int .u8 kind)).setCell ⟨w.heap.size + 1 + 1, 1, none⟩ (.int .u32 id)).setCell ⟨w.heap.size + 1 + 1, 2, none⟩ (.string ⟨#[]⟩)).setCell ⟨w.heap.size + 1 + 1, 3, none⟩ (.int .u64 0)).setCell ⟨w.heap.size + 1 + 1, 4, none⟩ (.int .u8 0)).setCell ⟨w.heap.size + 1 + 1, 5, none⟩ (.slice none 0 0)))
theorem rhead2 (w : World) (n : Nat) (kind id : Int) : RHead w (rsix w n kind id) kind id ⟨#[]⟩ 0 0 (.slice none 0 0) := by
  have h : RHead w ((((w.alloc zO).alloc zO).alloc zO).drewN n) 0 0 ⟨#[]⟩ 0 0 (.slice none 0 0) :=
    ⟨blk_drewN (blk_alloc (blk_alloc (blk_new w _) _) _) n, blk_drewN (blk_alloc (blk_new1 w _ _) _) n, blk_drewN (blk_new2 w _ _ _) n, pw_below_drewN (below_alloc (below_alloc (below_alloc (Below.refl _ _) _) _) _) _⟩
  exact (((((h.set 0 (.int .u8 kind) rfl).set 1 (.int .u32 id) rfl).set 2 (.string ⟨#[]⟩) rfl).set 3 (.int .u64 0) rfl).set 4 (.int .u8 0) rfl).set 5 (.slice none 0 0) rfl

/-- What a text of at least five bytes gives. -/
structure SHead (l : List Int) (kind id : Int) (s s1 b : ByteArray) (L2 : List Int) : Prop where
  sz : s.size = l.length
  i0 : ∀ W, (Instr.index 9 (.string s) (.int .i64 0)).run Tryd.prog W = .ok (.int .u8 kind) W
  c1 : ∀ W, (Instr.slice 9 (.string s) (some (.int .i64 1)) (some (.int .i64 5)) none).run Tryd.prog W = .ok (.string s1) W
  c5 : ∀ W, (Instr.slice 9 (.string s) (some (.int .i64 5)) none none).run Tryd.prog W = .ok (.string b) W
  v : ∀ W, Calls Tryd.prog 39 #[.string s1] W fun e w' => e = .returned (.int .u32 id) ∧ Drawn0 W w'
  bs : b = strOfNums L2
  by2 : Byte8 L2
  l2 : L2.length = l.length - 5

theorem run_index_str {l : List Int} (hb : Byte8 l) (i : Int) (h0 : 0 ≤ i) (h1 : i < (l.length : Int)) (W : World) :
    (Instr.index 9 (.string (strOfNums l)) (.int .i64 i)).run Tryd.prog W = .ok (.int .u8 (l.getD i.toNat 0)) W := by
  have hz := str_size l
  have hi : 0 ≤ i ∧ i < ((strOfNums l).size : Int) := by omega
  rw [run_index_string W 9 (strOfNums l) .i64 i Tryd.underlying9, dif_pos hi, Go.Proofs.YtkgedjaihimafaaDoorW.PrintWords.bt_at (strOfNums l) i, ← rd_bytesOf, bytes_str hb]
  rfl
theorem run_cut_str (l : List Int) (lo hi : Int) (h0 : 0 ≤ lo) (h1 : lo ≤ hi) (h2 : hi ≤ (l.length : Int)) (W : World) :
    (Instr.slice 9 (.string (strOfNums l)) (some (.int .i64 lo)) (some (.int .i64 hi)) none).run Tryd.prog W = .ok (.string (strOfNums ((l.take hi.toNat).drop lo.toNat))) W := by
  have hz := str_size l
  rw [run_slice_string W 9 (strOfNums l) .i64 .i64 lo hi Tryd.underlying9 h0 h1 (by omega), str_cut]
theorem run_from_str (l : List Int) (lo : Int) (h0 : 0 ≤ lo) (h1 : lo ≤ (l.length : Int)) (W : World) :
    (Instr.slice 9 (.string (strOfNums l)) (some (.int .i64 lo)) none none).run Tryd.prog W = .ok (.string (strOfNums (l.drop lo.toNat))) W := by
  have hz := str_size l
  rw [run_slice_string_from_if W 9 (strOfNums l) .i64 lo Tryd.underlying9, if_pos (by omega), str_drop]
theorem run_to_str (l : List Int) (hi : Int) (h0 : 0 ≤ hi) (h1 : hi ≤ (l.length : Int)) (W : World) :
    (Instr.slice 9 (.string (strOfNums l)) none (some (.int .i64 hi)) none).run Tryd.prog W = .ok (.string (strOfNums (l.take hi.toNat))) W := by
  have hz := str_size l
  rw [run_slice_string_to_if W 9 (strOfNums l) .i64 hi Tryd.underlying9, if_pos (by omega), str_cut, List.drop_zero]
theorem shead {l : List Int} (h5 : ¬ l.length < 5) (hby : Byte8 l) : ∃ s1 b, SHead l (l.getD 0 0) (valL ((l.take 5).drop 1)) (strOfNums l) s1 b (l.drop 5) := by
  refine ⟨strOfNums ((l.take 5).drop 1), strOfNums (l.drop 5), str_size l, fun W => run_index_str hby 0 (by decide) (by omega) W, fun W => run_cut_str l 1 5 (by decide) (by decide) (by omega) W, fun W => run_from_str l 5 (by decide) (by omega) W, fun W => ?_, rfl, fun x hx => hby x (List.mem_of_mem_drop hx), List.length_drop⟩
  exact value_ref_calls W _ (by rw [(split5 h5).2]; exact Nat.le_refl _) (fun x hx => hby x (List.mem_of_mem_take (List.mem_of_mem_drop hx)))

theorem valL_halves {l : List Int} (hl : l.length = 8) (h : Byte8 l) : IntKind.u64.wrap (IntKind.u64.wrap (IntKind.u64.wrap (valL (l.take 4)) * 4294967296) + IntKind.u64.wrap (valL (l.drop 4))) = valL l := by
  match l, hl with
  | [a, b, c, d, e, f, g, i], _ =>
    have ha := h a (by simp)
    have hb := h b (by simp)
    have hc := h c (by simp)
    have hd := h d (by simp)
    have he := h e (by simp)
    have hf := h f (by simp)
    have hg := h g (by simp)
    have hi := h i (by simp)
    simp [valL, valFrom, IntKind.wrap, IntKind.bits, IntKind.signed]
    omega
theorem rmay21_calls (w : World) (s : ByteArray) (hs : s.size ≤ 1000000000) : Calls Tryd.prog 16 #[.string s] w fun e w' => e = .returned (.bool (topicOk s)) ∧ Below w.heap.size w w' := by
  obtain ⟨k, hk⟩ := (ev_may s hs).rounds
  exact louverref21_May.calls k s _ w hk
theorem ref_short (w : World) (l : List Int) (h5 : l.length < 5) : Calls Tryd.prog 15 #[.string (strOfNums l)] w (RefPost w noneR) := by
  refine of_post0 fun R hRR => ?_
  have HP := Lib.hid hRR
  have hz := str_size l
  generalize strOfNums l = s at hz
  have c1 : decide ((s.size : Int) < 5) = true := by rw [decide_eq_true_iff]; omega
  have c2 : decide (s.size < 5) = true := by rw [decide_eq_true_iff]; omega
  clear hRR h5 hz
  go_enter Tryd.func15, Tryd.ntmps15
  go_wp2_with fail
  refine bodyPost_ret (results_ctt rfl _ _ w.heap.size 26 (cmdC 0 0 ⟨#[]⟩ 0 0 (.slice none 0 0)) (0, 0) _ rfl (blk_alloc (blk_new w _) _) Tryd.underlying26 rfl (by kernel_rfl)) rfl (HP.out _ _ ⟨⟨none, 0, rfl, ReadsInt.nil _ _, Nat.le_refl _⟩, below_alloc (below_alloc (Below.refl _ _) _) _⟩)
/-- The head's region in its first order. -/
def rone (w : World) (n : Nat) (kind id : Int) : World := (((w.alloc zO).alloc zO).drewN n).alloc (cO kind id)

set_option maxHeartbeats 4000000 in
set_option maxRecDepth 100000 in
theorem ref_two (w : World) (l : List Int) (id : Int) (s s1 b : ByteArray) (L2 : List Int) (h5 : ¬ l.length < 5) (hS : SHead l 2 id s s1 b L2) (hl : l.length ≤ 100000) :
    Calls Tryd.prog 15 #[.string s] w (RefPost w (getT 2 id (restR 2 L2))) := by
  refine of_post0 fun R hRR => ?_
  have HP := Lib.hid hRR
  have HV := Lib.hid hS.v
  have hi0 := hS.i0
  have hc1 := hS.c1
  have hc5 := hS.c5
  have hsz := hS.sz
  have HSB := Lib.hid (And.intro hS.bs (And.intro hS.by2 hS.l2))
  have c1 : decide ((s.size : Int) < 5) = false := by rw [decide_eq_false_iff_not]; omega
  have c2 : decide (s.size < 5) = false := by rw [decide_eq_false_iff_not]; omega
  have HSZ := Lib.hid hsz
  clear hRR hS hsz h5
  go_enter Tryd.func15, Tryd.ntmps15
  go_wp2_with fail
  go_region_held3 (fun w' => True) (trivial) ((go_at_call 39; refine (HV.out _).mono ?_; rintro e w1 ⟨rfl, n, rfl⟩))
  all_goals
    rename_i K hK hHeld
    clear hHeld
    refine hK _ _ ?_
    clear hK K
    have hH : ∃ W2, RHead w W2 2 id ⟨#[]⟩ 0 0 (.slice none 0 0) ∧ (rone w (1 + n) 2 id = W2 ∨ rsix w (1 + n) 2 id = W2) := ⟨_, rhead1 w (1 + n) 2 id, .inl rfl⟩
    clear hH
    first
    | (rw [show (((w.alloc zO).alloc zO).drewN (1 + n)).alloc (cO 2 id) = rone w (1 + n) 2 id from rfl]
       have hH := rhead1 w (1 + n) 2 id
       rw [show (((w.alloc zO).alloc zO).drewN (1 + n)).alloc (cO 2 id) = rone w (1 + n) 2 id from rfl] at hH
       generalize rone w (1 + n) 2 id = W2 at hH ⊢)
    | (rw [show (((((((((w.alloc zO).alloc zO).alloc zO).drewN (1 + n)).setCell ⟨w.heap.size + 1 + 1, 0, none⟩ (.int .u8 2)).setCell ⟨w.heap.size + 1 + 1, 1, none⟩ (.int .u32 id)).setCell ⟨w.heap.size + 1 + 1, 2, none⟩ (.string ⟨#[]⟩)).setCell ⟨w.heap.size + 1 + 1, 3, none⟩ (.int .u64 0)).setCell ⟨w.heap.size + 1 + 1, 4, none⟩ (.int .u8 0)).setCell ⟨w.heap.size + 1 + 1, 5, none⟩ (.slice none 0 0) = rsix w (1 + n) 2 id from rfl]
       have hH := rhead2 w (1 + n) 2 id
       generalize rsix w (1 + n) 2 id = W2 at hH ⊢)
    have H2 := Lib.hid hH
    clear hH
    have hzz := H2.out.size
    have z0 := blk_cell H2.out.z 0
    have z1 := blk_cell H2.out.z 1
    have z2 := blk_cell H2.out.z 2
    have z3 := blk_cell H2.out.z 3
    have z4 := blk_cell H2.out.z 4
    have z5 := blk_cell H2.out.z 5
    have zf0 := blk_frozen H2.out.z 0
    have zf1 := blk_frozen H2.out.z 1
    have zf2 := blk_frozen H2.out.z 2
    have zf3 := blk_frozen H2.out.z 3
    have zf4 := blk_frozen H2.out.z 4
    have zf5 := blk_frozen H2.out.z 5
    simp at z0 z1 z2 z3 z4 z5
    have n0 := blk_cell H2.out.n 0
    have n1 := blk_cell H2.out.n 1
    have n2 := blk_cell H2.out.n 2
    have n3 := blk_cell H2.out.n 3
    have n4 := blk_cell H2.out.n 4
    have n5 := blk_cell H2.out.n 5
    simp at n0 n1 n2 n3 n4 n5
    have k0 := blk_cell H2.out.c 0
    have k1 := blk_cell H2.out.c 1
    have k2 := blk_cell H2.out.c 2
    have k3 := blk_cell H2.out.c 3
    have k4 := blk_cell H2.out.c 4
    have k5 := blk_cell H2.out.c 5
    have kf0 := blk_frozen H2.out.c 0
    have kf1 := blk_frozen H2.out.c 1
    have kf2 := blk_frozen H2.out.c 2
    have kf3 := blk_frozen H2.out.c 3
    have kf4 := blk_frozen H2.out.c 4
    have kf5 := blk_frozen H2.out.c 5
    simp at k0 k1 k2 k3 k4 k5
    by_cases hL : L2.length = 0
    · have hb0 : b = ⟨#[]⟩ := by rw [HSB.out.1, List.eq_nil_of_length_eq_zero hL]; rfl
      have HEQ := Lib.hid ((getT_some (kind := 2) (id := id) (t := ⟨#[]⟩) (q := 0) (c := 0) (p := []) (by decide) (by decide)).trans (by unfold restR; simp [hL] : _ = getT 2 id (restR 2 L2)))
      subst hb0
      have HX := H2
      clear hL
      go_wp2_with fail
      refine (others_calls _ 2 id ⟨#[]⟩ 0 0 [] none 0 s true (by decide) (by decide) (by decide) (ReadsInt.nil _ _) (Nat.le_refl _)).mono ?_
      rintro e w5 ⟨⟨A5, cp5, rfl, hr5, hc5, ha5⟩, hb5⟩
      have H5 := Lib.hid (HX.out.below hb5)
      have H55 := Lib.hid (And.intro hr5 (And.intro hc5 ha5))
      clear hb5 hr5 hc5 ha5
      clear z0 z1 z2 z3 z4 z5 n0 n1 n2 n3 n4 n5 k0 k1 k2 k3 k4 k5 zf0 zf1 zf2 zf3 zf4 zf5 kf0 kf1 kf2 kf3 kf4 kf5
      have hzz := H5.out.size
      have z0 := blk_cell H5.out.z 0
      have z1 := blk_cell H5.out.z 1
      have z2 := blk_cell H5.out.z 2
      have z3 := blk_cell H5.out.z 3
      have z4 := blk_cell H5.out.z 4
      have z5 := blk_cell H5.out.z 5
      have zf0 := blk_frozen H5.out.z 0
      have zf1 := blk_frozen H5.out.z 1
      have zf2 := blk_frozen H5.out.z 2
      have zf3 := blk_frozen H5.out.z 3
      have zf4 := blk_frozen H5.out.z 4
      have zf5 := blk_frozen H5.out.z 5
      simp at z0 z1 z2 z3 z4 z5
      have n0 := blk_cell H5.out.n 0
      have n1 := blk_cell H5.out.n 1
      have n2 := blk_cell H5.out.n 2
      have n3 := blk_cell H5.out.n 3
      have n4 := blk_cell H5.out.n 4
      have n5 := blk_cell H5.out.n 5
      simp at n0 n1 n2 n3 n4 n5
      have k0 := blk_cell H5.out.c 0
      have k1 := blk_cell H5.out.c 1
      have k2 := blk_cell H5.out.c 2
      have k3 := blk_cell H5.out.c 3
      have k4 := blk_cell H5.out.c 4
      have k5 := blk_cell H5.out.c 5
      have kf0 := blk_frozen H5.out.c 0
      have kf1 := blk_frozen H5.out.c 1
      have kf2 := blk_frozen H5.out.c 2
      have kf3 := blk_frozen H5.out.c 3
      have kf4 := blk_frozen H5.out.c 4
      have kf5 := blk_frozen H5.out.c 5
      simp at k0 k1 k2 k3 k4 k5
      rw [HEQ.out] at H55 ⊢
      generalize getT 2 id (restR 2 L2) = r5 at *
      go_wp2_with fail
      refine bodyPost_ret (results_ctt rfl _ _ w.heap.size 26 (cmdC r5.1 r5.2.1 r5.2.2.1 r5.2.2.2.1 r5.2.2.2.2.1 (.slice A5 r5.2.2.2.2.2.1.length cp5)) (0, 0) _ rfl (put6_blk H5.out.z r5.1 r5.2.1 r5.2.2.1 r5.2.2.2.1 r5.2.2.2.2.1 (.slice A5 r5.2.2.2.2.2.1.length cp5)) Tryd.underlying26 rfl (by kernel_rfl)) rfl (HP.out _ _ ?_)
      refine ⟨⟨A5, cp5, rfl, ?_, H55.out.2.1⟩, put6_below H5.out.bel (Nat.le_refl _) r5.1 r5.2.1 r5.2.2.1 r5.2.2.2.1 r5.2.2.2.2.1 (.slice A5 r5.2.2.2.2.2.1.length cp5)⟩
      refine H55.out.1.keep (g := w.heap.size) (((((((KeepBut.refl w5 w.heap.size none).set_ 0 _).set_ 1 _).set_ 2 _).set_ 3 _).set_ 4 _).set_ 5 _) ?_
      intro ad h0 hp0
      rcases H55.out.2.2 with h1 | h1
      · rw [h1] at h0; cases h0
      · rw [h1] at h0; cases h0
    · have HEQ := Lib.hid ((getT_none 2 id 2 id ⟨#[]⟩ 0 0 [] (cmdOk 2 ⟨#[]⟩ 0 0 [])).trans (by unfold restR; simp [hL] : _ = getT 2 id (restR 2 L2)))
      have hbE : b.toList.isEmpty = false := by
        rw [HSB.out.1, str_list]
        cases hq : L2 with
        | nil => exact absurd (by rw [hq]; rfl) hL
        | cons x y => rfl
      have HX := H2
      clear hL
      go_wp2_with fail
      refine (others_calls _ 2 id ⟨#[]⟩ 0 0 [] none 0 s false (by decide) (by decide) (by decide) (ReadsInt.nil _ _) (Nat.le_refl _)).mono ?_
      rintro e w5 ⟨⟨A5, cp5, rfl, hr5, hc5, ha5⟩, hb5⟩
      have H5 := Lib.hid (HX.out.below hb5)
      have H55 := Lib.hid (And.intro hr5 (And.intro hc5 ha5))
      clear hb5 hr5 hc5 ha5
      clear z0 z1 z2 z3 z4 z5 n0 n1 n2 n3 n4 n5 k0 k1 k2 k3 k4 k5 zf0 zf1 zf2 zf3 zf4 zf5 kf0 kf1 kf2 kf3 kf4 kf5
      have hzz := H5.out.size
      have z0 := blk_cell H5.out.z 0
      have z1 := blk_cell H5.out.z 1
      have z2 := blk_cell H5.out.z 2
      have z3 := blk_cell H5.out.z 3
      have z4 := blk_cell H5.out.z 4
      have z5 := blk_cell H5.out.z 5
      have zf0 := blk_frozen H5.out.z 0
      have zf1 := blk_frozen H5.out.z 1
      have zf2 := blk_frozen H5.out.z 2
      have zf3 := blk_frozen H5.out.z 3
      have zf4 := blk_frozen H5.out.z 4
      have zf5 := blk_frozen H5.out.z 5
      simp at z0 z1 z2 z3 z4 z5
      have n0 := blk_cell H5.out.n 0
      have n1 := blk_cell H5.out.n 1
      have n2 := blk_cell H5.out.n 2
      have n3 := blk_cell H5.out.n 3
      have n4 := blk_cell H5.out.n 4
      have n5 := blk_cell H5.out.n 5
      simp at n0 n1 n2 n3 n4 n5
      have k0 := blk_cell H5.out.c 0
      have k1 := blk_cell H5.out.c 1
      have k2 := blk_cell H5.out.c 2
      have k3 := blk_cell H5.out.c 3
      have k4 := blk_cell H5.out.c 4
      have k5 := blk_cell H5.out.c 5
      have kf0 := blk_frozen H5.out.c 0
      have kf1 := blk_frozen H5.out.c 1
      have kf2 := blk_frozen H5.out.c 2
      have kf3 := blk_frozen H5.out.c 3
      have kf4 := blk_frozen H5.out.c 4
      have kf5 := blk_frozen H5.out.c 5
      simp at k0 k1 k2 k3 k4 k5
      rw [HEQ.out] at H55 ⊢
      generalize getT 2 id (restR 2 L2) = r5 at *
      go_wp2_with fail
      refine bodyPost_ret (results_ctt rfl _ _ w.heap.size 26 (cmdC r5.1 r5.2.1 r5.2.2.1 r5.2.2.2.1 r5.2.2.2.2.1 (.slice A5 r5.2.2.2.2.2.1.length cp5)) (0, 0) _ rfl (put6_blk H5.out.z r5.1 r5.2.1 r5.2.2.1 r5.2.2.2.1 r5.2.2.2.2.1 (.slice A5 r5.2.2.2.2.2.1.length cp5)) Tryd.underlying26 rfl (by kernel_rfl)) rfl (HP.out _ _ ?_)
      refine ⟨⟨A5, cp5, rfl, ?_, H55.out.2.1⟩, put6_below H5.out.bel (Nat.le_refl _) r5.1 r5.2.1 r5.2.2.1 r5.2.2.2.1 r5.2.2.2.2.1 (.slice A5 r5.2.2.2.2.2.1.length cp5)⟩
      refine H55.out.1.keep (g := w.heap.size) (((((((KeepBut.refl w5 w.heap.size none).set_ 0 _).set_ 1 _).set_ 2 _).set_ 3 _).set_ 4 _).set_ 5 _) ?_
      intro ad h0 hp0
      rcases H55.out.2.2 with h1 | h1
      · rw [h1] at h0; cases h0
      · rw [h1] at h0; cases h0

set_option maxHeartbeats 4000000 in
set_option maxRecDepth 100000 in
theorem ref_eight (w : World) (l : List Int) (id : Int) (s s1 b : ByteArray) (L2 : List Int) (h5 : ¬ l.length < 5) (hS : SHead l 8 id s s1 b L2) (hl : l.length ≤ 100000) :
    Calls Tryd.prog 15 #[.string s] w (RefPost w (getT 8 id (restR 8 L2))) := by
  refine of_post0 fun R hRR => ?_
  have HP := Lib.hid hRR
  have HV := Lib.hid hS.v
  have hi0 := hS.i0
  have hc1 := hS.c1
  have hc5 := hS.c5
  have hsz := hS.sz
  have HSB := Lib.hid (And.intro hS.bs (And.intro hS.by2 hS.l2))
  have c1 : decide ((s.size : Int) < 5) = false := by rw [decide_eq_false_iff_not]; omega
  have c2 : decide (s.size < 5) = false := by rw [decide_eq_false_iff_not]; omega
  have HSZ := Lib.hid hsz
  clear hRR hS hsz h5
  go_enter Tryd.func15, Tryd.ntmps15
  go_wp2_with fail
  go_region_held3 (fun w' => True) (trivial) ((go_at_call 39; refine (HV.out _).mono ?_; rintro e w1 ⟨rfl, n, rfl⟩))
  all_goals
    rename_i K hK hHeld
    clear hHeld
    refine hK _ _ ?_
    clear hK K
    have hH : ∃ W2, RHead w W2 8 id ⟨#[]⟩ 0 0 (.slice none 0 0) ∧ (rone w (1 + n) 8 id = W2 ∨ rsix w (1 + n) 8 id = W2) := ⟨_, rhead1 w (1 + n) 8 id, .inl rfl⟩
    clear hH
    first
    | (rw [show (((w.alloc zO).alloc zO).drewN (1 + n)).alloc (cO 8 id) = rone w (1 + n) 8 id from rfl]
       have hH := rhead1 w (1 + n) 8 id
       rw [show (((w.alloc zO).alloc zO).drewN (1 + n)).alloc (cO 8 id) = rone w (1 + n) 8 id from rfl] at hH
       generalize rone w (1 + n) 8 id = W2 at hH ⊢)
    | (rw [show (((((((((w.alloc zO).alloc zO).alloc zO).drewN (1 + n)).setCell ⟨w.heap.size + 1 + 1, 0, none⟩ (.int .u8 8)).setCell ⟨w.heap.size + 1 + 1, 1, none⟩ (.int .u32 id)).setCell ⟨w.heap.size + 1 + 1, 2, none⟩ (.string ⟨#[]⟩)).setCell ⟨w.heap.size + 1 + 1, 3, none⟩ (.int .u64 0)).setCell ⟨w.heap.size + 1 + 1, 4, none⟩ (.int .u8 0)).setCell ⟨w.heap.size + 1 + 1, 5, none⟩ (.slice none 0 0) = rsix w (1 + n) 8 id from rfl]
       have hH := rhead2 w (1 + n) 8 id
       generalize rsix w (1 + n) 8 id = W2 at hH ⊢)
    have H2 := Lib.hid hH
    clear hH
    have hzz := H2.out.size
    have z0 := blk_cell H2.out.z 0
    have z1 := blk_cell H2.out.z 1
    have z2 := blk_cell H2.out.z 2
    have z3 := blk_cell H2.out.z 3
    have z4 := blk_cell H2.out.z 4
    have z5 := blk_cell H2.out.z 5
    have zf0 := blk_frozen H2.out.z 0
    have zf1 := blk_frozen H2.out.z 1
    have zf2 := blk_frozen H2.out.z 2
    have zf3 := blk_frozen H2.out.z 3
    have zf4 := blk_frozen H2.out.z 4
    have zf5 := blk_frozen H2.out.z 5
    simp at z0 z1 z2 z3 z4 z5
    have n0 := blk_cell H2.out.n 0
    have n1 := blk_cell H2.out.n 1
    have n2 := blk_cell H2.out.n 2
    have n3 := blk_cell H2.out.n 3
    have n4 := blk_cell H2.out.n 4
    have n5 := blk_cell H2.out.n 5
    simp at n0 n1 n2 n3 n4 n5
    have k0 := blk_cell H2.out.c 0
    have k1 := blk_cell H2.out.c 1
    have k2 := blk_cell H2.out.c 2
    have k3 := blk_cell H2.out.c 3
    have k4 := blk_cell H2.out.c 4
    have k5 := blk_cell H2.out.c 5
    have kf0 := blk_frozen H2.out.c 0
    have kf1 := blk_frozen H2.out.c 1
    have kf2 := blk_frozen H2.out.c 2
    have kf3 := blk_frozen H2.out.c 3
    have kf4 := blk_frozen H2.out.c 4
    have kf5 := blk_frozen H2.out.c 5
    simp at k0 k1 k2 k3 k4 k5
    have hbz : b.size = L2.length := by rw [HSB.out.1]; exact str_size L2
    by_cases hL : L2.length = 1
    · have hl1 : (L2.length == 1) = true := by rw [beq_iff_eq]; exact hL
      have hl2 : ((L2.length : Int) == 1) = true := by rw [beq_iff_eq]; omega
      have hx := HSB.out.2.1 _ (getD0_mem (l := L2) (by omega))
      have hib : ∀ W, (Instr.index 9 (.string b) (.int .i64 0)).run Tryd.prog W = .ok (.int .u8 (L2.getD 0 0)) W := fun W => by
        rw [HSB.out.1]
        exact run_index_str HSB.out.2.1 0 (by decide) (by omega) W
      have hrr : restR 8 L2 = some (⟨#[]⟩, 0, L2.getD 0 0, []) := by unfold restR; simp [hL]
      generalize L2.getD 0 0 = x at hib hrr hx
      have HXX := Lib.hid hx
      have HEQ := Lib.hid ((getT_some (kind := 8) (id := id) (t := ⟨#[]⟩) (q := 0) (c := x) (p := []) (by decide) (by decide)).trans (by rw [hrr] : _ = getT 8 id (restR 8 L2)))
      have HX := Lib.hid (H2.out.set 4 (.int .u8 x) rfl)
      clear hL hx hrr
      go_wp2_with fail
      refine (others_calls _ 8 id ⟨#[]⟩ 0 x [] none 0 s true (by decide) HXX.out.1 (by decide) (ReadsInt.nil _ _) (Nat.le_refl _)).mono ?_
      rintro e w5 ⟨⟨A5, cp5, rfl, hr5, hc5, ha5⟩, hb5⟩
      have H5 := Lib.hid (HX.out.below hb5)
      have H55 := Lib.hid (And.intro hr5 (And.intro hc5 ha5))
      clear hb5 hr5 hc5 ha5
      clear z0 z1 z2 z3 z4 z5 n0 n1 n2 n3 n4 n5 k0 k1 k2 k3 k4 k5 zf0 zf1 zf2 zf3 zf4 zf5 kf0 kf1 kf2 kf3 kf4 kf5
      have hzz := H5.out.size
      have z0 := blk_cell H5.out.z 0
      have z1 := blk_cell H5.out.z 1
      have z2 := blk_cell H5.out.z 2
      have z3 := blk_cell H5.out.z 3
      have z4 := blk_cell H5.out.z 4
      have z5 := blk_cell H5.out.z 5
      have zf0 := blk_frozen H5.out.z 0
      have zf1 := blk_frozen H5.out.z 1
      have zf2 := blk_frozen H5.out.z 2
      have zf3 := blk_frozen H5.out.z 3
      have zf4 := blk_frozen H5.out.z 4
      have zf5 := blk_frozen H5.out.z 5
      simp at z0 z1 z2 z3 z4 z5
      have n0 := blk_cell H5.out.n 0
      have n1 := blk_cell H5.out.n 1
      have n2 := blk_cell H5.out.n 2
      have n3 := blk_cell H5.out.n 3
      have n4 := blk_cell H5.out.n 4
      have n5 := blk_cell H5.out.n 5
      simp at n0 n1 n2 n3 n4 n5
      have k0 := blk_cell H5.out.c 0
      have k1 := blk_cell H5.out.c 1
      have k2 := blk_cell H5.out.c 2
      have k3 := blk_cell H5.out.c 3
      have k4 := blk_cell H5.out.c 4
      have k5 := blk_cell H5.out.c 5
      have kf0 := blk_frozen H5.out.c 0
      have kf1 := blk_frozen H5.out.c 1
      have kf2 := blk_frozen H5.out.c 2
      have kf3 := blk_frozen H5.out.c 3
      have kf4 := blk_frozen H5.out.c 4
      have kf5 := blk_frozen H5.out.c 5
      simp at k0 k1 k2 k3 k4 k5
      rw [HEQ.out] at H55 ⊢
      generalize getT 8 id (restR 8 L2) = r5 at *
      go_wp2_with fail
      refine bodyPost_ret (results_ctt rfl _ _ w.heap.size 26 (cmdC r5.1 r5.2.1 r5.2.2.1 r5.2.2.2.1 r5.2.2.2.2.1 (.slice A5 r5.2.2.2.2.2.1.length cp5)) (0, 0) _ rfl (put6_blk H5.out.z r5.1 r5.2.1 r5.2.2.1 r5.2.2.2.1 r5.2.2.2.2.1 (.slice A5 r5.2.2.2.2.2.1.length cp5)) Tryd.underlying26 rfl (by kernel_rfl)) rfl (HP.out _ _ ?_)
      refine ⟨⟨A5, cp5, rfl, ?_, H55.out.2.1⟩, put6_below H5.out.bel (Nat.le_refl _) r5.1 r5.2.1 r5.2.2.1 r5.2.2.2.1 r5.2.2.2.2.1 (.slice A5 r5.2.2.2.2.2.1.length cp5)⟩
      refine H55.out.1.keep (g := w.heap.size) (((((((KeepBut.refl w5 w.heap.size none).set_ 0 _).set_ 1 _).set_ 2 _).set_ 3 _).set_ 4 _).set_ 5 _) ?_
      intro ad h0 hp0
      rcases H55.out.2.2 with h1 | h1
      · rw [h1] at h0; cases h0
      · rw [h1] at h0; cases h0
    · have hl1 : (L2.length == 1) = false := by rw [beq_eq_false_iff_ne]; exact hL
      have hl2 : ((L2.length : Int) == 1) = false := by rw [beq_eq_false_iff_ne]; omega
      have HEQ := Lib.hid ((getT_none 8 id 8 id ⟨#[]⟩ 0 0 [] (cmdOk 8 ⟨#[]⟩ 0 0 [])).trans (by unfold restR; simp [hL] : _ = getT 8 id (restR 8 L2)))
      have HX := H2
      clear hL
      go_wp2_with fail
      refine (others_calls _ 8 id ⟨#[]⟩ 0 0 [] none 0 s false (by decide) (by decide) (by decide) (ReadsInt.nil _ _) (Nat.le_refl _)).mono ?_
      rintro e w5 ⟨⟨A5, cp5, rfl, hr5, hc5, ha5⟩, hb5⟩
      have H5 := Lib.hid (HX.out.below hb5)
      have H55 := Lib.hid (And.intro hr5 (And.intro hc5 ha5))
      clear hb5 hr5 hc5 ha5
      clear z0 z1 z2 z3 z4 z5 n0 n1 n2 n3 n4 n5 k0 k1 k2 k3 k4 k5 zf0 zf1 zf2 zf3 zf4 zf5 kf0 kf1 kf2 kf3 kf4 kf5
      have hzz := H5.out.size
      have z0 := blk_cell H5.out.z 0
      have z1 := blk_cell H5.out.z 1
      have z2 := blk_cell H5.out.z 2
      have z3 := blk_cell H5.out.z 3
      have z4 := blk_cell H5.out.z 4
      have z5 := blk_cell H5.out.z 5
      have zf0 := blk_frozen H5.out.z 0
      have zf1 := blk_frozen H5.out.z 1
      have zf2 := blk_frozen H5.out.z 2
      have zf3 := blk_frozen H5.out.z 3
      have zf4 := blk_frozen H5.out.z 4
      have zf5 := blk_frozen H5.out.z 5
      simp at z0 z1 z2 z3 z4 z5
      have n0 := blk_cell H5.out.n 0
      have n1 := blk_cell H5.out.n 1
      have n2 := blk_cell H5.out.n 2
      have n3 := blk_cell H5.out.n 3
      have n4 := blk_cell H5.out.n 4
      have n5 := blk_cell H5.out.n 5
      simp at n0 n1 n2 n3 n4 n5
      have k0 := blk_cell H5.out.c 0
      have k1 := blk_cell H5.out.c 1
      have k2 := blk_cell H5.out.c 2
      have k3 := blk_cell H5.out.c 3
      have k4 := blk_cell H5.out.c 4
      have k5 := blk_cell H5.out.c 5
      have kf0 := blk_frozen H5.out.c 0
      have kf1 := blk_frozen H5.out.c 1
      have kf2 := blk_frozen H5.out.c 2
      have kf3 := blk_frozen H5.out.c 3
      have kf4 := blk_frozen H5.out.c 4
      have kf5 := blk_frozen H5.out.c 5
      simp at k0 k1 k2 k3 k4 k5
      rw [HEQ.out] at H55 ⊢
      generalize getT 8 id (restR 8 L2) = r5 at *
      go_wp2_with fail
      refine bodyPost_ret (results_ctt rfl _ _ w.heap.size 26 (cmdC r5.1 r5.2.1 r5.2.2.1 r5.2.2.2.1 r5.2.2.2.2.1 (.slice A5 r5.2.2.2.2.2.1.length cp5)) (0, 0) _ rfl (put6_blk H5.out.z r5.1 r5.2.1 r5.2.2.1 r5.2.2.2.1 r5.2.2.2.2.1 (.slice A5 r5.2.2.2.2.2.1.length cp5)) Tryd.underlying26 rfl (by kernel_rfl)) rfl (HP.out _ _ ?_)
      refine ⟨⟨A5, cp5, rfl, ?_, H55.out.2.1⟩, put6_below H5.out.bel (Nat.le_refl _) r5.1 r5.2.1 r5.2.2.1 r5.2.2.2.1 r5.2.2.2.2.1 (.slice A5 r5.2.2.2.2.2.1.length cp5)⟩
      refine H55.out.1.keep (g := w.heap.size) (((((((KeepBut.refl w5 w.heap.size none).set_ 0 _).set_ 1 _).set_ 2 _).set_ 3 _).set_ 4 _).set_ 5 _) ?_
      intro ad h0 hp0
      rcases H55.out.2.2 with h1 | h1
      · rw [h1] at h0; cases h0
      · rw [h1] at h0; cases h0
end Go.Proofs.YtkgedjaihimafaaDoor
