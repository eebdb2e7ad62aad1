/- What (*Gatherer).takes does. -/
import Derived.Test.YtodfahcmgmleeaaDoorFault
import Derived.Test.YtodfahcmgmleeaaDoorMem
import Derived.Deep.RegionHeld3
import Derived.Deep.DeepCutAuto
import Derived.BigQuiet
import Derived.Deep.RegionLaw
import Derived.Deep.QuietTactic
namespace Go.Proofs.YtodfahcmgmleeaaDoor
set_option linter.unusedVariables false
set_option linter.unusedSimpArgs false
open Go.RowKit Go.Proofs.YtodfahcmgmleeaaDoorW.PrintWords

/-- A gatherer's state. -/
structure GSt where
  stream : Int
  block : List Int
  fin : Bool
  busy : Bool
  more : Int
  bs : Int
  bc : Int

abbrev gCells (s : GSt) (v : Value) : Array Value := #[.int .u32 s.stream, v, .bool s.fin, .bool s.busy, .int .i64 s.more, .int .u8 s.bs, .int .u32 s.bc]
/-- A gatherer in memory: its block, and its row of bytes, which lies from base on. -/
structure IsG (w : World) (base g : Nat) (v : Value) (s : GSt) : Prop where
  blk : w.heap[g]? = some (.cells (gCells s v) 71 (0, 0))
  own : w.ownsRow base 5 1 v s.block.length (nums .u8 s.block)

theorem Tryd.info8 : (Tryd.prog.info? 5).map (fun i => (i.zero, i.size, i.bytes)) = some (some (.int .u8 0), 1, 1) := by kernel_rfl

/-- A frame's value: the fields that a gatherer looks at, and the others. -/
abbrev frV (ty fl st : Int) (D : Value) (pad code oth wgt win : Int) (al : Bool) (S : Value) : Value :=
  .agg #[.int .u8 ty, .int .u8 fl, .int .u32 st, D, .int .i64 pad, .int .u32 code, .int .u32 oth, .int .u8 wgt, .bool al, .int .u32 win, S]

/-- The row behind: the one ahead, none, or a new one. -/
def Fresh (w : World) (v v' : Value) : Prop := v'.ownBlock = v.ownBlock ∨ v'.ownBlock = none ∨ ∃ b, v'.ownBlock = some b ∧ w.heap.size ≤ b
theorem Fresh.refl (w : World) (v : Value) : Fresh w v v := .inl rfl
theorem Fresh.nil (w : World) (v : Value) : Fresh w v (.slice none 0 0) := .inr (.inl rfl)
theorem Fresh.of_at {w W : World} {v v0 v1 : Value} (h0 : v0.ownBlock = v.ownBlock ∨ v0.ownBlock = none) (h : v1.ownBlock = v0.ownBlock ∨ v1.ownBlock = some W.heap.size) (hs : w.heap.size ≤ W.heap.size) : Fresh w v v1 := by
  rcases h with h | h
  · rw [← h] at h0
    exact h0.imp id .inl
  · exact .inr (.inr ⟨_, h, hs⟩)

theorem Fresh.mono {w W : World} {v v' : Value} (h : Fresh W v v') (hs : w.heap.size ≤ W.heap.size) : Fresh w v v' := h.imp id fun h => h.imp id fun ⟨b, h1, h2⟩ => ⟨b, h1, Nat.le_trans hs h2⟩

/-- What takes leaves: a Bool, an error of this code (0: none), the gatherer's new state. -/
def TakesPost (w : World) (base g : Nat) (v : Value) (ret : Bool) (code : Int) (s' : GSt) (ev : Ending) (w' : World) : Prop :=
  ∃ e v', ev = .returned (.tuple #[.bool ret, e]) ∧ (code = 0 ∧ e = .nilIface ∨ code ≠ 0 ∧ Err w' 0 e 1 code) ∧ IsG w' base g v' s' ∧ KeepBut w w' g v.ownBlock ∧ Below base w w' ∧ Fresh w v v'

/-- Behind the append: whether it is too much. -/
def overF (s : GSt) : Bool := decide (8192 < s.block.length) || decide (16 < s.more)

theorem of_post {P : Program} {f : FuncId} {args : Array Value} {w : World} {T : Ending → World → Prop} (h : ∀ R : Ending → World → Prop, (∀ e w', T e w' → R e w') → Calls P f args w R) : Calls P f args w T := h T fun _ _ h => h

set_option maxHeartbeats 2000000 in
set_option maxRecDepth 100000 in
theorem takes_begin (w : World) (base g : Nat) (v : Value) (s : GSt) (fl st pad code oth wgt win : Int) (al : Bool) (A : Option Addr) (S : Value) (n c : Nat) (data : List Int)
    (hG : IsG w base g v s) (hbg : base ≤ g) (hbusy : s.busy = false) (hR : ReadsInt w .u8 A n data) (hE : Elsewhere A n g) (hn : n ≤ 20000) :
    Calls Tryd.prog 38 #[.pointer (some ⟨g, 0, none⟩), frV 1 fl st (.slice A n c) pad code oth wgt win al S] w
      (TakesPost w base g v (!decide (8192 < data.length)) (if 8192 < data.length then 11 else 0) ⟨st, data, bits .and .u8 fl 1 != 0, true, 0, s.bs, s.bc⟩) := by
  obtain ⟨s1, s2, s3, s4, s5, s6, s7⟩ := s
  simp only at hbusy
  subst hbusy
  refine of_post fun R hRR => ?_
  have HP := Lib.hid hRR
  clear hRR
  have hg := hG.blk
  have hgl := blk_lt hg
  have q0 := blk_cell hg 0
  have q1 := blk_cell hg 1
  have q2 := blk_cell hg 2
  have q3 := blk_cell hg 3
  have q4 := blk_cell hg 4
  have f0 := blk_frozen hg 0
  have f1 := blk_frozen hg 1
  have f2 := blk_frozen hg 2
  have f3 := blk_frozen hg 3
  have f4 := blk_frozen hg 4
  simp at q0 q1 q2 q3 q4
  have HG := Lib.hid hg
  have HR := Lib.hid hR
  have HN := Lib.hid hR.1
  have HE := Lib.hid hE
  clear hg hG hR hE
  go_enter Tryd.func38, Tryd.ntmps38
  go_wp2
  generalize hW : World.alloc (((((w.setCell ⟨g, 0, none⟩ (.int .u32 st)).setCell ⟨g, 1, none⟩ (.slice none 0 0)).setCell ⟨g, 2, none⟩ (.bool (bits .and .u8 fl 1 != 0))).setCell ⟨g, 3, none⟩ (.bool true)).setCell ⟨g, 4, none⟩ (.int .i64 0)) _ = W9
  have hg9 : W9.heap[g]? = some (.cells (gCells ⟨st, [], bits .and .u8 fl 1 != 0, true, 0, s6, s7⟩ (.slice none 0 0)) 71 (0, 0)) := by
    rw [← hW]
    exact blk_alloc (blk_set (blk_set (blk_set (blk_set (blk_set HG.out 0 _) 1 _) 2 _) 3 _) 4 _) _
  have hsz : w.heap.size < W9.heap.size := by rw [← hW]; simp [World.setCell]
  have e1 := blk_cell hg9 1
  have e2 := blk_frozen hg9 1
  simp at e1
  have b3 : W9.cell? ⟨w.heap.size, 3, none⟩ = some (.slice A n c) := by rw [← hW]; rw [World.cell?_alloc_at _ _ _ _ (by simp [World.setCell])]; rfl
  have hK9 : KeepBut w W9 g none := by
    rw [← hW]
    exact keepBut_alloc (((((((KeepBut.refl w g none).set_ 0 _).set_ 1 _).set_ 2 _).set_ 3 _).set_ 4 _)) _
  have hB9 : Below base w W9 := by
    rw [← hW]
    exact (((((((Below.refl base w).setCell (p := ⟨g, 0, none⟩) hbg _).setCell (p := ⟨g, 1, none⟩) hbg _).setCell (p := ⟨g, 2, none⟩) hbg _).setCell (p := ⟨g, 3, none⟩) hbg _).setCell (p := ⟨g, 4, none⟩) hbg _)).alloc (by simp [World.setCell]; omega) _
  have HO := own_nil W9.drew base 5 1
  have HR9 : ReadsInt W9.drew .u8 A n data := reads_keep HR.out hK9 HE.out
  have hbase : base ≤ W9.drew.heap.size := by show base ≤ W9.heap.size; omega
  have HK9 := Lib.hid (And.intro hK9 hB9)
  clear hW hK9 hB9
  go_region_law
    ((refine step_append_row W9.drew (by rfl) _ _ 29 (by rfl) base 5 .u8 1 Tryd.underlying29 Tryd.info8 (by decide) (.slice none 0 0) [] data A n c (by rfl) (by rfl) HO HR9 hbase (by simp; omega) ?_; intro v1 w1 hown hgrow hat; obtain ⟨A1, cc1, rfl⟩ := own_slice hown; have hgA := blk_grown (row := none) (show W9.drew.heap[g]? = _ from hg9) hgrow (by simp); have e3 := blk_cell hgA 1; have e4 := blk_frozen hgA 1; have e5 := blk_cell hgA 4; simp at e3 e5; have HX := Lib.hid (And.intro hown (And.intro hgrow hgA)); have HT := Lib.hid hat; clear hown hgrow hat hgA))
  all_goals
    by_cases hov : 8192 < data.length
    · have z1 : decide ((8192 : Int) < (data.length : Int)) = true := by rw [decide_eq_true_iff]; omega
      have z2 : decide (8192 < data.length) = true := by rw [decide_eq_true_iff]; omega
      go_wp2_with fail
      refine (conn_calls _ _).mono ?_
      rintro e w2 ⟨e2, rfl, hb2, hE2⟩
      have HY := Lib.hid (And.intro hb2 hE2)
      clear hb2 hE2
      go_wp2_with fail
      refine HP.out _ _ ?_
      obtain ⟨hown, hgrow, hgA⟩ := HX.out
      obtain ⟨hb2, hE2⟩ := HY.out
      have hB := blk_set hgA 1 (.slice A1 data.length cc1)
      refine ⟨e2, _, by simp [hov], .inr ⟨by simp [hov], by simpa [hov] using hE2⟩, ⟨blk_below hB hb2, pw_own_below (own_setCell hown (own_ne hown hgA (by decide)) _) hb2⟩, ?_, ?_, Fresh.of_at (W := W9.drew) (.inr rfl) HT.out (Nat.le_of_lt hsz)⟩
      · exact keepBut_row ((keepBut_grown HK9.out.1 (grown_drew (row := none) hgrow)).set_ 1 _ |>.trans (KeepBut.of_below hb2 g none) (.inl rfl))
      · exact ((HK9.out.2.grown (grown_drew (row := none) hgrow) hbase (by simp)).setCell (p := ⟨g, 1, none⟩) hbg _).trans (hb2.mono (by have := hgrow.size; simp [World.setCell] at this ⊢; omega))
    · have z1 : decide ((8192 : Int) < (data.length : Int)) = false := by rw [decide_eq_false_iff_not]; omega
      have z2 : decide (8192 < data.length) = false := by rw [decide_eq_false_iff_not]; omega
      go_wp2_with fail
      refine HP.out _ _ ?_
      obtain ⟨hown, hgrow, hgA⟩ := HX.out
      have hB := blk_set hgA 1 (.slice A1 data.length cc1)
      refine ⟨.nilIface, _, by simp [hov], .inl ⟨by simp [hov], rfl⟩, ⟨hB, own_setCell hown (own_ne hown hgA (by decide)) _⟩, ?_, ?_, Fresh.of_at (W := W9.drew) (.inr rfl) HT.out (Nat.le_of_lt hsz)⟩
      · exact keepBut_row ((keepBut_grown HK9.out.1 (grown_drew (row := none) hgrow)).set_ 1 _)
      · exact (HK9.out.2.grown (grown_drew (row := none) hgrow) hbase (by simp)).setCell (p := ⟨g, 1, none⟩) hbg _

/-- A frame that is no block's, while none is begun. -/
theorem takes_pass (w : World) (base g : Nat) (v : Value) (s : GSt) (ty fl st pad code oth wgt win : Int) (al : Bool) (D S : Value)
    (hG : IsG w base g v s) (hbg : base ≤ g) (hbusy : s.busy = false) (h1 : ty ≠ 1) (h9 : ty ≠ 9) :
    Calls Tryd.prog 38 #[.pointer (some ⟨g, 0, none⟩), frV ty fl st D pad code oth wgt win al S] w (TakesPost w base g v false 0 s) := by
  obtain ⟨s1, s2, s3, s4, s5, s6, s7⟩ := s
  simp only at hbusy
  subst hbusy
  refine of_post fun R hRR => ?_
  have HP := Lib.hid hRR
  clear hRR
  have hg := hG.blk
  have hgl := blk_lt hg
  have q0 := blk_cell hg 0
  have q3 := blk_cell hg 3
  have q4 := blk_cell hg 4
  simp at q0 q3 q4
  have HG := Lib.hid hG
  have a1 : (ty == 1) = false := by simpa using h1
  have a9 : (ty == 9) = false := by simpa using h9
  have b9 : (ty != 9) = true := by simpa using h9
  clear hg hG
  go_enter Tryd.func38, Tryd.ntmps38
  go_wp2
  refine HP.out _ _ ?_
  have hB := (Below.refl w.heap.size w).alloc (Nat.le_refl _) (.cells #[.int .u8 ty, .int .u8 fl, .int .u32 st, D, .int .i64 pad, .int .u32 code, .int .u32 oth, .int .u8 wgt, .bool al, .int .u32 win, S] 32)
  exact ⟨.nilIface, v, rfl, .inl ⟨rfl, rfl⟩, ⟨blk_below HG.out.blk hB, pw_own_below HG.out.own hB⟩, KeepBut.of_below hB _ _, hB.mono (by omega), Fresh.refl _ _⟩

/-- A frame that may not come now. -/
theorem takes_bad (w : World) (base g : Nat) (v : Value) (s : GSt) (ty fl st pad code oth wgt win : Int) (al : Bool) (D S : Value)
    (hG : IsG w base g v s) (hbg : base ≤ g) (hbad : (s.busy = false ∧ ty = 9) ∨ (s.busy = true ∧ ty ≠ 9) ∨ (s.busy = true ∧ ty = 9 ∧ st ≠ s.stream)) :
    Calls Tryd.prog 38 #[.pointer (some ⟨g, 0, none⟩), frV ty fl st D pad code oth wgt win al S] w (TakesPost w base g v false 1 s) := by
  obtain ⟨s1, s2, s3, s4, s5, s6, s7⟩ := s
  simp only at hbad
  refine of_post fun R hRR => ?_
  have HP := Lib.hid hRR
  clear hRR
  have hg := hG.blk
  have hgl := blk_lt hg
  have q0 := blk_cell hg 0
  have q3 := blk_cell hg 3
  have q4 := blk_cell hg 4
  simp at q0 q3 q4
  have HG := Lib.hid hG
  clear hg hG
  have hB := (Below.refl w.heap.size w).alloc (Nat.le_refl _) (.cells #[.int .u8 ty, .int .u8 fl, .int .u32 st, D, .int .i64 pad, .int .u32 code, .int .u32 oth, .int .u8 wgt, .bool al, .int .u32 win, S] 32)
  have HB := Lib.hid hB
  clear hB
  rcases hbad with ⟨rfl, rfl⟩ | ⟨rfl, h9⟩ | ⟨rfl, rfl, hst⟩
  · go_enter Tryd.func38, Tryd.ntmps38
    go_wp2
    go_quiet (fail)
    go_wp2_with fail
    refine (conn_calls _ _).mono ?_
    rintro e w2 ⟨e2, rfl, hb2, hE2⟩
    have HY := Lib.hid (And.intro hb2 hE2)
    clear hb2 hE2
    go_wp2_with fail
    refine HP.out _ _ ?_
    have hB2 := (pw_below_drewN HB.out nq).trans (HY.out.1.mono (by simp))
    exact ⟨e2, v, rfl, .inr ⟨by decide, HY.out.2⟩, ⟨blk_below HG.out.blk hB2, pw_own_below HG.out.own hB2⟩, KeepBut.of_below hB2 _ _, hB2.mono (by omega), Fresh.refl _ _⟩
  · have a9 : (ty == 9) = false := by simpa using h9
    have b9 : (ty != 9) = true := by simpa using h9
    clear h9
    go_enter Tryd.func38, Tryd.ntmps38
    go_wp2
    go_quiet (fail)
    go_wp2_with fail
    refine (conn_calls _ _).mono ?_
    rintro e w2 ⟨e2, rfl, hb2, hE2⟩
    have HY := Lib.hid (And.intro hb2 hE2)
    clear hb2 hE2
    go_wp2_with fail
    refine HP.out _ _ ?_
    have hB2 := (pw_below_drewN HB.out nq).trans (HY.out.1.mono (by simp))
    exact ⟨e2, v, rfl, .inr ⟨by decide, HY.out.2⟩, ⟨blk_below HG.out.blk hB2, pw_own_below HG.out.own hB2⟩, KeepBut.of_below hB2 _ _, hB2.mono (by omega), Fresh.refl _ _⟩
  · have a9 : (st == s1) = false := by simpa using hst
    have b9 : (st != s1) = true := by simpa using hst
    clear hst
    go_enter Tryd.func38, Tryd.ntmps38
    go_wp2
    go_quiet (fail)
    go_wp2_with fail
    refine (conn_calls _ _).mono ?_
    rintro e w2 ⟨e2, rfl, hb2, hE2⟩
    have HY := Lib.hid (And.intro hb2 hE2)
    clear hb2 hE2
    go_wp2_with fail
    refine HP.out _ _ ?_
    have hB2 := (pw_below_drewN HB.out nq).trans (HY.out.1.mono (by simp))
    exact ⟨e2, v, rfl, .inr ⟨by decide, HY.out.2⟩, ⟨blk_below HG.out.blk hB2, pw_own_below HG.out.own hB2⟩, KeepBut.of_below hB2 _ _, hB2.mono (by omega), Fresh.refl _ _⟩

set_option maxHeartbeats 2000000 in
set_option maxRecDepth 100000 in
theorem takes_more (w : World) (base g : Nat) (v : Value) (s : GSt) (fl st pad code oth wgt win : Int) (al : Bool) (A : Option Addr) (S : Value) (n c : Nat) (data : List Int)
    (hG : IsG w base g v s) (hbg : base ≤ g) (hbusy : s.busy = true) (hst : st = s.stream) (hm0 : 0 ≤ s.more) (hm1 : s.more ≤ 1000) (hsl : s.block.length ≤ 100000) (hR : ReadsInt w .u8 A n data) (hE : Elsewhere A n g) (hn : n ≤ 20000) :
    Calls Tryd.prog 38 #[.pointer (some ⟨g, 0, none⟩), frV 9 fl st (.slice A n c) pad code oth wgt win al S] w
      (TakesPost w base g v (!(decide (8192 < s.block.length + data.length) || decide (16 < s.more + 1))) (if 8192 < s.block.length + data.length ∨ 16 < s.more + 1 then 11 else 0) ⟨s.stream, s.block ++ data, s.fin, true, s.more + 1, s.bs, s.bc⟩) := by
  subst hst
  obtain ⟨s1, s2, s3, s4, s5, s6, s7⟩ := s
  simp only at hbusy hm0 hm1 hsl
  subst hbusy
  refine of_post fun R hRR => ?_
  have HP := Lib.hid hRR
  clear hRR
  have hg := hG.blk
  have hgl := blk_lt hg
  obtain ⟨A1, c1, hv⟩ := own_slice hG.own
  subst hv
  have q0 := blk_cell hg 0
  have q1 := blk_cell hg 1
  have q3 := blk_cell hg 3
  have q4 := blk_cell hg 4
  have f4 := blk_frozen hg 4
  simp at q0 q1 q3 q4
  have HG := Lib.hid hG
  have HR := Lib.hid hR
  have HN := Lib.hid hR.1
  have HE := Lib.hid hE
  clear hg hG hR hE
  go_enter Tryd.func38, Tryd.ntmps38
  go_wp2
  go_quiet (fail)
  go_wp2
  generalize hW : World.setCell ((w.alloc _).drewN nq) ⟨g, 4, none⟩ (.int .i64 (s5 + 1)) = W9
  have hg9 : W9.heap[g]? = some (.cells (gCells ⟨s1, s2, s3, true, s5 + 1, s6, s7⟩ (.slice A1 s2.length c1)) 71 (0, 0)) := by
    rw [← hW]
    exact blk_set (blk_drewN (blk_alloc HG.out.blk _) nq) 4 _
  have hsz : w.heap.size < W9.heap.size := by rw [← hW]; simp [World.setCell]
  have e1 := blk_cell hg9 1
  have e2 := blk_frozen hg9 1
  simp at e1
  have b3 : W9.cell? ⟨w.heap.size, 3, none⟩ = some (.slice A n c) := by
    rw [← hW, World.cell?_setCell_other _ _ _ _ (by intro h; injection h; omega)]
    exact cell_of_row _ _ _ _ _ _ (blk_drewN (blk_new w _) nq)
  have hK9 : KeepBut w W9 g none := by
    rw [← hW]
    exact (keepBut_drewN (keepBut_alloc (KeepBut.refl w g none) _) nq).set_ 4 _
  have hB9 : Below base w W9 := by
    rw [← hW]
    exact (pw_below_drewN ((Below.refl base w).alloc (by omega) _) nq).setCell (p := ⟨g, 4, none⟩) hbg _
  have HO : W9.drew.ownsRow base 5 1 (.slice A1 s2.length c1) s2.length (nums .u8 s2) := by
    have hne := own_ne HG.out.own HG.out.blk (by decide)
    refine World.ownsRow.drew ?_
    rw [← hW]
    exact own_setCell (own_drewN ((HG.out.own).alloc _) nq) hne _
  have HR9 : ReadsInt W9.drew .u8 A n data := reads_keep HR.out hK9 HE.out
  have hbase : base ≤ W9.drew.heap.size := by show base ≤ W9.heap.size; omega
  have HK9 := Lib.hid (And.intro hK9 hB9)
  clear hW hK9 hB9
  go_region_law
    ((refine step_append_row W9.drew (by rfl) _ _ 29 (by rfl) base 5 .u8 1 Tryd.underlying29 Tryd.info8 (by decide) (.slice A1 s2.length c1) s2 data A n c (by rfl) (by rfl) HO HR9 hbase (by omega) ?_; intro v1 w1 hown hgrow hat; obtain ⟨A3, cc1, rfl⟩ := own_slice hown; have hgA := blk_grown (show W9.drew.heap[g]? = _ from hg9) hgrow (own_ne HO (show W9.drew.heap[g]? = _ from hg9) (by decide)); have e3 := blk_cell hgA 1; have e4 := blk_frozen hgA 1; have e5 := blk_cell hgA 4; simp at e3 e5; have HX := Lib.hid (And.intro hown (And.intro hgrow hgA)); have HT := Lib.hid hat; clear hown hgrow hat hgA))
  all_goals
    by_cases hov : 8192 < s2.length + data.length ∨ 16 < s5 + 1
    · have HOV := Lib.hid hov
      rcases (show (8192 < s2.length + data.length) ∨ (¬ 8192 < s2.length + data.length ∧ 16 < s5 + 1) by omega) with ha | ⟨ha, hb⟩
      · have z1 : decide ((8192 : Int) < ((s2 ++ data).length : Int)) = true := by rw [decide_eq_true_iff, List.length_append]; omega
        have z2 : decide (8192 < (s2 ++ data).length) = true := by rw [decide_eq_true_iff, List.length_append]; omega
        have z3 : decide (8192 < s2.length + data.length) = true := by rw [decide_eq_true_iff]; omega
        have z4 : decide ((8192 : Int) < (s2.length : Int) + (data.length : Int)) = true := by rw [decide_eq_true_iff]; omega
        clear ha hov
        go_wp2_with fail
        refine (conn_calls _ _).mono ?_
        rintro e w2 ⟨e6, rfl, hb2, hE2⟩
        have HY := Lib.hid (And.intro hb2 hE2)
        clear hb2 hE2
        go_wp2_with fail
        refine HP.out _ _ ?_
        obtain ⟨hown0, hgrow, hgA⟩ := HX.out
        have hown : w1.ownsRow base 5 1 (.slice A3 (s2.length + data.length) cc1) (s2 ++ data).length (nums .u8 (s2 ++ data)) := by have h := hown0; rw [List.length_append] at h ⊢; exact h
        obtain ⟨hb2, hE2⟩ := HY.out
        have hB := blk_set hgA 1 (.slice A3 (s2.length + data.length) cc1)
        refine ⟨e6, _, by simp [z3], .inr ⟨by simp [HOV.out], by simpa [HOV.out] using hE2⟩, ⟨blk_below hB hb2, pw_own_below (own_setCell hown (own_ne hown hgA (by decide)) _) hb2⟩, ?_, ?_, Fresh.of_at (W := W9.drew) (.inl rfl) (by have h := HT.out; rw [List.length_append] at h; exact h) (Nat.le_of_lt hsz)⟩
        · exact ((keepBut_grown (keepBut_row HK9.out.1) (grown_drew hgrow)).set_ 1 _).trans (KeepBut.of_below hb2 g _) (.inl rfl)
        · exact ((HK9.out.2.grown (grown_drew hgrow) hbase (own_base HG.out.own)).setCell (p := ⟨g, 1, none⟩) hbg _).trans (hb2.mono (by have := hgrow.size; simp [World.setCell] at this ⊢; omega))
      · have z1 : decide ((8192 : Int) < ((s2 ++ data).length : Int)) = false := by rw [decide_eq_false_iff_not, List.length_append]; omega
        have z2 : decide (8192 < (s2 ++ data).length) = false := by rw [decide_eq_false_iff_not, List.length_append]; omega
        have z3 : decide (8192 < s2.length + data.length) = false := by rw [decide_eq_false_iff_not]; omega
        have z5 : decide ((8192 : Int) < (s2.length : Int) + (data.length : Int)) = false := by rw [decide_eq_false_iff_not]; omega
        have z4 : decide (16 < s5 + 1) = true := by rw [decide_eq_true_iff]; omega
        clear hov
        go_wp2_with fail
        refine (conn_calls _ _).mono ?_
        rintro e w2 ⟨e6, rfl, hb2, hE2⟩
        have HY := Lib.hid (And.intro hb2 hE2)
        clear hb2 hE2
        go_wp2_with fail
        refine HP.out _ _ ?_
        obtain ⟨hown0, hgrow, hgA⟩ := HX.out
        have hown : w1.ownsRow base 5 1 (.slice A3 (s2.length + data.length) cc1) (s2 ++ data).length (nums .u8 (s2 ++ data)) := by have h := hown0; rw [List.length_append] at h ⊢; exact h
        obtain ⟨hb2, hE2⟩ := HY.out
        have hB := blk_set hgA 1 (.slice A3 (s2.length + data.length) cc1)
        refine ⟨e6, _, by simp [z3, z4], .inr ⟨by simp [HOV.out], by simpa [HOV.out] using hE2⟩, ⟨blk_below hB hb2, pw_own_below (own_setCell hown (own_ne hown hgA (by decide)) _) hb2⟩, ?_, ?_, Fresh.of_at (W := W9.drew) (.inl rfl) (by have h := HT.out; rw [List.length_append] at h; exact h) (Nat.le_of_lt hsz)⟩
        · exact ((keepBut_grown (keepBut_row HK9.out.1) (grown_drew hgrow)).set_ 1 _).trans (KeepBut.of_below hb2 g _) (.inl rfl)
        · exact ((HK9.out.2.grown (grown_drew hgrow) hbase (own_base HG.out.own)).setCell (p := ⟨g, 1, none⟩) hbg _).trans (hb2.mono (by have := hgrow.size; simp [World.setCell] at this ⊢; omega))
    · have z1 : decide ((8192 : Int) < ((s2 ++ data).length : Int)) = false := by rw [decide_eq_false_iff_not, List.length_append]; omega
      have z2 : decide (8192 < (s2 ++ data).length) = false := by rw [decide_eq_false_iff_not, List.length_append]; omega
      have z3 : decide (8192 < s2.length + data.length) = false := by rw [decide_eq_false_iff_not]; omega
      have z5 : decide ((8192 : Int) < (s2.length : Int) + (data.length : Int)) = false := by rw [decide_eq_false_iff_not]; omega
      have z4 : decide (16 < s5 + 1) = false := by rw [decide_eq_false_iff_not]; omega
      have HOV := Lib.hid hov
      clear hov
      go_wp2_with fail
      refine HP.out _ _ ?_
      obtain ⟨hown0, hgrow, hgA⟩ := HX.out
      have hown : w1.ownsRow base 5 1 (.slice A3 (s2.length + data.length) cc1) (s2 ++ data).length (nums .u8 (s2 ++ data)) := by have h := hown0; rw [List.length_append] at h ⊢; exact h
      have hB := blk_set hgA 1 (.slice A3 (s2.length + data.length) cc1)
      refine ⟨.nilIface, _, by simp [z3, z4], .inl ⟨by simp [HOV.out], rfl⟩, ⟨hB, own_setCell hown (own_ne hown hgA (by decide)) _⟩, ?_, ?_, Fresh.of_at (W := W9.drew) (.inl rfl) (by have h := HT.out; rw [List.length_append] at h; exact h) (Nat.le_of_lt hsz)⟩
      · exact (keepBut_grown (keepBut_row HK9.out.1) (grown_drew hgrow)).set_ 1 _
      · exact (HK9.out.2.grown (grown_drew hgrow) hbase (own_base HG.out.own)).setCell (p := ⟨g, 1, none⟩) hbg _
end Go.Proofs.YtodfahcmgmleeaaDoor
