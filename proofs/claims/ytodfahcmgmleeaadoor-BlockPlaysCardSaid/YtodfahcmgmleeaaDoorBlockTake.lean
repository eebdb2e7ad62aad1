/- What (*Gatherer).Take does. -/
import Derived.Test.YtodfahcmgmleeaaDoorBlockTakes
import Derived.Test.YtodfahcmgmleeaaDoorEq
namespace Go.Proofs.YtodfahcmgmleeaaDoor
set_option linter.unusedVariables false
set_option linter.unusedSimpArgs false
open Go.RowKit Go.Proofs.YtodfahcmgmleeaaDoorW.PrintWords
attribute [local go_sem high] eqFault

abbrev wholeC (st : Int) (v : Value) (fin : Bool) : Array Value := #[.int .u32 st, v, .bool fin]
abbrev faultC (s c : Int) : Array Value := #[.int .u8 s, .int .u32 c]

abbrev frO (ty fl st : Int) (D : Value) (pad code oth wgt win : Int) (al : Bool) (S : Value) : Obj := .cells #[.int .u8 ty, .int .u8 fl, .int .u32 st, D, .int .i64 pad, .int .u32 code, .int .u32 oth, .int .u8 wgt, .bool al, .int .u32 win, S] 32
abbrev whO : Obj := .cells (wholeC 0 (.slice none 0 0) false) 34
abbrev faO (s c : Int) : Obj := .cells (faultC s c) 36

/-- The two results beside the Bool, set. -/
theorem set5 {w2 : World} {a b : Nat} {t1 t2 : TypeId} {c0 c1 c2 d0 d1 : Value} (hab : a ≠ b) (p1 : w2.heap[a]? = some (.cells #[c0, c1, c2] t1 (0, 0))) (p2 : w2.heap[b]? = some (.cells #[d0, d1] t2 (0, 0))) (x0 x1 x2 y0 y1 : Value) {W : World}
    (hW : W = ((((w2.setCell ⟨a, 0, none⟩ x0).setCell ⟨a, 1, none⟩ x1).setCell ⟨a, 2, none⟩ x2).setCell ⟨b, 0, none⟩ y0).setCell ⟨b, 1, none⟩ y1) :
    W.heap[a]? = some (.cells #[x0, x1, x2] t1 (0, 0)) ∧ W.heap[b]? = some (.cells #[y0, y1] t2 (0, 0)) ∧ (∀ B, B ≤ a → B ≤ b → Below B w2 W) ∧
      (∀ base e n v xs, e ≠ t1 → e ≠ t2 → w2.ownsRow base e 1 v n xs → W.ownsRow base e 1 v n xs) := by
  subst hW
  refine ⟨?_, ?_, ?_, ?_⟩
  · exact blk_far (blk_far (blk_set (blk_set (blk_set p1 0 x0) 1 x1) 2 x2) hab _) hab _
  · exact blk_set (blk_set (blk_far (blk_far (blk_far p2 (fun h => hab h.symm) _) (fun h => hab h.symm) _) (fun h => hab h.symm) _) 0 y0) 1 y1
  · intro B h1 h2
    exact (((((Below.refl B w2).setCell (p := ⟨a, 0, none⟩) h1 _).setCell (p := ⟨a, 1, none⟩) h1 _).setCell (p := ⟨a, 2, none⟩) h1 _).setCell (p := ⟨b, 0, none⟩) h2 _).setCell (p := ⟨b, 1, none⟩) h2 _
  · intro base e n v xs h1 h2 h
    exact own_setCell (own_setCell (own_setCell (own_setCell (own_setCell h (own_ne h p1 h1) _) (own_ne h p1 h1) _) (own_ne h p1 h1) _) (own_ne h p2 h2) _) (own_ne h p2 h2) _

theorem take_nil (w : World) (ty fl st pad code oth wgt win : Int) (al : Bool) (D S : Value) :
    Calls Tryd.prog 17 #[.pointer none, frV ty fl st D pad code oth wgt win al S] w fun ev w' => ev = .returned (.tuple #[.agg (wholeC 0 (.slice none 0 0) false), .bool false, .agg (faultC 1 2)]) ∧ Below w.heap.size w w' := by
  go_enter Tryd.func17, Tryd.ntmps17
  go_wp2
  refine bodyPost_ret (results_list (rs := [.cell 4 34, .tmp 5, .cell 6 36]) rfl (by simp) (.cell (w.heap.size + 1) 34 (wholeC 0 (.slice none 0 0) false) (0, 0) _ rfl (blk_alloc (blk_new1 w _ _) _) Tryd.underlying34 rfl (by kernel_rfl) (.tmp (.cell (w.heap.size + 1 + 1) 36 (faultC 1 2) (0, 0) _ rfl (blk_new2 w _ _ _) Tryd.underlying36 rfl (by kernel_rfl) .nil)))) rfl ⟨rfl, below_alloc3 w _ _ _⟩

/-- What Take leaves where nothing is whole: the fault, the gatherer's new state. -/
def TakeNo (w : World) (base g : Nat) (v : Value) (bs bc : Int) (s' : GSt) (ev : Ending) (w' : World) : Prop :=
  ev = .returned (.tuple #[.agg (wholeC 0 (.slice none 0 0) false), .bool false, .agg (faultC bs bc)]) ∧ (∃ v', IsG w' base g v' s' ∧ Fresh w v v') ∧ KeepBut w w' g v.ownBlock ∧ Below base w w'

set_option maxHeartbeats 2000000 in
set_option maxRecDepth 100000 in
/-- Behind a fault it tells it again. -/
theorem take_again (w : World) (base g : Nat) (v : Value) (s : GSt) (ty fl st pad code oth wgt win : Int) (al : Bool) (D S : Value) (hG : IsG w base g v s) (hbg : base ≤ g) (hbad : s.bs ≠ 0) :
    Calls Tryd.prog 17 #[.pointer (some ⟨g, 0, none⟩), frV ty fl st D pad code oth wgt win al S] w (TakeNo w base g v s.bs s.bc s) := by
  obtain ⟨s1, s2, s3, s4, s5, s6, s7⟩ := s
  simp only at hbad
  refine of_post fun R hRR => ?_
  have HP := Lib.hid hRR
  clear hRR
  have hg := hG.blk
  have hgl := blk_lt hg
  have hgl1 : g < w.heap.size + 1 := by omega
  have hgl2 : g < w.heap.size + 1 + 1 := by omega
  have q5 := blk_cell hg 5
  have q6 := blk_cell hg 6
  simp at q5 q6
  have HG := Lib.hid hG
  have z1 : (s6 == 0) = false := by simpa using hbad
  clear hg hG hbad
  go_enter Tryd.func17, Tryd.ntmps17
  go_wp2
  go_region
  go_wp2
  have hB := ((((Below.refl w.heap.size w).alloc (Nat.le_refl _) (.cells #[.int .u8 ty, .int .u8 fl, .int .u32 st, D, .int .i64 pad, .int .u32 code, .int .u32 oth, .int .u8 wgt, .bool al, .int .u32 win, S] 32)).alloc (by simp) (.cells (wholeC 0 (.slice none 0 0) false) 34)).alloc (by simp; omega) (.cells (faultC s6 s7) 36)).drew
  refine bodyPost_ret (results_list (rs := [.cell 4 34, .tmp 5, .cell 6 36]) rfl (by simp) (.cell (w.heap.size + 1) 34 (wholeC 0 (.slice none 0 0) false) (0, 0) _ rfl (blk_drew (blk_alloc (blk_new1 w _ _) _)) Tryd.underlying34 rfl (by kernel_rfl) (.tmp (.cell (w.heap.size + 1 + 1) 36 (faultC s6 s7) (0, 0) _ rfl (blk_drew (blk_new2 w _ _ _)) Tryd.underlying36 rfl (by kernel_rfl) .nil)))) rfl ?_
  refine HP.out _ _ ⟨rfl, ⟨v, ⟨blk_below HG.out.blk hB, pw_own_below HG.out.own hB⟩, Fresh.refl _ _⟩, KeepBut.of_below hB _ _, hB.mono (by omega)⟩

/-- How it ends. -/
theorem take_none_end {w w4 w2 W : World} {base g : Nat} {v v2 : Value} {s s' : GSt} {x y : Prop} (hgl : g < w.heap.size) (hbb : base ≤ w.heap.size) (hF : Fresh w4 v v2)
    (HB : Below w.heap.size w w4 ∧ IsG w2 base g v2 s' ∧ KeepBut w4 w2 g v.ownBlock ∧ Below base w4 w2 ∧ x ∧ y)
    (HS : W.heap[w.heap.size + 1]? = some (.cells (wholeC 0 (.slice none 0 0) false) 34 (0, 0)) ∧ W.heap[w.heap.size + 1 + 1]? = some (.cells (faultC s.bs s.bc) 36 (0, 0)) ∧ (∀ B, B ≤ w.heap.size + 1 → B ≤ w.heap.size + 1 + 1 → Below B w2 W) ∧
      (∀ base e n v xs, e ≠ 34 → e ≠ 36 → w2.ownsRow base e 1 v n xs → W.ownsRow base e 1 v n xs)) :
    TakeNo w base g v s.bs s.bc s' (.returned (.tuple #[.agg (wholeC 0 (.slice none 0 0) false), .bool false, .agg (faultC s.bs s.bc)])) W := by
  obtain ⟨h1, hG, hK, hB, -, -⟩ := HB
  obtain ⟨-, -, k3, k4⟩ := HS
  have hb := k3 w.heap.size (by omega) (by omega)
  refine ⟨rfl, ⟨v2, ⟨(hb.block g hgl).trans hG.blk, k4 _ _ _ _ _ (by decide) (by decide) hG.own⟩, hF.mono h1.size⟩, ?_, ?_⟩
  · exact ⟨Nat.le_trans h1.size (Nat.le_trans hK.1 hb.size), fun i hi hne hr => (hb.block i hi).trans ((hK.2 i (Nat.lt_of_lt_of_le hi h1.size) hne hr).trans (h1.block i hi))⟩
  · exact ((h1.mono hbb).trans hB).trans (hb.mono hbb)

set_option maxHeartbeats 2000000 in
set_option maxRecDepth 100000 in
theorem take_none (w : World) (base g : Nat) (v : Value) (s s' : GSt) (ty fl st pad code oth wgt win : Int) (al : Bool) (D S : Value) (ret : Bool) (hG : IsG w base g v s) (hbg : base ≤ g) (hbb : base ≤ w.heap.size) (hb0 : s.bs = 0) (hc0 : s.bc = 0)
    (hr : ret = false ∨ (bits .and .u8 fl 4 == 0) = true)
    (hT : ∀ w2, Below w.heap.size w w2 → Calls Tryd.prog 38 #[.pointer (some ⟨g, 0, none⟩), frV ty fl st D pad code oth wgt win al S] w2 (TakesPost w2 base g v ret 0 s')) :
    Calls Tryd.prog 17 #[.pointer (some ⟨g, 0, none⟩), frV ty fl st D pad code oth wgt win al S] w (TakeNo w base g v 0 0 s') := by
  obtain ⟨s1, s2, s3, s4, s5, s6, s7⟩ := s
  simp only at hb0 hc0
  subst hb0 hc0
  refine of_post fun R hRR => ?_
  have HP := Lib.hid hRR
  clear hRR
  have hg := hG.blk
  have hgl := blk_lt hg
  have hgl1 : g < w.heap.size + 1 := by omega
  have hgl2 : g < w.heap.size + 1 + 1 := by omega
  have q5 := blk_cell hg 5
  have q6 := blk_cell hg 6
  simp at q5 q6
  have HG := Lib.hid hG
  have HT := Lib.hid hT
  have HR := Lib.hid hr
  clear hg hG hT hr
  go_enter Tryd.func17, Tryd.ntmps17
  go_wp2_with fail
  have hB := (((Below.refl w.heap.size w).alloc (Nat.le_refl _) (frO ty fl st D pad code oth wgt win al S)).alloc (by simp) whO).alloc (by simp; omega) (faO 0 0)
  refine (HT.out _ hB).mono ?_
  rintro e w2 ⟨e2, v2, rfl, hc, hG2, hK2, hB2, hF2⟩
  have HF := Lib.hid hF2
  obtain rfl : e2 = .nilIface := by rcases hc with ⟨_, h⟩ | ⟨h, _⟩; exact h; exact absurd rfl h
  have hsz2 := hB2.size
  simp at hsz2
  have p0 := (hK2.2 w.heap.size (by simp; omega) (by omega) (own_ne_new HG.out.own 0)).trans (blk_alloc (blk_alloc (blk_new w (frO ty fl st D pad code oth wgt win al S)) whO) (faO 0 0))
  have p1 := (hK2.2 (w.heap.size + 1) (by simp) (by omega) (own_ne_new HG.out.own 1)).trans (blk_alloc (blk_new1 w (frO ty fl st D pad code oth wgt win al S) whO) (faO 0 0))
  have p2 := (hK2.2 (w.heap.size + 1 + 1) (by simp) (by omega) (own_ne_new HG.out.own 2)).trans (blk_new2 w (frO ty fl st D pad code oth wgt win al S) whO (faO 0 0))
  have hz0 : w.heap.size < w2.heap.size := by omega
  have hz1 : w.heap.size + 1 < w2.heap.size := by omega
  have hz2 : w.heap.size + 1 + 1 < w2.heap.size := by omega
  have q01 := blk_cell p0 1
  have r10 := blk_cell p1 0
  have r11 := blk_cell p1 1
  have r12 := blk_cell p1 2
  have r20 := blk_cell p2 0
  have r21 := blk_cell p2 1
  have g10 := blk_frozen p1 0
  have g11 := blk_frozen p1 1
  have g12 := blk_frozen p1 2
  have g20 := blk_frozen p2 0
  have g21 := blk_frozen p2 1
  simp at q01 r10 r11 r12 r20 r21
  have HB := Lib.hid (And.intro hB (And.intro hG2 (And.intro hK2 (And.intro hB2 (And.intro p1 p2)))))
  clear hF2 hB hG2 hK2 hB2 hc p0 p1 p2
  have HS := Lib.hid (set5 (by omega) HB.out.2.2.2.2.1 HB.out.2.2.2.2.2 (.int .u32 0) (.slice none 0 0) (.bool false) (.int .u8 0) (.int .u32 0) rfl)
  have hrr := HR.out
  rcases hrr with rfl | z4
  · go_wp2_with fail
    refine bodyPost_ret (results_list (rs := [.cell 4 34, .tmp 5, .cell 6 36]) rfl (by simp) (.cell (w.heap.size + 1) 34 (wholeC 0 (.slice none 0 0) false) (0, 0) _ rfl HS.out.1 Tryd.underlying34 rfl (by kernel_rfl) (.tmp (.cell (w.heap.size + 1 + 1) 36 (faultC 0 0) (0, 0) _ rfl HS.out.2.1 Tryd.underlying36 rfl (by kernel_rfl) .nil)))) rfl ?_
    refine HP.out _ _ (take_none_end (s := ⟨0, [], false, false, 0, 0, 0⟩) hgl hbb HF.out HB.out HS.out)
  · cases ret
    · go_wp2_with fail
      refine bodyPost_ret (results_list (rs := [.cell 4 34, .tmp 5, .cell 6 36]) rfl (by simp) (.cell (w.heap.size + 1) 34 (wholeC 0 (.slice none 0 0) false) (0, 0) _ rfl HS.out.1 Tryd.underlying34 rfl (by kernel_rfl) (.tmp (.cell (w.heap.size + 1 + 1) 36 (faultC 0 0) (0, 0) _ rfl HS.out.2.1 Tryd.underlying36 rfl (by kernel_rfl) .nil)))) rfl ?_
      refine HP.out _ _ (take_none_end (s := ⟨0, [], false, false, 0, 0, 0⟩) hgl hbb HF.out HB.out HS.out)
    · go_wp2_with fail
      refine bodyPost_ret (results_list (rs := [.cell 4 34, .tmp 5, .cell 6 36]) rfl (by simp) (.cell (w.heap.size + 1) 34 (wholeC 0 (.slice none 0 0) false) (0, 0) _ rfl HS.out.1 Tryd.underlying34 rfl (by kernel_rfl) (.tmp (.cell (w.heap.size + 1 + 1) 36 (faultC 0 0) (0, 0) _ rfl HS.out.2.1 Tryd.underlying36 rfl (by kernel_rfl) .nil)))) rfl ?_
      refine HP.out _ _ (take_none_end (s := ⟨0, [], false, false, 0, 0, 0⟩) hgl hbb HF.out HB.out HS.out)
/-- What Take leaves where a block is whole. -/
def TakeWhole (w : World) (base g : Nat) (v : Value) (s' : GSt) (ev : Ending) (w' : World) : Prop :=
  ∃ v2, ev = .returned (.tuple #[.agg (wholeC s'.stream v2 s'.fin), .bool true, .agg (faultC 0 0)]) ∧ w'.ownsRow base 5 1 v2 s'.block.length (nums .u8 s'.block) ∧
    IsG w' base g (.slice none 0 0) ⟨0, [], false, false, s'.more, 0, 0⟩ ∧ KeepBut w w' g v.ownBlock ∧ Below base w w' ∧ Fresh w v v2

/-- How it ends. -/
theorem take_whole_end {w w4 w2 W : World} {base g : Nat} {v v2 : Value} {s' : GSt} (o : Obj) {x y p q : Prop} (hgl : g < w.heap.size) (hbb : base ≤ w.heap.size) (hbg : base ≤ g) (hF : Fresh w4 v v2)
    (HB : Below w.heap.size w w4 ∧ IsG w2 base g v2 ⟨s'.stream, s'.block, s'.fin, s'.busy, s'.more, 0, 0⟩ ∧ KeepBut w4 w2 g v.ownBlock ∧ Below base w4 w2 ∧ x ∧ y)
    (HS : p ∧ q ∧ (∀ B, B ≤ w.heap.size + 1 → B ≤ w.heap.size + 1 + 1 → Below B ((((w2.setCell ⟨g, 0, none⟩ (.int .u32 0)).setCell ⟨g, 1, none⟩ (.slice none 0 0)).setCell ⟨g, 2, none⟩ (.bool false)).setCell ⟨g, 3, none⟩ (.bool false)) W) ∧
      (∀ base e n v xs, e ≠ 34 → e ≠ 36 → ((((w2.setCell ⟨g, 0, none⟩ (.int .u32 0)).setCell ⟨g, 1, none⟩ (.slice none 0 0)).setCell ⟨g, 2, none⟩ (.bool false)).setCell ⟨g, 3, none⟩ (.bool false)).ownsRow base e 1 v n xs → W.ownsRow base e 1 v n xs)) :
    TakeWhole w base g v s' (.returned (.tuple #[.agg (wholeC s'.stream v2 s'.fin), .bool true, .agg (faultC 0 0)])) (W.alloc o) := by
  obtain ⟨h1, hG, hK, hB, -, -⟩ := HB
  obtain ⟨-, -, k3, k4⟩ := HS
  have hb := k3 w.heap.size (by omega) (by omega)
  have hne := own_ne hG.own hG.blk (by decide)
  have hKW := (((((KeepBut.refl w2 g none).set_ 0 (.int .u32 0)).set_ 1 (.slice none 0 0)).set_ 2 (.bool false)).set_ 3 (.bool false))
  have hBW := ((((Below.refl base w2).setCell (p := ⟨g, 0, none⟩) hbg (.int .u32 0)).setCell (p := ⟨g, 1, none⟩) hbg (.slice none 0 0)).setCell (p := ⟨g, 2, none⟩) hbg (.bool false)).setCell (p := ⟨g, 3, none⟩) hbg (.bool false)
  have hgs := blk_set (blk_set (blk_set (blk_set hG.blk 0 (.int .u32 0)) 1 (.slice none 0 0)) 2 (.bool false)) 3 (.bool false)
  have hos := own_setCell (own_setCell (own_setCell (own_setCell hG.own (p := ⟨g, 0, none⟩) hne (.int .u32 0)) (p := ⟨g, 1, none⟩) hne (.slice none 0 0)) (p := ⟨g, 2, none⟩) hne (.bool false)) (p := ⟨g, 3, none⟩) hne (.bool false)
  have hsz : w.heap.size ≤ w2.heap.size := Nat.le_trans h1.size hK.1
  have hsW : base ≤ W.heap.size := Nat.le_trans hbb (Nat.le_trans (by simpa [World.setCell] using hsz) hb.size)
  refine ⟨v2, rfl, (k4 _ _ _ _ _ (by decide) (by decide) hos).alloc _, ⟨blk_alloc ((hb.block g hgl).trans hgs) _, own_nil _ _ _ _⟩, ?_, ?_, hF.mono h1.size⟩
  · refine keepBut_alloc ⟨Nat.le_trans h1.size (Nat.le_trans hK.1 (Nat.le_trans hKW.1 hb.size)), fun i hi hn hr => (hb.block i hi).trans ((hKW.2 i (by omega) hn (by simp)).trans ((hK.2 i (Nat.lt_of_lt_of_le hi h1.size) hn hr).trans (h1.block i hi)))⟩ _
  · exact ((((h1.mono hbb).trans hB).trans hBW).trans (hb.mono hbb)).alloc hsW _

set_option maxHeartbeats 2000000 in
set_option maxRecDepth 100000 in
theorem take_whole (w : World) (base g : Nat) (v : Value) (s s' : GSt) (ty fl st pad code oth wgt win : Int) (al : Bool) (D S : Value) (hG : IsG w base g v s) (hbg : base ≤ g) (hbb : base ≤ w.heap.size) (hb0 : s.bs = 0) (hc0 : s.bc = 0)
    (hr : (bits .and .u8 fl 4 == 0) = false) (hb' : s'.bs = 0) (hc' : s'.bc = 0)
    (hT : ∀ w2, Below w.heap.size w w2 → Calls Tryd.prog 38 #[.pointer (some ⟨g, 0, none⟩), frV ty fl st D pad code oth wgt win al S] w2 (TakesPost w2 base g v true 0 s')) :
    Calls Tryd.prog 17 #[.pointer (some ⟨g, 0, none⟩), frV ty fl st D pad code oth wgt win al S] w (TakeWhole w base g v s') := by
  obtain ⟨s1, s2, s3, s4, s5, s6, s7⟩ := s
  obtain ⟨t1, t2, t3, t4, t5, t6, t7⟩ := s'
  simp only at hb' hc'
  subst hb' hc'
  simp only at hb0 hc0
  subst hb0 hc0
  refine of_post fun R hRR => ?_
  have HP := Lib.hid hRR
  clear hRR
  have hg := hG.blk
  have hgl := blk_lt hg
  have hgl1 : g < w.heap.size + 1 := by omega
  have hgl2 : g < w.heap.size + 1 + 1 := by omega
  have q5 := blk_cell hg 5
  have q6 := blk_cell hg 6
  simp at q5 q6
  have HG := Lib.hid hG
  have HT := Lib.hid hT
  have HR := Lib.hid hr
  clear hg hG hT hr
  go_enter Tryd.func17, Tryd.ntmps17
  go_wp2_with fail
  have hB := (((Below.refl w.heap.size w).alloc (Nat.le_refl _) (frO ty fl st D pad code oth wgt win al S)).alloc (by simp) whO).alloc (by simp; omega) (faO 0 0)
  refine (HT.out _ hB).mono ?_
  rintro e w2 ⟨e2, v2, rfl, hc, hG2, hK2, hB2, hF2⟩
  have HF := Lib.hid hF2
  obtain rfl : e2 = .nilIface := by rcases hc with ⟨_, h⟩ | ⟨h, _⟩; exact h; exact absurd rfl h
  have hsz2 := hB2.size
  simp at hsz2
  have p0 := (hK2.2 w.heap.size (by simp; omega) (by omega) (own_ne_new HG.out.own 0)).trans (blk_alloc (blk_alloc (blk_new w (frO ty fl st D pad code oth wgt win al S)) whO) (faO 0 0))
  have p1 := (hK2.2 (w.heap.size + 1) (by simp) (by omega) (own_ne_new HG.out.own 1)).trans (blk_alloc (blk_new1 w (frO ty fl st D pad code oth wgt win al S) whO) (faO 0 0))
  have p2 := (hK2.2 (w.heap.size + 1 + 1) (by simp) (by omega) (own_ne_new HG.out.own 2)).trans (blk_new2 w (frO ty fl st D pad code oth wgt win al S) whO (faO 0 0))
  have hz0 : w.heap.size < w2.heap.size := by omega
  have hz1 : w.heap.size + 1 < w2.heap.size := by omega
  have hz2 : w.heap.size + 1 + 1 < w2.heap.size := by omega
  have q01 := blk_cell p0 1
  have r10 := blk_cell p1 0
  have r11 := blk_cell p1 1
  have r12 := blk_cell p1 2
  have r20 := blk_cell p2 0
  have r21 := blk_cell p2 1
  have g10 := blk_frozen p1 0
  have g11 := blk_frozen p1 1
  have g12 := blk_frozen p1 2
  have g20 := blk_frozen p2 0
  have g21 := blk_frozen p2 1
  simp at q01 r10 r11 r12 r20 r21
  have HB := Lib.hid (And.intro hB (And.intro hG2 (And.intro hK2 (And.intro hB2 (And.intro p1 p2)))))
  clear hF2 hB hG2 hK2 hB2 hc p0 p1 p2
  have z4 := HR.out
  obtain ⟨A1, cc1, rfl⟩ := own_slice HB.out.2.1.own
  have gg := HB.out.2.1.blk
  have k0 := blk_cell gg 0
  have k1 := blk_cell gg 1
  have k2 := blk_cell gg 2
  have k3 := blk_cell gg 3
  have m0 := blk_frozen gg 0
  have m1 := blk_frozen gg 1
  have m2 := blk_frozen gg 2
  have m3 := blk_frozen gg 3
  have hgz : g < w2.heap.size := blk_lt gg
  have hgz1 : g < w2.heap.size + 1 := by omega
  simp at k0 k1 k2 k3
  clear gg
  go_wp2_with fail
  have HS := Lib.hid (set5 (by omega) (blk_far (blk_far (blk_far (blk_far HB.out.2.2.2.2.1 (p := ⟨g, 0, none⟩) (by simp; omega) (.int .u32 0)) (p := ⟨g, 1, none⟩) (by simp; omega) (.slice none 0 0)) (p := ⟨g, 2, none⟩) (by simp; omega) (.bool false)) (p := ⟨g, 3, none⟩) (by simp; omega) (.bool false))
    (blk_far (blk_far (blk_far (blk_far HB.out.2.2.2.2.2 (p := ⟨g, 0, none⟩) (by simp; omega) (.int .u32 0)) (p := ⟨g, 1, none⟩) (by simp; omega) (.slice none 0 0)) (p := ⟨g, 2, none⟩) (by simp; omega) (.bool false)) (p := ⟨g, 3, none⟩) (by simp; omega) (.bool false))
    (.int .u32 t1) (.slice A1 t2.length cc1) (.bool t3) (.int .u8 0) (.int .u32 0) rfl)
  refine bodyPost_ret (results_list (rs := [.cell 4 34, .tmp 5, .cell 6 36]) rfl (by simp) (.cell (w.heap.size + 1) 34 (wholeC t1 (.slice A1 t2.length cc1) t3) (0, 0) _ rfl (blk_alloc HS.out.1 _) Tryd.underlying34 rfl (by kernel_rfl) (.tmp (.cell (w.heap.size + 1 + 1) 36 (faultC 0 0) (0, 0) _ rfl (blk_alloc HS.out.2.1 _) Tryd.underlying36 rfl (by kernel_rfl) .nil)))) rfl ?_
  refine HP.out _ _ (take_whole_end _ hgl hbb hbg HF.out HB.out HS.out)
theorem GV.below' {w w1 : World} {base : Nat} (h : GV w) (hl : 0 < base) (hb : Below base w w1) : GV w1 := (hb.cell hl).trans h

/-- The gatherer behind a fault: its block, the blocks of the results, its row. -/
theorem take_bad_mid {w w2 w4 w5 W : World} {base g a b : Nat} {v v2 : Value} {s' : GSt} {fc : Int} {x y : Prop}
    (HB : Below w.heap.size w w5 ∧ IsG w2 base g v2 s' ∧ KeepBut w5 w2 g v.ownBlock ∧ Below base w5 w2 ∧ x ∧ y)
    (H4 : Below w2.heap.size w2 w4 ∧ w4.heap[g]? = some (.cells (gCells s' v2) 71 (0, 0)) ∧ w4.heap[a]? = some (.cells #[.int .u32 0, .slice none 0 0, .bool false] 34 (0, 0)) ∧ w4.heap[b]? = some (.cells #[.int .u8 0, .int .u32 0] 36 (0, 0)))
    (hgl : g < w.heap.size) (hbg : base ≤ g)
    (hW : ((((((w4.setCell ⟨g, 5, none⟩ (.int .u8 1)).setCell ⟨g, 6, none⟩ (.int .u32 fc)).setCell ⟨g, 0, none⟩ (.int .u32 0)).setCell ⟨g, 1, none⟩ (.slice none 0 0)).setCell ⟨g, 2, none⟩ (.bool false)).setCell ⟨g, 3, none⟩ (.bool false)) = W) :
    W.heap[g]? = some (.cells (gCells ⟨0, [], false, false, s'.more, 1, fc⟩ (.slice none 0 0)) 71 (0, 0)) ∧
      W.heap[a]? = some (.cells #[.int .u32 0, .slice none 0 0, .bool false] 34 (0, 0)) ∧ W.heap[b]? = some (.cells #[.int .u8 0, .int .u32 0] 36 (0, 0)) ∧
      KeepBut w W g v.ownBlock ∧ Below base w5 W := by
  obtain ⟨h1, hG, hK, hB, -, -⟩ := HB
  obtain ⟨b4, gg, p1, p2⟩ := H4
  have hne : ∀ {i : Nat} {t : TypeId} {cs : Array Value}, t ≠ 71 → w4.heap[i]? = some (.cells cs t (0, 0)) → i ≠ g := by
    rintro i t cs ht h rfl
    rw [gg] at h
    injection h with h
    injection h with _ h
    exact ht h.symm
  have ha := hne (by decide) p1
  have hb := hne (by decide) p2
  subst hW
  refine ⟨?_, ?_, ?_, ?_, ?_⟩
  · exact blk_set (blk_set (blk_set (blk_set (blk_set (blk_set gg 5 (.int .u8 1)) 6 (.int .u32 fc)) 0 (.int .u32 0)) 1 (.slice none 0 0)) 2 (.bool false)) 3 (.bool false)
  · exact blk_far (blk_far (blk_far (blk_far (blk_far (blk_far p1 ha _) ha _) ha _) ha _) ha _) ha _
  · exact blk_far (blk_far (blk_far (blk_far (blk_far (blk_far p2 hb _) hb _) hb _) hb _) hb _) hb _
  · have hK4 := ((((((KeepBut.refl w4 g none).set_ 5 (.int .u8 1)).set_ 6 (.int .u32 fc)).set_ 0 (.int .u32 0)).set_ 1 (.slice none 0 0)).set_ 2 (.bool false)).set_ 3 (.bool false)
    exact ⟨Nat.le_trans h1.size (Nat.le_trans hK.1 (Nat.le_trans b4.size hK4.1)), fun i hi hn hr => (hK4.2 i (by have := h1.size; have := hK.1; have := b4.size; omega) hn (by simp)).trans ((b4.block i (by have := h1.size; have := hK.1; omega)).trans ((hK.2 i (Nat.lt_of_lt_of_le hi h1.size) hn hr).trans (h1.block i hi)))⟩
  · have hgz := blk_lt hG.blk
    exact ((((((hB.trans (b4.mono (by omega))).setCell (p := ⟨g, 5, none⟩) hbg _).setCell (p := ⟨g, 6, none⟩) hbg _).setCell (p := ⟨g, 0, none⟩) hbg _).setCell (p := ⟨g, 1, none⟩) hbg _).setCell (p := ⟨g, 2, none⟩) hbg _).setCell (p := ⟨g, 3, none⟩) hbg _

set_option maxHeartbeats 2000000 in
set_option maxRecDepth 100000 in
theorem take_bad (w : World) (base g : Nat) (v : Value) (s s' : GSt) (ty fl st pad code oth wgt win : Int) (al : Bool) (D S : Value) (ret : Bool) (hG : IsG w base g v s) (hbg : base ≤ g) (hbb : base ≤ w.heap.size) (hb0 : s.bs = 0) (hc0 : s.bc = 0)
    (fc : Int) (hcode : fc ≠ 0) (hgv : GV w) (hgb : 0 < base)
    (hT : ∀ w2, Below w.heap.size w w2 → Calls Tryd.prog 38 #[.pointer (some ⟨g, 0, none⟩), frV ty fl st D pad code oth wgt win al S] w2 (TakesPost w2 base g v ret fc s')) :
    Calls Tryd.prog 17 #[.pointer (some ⟨g, 0, none⟩), frV ty fl st D pad code oth wgt win al S] w (TakeNo w base g v 1 fc ⟨0, [], false, false, s'.more, 1, fc⟩) := by
  obtain ⟨s1, s2, s3, s4, s5, s6, s7⟩ := s
  simp only at hb0 hc0
  subst hb0 hc0
  refine of_post fun R hRR => ?_
  have HP := Lib.hid hRR
  clear hRR
  have hg := hG.blk
  have hgl := blk_lt hg
  have hgl1 : g < w.heap.size + 1 := by omega
  have hgl2 : g < w.heap.size + 1 + 1 := by omega
  have q5 := blk_cell hg 5
  have q6 := blk_cell hg 6
  simp at q5 q6
  have HG := Lib.hid hG
  have HT := Lib.hid hT
  have HR := Lib.hid (And.intro hgv hgb)
  clear hg hG hT hgv
  go_enter Tryd.func17, Tryd.ntmps17
  go_wp2_with fail
  have hB := (((Below.refl w.heap.size w).alloc (Nat.le_refl _) (frO ty fl st D pad code oth wgt win al S)).alloc (by simp) whO).alloc (by simp; omega) (faO 0 0)
  refine (HT.out _ hB).mono ?_
  rintro e w2 ⟨e2, v2, rfl, hc, hG2, hK2, hB2, hF2⟩
  have HF := Lib.hid hF2
  have hE : Err w2 0 e2 1 fc := by rcases hc with ⟨h, _⟩ | ⟨_, h⟩; exact absurd h hcode; exact h
  obtain ⟨T, eb, rfl⟩ := hE.form
  have hgv2 := (((HR.out.1.below hB).below' HR.out.2 hB2))
  have HE := Lib.hid (And.intro hE hgv2)
  have hsz2 := hB2.size
  simp at hsz2
  have p0 := (hK2.2 w.heap.size (by simp; omega) (by omega) (own_ne_new HG.out.own 0)).trans (blk_alloc (blk_alloc (blk_new w (frO ty fl st D pad code oth wgt win al S)) whO) (faO 0 0))
  have p1 := (hK2.2 (w.heap.size + 1) (by simp) (by omega) (own_ne_new HG.out.own 1)).trans (blk_alloc (blk_new1 w (frO ty fl st D pad code oth wgt win al S) whO) (faO 0 0))
  have p2 := (hK2.2 (w.heap.size + 1 + 1) (by simp) (by omega) (own_ne_new HG.out.own 2)).trans (blk_new2 w (frO ty fl st D pad code oth wgt win al S) whO (faO 0 0))
  have hz0 : w.heap.size < w2.heap.size := by omega
  have hz1 : w.heap.size + 1 < w2.heap.size := by omega
  have hz2 : w.heap.size + 1 + 1 < w2.heap.size := by omega
  have q01 := blk_cell p0 1
  have r10 := blk_cell p1 0
  have r11 := blk_cell p1 1
  have r12 := blk_cell p1 2
  have r20 := blk_cell p2 0
  have r21 := blk_cell p2 1
  have g10 := blk_frozen p1 0
  have g11 := blk_frozen p1 1
  have g12 := blk_frozen p1 2
  have g20 := blk_frozen p2 0
  have g21 := blk_frozen p2 1
  simp at q01 r10 r11 r12 r20 r21
  have HB := Lib.hid (And.intro hB (And.intro hG2 (And.intro hK2 (And.intro hB2 (And.intro p1 p2)))))
  clear hF2 hB hG2 hK2 hB2 hc p0 p1 p2 hE hgv2
  go_wp2_with fail
  refine (wrap_err 0 _ _ 1 fc _ HE.out.1).mono ?_
  rintro e w3 ⟨e3, rfl, hb3, hE3⟩
  have HE3 := Lib.hid (And.intro hE3 (And.intro (HE.out.2.below hb3) hb3))
  clear hb3 hE3
  go_wp2_with fail
  refine (of_err 1 _ 1 fc _ HE3.out.2.1 HE3.out.1).mono ?_
  rintro e w4 ⟨rfl, hb4⟩
  have hB4 := HE3.out.2.2.trans (hb4.mono HE3.out.2.2.size)
  have hsz4 := hB4.size
  have gg := blk_below HB.out.2.1.blk hB4
  have k0 := blk_cell gg 0
  have k1 := blk_cell gg 1
  have k2 := blk_cell gg 2
  have k3 := blk_cell gg 3
  have k5 := blk_cell gg 5
  have k6 := blk_cell gg 6
  have m0 := blk_frozen gg 0
  have m1 := blk_frozen gg 1
  have m2 := blk_frozen gg 2
  have m3 := blk_frozen gg 3
  have m5 := blk_frozen gg 5
  have m6 := blk_frozen gg 6
  have hgz : g < w4.heap.size := blk_lt gg
  simp at k0 k1 k2 k3 k5 k6
  have p1 := blk_below HB.out.2.2.2.2.1 hB4
  have p2 := blk_below HB.out.2.2.2.2.2 hB4
  have r10 := blk_cell p1 0
  have r11 := blk_cell p1 1
  have r12 := blk_cell p1 2
  have r20 := blk_cell p2 0
  have r21 := blk_cell p2 1
  have g10 := blk_frozen p1 0
  have g11 := blk_frozen p1 1
  have g12 := blk_frozen p1 2
  have g20 := blk_frozen p2 0
  have g21 := blk_frozen p2 1
  have hz0 : w.heap.size < w4.heap.size := by omega
  have hz1 : w.heap.size + 1 < w4.heap.size := by omega
  have hz2 : w.heap.size + 1 + 1 < w4.heap.size := by omega
  simp at r10 r11 r12 r20 r21
  have H4 := Lib.hid (And.intro hB4 (And.intro gg (And.intro p1 p2)))
  clear hB4 gg p1 p2 hb4
  go_wp2_with fail
  generalize hW : ((((((w4.setCell ⟨g, 5, none⟩ (.int .u8 1)).setCell ⟨g, 6, none⟩ (.int .u32 fc)).setCell ⟨g, 0, none⟩ (.int .u32 0)).setCell ⟨g, 1, none⟩ (.slice none 0 0)).setCell ⟨g, 2, none⟩ (.bool false)).setCell ⟨g, 3, none⟩ (.bool false)) = W9
  have H9 := Lib.hid (take_bad_mid HB.out H4.out hgl hbg hW)
  have p1 := H9.out.2.1
  have p2 := H9.out.2.2.1
  have k5 := blk_cell H9.out.1 5
  have k6 := blk_cell H9.out.1 6
  have r10 := blk_cell p1 0
  have r11 := blk_cell p1 1
  have r12 := blk_cell p1 2
  have r20 := blk_cell p2 0
  have r21 := blk_cell p2 1
  have g10 := blk_frozen p1 0
  have g11 := blk_frozen p1 1
  have g12 := blk_frozen p1 2
  have g20 := blk_frozen p2 0
  have g21 := blk_frozen p2 1
  simp at k5 k6 r10 r11 r12 r20 r21
  clear hW p1 p2
  go_region
  go_wp2
  have HS := Lib.hid (set5 (by omega) H9.out.2.1 H9.out.2.2.1 (.int .u32 0) (.slice none 0 0) (.bool false) (.int .u8 1) (.int .u32 fc) rfl)
  refine bodyPost_ret (results_list (rs := [.cell 4 34, .tmp 5, .cell 6 36]) rfl (by simp) (.cell (w.heap.size + 1) 34 (wholeC 0 (.slice none 0 0) false) (0, 0) _ rfl (blk_drew HS.out.1) Tryd.underlying34 rfl (by kernel_rfl) (.tmp (.cell (w.heap.size + 1 + 1) 36 (faultC 1 fc) (0, 0) _ rfl (blk_drew HS.out.2.1) Tryd.underlying36 rfl (by kernel_rfl) .nil)))) rfl ?_
  have hb := (HS.out.2.2.1 w.heap.size (by omega) (by omega)).drew
  obtain ⟨i1, -, -, i4, i5⟩ := H9.out
  refine HP.out _ _ ⟨rfl, ⟨_, ⟨(hb.block g hgl).trans i1, own_nil _ _ _ _⟩, Fresh.nil _ _⟩, ?_, ?_⟩
  · exact ⟨Nat.le_trans i4.1 hb.size, fun i hi hn hr => (hb.block i hi).trans (i4.2 i hi hn hr)⟩
  · exact ((HB.out.1.mono hbb).trans i5).trans (hb.mono hbb)
end Go.Proofs.YtodfahcmgmleeaaDoor
