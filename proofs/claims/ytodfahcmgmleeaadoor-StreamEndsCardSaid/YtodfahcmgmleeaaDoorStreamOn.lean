/- The law StreamOn, walked: along any row of frames. -/
import Derived.Test.YtodfahcmgmleeaaDoorStreamLaws
namespace Go.Proofs.YtodfahcmgmleeaaDoor
open Go.RowKit Go.Proofs.YtodfahcmgmleeaaDoorW.PrintWords
attribute [local go_sem high] eqFault

/-- A row of operations that came in: each element's three cells. -/
def OpsRead (w : World) (A : Option Addr) (n : Nat) : Prop := ∀ i, i < n → ∃ a s k e, A = some a ∧ 0 ≤ k ∧
  w.cell? (a.add (i * 3)) = some (.bool s) ∧ w.cell? (a.add (i * 3 + 1)) = some (.int .u8 k) ∧ w.cell? (a.add (i * 3 + 2)) = some (.bool e)

theorem live_at (s : Int) (b : Bool) (h : liveF s = b) (w : World) : Calls Tryd.prog 29 #[.int .u8 s] w fun e w' => e = .returned (.bool b) ∧ w = w' := by
  subst h; exact live_calls s w

/-- What a step of the row asks: by the state behind it. -/
def OnCase (st t1 : Int) (ov : Bool) : Prop :=
  (ov = true ∧ (st != 0) = true ∧ decide (t1 < st) = false ∧ decide (4 ≤ t1) = true) ∨
  (ov = false ∧ (st = 0 ∨ ((st != 0) = true ∧ decide (t1 < st) = false)) ∧ (decide (4 ≤ t1) = true ∨ decide (4 ≤ t1) = false))
theorem onCase_of {st t1 : Int} {ov : Bool} (h0 : 0 ≤ st) (hov : ov = true → 4 ≤ st) (hon : 0 < st → st ≤ t1) : OnCase st t1 ov := by
  cases ov
  · refine .inr ⟨rfl, ?_, ?_⟩
    · by_cases h : st = 0
      · exact .inl h
      · exact .inr ⟨by simpa using h, by rw [decide_eq_false_iff_not]; have := hon (by omega); omega⟩
    · cases decide (4 ≤ t1)
      · exact .inr rfl
      · exact .inl rfl
  · have h4 := hov rfl
    have h5 := hon (by omega)
    exact .inl ⟨rfl, by rw [bne_iff_ne]; omega, by rw [decide_eq_false_iff_not]; omega, by rw [decide_eq_true_iff]; omega⟩

theorem live_over {s : Int} (h : decide (4 ≤ s) = true) : liveF s = false := by
  have := of_decide_eq_true h
  simp [liveF]; omega
theorem chain2 {w wr w1 w2 : World} {o1 o2 : Obj} (hb : Below w.heap.size w wr) (h1 : Below (wr.alloc o1).heap.size (wr.alloc o1) w1) (h2 : Below (w1.alloc o2).heap.size (w1.alloc o2) w2) : Below w.heap.size w w2 := by
  have z := hb.size
  have z1 := h1.size
  simp at z1
  exact (((hb.alloc z _).trans (h1.mono (by simp; omega))).alloc (by omega) _).trans (h2.mono (by simp; omega))

/-- The loop's relation. -/
def OnRel (w : World) (n : Nat) (s o i : Value) (wr : World) : Prop :=
  ∃ (k : Nat) (st : Int) (ov : Bool), k ≤ n ∧ i = .int .i64 k ∧ s = .int .u8 st ∧ o = .bool ov ∧ 0 ≤ st ∧ st ≤ 6 ∧ (ov = true → 4 ≤ st) ∧ Below w.heap.size w wr

set_option maxHeartbeats 4000000 in
set_option maxRecDepth 100000 in
theorem streamOn_walk (A : Option Addr) (n cap : Nat) (hn : n ≤ 9223372036854775807) (w : World) (hR : OpsRead w A n) (hg : GV w) :
    Calls Tryd.prog 8 #[.slice A n cap] w (LawOut w) := by
  have HG := Lib.hid hg
  have HR := Lib.hid hR
  clear hg hR
  by_cases hl : 2000 < n
  · have a1 : decide ((2000 : Int) < (n : Int)) = true := by rw [decide_eq_true_iff]; omega
    have a2 : decide (2000 < n) = true := by simpa using hl
    clear hl
    go_enter Tryd.func8, Tryd.ntmps8
    go_wp2_with (go_at_call 22; refine (fixed11_calls _ HG.out).mono ?_; rintro e w1 ⟨rfl, hb⟩; have HB := Lib.hid hb; clear hb)
    go_ret
    exact ⟨rfl, HB.out⟩
  · have a1 : decide ((2000 : Int) < (n : Int)) = false := by rw [decide_eq_false_iff_not]; omega
    have a2 : decide (2000 < n) = false := by simpa using hl
    clear hl
    go_enter Tryd.func8, Tryd.ntmps8
    go_wp2
    go_loopw [3, 4, 23] (fun s o i wr => OnRel w n s o i wr) (fun _ _ i _ => n - (intOf i).toNat)
    case atStart => exact ⟨0, 0, false, Nat.zero_le _, rfl, rfl, rfl, by decide, by decide, by simp, Below.refl _ _⟩
    case round =>
      obtain ⟨k, st, ov, hk, rfl, rfl, rfl, h0, h6, hov, hb⟩ := hrel
      have HB := Lib.hid hb
      have HO := Lib.hid hov
      have HG2 := Lib.hid (HG.out.below hb)
      clear hb hov
      by_cases hlt : k < n
      · obtain ⟨a, sn, kd, en, rfl, hk0, c0, c1, c2⟩ := HR.out k hlt
        have d0 := (HB.out.cell (World.block_lt_of_cell? w _ c0)).trans c0
        have d1 := (HB.out.cell (World.block_lt_of_cell? w _ c1)).trans c1
        have d2 := (HB.out.cell (World.block_lt_of_cell? w _ c2)).trans c2
        rw [add_field _ _ _ (by decide)] at d1 d2
        clear c0 c1 c2
        cases sn
        · obtain ⟨t1, t2, t3, ht⟩ : ∃ t1 t2 t3, comeF st kd en = (t1, t2, t3) := ⟨_, _, _, rfl⟩
          have C1 := fun W (h : GV W) => Come_calls st kd en h0 W h
          have C2 := fun W => refCome_calls st kd en h0 hk0 W
          have f1 := comeF_fault st kd en
          have f2 := comeF_on st kd en
          have f3 := comeF_range st kd en h0 h6
          rw [ht] at C1 C2 f1 f2 f3
          have hc : OnCase st t1 ov := onCase_of h0 HO.out (fun h => f2 h h6)
          have HC1 := Lib.hid C1
          have HC2 := Lib.hid C2
          have HF3 := Lib.hid f3
          clear C1 C2 f2 f3 ht h0 h6
          have hf : (t2 = 0 ∧ t3 = 0) ∨ ((t2 == 0) = false ∧ (t2 != 0) = true) := by
            rcases f1 with ⟨h1, h2⟩ | ⟨h1, h2⟩
            · exact .inl ⟨h1, h2⟩
            · exact .inr ⟨by simpa using h1, by simpa using h1⟩
          clear f1
          rcases hf with ⟨rfl, rfl⟩ | ⟨b1, b2⟩ <;> rcases hc with ⟨rfl, e1, e2, e3⟩ | ⟨rfl, rfl | ⟨e1, e2⟩, e3 | e3⟩
          all_goals
           (go_wp2_with fail
            refine (HC1.out _ (HG2.out.below ((Below.refl _ _).alloc (Nat.le_refl _) _))).mono ?_
            rintro e w1 ⟨rfl, hb1⟩
            have HB1 := Lib.hid hb1
            have hz : wr.heap.size < w1.heap.size := by have := hb1.size; simp at this; omega
            have hblk := blk_below (blk_new wr _) hb1
            have k1 := blk_cell hblk 1
            have k2 := blk_cell hblk 2
            simp at k1 k2
            clear hb1 hblk
            go_wp2_with fail
            refine (HC2.out _).mono ?_
            rintro e w2 ⟨rfl, hb2⟩
            have HB2 := Lib.hid hb2
            obtain ⟨l0, l1, l2, l3⟩ := blk2 (blk_below (blk_new w1 _) hb2)
            clear hb2
            go_wp2_with (go_at_call 29; refine (live_at _ false (live_over e3) _).mono ?_; rintro e w3 ⟨rfl, rfl⟩)
            go_roundw
            case rel => exact ⟨k + 1, t1, _, by omega, by go_num, rfl, rfl, HF3.out.1, HF3.out.2, by first | exact fun _ => of_decide_eq_true e3 | exact fun h => Bool.noConfusion h, chain2 HB.out HB1.out HB2.out⟩
            case measure => simp [intOf]; omega)
        · obtain ⟨t1, t2, ht⟩ : ∃ t1 t2, sendF st kd en = (t1, t2) := ⟨_, _, rfl⟩
          have C1 := fun W => Send_calls st kd en W
          have C2 := fun W => refSend_calls st kd en h0 hk0 W
          have f2 := sendF_on st kd en
          have f3 := sendF_range st kd en h0 h6
          rw [ht] at C1 C2 f2 f3
          have hc : OnCase st t1 ov := onCase_of h0 HO.out (fun h => f2 h h6)
          have HC1 := Lib.hid C1
          have HC2 := Lib.hid C2
          have HF3 := Lib.hid f3
          clear C1 C2 f2 f3 ht h0 h6
          rcases hc with ⟨rfl, e1, e2, e3⟩ | ⟨rfl, rfl | ⟨e1, e2⟩, e3 | e3⟩
          all_goals
           (go_wp2_with (first
              | (go_at_call 25; refine (HC1.out _).mono ?_; rintro e w1 ⟨rfl, rfl⟩)
              | (go_at_call 26; refine (HC2.out _).mono ?_; rintro e w1 ⟨rfl, rfl⟩)
              | (go_at_call 29; refine (live_at _ false (live_over e3) _).mono ?_; rintro e w3 ⟨rfl, rfl⟩))
            go_roundw
            case rel => exact ⟨k + 1, t1, _, by omega, by go_num, rfl, rfl, HF3.out.1, HF3.out.2, by first | exact fun _ => of_decide_eq_true e3 | exact fun h => Bool.noConfusion h, HB.out.alloc HB.out.size _⟩
            case measure => simp [intOf]; omega)
      · go_wp2_with (go_at_call 22; refine (fixed11_calls _ HG2.out).mono ?_; rintro e w1 ⟨rfl, hb⟩; have HX := Lib.hid hb; clear hb)
        go_ret
        exact ⟨rfl, HB.out.trans (HX.out.mono HB.out.size)⟩
end Go.Proofs.YtodfahcmgmleeaaDoor
