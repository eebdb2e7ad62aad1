/- The law StreamEnds, walked: what one side sends, the other one comes by. -/
import Derived.Test.YtodfahcmgmleeaaDoorStreamOn
namespace Go.Proofs.YtodfahcmgmleeaaDoor
open Go.RowKit Go.Proofs.YtodfahcmgmleeaaDoorW.PrintWords
attribute [local go_sem high] eqFault

/-- States that belong together. -/
def Pair (a b : Int) : Prop := (a = 1 ∧ b = 1) ∨ (a = 4 ∧ b = 4) ∨ (a = 2 ∧ b = 3) ∨ (a = 3 ∧ b = 2) ∨ (a = 5 ∧ b = 6) ∨ (a = 6 ∧ b = 5)
theorem Pair.symm {a b : Int} (h : Pair a b) : Pair b a := by unfold Pair at *; omega
theorem Pair.range {a b : Int} (h : Pair a b) : 0 ≤ a ∧ 0 ≤ b := by unfold Pair at *; omega
/-- What is sent from one of them comes without a fault to the other; the states behind it belong together. -/
theorem pair_step {x y k t1 : Int} {e : Bool} (h : Pair x y) (hs : sendF x k e = (t1, true)) (hk : ¬ (k = 1 ∧ e = false)) : ∃ o1, comeF y k e = (o1, 0, 0) ∧ Pair t1 o1 := by
  by_cases h4 : k = 0 ∨ k = 1 ∨ k = 3 ∨ k = 8
  · rcases h with ⟨rfl, rfl⟩ | ⟨rfl, rfl⟩ | ⟨rfl, rfl⟩ | ⟨rfl, rfl⟩ | ⟨rfl, rfl⟩ | ⟨rfl, rfl⟩ <;> rcases h4 with rfl | rfl | rfl | rfl <;> cases e <;>
    simp_all [sendF, comeF, Pair] <;> (try subst hs) <;> simp_all
  · have : ¬ k = 0 ∧ ¬ k = 1 ∧ ¬ k = 3 ∧ ¬ k = 8 := by omega
    simp [sendF, this] at hs

theorem chain1 {w wr w1 : World} {o1 o2 : Obj} (hb : Below w.heap.size w wr) (h1 : Below (wr.alloc o1).heap.size (wr.alloc o1) w1) : Below w.heap.size w (w1.alloc o2) := by
  have z := hb.size
  have z1 := h1.size
  simp at z1
  exact ((hb.alloc z _).trans (h1.mono (by simp; omega))).alloc (by omega) _

def EndsRel (w : World) (n : Nat) (a b i : Value) (wr : World) : Prop :=
  ∃ (k : Nat) (x y : Int), k ≤ n ∧ i = .int .i64 k ∧ a = .int .u8 x ∧ b = .int .u8 y ∧ Pair x y ∧ Below w.heap.size w wr

set_option maxHeartbeats 8000000 in
set_option maxRecDepth 100000 in
theorem streamEnds_walk (A : Option Addr) (n cap : Nat) (hn : n ≤ 9223372036854775807) (w : World) (hR : OpsRead w A n) (hg : GV w) :
    Calls Tryd.prog 9 #[.slice A n cap] w (LawOut w) := by
  have HG := Lib.hid hg
  have HR := Lib.hid hR
  clear hg hR
  by_cases hl : 2000 < n
  · have a1 : decide ((2000 : Int) < (n : Int)) = true := by rw [decide_eq_true_iff]; omega
    have a2 : decide (2000 < n) = true := by simpa using hl
    clear hl
    go_enter Tryd.func9, Tryd.ntmps9
    go_wp2_with (go_at_call 22; refine (fixed11_calls _ HG.out).mono ?_; rintro e w1 ⟨rfl, hb⟩; have HB := Lib.hid hb; clear hb)
    go_ret
    exact ⟨rfl, HB.out⟩
  · have a1 : decide ((2000 : Int) < (n : Int)) = false := by rw [decide_eq_false_iff_not]; omega
    have a2 : decide (2000 < n) = false := by simpa using hl
    clear hl
    go_enter Tryd.func9, Tryd.ntmps9
    go_wp2
    go_loopw [3, 4, 20] (fun a b i wr => EndsRel w n a b i wr) (fun _ _ i _ => n - (intOf i).toNat)
    case atStart => exact ⟨0, 1, 1, Nat.zero_le _, rfl, rfl, rfl, .inl ⟨rfl, rfl⟩, Below.refl _ _⟩
    case round =>
      obtain ⟨k, x, y, hk, rfl, rfl, rfl, hp, hb⟩ := hrel
      have HB := Lib.hid hb
      have HP := Lib.hid hp
      have HG2 := Lib.hid (HG.out.below hb)
      clear hb hp
      by_cases hlt : k < n
      · obtain ⟨a, sn, kd, en, rfl, hk0, c0, c1, c2⟩ := HR.out k hlt
        have d0 := (HB.out.cell (World.block_lt_of_cell? w _ c0)).trans c0
        have d1 := (HB.out.cell (World.block_lt_of_cell? w _ c1)).trans c1
        have d2 := (HB.out.cell (World.block_lt_of_cell? w _ c2)).trans c2
        rw [add_field _ _ _ (by decide)] at d1 d2
        clear c0 c1 c2
        by_cases hskip : kd = 1 ∧ en = false
        · obtain ⟨rfl, rfl⟩ := hskip
          go_wp2
          go_roundw
          case rel => exact ⟨k + 1, x, y, by omega, by go_num, rfl, rfl, HP.out, HB.out.alloc HB.out.size _⟩
          case measure => simp [intOf]; omega
        · have HS := Lib.hid hskip
          have hq : (kd = 1 ∧ en = true) ∨ (kd == 1) = false := by
            by_cases h1 : kd = 1
            · cases en
              · exact absurd ⟨h1, rfl⟩ hskip
              · exact .inl ⟨h1, rfl⟩
            · exact .inr (by simpa using h1)
          clear hskip
          cases sn
          · obtain ⟨t1, t2, ht⟩ : ∃ t1 t2, sendF x kd en = (t1, t2) := ⟨_, _, rfl⟩
            have C1 := fun W => Send_calls x kd en W
            rw [ht] at C1
            have HC1 := Lib.hid C1
            have HT := Lib.hid ht
            clear C1 ht
            cases t2
            · rcases hq with ⟨rfl, rfl⟩ | hq
              all_goals
               (go_wp2_with (go_at_call 25; refine (HC1.out _).mono ?_; rintro e w1 ⟨rfl, rfl⟩)
                go_roundw
                case rel => exact ⟨k + 1, x, y, by omega, by go_num, rfl, rfl, HP.out, HB.out.alloc HB.out.size _⟩
                case measure => simp [intOf]; omega)
            · obtain ⟨o1, ho, hp2⟩ := pair_step HP.out HT.out HS.out
              have C2 := fun W (h : GV W) => Come_calls y kd en HP.out.range.2 W h
              rw [ho] at C2
              have HC2 := Lib.hid C2
              clear C2 ho HT
              have HP2 := Lib.hid hp2
              rcases hq with ⟨rfl, rfl⟩ | hq <;> rcases hp2 with ⟨rfl, rfl⟩ | ⟨rfl, rfl⟩ | ⟨rfl, rfl⟩ | ⟨rfl, rfl⟩ | ⟨rfl, rfl⟩ | ⟨rfl, rfl⟩
              all_goals
               (go_wp2_with fail
                refine (HC1.out _).mono ?_
                rintro e w1 ⟨rfl, rfl⟩
                go_wp2_with fail
                refine (HC2.out _ (HG2.out.below ((Below.refl _ _).alloc (Nat.le_refl _) _))).mono ?_
                rintro e w1 ⟨rfl, hb1⟩
                have HB1 := Lib.hid hb1
                have hz : wr.heap.size < w1.heap.size := by have := hb1.size; simp at this; omega
                have hblk := blk_below (blk_new wr _) hb1
                have k0 := blk_cell hblk 0
                simp at k0
                clear hb1 hblk
                go_wp2_with fail
                go_roundw
                case rel => exact ⟨k + 1, _, _, by omega, by go_num, rfl, rfl, HP2.out, chain1 HB.out HB1.out⟩
                case measure => simp [intOf]; omega)
          · obtain ⟨t1, t2, ht⟩ : ∃ t1 t2, sendF y kd en = (t1, t2) := ⟨_, _, rfl⟩
            have C1 := fun W => Send_calls y kd en W
            rw [ht] at C1
            have HC1 := Lib.hid C1
            have HT := Lib.hid ht
            clear C1 ht
            cases t2
            · rcases hq with ⟨rfl, rfl⟩ | hq
              all_goals
               (go_wp2_with (go_at_call 25; refine (HC1.out _).mono ?_; rintro e w1 ⟨rfl, rfl⟩)
                go_roundw
                case rel => exact ⟨k + 1, x, y, by omega, by go_num, rfl, rfl, HP.out, HB.out.alloc HB.out.size _⟩
                case measure => simp [intOf]; omega)
            · obtain ⟨o1, ho, hp2⟩ := pair_step HP.out.symm HT.out HS.out
              have C2 := fun W (h : GV W) => Come_calls x kd en HP.out.range.1 W h
              rw [ho] at C2
              have HC2 := Lib.hid C2
              clear C2 ho HT
              have HP2 := Lib.hid hp2.symm
              rcases hq with ⟨rfl, rfl⟩ | hq <;> rcases hp2 with ⟨rfl, rfl⟩ | ⟨rfl, rfl⟩ | ⟨rfl, rfl⟩ | ⟨rfl, rfl⟩ | ⟨rfl, rfl⟩ | ⟨rfl, rfl⟩
              all_goals
               (go_wp2_with fail
                refine (HC1.out _).mono ?_
                rintro e w1 ⟨rfl, rfl⟩
                go_wp2_with fail
                refine (HC2.out _ (HG2.out.below ((Below.refl _ _).alloc (Nat.le_refl _) _))).mono ?_
                rintro e w1 ⟨rfl, hb1⟩
                have HB1 := Lib.hid hb1
                have hz : wr.heap.size < w1.heap.size := by have := hb1.size; simp at this; omega
                have hblk := blk_below (blk_new wr _) hb1
                have k0 := blk_cell hblk 0
                simp at k0
                clear hb1 hblk
                go_wp2_with fail
                go_roundw
                case rel => exact ⟨k + 1, _, _, by omega, by go_num, rfl, rfl, HP2.out, chain1 HB.out HB1.out⟩
                case measure => simp [intOf]; omega)
      · go_wp2_with (go_at_call 22; refine (fixed11_calls _ HG2.out).mono ?_; rintro e w1 ⟨rfl, hb⟩; have HX := Lib.hid hb; clear hb)
        go_ret
        exact ⟨rfl, HB.out.trans (HX.out.mono HB.out.size)⟩
end Go.Proofs.YtodfahcmgmleeaaDoor
