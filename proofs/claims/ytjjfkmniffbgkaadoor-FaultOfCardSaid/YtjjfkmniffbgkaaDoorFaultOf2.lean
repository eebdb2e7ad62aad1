/- The statement FaultOf, walked. -/
import Derived.Test.YtjjfkmniffbgkaaDoorFaultOf
import Derived.Deep.RegionHeld3
import Derived.IntWalk
namespace Go.Proofs.YtjjfkmniffbgkaaDoor
set_option linter.unusedVariables false
set_option linter.unusedSimpArgs false
open Go.RowKit Go.Proofs.YtjjfkmniffbgkaaDoorW.PrintWords Go.Extern.Stop Go.Stop Go.Extern
attribute [local go_sem high] eqFault

theorem new_none (s c : Int) (h : s = 0 ∨ 3 < s) (w : World) : Calls Tryd.prog 14 #[.agg #[.int .u8 s, .int .u32 c]] w fun ev w' => ev = .returned .nilIface ∧ Below w.heap.size w w' := by
  by_cases h0 : s = 0
  · have b1 : (s == 0) = true := by rw [beq_iff_eq]; exact h0
    clear h h0
    go_enter Tryd.func14, Tryd.ntmps14
    go_wp2
    go_ret
    exact ⟨rfl, (Below.refl _ _).alloc (Nat.le_refl _) _⟩
  · have b1 : (s == 0) = false := by rw [beq_eq_false_iff_ne]; exact h0
    have b2 : decide (3 < s) = true := by rw [decide_eq_true_iff]; omega
    clear h h0
    go_enter Tryd.func14, Tryd.ntmps14
    go_wp2
    go_ret
    exact ⟨rfl, (Below.refl _ _).alloc (Nat.le_refl _) _⟩
theorem rsome_calls (s c : Int) (w : World) : Calls Tryd.prog 17 #[.agg #[.int .u8 s, .int .u32 c]] w fun ev w' => ev = .returned (.bool (decide (1 ≤ s ∧ s ≤ 3))) ∧ Below w.heap.size w w' := by
  refine of_post0 fun R hRR => ?_
  have HP := Lib.hid hRR
  clear hRR
  by_cases h1 : 1 ≤ s
  · have b1 : decide (1 ≤ s) = true := by simpa using h1
    by_cases h3 : s ≤ 3
    · have b3 : decide (s ≤ 3) = true := by simpa using h3
      have HE := Lib.hid (show decide (1 ≤ s ∧ s ≤ 3) = true by simp [h1, h3])
      clear h1 h3
      go_enter Tryd.func17, Tryd.ntmps17
      go_wp2_with fail
      exact HP.out _ _ ⟨by rw [HE.out]; rfl, by repeat (first | exact Below.refl _ _ | apply pw_below_drewN | apply below_drew1 | apply below_alloc)⟩
    · have b3 : decide (s ≤ 3) = false := by simpa using h3
      have HE := Lib.hid (show decide (1 ≤ s ∧ s ≤ 3) = false by simp [h3])
      clear h1 h3
      go_enter Tryd.func17, Tryd.ntmps17
      go_wp2_with fail
      exact HP.out _ _ ⟨by rw [HE.out]; rfl, by repeat (first | exact Below.refl _ _ | apply pw_below_drewN | apply below_drew1 | apply below_alloc)⟩
  · have b1 : decide (1 ≤ s) = false := by simpa using h1
    have HE := Lib.hid (show decide (1 ≤ s ∧ s ≤ 3) = false by simp [h1])
    clear h1
    go_enter Tryd.func17, Tryd.ntmps17
    go_wp2_with fail
    exact HP.out _ _ ⟨by rw [HE.out]; rfl, by repeat (first | exact Below.refl _ _ | apply pw_below_drewN | apply below_drew1 | apply below_alloc)⟩

/-- The first loop: the error so far. -/
def WrapRel (w : World) (g : Nat) (s c : Int) (l : List ByteArray) (is : Bool) (e i : Value) (wr : World) : Prop :=
  ∃ k : Nat, k ≤ l.length ∧ i = .int .i64 k ∧ (if is = true then ErrT wr (l.take k).reverse e s c else e = .nilIface) ∧ wr.heap[g]? = some (.cells #[.int .u8 s, .int .u32 c] 24 (0, 0)) ∧ Below w.heap.size w wr

set_option maxHeartbeats 2000000 in
set_option maxRecDepth 100000 in
theorem faultOf_some (s c : Int) (h1 : 0 < s) (h2 : s < 4) (A : Option Addr) (c0 : Nat) (l : List ByteArray) (w : World) (hR : Kd.C Kd.string w A l.length l) (hc0 : l.length ≤ c0) (hl : l.length ≤ 300) (hG : WFact w) :
    Calls Tryd.prog 3 #[.agg #[.int .u8 s, .int .u32 c], .slice A l.length c0] w fun e w' => e = .returned (.bool true) ∧ Below w.heap.size w w' := by
  refine of_post0 fun R hRR => ?_
  have HP := Lib.hid hRR
  have HG := Lib.hid hG
  have HR := Lib.hid (Kd.reads_of_C (d := (⟨#[]⟩ : ByteArray)) hR)
  have b1 : decide ((300 : Int) < (l.length : Int)) = false := by rw [decide_eq_false_iff_not]; omega
  have b2 : decide (300 < l.length) = false := by rw [decide_eq_false_iff_not]; omega
  have HS := Lib.hid (And.intro h1 h2)
  clear hRR hG hR h1 h2
  go_enter Tryd.func3, Tryd.ntmps3
  go_wp2_with fail
  refine (new_calls s c HS.out.1 HS.out.2 _).mono ?_
  rintro e w1 ⟨v, rfl, hb1, hE1⟩
  have hz1 : w.heap.size < w1.heap.size := by have := hb1.size; simp at this; omega
  have HE1 := Lib.hid hE1
  have HB1 := Lib.hid (And.intro (below_alloc (Below.refl w.heap.size w) (.cells #[.int .u8 s, .int .u32 c] 24)) hb1)
  have hblk := blk_below (blk_new w (.cells #[.int .u8 s, .int .u32 c] 24)) hb1
  have HK := Lib.hid hblk
  clear hb1 hE1 hblk
  go_wp2_with fail
  go_loopw [5, 19] (fun e i wr => WrapRel w w.heap.size s c l true e i wr) (fun _ i _ => l.length - (intOf i).toNat)
  case atStart => exact ⟨0, Nat.zero_le _, rfl, by rw [if_pos rfl]; exact HE1.out, HK.out, HB1.out.1.trans (HB1.out.2.mono (by simp))⟩
  case round =>
    obtain ⟨k, hk, rfl, hE, hblk, hB⟩ := hrel
    simp only [if_true] at hE
    have HE := Lib.hid hE
    have HBK := Lib.hid hblk
    have HB := Lib.hid hB
    have hzr : w.heap.size < wr.heap.size := blk_lt hblk
    clear hE hB hblk
    by_cases hlt : k < l.length
    · obtain ⟨ad, rfl, hc⟩ := HR.out.2.2 (by omega)
      have hck := cell_below HB.out (hc k hlt)
      have HT := Lib.hid (show (l.take (k + 1)).reverse = l.getD k ⟨#[]⟩ :: (l.take k).reverse by
        rw [List.take_succ_eq_append_getElem hlt, List.reverse_append, List.getD_eq_getElem?_getD, List.getElem?_eq_getElem hlt]
        rfl)
      generalize l.getD k ⟨#[]⟩ = x at hck HT
      clear hc
      obtain ⟨T, p, rfl⟩ := HE.out.err.form
      go_wp2_with fail
      refine (wrap_errT x _ _ s c _ HE.out).mono ?_
      rintro e w2 ⟨v2, rfl, hb2, hE2⟩
      have HX := Lib.hid (And.intro hb2 hE2)
      clear hb2 hE2
      go_wp2_with fail
      go_roundw
      case rel => exact ⟨k + 1, by omega, by go_num, by rw [if_pos rfl, HT.out]; exact HX.out.2, blk_below HBK.out HX.out.1, HB.out.trans (HX.out.1.mono (Nat.le_of_lt hzr))⟩
      case measure => simp [intOf]; omega
    · obtain ⟨wo, rfl⟩ : ∃ wo : World, wo = wr := ⟨_, rfl⟩
      obtain rfl : k = l.length := by omega
      rw [List.take_length] at HE
      have z0 := blk_cell HBK.out 0
      have z1 := blk_cell HBK.out 1
      simp at z0 z1
      obtain ⟨T, p, rfl⟩ := HE.out.err.form
      go_wp2_with fail
      refine (where_calls _ _ s c _ (HE.out.below (below_alloc (Below.refl _ _) _)) (by simp; omega)).mono ?_
      rintro e w3 ⟨v3, rfl, hO, hb3⟩
      obtain ⟨A3, cap3, rfl⟩ := own_slice hO
      have hwf := blk_below (blk_alloc HBK.out (.cells #[.int .u8 s, .int .u32 c] 24)) hb3
      have hww := blk_below (blk_new wo (.cells #[.int .u8 s, .int .u32 c] 24)) hb3
      have hE3 := (HE.out.below (below_alloc (Below.refl wo.heap.size wo) (.cells #[.int .u8 s, .int .u32 c] 24))).below hb3
      have hB3 := HB.out.trans (((Below.refl wo.heap.size wo).alloc (Nat.le_refl _) (.cells #[.int .u8 s, .int .u32 c] 24)).trans (hb3.mono (by simp)) |>.mono (Nat.le_of_lt hzr))
      have z0 := blk_cell hwf 0
      have z1 := blk_cell hwf 1
      have q0 := blk_cell hww 0
      have q1 := blk_cell hww 1
      simp at z0 z1 q0 q1
      have H3 := Lib.hid (And.intro hO (And.intro hwf (And.intro hww (And.intro hE3 hB3))))
      clear hO hb3 hwf hww hE3 hB3
      go_wp2_with fail
      refine (rsome_calls s c _).mono ?_
      rintro e w4 ⟨rfl, hb4⟩
      rw [decide_eq_true (show 1 ≤ s ∧ s ≤ 3 by have := HS.out; omega)]
      have hzw : wo.heap.size < w3.heap.size := blk_lt H3.out.2.2.1
      have q0' := cell_below hb4 q0
      have q1' := cell_below hb4 q1
      have H4 := Lib.hid hb4
      clear hb4 z0 z1 q0 q1
      go_wp2_with fail
      have hof : ∀ W, Below w4.heap.size w4 W → Calls Tryd.prog 18 #[.iface T (.pointer (some ⟨p, 0, none⟩))] W fun ev w' => ev = .returned (.agg #[.int .u8 s, .int .u32 c]) ∧ Below W.heap.size W w' := fun W hW =>
        of_err _ _ s c W (((HG.out.below H3.out.2.2.2.2).below H4.out).below hW).1 ((H3.out.2.2.2.1.err.below H4.out).below hW)
      have HOF := Lib.hid hof
      have hz4 : wo.heap.size < w4.heap.size := by have := H4.out.size; omega
      clear hof
      go_region_held3 (fun w' => w'.cell? ⟨wo.heap.size, 0, none⟩ = some (.int .u8 s) ∧ w'.cell? ⟨wo.heap.size, 1, none⟩ = some (.int .u32 c))
        (first | exact ⟨q0', q1'⟩ | exact ⟨r0, r1⟩)
        ((go_at_call 18; refine (HOF.out _ (by repeat (first | exact Below.refl _ _ | apply below_drew1 | apply pw_below_drewN))).mono ?_; rintro e w5 ⟨rfl, hb5⟩; have r0 := cell_below hb5 q0'; have r1 := cell_below hb5 q1'; have H5 := Lib.hid ((Below.refl w4.heap.size w4).drew.trans (hb5.mono (Nat.le_refl _))); clear hb5))
      go_wp2_with fail
      go_loopw [58] (fun i wr2 => ∃ k : Nat, k ≤ l.length ∧ i = .int .i64 k ∧ Below w5.heap.size w5 wr2) (fun i _ => l.length - (intOf i).toNat)
      case atStart => exact ⟨0, Nat.zero_le _, rfl, by repeat (first | exact Below.refl _ _ | apply below_drew1 | apply pw_below_drewN)⟩
      case round =>
        obtain ⟨k, hk, rfl, hB6⟩ := hrel
        have HB6 := Lib.hid hB6
        clear hB6
        by_cases hlt : k < l.length
        · obtain ⟨ad, rfl, hc⟩ := HR.out.2.2 (by omega)
          have hB2 := H3.out.2.2.2.2.trans ((H4.out.trans ((H5.out.mono H4.out.size).trans (HB6.out.mono (Nat.le_trans H4.out.size H5.out.size)))).mono H3.out.2.2.2.2.size)
          have hcb := cell_below hB2 (hc (l.length - 1 - k) (by omega))
          obtain ⟨a3, rfl, hc3⟩ := (own_reads_of' (d := (⟨#[]⟩ : ByteArray)) H3.out.1).2.2 (by simp; omega)
          have hca := cell_below ((H4.out.trans ((H5.out.mono H4.out.size).trans (HB6.out.mono (Nat.le_trans H4.out.size H5.out.size))))) (hc3 k (by simp; omega))
          have ex : l.reverse.getD k ⟨#[]⟩ = l.getD (l.length - 1 - k) ⟨#[]⟩ := by
            rw [List.getD_eq_getElem?_getD, List.getD_eq_getElem?_getD, List.getElem?_reverse hlt]
          rw [ex] at hca
          generalize l.getD (l.length - 1 - k) ⟨#[]⟩ = x at hca hcb
          have i1 : IntKind.i64.wrap ((l.length : Int) - 1) = (l.length : Int) - 1 := IntWalk.i64_in _ (by omega)
          have i2 : IntKind.i64.wrap ((l.length : Int) - 1 - (k : Int)) = (l.length : Int) - 1 - (k : Int) := IntWalk.i64_in _ (by omega)
          have i3 : (0 : Int) ≤ (l.length : Int) - 1 - (k : Int) := by omega
          have i4 : ((l.length : Int) - 1 - (k : Int)).toNat = l.length - 1 - k := by omega
          have i5 : (l.length : Int) - 1 - (k : Int) < (l.length : Int) := by omega
          have i6 : (k : Int) < (l.length : Int) := by omega
          clear hc hc3 ex hB2
          go_wp2_with fail
          go_quiet (fail)
          go_wp2_with fail
          exact ⟨⟨k + 1, by omega, by go_num, pw_below_drewN HB6.out _⟩, by simp [intOf]; omega⟩
        · obtain rfl : k = l.length := by omega
          go_wp2_with fail
          refine (fixed01 _ ((((HG.out.below H3.out.2.2.2.2).below H4.out).below H5.out).below HB6.out)).mono ?_
          rintro e w9 ⟨rfl, hb9⟩
          have H9 := Lib.hid (H3.out.2.2.2.2.trans ((H4.out.trans ((H5.out.mono H4.out.size).trans ((HB6.out.trans (hb9.mono HB6.out.size)).mono (Nat.le_trans H4.out.size H5.out.size)))).mono H3.out.2.2.2.2.size))
          clear hb9
          go_wp2_with fail
          exact HP.out _ _ ⟨rfl, H9.out⟩

/-- Where the fault isn't one: no error is made. -/
def NoneRel (w : World) (s c : Int) (n : Nat) (e i : Value) (wr : World) : Prop :=
  ∃ k : Nat, k ≤ n ∧ i = .int .i64 k ∧ e = .nilIface ∧ wr.heap[w.heap.size]? = some (.cells #[.int .u8 s, .int .u32 c] 24 (0, 0)) ∧ Below w.heap.size w wr
set_option maxHeartbeats 2000000 in
set_option maxRecDepth 100000 in
theorem faultOf_none (s c : Int) (h1 : s = 0 ∨ 3 < s) (A : Option Addr) (c0 : Nat) (l : List ByteArray) (w : World) (hR : Kd.C Kd.string w A l.length l) (hc0 : l.length ≤ c0) (hl : l.length ≤ 300) (hG : WFact w) :
    Calls Tryd.prog 3 #[.agg #[.int .u8 s, .int .u32 c], .slice A l.length c0] w fun e w' => e = .returned (.bool true) ∧ Below w.heap.size w w' := by
  refine of_post0 fun R hRR => ?_
  have HP := Lib.hid hRR
  have HG := Lib.hid hG
  have HR := Lib.hid (Kd.reads_of_C (d := (⟨#[]⟩ : ByteArray)) hR)
  have b1 : decide ((300 : Int) < (l.length : Int)) = false := by rw [decide_eq_false_iff_not]; omega
  have b2 : decide (300 < l.length) = false := by rw [decide_eq_false_iff_not]; omega
  have HS := Lib.hid h1
  clear hRR hG hR h1
  go_enter Tryd.func3, Tryd.ntmps3
  go_wp2_with fail
  refine (new_none s c HS.out _).mono ?_
  rintro e w1 ⟨rfl, hb1⟩
  have hz1 : w.heap.size < w1.heap.size := by have := hb1.size; simp at this; omega
  have HB1 := Lib.hid (And.intro (below_alloc (Below.refl w.heap.size w) (.cells #[.int .u8 s, .int .u32 c] 24)) hb1)
  have hblk := blk_below (blk_new w (.cells #[.int .u8 s, .int .u32 c] 24)) hb1
  have HK := Lib.hid hblk
  clear hb1 hblk
  go_wp2_with fail
  go_loopw [5, 19] (fun e i wr => NoneRel w s c l.length e i wr) (fun _ i _ => l.length - (intOf i).toNat)
  case atStart => exact ⟨0, Nat.zero_le _, rfl, rfl, HK.out, HB1.out.1.trans (HB1.out.2.mono (by simp))⟩
  case round =>
    obtain ⟨k, hk, rfl, rfl, hblk, hB⟩ := hrel
    have HBK := Lib.hid hblk
    have HB := Lib.hid hB
    have hzr : w.heap.size < wr.heap.size := blk_lt hblk
    clear hB hblk
    by_cases hlt : k < l.length
    · obtain ⟨ad, rfl, hc⟩ := HR.out.2.2 (by omega)
      have hck := cell_below HB.out (hc k hlt)
      generalize l.getD k ⟨#[]⟩ = x at hck
      clear hc
      go_wp2_with fail
      refine (wrap_nil x _).mono ?_
      rintro e w2 ⟨rfl, rfl⟩
      go_wp2_with fail
      go_roundw
      case rel => exact ⟨k + 1, by omega, by go_num, rfl, HBK.out, HB.out⟩
      case measure => simp [intOf]; omega
    · obtain ⟨wo, rfl⟩ : ∃ wo : World, wo = wr := ⟨_, rfl⟩
      obtain rfl : k = l.length := by omega
      have z0 := blk_cell HBK.out 0
      have z1 := blk_cell HBK.out 1
      simp at z0 z1
      go_wp2_with fail
      refine (where_nil _).mono ?_
      rintro e w3 ⟨rfl, rfl⟩
      go_wp2_with fail
      refine (rsome_calls s c _).mono ?_
      rintro e w4 ⟨rfl, hb4⟩
      rw [decide_eq_false (show ¬ (1 ≤ s ∧ s ≤ 3) by have := HS.out; omega)]
      have H4 := Lib.hid ((below_alloc (Below.refl wo.heap.size wo) (.cells #[.int .u8 s, .int .u32 c] 24)).trans (hb4.mono (by simp)))
      clear hb4 z0 z1
      go_wp2_with fail
      refine (fixed01 _ ((HG.out.below HB.out).below H4.out)).mono ?_
      rintro e w5 ⟨rfl, hb5⟩
      have H5 := Lib.hid (H4.out.trans (hb5.mono H4.out.size))
      clear hb5
      go_wp2_with fail
      refine (of_nil _).mono ?_
      rintro e w6 ⟨rfl, hb6⟩
      have H6 := Lib.hid (H5.out.trans (hb6.mono H5.out.size))
      clear hb6
      go_wp2_with fail
      exact HP.out _ _ ⟨rfl, HB.out.trans (H6.out.mono (Nat.le_of_lt hzr))⟩

theorem faultOf_walk (s c : Int) (hs : 0 ≤ s) (A : Option Addr) (c0 : Nat) (l : List ByteArray) (w : World) (hR : Kd.C Kd.string w A l.length l) (hc0 : l.length ≤ c0) (hG : WFact w) :
    Calls Tryd.prog 3 #[.agg #[.int .u8 s, .int .u32 c], .slice A l.length c0] w fun e w' => e = .returned (.bool true) ∧ Below w.heap.size w w' := by
  by_cases hl : l.length ≤ 300
  · by_cases h : 0 < s ∧ s < 4
    · exact faultOf_some s c h.1 h.2 A c0 l w hR hc0 hl hG
    · exact faultOf_none s c (by omega) A c0 l w hR hc0 hl hG
  · refine of_post0 fun R hRR => ?_
    have HP := Lib.hid hRR
    have HG := Lib.hid hG
    have b1 : decide ((300 : Int) < (l.length : Int)) = true := by rw [decide_eq_true_iff]; omega
    have b2 : decide (300 < l.length) = true := by rw [decide_eq_true_iff]; omega
    clear hRR hG hR hl
    go_enter Tryd.func3, Tryd.ntmps3
    go_wp2_with fail
    have hB := below_alloc (Below.refl w.heap.size w) (.cells #[.int .u8 s, .int .u32 c] 24)
    refine (fixed01 _ (HG.out.below hB)).mono ?_
    rintro e w5 ⟨rfl, hb5⟩
    have H5 := Lib.hid (hB.trans (hb5.mono hB.size))
    clear hb5 hB
    go_wp2_with fail
    exact HP.out _ _ ⟨rfl, H5.out⟩
end Go.Proofs.YtjjfkmniffbgkaaDoor
