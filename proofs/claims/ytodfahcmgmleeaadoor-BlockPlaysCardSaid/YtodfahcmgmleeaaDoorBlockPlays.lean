/- The law BlockPlays, walked. -/
import Derived.Test.YtodfahcmgmleeaaDoorBlockLaw
import Derived.Test.YtodfahcmgmleeaaDoorBlockFix
import Derived.Test.YtodfahcmgmleeaaDoorFrameIn
import Derived.Test.YtodfahcmgmleeaaDoorClear
import Derived.Test.YtodfahcmgmleeaaDoorMem2
import Derived.Test.YtodfahcmgmleeaaDoorPlayMid
import Derived.Deep.RegionHeld3
namespace Go.Proofs.YtodfahcmgmleeaaDoor
set_option linter.unusedVariables false
set_option linter.unusedSimpArgs false
open Go.RowKit Go.Proofs.YtodfahcmgmleeaaDoorW.PrintWords

/-- A row of frames that came in: each one's eleven cells, and its bytes. -/
def FramesRead (w : World) (A : Option Addr) (n : Nat) : Prop := ∀ i, i < n → ∃ a ty fl st A1 n1 c1 pad code oth wgt al win S data, A = some a ∧ FrIs w ty fl st A1 n1 pad code oth wgt win data S ∧
  ∀ (j : Nat) (v : Value), [Value.int .u8 ty, .int .u8 fl, .int .u32 st, .slice A1 n1 c1, .int .i64 pad, .int .u32 code, .int .u32 oth, .int .u8 wgt, .bool al, .int .u32 win, S][j]? = some v → w.cell? (a.add (i * 11 + j)) = some v

/-- The loop's relation. -/
def PlayRel (w : World) (n g M : Nat) (i : Value) (wr : World) : Prop :=
  ∃ (k : Nat) (s : GSt) (m : RSt) (v : Value), k ≤ n ∧ i = .int .i64 k ∧ IsG wr w.heap.size g v s ∧ wr.heap[M]? = some (.cells (rCells m) 28 (0, 0)) ∧ Agree s m ∧ Below w.heap.size w wr

theorem agree_bounds {s : GSt} {m : RSt} (h : Agree s m) : 0 ≤ s.more ∧ s.more ≤ 1000 ∧ s.block.length ≤ 100000 ∧ (s.bs = 0 → s.bc = 0) ∧ 0 ≤ m.more ∧ m.more ≤ 1000 ∧ m.block.length ≤ 100000 := by
  rcases h with ⟨e1, e2, e3, e4, e5, e6, e7, e8, e9, e10, e11⟩ | ⟨e1, e2, e3, e4, e5, e6, e7, e8, e9, e10, e11, e12⟩
  · rw [← e5]
    refine ⟨e7, by omega, by omega, fun _ => e2, e9, by omega, by omega⟩
  · rw [e7, e8]
    refine ⟨e9, by omega, by simp, fun h => by omega, e11, by omega, by simp⟩

set_option maxHeartbeats 2000000 in
set_option maxRecDepth 100000 in
theorem blockPlays_walk (A0 : Option Addr) (n0 c0 : Nat) (w : World) (hn : n0 ≤ 9223372036854775807) (hR : FramesRead w A0 n0) (hgv : GV w) :
    Calls Tryd.prog 3 #[.slice A0 n0 c0] w fun ev w' => ev = .returned (.bool true) ∧ Below w.heap.size w w' := by
  refine of_post fun R hRR => ?_
  have HP := Lib.hid hRR
  clear hRR
  have HV := Lib.hid hgv
  have HR := Lib.hid hR
  have hgb : 0 < w.heap.size := World.block_lt_of_cell? w _ hgv
  clear hgv hR
  by_cases hl : 100 < n0
  · have a1 : decide ((100 : Int) < (n0 : Int)) = true := by rw [decide_eq_true_iff]; omega
    have a2 : decide (100 < n0) = true := by simpa using hl
    clear hl
    go_enter Tryd.func3, Tryd.ntmps3
    go_wp2_with fail
    refine (fixed12 _ HV.out hgb).mono ?_
    rintro e w1 ⟨rfl, hb⟩
    have HB := Lib.hid hb
    clear hb
    go_wp2_with fail
    exact HP.out _ _ ⟨rfl, HB.out⟩
  · have a1 : decide ((100 : Int) < (n0 : Int)) = false := by rw [decide_eq_false_iff_not]; omega
    have a2 : decide (100 < n0) = false := by simpa using hl
    clear hl
    go_enter Tryd.func3, Tryd.ntmps3
    go_wp2_with fail
    refine (new_g _).mono ?_
    rintro e w1 ⟨g, rfl, hg, hG1, hB1⟩
    have H1 := Lib.hid (And.intro hG1 hB1)
    have hgl := blk_lt hG1.blk
    have hs1 := hB1.size
    clear hG1 hB1
    go_wp2_with fail
    go_loopw [22] (fun i wr => PlayRel w n0 g w1.heap.size i wr) (fun i _ => n0 - (intOf i).toNat)
    case atStart => exact ⟨0, _, rZero, _, Nat.zero_le _, rfl, ⟨blk_alloc H1.out.1.blk _, H1.out.1.own.alloc _⟩, blk_new _ _, .inl ⟨rfl, rfl, rfl, rfl, rfl, by decide, by decide, by decide, by decide, by decide, fun h => by cases h⟩, H1.out.2.alloc hs1 _⟩
    case round =>
      obtain ⟨k, s, m, v, hk, rfl, hG, hM, hA, hb⟩ := hrel
      have hsz := hb.size
      have hgr := blk_lt hG.blk
      have hMr := blk_lt hM
      have HB := Lib.hid hb
      have HG := Lib.hid hG
      have HM := Lib.hid hM
      have HA := Lib.hid hA
      clear hb hG hM hA
      by_cases hlt : k < n0
      · obtain ⟨a, ty, fl, st, A1, n1, c1, pad, code, oth, wgt, al, win, S, data, rfl, hF, cc⟩ := HR.out k hlt
        obtain ⟨sa, sl, sc, rfl⟩ := hF.sets
        have d0 := (HB.out.cell (World.block_lt_of_cell? w _ (cc 0 _ rfl))).trans (cc 0 _ rfl)
        have d1 := (HB.out.cell (World.block_lt_of_cell? w _ (cc 1 _ rfl))).trans (cc 1 _ rfl)
        have d2 := (HB.out.cell (World.block_lt_of_cell? w _ (cc 2 _ rfl))).trans (cc 2 _ rfl)
        have d3 := (HB.out.cell (World.block_lt_of_cell? w _ (cc 3 _ rfl))).trans (cc 3 _ rfl)
        have d4 := (HB.out.cell (World.block_lt_of_cell? w _ (cc 4 _ rfl))).trans (cc 4 _ rfl)
        have d5 := (HB.out.cell (World.block_lt_of_cell? w _ (cc 5 _ rfl))).trans (cc 5 _ rfl)
        have d6 := (HB.out.cell (World.block_lt_of_cell? w _ (cc 6 _ rfl))).trans (cc 6 _ rfl)
        have d7 := (HB.out.cell (World.block_lt_of_cell? w _ (cc 7 _ rfl))).trans (cc 7 _ rfl)
        have d8 := (HB.out.cell (World.block_lt_of_cell? w _ (cc 8 _ rfl))).trans (cc 8 _ rfl)
        have d9 := (HB.out.cell (World.block_lt_of_cell? w _ (cc 9 _ rfl))).trans (cc 9 _ rfl)
        have d10 := (HB.out.cell (World.block_lt_of_cell? w _ (cc 10 _ rfl))).trans (cc 10 _ rfl)
        rw [add_field _ _ _ (by decide)] at d1 d2 d3 d4 d5 d6 d7 d8 d9 d10
        rw [Nat.add_zero] at d0
        have HF := Lib.hid hF
        clear cc hF
        by_cases hbig : 9000 < n1
        · have b1 : decide ((9000 : Int) < (n1 : Int)) = true := by rw [decide_eq_true_iff]; omega
          have b2 : decide (9000 < n1) = true := by simpa using hbig
          clear hbig
          go_wp2_with fail
          have hB6 := HB.out.alloc hsz (frO ty fl st (.slice A1 n1 c1) pad code oth wgt win al (.slice sa sl sc))
          refine (fixed12 _ (HV.out.below hB6) (by have := hB6.size; omega)).mono ?_
          rintro e w9 ⟨rfl, hb9⟩
          have HX := Lib.hid (hB6.trans (hb9.mono hB6.size))
          clear hb9 hB6
          go_wp2_with fail
          exact HP.out _ _ ⟨rfl, HX.out⟩
        · have b1 : decide ((9000 : Int) < (n1 : Int)) = false := by rw [decide_eq_false_iff_not]; omega
          have b2 : decide (9000 < n1) = false := by simpa using hbig
          have hn1 : n1 ≤ 9000 := by omega
          clear hbig
          have hB6 : Below wr.heap.size wr (((wr.alloc (frO ty fl st (.slice A1 n1 c1) pad code oth wgt win al (.slice sa sl sc))).alloc (frO ty fl st (.slice A1 n1 c1) pad code oth wgt win al (.slice sa sl sc))).alloc (.cells #[] 5)) := by go_grown
          have HO6 : (((wr.alloc (frO ty fl st (.slice A1 n1 c1) pad code oth wgt win al (.slice sa sl sc))).alloc (frO ty fl st (.slice A1 n1 c1) pad code oth wgt win al (.slice sa sl sc))).alloc (.cells #[] 5)).ownsRow w.heap.size 5 1 (.slice (some ⟨wr.heap.size + 1 + 1, 0, none⟩) 0 0) ([] : List Int).length (nums .u8 []) := by
            have h := own_empty ((wr.alloc (frO ty fl st (.slice A1 n1 c1) pad code oth wgt win al (.slice sa sl sc))).alloc (frO ty fl st (.slice A1 n1 c1) pad code oth wgt win al (.slice sa sl sc))) w.heap.size 5 (by simp; omega)
            simpa using h
          have HR6 : ReadsInt (((wr.alloc (frO ty fl st (.slice A1 n1 c1) pad code oth wgt win al (.slice sa sl sc))).alloc (frO ty fl st (.slice A1 n1 c1) pad code oth wgt win al (.slice sa sl sc))).alloc (.cells #[] 5)) .u8 A1 n1 data := HF.out.reads.below (HB.out.trans (hB6.mono hsz))
          have hb6 : w.heap.size ≤ (((wr.alloc (frO ty fl st (.slice A1 n1 c1) pad code oth wgt win al (.slice sa sl sc))).alloc (frO ty fl st (.slice A1 n1 c1) pad code oth wgt win al (.slice sa sl sc))).alloc (.cells #[] 5)).heap.size := by simp; omega
          have p6 := blk_alloc (blk_alloc (blk_new wr (frO ty fl st (.slice A1 n1 c1) pad code oth wgt win al (.slice sa sl sc))) (frO ty fl st (.slice A1 n1 c1) pad code oth wgt win al (.slice sa sl sc))) (.cells #[] 5)
          have p7 := blk_alloc (blk_new1 wr (frO ty fl st (.slice A1 n1 c1) pad code oth wgt win al (.slice sa sl sc)) (frO ty fl st (.slice A1 n1 c1) pad code oth wgt win al (.slice sa sl sc))) (.cells #[] 5)
          have HB6 := Lib.hid (And.intro hB6 (And.intro p6 p7))
          clear hB6 p6 p7
          go_wp2_with (at_builtin; refine list_append_row _ (by rfl) (.tmp 32) (.tmp 34) 29 (by rfl) w.heap.size 5 .u8 1 Tryd.underlying29 Tryd.info8 (by decide) (.slice (some ⟨wr.heap.size + 1 + 1, 0, none⟩) 0 0) [] data A1 n1 c1 (by rfl) (by rfl) HO6 HR6 hb6 (by simp; omega) ?_; intro v1 w2 hown hgrow hat; obtain ⟨A2, c2, rfl⟩ := own_slice hown; have p7 := blk_grown HB6.out.2.2 hgrow (by simp [Value.ownBlock]); have o0 := blk_cell p7 0; have o1 := blk_cell p7 1; have o2 := blk_cell p7 2; have o3 := blk_cell p7 3; have o4 := blk_cell p7 4; have o5 := blk_cell p7 5; have o6 := blk_cell p7 6; have o7 := blk_cell p7 7; have o8 := blk_cell p7 8; have o9 := blk_cell p7 9; have o10 := blk_cell p7 10; have of3 := blk_frozen p7 3; simp at o0 o1 o2 o3 o4 o5 o6 o7 o8 o9 o10; have H7 := Lib.hid (And.intro hown (And.intro hgrow (And.intro hat p7))); clear hown hgrow hat p7)
          have HMid := Lib.hid (mid_of (n := data.length) (data := data) HG.out HM.out rfl H7.out.1 H7.out.2.1 H7.out.2.2.1)
          have hAb := agree_bounds HA.out
          have hdl : data.length = n1 := HF.out.reads.1
          generalize w2.setCell ⟨wr.heap.size + 1, 3, none⟩ (.slice A2 data.length c2) = W7 at HMid ⊢
          obtain ⟨A3, c3, e3, hR7⟩ := own_reads HMid.out.dD
          injection e3 with e3 _ e4
          subst e3 e4
          have hs7 := HMid.out.bel.size
          have hE7 : Elsewhere A2 data.length g := by
            intro ad h _ e
            exact own_ne HMid.out.dD HMid.out.gG.blk (by decide) (by rw [h]; simp [Value.ownBlock, e])
          have hTC := (take_calls W7 w.heap.size g v s ty fl st pad code oth wgt win al A2 (.slice sa sl sc) data.length c2 data HMid.out.gG hg (by omega) hAb.1 hAb.2.1 hAb.2.2.1 hAb.2.2.2.1 hR7 hE7 (by omega) (HV.out.below (HB.out.trans (HMid.out.bel.mono hsz))) hgb)
          obtain ⟨r, hr⟩ : ∃ r, gtake s ty fl st data = r := ⟨_, rfl⟩
          rw [hr] at hTC
          refine hTC.mono ?_
          clear hTC
          rintro e w8 ⟨v2, v3, rfl, hO8, hG8, hn8, hK8, hB8, hF2, hF3⟩
          have hstep := agree_step s m ty fl st data HA.out (u8_ge HF.out.fl) (u8_le HF.out.fl)
          rw [hr] at hstep
          clear hr
          have H8 := Lib.hid (mid2_of HMid.out (by omega) hMr (by omega) hsz hO8 hG8 hn8 hK8 hB8 hF2 hF3)
          obtain ⟨A8, c8, rfl⟩ := own_slice hO8
          have hs8 := hB8.size
          have HS := Lib.hid hstep
          clear hR7 hE7 hO8 hG8 hn8 hK8 hB8 hF2 hF3 hstep
          have hl7 := blk_lt HMid.out.oO
          have y0 : wr.heap.size < w8.heap.size := by omega
          have y1 : wr.heap.size + 1 < w8.heap.size := by omega
          have y2 : wr.heap.size < w8.heap.size + 1 := by omega
          have y3 : wr.heap.size + 1 < w8.heap.size + 1 := by omega
          have y4 : w1.heap.size < w8.heap.size := by omega
          have y5 : w1.heap.size < w8.heap.size + 1 := by omega
          have o8 := (Below.heap_alloc w8 (.cells (wholeC r.1.stream (.slice A8 r.1.block.length c8) r.1.fin) 34) _ y1).symm.trans ((Below.heap_alloc _ _ _ (by simp; omega)).symm.trans H8.out.1.oO)
          have o83 := blk_cell o8 3
          simp at o83
          go_wp2_with fail
          obtain ⟨W10, hcl, hwp⟩ := clear_own _ w.heap.size 0 _ _ _ H8.out.2.1
          rw [hdl] at hcl
          rw [hcl]
          have H10 := Lib.hid (H8.out.1.wiped hsz H8.out.2.1 hwp H8.out.2.2.1 H8.out.2.2.2)
          have hs10 := hwp.size
          simp at hs10
          clear hcl hwp
          have t0 := blk_cell H10.out.mM 0
          have t1 := blk_cell H10.out.mM 1
          have t2 := blk_cell H10.out.mM 2
          have t3 := blk_cell H10.out.mM 3
          have t4 := blk_cell H10.out.mM 4
          have t5 := blk_cell H10.out.mM 5
          have f0 := blk_cell H10.out.fF 0
          have f1 := blk_cell H10.out.fF 1
          have f2 := blk_cell H10.out.fF 2
          have f3 := blk_cell H10.out.fF 3
          have f4 := blk_cell H10.out.fF 4
          have f5 := blk_cell H10.out.fF 5
          have f6 := blk_cell H10.out.fF 6
          have f7 := blk_cell H10.out.fF 7
          have f8 := blk_cell H10.out.fF 8
          have f9 := blk_cell H10.out.fF 9
          have f10 := blk_cell H10.out.fF 10
          simp at t0 t1 t2 t3 t4 t5 f0 f1 f2 f3 f4 f5 f6 f7 f8 f9 f10
          go_wp2_with fail
          have hC := ref_calls W10 m ty fl st pad code oth wgt win al A1 n1 c1 data (.slice sa sl sc) hAb.2.2.2.2.1 hAb.2.2.2.2.2.1 hAb.2.2.2.2.2.2 (by omega) (HF.out.reads.below (HB.out.trans H10.out.bel))
          have hST := HS.out
          obtain ⟨q, hq⟩ : ∃ q, rTake m ty fl st data = q := ⟨_, rfl⟩
          rw [hq] at hC hST
          obtain ⟨q1, q2, q3⟩ := q
          have HST := Lib.hid hST
          clear hST hq
          refine hC.mono ?_
          rintro e w11 ⟨rfl, hb11⟩
          clear hC
          have H11 := Lib.hid (And.intro H10.out hb11)
          have hs11 := hb11.size
          have t0 := blk_cell (blk_below H10.out.mM hb11) 0
          have t1 := blk_cell (blk_below H10.out.mM hb11) 1
          have t2 := blk_cell (blk_below H10.out.mM hb11) 2
          have t3 := blk_cell (blk_below H10.out.mM hb11) 3
          have t4 := blk_cell (blk_below H10.out.mM hb11) 4
          have t5 := blk_cell (blk_below H10.out.mM hb11) 5
          have u0 := blk_frozen (blk_below H10.out.mM hb11) 0
          have u1 := blk_frozen (blk_below H10.out.mM hb11) 1
          have u2 := blk_frozen (blk_below H10.out.mM hb11) 2
          have u3 := blk_frozen (blk_below H10.out.mM hb11) 3
          have u4 := blk_frozen (blk_below H10.out.mM hb11) 4
          have u5 := blk_frozen (blk_below H10.out.mM hb11) 5
          simp at t0 t1 t2 t3 t4 t5
          have y6 : w1.heap.size < w11.heap.size := by omega
          have y7 : w1.heap.size < w11.heap.size + 1 := by omega
          clear hb11
          go_wp2_with fail
          have hM12 := (H11.out.1.below hsz H11.out.2).setM hs1 q1
          generalize hW5 : ((((((w11.setCell ⟨w1.heap.size, 0, none⟩ (.bool q1.busy)).setCell ⟨w1.heap.size, 1, none⟩ (.int .u32 q1.stream)).setCell ⟨w1.heap.size, 2, none⟩ (.string (strOfNums q1.block))).setCell ⟨w1.heap.size, 3, none⟩ (.bool q1.fin)).setCell ⟨w1.heap.size, 4, none⟩ (.int .i64 q1.more)).setCell ⟨w1.heap.size, 5, none⟩ (.int .i64 q1.bad)) = W5 at hM12 ⊢
          have hz5 : W5.heap.size = w11.heap.size := by rw [← hW5]; simp [World.setCell]
          rw [← hz5]
          have hM13 := hM12.below hsz (show Below W5.heap.size W5 ((W5.alloc (.cells (rCells q1) 28)).alloc (.cells (rCells q3) 28)) by go_grown)
          have hq3 := blk_new1 W5 (.cells (rCells q1) 28) (.cells (rCells q3) 28)
          generalize hW12 : (W5.alloc (.cells (rCells q1) 28)).alloc (.cells (rCells q3) 28) = W12 at hM13 hq3 ⊢
          have H12 := Lib.hid (And.intro hM13 hq3)
          have z0 := blk_cell hM13.tT 0
          have z1 := blk_cell hM13.tT 1
          have z2 := blk_cell hM13.tT 2
          have z3 := blk_cell hM13.tF 0
          have z4 := blk_cell hM13.tF 1
          have z5 := blk_cell hM13.mM 0
          have z6 := blk_cell hM13.mM 2
          have z7 := blk_cell hM13.mM 5
          have z10 := blk_cell hq3 0
          have z11 := blk_cell hq3 1
          have z12 := blk_cell hq3 2
          have z13 := blk_cell hq3 3
          have z14 := blk_cell hq3 4
          have z15 := blk_cell hq3 5
          simp at z0 z1 z2 z3 z4 z5 z6 z7 z10 z11 z12 z13 z14 z15
          have hty := tells_facts HST.out
          clear hM12 hM13 hq3 hW5 hW12 hz5 t0 t1 t2 t3 t4 t5 u0 u1 u2 u3 u4 u5
          obtain ⟨A9, c9, e9, hrd⟩ := own_reads H12.out.1.row
          injection e9 with e9 _ e10
          subst e9 e10
          have hsq : (strOfNums q1.block).size = q1.block.length := strOfNums_size _
          have hdec : decide ((8192 : Int) < (q1.block.length : Int)) = false := by rw [decide_eq_false_iff_not]; have := hty.2.2; omega
          have HBU : ∀ W, IsG W w.heap.size g v3 r.2 → Calls Tryd.prog 20 #[.pointer (some ⟨g, 0, none⟩)] W fun ev w' => ev = .returned (.bool q1.busy) ∧ W = w' := fun W hW => hty.1 ▸ busy_calls W _ g v3 _ hW
          have HHE : ∀ W, IsG W w.heap.size g v3 r.2 → Calls Tryd.prog 21 #[.pointer (some ⟨g, 0, none⟩)] W fun ev w' => ev = .returned (.int .i64 q1.block.length) ∧ W = w' := fun W hW => hty.2.1 ▸ held_calls W _ g v3 _ hW
          have HBU' := Lib.hid HBU
          have HHE' := Lib.hid HHE
          clear HBU HHE hty
          go_region_held3 (fun w' => Below W12.heap.size W12 w' ∧ w'.cell? ⟨w8.heap.size, 0, none⟩ = some (.int .u32 r.1.stream) ∧ w'.cell? ⟨w8.heap.size, 1, none⟩ = some (.slice A8 r.1.block.length c8) ∧ w'.cell? ⟨w8.heap.size, 2, none⟩ = some (.bool r.1.fin) ∧
              w'.cell? ⟨w8.heap.size + 1, 0, none⟩ = some (.int .u8 r.1.bs) ∧ w'.cell? ⟨w8.heap.size + 1, 1, none⟩ = some (.int .u32 r.1.bc) ∧
              w'.cell? ⟨w1.heap.size, 0, none⟩ = some (.bool q1.busy) ∧ w'.cell? ⟨w1.heap.size, 2, none⟩ = some (.string (strOfNums q1.block)) ∧ w'.cell? ⟨w1.heap.size, 5, none⟩ = some (.int .i64 q1.bad) ∧
              w'.cell? ⟨W5.heap.size + 1, 0, none⟩ = some (.bool q3.busy) ∧ w'.cell? ⟨W5.heap.size + 1, 1, none⟩ = some (.int .u32 q3.stream) ∧ w'.cell? ⟨W5.heap.size + 1, 2, none⟩ = some (.string (strOfNums q3.block)) ∧
              w'.cell? ⟨W5.heap.size + 1, 3, none⟩ = some (.bool q3.fin) ∧ w'.cell? ⟨W5.heap.size + 1, 4, none⟩ = some (.int .i64 q3.more) ∧ w'.cell? ⟨W5.heap.size + 1, 5, none⟩ = some (.int .i64 q3.bad))
            (first | exact ⟨(Below.refl _ _).drew, z0, z1, z2, z3, z4, z5, z6, z7, z10, z11, z12, z13, z14, z15⟩ | exact ⟨(Below.refl _ _).drew.trans (hb13.mono (Nat.le_refl _)), cell_below hb13 z0, cell_below hb13 z1, cell_below hb13 z2, cell_below hb13 z3, cell_below hb13 z4, cell_below hb13 z5, cell_below hb13 z6, cell_below hb13 z7, cell_below hb13 z10, cell_below hb13 z11, cell_below hb13 z12, cell_below hb13 z13, cell_below hb13 z14, cell_below hb13 z15⟩ | assumption | go_keep)
            (first
            | (go_at_call 19; refine (same_calls _ r q1 q2 q3 HST.out A8 _ ?_).mono ?_; (exact hrd); rintro e w13 ⟨rfl, hb13⟩; have H13 := Lib.hid ((Below.refl W12.heap.size W12).drew.trans (hb13.mono (Nat.le_refl _))))
            | (go_at_call 20; refine (HBU'.out _ (isG_below H12.out.1.gG H13.out)).mono ?_; rintro e w14 ⟨rfl, rfl⟩)
            | (go_at_call 21; refine (HHE'.out _ (isG_below H12.out.1.gG H13.out)).mono ?_; rintro e w14 ⟨rfl, rfl⟩))
          have hM16 := H12.out.1.below hsz H13.out
          have hl16 : w1.heap.size < w13.heap.size := Nat.lt_of_lt_of_le (blk_lt H12.out.1.mM) H13.out.size
          obtain ⟨W16, hcl, hwp⟩ := clear_own _ w.heap.size 0 _ _ _ hM16.row
          have H16 := Lib.hid (And.intro hM16 hwp)
          clear hM16 hwp
          go_wp2_with fail
          obtain ⟨hM17, hw17⟩ := H16.out
          have h3 : v3.ownBlock = none ∨ v3.ownBlock ≠ (Value.slice A8 r.1.block.length c8).ownBlock := by
            rcases hM17.nil with h | h
            · rw [h]
              cases v3.ownBlock <;> simp [Value.ownBlock]
            · rw [h]
              exact .inl rfl
          have hb17 : Below w.heap.size w W16 := HB.out.trans (hM17.bel.trans ((Below.refl w.heap.size w13).grown hw17.grown (Nat.le_trans hsz (Nat.le_of_lt (blk_lt hM17.fF))) (own_base hM17.row)))
          refine ⟨⟨k + 1, r.2, q1, v3, by omega, by go_num, ⟨hw17.blk hM17.gG.blk (own_ne hM17.row hM17.gG.blk (by decide)), hw17.own hM17.gG.own h3⟩, hw17.blk hM17.mM (own_ne hM17.row hM17.mM (by decide)), HST.out.1, hb17⟩, by simp [intOf]; omega⟩
      · go_wp2_with fail
        refine (fixed12 _ (HV.out.below HB.out) (by omega)).mono ?_
        rintro e w9 ⟨rfl, hb9⟩
        have HX := Lib.hid (HB.out.trans (hb9.mono hsz))
        clear hb9
        go_wp2_with fail
        exact HP.out _ _ ⟨rfl, HX.out⟩
end Go.Proofs.YtodfahcmgmleeaaDoor
