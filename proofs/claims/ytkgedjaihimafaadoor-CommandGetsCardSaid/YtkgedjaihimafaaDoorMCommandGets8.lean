/- Texts of this claim, put together: CmdRefGetB, CmdRefGetC, CmdRefGetD, CmdRefGetE, CmdRefGetF, CmdRefAll, Clear2. -/
import Derived.Test.YtkgedjaihimafaaDoorMCommandGets7
import Derived.Test.YtkgedjaihimafaaDoorMCommandGets6
import Derived.Test.YtkgedjaihimafaaDoorMCommandGets1
import Derived.Lib.SliceRun
import Derived.Lib.LazyBuf
import Derived.Deep.Upon
/- The reference's Get, walked: kinds 4, 5, 7. -/
namespace Go.Proofs.YtkgedjaihimafaaDoor
set_option linter.unusedVariables false
set_option linter.unusedSimpArgs false
open Go.RowKit Go.Proofs.YtkgedjaihimafaaDoorW.PrintWords Go.Proofs.YtkgedjaihimafaaDoor.QCmd Go.Proofs.YtkgedjaihimafaaDoor.Given Go.Proofs.YtkgedjaihimafaaDoor.QCmdG

set_option maxHeartbeats 4000000 in
set_option maxRecDepth 100000 in
theorem ref_four (w : World) (l : List Int) (id : Int) (s s1 b : ByteArray) (L2 : List Int) (h5 : ¬ l.length < 5) (hS : SHead l 4 id s s1 b L2) (hl : l.length ≤ 100000) :
    Calls Tryd.prog 15 #[.string s] w (RefPost w (getT 4 id (restR 4 L2))) := by
  refine of_post0 fun R hRR => ?_
  have HP := Lib.hid hRR
  have HV := Lib.hid hS.v
  have hi0 := hS.i0
  have hc1 := hS.c1
  have hc5 := hS.c5
  have hsz := hS.sz
  have HSB := Lib.hid (And.intro hS.bs (And.intro hS.by2 hS.l2))
  have c1 : decide ((s.size : Int) < 5) = false := by rw [decide_eq_false_iff_not]; omega
  have c2 : decide (s.size < 5) = false := by rw [decide_eq_false_iff_not]; omega
  have HSZ := Lib.hid hsz
  clear hRR hS hsz h5
  go_enter Tryd.func15, Tryd.ntmps15
  go_wp2_with fail
  go_region_held3 (fun w' => True) (trivial) ((go_at_call 39; refine (HV.out _).mono ?_; rintro e w1 ⟨rfl, n, rfl⟩))
  all_goals
    rename_i K hK hHeld
    clear hHeld
    refine hK _ _ ?_
    clear hK K
    have hH : ∃ W2, RHead w W2 4 id ⟨#[]⟩ 0 0 (.slice none 0 0) ∧ (rone w (1 + n) 4 id = W2 ∨ rsix w (1 + n) 4 id = W2) := ⟨_, rhead1 w (1 + n) 4 id, .inl rfl⟩
    clear hH
    first
    | (rw [show (((w.alloc zO).alloc zO).drewN (1 + n)).alloc (cO 4 id) = rone w (1 + n) 4 id from rfl]
       have hH := rhead1 w (1 + n) 4 id
       rw [show (((w.alloc zO).alloc zO).drewN (1 + n)).alloc (cO 4 id) = rone w (1 + n) 4 id from rfl] at hH
       generalize rone w (1 + n) 4 id = W2 at hH ⊢)
    | (rw [show (((((((((w.alloc zO).alloc zO).alloc zO).drewN (1 + n)).setCell ⟨w.heap.size + 1 + 1, 0, none⟩ (.int .u8 4)).setCell ⟨w.heap.size + 1 + 1, 1, none⟩ (.int .u32 id)).setCell ⟨w.heap.size + 1 + 1, 2, none⟩ (.string ⟨#[]⟩)).setCell ⟨w.heap.size + 1 + 1, 3, none⟩ (.int .u64 0)).setCell ⟨w.heap.size + 1 + 1, 4, none⟩ (.int .u8 0)).setCell ⟨w.heap.size + 1 + 1, 5, none⟩ (.slice none 0 0) = rsix w (1 + n) 4 id from rfl]
       have hH := rhead2 w (1 + n) 4 id
       generalize rsix w (1 + n) 4 id = W2 at hH ⊢)
    have H2 := Lib.hid hH
    clear hH
    have hzz := H2.out.size
    have z0 := blk_cell H2.out.z 0
    have z1 := blk_cell H2.out.z 1
    have z2 := blk_cell H2.out.z 2
    have z3 := blk_cell H2.out.z 3
    have z4 := blk_cell H2.out.z 4
    have z5 := blk_cell H2.out.z 5
    have zf0 := blk_frozen H2.out.z 0
    have zf1 := blk_frozen H2.out.z 1
    have zf2 := blk_frozen H2.out.z 2
    have zf3 := blk_frozen H2.out.z 3
    have zf4 := blk_frozen H2.out.z 4
    have zf5 := blk_frozen H2.out.z 5
    simp at z0 z1 z2 z3 z4 z5
    have n0 := blk_cell H2.out.n 0
    have n1 := blk_cell H2.out.n 1
    have n2 := blk_cell H2.out.n 2
    have n3 := blk_cell H2.out.n 3
    have n4 := blk_cell H2.out.n 4
    have n5 := blk_cell H2.out.n 5
    simp at n0 n1 n2 n3 n4 n5
    have k0 := blk_cell H2.out.c 0
    have k1 := blk_cell H2.out.c 1
    have k2 := blk_cell H2.out.c 2
    have k3 := blk_cell H2.out.c 3
    have k4 := blk_cell H2.out.c 4
    have k5 := blk_cell H2.out.c 5
    have kf0 := blk_frozen H2.out.c 0
    have kf1 := blk_frozen H2.out.c 1
    have kf2 := blk_frozen H2.out.c 2
    have kf3 := blk_frozen H2.out.c 3
    have kf4 := blk_frozen H2.out.c 4
    have kf5 := blk_frozen H2.out.c 5
    simp at k0 k1 k2 k3 k4 k5
    have hbz : b.size = L2.length := by rw [HSB.out.1]; exact str_size L2
    by_cases hL : L2.length = 8
    · have hl1 : (L2.length == 8) = true := by rw [beq_iff_eq]; exact hL
      have hl2 : ((L2.length : Int) == 8) = true := by rw [beq_iff_eq]; omega
      have hca : ∀ W, (Instr.slice 9 (.string b) none (some (.int .i64 4)) none).run Tryd.prog W = .ok (.string (strOfNums (L2.take 4))) W := fun W => by
        rw [HSB.out.1]
        exact run_to_str L2 4 (by decide) (by omega) W
      have hcb : ∀ W, (Instr.slice 9 (.string b) (some (.int .i64 4)) none none).run Tryd.prog W = .ok (.string (strOfNums (L2.drop 4))) W := fun W => by
        rw [HSB.out.1]
        exact run_from_str L2 4 (by decide) (by omega) W
      have HVA := Lib.hid (fun W => value_ref_calls W (L2.take 4) (by simp; omega) (fun x hx => HSB.out.2.1 x (List.mem_of_mem_take hx)))
      have HVB := Lib.hid (fun W => value_ref_calls W (L2.drop 4) (by simp; omega) (fun x hx => HSB.out.2.1 x (List.mem_of_mem_drop hx)))
      have HQ := Lib.hid (valL_halves hL HSB.out.2.1)
      have HEQ := Lib.hid ((getT_some (kind := 4) (id := id) (t := ⟨#[]⟩) (q := valL L2) (c := 0) (p := []) (by decide) (by decide)).trans (by unfold restR; simp [hL, List.take_of_length_le (show L2.length ≤ 8 by omega), List.drop_eq_nil_of_le (show L2.length ≤ 8 by omega)] : _ = getT 4 id (restR 4 L2)))
      have HX := Lib.hid (fun d => (H2.out.below (pw_below_drewN (Below.refl W2.heap.size W2) d)).set 3 (.int .u64 (valL L2)) rfl)
      clear hL
      go_wp2_with fail
      go_region_held3 (fun w' => True) (trivial) ((go_at_call 39; (first | (with_reducible refine (HVA.out _).mono ?_) | (with_reducible refine (HVB.out _).mono ?_)); rintro e w1 ⟨rfl, m, rfl⟩))
      rw [HQ.out]
      go_wp2_with fail
      refine (others_calls _ 4 id ⟨#[]⟩ (valL L2) 0 [] none 0 s true (by decide) (by decide) (by decide) (ReadsInt.nil _ _) (Nat.le_refl _)).mono ?_
      rintro e w5 ⟨⟨A5, cp5, rfl, hr5, hc5, ha5⟩, hb5⟩
      have H5 := Lib.hid ((HX.out _).below hb5)
      have H55 := Lib.hid (And.intro hr5 (And.intro hc5 ha5))
      clear hb5 hr5 hc5 ha5
      clear z0 z1 z2 z3 z4 z5 n0 n1 n2 n3 n4 n5 k0 k1 k2 k3 k4 k5 zf0 zf1 zf2 zf3 zf4 zf5 kf0 kf1 kf2 kf3 kf4 kf5
      have hzz := H5.out.size
      have z0 := blk_cell H5.out.z 0
      have z1 := blk_cell H5.out.z 1
      have z2 := blk_cell H5.out.z 2
      have z3 := blk_cell H5.out.z 3
      have z4 := blk_cell H5.out.z 4
      have z5 := blk_cell H5.out.z 5
      have zf0 := blk_frozen H5.out.z 0
      have zf1 := blk_frozen H5.out.z 1
      have zf2 := blk_frozen H5.out.z 2
      have zf3 := blk_frozen H5.out.z 3
      have zf4 := blk_frozen H5.out.z 4
      have zf5 := blk_frozen H5.out.z 5
      simp at z0 z1 z2 z3 z4 z5
      have n0 := blk_cell H5.out.n 0
      have n1 := blk_cell H5.out.n 1
      have n2 := blk_cell H5.out.n 2
      have n3 := blk_cell H5.out.n 3
      have n4 := blk_cell H5.out.n 4
      have n5 := blk_cell H5.out.n 5
      simp at n0 n1 n2 n3 n4 n5
      have k0 := blk_cell H5.out.c 0
      have k1 := blk_cell H5.out.c 1
      have k2 := blk_cell H5.out.c 2
      have k3 := blk_cell H5.out.c 3
      have k4 := blk_cell H5.out.c 4
      have k5 := blk_cell H5.out.c 5
      have kf0 := blk_frozen H5.out.c 0
      have kf1 := blk_frozen H5.out.c 1
      have kf2 := blk_frozen H5.out.c 2
      have kf3 := blk_frozen H5.out.c 3
      have kf4 := blk_frozen H5.out.c 4
      have kf5 := blk_frozen H5.out.c 5
      simp at k0 k1 k2 k3 k4 k5
      rw [HEQ.out] at H55 ⊢
      generalize getT 4 id (restR 4 L2) = r5 at *
      go_wp2_with fail
      refine bodyPost_ret (results_ctt rfl _ _ w.heap.size 26 (cmdC r5.1 r5.2.1 r5.2.2.1 r5.2.2.2.1 r5.2.2.2.2.1 (.slice A5 r5.2.2.2.2.2.1.length cp5)) (0, 0) _ rfl (put6_blk H5.out.z r5.1 r5.2.1 r5.2.2.1 r5.2.2.2.1 r5.2.2.2.2.1 (.slice A5 r5.2.2.2.2.2.1.length cp5)) Tryd.underlying26 rfl (by kernel_rfl)) rfl (HP.out _ _ ?_)
      refine ⟨⟨A5, cp5, rfl, ?_, H55.out.2.1⟩, put6_below H5.out.bel (Nat.le_refl _) r5.1 r5.2.1 r5.2.2.1 r5.2.2.2.1 r5.2.2.2.2.1 (.slice A5 r5.2.2.2.2.2.1.length cp5)⟩
      refine H55.out.1.keep (g := w.heap.size) (((((((KeepBut.refl w5 w.heap.size none).set_ 0 _).set_ 1 _).set_ 2 _).set_ 3 _).set_ 4 _).set_ 5 _) ?_
      intro ad h0 hp0
      rcases H55.out.2.2 with h1 | h1
      · rw [h1] at h0; cases h0
      · rw [h1] at h0; cases h0
    · have hl1 : (L2.length == 8) = false := by rw [beq_eq_false_iff_ne]; exact hL
      have hl2 : ((L2.length : Int) == 8) = false := by rw [beq_eq_false_iff_ne]; omega
      have hrr : restR 4 L2 = none := by unfold restR; rw [if_neg (by decide), if_neg (by decide), if_neg (by decide), if_pos (by decide), if_pos (by omega)]
      have HEQ := Lib.hid ((getT_none 4 id 4 id ⟨#[]⟩ 0 0 [] (cmdOk 4 ⟨#[]⟩ 0 0 [])).trans (by rw [hrr] : _ = getT 4 id (restR 4 L2)))
      have HX := H2
      clear hL hrr
      go_wp2_with fail
      refine (others_calls _ 4 id ⟨#[]⟩ 0 0 [] none 0 s false (by decide) (by decide) (by decide) (ReadsInt.nil _ _) (Nat.le_refl _)).mono ?_
      rintro e w5 ⟨⟨A5, cp5, rfl, hr5, hc5, ha5⟩, hb5⟩
      have H5 := Lib.hid (HX.out.below hb5)
      have H55 := Lib.hid (And.intro hr5 (And.intro hc5 ha5))
      clear hb5 hr5 hc5 ha5
      clear z0 z1 z2 z3 z4 z5 n0 n1 n2 n3 n4 n5 k0 k1 k2 k3 k4 k5 zf0 zf1 zf2 zf3 zf4 zf5 kf0 kf1 kf2 kf3 kf4 kf5
      have hzz := H5.out.size
      have z0 := blk_cell H5.out.z 0
      have z1 := blk_cell H5.out.z 1
      have z2 := blk_cell H5.out.z 2
      have z3 := blk_cell H5.out.z 3
      have z4 := blk_cell H5.out.z 4
      have z5 := blk_cell H5.out.z 5
      have zf0 := blk_frozen H5.out.z 0
      have zf1 := blk_frozen H5.out.z 1
      have zf2 := blk_frozen H5.out.z 2
      have zf3 := blk_frozen H5.out.z 3
      have zf4 := blk_frozen H5.out.z 4
      have zf5 := blk_frozen H5.out.z 5
      simp at z0 z1 z2 z3 z4 z5
      have n0 := blk_cell H5.out.n 0
      have n1 := blk_cell H5.out.n 1
      have n2 := blk_cell H5.out.n 2
      have n3 := blk_cell H5.out.n 3
      have n4 := blk_cell H5.out.n 4
      have n5 := blk_cell H5.out.n 5
      simp at n0 n1 n2 n3 n4 n5
      have k0 := blk_cell H5.out.c 0
      have k1 := blk_cell H5.out.c 1
      have k2 := blk_cell H5.out.c 2
      have k3 := blk_cell H5.out.c 3
      have k4 := blk_cell H5.out.c 4
      have k5 := blk_cell H5.out.c 5
      have kf0 := blk_frozen H5.out.c 0
      have kf1 := blk_frozen H5.out.c 1
      have kf2 := blk_frozen H5.out.c 2
      have kf3 := blk_frozen H5.out.c 3
      have kf4 := blk_frozen H5.out.c 4
      have kf5 := blk_frozen H5.out.c 5
      simp at k0 k1 k2 k3 k4 k5
      rw [HEQ.out] at H55 ⊢
      generalize getT 4 id (restR 4 L2) = r5 at *
      go_wp2_with fail
      refine bodyPost_ret (results_ctt rfl _ _ w.heap.size 26 (cmdC r5.1 r5.2.1 r5.2.2.1 r5.2.2.2.1 r5.2.2.2.2.1 (.slice A5 r5.2.2.2.2.2.1.length cp5)) (0, 0) _ rfl (put6_blk H5.out.z r5.1 r5.2.1 r5.2.2.1 r5.2.2.2.1 r5.2.2.2.2.1 (.slice A5 r5.2.2.2.2.2.1.length cp5)) Tryd.underlying26 rfl (by kernel_rfl)) rfl (HP.out _ _ ?_)
      refine ⟨⟨A5, cp5, rfl, ?_, H55.out.2.1⟩, put6_below H5.out.bel (Nat.le_refl _) r5.1 r5.2.1 r5.2.2.1 r5.2.2.2.1 r5.2.2.2.2.1 (.slice A5 r5.2.2.2.2.2.1.length cp5)⟩
      refine H55.out.1.keep (g := w.heap.size) (((((((KeepBut.refl w5 w.heap.size none).set_ 0 _).set_ 1 _).set_ 2 _).set_ 3 _).set_ 4 _).set_ 5 _) ?_
      intro ad h0 hp0
      rcases H55.out.2.2 with h1 | h1
      · rw [h1] at h0; cases h0
      · rw [h1] at h0; cases h0

set_option maxHeartbeats 4000000 in
set_option maxRecDepth 100000 in
theorem ref_five (w : World) (l : List Int) (id : Int) (s s1 b : ByteArray) (L2 : List Int) (h5 : ¬ l.length < 5) (hS : SHead l 5 id s s1 b L2) (hl : l.length ≤ 100000) :
    Calls Tryd.prog 15 #[.string s] w (RefPost w (getT 5 id (restR 5 L2))) := by
  refine of_post0 fun R hRR => ?_
  have HP := Lib.hid hRR
  have HV := Lib.hid hS.v
  have hi0 := hS.i0
  have hc1 := hS.c1
  have hc5 := hS.c5
  have hsz := hS.sz
  have HSB := Lib.hid (And.intro hS.bs (And.intro hS.by2 hS.l2))
  have c1 : decide ((s.size : Int) < 5) = false := by rw [decide_eq_false_iff_not]; omega
  have c2 : decide (s.size < 5) = false := by rw [decide_eq_false_iff_not]; omega
  have HSZ := Lib.hid hsz
  clear hRR hS hsz h5
  go_enter Tryd.func15, Tryd.ntmps15
  go_wp2_with fail
  go_region_held3 (fun w' => True) (trivial) ((go_at_call 39; refine (HV.out _).mono ?_; rintro e w1 ⟨rfl, n, rfl⟩))
  all_goals
    rename_i K hK hHeld
    clear hHeld
    refine hK _ _ ?_
    clear hK K
    have hH : ∃ W2, RHead w W2 5 id ⟨#[]⟩ 0 0 (.slice none 0 0) ∧ (rone w (1 + n) 5 id = W2 ∨ rsix w (1 + n) 5 id = W2) := ⟨_, rhead1 w (1 + n) 5 id, .inl rfl⟩
    clear hH
    first
    | (rw [show (((w.alloc zO).alloc zO).drewN (1 + n)).alloc (cO 5 id) = rone w (1 + n) 5 id from rfl]
       have hH := rhead1 w (1 + n) 5 id
       rw [show (((w.alloc zO).alloc zO).drewN (1 + n)).alloc (cO 5 id) = rone w (1 + n) 5 id from rfl] at hH
       generalize rone w (1 + n) 5 id = W2 at hH ⊢)
    | (rw [show (((((((((w.alloc zO).alloc zO).alloc zO).drewN (1 + n)).setCell ⟨w.heap.size + 1 + 1, 0, none⟩ (.int .u8 5)).setCell ⟨w.heap.size + 1 + 1, 1, none⟩ (.int .u32 id)).setCell ⟨w.heap.size + 1 + 1, 2, none⟩ (.string ⟨#[]⟩)).setCell ⟨w.heap.size + 1 + 1, 3, none⟩ (.int .u64 0)).setCell ⟨w.heap.size + 1 + 1, 4, none⟩ (.int .u8 0)).setCell ⟨w.heap.size + 1 + 1, 5, none⟩ (.slice none 0 0) = rsix w (1 + n) 5 id from rfl]
       have hH := rhead2 w (1 + n) 5 id
       generalize rsix w (1 + n) 5 id = W2 at hH ⊢)
    have H2 := Lib.hid hH
    clear hH
    have hzz := H2.out.size
    have z0 := blk_cell H2.out.z 0
    have z1 := blk_cell H2.out.z 1
    have z2 := blk_cell H2.out.z 2
    have z3 := blk_cell H2.out.z 3
    have z4 := blk_cell H2.out.z 4
    have z5 := blk_cell H2.out.z 5
    have zf0 := blk_frozen H2.out.z 0
    have zf1 := blk_frozen H2.out.z 1
    have zf2 := blk_frozen H2.out.z 2
    have zf3 := blk_frozen H2.out.z 3
    have zf4 := blk_frozen H2.out.z 4
    have zf5 := blk_frozen H2.out.z 5
    simp at z0 z1 z2 z3 z4 z5
    have n0 := blk_cell H2.out.n 0
    have n1 := blk_cell H2.out.n 1
    have n2 := blk_cell H2.out.n 2
    have n3 := blk_cell H2.out.n 3
    have n4 := blk_cell H2.out.n 4
    have n5 := blk_cell H2.out.n 5
    simp at n0 n1 n2 n3 n4 n5
    have k0 := blk_cell H2.out.c 0
    have k1 := blk_cell H2.out.c 1
    have k2 := blk_cell H2.out.c 2
    have k3 := blk_cell H2.out.c 3
    have k4 := blk_cell H2.out.c 4
    have k5 := blk_cell H2.out.c 5
    have kf0 := blk_frozen H2.out.c 0
    have kf1 := blk_frozen H2.out.c 1
    have kf2 := blk_frozen H2.out.c 2
    have kf3 := blk_frozen H2.out.c 3
    have kf4 := blk_frozen H2.out.c 4
    have kf5 := blk_frozen H2.out.c 5
    simp at k0 k1 k2 k3 k4 k5
    have hbz : b.size = L2.length := by rw [HSB.out.1]; exact str_size L2
    by_cases hL : L2.length = 8
    · have hl1 : (L2.length == 8) = true := by rw [beq_iff_eq]; exact hL
      have hl2 : ((L2.length : Int) == 8) = true := by rw [beq_iff_eq]; omega
      have hca : ∀ W, (Instr.slice 9 (.string b) none (some (.int .i64 4)) none).run Tryd.prog W = .ok (.string (strOfNums (L2.take 4))) W := fun W => by
        rw [HSB.out.1]
        exact run_to_str L2 4 (by decide) (by omega) W
      have hcb : ∀ W, (Instr.slice 9 (.string b) (some (.int .i64 4)) none none).run Tryd.prog W = .ok (.string (strOfNums (L2.drop 4))) W := fun W => by
        rw [HSB.out.1]
        exact run_from_str L2 4 (by decide) (by omega) W
      have HVA := Lib.hid (fun W => value_ref_calls W (L2.take 4) (by simp; omega) (fun x hx => HSB.out.2.1 x (List.mem_of_mem_take hx)))
      have HVB := Lib.hid (fun W => value_ref_calls W (L2.drop 4) (by simp; omega) (fun x hx => HSB.out.2.1 x (List.mem_of_mem_drop hx)))
      have HQ := Lib.hid (valL_halves hL HSB.out.2.1)
      have HEQ := Lib.hid ((getT_some (kind := 5) (id := id) (t := ⟨#[]⟩) (q := valL L2) (c := 0) (p := []) (by decide) (by decide)).trans (by unfold restR; simp [hL, List.take_of_length_le (show L2.length ≤ 8 by omega), List.drop_eq_nil_of_le (show L2.length ≤ 8 by omega)] : _ = getT 5 id (restR 5 L2)))
      have HX := Lib.hid (fun d => (H2.out.below (pw_below_drewN (Below.refl W2.heap.size W2) d)).set 3 (.int .u64 (valL L2)) rfl)
      clear hL
      go_wp2_with fail
      go_region_held3 (fun w' => True) (trivial) ((go_at_call 39; (first | (with_reducible refine (HVA.out _).mono ?_) | (with_reducible refine (HVB.out _).mono ?_)); rintro e w1 ⟨rfl, m, rfl⟩))
      rw [HQ.out]
      go_wp2_with fail
      refine (others_calls _ 5 id ⟨#[]⟩ (valL L2) 0 [] none 0 s true (by decide) (by decide) (by decide) (ReadsInt.nil _ _) (Nat.le_refl _)).mono ?_
      rintro e w5 ⟨⟨A5, cp5, rfl, hr5, hc5, ha5⟩, hb5⟩
      have H5 := Lib.hid ((HX.out _).below hb5)
      have H55 := Lib.hid (And.intro hr5 (And.intro hc5 ha5))
      clear hb5 hr5 hc5 ha5
      clear z0 z1 z2 z3 z4 z5 n0 n1 n2 n3 n4 n5 k0 k1 k2 k3 k4 k5 zf0 zf1 zf2 zf3 zf4 zf5 kf0 kf1 kf2 kf3 kf4 kf5
      have hzz := H5.out.size
      have z0 := blk_cell H5.out.z 0
      have z1 := blk_cell H5.out.z 1
      have z2 := blk_cell H5.out.z 2
      have z3 := blk_cell H5.out.z 3
      have z4 := blk_cell H5.out.z 4
      have z5 := blk_cell H5.out.z 5
      have zf0 := blk_frozen H5.out.z 0
      have zf1 := blk_frozen H5.out.z 1
      have zf2 := blk_frozen H5.out.z 2
      have zf3 := blk_frozen H5.out.z 3
      have zf4 := blk_frozen H5.out.z 4
      have zf5 := blk_frozen H5.out.z 5
      simp at z0 z1 z2 z3 z4 z5
      have n0 := blk_cell H5.out.n 0
      have n1 := blk_cell H5.out.n 1
      have n2 := blk_cell H5.out.n 2
      have n3 := blk_cell H5.out.n 3
      have n4 := blk_cell H5.out.n 4
      have n5 := blk_cell H5.out.n 5
      simp at n0 n1 n2 n3 n4 n5
      have k0 := blk_cell H5.out.c 0
      have k1 := blk_cell H5.out.c 1
      have k2 := blk_cell H5.out.c 2
      have k3 := blk_cell H5.out.c 3
      have k4 := blk_cell H5.out.c 4
      have k5 := blk_cell H5.out.c 5
      have kf0 := blk_frozen H5.out.c 0
      have kf1 := blk_frozen H5.out.c 1
      have kf2 := blk_frozen H5.out.c 2
      have kf3 := blk_frozen H5.out.c 3
      have kf4 := blk_frozen H5.out.c 4
      have kf5 := blk_frozen H5.out.c 5
      simp at k0 k1 k2 k3 k4 k5
      rw [HEQ.out] at H55 ⊢
      generalize getT 5 id (restR 5 L2) = r5 at *
      go_wp2_with fail
      refine bodyPost_ret (results_ctt rfl _ _ w.heap.size 26 (cmdC r5.1 r5.2.1 r5.2.2.1 r5.2.2.2.1 r5.2.2.2.2.1 (.slice A5 r5.2.2.2.2.2.1.length cp5)) (0, 0) _ rfl (put6_blk H5.out.z r5.1 r5.2.1 r5.2.2.1 r5.2.2.2.1 r5.2.2.2.2.1 (.slice A5 r5.2.2.2.2.2.1.length cp5)) Tryd.underlying26 rfl (by kernel_rfl)) rfl (HP.out _ _ ?_)
      refine ⟨⟨A5, cp5, rfl, ?_, H55.out.2.1⟩, put6_below H5.out.bel (Nat.le_refl _) r5.1 r5.2.1 r5.2.2.1 r5.2.2.2.1 r5.2.2.2.2.1 (.slice A5 r5.2.2.2.2.2.1.length cp5)⟩
      refine H55.out.1.keep (g := w.heap.size) (((((((KeepBut.refl w5 w.heap.size none).set_ 0 _).set_ 1 _).set_ 2 _).set_ 3 _).set_ 4 _).set_ 5 _) ?_
      intro ad h0 hp0
      rcases H55.out.2.2 with h1 | h1
      · rw [h1] at h0; cases h0
      · rw [h1] at h0; cases h0
    · have hl1 : (L2.length == 8) = false := by rw [beq_eq_false_iff_ne]; exact hL
      have hl2 : ((L2.length : Int) == 8) = false := by rw [beq_eq_false_iff_ne]; omega
      have hrr : restR 5 L2 = none := by unfold restR; rw [if_neg (by decide), if_neg (by decide), if_neg (by decide), if_pos (by decide), if_pos (by omega)]
      have HEQ := Lib.hid ((getT_none 5 id 5 id ⟨#[]⟩ 0 0 [] (cmdOk 5 ⟨#[]⟩ 0 0 [])).trans (by rw [hrr] : _ = getT 5 id (restR 5 L2)))
      have HX := H2
      clear hL hrr
      go_wp2_with fail
      refine (others_calls _ 5 id ⟨#[]⟩ 0 0 [] none 0 s false (by decide) (by decide) (by decide) (ReadsInt.nil _ _) (Nat.le_refl _)).mono ?_
      rintro e w5 ⟨⟨A5, cp5, rfl, hr5, hc5, ha5⟩, hb5⟩
      have H5 := Lib.hid (HX.out.below hb5)
      have H55 := Lib.hid (And.intro hr5 (And.intro hc5 ha5))
      clear hb5 hr5 hc5 ha5
      clear z0 z1 z2 z3 z4 z5 n0 n1 n2 n3 n4 n5 k0 k1 k2 k3 k4 k5 zf0 zf1 zf2 zf3 zf4 zf5 kf0 kf1 kf2 kf3 kf4 kf5
      have hzz := H5.out.size
      have z0 := blk_cell H5.out.z 0
      have z1 := blk_cell H5.out.z 1
      have z2 := blk_cell H5.out.z 2
      have z3 := blk_cell H5.out.z 3
      have z4 := blk_cell H5.out.z 4
      have z5 := blk_cell H5.out.z 5
      have zf0 := blk_frozen H5.out.z 0
      have zf1 := blk_frozen H5.out.z 1
      have zf2 := blk_frozen H5.out.z 2
      have zf3 := blk_frozen H5.out.z 3
      have zf4 := blk_frozen H5.out.z 4
      have zf5 := blk_frozen H5.out.z 5
      simp at z0 z1 z2 z3 z4 z5
      have n0 := blk_cell H5.out.n 0
      have n1 := blk_cell H5.out.n 1
      have n2 := blk_cell H5.out.n 2
      have n3 := blk_cell H5.out.n 3
      have n4 := blk_cell H5.out.n 4
      have n5 := blk_cell H5.out.n 5
      simp at n0 n1 n2 n3 n4 n5
      have k0 := blk_cell H5.out.c 0
      have k1 := blk_cell H5.out.c 1
      have k2 := blk_cell H5.out.c 2
      have k3 := blk_cell H5.out.c 3
      have k4 := blk_cell H5.out.c 4
      have k5 := blk_cell H5.out.c 5
      have kf0 := blk_frozen H5.out.c 0
      have kf1 := blk_frozen H5.out.c 1
      have kf2 := blk_frozen H5.out.c 2
      have kf3 := blk_frozen H5.out.c 3
      have kf4 := blk_frozen H5.out.c 4
      have kf5 := blk_frozen H5.out.c 5
      simp at k0 k1 k2 k3 k4 k5
      rw [HEQ.out] at H55 ⊢
      generalize getT 5 id (restR 5 L2) = r5 at *
      go_wp2_with fail
      refine bodyPost_ret (results_ctt rfl _ _ w.heap.size 26 (cmdC r5.1 r5.2.1 r5.2.2.1 r5.2.2.2.1 r5.2.2.2.2.1 (.slice A5 r5.2.2.2.2.2.1.length cp5)) (0, 0) _ rfl (put6_blk H5.out.z r5.1 r5.2.1 r5.2.2.1 r5.2.2.2.1 r5.2.2.2.2.1 (.slice A5 r5.2.2.2.2.2.1.length cp5)) Tryd.underlying26 rfl (by kernel_rfl)) rfl (HP.out _ _ ?_)
      refine ⟨⟨A5, cp5, rfl, ?_, H55.out.2.1⟩, put6_below H5.out.bel (Nat.le_refl _) r5.1 r5.2.1 r5.2.2.1 r5.2.2.2.1 r5.2.2.2.2.1 (.slice A5 r5.2.2.2.2.2.1.length cp5)⟩
      refine H55.out.1.keep (g := w.heap.size) (((((((KeepBut.refl w5 w.heap.size none).set_ 0 _).set_ 1 _).set_ 2 _).set_ 3 _).set_ 4 _).set_ 5 _) ?_
      intro ad h0 hp0
      rcases H55.out.2.2 with h1 | h1
      · rw [h1] at h0; cases h0
      · rw [h1] at h0; cases h0

set_option maxHeartbeats 4000000 in
set_option maxRecDepth 100000 in
theorem ref_seven (w : World) (l : List Int) (id : Int) (s s1 b : ByteArray) (L2 : List Int) (h5 : ¬ l.length < 5) (hS : SHead l 7 id s s1 b L2) (hl : l.length ≤ 100000) :
    Calls Tryd.prog 15 #[.string s] w (RefPost w (getT 7 id (restR 7 L2))) := by
  refine of_post0 fun R hRR => ?_
  have HP := Lib.hid hRR
  have HV := Lib.hid hS.v
  have hi0 := hS.i0
  have hc1 := hS.c1
  have hc5 := hS.c5
  have hsz := hS.sz
  have HSB := Lib.hid (And.intro hS.bs (And.intro hS.by2 hS.l2))
  have c1 : decide ((s.size : Int) < 5) = false := by rw [decide_eq_false_iff_not]; omega
  have c2 : decide (s.size < 5) = false := by rw [decide_eq_false_iff_not]; omega
  have HSZ := Lib.hid hsz
  clear hRR hS hsz h5
  go_enter Tryd.func15, Tryd.ntmps15
  go_wp2_with fail
  go_region_held3 (fun w' => True) (trivial) ((go_at_call 39; refine (HV.out _).mono ?_; rintro e w1 ⟨rfl, n, rfl⟩))
  all_goals
    rename_i K hK hHeld
    clear hHeld
    refine hK _ _ ?_
    clear hK K
    have hH : ∃ W2, RHead w W2 7 id ⟨#[]⟩ 0 0 (.slice none 0 0) ∧ (rone w (1 + n) 7 id = W2 ∨ rsix w (1 + n) 7 id = W2) := ⟨_, rhead1 w (1 + n) 7 id, .inl rfl⟩
    clear hH
    first
    | (rw [show (((w.alloc zO).alloc zO).drewN (1 + n)).alloc (cO 7 id) = rone w (1 + n) 7 id from rfl]
       have hH := rhead1 w (1 + n) 7 id
       rw [show (((w.alloc zO).alloc zO).drewN (1 + n)).alloc (cO 7 id) = rone w (1 + n) 7 id from rfl] at hH
       generalize rone w (1 + n) 7 id = W2 at hH ⊢)
    | (rw [show (((((((((w.alloc zO).alloc zO).alloc zO).drewN (1 + n)).setCell ⟨w.heap.size + 1 + 1, 0, none⟩ (.int .u8 7)).setCell ⟨w.heap.size + 1 + 1, 1, none⟩ (.int .u32 id)).setCell ⟨w.heap.size + 1 + 1, 2, none⟩ (.string ⟨#[]⟩)).setCell ⟨w.heap.size + 1 + 1, 3, none⟩ (.int .u64 0)).setCell ⟨w.heap.size + 1 + 1, 4, none⟩ (.int .u8 0)).setCell ⟨w.heap.size + 1 + 1, 5, none⟩ (.slice none 0 0) = rsix w (1 + n) 7 id from rfl]
       have hH := rhead2 w (1 + n) 7 id
       generalize rsix w (1 + n) 7 id = W2 at hH ⊢)
    have H2 := Lib.hid hH
    clear hH
    have hzz := H2.out.size
    have z0 := blk_cell H2.out.z 0
    have z1 := blk_cell H2.out.z 1
    have z2 := blk_cell H2.out.z 2
    have z3 := blk_cell H2.out.z 3
    have z4 := blk_cell H2.out.z 4
    have z5 := blk_cell H2.out.z 5
    have zf0 := blk_frozen H2.out.z 0
    have zf1 := blk_frozen H2.out.z 1
    have zf2 := blk_frozen H2.out.z 2
    have zf3 := blk_frozen H2.out.z 3
    have zf4 := blk_frozen H2.out.z 4
    have zf5 := blk_frozen H2.out.z 5
    simp at z0 z1 z2 z3 z4 z5
    have n0 := blk_cell H2.out.n 0
    have n1 := blk_cell H2.out.n 1
    have n2 := blk_cell H2.out.n 2
    have n3 := blk_cell H2.out.n 3
    have n4 := blk_cell H2.out.n 4
    have n5 := blk_cell H2.out.n 5
    simp at n0 n1 n2 n3 n4 n5
    have k0 := blk_cell H2.out.c 0
    have k1 := blk_cell H2.out.c 1
    have k2 := blk_cell H2.out.c 2
    have k3 := blk_cell H2.out.c 3
    have k4 := blk_cell H2.out.c 4
    have k5 := blk_cell H2.out.c 5
    have kf0 := blk_frozen H2.out.c 0
    have kf1 := blk_frozen H2.out.c 1
    have kf2 := blk_frozen H2.out.c 2
    have kf3 := blk_frozen H2.out.c 3
    have kf4 := blk_frozen H2.out.c 4
    have kf5 := blk_frozen H2.out.c 5
    simp at k0 k1 k2 k3 k4 k5
    have hbz : b.size = L2.length := by rw [HSB.out.1]; exact str_size L2
    by_cases hL : L2.length = 8
    · have hl1 : (L2.length == 8) = true := by rw [beq_iff_eq]; exact hL
      have hl2 : ((L2.length : Int) == 8) = true := by rw [beq_iff_eq]; omega
      have hca : ∀ W, (Instr.slice 9 (.string b) none (some (.int .i64 4)) none).run Tryd.prog W = .ok (.string (strOfNums (L2.take 4))) W := fun W => by
        rw [HSB.out.1]
        exact run_to_str L2 4 (by decide) (by omega) W
      have hcb : ∀ W, (Instr.slice 9 (.string b) (some (.int .i64 4)) none none).run Tryd.prog W = .ok (.string (strOfNums (L2.drop 4))) W := fun W => by
        rw [HSB.out.1]
        exact run_from_str L2 4 (by decide) (by omega) W
      have HVA := Lib.hid (fun W => value_ref_calls W (L2.take 4) (by simp; omega) (fun x hx => HSB.out.2.1 x (List.mem_of_mem_take hx)))
      have HVB := Lib.hid (fun W => value_ref_calls W (L2.drop 4) (by simp; omega) (fun x hx => HSB.out.2.1 x (List.mem_of_mem_drop hx)))
      have HQ := Lib.hid (valL_halves hL HSB.out.2.1)
      have HEQ := Lib.hid ((getT_some (kind := 7) (id := id) (t := ⟨#[]⟩) (q := valL L2) (c := 0) (p := []) (by decide) (by decide)).trans (by unfold restR; simp [hL, List.take_of_length_le (show L2.length ≤ 8 by omega), List.drop_eq_nil_of_le (show L2.length ≤ 8 by omega)] : _ = getT 7 id (restR 7 L2)))
      have HX := Lib.hid (fun d => (H2.out.below (pw_below_drewN (Below.refl W2.heap.size W2) d)).set 3 (.int .u64 (valL L2)) rfl)
      clear hL
      go_wp2_with fail
      go_region_held3 (fun w' => True) (trivial) ((go_at_call 39; (first | (with_reducible refine (HVA.out _).mono ?_) | (with_reducible refine (HVB.out _).mono ?_)); rintro e w1 ⟨rfl, m, rfl⟩))
      rw [HQ.out]
      go_wp2_with fail
      refine (others_calls _ 7 id ⟨#[]⟩ (valL L2) 0 [] none 0 s true (by decide) (by decide) (by decide) (ReadsInt.nil _ _) (Nat.le_refl _)).mono ?_
      rintro e w5 ⟨⟨A5, cp5, rfl, hr5, hc5, ha5⟩, hb5⟩
      have H5 := Lib.hid ((HX.out _).below hb5)
      have H55 := Lib.hid (And.intro hr5 (And.intro hc5 ha5))
      clear hb5 hr5 hc5 ha5
      clear z0 z1 z2 z3 z4 z5 n0 n1 n2 n3 n4 n5 k0 k1 k2 k3 k4 k5 zf0 zf1 zf2 zf3 zf4 zf5 kf0 kf1 kf2 kf3 kf4 kf5
      have hzz := H5.out.size
      have z0 := blk_cell H5.out.z 0
      have z1 := blk_cell H5.out.z 1
      have z2 := blk_cell H5.out.z 2
      have z3 := blk_cell H5.out.z 3
      have z4 := blk_cell H5.out.z 4
      have z5 := blk_cell H5.out.z 5
      have zf0 := blk_frozen H5.out.z 0
      have zf1 := blk_frozen H5.out.z 1
      have zf2 := blk_frozen H5.out.z 2
      have zf3 := blk_frozen H5.out.z 3
      have zf4 := blk_frozen H5.out.z 4
      have zf5 := blk_frozen H5.out.z 5
      simp at z0 z1 z2 z3 z4 z5
      have n0 := blk_cell H5.out.n 0
      have n1 := blk_cell H5.out.n 1
      have n2 := blk_cell H5.out.n 2
      have n3 := blk_cell H5.out.n 3
      have n4 := blk_cell H5.out.n 4
      have n5 := blk_cell H5.out.n 5
      simp at n0 n1 n2 n3 n4 n5
      have k0 := blk_cell H5.out.c 0
      have k1 := blk_cell H5.out.c 1
      have k2 := blk_cell H5.out.c 2
      have k3 := blk_cell H5.out.c 3
      have k4 := blk_cell H5.out.c 4
      have k5 := blk_cell H5.out.c 5
      have kf0 := blk_frozen H5.out.c 0
      have kf1 := blk_frozen H5.out.c 1
      have kf2 := blk_frozen H5.out.c 2
      have kf3 := blk_frozen H5.out.c 3
      have kf4 := blk_frozen H5.out.c 4
      have kf5 := blk_frozen H5.out.c 5
      simp at k0 k1 k2 k3 k4 k5
      rw [HEQ.out] at H55 ⊢
      generalize getT 7 id (restR 7 L2) = r5 at *
      go_wp2_with fail
      refine bodyPost_ret (results_ctt rfl _ _ w.heap.size 26 (cmdC r5.1 r5.2.1 r5.2.2.1 r5.2.2.2.1 r5.2.2.2.2.1 (.slice A5 r5.2.2.2.2.2.1.length cp5)) (0, 0) _ rfl (put6_blk H5.out.z r5.1 r5.2.1 r5.2.2.1 r5.2.2.2.1 r5.2.2.2.2.1 (.slice A5 r5.2.2.2.2.2.1.length cp5)) Tryd.underlying26 rfl (by kernel_rfl)) rfl (HP.out _ _ ?_)
      refine ⟨⟨A5, cp5, rfl, ?_, H55.out.2.1⟩, put6_below H5.out.bel (Nat.le_refl _) r5.1 r5.2.1 r5.2.2.1 r5.2.2.2.1 r5.2.2.2.2.1 (.slice A5 r5.2.2.2.2.2.1.length cp5)⟩
      refine H55.out.1.keep (g := w.heap.size) (((((((KeepBut.refl w5 w.heap.size none).set_ 0 _).set_ 1 _).set_ 2 _).set_ 3 _).set_ 4 _).set_ 5 _) ?_
      intro ad h0 hp0
      rcases H55.out.2.2 with h1 | h1
      · rw [h1] at h0; cases h0
      · rw [h1] at h0; cases h0
    · have hl1 : (L2.length == 8) = false := by rw [beq_eq_false_iff_ne]; exact hL
      have hl2 : ((L2.length : Int) == 8) = false := by rw [beq_eq_false_iff_ne]; omega
      have hrr : restR 7 L2 = none := by unfold restR; rw [if_neg (by decide), if_neg (by decide), if_neg (by decide), if_pos (by decide), if_pos (by omega)]
      have HEQ := Lib.hid ((getT_none 7 id 7 id ⟨#[]⟩ 0 0 [] (cmdOk 7 ⟨#[]⟩ 0 0 [])).trans (by rw [hrr] : _ = getT 7 id (restR 7 L2)))
      have HX := H2
      clear hL hrr
      go_wp2_with fail
      refine (others_calls _ 7 id ⟨#[]⟩ 0 0 [] none 0 s false (by decide) (by decide) (by decide) (ReadsInt.nil _ _) (Nat.le_refl _)).mono ?_
      rintro e w5 ⟨⟨A5, cp5, rfl, hr5, hc5, ha5⟩, hb5⟩
      have H5 := Lib.hid (HX.out.below hb5)
      have H55 := Lib.hid (And.intro hr5 (And.intro hc5 ha5))
      clear hb5 hr5 hc5 ha5
      clear z0 z1 z2 z3 z4 z5 n0 n1 n2 n3 n4 n5 k0 k1 k2 k3 k4 k5 zf0 zf1 zf2 zf3 zf4 zf5 kf0 kf1 kf2 kf3 kf4 kf5
      have hzz := H5.out.size
      have z0 := blk_cell H5.out.z 0
      have z1 := blk_cell H5.out.z 1
      have z2 := blk_cell H5.out.z 2
      have z3 := blk_cell H5.out.z 3
      have z4 := blk_cell H5.out.z 4
      have z5 := blk_cell H5.out.z 5
      have zf0 := blk_frozen H5.out.z 0
      have zf1 := blk_frozen H5.out.z 1
      have zf2 := blk_frozen H5.out.z 2
      have zf3 := blk_frozen H5.out.z 3
      have zf4 := blk_frozen H5.out.z 4
      have zf5 := blk_frozen H5.out.z 5
      simp at z0 z1 z2 z3 z4 z5
      have n0 := blk_cell H5.out.n 0
      have n1 := blk_cell H5.out.n 1
      have n2 := blk_cell H5.out.n 2
      have n3 := blk_cell H5.out.n 3
      have n4 := blk_cell H5.out.n 4
      have n5 := blk_cell H5.out.n 5
      simp at n0 n1 n2 n3 n4 n5
      have k0 := blk_cell H5.out.c 0
      have k1 := blk_cell H5.out.c 1
      have k2 := blk_cell H5.out.c 2
      have k3 := blk_cell H5.out.c 3
      have k4 := blk_cell H5.out.c 4
      have k5 := blk_cell H5.out.c 5
      have kf0 := blk_frozen H5.out.c 0
      have kf1 := blk_frozen H5.out.c 1
      have kf2 := blk_frozen H5.out.c 2
      have kf3 := blk_frozen H5.out.c 3
      have kf4 := blk_frozen H5.out.c 4
      have kf5 := blk_frozen H5.out.c 5
      simp at k0 k1 k2 k3 k4 k5
      rw [HEQ.out] at H55 ⊢
      generalize getT 7 id (restR 7 L2) = r5 at *
      go_wp2_with fail
      refine bodyPost_ret (results_ctt rfl _ _ w.heap.size 26 (cmdC r5.1 r5.2.1 r5.2.2.1 r5.2.2.2.1 r5.2.2.2.2.1 (.slice A5 r5.2.2.2.2.2.1.length cp5)) (0, 0) _ rfl (put6_blk H5.out.z r5.1 r5.2.1 r5.2.2.1 r5.2.2.2.1 r5.2.2.2.2.1 (.slice A5 r5.2.2.2.2.2.1.length cp5)) Tryd.underlying26 rfl (by kernel_rfl)) rfl (HP.out _ _ ?_)
      refine ⟨⟨A5, cp5, rfl, ?_, H55.out.2.1⟩, put6_below H5.out.bel (Nat.le_refl _) r5.1 r5.2.1 r5.2.2.1 r5.2.2.2.1 r5.2.2.2.2.1 (.slice A5 r5.2.2.2.2.2.1.length cp5)⟩
      refine H55.out.1.keep (g := w.heap.size) (((((((KeepBut.refl w5 w.heap.size none).set_ 0 _).set_ 1 _).set_ 2 _).set_ 3 _).set_ 4 _).set_ 5 _) ?_
      intro ad h0 hp0
      rcases H55.out.2.2 with h1 | h1
      · rw [h1] at h0; cases h0
      · rw [h1] at h0; cases h0
end Go.Proofs.YtkgedjaihimafaaDoor

/- The reference's Get, walked: kind 1, and kinds that are none. -/
namespace Go.Proofs.YtkgedjaihimafaaDoor
set_option linter.unusedVariables false
set_option linter.unusedSimpArgs false
open Go.RowKit Go.Proofs.YtkgedjaihimafaaDoorW.PrintWords Go.Proofs.YtkgedjaihimafaaDoor.QCmd Go.Proofs.YtkgedjaihimafaaDoor.Given Go.Proofs.YtkgedjaihimafaaDoor.QCmdG

set_option maxHeartbeats 4000000 in
set_option maxRecDepth 100000 in
theorem ref_one (w : World) (l : List Int) (id : Int) (s s1 b : ByteArray) (L2 : List Int) (h5 : ¬ l.length < 5) (hS : SHead l 1 id s s1 b L2) (hl : l.length ≤ 100000) :
    Calls Tryd.prog 15 #[.string s] w (RefPost w (getT 1 id (restR 1 L2))) := by
  refine of_post0 fun R hRR => ?_
  have HP := Lib.hid hRR
  have HV := Lib.hid hS.v
  have hi0 := hS.i0
  have hc1 := hS.c1
  have hc5 := hS.c5
  have hsz := hS.sz
  have HSB := Lib.hid (And.intro hS.bs (And.intro hS.by2 hS.l2))
  have c1 : decide ((s.size : Int) < 5) = false := by rw [decide_eq_false_iff_not]; omega
  have c2 : decide (s.size < 5) = false := by rw [decide_eq_false_iff_not]; omega
  have HSZ := Lib.hid hsz
  clear hRR hS hsz h5
  go_enter Tryd.func15, Tryd.ntmps15
  go_wp2_with fail
  go_region_held3 (fun w' => True) (trivial) ((go_at_call 39; refine (HV.out _).mono ?_; rintro e w1 ⟨rfl, n, rfl⟩))
  all_goals
    rename_i K hK hHeld
    clear hHeld
    refine hK _ _ ?_
    clear hK K
    have hH : ∃ W2, RHead w W2 1 id ⟨#[]⟩ 0 0 (.slice none 0 0) ∧ (rone w (1 + n) 1 id = W2 ∨ rsix w (1 + n) 1 id = W2) := ⟨_, rhead1 w (1 + n) 1 id, .inl rfl⟩
    clear hH
    first
    | (rw [show (((w.alloc zO).alloc zO).drewN (1 + n)).alloc (cO 1 id) = rone w (1 + n) 1 id from rfl]
       have hH := rhead1 w (1 + n) 1 id
       rw [show (((w.alloc zO).alloc zO).drewN (1 + n)).alloc (cO 1 id) = rone w (1 + n) 1 id from rfl] at hH
       generalize rone w (1 + n) 1 id = W2 at hH ⊢)
    | (rw [show (((((((((w.alloc zO).alloc zO).alloc zO).drewN (1 + n)).setCell ⟨w.heap.size + 1 + 1, 0, none⟩ (.int .u8 1)).setCell ⟨w.heap.size + 1 + 1, 1, none⟩ (.int .u32 id)).setCell ⟨w.heap.size + 1 + 1, 2, none⟩ (.string ⟨#[]⟩)).setCell ⟨w.heap.size + 1 + 1, 3, none⟩ (.int .u64 0)).setCell ⟨w.heap.size + 1 + 1, 4, none⟩ (.int .u8 0)).setCell ⟨w.heap.size + 1 + 1, 5, none⟩ (.slice none 0 0) = rsix w (1 + n) 1 id from rfl]
       have hH := rhead2 w (1 + n) 1 id
       generalize rsix w (1 + n) 1 id = W2 at hH ⊢)
    have H2 := Lib.hid hH
    clear hH
    have hzz := H2.out.size
    have z0 := blk_cell H2.out.z 0
    have z1 := blk_cell H2.out.z 1
    have z2 := blk_cell H2.out.z 2
    have z3 := blk_cell H2.out.z 3
    have z4 := blk_cell H2.out.z 4
    have z5 := blk_cell H2.out.z 5
    have zf0 := blk_frozen H2.out.z 0
    have zf1 := blk_frozen H2.out.z 1
    have zf2 := blk_frozen H2.out.z 2
    have zf3 := blk_frozen H2.out.z 3
    have zf4 := blk_frozen H2.out.z 4
    have zf5 := blk_frozen H2.out.z 5
    simp at z0 z1 z2 z3 z4 z5
    have n0 := blk_cell H2.out.n 0
    have n1 := blk_cell H2.out.n 1
    have n2 := blk_cell H2.out.n 2
    have n3 := blk_cell H2.out.n 3
    have n4 := blk_cell H2.out.n 4
    have n5 := blk_cell H2.out.n 5
    simp at n0 n1 n2 n3 n4 n5
    have k0 := blk_cell H2.out.c 0
    have k1 := blk_cell H2.out.c 1
    have k2 := blk_cell H2.out.c 2
    have k3 := blk_cell H2.out.c 3
    have k4 := blk_cell H2.out.c 4
    have k5 := blk_cell H2.out.c 5
    have kf0 := blk_frozen H2.out.c 0
    have kf1 := blk_frozen H2.out.c 1
    have kf2 := blk_frozen H2.out.c 2
    have kf3 := blk_frozen H2.out.c 3
    have kf4 := blk_frozen H2.out.c 4
    have kf5 := blk_frozen H2.out.c 5
    simp at k0 k1 k2 k3 k4 k5
    have hbz : b.size = L2.length := by rw [HSB.out.1]; exact str_size L2
    have hbs : b.size ≤ 1000000000 := by have := HSB.out.2.2; omega
    have HBS := Lib.hid hbs
    clear hbs
    cases hok : topicOk b
    · have HEQ := Lib.hid (show getT 1 id (restR 1 L2) = (1, id, ⟨#[]⟩, 0, 0, [], 1, false) by
        have e := HSB.out.1
        subst e
        unfold restR
        rw [if_pos rfl]
        exact getT_bad (.inl rfl) hok)
      have HOK := Lib.hid hok
      clear hok
      go_wp2_with fail
      refine (rmay21_calls _ b HBS.out).mono ?_
      rintro e w5 ⟨rfl, hb5⟩
      rw [HOK.out]
      have H5 := Lib.hid (H2.out.below hb5)
      clear hb5
      clear z0 z1 z2 z3 z4 z5 n0 n1 n2 n3 n4 n5 k0 k1 k2 k3 k4 k5 zf0 zf1 zf2 zf3 zf4 zf5 kf0 kf1 kf2 kf3 kf4 kf5
      have hzz := H5.out.size
      have z0 := blk_cell H5.out.z 0
      have z1 := blk_cell H5.out.z 1
      have z2 := blk_cell H5.out.z 2
      have z3 := blk_cell H5.out.z 3
      have z4 := blk_cell H5.out.z 4
      have z5 := blk_cell H5.out.z 5
      have zf0 := blk_frozen H5.out.z 0
      have zf1 := blk_frozen H5.out.z 1
      have zf2 := blk_frozen H5.out.z 2
      have zf3 := blk_frozen H5.out.z 3
      have zf4 := blk_frozen H5.out.z 4
      have zf5 := blk_frozen H5.out.z 5
      simp at z0 z1 z2 z3 z4 z5
      have n0 := blk_cell H5.out.n 0
      have n1 := blk_cell H5.out.n 1
      have n2 := blk_cell H5.out.n 2
      have n3 := blk_cell H5.out.n 3
      have n4 := blk_cell H5.out.n 4
      have n5 := blk_cell H5.out.n 5
      simp at n0 n1 n2 n3 n4 n5
      have k0 := blk_cell H5.out.c 0
      have k1 := blk_cell H5.out.c 1
      have k2 := blk_cell H5.out.c 2
      have k3 := blk_cell H5.out.c 3
      have k4 := blk_cell H5.out.c 4
      have k5 := blk_cell H5.out.c 5
      have kf0 := blk_frozen H5.out.c 0
      have kf1 := blk_frozen H5.out.c 1
      have kf2 := blk_frozen H5.out.c 2
      have kf3 := blk_frozen H5.out.c 3
      have kf4 := blk_frozen H5.out.c 4
      have kf5 := blk_frozen H5.out.c 5
      simp at k0 k1 k2 k3 k4 k5
      go_wp2_with fail
      refine bodyPost_ret (results_ctt rfl _ _ w.heap.size 26 (cmdC 1 id ⟨#[]⟩ 0 0 (.slice none 0 0)) (0, 0) _ rfl (put6_blk H5.out.z 1 id ⟨#[]⟩ 0 0 (.slice none 0 0)) Tryd.underlying26 rfl (by kernel_rfl)) rfl (HP.out _ _ ?_)
      rw [HEQ.out]
      exact ⟨⟨none, 0, rfl, ReadsInt.nil _ _, Nat.le_refl _⟩, put6_below H5.out.bel (Nat.le_refl _) 1 id ⟨#[]⟩ 0 0 (.slice none 0 0)⟩
    · have HEQ := Lib.hid (show getT 1 id (restR 1 L2) = (1, id, b, 0, 0, [], 0, true) by
        have e := HSB.out.1
        subst e
        unfold restR
        rw [if_pos rfl]
        have hc : cmdOk 1 (strOfNums L2) 0 0 [] = true := by unfold cmdOk; simp [hok]
        exact getT_full hok (fun h => absurd h.1 (by decide)) hc)
      have HOK := Lib.hid hok
      clear hok
      go_wp2_with fail
      refine (rmay21_calls _ b HBS.out).mono ?_
      rintro e w5 ⟨rfl, hb5⟩
      rw [HOK.out]
      have H5 := Lib.hid (H2.out.below hb5)
      clear hb5
      clear z0 z1 z2 z3 z4 z5 n0 n1 n2 n3 n4 n5 k0 k1 k2 k3 k4 k5 zf0 zf1 zf2 zf3 zf4 zf5 kf0 kf1 kf2 kf3 kf4 kf5
      have hzz := H5.out.size
      have z0 := blk_cell H5.out.z 0
      have z1 := blk_cell H5.out.z 1
      have z2 := blk_cell H5.out.z 2
      have z3 := blk_cell H5.out.z 3
      have z4 := blk_cell H5.out.z 4
      have z5 := blk_cell H5.out.z 5
      have zf0 := blk_frozen H5.out.z 0
      have zf1 := blk_frozen H5.out.z 1
      have zf2 := blk_frozen H5.out.z 2
      have zf3 := blk_frozen H5.out.z 3
      have zf4 := blk_frozen H5.out.z 4
      have zf5 := blk_frozen H5.out.z 5
      simp at z0 z1 z2 z3 z4 z5
      have n0 := blk_cell H5.out.n 0
      have n1 := blk_cell H5.out.n 1
      have n2 := blk_cell H5.out.n 2
      have n3 := blk_cell H5.out.n 3
      have n4 := blk_cell H5.out.n 4
      have n5 := blk_cell H5.out.n 5
      simp at n0 n1 n2 n3 n4 n5
      have k0 := blk_cell H5.out.c 0
      have k1 := blk_cell H5.out.c 1
      have k2 := blk_cell H5.out.c 2
      have k3 := blk_cell H5.out.c 3
      have k4 := blk_cell H5.out.c 4
      have k5 := blk_cell H5.out.c 5
      have kf0 := blk_frozen H5.out.c 0
      have kf1 := blk_frozen H5.out.c 1
      have kf2 := blk_frozen H5.out.c 2
      have kf3 := blk_frozen H5.out.c 3
      have kf4 := blk_frozen H5.out.c 4
      have kf5 := blk_frozen H5.out.c 5
      simp at k0 k1 k2 k3 k4 k5
      have H6 := Lib.hid (H5.out.set 2 (.string b) rfl)
      go_wp2_with fail
      refine bodyPost_ret (results_ctt rfl _ _ w.heap.size 26 (cmdC 1 id b 0 0 (.slice none 0 0)) (0, 0) _ rfl (put6_blk H6.out.z 1 id b 0 0 (.slice none 0 0)) Tryd.underlying26 rfl (by kernel_rfl)) rfl (HP.out _ _ ?_)
      rw [HEQ.out]
      exact ⟨⟨none, 0, rfl, ReadsInt.nil _ _, Nat.le_refl _⟩, put6_below H6.out.bel (Nat.le_refl _) 1 id b 0 0 (.slice none 0 0)⟩

set_option maxHeartbeats 4000000 in
set_option maxRecDepth 100000 in
theorem ref_other (w : World) (l : List Int) (kind id : Int) (hno : kind < 1 ∨ 8 < kind) (s s1 b : ByteArray) (L2 : List Int) (h5 : ¬ l.length < 5) (hS : SHead l kind id s s1 b L2) (hl : l.length ≤ 100000) :
    Calls Tryd.prog 15 #[.string s] w (RefPost w (getT kind id (restR kind L2))) := by
  refine of_post0 fun R hRR => ?_
  have HP := Lib.hid hRR
  have HV := Lib.hid hS.v
  have HNO := Lib.hid hno
  have g1 : (kind == 1) = false := by rw [beq_eq_false_iff_ne]; omega
  have g2 : (kind == 2) = false := by rw [beq_eq_false_iff_ne]; omega
  have g3 : (kind == 3) = false := by rw [beq_eq_false_iff_ne]; omega
  have g4 : (kind == 4) = false := by rw [beq_eq_false_iff_ne]; omega
  have g5 : (kind == 5) = false := by rw [beq_eq_false_iff_ne]; omega
  have g6 : (kind == 6) = false := by rw [beq_eq_false_iff_ne]; omega
  have g7 : (kind == 7) = false := by rw [beq_eq_false_iff_ne]; omega
  have g8 : (kind == 8) = false := by rw [beq_eq_false_iff_ne]; omega
  have hi0 := hS.i0
  have hc1 := hS.c1
  have hc5 := hS.c5
  have hsz := hS.sz
  have HSB := Lib.hid (And.intro hS.bs (And.intro hS.by2 hS.l2))
  have c1 : decide ((s.size : Int) < 5) = false := by rw [decide_eq_false_iff_not]; omega
  have c2 : decide (s.size < 5) = false := by rw [decide_eq_false_iff_not]; omega
  have HSZ := Lib.hid hsz
  clear hRR hS hsz h5 hno
  go_enter Tryd.func15, Tryd.ntmps15
  go_wp2_with fail
  go_region_held3 (fun w' => True) (trivial) ((go_at_call 39; refine (HV.out _).mono ?_; rintro e w1 ⟨rfl, n, rfl⟩))
  all_goals
    rename_i K hK hHeld
    clear hHeld
    refine hK _ _ ?_
    clear hK K
    have hH : ∃ W2, RHead w W2 kind id ⟨#[]⟩ 0 0 (.slice none 0 0) ∧ (rone w (1 + n) kind id = W2 ∨ rsix w (1 + n) kind id = W2) := ⟨_, rhead1 w (1 + n) kind id, .inl rfl⟩
    clear hH
    first
    | (rw [show (((w.alloc zO).alloc zO).drewN (1 + n)).alloc (cO kind id) = rone w (1 + n) kind id from rfl]
       have hH := rhead1 w (1 + n) kind id
       rw [show (((w.alloc zO).alloc zO).drewN (1 + n)).alloc (cO kind id) = rone w (1 + n) kind id from rfl] at hH
       generalize rone w (1 + n) kind id = W2 at hH ⊢)
    | (rw [show (((((((((w.alloc zO).alloc zO).alloc zO).drewN (1 + n)).setCell ⟨w.heap.size + 1 + 1, 0, none⟩ (.int .u8 kind)).setCell ⟨w.heap.size + 1 + 1, 1, none⟩ (.int .u32 id)).setCell ⟨w.heap.size + 1 + 1, 2, none⟩ (.string ⟨#[]⟩)).setCell ⟨w.heap.size + 1 + 1, 3, none⟩ (.int .u64 0)).setCell ⟨w.heap.size + 1 + 1, 4, none⟩ (.int .u8 0)).setCell ⟨w.heap.size + 1 + 1, 5, none⟩ (.slice none 0 0) = rsix w (1 + n) kind id from rfl]
       have hH := rhead2 w (1 + n) kind id
       generalize rsix w (1 + n) kind id = W2 at hH ⊢)
    have H2 := Lib.hid hH
    clear hH
    have hzz := H2.out.size
    have z0 := blk_cell H2.out.z 0
    have z1 := blk_cell H2.out.z 1
    have z2 := blk_cell H2.out.z 2
    have z3 := blk_cell H2.out.z 3
    have z4 := blk_cell H2.out.z 4
    have z5 := blk_cell H2.out.z 5
    have zf0 := blk_frozen H2.out.z 0
    have zf1 := blk_frozen H2.out.z 1
    have zf2 := blk_frozen H2.out.z 2
    have zf3 := blk_frozen H2.out.z 3
    have zf4 := blk_frozen H2.out.z 4
    have zf5 := blk_frozen H2.out.z 5
    simp at z0 z1 z2 z3 z4 z5
    have n0 := blk_cell H2.out.n 0
    have n1 := blk_cell H2.out.n 1
    have n2 := blk_cell H2.out.n 2
    have n3 := blk_cell H2.out.n 3
    have n4 := blk_cell H2.out.n 4
    have n5 := blk_cell H2.out.n 5
    simp at n0 n1 n2 n3 n4 n5
    have k0 := blk_cell H2.out.c 0
    have k1 := blk_cell H2.out.c 1
    have k2 := blk_cell H2.out.c 2
    have k3 := blk_cell H2.out.c 3
    have k4 := blk_cell H2.out.c 4
    have k5 := blk_cell H2.out.c 5
    have kf0 := blk_frozen H2.out.c 0
    have kf1 := blk_frozen H2.out.c 1
    have kf2 := blk_frozen H2.out.c 2
    have kf3 := blk_frozen H2.out.c 3
    have kf4 := blk_frozen H2.out.c 4
    have kf5 := blk_frozen H2.out.c 5
    simp at k0 k1 k2 k3 k4 k5
    have HEQ := Lib.hid (show getT kind id (restR kind L2) = noneR by
      have hr : restR kind L2 = none := by
        have := HNO.out
        unfold restR
        rw [if_neg (by omega), if_neg (by omega), if_neg (by omega), if_neg (by omega), if_neg (by omega)]
      rw [hr]
      rfl)
    go_wp2_with fail
    refine bodyPost_ret (results_ctt rfl _ _ w.heap.size 26 (cmdC 0 0 ⟨#[]⟩ 0 0 (.slice none 0 0)) (0, 0) _ rfl (put6_blk H2.out.z 0 0 ⟨#[]⟩ 0 0 (.slice none 0 0)) Tryd.underlying26 rfl (by kernel_rfl)) rfl (HP.out _ _ ?_)
    rw [HEQ.out]
    exact ⟨⟨none, 0, rfl, ReadsInt.nil _ _, Nat.le_refl _⟩, put6_below H2.out.bel (Nat.le_refl _) 0 0 ⟨#[]⟩ 0 0 (.slice none 0 0)⟩
end Go.Proofs.YtkgedjaihimafaaDoor

/- The reference's Get, walked: kind 6. -/
namespace Go.Proofs.YtkgedjaihimafaaDoor
set_option linter.unusedVariables false
set_option linter.unusedSimpArgs false
open Go.RowKit Go.Proofs.YtkgedjaihimafaaDoorW.PrintWords Go.Proofs.YtkgedjaihimafaaDoor.QCmd Go.Proofs.YtkgedjaihimafaaDoor.Given Go.Proofs.YtkgedjaihimafaaDoor.QCmdG

set_option maxHeartbeats 4000000 in
set_option maxRecDepth 100000 in
theorem ref_six (w : World) (l : List Int) (id : Int) (s s1 b : ByteArray) (L2 : List Int) (h5 : ¬ l.length < 5) (hS : SHead l 6 id s s1 b L2) (hl : l.length ≤ 100000) :
    Calls Tryd.prog 15 #[.string s] w (RefPost w (getT 6 id (restR 6 L2))) := by
  refine of_post0 fun R hRR => ?_
  have HP := Lib.hid hRR
  have HV := Lib.hid hS.v
  have hi0 := hS.i0
  have hc1 := hS.c1
  have hc5 := hS.c5
  have hsz := hS.sz
  have HSB := Lib.hid (And.intro hS.bs (And.intro hS.by2 hS.l2))
  have c1 : decide ((s.size : Int) < 5) = false := by rw [decide_eq_false_iff_not]; omega
  have c2 : decide (s.size < 5) = false := by rw [decide_eq_false_iff_not]; omega
  have HSZ := Lib.hid hsz
  clear hRR hS hsz h5
  go_enter Tryd.func15, Tryd.ntmps15
  go_wp2_with fail
  go_region_held3 (fun w' => True) (trivial) ((go_at_call 39; refine (HV.out _).mono ?_; rintro e w1 ⟨rfl, n, rfl⟩))
  all_goals
    rename_i K hK hHeld
    clear hHeld
    refine hK _ _ ?_
    clear hK K
    have hH : ∃ W2, RHead w W2 6 id ⟨#[]⟩ 0 0 (.slice none 0 0) ∧ (rone w (1 + n) 6 id = W2 ∨ rsix w (1 + n) 6 id = W2) := ⟨_, rhead1 w (1 + n) 6 id, .inl rfl⟩
    clear hH
    first
    | (rw [show (((w.alloc zO).alloc zO).drewN (1 + n)).alloc (cO 6 id) = rone w (1 + n) 6 id from rfl]
       have hH := rhead1 w (1 + n) 6 id
       rw [show (((w.alloc zO).alloc zO).drewN (1 + n)).alloc (cO 6 id) = rone w (1 + n) 6 id from rfl] at hH
       generalize rone w (1 + n) 6 id = W2 at hH ⊢)
    | (rw [show (((((((((w.alloc zO).alloc zO).alloc zO).drewN (1 + n)).setCell ⟨w.heap.size + 1 + 1, 0, none⟩ (.int .u8 6)).setCell ⟨w.heap.size + 1 + 1, 1, none⟩ (.int .u32 id)).setCell ⟨w.heap.size + 1 + 1, 2, none⟩ (.string ⟨#[]⟩)).setCell ⟨w.heap.size + 1 + 1, 3, none⟩ (.int .u64 0)).setCell ⟨w.heap.size + 1 + 1, 4, none⟩ (.int .u8 0)).setCell ⟨w.heap.size + 1 + 1, 5, none⟩ (.slice none 0 0) = rsix w (1 + n) 6 id from rfl]
       have hH := rhead2 w (1 + n) 6 id
       generalize rsix w (1 + n) 6 id = W2 at hH ⊢)
    have H2 := Lib.hid hH
    clear hH
    have hzz := H2.out.size
    have z0 := blk_cell H2.out.z 0
    have z1 := blk_cell H2.out.z 1
    have z2 := blk_cell H2.out.z 2
    have z3 := blk_cell H2.out.z 3
    have z4 := blk_cell H2.out.z 4
    have z5 := blk_cell H2.out.z 5
    have zf0 := blk_frozen H2.out.z 0
    have zf1 := blk_frozen H2.out.z 1
    have zf2 := blk_frozen H2.out.z 2
    have zf3 := blk_frozen H2.out.z 3
    have zf4 := blk_frozen H2.out.z 4
    have zf5 := blk_frozen H2.out.z 5
    simp at z0 z1 z2 z3 z4 z5
    have n0 := blk_cell H2.out.n 0
    have n1 := blk_cell H2.out.n 1
    have n2 := blk_cell H2.out.n 2
    have n3 := blk_cell H2.out.n 3
    have n4 := blk_cell H2.out.n 4
    have n5 := blk_cell H2.out.n 5
    simp at n0 n1 n2 n3 n4 n5
    have k0 := blk_cell H2.out.c 0
    have k1 := blk_cell H2.out.c 1
    have k2 := blk_cell H2.out.c 2
    have k3 := blk_cell H2.out.c 3
    have k4 := blk_cell H2.out.c 4
    have k5 := blk_cell H2.out.c 5
    have kf0 := blk_frozen H2.out.c 0
    have kf1 := blk_frozen H2.out.c 1
    have kf2 := blk_frozen H2.out.c 2
    have kf3 := blk_frozen H2.out.c 3
    have kf4 := blk_frozen H2.out.c 4
    have kf5 := blk_frozen H2.out.c 5
    simp at k0 k1 k2 k3 k4 k5
    have hbz : b.size = L2.length := by rw [HSB.out.1]; exact str_size L2
    by_cases hL : 8 ≤ L2.length
    · have hl1 : decide (8 ≤ L2.length) = true := by rw [decide_eq_true_iff]; exact hL
      have hl2 : decide ((8 : Int) ≤ (L2.length : Int)) = true := by rw [decide_eq_true_iff]; omega
      have e8 : (L2.take 8).length = 8 := by rw [List.length_take]; omega
      have hca : ∀ W, (Instr.slice 9 (.string b) none (some (.int .i64 4)) none).run Tryd.prog W = .ok (.string (strOfNums ((L2.take 8).take 4))) W := fun W => by
        rw [HSB.out.1, List.take_take]
        exact run_to_str L2 4 (by decide) (by omega) W
      have hcb : ∀ W, (Instr.slice 9 (.string b) (some (.int .i64 4)) (some (.int .i64 8)) none).run Tryd.prog W = .ok (.string (strOfNums ((L2.take 8).drop 4))) W := fun W => by
        rw [HSB.out.1]
        exact run_cut_str L2 4 8 (by decide) (by decide) (by omega) W
      have hby8 : Byte8 (L2.take 8) := fun x hx => HSB.out.2.1 x (List.mem_of_mem_take hx)
      have HVA := Lib.hid (fun W => value_ref_calls W ((L2.take 8).take 4) (by simp; omega) (fun x hx => hby8 x (List.mem_of_mem_take hx)))
      have HVB := Lib.hid (fun W => value_ref_calls W ((L2.take 8).drop 4) (by simp; omega) (fun x hx => hby8 x (List.mem_of_mem_drop hx)))
      have HQ := Lib.hid (valL_halves e8 hby8)
      have hrr : restR 6 L2 = some (⟨#[]⟩, valL (L2.take 8), 0, L2.drop 8) := by unfold restR; rw [if_neg (by decide), if_neg (by decide), if_neg (by decide), if_pos (by decide), if_neg (by omega)]
      have hpl : (L2.drop 8).length ≤ 100000 := by have := HSB.out.2.2; rw [List.length_drop]; omega
      have hpb : Byte8 (L2.drop 8) := fun x hx => HSB.out.2.1 x (List.mem_of_mem_drop hx)
      have hcc : ∀ W, (Instr.slice 9 (.string b) (some (.int .i64 8)) none none).run Tryd.prog W = .ok (.string (strOfNums (L2.drop 8))) W := fun W => by
        rw [HSB.out.1]
        exact run_from_str L2 8 (by decide) (by omega) W
      generalize L2.take 8 = L8 at *
      generalize L2.drop 8 = pay at *
      have HEQ := Lib.hid ((getT_some (kind := 6) (id := id) (t := ⟨#[]⟩) (q := valL L8) (c := 0) (p := pay) (by decide) (by decide)).trans (by rw [hrr] : _ = getT 6 id (restR 6 L2)))
      have hkb : ∀ W, (convert 9 24 (.string (strOfNums pay))).run Tryd.prog W = .ok (.slice (some ⟨W.heap.size, 0, none⟩) pay.length (grownCap W pay.length 0 5)) (Lib.bytesWorld W 5 (strOfNums pay)) := fun W => by
        have := print_bytes (P := Tryd.prog) 9 24 5 Tryd.underlying9 Tryd.underlying24 Tryd.underlying5 (strOfNums pay) W
        rw [str_size] at this
        exact this
      have HPB := Lib.hid (And.intro hpl hpb)
      have HX3 := Lib.hid (fun d => (H2.out.below (pw_below_drewN (Below.refl W2.heap.size W2) d)).set 3 (.int .u64 (valL L8)) rfl)
      clear hL e8 hby8 hrr hpl hpb
      go_wp2_with fail
      go_region_held3 (fun w' => True) (trivial) ((go_at_call 39; (first | ((with_reducible refine (HVA.out _).mono ?_); rintro e w1 ⟨rfl, ma, rfl⟩) | ((with_reducible refine (HVB.out _).mono ?_); rintro e w1 ⟨rfl, mb, rfl⟩))))
      rw [HQ.out]
      have H3' := HX3.out (1 + ma + mb)
      have H3'' := HX3.out (1 + mb + ma)
      first
      | (generalize (W2.drewN (1 + ma + mb)).setCell ⟨w.heap.size + 1 + 1, 3, none⟩ (.int .u64 (valL L8)) = W3 at H3' ⊢; clear H3''; have H3 := Lib.hid H3'; clear H3')
      | (generalize (W2.drewN (1 + mb + ma)).setCell ⟨w.heap.size + 1 + 1, 3, none⟩ (.int .u64 (valL L8)) = W3 at H3'' ⊢; clear H3'; have H3 := Lib.hid H3''; clear H3'')
      clear z0 z1 z2 z3 z4 z5 n0 n1 n2 n3 n4 n5 k0 k1 k2 k3 k4 k5 zf0 zf1 zf2 zf3 zf4 zf5 kf0 kf1 kf2 kf3 kf4 kf5
      have H4 := Lib.hid (H3.out.below (bytes_below (Below.refl W3.heap.size W3) (Nat.le_refl _) 5 (strOfNums pay)))
      have HR4 := Lib.hid (show ReadsInt (Lib.bytesWorld W3 5 (strOfNums pay)) .u8 (some ⟨W3.heap.size, 0, none⟩) pay.length pay by
        have := bytes_reads W3 5 (strOfNums pay) (by rw [str_size]; have := HPB.out.1; omega)
        rw [str_size, bytes_str HPB.out.2] at this
        exact this)
      have hz3 := H3.out.size
      have hzz := H4.out.size
      have z0 := blk_cell H4.out.z 0
      have z1 := blk_cell H4.out.z 1
      have z2 := blk_cell H4.out.z 2
      have z3 := blk_cell H4.out.z 3
      have z4 := blk_cell H4.out.z 4
      have z5 := blk_cell H4.out.z 5
      have zf0 := blk_frozen H4.out.z 0
      have zf1 := blk_frozen H4.out.z 1
      have zf2 := blk_frozen H4.out.z 2
      have zf3 := blk_frozen H4.out.z 3
      have zf4 := blk_frozen H4.out.z 4
      have zf5 := blk_frozen H4.out.z 5
      simp at z0 z1 z2 z3 z4 z5
      have n0 := blk_cell H4.out.n 0
      have n1 := blk_cell H4.out.n 1
      have n2 := blk_cell H4.out.n 2
      have n3 := blk_cell H4.out.n 3
      have n4 := blk_cell H4.out.n 4
      have n5 := blk_cell H4.out.n 5
      simp at n0 n1 n2 n3 n4 n5
      have k0 := blk_cell H4.out.c 0
      have k1 := blk_cell H4.out.c 1
      have k2 := blk_cell H4.out.c 2
      have k3 := blk_cell H4.out.c 3
      have k4 := blk_cell H4.out.c 4
      have k5 := blk_cell H4.out.c 5
      have kf0 := blk_frozen H4.out.c 0
      have kf1 := blk_frozen H4.out.c 1
      have kf2 := blk_frozen H4.out.c 2
      have kf3 := blk_frozen H4.out.c 3
      have kf4 := blk_frozen H4.out.c 4
      have kf5 := blk_frozen H4.out.c 5
      simp at k0 k1 k2 k3 k4 k5
      have HX := Lib.hid (H4.out.set 5 (.slice (some ⟨W3.heap.size, 0, none⟩) pay.length (grownCap W3 pay.length 0 5)) rfl)
      have HR5 := Lib.hid (HR4.out.keep (g := w.heap.size + 1 + 1) ((KeepBut.refl _ _ none).set_ 5 (.slice (some ⟨W3.heap.size, 0, none⟩) pay.length (grownCap W3 pay.length 0 5))) (fun ad h0 _ => by cases h0; show W3.heap.size ≠ w.heap.size + 1 + 1; omega))
      go_wp2_with fail
      refine (others_calls _ 6 id ⟨#[]⟩ (valL L8) 0 pay (some ⟨W3.heap.size, 0, none⟩) _ s true (by decide) (by decide) (by decide) HR5.out (grownCap_ge _ _ _ _)).mono ?_
      rintro e w5 ⟨⟨A5, cp5, rfl, hr5, hc5, ha5⟩, hb5⟩
      have H5 := Lib.hid (HX.out.below hb5)
      have H55 := Lib.hid (And.intro hr5 (And.intro hc5 ha5))
      clear hb5 hr5 hc5 ha5
      clear z0 z1 z2 z3 z4 z5 n0 n1 n2 n3 n4 n5 k0 k1 k2 k3 k4 k5 zf0 zf1 zf2 zf3 zf4 zf5 kf0 kf1 kf2 kf3 kf4 kf5
      have hzz := H5.out.size
      have z0 := blk_cell H5.out.z 0
      have z1 := blk_cell H5.out.z 1
      have z2 := blk_cell H5.out.z 2
      have z3 := blk_cell H5.out.z 3
      have z4 := blk_cell H5.out.z 4
      have z5 := blk_cell H5.out.z 5
      have zf0 := blk_frozen H5.out.z 0
      have zf1 := blk_frozen H5.out.z 1
      have zf2 := blk_frozen H5.out.z 2
      have zf3 := blk_frozen H5.out.z 3
      have zf4 := blk_frozen H5.out.z 4
      have zf5 := blk_frozen H5.out.z 5
      simp at z0 z1 z2 z3 z4 z5
      have n0 := blk_cell H5.out.n 0
      have n1 := blk_cell H5.out.n 1
      have n2 := blk_cell H5.out.n 2
      have n3 := blk_cell H5.out.n 3
      have n4 := blk_cell H5.out.n 4
      have n5 := blk_cell H5.out.n 5
      simp at n0 n1 n2 n3 n4 n5
      have k0 := blk_cell H5.out.c 0
      have k1 := blk_cell H5.out.c 1
      have k2 := blk_cell H5.out.c 2
      have k3 := blk_cell H5.out.c 3
      have k4 := blk_cell H5.out.c 4
      have k5 := blk_cell H5.out.c 5
      have kf0 := blk_frozen H5.out.c 0
      have kf1 := blk_frozen H5.out.c 1
      have kf2 := blk_frozen H5.out.c 2
      have kf3 := blk_frozen H5.out.c 3
      have kf4 := blk_frozen H5.out.c 4
      have kf5 := blk_frozen H5.out.c 5
      simp at k0 k1 k2 k3 k4 k5
      rw [HEQ.out] at H55 ⊢
      generalize getT 6 id (restR 6 L2) = r5 at *
      go_wp2_with fail
      refine bodyPost_ret (results_ctt rfl _ _ w.heap.size 26 (cmdC r5.1 r5.2.1 r5.2.2.1 r5.2.2.2.1 r5.2.2.2.2.1 (.slice A5 r5.2.2.2.2.2.1.length cp5)) (0, 0) _ rfl (put6_blk H5.out.z r5.1 r5.2.1 r5.2.2.1 r5.2.2.2.1 r5.2.2.2.2.1 (.slice A5 r5.2.2.2.2.2.1.length cp5)) Tryd.underlying26 rfl (by kernel_rfl)) rfl (HP.out _ _ ?_)
      refine ⟨⟨A5, cp5, rfl, ?_, H55.out.2.1⟩, put6_below H5.out.bel (Nat.le_refl _) r5.1 r5.2.1 r5.2.2.1 r5.2.2.2.1 r5.2.2.2.2.1 (.slice A5 r5.2.2.2.2.2.1.length cp5)⟩
      refine H55.out.1.keep (g := w.heap.size) (((((((KeepBut.refl w5 w.heap.size none).set_ 0 _).set_ 1 _).set_ 2 _).set_ 3 _).set_ 4 _).set_ 5 _) ?_
      intro ad h0 hp0
      rcases H55.out.2.2 with h1 | h1
      · rw [h1] at h0; cases h0
      · rw [h1] at h0; cases h0; show W3.heap.size ≠ w.heap.size; omega
    · have hl1 : decide (8 ≤ L2.length) = false := by rw [decide_eq_false_iff_not]; exact hL
      have hl2 : decide ((8 : Int) ≤ (L2.length : Int)) = false := by rw [decide_eq_false_iff_not]; omega
      have hrr : restR 6 L2 = none := by unfold restR; rw [if_neg (by decide), if_neg (by decide), if_neg (by decide), if_pos (by decide), if_pos (by omega)]
      have HEQ := Lib.hid ((getT_none 6 id 6 id ⟨#[]⟩ 0 0 [] (cmdOk 6 ⟨#[]⟩ 0 0 [])).trans (by rw [hrr] : _ = getT 6 id (restR 6 L2)))
      have HX := H2
      clear hL hrr
      go_wp2_with fail
      refine (others_calls _ 6 id ⟨#[]⟩ 0 0 [] none 0 s false (by decide) (by decide) (by decide) (ReadsInt.nil _ _) (Nat.le_refl _)).mono ?_
      rintro e w5 ⟨⟨A5, cp5, rfl, hr5, hc5, ha5⟩, hb5⟩
      have H5 := Lib.hid (HX.out.below hb5)
      have H55 := Lib.hid (And.intro hr5 (And.intro hc5 ha5))
      clear hb5 hr5 hc5 ha5
      clear z0 z1 z2 z3 z4 z5 n0 n1 n2 n3 n4 n5 k0 k1 k2 k3 k4 k5 zf0 zf1 zf2 zf3 zf4 zf5 kf0 kf1 kf2 kf3 kf4 kf5
      have hzz := H5.out.size
      have z0 := blk_cell H5.out.z 0
      have z1 := blk_cell H5.out.z 1
      have z2 := blk_cell H5.out.z 2
      have z3 := blk_cell H5.out.z 3
      have z4 := blk_cell H5.out.z 4
      have z5 := blk_cell H5.out.z 5
      have zf0 := blk_frozen H5.out.z 0
      have zf1 := blk_frozen H5.out.z 1
      have zf2 := blk_frozen H5.out.z 2
      have zf3 := blk_frozen H5.out.z 3
      have zf4 := blk_frozen H5.out.z 4
      have zf5 := blk_frozen H5.out.z 5
      simp at z0 z1 z2 z3 z4 z5
      have n0 := blk_cell H5.out.n 0
      have n1 := blk_cell H5.out.n 1
      have n2 := blk_cell H5.out.n 2
      have n3 := blk_cell H5.out.n 3
      have n4 := blk_cell H5.out.n 4
      have n5 := blk_cell H5.out.n 5
      simp at n0 n1 n2 n3 n4 n5
      have k0 := blk_cell H5.out.c 0
      have k1 := blk_cell H5.out.c 1
      have k2 := blk_cell H5.out.c 2
      have k3 := blk_cell H5.out.c 3
      have k4 := blk_cell H5.out.c 4
      have k5 := blk_cell H5.out.c 5
      have kf0 := blk_frozen H5.out.c 0
      have kf1 := blk_frozen H5.out.c 1
      have kf2 := blk_frozen H5.out.c 2
      have kf3 := blk_frozen H5.out.c 3
      have kf4 := blk_frozen H5.out.c 4
      have kf5 := blk_frozen H5.out.c 5
      simp at k0 k1 k2 k3 k4 k5
      rw [HEQ.out] at H55 ⊢
      generalize getT 6 id (restR 6 L2) = r5 at *
      go_wp2_with fail
      refine bodyPost_ret (results_ctt rfl _ _ w.heap.size 26 (cmdC r5.1 r5.2.1 r5.2.2.1 r5.2.2.2.1 r5.2.2.2.2.1 (.slice A5 r5.2.2.2.2.2.1.length cp5)) (0, 0) _ rfl (put6_blk H5.out.z r5.1 r5.2.1 r5.2.2.1 r5.2.2.2.1 r5.2.2.2.2.1 (.slice A5 r5.2.2.2.2.2.1.length cp5)) Tryd.underlying26 rfl (by kernel_rfl)) rfl (HP.out _ _ ?_)
      refine ⟨⟨A5, cp5, rfl, ?_, H55.out.2.1⟩, put6_below H5.out.bel (Nat.le_refl _) r5.1 r5.2.1 r5.2.2.1 r5.2.2.2.1 r5.2.2.2.2.1 (.slice A5 r5.2.2.2.2.2.1.length cp5)⟩
      refine H55.out.1.keep (g := w.heap.size) (((((((KeepBut.refl w5 w.heap.size none).set_ 0 _).set_ 1 _).set_ 2 _).set_ 3 _).set_ 4 _).set_ 5 _) ?_
      intro ad h0 hp0
      rcases H55.out.2.2 with h1 | h1
      · rw [h1] at h0; cases h0
      · rw [h1] at h0; cases h0
end Go.Proofs.YtkgedjaihimafaaDoor

/- The reference's Get, walked: kind 3, refused. -/
namespace Go.Proofs.YtkgedjaihimafaaDoor
set_option linter.unusedVariables false
set_option linter.unusedSimpArgs false
open Go.RowKit Go.Proofs.YtkgedjaihimafaaDoorW.PrintWords Go.Proofs.YtkgedjaihimafaaDoor.QCmd Go.Proofs.YtkgedjaihimafaaDoor.Given Go.Proofs.YtkgedjaihimafaaDoor.QCmdG

set_option maxHeartbeats 4000000 in
set_option maxRecDepth 100000 in
theorem ref_three_empty (w : World) (l : List Int) (id : Int) (s s1 b : ByteArray) (L2 : List Int) (h5 : ¬ l.length < 5) (hS : SHead l 3 id s s1 b L2) (hl : l.length ≤ 100000) (hL : L2.length = 0) :
    Calls Tryd.prog 15 #[.string s] w (RefPost w (getT 3 id (restR 3 L2))) := by
  refine of_post0 fun R hRR => ?_
  have HP := Lib.hid hRR
  have HV := Lib.hid hS.v
  have hi0 := hS.i0
  have hc1 := hS.c1
  have hc5 := hS.c5
  have hsz := hS.sz
  have HSB := Lib.hid (And.intro hS.bs (And.intro hS.by2 hS.l2))
  have c1 : decide ((s.size : Int) < 5) = false := by rw [decide_eq_false_iff_not]; omega
  have c2 : decide (s.size < 5) = false := by rw [decide_eq_false_iff_not]; omega
  have HSZ := Lib.hid hsz
  clear hRR hS hsz h5
  have hb0 : b = ⟨#[]⟩ := by rw [HSB.out.1, List.eq_nil_of_length_eq_zero hL]; rfl
  have HEQ := Lib.hid (show getT 3 id (restR 3 L2) = noneR by
    have hr : restR 3 L2 = none := by unfold restR; simp [hL]
    rw [hr]
    rfl)
  subst hb0
  clear hL
  go_enter Tryd.func15, Tryd.ntmps15
  go_wp2_with fail
  go_region_held3 (fun w' => True) (trivial) ((go_at_call 39; refine (HV.out _).mono ?_; rintro e w1 ⟨rfl, n, rfl⟩))
  all_goals
    rename_i K hK hHeld
    clear hHeld
    refine hK _ _ ?_
    clear hK K
    have hH : ∃ W2, RHead w W2 3 id ⟨#[]⟩ 0 0 (.slice none 0 0) ∧ (rone w (1 + n) 3 id = W2 ∨ rsix w (1 + n) 3 id = W2) := ⟨_, rhead1 w (1 + n) 3 id, .inl rfl⟩
    clear hH
    first
    | (rw [show (((w.alloc zO).alloc zO).drewN (1 + n)).alloc (cO 3 id) = rone w (1 + n) 3 id from rfl]
       have hH := rhead1 w (1 + n) 3 id
       rw [show (((w.alloc zO).alloc zO).drewN (1 + n)).alloc (cO 3 id) = rone w (1 + n) 3 id from rfl] at hH
       generalize rone w (1 + n) 3 id = W2 at hH ⊢)
    | (rw [show (((((((((w.alloc zO).alloc zO).alloc zO).drewN (1 + n)).setCell ⟨w.heap.size + 1 + 1, 0, none⟩ (.int .u8 3)).setCell ⟨w.heap.size + 1 + 1, 1, none⟩ (.int .u32 id)).setCell ⟨w.heap.size + 1 + 1, 2, none⟩ (.string ⟨#[]⟩)).setCell ⟨w.heap.size + 1 + 1, 3, none⟩ (.int .u64 0)).setCell ⟨w.heap.size + 1 + 1, 4, none⟩ (.int .u8 0)).setCell ⟨w.heap.size + 1 + 1, 5, none⟩ (.slice none 0 0) = rsix w (1 + n) 3 id from rfl]
       have hH := rhead2 w (1 + n) 3 id
       generalize rsix w (1 + n) 3 id = W2 at hH ⊢)
    have H2 := Lib.hid hH
    clear hH
    have hzz := H2.out.size
    have z0 := blk_cell H2.out.z 0
    have z1 := blk_cell H2.out.z 1
    have z2 := blk_cell H2.out.z 2
    have z3 := blk_cell H2.out.z 3
    have z4 := blk_cell H2.out.z 4
    have z5 := blk_cell H2.out.z 5
    have zf0 := blk_frozen H2.out.z 0
    have zf1 := blk_frozen H2.out.z 1
    have zf2 := blk_frozen H2.out.z 2
    have zf3 := blk_frozen H2.out.z 3
    have zf4 := blk_frozen H2.out.z 4
    have zf5 := blk_frozen H2.out.z 5
    simp at z0 z1 z2 z3 z4 z5
    have n0 := blk_cell H2.out.n 0
    have n1 := blk_cell H2.out.n 1
    have n2 := blk_cell H2.out.n 2
    have n3 := blk_cell H2.out.n 3
    have n4 := blk_cell H2.out.n 4
    have n5 := blk_cell H2.out.n 5
    simp at n0 n1 n2 n3 n4 n5
    have k0 := blk_cell H2.out.c 0
    have k1 := blk_cell H2.out.c 1
    have k2 := blk_cell H2.out.c 2
    have k3 := blk_cell H2.out.c 3
    have k4 := blk_cell H2.out.c 4
    have k5 := blk_cell H2.out.c 5
    have kf0 := blk_frozen H2.out.c 0
    have kf1 := blk_frozen H2.out.c 1
    have kf2 := blk_frozen H2.out.c 2
    have kf3 := blk_frozen H2.out.c 3
    have kf4 := blk_frozen H2.out.c 4
    have kf5 := blk_frozen H2.out.c 5
    simp at k0 k1 k2 k3 k4 k5
    go_wp2_with fail
    refine bodyPost_ret (results_ctt rfl _ _ w.heap.size 26 (cmdC 0 0 ⟨#[]⟩ 0 0 (.slice none 0 0)) (0, 0) _ rfl (put6_blk H2.out.z 0 0 ⟨#[]⟩ 0 0 (.slice none 0 0)) Tryd.underlying26 rfl (by kernel_rfl)) rfl (HP.out _ _ ?_)
    rw [HEQ.out]
    exact ⟨⟨none, 0, rfl, ReadsInt.nil _ _, Nat.le_refl _⟩, put6_below H2.out.bel (Nat.le_refl _) 0 0 ⟨#[]⟩ 0 0 (.slice none 0 0)⟩

set_option maxHeartbeats 4000000 in
set_option maxRecDepth 100000 in
theorem ref_three_over (w : World) (l : List Int) (id : Int) (s s1 b : ByteArray) (L2 : List Int) (h5 : ¬ l.length < 5) (hS : SHead l 3 id s s1 b L2) (hl : l.length ≤ 100000) (hL : ¬ L2.length = 0) (hX : (L2.length : Int) - 1 < L2.getD 0 0) :
    Calls Tryd.prog 15 #[.string s] w (RefPost w (getT 3 id (restR 3 L2))) := by
  refine of_post0 fun R hRR => ?_
  have HP := Lib.hid hRR
  have HV := Lib.hid hS.v
  have hi0 := hS.i0
  have hc1 := hS.c1
  have hc5 := hS.c5
  have hsz := hS.sz
  have HSB := Lib.hid (And.intro hS.bs (And.intro hS.by2 hS.l2))
  have c1 : decide ((s.size : Int) < 5) = false := by rw [decide_eq_false_iff_not]; omega
  have c2 : decide (s.size < 5) = false := by rw [decide_eq_false_iff_not]; omega
  have HSZ := Lib.hid hsz
  clear hRR hS hsz h5
  have hbz : b.size = L2.length := by rw [HSB.out.1]; exact str_size L2
  have hbE : b.toList.isEmpty = false := by
    rw [HSB.out.1, str_list]
    cases hq : L2 with
    | nil => exact absurd (by rw [hq]; rfl) hL
    | cons x y => rfl
  have hx := HSB.out.2.1 _ (getD0_mem (l := L2) (by omega))
  have hib : ∀ W, (Instr.index 9 (.string b) (.int .i64 0)).run Tryd.prog W = .ok (.int .u8 (L2.getD 0 0)) W := fun W => by
    rw [HSB.out.1]
    exact run_index_str HSB.out.2.1 0 (by decide) (by omega) W
  obtain ⟨x, hxx⟩ : ∃ x, L2.getD 0 0 = x := ⟨_, rfl⟩
  rw [hxx] at hx hib hX
  have hb9 : L2.length ≤ 100000 := by have := HSB.out.2.2; omega
  have hd1 : decide ((L2.length : Int) - 1 < x) = true := by rw [decide_eq_true_iff]; exact hX
  have HEQ := Lib.hid (show getT 3 id (restR 3 L2) = noneR by
    have hr : restR 3 L2 = none := by
      unfold restR
      rw [if_neg (by decide), if_neg (by decide), if_pos rfl, if_pos (by rw [hxx]; exact Or.inr hX)]
    rw [hr]
    rfl)
  clear hL hxx hX
  go_enter Tryd.func15, Tryd.ntmps15
  go_wp2_with fail
  go_region_held3 (fun w' => True) (trivial) ((go_at_call 39; refine (HV.out _).mono ?_; rintro e w1 ⟨rfl, n, rfl⟩))
  all_goals
    rename_i K hK hHeld
    clear hHeld
    refine hK _ _ ?_
    clear hK K
    have hH : ∃ W2, RHead w W2 3 id ⟨#[]⟩ 0 0 (.slice none 0 0) ∧ (rone w (1 + n) 3 id = W2 ∨ rsix w (1 + n) 3 id = W2) := ⟨_, rhead1 w (1 + n) 3 id, .inl rfl⟩
    clear hH
    first
    | (rw [show (((w.alloc zO).alloc zO).drewN (1 + n)).alloc (cO 3 id) = rone w (1 + n) 3 id from rfl]
       have hH := rhead1 w (1 + n) 3 id
       rw [show (((w.alloc zO).alloc zO).drewN (1 + n)).alloc (cO 3 id) = rone w (1 + n) 3 id from rfl] at hH
       generalize rone w (1 + n) 3 id = W2 at hH ⊢)
    | (rw [show (((((((((w.alloc zO).alloc zO).alloc zO).drewN (1 + n)).setCell ⟨w.heap.size + 1 + 1, 0, none⟩ (.int .u8 3)).setCell ⟨w.heap.size + 1 + 1, 1, none⟩ (.int .u32 id)).setCell ⟨w.heap.size + 1 + 1, 2, none⟩ (.string ⟨#[]⟩)).setCell ⟨w.heap.size + 1 + 1, 3, none⟩ (.int .u64 0)).setCell ⟨w.heap.size + 1 + 1, 4, none⟩ (.int .u8 0)).setCell ⟨w.heap.size + 1 + 1, 5, none⟩ (.slice none 0 0) = rsix w (1 + n) 3 id from rfl]
       have hH := rhead2 w (1 + n) 3 id
       generalize rsix w (1 + n) 3 id = W2 at hH ⊢)
    have H2 := Lib.hid hH
    clear hH
    have hzz := H2.out.size
    have z0 := blk_cell H2.out.z 0
    have z1 := blk_cell H2.out.z 1
    have z2 := blk_cell H2.out.z 2
    have z3 := blk_cell H2.out.z 3
    have z4 := blk_cell H2.out.z 4
    have z5 := blk_cell H2.out.z 5
    have zf0 := blk_frozen H2.out.z 0
    have zf1 := blk_frozen H2.out.z 1
    have zf2 := blk_frozen H2.out.z 2
    have zf3 := blk_frozen H2.out.z 3
    have zf4 := blk_frozen H2.out.z 4
    have zf5 := blk_frozen H2.out.z 5
    simp at z0 z1 z2 z3 z4 z5
    have n0 := blk_cell H2.out.n 0
    have n1 := blk_cell H2.out.n 1
    have n2 := blk_cell H2.out.n 2
    have n3 := blk_cell H2.out.n 3
    have n4 := blk_cell H2.out.n 4
    have n5 := blk_cell H2.out.n 5
    simp at n0 n1 n2 n3 n4 n5
    have k0 := blk_cell H2.out.c 0
    have k1 := blk_cell H2.out.c 1
    have k2 := blk_cell H2.out.c 2
    have k3 := blk_cell H2.out.c 3
    have k4 := blk_cell H2.out.c 4
    have k5 := blk_cell H2.out.c 5
    have kf0 := blk_frozen H2.out.c 0
    have kf1 := blk_frozen H2.out.c 1
    have kf2 := blk_frozen H2.out.c 2
    have kf3 := blk_frozen H2.out.c 3
    have kf4 := blk_frozen H2.out.c 4
    have kf5 := blk_frozen H2.out.c 5
    simp at k0 k1 k2 k3 k4 k5
    go_wp2_with fail
    refine bodyPost_ret (results_ctt rfl _ _ w.heap.size 26 (cmdC 0 0 ⟨#[]⟩ 0 0 (.slice none 0 0)) (0, 0) _ rfl (put6_blk H2.out.z 0 0 ⟨#[]⟩ 0 0 (.slice none 0 0)) Tryd.underlying26 rfl (by kernel_rfl)) rfl (HP.out _ _ ?_)
    rw [HEQ.out]
    exact ⟨⟨none, 0, rfl, ReadsInt.nil _ _, Nat.le_refl _⟩, put6_below H2.out.bel (Nat.le_refl _) 0 0 ⟨#[]⟩ 0 0 (.slice none 0 0)⟩

set_option maxHeartbeats 4000000 in
set_option maxRecDepth 100000 in
theorem ref_three_bad (w : World) (l : List Int) (id : Int) (s s1 b : ByteArray) (L2 : List Int) (h5 : ¬ l.length < 5) (hS : SHead l 3 id s s1 b L2) (hl : l.length ≤ 100000) (hL : ¬ L2.length = 0) (hX : ¬ (L2.length : Int) - 1 < L2.getD 0 0) (nm : ByteArray) (pay : List Int) (hnm : nm = strOfNums ((L2.take (L2.getD 0 0 + 1).toNat).drop 1)) (hpay : pay = L2.drop (L2.getD 0 0 + 1).toNat) (hok : topicOk nm = false) :
    Calls Tryd.prog 15 #[.string s] w (RefPost w (getT 3 id (restR 3 L2))) := by
  refine of_post0 fun R hRR => ?_
  have HP := Lib.hid hRR
  have HV := Lib.hid hS.v
  have hi0 := hS.i0
  have hc1 := hS.c1
  have hc5 := hS.c5
  have hsz := hS.sz
  have HSB := Lib.hid (And.intro hS.bs (And.intro hS.by2 hS.l2))
  have c1 : decide ((s.size : Int) < 5) = false := by rw [decide_eq_false_iff_not]; omega
  have c2 : decide (s.size < 5) = false := by rw [decide_eq_false_iff_not]; omega
  have HSZ := Lib.hid hsz
  clear hRR hS hsz h5
  have hbz : b.size = L2.length := by rw [HSB.out.1]; exact str_size L2
  have hbE : b.toList.isEmpty = false := by
    rw [HSB.out.1, str_list]
    cases hq : L2 with
    | nil => exact absurd (by rw [hq]; rfl) hL
    | cons x y => rfl
  have hx := HSB.out.2.1 _ (getD0_mem (l := L2) (by omega))
  have hib : ∀ W, (Instr.index 9 (.string b) (.int .i64 0)).run Tryd.prog W = .ok (.int .u8 (L2.getD 0 0)) W := fun W => by
    rw [HSB.out.1]
    exact run_index_str HSB.out.2.1 0 (by decide) (by omega) W
  obtain ⟨x, hxx⟩ : ∃ x, L2.getD 0 0 = x := ⟨_, rfl⟩
  rw [hxx] at hx hib hX
  have hb9 : L2.length ≤ 100000 := by have := HSB.out.2.2; omega
  have hd1 : decide ((L2.length : Int) - 1 < x) = false := by rw [decide_eq_false_iff_not]; exact hX
  have hcn : ∀ W, (Instr.slice 9 (.string b) (some (.int .i64 1)) (some (.int .i64 (1 + x))) none).run Tryd.prog W = .ok (.string (strOfNums ((L2.take (x + 1).toNat).drop 1))) W := fun W => by
    rw [HSB.out.1, Int.add_comm 1 x]
    exact run_cut_str L2 1 (x + 1) (by decide) (by omega) (by omega) W
  have hcd : ∀ W, (Instr.slice 9 (.string b) (some (.int .i64 (1 + x))) none none).run Tryd.prog W = .ok (.string (strOfNums (L2.drop (x + 1).toNat))) W := fun W => by
    rw [HSB.out.1, Int.add_comm 1 x]
    exact run_from_str L2 (x + 1) (by omega) (by omega) W
  have hrr : restR 3 L2 = some (nm, 0, 0, pay) := by
    unfold restR
    rw [if_neg (by decide), if_neg (by decide), if_pos rfl, if_neg (by rw [hxx]; exact fun h => h.elim hL hX), hxx, hnm, hpay, hxx]
  rw [hxx] at hnm hpay
  have hpl : pay.length ≤ 100000 := by rw [hpay, List.length_drop]; omega
  have hpb : Byte8 pay := fun y hy => HSB.out.2.1 y (List.mem_of_mem_drop (hpay ▸ hy))
  have hnl : nm.size ≤ 1000000000 := by rw [hnm, str_size, List.length_drop, List.length_take]; omega
  rw [← hnm] at hcn
  rw [← hpay] at hcd
  have hds : (strOfNums pay).size = pay.length := str_size pay
  have HPB := Lib.hid (And.intro hpl (And.intro hpb hnl))
  have hkb : ∀ W, (convert 9 24 (.string (strOfNums pay))).run Tryd.prog W = .ok (.slice (some ⟨W.heap.size, 0, none⟩) pay.length (grownCap W pay.length 0 5)) (Lib.bytesWorld W 5 (strOfNums pay)) := fun W => by
    have := print_bytes (P := Tryd.prog) 9 24 5 Tryd.underlying9 Tryd.underlying24 Tryd.underlying5 (strOfNums pay) W
    rw [str_size] at this
    exact this
  obtain ⟨dt, hdt⟩ : ∃ dt, strOfNums pay = dt := ⟨_, rfl⟩
  have HDT := Lib.hid hdt
  rw [hdt] at hds hkb hcd
  have HRR := Lib.hid hrr
  clear hL hxx hX hpb hnl hdt hrr hnm hpay
  have HEQ := Lib.hid (show getT 3 id (restR 3 L2) = (3, id, ⟨#[]⟩, 0, 0, [], 1, false) by rw [HRR.out]; exact getT_bad (.inr rfl) hok)
  have HOK := Lib.hid hok
  clear hok
  go_enter Tryd.func15, Tryd.ntmps15
  go_wp2_with fail
  go_region_held3 (fun w' => True) (trivial) ((go_at_call 39; refine (HV.out _).mono ?_; rintro e w1 ⟨rfl, n, rfl⟩))
  all_goals
    rename_i K hK hHeld
    clear hHeld
    refine hK _ _ ?_
    clear hK K
    have hH : ∃ W2, RHead w W2 3 id ⟨#[]⟩ 0 0 (.slice none 0 0) ∧ (rone w (1 + n) 3 id = W2 ∨ rsix w (1 + n) 3 id = W2) := ⟨_, rhead1 w (1 + n) 3 id, .inl rfl⟩
    clear hH
    first
    | (rw [show (((w.alloc zO).alloc zO).drewN (1 + n)).alloc (cO 3 id) = rone w (1 + n) 3 id from rfl]
       have hH := rhead1 w (1 + n) 3 id
       rw [show (((w.alloc zO).alloc zO).drewN (1 + n)).alloc (cO 3 id) = rone w (1 + n) 3 id from rfl] at hH
       generalize rone w (1 + n) 3 id = W2 at hH ⊢)
    | (rw [show (((((((((w.alloc zO).alloc zO).alloc zO).drewN (1 + n)).setCell ⟨w.heap.size + 1 + 1, 0, none⟩ (.int .u8 3)).setCell ⟨w.heap.size + 1 + 1, 1, none⟩ (.int .u32 id)).setCell ⟨w.heap.size + 1 + 1, 2, none⟩ (.string ⟨#[]⟩)).setCell ⟨w.heap.size + 1 + 1, 3, none⟩ (.int .u64 0)).setCell ⟨w.heap.size + 1 + 1, 4, none⟩ (.int .u8 0)).setCell ⟨w.heap.size + 1 + 1, 5, none⟩ (.slice none 0 0) = rsix w (1 + n) 3 id from rfl]
       have hH := rhead2 w (1 + n) 3 id
       generalize rsix w (1 + n) 3 id = W2 at hH ⊢)
    have H2 := Lib.hid hH
    clear hH
    have hzz := H2.out.size
    have z0 := blk_cell H2.out.z 0
    have z1 := blk_cell H2.out.z 1
    have z2 := blk_cell H2.out.z 2
    have z3 := blk_cell H2.out.z 3
    have z4 := blk_cell H2.out.z 4
    have z5 := blk_cell H2.out.z 5
    have zf0 := blk_frozen H2.out.z 0
    have zf1 := blk_frozen H2.out.z 1
    have zf2 := blk_frozen H2.out.z 2
    have zf3 := blk_frozen H2.out.z 3
    have zf4 := blk_frozen H2.out.z 4
    have zf5 := blk_frozen H2.out.z 5
    simp at z0 z1 z2 z3 z4 z5
    have n0 := blk_cell H2.out.n 0
    have n1 := blk_cell H2.out.n 1
    have n2 := blk_cell H2.out.n 2
    have n3 := blk_cell H2.out.n 3
    have n4 := blk_cell H2.out.n 4
    have n5 := blk_cell H2.out.n 5
    simp at n0 n1 n2 n3 n4 n5
    have k0 := blk_cell H2.out.c 0
    have k1 := blk_cell H2.out.c 1
    have k2 := blk_cell H2.out.c 2
    have k3 := blk_cell H2.out.c 3
    have k4 := blk_cell H2.out.c 4
    have k5 := blk_cell H2.out.c 5
    have kf0 := blk_frozen H2.out.c 0
    have kf1 := blk_frozen H2.out.c 1
    have kf2 := blk_frozen H2.out.c 2
    have kf3 := blk_frozen H2.out.c 3
    have kf4 := blk_frozen H2.out.c 4
    have kf5 := blk_frozen H2.out.c 5
    simp at k0 k1 k2 k3 k4 k5
    go_wp2_with fail
    refine (rmay21_calls _ nm HPB.out.2.2).mono ?_
    rintro e w5 ⟨rfl, hb5⟩
    rw [HOK.out]
    have H5 := Lib.hid (H2.out.below hb5)
    clear hb5
    clear z0 z1 z2 z3 z4 z5 n0 n1 n2 n3 n4 n5 k0 k1 k2 k3 k4 k5 zf0 zf1 zf2 zf3 zf4 zf5 kf0 kf1 kf2 kf3 kf4 kf5
    have hzz := H5.out.size
    have z0 := blk_cell H5.out.z 0
    have z1 := blk_cell H5.out.z 1
    have z2 := blk_cell H5.out.z 2
    have z3 := blk_cell H5.out.z 3
    have z4 := blk_cell H5.out.z 4
    have z5 := blk_cell H5.out.z 5
    have zf0 := blk_frozen H5.out.z 0
    have zf1 := blk_frozen H5.out.z 1
    have zf2 := blk_frozen H5.out.z 2
    have zf3 := blk_frozen H5.out.z 3
    have zf4 := blk_frozen H5.out.z 4
    have zf5 := blk_frozen H5.out.z 5
    simp at z0 z1 z2 z3 z4 z5
    have n0 := blk_cell H5.out.n 0
    have n1 := blk_cell H5.out.n 1
    have n2 := blk_cell H5.out.n 2
    have n3 := blk_cell H5.out.n 3
    have n4 := blk_cell H5.out.n 4
    have n5 := blk_cell H5.out.n 5
    simp at n0 n1 n2 n3 n4 n5
    have k0 := blk_cell H5.out.c 0
    have k1 := blk_cell H5.out.c 1
    have k2 := blk_cell H5.out.c 2
    have k3 := blk_cell H5.out.c 3
    have k4 := blk_cell H5.out.c 4
    have k5 := blk_cell H5.out.c 5
    have kf0 := blk_frozen H5.out.c 0
    have kf1 := blk_frozen H5.out.c 1
    have kf2 := blk_frozen H5.out.c 2
    have kf3 := blk_frozen H5.out.c 3
    have kf4 := blk_frozen H5.out.c 4
    have kf5 := blk_frozen H5.out.c 5
    simp at k0 k1 k2 k3 k4 k5
    go_wp2_with fail
    refine bodyPost_ret (results_ctt rfl _ _ w.heap.size 26 (cmdC 3 id ⟨#[]⟩ 0 0 (.slice none 0 0)) (0, 0) _ rfl (put6_blk H5.out.z 3 id ⟨#[]⟩ 0 0 (.slice none 0 0)) Tryd.underlying26 rfl (by kernel_rfl)) rfl (HP.out _ _ ?_)
    rw [HEQ.out]
    exact ⟨⟨none, 0, rfl, ReadsInt.nil _ _, Nat.le_refl _⟩, put6_below H5.out.bel (Nat.le_refl _) 3 id ⟨#[]⟩ 0 0 (.slice none 0 0)⟩

set_option maxHeartbeats 4000000 in
set_option maxRecDepth 100000 in
theorem ref_three_great (w : World) (l : List Int) (id : Int) (s s1 b : ByteArray) (L2 : List Int) (h5 : ¬ l.length < 5) (hS : SHead l 3 id s s1 b L2) (hl : l.length ≤ 100000) (hL : ¬ L2.length = 0) (hX : ¬ (L2.length : Int) - 1 < L2.getD 0 0) (nm : ByteArray) (pay : List Int) (hnm : nm = strOfNums ((L2.take (L2.getD 0 0 + 1).toNat).drop 1)) (hpay : pay = L2.drop (L2.getD 0 0 + 1).toNat) (hok : topicOk nm = true) (hg : 2048 < pay.length) :
    Calls Tryd.prog 15 #[.string s] w (RefPost w (getT 3 id (restR 3 L2))) := by
  refine of_post0 fun R hRR => ?_
  have HP := Lib.hid hRR
  have HV := Lib.hid hS.v
  have hi0 := hS.i0
  have hc1 := hS.c1
  have hc5 := hS.c5
  have hsz := hS.sz
  have HSB := Lib.hid (And.intro hS.bs (And.intro hS.by2 hS.l2))
  have c1 : decide ((s.size : Int) < 5) = false := by rw [decide_eq_false_iff_not]; omega
  have c2 : decide (s.size < 5) = false := by rw [decide_eq_false_iff_not]; omega
  have HSZ := Lib.hid hsz
  clear hRR hS hsz h5
  have hbz : b.size = L2.length := by rw [HSB.out.1]; exact str_size L2
  have hbE : b.toList.isEmpty = false := by
    rw [HSB.out.1, str_list]
    cases hq : L2 with
    | nil => exact absurd (by rw [hq]; rfl) hL
    | cons x y => rfl
  have hx := HSB.out.2.1 _ (getD0_mem (l := L2) (by omega))
  have hib : ∀ W, (Instr.index 9 (.string b) (.int .i64 0)).run Tryd.prog W = .ok (.int .u8 (L2.getD 0 0)) W := fun W => by
    rw [HSB.out.1]
    exact run_index_str HSB.out.2.1 0 (by decide) (by omega) W
  obtain ⟨x, hxx⟩ : ∃ x, L2.getD 0 0 = x := ⟨_, rfl⟩
  rw [hxx] at hx hib hX
  have hb9 : L2.length ≤ 100000 := by have := HSB.out.2.2; omega
  have hd1 : decide ((L2.length : Int) - 1 < x) = false := by rw [decide_eq_false_iff_not]; exact hX
  have hcn : ∀ W, (Instr.slice 9 (.string b) (some (.int .i64 1)) (some (.int .i64 (1 + x))) none).run Tryd.prog W = .ok (.string (strOfNums ((L2.take (x + 1).toNat).drop 1))) W := fun W => by
    rw [HSB.out.1, Int.add_comm 1 x]
    exact run_cut_str L2 1 (x + 1) (by decide) (by omega) (by omega) W
  have hcd : ∀ W, (Instr.slice 9 (.string b) (some (.int .i64 (1 + x))) none none).run Tryd.prog W = .ok (.string (strOfNums (L2.drop (x + 1).toNat))) W := fun W => by
    rw [HSB.out.1, Int.add_comm 1 x]
    exact run_from_str L2 (x + 1) (by omega) (by omega) W
  have hrr : restR 3 L2 = some (nm, 0, 0, pay) := by
    unfold restR
    rw [if_neg (by decide), if_neg (by decide), if_pos rfl, if_neg (by rw [hxx]; exact fun h => h.elim hL hX), hxx, hnm, hpay, hxx]
  rw [hxx] at hnm hpay
  have hpl : pay.length ≤ 100000 := by rw [hpay, List.length_drop]; omega
  have hpb : Byte8 pay := fun y hy => HSB.out.2.1 y (List.mem_of_mem_drop (hpay ▸ hy))
  have hnl : nm.size ≤ 1000000000 := by rw [hnm, str_size, List.length_drop, List.length_take]; omega
  rw [← hnm] at hcn
  rw [← hpay] at hcd
  have hds : (strOfNums pay).size = pay.length := str_size pay
  have HPB := Lib.hid (And.intro hpl (And.intro hpb hnl))
  have hkb : ∀ W, (convert 9 24 (.string (strOfNums pay))).run Tryd.prog W = .ok (.slice (some ⟨W.heap.size, 0, none⟩) pay.length (grownCap W pay.length 0 5)) (Lib.bytesWorld W 5 (strOfNums pay)) := fun W => by
    have := print_bytes (P := Tryd.prog) 9 24 5 Tryd.underlying9 Tryd.underlying24 Tryd.underlying5 (strOfNums pay) W
    rw [str_size] at this
    exact this
  obtain ⟨dt, hdt⟩ : ∃ dt, strOfNums pay = dt := ⟨_, rfl⟩
  have HDT := Lib.hid hdt
  rw [hdt] at hds hkb hcd
  have HRR := Lib.hid hrr
  clear hL hxx hX hpb hnl hdt hrr hnm hpay
  have hg1 : decide (2048 < pay.length) = true := by rw [decide_eq_true_iff]; exact hg
  have hg2 : decide ((2048 : Int) < (pay.length : Int)) = true := by rw [decide_eq_true_iff]; omega
  have HEQ := Lib.hid (show getT 3 id (restR 3 L2) = (3, id, ⟨#[]⟩, 0, 0, [], 5, false) by rw [HRR.out]; exact getT_great hok hg)
  have HOK := Lib.hid hok
  clear hok hg
  go_enter Tryd.func15, Tryd.ntmps15
  go_wp2_with fail
  go_region_held3 (fun w' => True) (trivial) ((go_at_call 39; refine (HV.out _).mono ?_; rintro e w1 ⟨rfl, n, rfl⟩))
  all_goals
    rename_i K hK hHeld
    clear hHeld
    refine hK _ _ ?_
    clear hK K
    have hH : ∃ W2, RHead w W2 3 id ⟨#[]⟩ 0 0 (.slice none 0 0) ∧ (rone w (1 + n) 3 id = W2 ∨ rsix w (1 + n) 3 id = W2) := ⟨_, rhead1 w (1 + n) 3 id, .inl rfl⟩
    clear hH
    first
    | (rw [show (((w.alloc zO).alloc zO).drewN (1 + n)).alloc (cO 3 id) = rone w (1 + n) 3 id from rfl]
       have hH := rhead1 w (1 + n) 3 id
       rw [show (((w.alloc zO).alloc zO).drewN (1 + n)).alloc (cO 3 id) = rone w (1 + n) 3 id from rfl] at hH
       generalize rone w (1 + n) 3 id = W2 at hH ⊢)
    | (rw [show (((((((((w.alloc zO).alloc zO).alloc zO).drewN (1 + n)).setCell ⟨w.heap.size + 1 + 1, 0, none⟩ (.int .u8 3)).setCell ⟨w.heap.size + 1 + 1, 1, none⟩ (.int .u32 id)).setCell ⟨w.heap.size + 1 + 1, 2, none⟩ (.string ⟨#[]⟩)).setCell ⟨w.heap.size + 1 + 1, 3, none⟩ (.int .u64 0)).setCell ⟨w.heap.size + 1 + 1, 4, none⟩ (.int .u8 0)).setCell ⟨w.heap.size + 1 + 1, 5, none⟩ (.slice none 0 0) = rsix w (1 + n) 3 id from rfl]
       have hH := rhead2 w (1 + n) 3 id
       generalize rsix w (1 + n) 3 id = W2 at hH ⊢)
    have H2 := Lib.hid hH
    clear hH
    have hzz := H2.out.size
    have z0 := blk_cell H2.out.z 0
    have z1 := blk_cell H2.out.z 1
    have z2 := blk_cell H2.out.z 2
    have z3 := blk_cell H2.out.z 3
    have z4 := blk_cell H2.out.z 4
    have z5 := blk_cell H2.out.z 5
    have zf0 := blk_frozen H2.out.z 0
    have zf1 := blk_frozen H2.out.z 1
    have zf2 := blk_frozen H2.out.z 2
    have zf3 := blk_frozen H2.out.z 3
    have zf4 := blk_frozen H2.out.z 4
    have zf5 := blk_frozen H2.out.z 5
    simp at z0 z1 z2 z3 z4 z5
    have n0 := blk_cell H2.out.n 0
    have n1 := blk_cell H2.out.n 1
    have n2 := blk_cell H2.out.n 2
    have n3 := blk_cell H2.out.n 3
    have n4 := blk_cell H2.out.n 4
    have n5 := blk_cell H2.out.n 5
    simp at n0 n1 n2 n3 n4 n5
    have k0 := blk_cell H2.out.c 0
    have k1 := blk_cell H2.out.c 1
    have k2 := blk_cell H2.out.c 2
    have k3 := blk_cell H2.out.c 3
    have k4 := blk_cell H2.out.c 4
    have k5 := blk_cell H2.out.c 5
    have kf0 := blk_frozen H2.out.c 0
    have kf1 := blk_frozen H2.out.c 1
    have kf2 := blk_frozen H2.out.c 2
    have kf3 := blk_frozen H2.out.c 3
    have kf4 := blk_frozen H2.out.c 4
    have kf5 := blk_frozen H2.out.c 5
    simp at k0 k1 k2 k3 k4 k5
    go_wp2_with fail
    refine (rmay21_calls _ nm HPB.out.2.2).mono ?_
    rintro e w5 ⟨rfl, hb5⟩
    rw [HOK.out]
    have H5 := Lib.hid (H2.out.below hb5)
    clear hb5
    clear z0 z1 z2 z3 z4 z5 n0 n1 n2 n3 n4 n5 k0 k1 k2 k3 k4 k5 zf0 zf1 zf2 zf3 zf4 zf5 kf0 kf1 kf2 kf3 kf4 kf5
    have hzz := H5.out.size
    have z0 := blk_cell H5.out.z 0
    have z1 := blk_cell H5.out.z 1
    have z2 := blk_cell H5.out.z 2
    have z3 := blk_cell H5.out.z 3
    have z4 := blk_cell H5.out.z 4
    have z5 := blk_cell H5.out.z 5
    have zf0 := blk_frozen H5.out.z 0
    have zf1 := blk_frozen H5.out.z 1
    have zf2 := blk_frozen H5.out.z 2
    have zf3 := blk_frozen H5.out.z 3
    have zf4 := blk_frozen H5.out.z 4
    have zf5 := blk_frozen H5.out.z 5
    simp at z0 z1 z2 z3 z4 z5
    have n0 := blk_cell H5.out.n 0
    have n1 := blk_cell H5.out.n 1
    have n2 := blk_cell H5.out.n 2
    have n3 := blk_cell H5.out.n 3
    have n4 := blk_cell H5.out.n 4
    have n5 := blk_cell H5.out.n 5
    simp at n0 n1 n2 n3 n4 n5
    have k0 := blk_cell H5.out.c 0
    have k1 := blk_cell H5.out.c 1
    have k2 := blk_cell H5.out.c 2
    have k3 := blk_cell H5.out.c 3
    have k4 := blk_cell H5.out.c 4
    have k5 := blk_cell H5.out.c 5
    have kf0 := blk_frozen H5.out.c 0
    have kf1 := blk_frozen H5.out.c 1
    have kf2 := blk_frozen H5.out.c 2
    have kf3 := blk_frozen H5.out.c 3
    have kf4 := blk_frozen H5.out.c 4
    have kf5 := blk_frozen H5.out.c 5
    simp at k0 k1 k2 k3 k4 k5
    go_wp2_with fail
    refine bodyPost_ret (results_ctt rfl _ _ w.heap.size 26 (cmdC 3 id ⟨#[]⟩ 0 0 (.slice none 0 0)) (0, 0) _ rfl (put6_blk H5.out.z 3 id ⟨#[]⟩ 0 0 (.slice none 0 0)) Tryd.underlying26 rfl (by kernel_rfl)) rfl (HP.out _ _ ?_)
    rw [HEQ.out]
    exact ⟨⟨none, 0, rfl, ReadsInt.nil _ _, Nat.le_refl _⟩, put6_below H5.out.bel (Nat.le_refl _) 3 id ⟨#[]⟩ 0 0 (.slice none 0 0)⟩
end Go.Proofs.YtkgedjaihimafaaDoor

/- The reference's Get, walked: kind 3. -/
namespace Go.Proofs.YtkgedjaihimafaaDoor
set_option linter.unusedVariables false
set_option linter.unusedSimpArgs false
open Go.RowKit Go.Proofs.YtkgedjaihimafaaDoorW.PrintWords Go.Proofs.YtkgedjaihimafaaDoor.QCmd Go.Proofs.YtkgedjaihimafaaDoor.Given Go.Proofs.YtkgedjaihimafaaDoor.QCmdG

set_option maxHeartbeats 4000000 in
set_option maxRecDepth 100000 in
theorem ref_three_full (w : World) (l : List Int) (id : Int) (s s1 b : ByteArray) (L2 : List Int) (h5 : ¬ l.length < 5) (hS : SHead l 3 id s s1 b L2) (hl : l.length ≤ 100000) (hL : ¬ L2.length = 0) (hX : ¬ (L2.length : Int) - 1 < L2.getD 0 0) (nm : ByteArray) (pay : List Int) (hnm : nm = strOfNums ((L2.take (L2.getD 0 0 + 1).toNat).drop 1)) (hpay : pay = L2.drop (L2.getD 0 0 + 1).toNat) (hok : topicOk nm = true) (hg : ¬ 2048 < pay.length) :
    Calls Tryd.prog 15 #[.string s] w (RefPost w (getT 3 id (restR 3 L2))) := by
  refine of_post0 fun R hRR => ?_
  have HP := Lib.hid hRR
  have HV := Lib.hid hS.v
  have hi0 := hS.i0
  have hc1 := hS.c1
  have hc5 := hS.c5
  have hsz := hS.sz
  have HSB := Lib.hid (And.intro hS.bs (And.intro hS.by2 hS.l2))
  have c1 : decide ((s.size : Int) < 5) = false := by rw [decide_eq_false_iff_not]; omega
  have c2 : decide (s.size < 5) = false := by rw [decide_eq_false_iff_not]; omega
  have HSZ := Lib.hid hsz
  clear hRR hS hsz h5
  have hbz : b.size = L2.length := by rw [HSB.out.1]; exact str_size L2
  have hbE : b.toList.isEmpty = false := by
    rw [HSB.out.1, str_list]
    cases hq : L2 with
    | nil => exact absurd (by rw [hq]; rfl) hL
    | cons x y => rfl
  have hx := HSB.out.2.1 _ (getD0_mem (l := L2) (by omega))
  have hib : ∀ W, (Instr.index 9 (.string b) (.int .i64 0)).run Tryd.prog W = .ok (.int .u8 (L2.getD 0 0)) W := fun W => by
    rw [HSB.out.1]
    exact run_index_str HSB.out.2.1 0 (by decide) (by omega) W
  obtain ⟨x, hxx⟩ : ∃ x, L2.getD 0 0 = x := ⟨_, rfl⟩
  rw [hxx] at hx hib hX
  have hb9 : L2.length ≤ 100000 := by have := HSB.out.2.2; omega
  have hd1 : decide ((L2.length : Int) - 1 < x) = false := by rw [decide_eq_false_iff_not]; exact hX
  have hcn : ∀ W, (Instr.slice 9 (.string b) (some (.int .i64 1)) (some (.int .i64 (1 + x))) none).run Tryd.prog W = .ok (.string (strOfNums ((L2.take (x + 1).toNat).drop 1))) W := fun W => by
    rw [HSB.out.1, Int.add_comm 1 x]
    exact run_cut_str L2 1 (x + 1) (by decide) (by omega) (by omega) W
  have hcd : ∀ W, (Instr.slice 9 (.string b) (some (.int .i64 (1 + x))) none none).run Tryd.prog W = .ok (.string (strOfNums (L2.drop (x + 1).toNat))) W := fun W => by
    rw [HSB.out.1, Int.add_comm 1 x]
    exact run_from_str L2 (x + 1) (by omega) (by omega) W
  have hrr : restR 3 L2 = some (nm, 0, 0, pay) := by
    unfold restR
    rw [if_neg (by decide), if_neg (by decide), if_pos rfl, if_neg (by rw [hxx]; exact fun h => h.elim hL hX), hxx, hnm, hpay, hxx]
  rw [hxx] at hnm hpay
  have hpl : pay.length ≤ 100000 := by rw [hpay, List.length_drop]; omega
  have hpb : Byte8 pay := fun y hy => HSB.out.2.1 y (List.mem_of_mem_drop (hpay ▸ hy))
  have hnl : nm.size ≤ 1000000000 := by rw [hnm, str_size, List.length_drop, List.length_take]; omega
  rw [← hnm] at hcn
  rw [← hpay] at hcd
  have hds : (strOfNums pay).size = pay.length := str_size pay
  have HPB := Lib.hid (And.intro hpl (And.intro hpb hnl))
  have hkb : ∀ W, (convert 9 24 (.string (strOfNums pay))).run Tryd.prog W = .ok (.slice (some ⟨W.heap.size, 0, none⟩) pay.length (grownCap W pay.length 0 5)) (Lib.bytesWorld W 5 (strOfNums pay)) := fun W => by
    have := print_bytes (P := Tryd.prog) 9 24 5 Tryd.underlying9 Tryd.underlying24 Tryd.underlying5 (strOfNums pay) W
    rw [str_size] at this
    exact this
  obtain ⟨dt, hdt⟩ : ∃ dt, strOfNums pay = dt := ⟨_, rfl⟩
  have HDT := Lib.hid hdt
  rw [hdt] at hds hkb hcd
  have HRR := Lib.hid hrr
  clear hL hxx hX hpb hnl hdt hrr hnm hpay
  have hg1 : decide (2048 < pay.length) = false := by rw [decide_eq_false_iff_not]; exact hg
  have hg2 : decide ((2048 : Int) < (pay.length : Int)) = false := by rw [decide_eq_false_iff_not]; omega
  have HEQ := Lib.hid (show getT 3 id (restR 3 L2) = (3, id, nm, 0, 0, pay, 0, true) by
    rw [HRR.out]
    have hc : cmdOk 3 nm 0 0 pay = true := by unfold cmdOk; simp [hok]; omega
    exact getT_full hok (fun h => hg h.2) hc)
  have HOK := Lib.hid hok
  clear hok hg
  go_enter Tryd.func15, Tryd.ntmps15
  go_wp2_with fail
  go_region_held3 (fun w' => True) (trivial) ((go_at_call 39; refine (HV.out _).mono ?_; rintro e w1 ⟨rfl, n, rfl⟩))
  all_goals
    rename_i K hK hHeld
    clear hHeld
    refine hK _ _ ?_
    clear hK K
    have hH : ∃ W2, RHead w W2 3 id ⟨#[]⟩ 0 0 (.slice none 0 0) ∧ (rone w (1 + n) 3 id = W2 ∨ rsix w (1 + n) 3 id = W2) := ⟨_, rhead1 w (1 + n) 3 id, .inl rfl⟩
    clear hH
    first
    | (rw [show (((w.alloc zO).alloc zO).drewN (1 + n)).alloc (cO 3 id) = rone w (1 + n) 3 id from rfl]
       have hH := rhead1 w (1 + n) 3 id
       rw [show (((w.alloc zO).alloc zO).drewN (1 + n)).alloc (cO 3 id) = rone w (1 + n) 3 id from rfl] at hH
       generalize rone w (1 + n) 3 id = W2 at hH ⊢)
    | (rw [show (((((((((w.alloc zO).alloc zO).alloc zO).drewN (1 + n)).setCell ⟨w.heap.size + 1 + 1, 0, none⟩ (.int .u8 3)).setCell ⟨w.heap.size + 1 + 1, 1, none⟩ (.int .u32 id)).setCell ⟨w.heap.size + 1 + 1, 2, none⟩ (.string ⟨#[]⟩)).setCell ⟨w.heap.size + 1 + 1, 3, none⟩ (.int .u64 0)).setCell ⟨w.heap.size + 1 + 1, 4, none⟩ (.int .u8 0)).setCell ⟨w.heap.size + 1 + 1, 5, none⟩ (.slice none 0 0) = rsix w (1 + n) 3 id from rfl]
       have hH := rhead2 w (1 + n) 3 id
       generalize rsix w (1 + n) 3 id = W2 at hH ⊢)
    have H2 := Lib.hid hH
    clear hH
    have hzz := H2.out.size
    have z0 := blk_cell H2.out.z 0
    have z1 := blk_cell H2.out.z 1
    have z2 := blk_cell H2.out.z 2
    have z3 := blk_cell H2.out.z 3
    have z4 := blk_cell H2.out.z 4
    have z5 := blk_cell H2.out.z 5
    have zf0 := blk_frozen H2.out.z 0
    have zf1 := blk_frozen H2.out.z 1
    have zf2 := blk_frozen H2.out.z 2
    have zf3 := blk_frozen H2.out.z 3
    have zf4 := blk_frozen H2.out.z 4
    have zf5 := blk_frozen H2.out.z 5
    simp at z0 z1 z2 z3 z4 z5
    have n0 := blk_cell H2.out.n 0
    have n1 := blk_cell H2.out.n 1
    have n2 := blk_cell H2.out.n 2
    have n3 := blk_cell H2.out.n 3
    have n4 := blk_cell H2.out.n 4
    have n5 := blk_cell H2.out.n 5
    simp at n0 n1 n2 n3 n4 n5
    have k0 := blk_cell H2.out.c 0
    have k1 := blk_cell H2.out.c 1
    have k2 := blk_cell H2.out.c 2
    have k3 := blk_cell H2.out.c 3
    have k4 := blk_cell H2.out.c 4
    have k5 := blk_cell H2.out.c 5
    have kf0 := blk_frozen H2.out.c 0
    have kf1 := blk_frozen H2.out.c 1
    have kf2 := blk_frozen H2.out.c 2
    have kf3 := blk_frozen H2.out.c 3
    have kf4 := blk_frozen H2.out.c 4
    have kf5 := blk_frozen H2.out.c 5
    simp at k0 k1 k2 k3 k4 k5
    go_wp2_with fail
    refine (rmay21_calls _ nm HPB.out.2.2).mono ?_
    rintro e w5 ⟨rfl, hb5⟩
    rw [HOK.out]
    have H5 := Lib.hid (H2.out.below hb5)
    clear hb5
    clear z0 z1 z2 z3 z4 z5 n0 n1 n2 n3 n4 n5 k0 k1 k2 k3 k4 k5 zf0 zf1 zf2 zf3 zf4 zf5 kf0 kf1 kf2 kf3 kf4 kf5
    have hzz := H5.out.size
    have z0 := blk_cell H5.out.z 0
    have z1 := blk_cell H5.out.z 1
    have z2 := blk_cell H5.out.z 2
    have z3 := blk_cell H5.out.z 3
    have z4 := blk_cell H5.out.z 4
    have z5 := blk_cell H5.out.z 5
    have zf0 := blk_frozen H5.out.z 0
    have zf1 := blk_frozen H5.out.z 1
    have zf2 := blk_frozen H5.out.z 2
    have zf3 := blk_frozen H5.out.z 3
    have zf4 := blk_frozen H5.out.z 4
    have zf5 := blk_frozen H5.out.z 5
    simp at z0 z1 z2 z3 z4 z5
    have n0 := blk_cell H5.out.n 0
    have n1 := blk_cell H5.out.n 1
    have n2 := blk_cell H5.out.n 2
    have n3 := blk_cell H5.out.n 3
    have n4 := blk_cell H5.out.n 4
    have n5 := blk_cell H5.out.n 5
    simp at n0 n1 n2 n3 n4 n5
    have k0 := blk_cell H5.out.c 0
    have k1 := blk_cell H5.out.c 1
    have k2 := blk_cell H5.out.c 2
    have k3 := blk_cell H5.out.c 3
    have k4 := blk_cell H5.out.c 4
    have k5 := blk_cell H5.out.c 5
    have kf0 := blk_frozen H5.out.c 0
    have kf1 := blk_frozen H5.out.c 1
    have kf2 := blk_frozen H5.out.c 2
    have kf3 := blk_frozen H5.out.c 3
    have kf4 := blk_frozen H5.out.c 4
    have kf5 := blk_frozen H5.out.c 5
    simp at k0 k1 k2 k3 k4 k5
    have H6 := Lib.hid (H5.out.set 2 (.string nm) rfl)
    have H7 := Lib.hid (H6.out.below (bytes_below (Below.refl _ _) (Nat.le_refl _) 5 dt))
    have HR7 := Lib.hid (show ReadsInt (Lib.bytesWorld (w5.setCell ⟨w.heap.size + 1 + 1, 2, none⟩ (.string nm)) 5 dt) .u8 (some ⟨(w5.setCell ⟨w.heap.size + 1 + 1, 2, none⟩ (.string nm)).heap.size, 0, none⟩) pay.length pay by
      have := bytes_reads (w5.setCell ⟨w.heap.size + 1 + 1, 2, none⟩ (.string nm)) 5 (strOfNums pay) (by rw [str_size]; have := HPB.out.1; omega)
      rw [str_size, bytes_str HPB.out.2.1, HDT.out] at this
      exact this)
    have hz6 := H6.out.size
    have y0 := blk_cell H7.out.c 0
    have y1 := blk_cell H7.out.c 1
    have y2 := blk_cell H7.out.c 2
    have y3 := blk_cell H7.out.c 3
    have y4 := blk_cell H7.out.c 4
    have y5 := blk_cell H7.out.c 5
    have yf0 := blk_frozen H7.out.c 0
    have yf1 := blk_frozen H7.out.c 1
    have yf2 := blk_frozen H7.out.c 2
    have yf3 := blk_frozen H7.out.c 3
    have yf4 := blk_frozen H7.out.c 4
    have yf5 := blk_frozen H7.out.c 5
    simp at y0 y1 y2 y3 y4 y5
    have u0 := blk_cell H7.out.z 0
    have u1 := blk_cell H7.out.z 1
    have u2 := blk_cell H7.out.z 2
    have u3 := blk_cell H7.out.z 3
    have u4 := blk_cell H7.out.z 4
    have u5 := blk_cell H7.out.z 5
    have uf0 := blk_frozen H7.out.z 0
    have uf1 := blk_frozen H7.out.z 1
    have uf2 := blk_frozen H7.out.z 2
    have uf3 := blk_frozen H7.out.z 3
    have uf4 := blk_frozen H7.out.z 4
    have uf5 := blk_frozen H7.out.z 5
    simp at u0 u1 u2 u3 u4 u5
    go_wp2_with fail
    have hs6 : (w5.setCell ⟨w.heap.size + 1 + 1, 2, none⟩ (.string nm)).heap.size = w5.heap.size := by simp [World.setCell]
    rw [hs6] at HR7
    have H8 := H7.out.set 5 (.slice (some ⟨w5.heap.size, 0, none⟩) pay.length (grownCap (w5.setCell ⟨w.heap.size + 1 + 1, 2, none⟩ (.string nm)) pay.length 0 5)) rfl
    have HR8 := HR7.out.keep (g := w.heap.size + 1 + 1) ((KeepBut.refl _ _ none).set_ 5 (.slice (some ⟨w5.heap.size, 0, none⟩) pay.length (grownCap (w5.setCell ⟨w.heap.size + 1 + 1, 2, none⟩ (.string nm)) pay.length 0 5))) (fun ad h0 _ => by cases h0; show w5.heap.size ≠ w.heap.size + 1 + 1; omega)
    refine bodyPost_ret (results_ctt rfl _ _ w.heap.size 26 (cmdC 3 id nm 0 0 (.slice (some ⟨w5.heap.size, 0, none⟩) pay.length (grownCap (w5.setCell ⟨w.heap.size + 1 + 1, 2, none⟩ (.string nm)) pay.length 0 5))) (0, 0) _ rfl (put6_blk H8.z 3 id nm 0 0 (.slice (some ⟨w5.heap.size, 0, none⟩) pay.length (grownCap (w5.setCell ⟨w.heap.size + 1 + 1, 2, none⟩ (.string nm)) pay.length 0 5))) Tryd.underlying26 rfl (by kernel_rfl)) rfl (HP.out _ _ ?_)
    rw [HEQ.out]
    refine ⟨⟨some ⟨w5.heap.size, 0, none⟩, _, rfl, ?_, grownCap_ge _ _ _ _⟩, put6_below H8.bel (Nat.le_refl _) 3 id nm 0 0 (.slice (some ⟨w5.heap.size, 0, none⟩) pay.length (grownCap (w5.setCell ⟨w.heap.size + 1 + 1, 2, none⟩ (.string nm)) pay.length 0 5))⟩
    exact HR8.keep (g := w.heap.size) (((((((KeepBut.refl _ w.heap.size none).set_ 0 _).set_ 1 _).set_ 2 _).set_ 3 _).set_ 4 _).set_ 5 _) (fun ad h0 _ => by cases h0; show w5.heap.size ≠ w.heap.size; omega)
end Go.Proofs.YtkgedjaihimafaaDoor

/- What the reference's Get answers, whatever the text. -/
namespace Go.Proofs.YtkgedjaihimafaaDoor
set_option linter.unusedVariables false
set_option linter.unusedSimpArgs false
open Go.RowKit Go.Proofs.YtkgedjaihimafaaDoorW.PrintWords Go.Proofs.YtkgedjaihimafaaDoor.QCmd Go.Proofs.YtkgedjaihimafaaDoor.Given Go.Proofs.YtkgedjaihimafaaDoor.QCmdG

theorem refGet_calls (w : World) (l : List Int) (hl : l.length ≤ 100000) (hby : Byte8 l) : Calls Tryd.prog 15 #[.string (strOfNums l)] w (RefPost w (getR l)) := by
  by_cases h5 : l.length < 5
  · have e : getR l = noneR := by unfold getR; rw [if_pos h5]
    rw [e]
    exact ref_short w l h5
  · obtain ⟨s1, b, hS⟩ := shead h5 hby
    rw [getR_long h5]
    generalize valL ((l.take 5).drop 1) = id at hS ⊢
    generalize l.drop 5 = L2 at hS ⊢
    generalize strOfNums l = s at hS ⊢
    generalize hk : l.getD 0 0 = kind at hS ⊢
    rcases kinds9 kind with h | h | h | h | h | h | h | h | h | h
    · exact ref_other w l kind id (.inl h) s s1 b L2 h5 hS hl
    · subst h; exact ref_one w l id s s1 b L2 h5 hS hl
    · subst h; exact ref_two w l id s s1 b L2 h5 hS hl
    · subst h
      by_cases hL : L2.length = 0
      · exact ref_three_empty w l id s s1 b L2 h5 hS hl hL
      by_cases hX : (L2.length : Int) - 1 < L2.getD 0 0
      · exact ref_three_over w l id s s1 b L2 h5 hS hl hL hX
      cases hok : topicOk (strOfNums ((L2.take (L2.getD 0 0 + 1).toNat).drop 1))
      · exact ref_three_bad w l id s s1 b L2 h5 hS hl hL hX _ _ rfl rfl hok
      by_cases hg : 2048 < (L2.drop (L2.getD 0 0 + 1).toNat).length
      · exact ref_three_great w l id s s1 b L2 h5 hS hl hL hX _ _ rfl rfl hok hg
      · exact ref_three_full w l id s s1 b L2 h5 hS hl hL hX _ _ rfl rfl hok hg
    · subst h; exact ref_four w l id s s1 b L2 h5 hS hl
    · subst h; exact ref_five w l id s s1 b L2 h5 hS hl
    · subst h; exact ref_six w l id s s1 b L2 h5 hS hl
    · subst h; exact ref_seven w l id s s1 b L2 h5 hS hl
    · subst h; exact ref_eight w l id s s1 b L2 h5 hS hl
    · exact ref_other w l kind id (.inr h) s s1 b L2 h5 hS hl
end Go.Proofs.YtkgedjaihimafaaDoor

/- clear on a row of one's own. -/
namespace Go.Proofs.YtkgedjaihimafaaDoor
set_option linter.unusedVariables false
set_option linter.unusedSimpArgs false
open Go.RowKit Go.Proofs.YtkgedjaihimafaaDoorW.PrintWords

/-- Is W1 as W but for what a row's block holds? -/
structure Wiped (W W1 : World) (row : Option Nat) : Prop where
  os : W1.os = W.os
  tape : W1.tape = W.tape
  output : W1.output = W.output
  size : W1.heap.size = W.heap.size
  block : ∀ i, i < W.heap.size → some i ≠ row → W1.heap[i]? = W.heap[i]?

theorem size_setCells' (b : Nat) : ∀ (vs : List Value) (o : Nat) (w : World), (w.setCells b o vs).heap.size = w.heap.size
  | [], _, _ => rfl
  | v :: r, o, w => by rw [World.setCells, size_setCells' b r]; simp [World.setCell]
theorem tape_setCells' (b : Nat) : ∀ (vs : List Value) (o : Nat) (w : World), (w.setCells b o vs).tape = w.tape
  | [], _, _ => rfl
  | v :: r, o, w => by rw [World.setCells, tape_setCells' b r]; rfl

theorem clear_own (W : World) (base : Nat) (ty : TypeId) (v : Value) (n : Nat) (xs : List Int) (h : W.ownsRow base 5 1 v n (nums .u8 xs)) :
    ∃ W1, (Builtin.clear_ #[24] ty #[v]).run Tryd.prog W = .ok (.tuple #[]) W1 ∧ Wiped W W1 v.ownBlock := by
  rcases h.2 with ⟨rfl, rfl⟩ | ⟨g, cap, cur, rfl, hb, hh, h1, h2, h3, h4⟩
  · exact ⟨W, by simp [Builtin.clear_, run_underlying Tryd.underlying24], rfl, rfl, rfl, rfl, fun _ _ _ => rfl⟩
  · rcases Nat.eq_zero_or_pos n with h0 | h0
    · subst h0
      exact ⟨W, by simp [Builtin.clear_, run_underlying Tryd.underlying24], rfl, rfl, rfl, rfl, fun _ _ _ => rfl⟩
    · refine ⟨_, Go.Lib.run_clear_slice W 24 5 ty (.int .u8 0) Tryd.underlying24 (fun w => by kernel_rfl) rfl rfl g 0 n cap h0 ?_ ?_, World.os_setCells _ _ _ _, tape_setCells' _ _ _ _, World.output_setCells _ _ _ _, size_setCells' _ _ _ _, fun i hi hne => World.heap_setCells_other W g 0 _ hi (fun e => hne (by simp [Value.ownBlock, e]))⟩
      · intro j hj
        have hjc : j < cur.size := by omega
        rw [Nat.zero_add, blk_cell hh j, Array.getElem?_eq_getElem hjc]
        rfl
      · intro j hj
        rw [Nat.zero_add]
        exact blk_frozen hh j

theorem Wiped.blk {W W1 : World} {row : Option Nat} (h : Wiped W W1 row) {g : Nat} {o : Obj} (hg : W.heap[g]? = some o) (hne : some g ≠ row) : W1.heap[g]? = some o := (h.block g (blk_lt hg) hne).trans hg
theorem Wiped.grown {W W1 : World} {row : Option Nat} (h : Wiped W W1 row) : W.grownBy W1 row := ⟨h.os, h.tape, h.output, by have := h.size; omega, h.block⟩
theorem Wiped.own {W W1 : World} {row : Option Nat} (h : Wiped W W1 row) {base n size : Nat} {e : TypeId} {v : Value} {xs : List Value} (ho : W.ownsRow base e size v n xs) (hne : v.ownBlock = none ∨ v.ownBlock ≠ row) : W1.ownsRow base e size v n xs := ho.kept h.grown hne
end Go.Proofs.YtkgedjaihimafaaDoor
