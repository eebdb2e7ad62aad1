/- The statement of louver/louverlaw07.FrameWrong: for every input it returns true, and each argument reads behind the call as it read before; no other condition than the row's own. -/
import Derived.Test.YtjjfkmniffbgkaaDoorMFrameWrong13
import Derived.Test.YtjjfkmniffbgkaaDoorMFrameWrong2
import Derived.Test.YtjjfkmniffbgkaaDoorRows
import Derived.LaidHandle
import Derived.LaidLaws
import Derived.Stop.Joined
import Derived.Test.YtjjfkmniffbgkaaDoorCards
import Derived.Test.YtjjfkmniffbgkaaDoorTie
import Derived.WalkKit
import Derived.ProofKit
import Derived.OpenShut
import Derived.ShutString
import Derived.ChangeOld
import Derived.Below
import Derived.SizedLaws
import Derived.Carry
import Derived.Deep.DeepHandedRow
/- FrameWrong, walked. (This text is printed by wip/gen/fwrong.py.) -/
namespace Go.Proofs.YtjjfkmniffbgkaaDoor
set_option linter.unusedVariables false
set_option linter.unusedSimpArgs false
open Go.RowKit Go.Proofs.YtjjfkmniffbgkaaDoorW.PrintWords Go.Proofs.YtjjfkmniffbgkaaDoorW.PrintLast Go.Proofs.YtjjfkmniffbgkaaDoorW.PrintMore Go.Proofs.YtjjfkmniffbgkaaDoor.QFrmA Go.Proofs.YtjjfkmniffbgkaaDoor.Given Go.Extern.Stop Go.Stop Go.Extern Go.Maps
attribute [local go_sem high] eqFault

/-- A row of bytes that fills a block. -/
theorem reads_of_blk {W : World} {g : Nat} {cs : Array Value} {ty : TypeId} {l : List Int} (hb : W.heap[g]? = some (.cells cs ty (0, 0))) (e : cs.toList = nums .u8 l) (hl : l.length ≤ 9223372036854775807) : ReadsInt W .u8 (some ⟨g, 0, none⟩) l.length l := by
  refine ⟨rfl, hl, fun _ => ⟨_, rfl, fun j hj => ?_⟩⟩
  rw [Addr.add_mid, Nat.zero_add, blk_cell hb, ← Array.getElem?_toList, e]
  simp [nums, List.getD_eq_getElem?_getD, List.getElem?_eq_getElem hj]
section
variable {P : Program} {ops : Array Oper} {rest : List Oper} {o : Oper} {a : Act} {Q : Exit → Act → World → Prop}
/-- make([]byte, n). -/
theorem makeb_ev {W : World} (hgd : o.guard = none) {t e : TypeId} {x y : Operand} (ho : o.op = .makeSlice t x y) (m : Nat) (hx : a.eval x = .int .i64 (m : Int)) (hy : a.eval y = .int .i64 (m : Int)) (ht : P.underlying t = some (.slice e))
    (hinfo : (P.info? e).map (fun i => (i.zero, i.size, i.bytes)) = some (some (.int .u8 0), 1, 1)) (hm : m ≤ 281474976710656)
    (h : ∀ g, g = W.heap.size → ∀ w1 cs, w1.heap[g]? = some (.cells cs e (0, 0)) → cs.toList = nums .u8 (List.replicate m 0) → w1.heap.size = W.heap.size + 1 → Below W.heap.size W w1 → wpList P ops Q rest (a.put o.dst (.slice (some ⟨g, 0, none⟩) m m)) w1) : wpList P ops Q (o :: rest) a W := by
  refine wpList_plain hgd fun K hK => ?_
  obtain ⟨i0, hi, hzz⟩ := Option.map_eq_some_iff.1 hinfo
  simp only [Prod.mk.injEq] at hzz
  obtain ⟨hz0, hz1, hz2⟩ := hzz
  have hr := run_make (P := P) W t e i0 (.int .u8 0) ht hi hz0 .i64 .i64 (m : Int) (m : Int) (by omega) (by omega) (by rw [hz2]; omega) (by omega)
  simp only [Int.toNat_natCast] at hr
  rw [hz1] at hr
  unfold Oper.wp execOp
  simp only [ho, hx, hy, Sem.run_bind, Sem.run_pure, Result.andThen_ok, hr]
  refine hK _ _ (h _ rfl _ _ (blk_new W _) ?_ (by simp) (below_alloc (Below.refl _ _) _))
  rw [Nat.mul_one]
  show (madeCells #[.int .u8 0] m).toList = _
  rw [toList_madeCells_one]
  simp [nums]
/-- []byte{..} as a step of a region that draws its order. -/
theorem lit_ord {Kc : Act → World → Prop} {W : World} (hw : Region.wanted o (yielded ops a.tmps) = true) {e : TypeId} (l : List Int)
    (hrun : (execOp a.eval o).run P W = .ok (.value (.slice (some ⟨W.heap.size, 0, none⟩) l.length l.length)) (W.alloc (.cells (nums .u8 l).toArray e (0, 0)))) (hl : l.length ≤ 9223372036854775807)
    (h : ∀ g, g = W.heap.size → ∀ w1, ReadsInt w1 .u8 (some ⟨g, 0, none⟩) l.length l → Below W.heap.size W w1 → Kc (a.put o.dst (.slice (some ⟨g, 0, none⟩) l.length l.length)) w1) :
    if Region.wanted o (yielded ops a.tmps) = true then Oper.wp P o a W Kc Q else Kc (a.put o.dst undef) W :=
  event_step hw hrun (h _ rfl _ (reads_of_blk (blk_new W _) (by simp) hl) (below_alloc (Below.refl _ _) _))
end
set_option maxHeartbeats 8000000 in
set_option maxRecDepth 100000 in
theorem frameWrong_text (w : World) (kind flags stream n first : Int) (m : Nat) (hm : n % 16400 = (m : Int)) (hm2 : m < 16400) (hn : 0 ≤ n) (hn2 : n ≤ 65535) (hs0 : 0 ≤ stream) (hs1 : stream ≤ 4294967295) (hk0 : 0 ≤ kind) (hk1 : kind ≤ 255) (hf0 : 0 ≤ flags) (hf1 : flags ≤ 255) (hi0 : 0 ≤ first) (hi1 : first ≤ 255) (hG : GV w) :
    Calls Tryd.prog 6 #[.int .u8 kind, .int .u8 flags, .int .u32 stream, .int .u16 n, .int .u8 first] w fun e w' => e = .returned (.bool true) ∧ Below w.heap.size w w' := by
  refine of_post0 fun R hRR => ?_
  have HP := Lib.hid hRR
  have HN3 := Lib.hid (fun W => rnumber_calls W (m : Int) 3 (by decide) (by omega) (by omega))
  have HN4 := Lib.hid (fun W => rnumber_calls W stream 4 (by decide) hs0 (by omega))
  have HB2 := Lib.hid (show strOfNums [kind, flags] = strOfNums [kind, flags] from rfl)
  have zA : (strOfNums (beL (m : Int) 3)).size = 3 := by rw [str_size, beL_length]
  have zB : (strOfNums [kind, flags]).size = 2 := str_size _
  have zC : (strOfNums (beL stream 4)).size = 4 := by rw [str_size, beL_length]
  have hr := hm
  have hw1 : IntKind.i64.wrap n = n := by simp [IntKind.wrap, IntKind.bits, IntKind.signed]; omega
  have hw2 : IntKind.u64.wrap (m : Int) = (m : Int) := by simp [IntKind.wrap, IntKind.bits, IntKind.signed]; omega
  have hw3 : IntKind.u64.wrap stream = stream := by simp [IntKind.wrap, IntKind.bits, IntKind.signed]; omega
  have ht : n.tmod 16400 = (m : Int) := by rw [Int.tmod_eq_emod_of_nonneg hn]; exact hm
  have HK := Lib.hid hm2
  clear hRR hm hn hn2 hs0 hs1
  obtain ⟨kk, hkk⟩ : ∃ kk : Int, (m : Int) = kk := ⟨_, rfl⟩
  generalize hsA : strOfNums (beL (m : Int) 3) = sA at HN3 zA
  generalize hsB : strOfNums [kind, flags] = sB at HB2 zB
  generalize hsC : strOfNums (beL stream 4) = sC at HN4 zC
  rw [hkk] at HN3 hr hw2 ht
  generalize hX : (sA ++ sB) ++ sC = sX
  have V := Aside0.mk (Below.refl w.heap.size w)
  go_enter Tryd.func6, Tryd.ntmps6
  go_upto_region 2 with fail
  (try simp only [Act.put, List.setIfInBounds_toArray, List.set_cons_zero, List.set_cons_succ])
  go_cut [12] (fun v12 wc => v12 = .string sX ∧ Aside0 (Below w.heap.size w wc))
  case first =>
    refine start_ (n := 13) (S := fun w' => True) (ds := []) #[false, false, false, false, false, false, false, false, false, false, false, false, false] (by kernel_rfl) rfl rfl trivial (fun hHeld => ?_)
    have q0_ := Aside0.mk (V.out.trans ((below_drew (Below.refl w.heap.size w)).mono V.out.size))
    clear V
    have V := q0_
    clear q0_
    generalize w.drew = wy at V hHeld ⊢
    refine pure_ (i := 0) (N := some 20) (v := ?_) (a' := ?_) #[true, false, false, false, false, false, false, false, false, false, false, false, false] rfl rfl (by kernel_rfl) (fun _ _ _ h => h) (Or.inl ⟨by rfl, ?_⟩) ?_ ?_
    rotate_left
    · intro w'
      go_simp
      with_reducible rfl
    rotate_left
    · simp only [Act.put, List.setIfInBounds_toArray, List.set_cons_zero, List.set_cons_succ]
      rfl
    refine pure_ (i := 1) (N := some 21) (v := ?_) (a' := ?_) #[true, true, false, false, false, false, false, false, false, false, false, false, false] rfl rfl (by kernel_rfl) (fun _ _ _ h => h) (Or.inl ⟨by rfl, ?_⟩) ?_ ?_
    rotate_left
    · intro w'
      go_simp
      with_reducible rfl
    rotate_left
    · simp only [Act.put, List.setIfInBounds_toArray, List.set_cons_zero, List.set_cons_succ]
      rfl
    refine pure_ (i := 3) (N := some 23) (v := ?_) (a' := ?_) #[true, true, false, true, false, false, false, false, false, false, false, false, false] rfl rfl (by kernel_rfl) (fun _ _ _ h => h) (Or.inl ⟨by rfl, ?_⟩) ?_ ?_
    rotate_left
    · intro w'
      go_simp
      with_reducible rfl
    rotate_left
    · simp only [Act.put, List.setIfInBounds_toArray, List.set_cons_zero, List.set_cons_succ]
      rfl
    refine pure_ (i := 4) (N := some 24) (v := ?_) (a' := ?_) #[true, true, false, true, true, false, false, false, false, false, false, false, false] rfl rfl (by kernel_rfl) (fun _ _ _ h => h) (Or.inl ⟨by rfl, ?_⟩) ?_ ?_
    rotate_left
    · intro w'
      go_simp
      with_reducible rfl
    rotate_left
    · simp only [Act.put, List.setIfInBounds_toArray, List.set_cons_zero, List.set_cons_succ]
      rfl
    refine pure_ (i := 8) (N := some 28) (v := ?_) (a' := ?_) #[true, true, false, true, true, false, false, false, true, false, false, false, false] rfl rfl (by kernel_rfl) (fun _ _ _ h => h) (Or.inl ⟨by rfl, ?_⟩) ?_ ?_
    rotate_left
    · intro w'
      go_simp
      with_reducible rfl
    rotate_left
    · simp only [Act.put, List.setIfInBounds_toArray, List.set_cons_zero, List.set_cons_succ]
      rfl
    refine pure_ (i := 9) (N := some 29) (v := ?_) (a' := ?_) #[true, true, false, true, true, false, false, false, true, true, false, false, false] rfl rfl (by kernel_rfl) (fun _ _ _ h => h) (Or.inl ⟨by rfl, ?_⟩) ?_ ?_
    rotate_left
    · intro w'
      go_simp
      with_reducible rfl
    rotate_left
    · simp only [Act.put, List.setIfInBounds_toArray, List.set_cons_zero, List.set_cons_succ]
      rfl
    refine two_ (i := 2) (j := 5) (Ni := some 22) (Nj := some 25) #[true, true, true, true, true, false, false, false, true, true, false, false, false] #[true, true, false, true, true, true, false, false, true, true, false, false, false] rfl rfl rfl rfl (by kernel_rfl) (by decide) (by decide) (fun K hK => ?_) (fun K hK => ?_)
    · refine goes_ Tryd.func30 (by kernel_rfl) rfl #[.int .u64 kk, .int .i64 ((3 : Nat) : Int)] (by rfl) rfl rfl (by (try simp only [List.map_toArray, List.map_cons, List.map_nil]); first | done | rfl) ?_
      refine (HN3.out _).mono ?_
      rintro e_ w1_ ⟨rfl, h_⟩
      have b_ := h_
      have q0_ := Aside0.mk (V.out.trans (b_.mono V.out.size))
      clear V
      have V := q0_
      clear q0_
      clear b_ h_
      refine ⟨_, rfl, ?_⟩
      refine hK.out _ _ trivial (fun hHeld => ?_)
      clear hK K
      refine norm_ (a' := ?_) ?_ ?_
      rotate_left
      · show Act.put _ (some 22) _ = _
        simp only [Act.put, List.setIfInBounds_toArray, List.set_cons_zero, List.set_cons_succ]
        rfl
      refine two_ (i := 5) (j := 10) (Ni := some 25) (Nj := some 30) #[true, true, true, true, true, true, false, false, true, true, false, false, false] #[true, true, true, true, true, false, false, false, true, true, true, false, false] rfl rfl rfl rfl (by kernel_rfl) (by decide) (by decide) (fun K hK => ?_) (fun K hK => ?_)
      · refine lit_ord (by rfl) [kind, flags] (e := 5) (by first | (go_simp; done) | (go_simp; rfl)) (Nat.le_of_ble_eq_true rfl) ?_
        intro gs hg_ w2_ r_ b_
        have q0_ := Aside0.mk (V.out.trans (b_.mono V.out.size))
        clear V
        have V := q0_
        clear q0_
        have Rs := Aside0.mk r_
        clear hg_ r_ b_
        refine hK.out _ _ trivial (fun hHeld => ?_)
        clear hK K
        refine norm_ (a' := ?_) ?_ ?_
        rotate_left
        · show Act.put _ (some 25) _ = _
          simp only [Act.put, List.setIfInBounds_toArray, List.set_cons_zero, List.set_cons_succ]
          rfl
        refine two_ (i := 6) (j := 10) (Ni := some 26) (Nj := some 30) #[true, true, true, true, true, true, true, false, true, true, false, false, false] #[true, true, true, true, true, true, false, false, true, true, true, false, false] rfl rfl rfl rfl (by kernel_rfl) (by decide) (by decide) (fun K hK => ?_) (fun K hK => ?_)
        · have cv_ := string_of_reads (c := 2) (n := 2) Tryd.underlying35 Tryd.underlying5 Tryd.underlying9 (show ReadsInt _ .u8 _ 2 [kind, flags] from Rs.out)
          rw [hsB] at cv_
          refine event_step (by rfl) (v := .string sB) (by first | (go_simp; done) | (go_simp; rfl)) ?_
          refine hK.out _ _ trivial (fun hHeld => ?_)
          clear hK K cv_
          refine norm_ (a' := ?_) ?_ ?_
          rotate_left
          · show Act.put _ (some 26) _ = _
            simp only [Act.put, List.setIfInBounds_toArray, List.set_cons_zero, List.set_cons_succ]
            rfl
          refine pure_ (i := 7) (N := some 27) (v := ?_) (a' := ?_) #[true, true, true, true, true, true, true, true, true, true, false, false, false] rfl rfl (by kernel_rfl) (fun _ _ _ h => h) (Or.inl ⟨by rfl, ?_⟩) ?_ ?_
          rotate_left
          · intro w'
            go_simp
            with_reducible rfl
          rotate_left
          · simp only [Act.put, List.setIfInBounds_toArray, List.set_cons_zero, List.set_cons_succ]
            rfl
          refine one_ (i := 10) (N := some 30) #[true, true, true, true, true, true, true, true, true, true, true, false, false] rfl rfl (by kernel_rfl) (by decide) (fun K hK => ?_)
          refine goes_ Tryd.func30 (by kernel_rfl) rfl #[.int .u64 stream, .int .i64 ((4 : Nat) : Int)] (by rfl) rfl rfl (by (try simp only [List.map_toArray, List.map_cons, List.map_nil]); first | done | rfl) ?_
          refine (HN4.out _).mono ?_
          rintro e_ w4_ ⟨rfl, h_⟩
          have b_ := h_
          have q0_ := Aside0.mk (V.out.trans (b_.mono V.out.size))
          clear V
          have V := q0_
          clear q0_
          clear b_ h_
          refine ⟨_, rfl, ?_⟩
          refine hK.out _ _ trivial (fun hHeld => ?_)
          clear hK K
          refine norm_ (a' := ?_) ?_ ?_
          rotate_left
          · show Act.put _ (some 30) _ = _
            simp only [Act.put, List.setIfInBounds_toArray, List.set_cons_zero, List.set_cons_succ]
            rfl
          refine pure_ (i := 11) (N := some 31) (v := ?_) (a' := ?_) #[true, true, true, true, true, true, true, true, true, true, true, true, false] rfl rfl (by kernel_rfl) (fun _ _ _ h => h) (Or.inl ⟨by rfl, ?_⟩) ?_ ?_
          rotate_left
          · intro w'
            go_simp
            with_reducible rfl
          rotate_left
          · simp only [Act.put, List.setIfInBounds_toArray, List.set_cons_zero, List.set_cons_succ]
            rfl
          refine pure_ (i := 12) (N := some 12) (v := ?_) (a' := ?_) #[true, true, true, true, true, true, true, true, true, true, true, true, true] rfl rfl (by kernel_rfl) (fun _ _ _ h => h) (Or.inl ⟨by rfl, ?_⟩) ?_ ?_
          rotate_left
          · intro w'
            go_simp
            with_reducible rfl
          rotate_left
          · simp only [Act.put, List.setIfInBounds_toArray, List.set_cons_zero, List.set_cons_succ]
            rfl
          refine done_ (by kernel_rfl) ?_
          go_wp2_with fail
          go_meet
          case rel => exact ⟨by first | rfl | rw [hX], V⟩
        · refine goes_ Tryd.func30 (by kernel_rfl) rfl #[.int .u64 stream, .int .i64 ((4 : Nat) : Int)] (by rfl) rfl rfl (by (try simp only [List.map_toArray, List.map_cons, List.map_nil]); first | done | rfl) ?_
          refine (HN4.out _).mono ?_
          rintro e_ w3_ ⟨rfl, h_⟩
          have b_ := h_
          have q0_ := Aside0.mk (ReadsInt.below Rs.out b_)
          have q1_ := Aside0.mk (V.out.trans (b_.mono V.out.size))
          clear Rs
          clear V
          have Rs := q0_
          have V := q1_
          clear q0_ q1_
          clear b_ h_
          refine ⟨_, rfl, ?_⟩
          refine hK.out _ _ trivial (fun hHeld => ?_)
          clear hK K
          refine norm_ (a' := ?_) ?_ ?_
          rotate_left
          · show Act.put _ (some 30) _ = _
            simp only [Act.put, List.setIfInBounds_toArray, List.set_cons_zero, List.set_cons_succ]
            rfl
          refine one_ (i := 6) (N := some 26) #[true, true, true, true, true, true, true, false, true, true, true, false, false] rfl rfl (by kernel_rfl) (by decide) (fun K hK => ?_)
          have cv_ := string_of_reads (c := 2) (n := 2) Tryd.underlying35 Tryd.underlying5 Tryd.underlying9 (show ReadsInt _ .u8 _ 2 [kind, flags] from Rs.out)
          rw [hsB] at cv_
          refine event_step (by rfl) (v := .string sB) (by first | (go_simp; done) | (go_simp; rfl)) ?_
          refine hK.out _ _ trivial (fun hHeld => ?_)
          clear hK K cv_
          refine norm_ (a' := ?_) ?_ ?_
          rotate_left
          · show Act.put _ (some 26) _ = _
            simp only [Act.put, List.setIfInBounds_toArray, List.set_cons_zero, List.set_cons_succ]
            rfl
          refine pure_ (i := 7) (N := some 27) (v := ?_) (a' := ?_) #[true, true, true, true, true, true, true, true, true, true, true, false, false] rfl rfl (by kernel_rfl) (fun _ _ _ h => h) (Or.inl ⟨by rfl, ?_⟩) ?_ ?_
          rotate_left
          · intro w'
            go_simp
            with_reducible rfl
          rotate_left
          · simp only [Act.put, List.setIfInBounds_toArray, List.set_cons_zero, List.set_cons_succ]
            rfl
          refine pure_ (i := 11) (N := some 31) (v := ?_) (a' := ?_) #[true, true, true, true, true, true, true, true, true, true, true, true, false] rfl rfl (by kernel_rfl) (fun _ _ _ h => h) (Or.inl ⟨by rfl, ?_⟩) ?_ ?_
          rotate_left
          · intro w'
            go_simp
            with_reducible rfl
          rotate_left
          · simp only [Act.put, List.setIfInBounds_toArray, List.set_cons_zero, List.set_cons_succ]
            rfl
          refine pure_ (i := 12) (N := some 12) (v := ?_) (a' := ?_) #[true, true, true, true, true, true, true, true, true, true, true, true, true] rfl rfl (by kernel_rfl) (fun _ _ _ h => h) (Or.inl ⟨by rfl, ?_⟩) ?_ ?_
          rotate_left
          · intro w'
            go_simp
            with_reducible rfl
          rotate_left
          · simp only [Act.put, List.setIfInBounds_toArray, List.set_cons_zero, List.set_cons_succ]
            rfl
          refine done_ (by kernel_rfl) ?_
          go_wp2_with fail
          go_meet
          case rel => exact ⟨by first | rfl | rw [hX], V⟩
      · refine goes_ Tryd.func30 (by kernel_rfl) rfl #[.int .u64 stream, .int .i64 ((4 : Nat) : Int)] (by rfl) rfl rfl (by (try simp only [List.map_toArray, List.map_cons, List.map_nil]); first | done | rfl) ?_
        refine (HN4.out _).mono ?_
        rintro e_ w2_ ⟨rfl, h_⟩
        have b_ := h_
        have q0_ := Aside0.mk (V.out.trans (b_.mono V.out.size))
        clear V
        have V := q0_
        clear q0_
        clear b_ h_
        refine ⟨_, rfl, ?_⟩
        refine hK.out _ _ trivial (fun hHeld => ?_)
        clear hK K
        refine norm_ (a' := ?_) ?_ ?_
        rotate_left
        · show Act.put _ (some 30) _ = _
          simp only [Act.put, List.setIfInBounds_toArray, List.set_cons_zero, List.set_cons_succ]
          rfl
        refine one_ (i := 5) (N := some 25) #[true, true, true, true, true, true, false, false, true, true, true, false, false] rfl rfl (by kernel_rfl) (by decide) (fun K hK => ?_)
        refine lit_ord (by rfl) [kind, flags] (e := 5) (by first | (go_simp; done) | (go_simp; rfl)) (Nat.le_of_ble_eq_true rfl) ?_
        intro gs hg_ w3_ r_ b_
        have q0_ := Aside0.mk (V.out.trans (b_.mono V.out.size))
        clear V
        have V := q0_
        clear q0_
        have Rs := Aside0.mk r_
        clear hg_ r_ b_
        refine hK.out _ _ trivial (fun hHeld => ?_)
        clear hK K
        refine norm_ (a' := ?_) ?_ ?_
        rotate_left
        · show Act.put _ (some 25) _ = _
          simp only [Act.put, List.setIfInBounds_toArray, List.set_cons_zero, List.set_cons_succ]
          rfl
        refine one_ (i := 6) (N := some 26) #[true, true, true, true, true, true, true, false, true, true, true, false, false] rfl rfl (by kernel_rfl) (by decide) (fun K hK => ?_)
        have cv_ := string_of_reads (c := 2) (n := 2) Tryd.underlying35 Tryd.underlying5 Tryd.underlying9 (show ReadsInt _ .u8 _ 2 [kind, flags] from Rs.out)
        rw [hsB] at cv_
        refine event_step (by rfl) (v := .string sB) (by first | (go_simp; done) | (go_simp; rfl)) ?_
        refine hK.out _ _ trivial (fun hHeld => ?_)
        clear hK K cv_
        refine norm_ (a' := ?_) ?_ ?_
        rotate_left
        · show Act.put _ (some 26) _ = _
          simp only [Act.put, List.setIfInBounds_toArray, List.set_cons_zero, List.set_cons_succ]
          rfl
        refine pure_ (i := 7) (N := some 27) (v := ?_) (a' := ?_) #[true, true, true, true, true, true, true, true, true, true, true, false, false] rfl rfl (by kernel_rfl) (fun _ _ _ h => h) (Or.inl ⟨by rfl, ?_⟩) ?_ ?_
        rotate_left
        · intro w'
          go_simp
          with_reducible rfl
        rotate_left
        · simp only [Act.put, List.setIfInBounds_toArray, List.set_cons_zero, List.set_cons_succ]
          rfl
        refine pure_ (i := 11) (N := some 31) (v := ?_) (a' := ?_) #[true, true, true, true, true, true, true, true, true, true, true, true, false] rfl rfl (by kernel_rfl) (fun _ _ _ h => h) (Or.inl ⟨by rfl, ?_⟩) ?_ ?_
        rotate_left
        · intro w'
          go_simp
          with_reducible rfl
        rotate_left
        · simp only [Act.put, List.setIfInBounds_toArray, List.set_cons_zero, List.set_cons_succ]
          rfl
        refine pure_ (i := 12) (N := some 12) (v := ?_) (a' := ?_) #[true, true, true, true, true, true, true, true, true, true, true, true, true] rfl rfl (by kernel_rfl) (fun _ _ _ h => h) (Or.inl ⟨by rfl, ?_⟩) ?_ ?_
        rotate_left
        · intro w'
          go_simp
          with_reducible rfl
        rotate_left
        · simp only [Act.put, List.setIfInBounds_toArray, List.set_cons_zero, List.set_cons_succ]
          rfl
        refine done_ (by kernel_rfl) ?_
        go_wp2_with fail
        go_meet
        case rel => exact ⟨by first | rfl | rw [hX], V⟩
    · refine lit_ord (by rfl) [kind, flags] (e := 5) (by first | (go_simp; done) | (go_simp; rfl)) (Nat.le_of_ble_eq_true rfl) ?_
      intro gs hg_ w1_ r_ b_
      have q0_ := Aside0.mk (V.out.trans (b_.mono V.out.size))
      clear V
      have V := q0_
      clear q0_
      have Rs := Aside0.mk r_
      clear hg_ r_ b_
      refine hK.out _ _ trivial (fun hHeld => ?_)
      clear hK K
      refine norm_ (a' := ?_) ?_ ?_
      rotate_left
      · show Act.put _ (some 25) _ = _
        simp only [Act.put, List.setIfInBounds_toArray, List.set_cons_zero, List.set_cons_succ]
        rfl
      refine two_ (i := 2) (j := 6) (Ni := some 22) (Nj := some 26) #[true, true, true, true, true, true, false, false, true, true, false, false, false] #[true, true, false, true, true, true, true, false, true, true, false, false, false] rfl rfl rfl rfl (by kernel_rfl) (by decide) (by decide) (fun K hK => ?_) (fun K hK => ?_)
      · refine goes_ Tryd.func30 (by kernel_rfl) rfl #[.int .u64 kk, .int .i64 ((3 : Nat) : Int)] (by rfl) rfl rfl (by (try simp only [List.map_toArray, List.map_cons, List.map_nil]); first | done | rfl) ?_
        refine (HN3.out _).mono ?_
        rintro e_ w2_ ⟨rfl, h_⟩
        have b_ := h_
        have q0_ := Aside0.mk (ReadsInt.below Rs.out b_)
        have q1_ := Aside0.mk (V.out.trans (b_.mono V.out.size))
        clear Rs
        clear V
        have Rs := q0_
        have V := q1_
        clear q0_ q1_
        clear b_ h_
        refine ⟨_, rfl, ?_⟩
        refine hK.out _ _ trivial (fun hHeld => ?_)
        clear hK K
        refine norm_ (a' := ?_) ?_ ?_
        rotate_left
        · show Act.put _ (some 22) _ = _
          simp only [Act.put, List.setIfInBounds_toArray, List.set_cons_zero, List.set_cons_succ]
          rfl
        refine two_ (i := 6) (j := 10) (Ni := some 26) (Nj := some 30) #[true, true, true, true, true, true, true, false, true, true, false, false, false] #[true, true, true, true, true, true, false, false, true, true, true, false, false] rfl rfl rfl rfl (by kernel_rfl) (by decide) (by decide) (fun K hK => ?_) (fun K hK => ?_)
        · have cv_ := string_of_reads (c := 2) (n := 2) Tryd.underlying35 Tryd.underlying5 Tryd.underlying9 (show ReadsInt _ .u8 _ 2 [kind, flags] from Rs.out)
          rw [hsB] at cv_
          refine event_step (by rfl) (v := .string sB) (by first | (go_simp; done) | (go_simp; rfl)) ?_
          refine hK.out _ _ trivial (fun hHeld => ?_)
          clear hK K cv_
          refine norm_ (a' := ?_) ?_ ?_
          rotate_left
          · show Act.put _ (some 26) _ = _
            simp only [Act.put, List.setIfInBounds_toArray, List.set_cons_zero, List.set_cons_succ]
            rfl
          refine pure_ (i := 7) (N := some 27) (v := ?_) (a' := ?_) #[true, true, true, true, true, true, true, true, true, true, false, false, false] rfl rfl (by kernel_rfl) (fun _ _ _ h => h) (Or.inl ⟨by rfl, ?_⟩) ?_ ?_
          rotate_left
          · intro w'
            go_simp
            with_reducible rfl
          rotate_left
          · simp only [Act.put, List.setIfInBounds_toArray, List.set_cons_zero, List.set_cons_succ]
            rfl
          refine one_ (i := 10) (N := some 30) #[true, true, true, true, true, true, true, true, true, true, true, false, false] rfl rfl (by kernel_rfl) (by decide) (fun K hK => ?_)
          refine goes_ Tryd.func30 (by kernel_rfl) rfl #[.int .u64 stream, .int .i64 ((4 : Nat) : Int)] (by rfl) rfl rfl (by (try simp only [List.map_toArray, List.map_cons, List.map_nil]); first | done | rfl) ?_
          refine (HN4.out _).mono ?_
          rintro e_ w4_ ⟨rfl, h_⟩
          have b_ := h_
          have q0_ := Aside0.mk (V.out.trans (b_.mono V.out.size))
          clear V
          have V := q0_
          clear q0_
          clear b_ h_
          refine ⟨_, rfl, ?_⟩
          refine hK.out _ _ trivial (fun hHeld => ?_)
          clear hK K
          refine norm_ (a' := ?_) ?_ ?_
          rotate_left
          · show Act.put _ (some 30) _ = _
            simp only [Act.put, List.setIfInBounds_toArray, List.set_cons_zero, List.set_cons_succ]
            rfl
          refine pure_ (i := 11) (N := some 31) (v := ?_) (a' := ?_) #[true, true, true, true, true, true, true, true, true, true, true, true, false] rfl rfl (by kernel_rfl) (fun _ _ _ h => h) (Or.inl ⟨by rfl, ?_⟩) ?_ ?_
          rotate_left
          · intro w'
            go_simp
            with_reducible rfl
          rotate_left
          · simp only [Act.put, List.setIfInBounds_toArray, List.set_cons_zero, List.set_cons_succ]
            rfl
          refine pure_ (i := 12) (N := some 12) (v := ?_) (a' := ?_) #[true, true, true, true, true, true, true, true, true, true, true, true, true] rfl rfl (by kernel_rfl) (fun _ _ _ h => h) (Or.inl ⟨by rfl, ?_⟩) ?_ ?_
          rotate_left
          · intro w'
            go_simp
            with_reducible rfl
          rotate_left
          · simp only [Act.put, List.setIfInBounds_toArray, List.set_cons_zero, List.set_cons_succ]
            rfl
          refine done_ (by kernel_rfl) ?_
          go_wp2_with fail
          go_meet
          case rel => exact ⟨by first | rfl | rw [hX], V⟩
        · refine goes_ Tryd.func30 (by kernel_rfl) rfl #[.int .u64 stream, .int .i64 ((4 : Nat) : Int)] (by rfl) rfl rfl (by (try simp only [List.map_toArray, List.map_cons, List.map_nil]); first | done | rfl) ?_
          refine (HN4.out _).mono ?_
          rintro e_ w3_ ⟨rfl, h_⟩
          have b_ := h_
          have q0_ := Aside0.mk (ReadsInt.below Rs.out b_)
          have q1_ := Aside0.mk (V.out.trans (b_.mono V.out.size))
          clear Rs
          clear V
          have Rs := q0_
          have V := q1_
          clear q0_ q1_
          clear b_ h_
          refine ⟨_, rfl, ?_⟩
          refine hK.out _ _ trivial (fun hHeld => ?_)
          clear hK K
          refine norm_ (a' := ?_) ?_ ?_
          rotate_left
          · show Act.put _ (some 30) _ = _
            simp only [Act.put, List.setIfInBounds_toArray, List.set_cons_zero, List.set_cons_succ]
            rfl
          refine one_ (i := 6) (N := some 26) #[true, true, true, true, true, true, true, false, true, true, true, false, false] rfl rfl (by kernel_rfl) (by decide) (fun K hK => ?_)
          have cv_ := string_of_reads (c := 2) (n := 2) Tryd.underlying35 Tryd.underlying5 Tryd.underlying9 (show ReadsInt _ .u8 _ 2 [kind, flags] from Rs.out)
          rw [hsB] at cv_
          refine event_step (by rfl) (v := .string sB) (by first | (go_simp; done) | (go_simp; rfl)) ?_
          refine hK.out _ _ trivial (fun hHeld => ?_)
          clear hK K cv_
          refine norm_ (a' := ?_) ?_ ?_
          rotate_left
          · show Act.put _ (some 26) _ = _
            simp only [Act.put, List.setIfInBounds_toArray, List.set_cons_zero, List.set_cons_succ]
            rfl
          refine pure_ (i := 7) (N := some 27) (v := ?_) (a' := ?_) #[true, true, true, true, true, true, true, true, true, true, true, false, false] rfl rfl (by kernel_rfl) (fun _ _ _ h => h) (Or.inl ⟨by rfl, ?_⟩) ?_ ?_
          rotate_left
          · intro w'
            go_simp
            with_reducible rfl
          rotate_left
          · simp only [Act.put, List.setIfInBounds_toArray, List.set_cons_zero, List.set_cons_succ]
            rfl
          refine pure_ (i := 11) (N := some 31) (v := ?_) (a' := ?_) #[true, true, true, true, true, true, true, true, true, true, true, true, false] rfl rfl (by kernel_rfl) (fun _ _ _ h => h) (Or.inl ⟨by rfl, ?_⟩) ?_ ?_
          rotate_left
          · intro w'
            go_simp
            with_reducible rfl
          rotate_left
          · simp only [Act.put, List.setIfInBounds_toArray, List.set_cons_zero, List.set_cons_succ]
            rfl
          refine pure_ (i := 12) (N := some 12) (v := ?_) (a' := ?_) #[true, true, true, true, true, true, true, true, true, true, true, true, true] rfl rfl (by kernel_rfl) (fun _ _ _ h => h) (Or.inl ⟨by rfl, ?_⟩) ?_ ?_
          rotate_left
          · intro w'
            go_simp
            with_reducible rfl
          rotate_left
          · simp only [Act.put, List.setIfInBounds_toArray, List.set_cons_zero, List.set_cons_succ]
            rfl
          refine done_ (by kernel_rfl) ?_
          go_wp2_with fail
          go_meet
          case rel => exact ⟨by first | rfl | rw [hX], V⟩
      · have cv_ := string_of_reads (c := 2) (n := 2) Tryd.underlying35 Tryd.underlying5 Tryd.underlying9 (show ReadsInt _ .u8 _ 2 [kind, flags] from Rs.out)
        rw [hsB] at cv_
        refine event_step (by rfl) (v := .string sB) (by first | (go_simp; done) | (go_simp; rfl)) ?_
        refine hK.out _ _ trivial (fun hHeld => ?_)
        clear hK K cv_
        refine norm_ (a' := ?_) ?_ ?_
        rotate_left
        · show Act.put _ (some 26) _ = _
          simp only [Act.put, List.setIfInBounds_toArray, List.set_cons_zero, List.set_cons_succ]
          rfl
        refine one_ (i := 2) (N := some 22) #[true, true, true, true, true, true, true, false, true, true, false, false, false] rfl rfl (by kernel_rfl) (by decide) (fun K hK => ?_)
        refine goes_ Tryd.func30 (by kernel_rfl) rfl #[.int .u64 kk, .int .i64 ((3 : Nat) : Int)] (by rfl) rfl rfl (by (try simp only [List.map_toArray, List.map_cons, List.map_nil]); first | done | rfl) ?_
        refine (HN3.out _).mono ?_
        rintro e_ w3_ ⟨rfl, h_⟩
        have b_ := h_
        have q0_ := Aside0.mk (V.out.trans (b_.mono V.out.size))
        clear V
        have V := q0_
        clear q0_
        clear b_ h_
        refine ⟨_, rfl, ?_⟩
        refine hK.out _ _ trivial (fun hHeld => ?_)
        clear hK K
        refine norm_ (a' := ?_) ?_ ?_
        rotate_left
        · show Act.put _ (some 22) _ = _
          simp only [Act.put, List.setIfInBounds_toArray, List.set_cons_zero, List.set_cons_succ]
          rfl
        refine pure_ (i := 7) (N := some 27) (v := ?_) (a' := ?_) #[true, true, true, true, true, true, true, true, true, true, false, false, false] rfl rfl (by kernel_rfl) (fun _ _ _ h => h) (Or.inl ⟨by rfl, ?_⟩) ?_ ?_
        rotate_left
        · intro w'
          go_simp
          with_reducible rfl
        rotate_left
        · simp only [Act.put, List.setIfInBounds_toArray, List.set_cons_zero, List.set_cons_succ]
          rfl
        refine one_ (i := 10) (N := some 30) #[true, true, true, true, true, true, true, true, true, true, true, false, false] rfl rfl (by kernel_rfl) (by decide) (fun K hK => ?_)
        refine goes_ Tryd.func30 (by kernel_rfl) rfl #[.int .u64 stream, .int .i64 ((4 : Nat) : Int)] (by rfl) rfl rfl (by (try simp only [List.map_toArray, List.map_cons, List.map_nil]); first | done | rfl) ?_
        refine (HN4.out _).mono ?_
        rintro e_ w4_ ⟨rfl, h_⟩
        have b_ := h_
        have q0_ := Aside0.mk (V.out.trans (b_.mono V.out.size))
        clear V
        have V := q0_
        clear q0_
        clear b_ h_
        refine ⟨_, rfl, ?_⟩
        refine hK.out _ _ trivial (fun hHeld => ?_)
        clear hK K
        refine norm_ (a' := ?_) ?_ ?_
        rotate_left
        · show Act.put _ (some 30) _ = _
          simp only [Act.put, List.setIfInBounds_toArray, List.set_cons_zero, List.set_cons_succ]
          rfl
        refine pure_ (i := 11) (N := some 31) (v := ?_) (a' := ?_) #[true, true, true, true, true, true, true, true, true, true, true, true, false] rfl rfl (by kernel_rfl) (fun _ _ _ h => h) (Or.inl ⟨by rfl, ?_⟩) ?_ ?_
        rotate_left
        · intro w'
          go_simp
          with_reducible rfl
        rotate_left
        · simp only [Act.put, List.setIfInBounds_toArray, List.set_cons_zero, List.set_cons_succ]
          rfl
        refine pure_ (i := 12) (N := some 12) (v := ?_) (a' := ?_) #[true, true, true, true, true, true, true, true, true, true, true, true, true] rfl rfl (by kernel_rfl) (fun _ _ _ h => h) (Or.inl ⟨by rfl, ?_⟩) ?_ ?_
        rotate_left
        · intro w'
          go_simp
          with_reducible rfl
        rotate_left
        · simp only [Act.put, List.setIfInBounds_toArray, List.set_cons_zero, List.set_cons_succ]
          rfl
        refine done_ (by kernel_rfl) ?_
        go_wp2_with fail
        go_meet
        case rel => exact ⟨by first | rfl | rw [hX], V⟩
  case rest =>
    clear V
    obtain ⟨rfl, V⟩ := hcut
    subst hkk
    have zX : sX.size = 9 := by rw [← hX, ByteArray.size_append, ByteArray.size_append, zA, zB, zC]
    have hXl : sX = strOfNums (beL (m : Int) 3 ++ [kind, flags] ++ beL stream 4) := by rw [← hX, ← hsA, ← hsB, ← hsC, strs_append, strs_append]
    have HX := Lib.hid hXl
    have hbb : Byte8 [kind, flags] := fun x hx => by
      rcases List.mem_cons.1 hx with rfl | hx
      · exact ⟨hk0, hk1⟩
      · obtain rfl := List.mem_singleton.1 hx
        exact ⟨hf0, hf1⟩
    have HBX := Lib.hid (show Byte8 (beL (m : Int) 3 ++ [kind, flags] ++ beL stream 4) from fun x hx => by
      rcases List.mem_append.1 hx with hx | hx
      · rcases List.mem_append.1 hx with hx | hx
        · exact beL_byte _ _ x hx
        · exact hbb x hx
      · exact beL_byte _ _ x hx)
    have HLX := Lib.hid (show (beL (m : Int) 3 ++ [kind, flags] ++ beL stream 4).length = 9 by simp [beL_length])
    have HGV := Lib.hid hG
    have HI := Lib.hid (And.intro hi0 hi1)
    clear hXl hX hsA hsB hsC zA zB zC hbb HN3 HN4 hk0 hk1 hf0 hf1 hG hi0 hi1 hw1 hw2 hw3 ht hr
    generalize beL (m : Int) 3 ++ [kind, flags] ++ beL stream 4 = lX at HX HBX HLX
    cases m with
    | zero =>
      have zz : 9 + ([] : List Int).length ≤ 9223372036854775807 := by have := HK.out; simp; try omega
      have HBB := Lib.hid (show Byte8 ([] : List Int) from fun x hx => by first | (cases hx; done) | (rcases List.mem_cons.1 hx with rfl | hx; exact HI.out; obtain ⟨-, rfl⟩ := List.mem_replicate.1 hx; exact ⟨by decide, by decide⟩))
      obtain ⟨sD, hsD⟩ : ∃ sD, strOfNums ([] : List Int) = sD := ⟨_, rfl⟩
      have zD : sD.size = ([] : List Int).length := by rw [← hsD, str_size]
      have hXD : sX ++ sD = strOfNums (lX ++ ([] : List Int)) := by rw [HX.out, ← hsD, strs_append]
      have hbl : Byte8 (lX ++ ([] : List Int)) := fun x hx => by rcases List.mem_append.1 hx with hx | hx; exact HBX.out x hx; exact HBB.out x hx
      have hll : (lX ++ ([] : List Int)).length ≤ 100000 := by have := HLX.out; have := HK.out; simp; omega
      obtain ⟨l, hle⟩ : ∃ l, lX ++ ([] : List Int) = l := ⟨_, rfl⟩
      rw [hle] at hXD hbl hll
      have HS := Lib.hid (show (sX ++ sD).size = l.length ∧ bytesOf (sX ++ sD) = l ∧ l.length ≤ 9223372036854775807 from ⟨by rw [hXD, str_size], by rw [hXD, bytes_str hbl], by omega⟩)
      have HSL := Lib.hid (show (getFr l).1.sets.length ≤ 1000000 by have := getFr_sets l; omega)
      have HGC := Lib.hid (fun (W : World) (A2 : Option Addr) (c2 : Nat) (hg : GV W) (h1 : ReadsInt W .u8 A2 l.length l) (h2 : l.length ≤ c2) => get_came W hg A2 c2 l h1 h2 hbl hll)
      have hrg := fun W => rget_calls W l hbl hll
      rw [← hXD] at hrg
      have HRG := Lib.hid hrg
      clear hrg hXD hbl hll hle
      generalize hGF : getFr l = G at HSL HGC HRG
      obtain ⟨F, s, cd⟩ := G
      dsimp only at HSL HGC HRG
      clear hGF
      go_wp2_with (first
        | (refine gate_dst (N := 33) rfl ?_; refine makeb_ev rfl rfl 0 rfl rfl Tryd.underlying35 Tryd.infoB8 (by have := HK.out; omega) ?_; intro gm hg_ w30_ cs0 k_ e_ z_ b_; have Mm := Aside0.mk (show w.heap.size ≤ gm by rw [hg_]; exact V.out.size); have q0_ := Aside0.mk (V.out.trans (b_.mono V.out.size)); clear V; have V := q0_; clear q0_; have KM := Aside0.mk k_; have eM := Aside0.mk e_; clear hg_ k_ e_ z_ b_; have h_ := reads_of_blk (l := ([] : List Int)) KM.out eM.out (by have := zz; simp; try omega); rw [show ([] : List Int).length = 0 by simp] at h_; have cv := string_of_reads (c := 0) Tryd.underlying35 Tryd.underlying5 Tryd.underlying9 h_; rw [hsD] at cv; clear h_)
        | (refine gate_conv 45 rfl rfl ?_; refine bytes_ev rfl rfl (l) rfl Tryd.underlying9 Tryd.underlying35 Tryd.underlying5 HS.out.1 HS.out.2.1 HS.out.2.2 ?_; intro gy cy hg_ hc_ w31_ r_ z_ b_; have My := Aside0.mk (show w.heap.size ≤ gy by rw [hg_]; exact V.out.size); have Cy := Aside0.mk hc_; have q0_ := Aside0.mk (V.out.trans (b_.mono V.out.size)); clear V; have V := q0_; clear q0_; have Ry := Aside0.mk r_; clear hg_ hc_ r_ z_ b_)
        | (go_at_call 27; (refine (HGC.out _ _ _ (GV.below HGV.out V.out) Ry.out Cy.out).mono ?_); rintro e_ w50_ ⟨⟨v_, rfl, hc_⟩, h_⟩; obtain ⟨Ap, cp, Bp, mp, rfl, hA_, hB_⟩ := hc_; have b_ := h_; have q0_ := Aside0.mk (V.out.trans (b_.mono V.out.size)); clear V; have V := q0_; clear q0_; clear b_ h_; have HC := Aside0.mk (show FrCame _ F _ w50_ from ⟨Ap, cp, Bp, mp, rfl, hA_, hB_⟩); have U3 := Aside0.mk (Below.refl w50_.heap.size w50_); clear hA_ hB_ Ry Cy)
        | (refine gate_alloc 14 rfl rfl ?_; refine make_ev rfl (cs := frC ⟨0, 0, 0, [], 0, 0, 0, 0, false, 0, []⟩ nilS nilS) (t := 38) (by first | (go_simp; done) | (go_simp; rfl)) ?_; intro gf hg_ w51_ k_ z_ b_; have M3f := Aside0.mk (show w50_.heap.size ≤ gf by rw [hg_]; exact U3.out.size); have Mf := Aside0.mk (show w.heap.size ≤ gf by rw [hg_]; exact V.out.size); have q0_ := Aside0.mk (U3.out.trans (b_.mono U3.out.size)); have q1_ := Aside0.mk (V.out.trans (b_.mono V.out.size)); clear U3; clear V; have U3 := q0_; have V := q1_; clear q0_ q1_; have Kf := Aside0.mk k_; clear hg_ k_ z_ b_)
        | (refine gate_alloc 15 rfl rfl ?_; refine make_ev rfl (cs := #[.int .u8 0, .int .u32 0]) (t := 24) (by first | (go_simp; done) | (go_simp; rfl)) ?_; intro gb hg_ w52_ k_ z_ b_; have Nf_b := Aside0.mk (show gf ≠ gb by rw [hg_]; exact Nat.ne_of_lt (blk_lt Kf.out)); have M3b := Aside0.mk (show w50_.heap.size ≤ gb by rw [hg_]; exact U3.out.size); have Mb := Aside0.mk (show w.heap.size ≤ gb by rw [hg_]; exact V.out.size); have q0_ := Aside0.mk (blk_below Kf.out b_); have q1_ := Aside0.mk (U3.out.trans (b_.mono U3.out.size)); have q2_ := Aside0.mk (V.out.trans (b_.mono V.out.size)); clear Kf; clear U3; clear V; have Kf := q0_; have U3 := q1_; have V := q2_; clear q0_ q1_ q2_; have Kb := Aside0.mk k_; clear hg_ k_ z_ b_)
        | (refine gate_stored (t := 38) (p := .tmp 14) rfl ?_; refine store_ev rfl rfl rfl (g := gf) (k := 0) (u := (.agg (frC F (.slice Ap F.data.length cp) (.slice Bp F.sets.length mp)))) (cs' := frC F (.slice Ap F.data.length cp) (.slice Bp F.sets.length mp)) rfl rfl Kf.out (by kernel_rfl) (Nat.le_of_ble_eq_true rfl) rfl rfl ?_; intro w53_ k_ o_; have q0_ := Aside0.mk (o_.blk Kb.out Nf_b.out.symm); have q1_ := Aside0.mk (k_); have q2_ := Aside0.mk (o_.below U3.out M3f.out); have q3_ := Aside0.mk (o_.below V.out Mf.out); clear Kb; clear Kf; clear U3; clear V; have Kb := q0_; have Kf := q1_; have U3 := q2_; have V := q3_; clear q0_ q1_ q2_ q3_; clear k_ o_)
        | (refine gate_stored (t := 24) (p := .tmp 15) rfl ?_; refine store_ev rfl rfl rfl (g := gb) (k := 0) (u := (.agg #[.int .u8 s, .int .u32 cd])) (cs' := #[.int .u8 s, .int .u32 cd]) rfl rfl Kb.out (by kernel_rfl) (Nat.le_of_ble_eq_true rfl) rfl rfl ?_; intro w54_ k_ o_; have q0_ := Aside0.mk (o_.blk Kf.out Nf_b.out); have q1_ := Aside0.mk (k_); have q2_ := Aside0.mk (o_.below U3.out M3b.out); have q3_ := Aside0.mk (o_.below V.out Mb.out); clear Kf; clear Kb; clear U3; clear V; have Kf := q0_; have Kb := q1_; have U3 := q2_; have V := q3_; clear q0_ q1_ q2_ q3_; clear k_ o_)
        | (go_at_call 26; (refine (HRG.out _).mono ?_); rintro e_ w60_ hp_; obtain ⟨⟨Aq, cq, Bq, mq, rfl, hq_⟩, h_⟩ := RGetPost.of hp_; clear hp_; have b_ := h_; have q0_ := Aside0.mk (blk_below Kf.out b_); have q1_ := Aside0.mk (blk_below Kb.out b_); have q2_ := Aside0.mk (U3.out.trans (b_.mono U3.out.size)); have q3_ := Aside0.mk (V.out.trans (b_.mono V.out.size)); clear Kf; clear Kb; clear U3; clear V; have Kf := q0_; have Kb := q1_; have U3 := q2_; have V := q3_; clear q0_ q1_ q2_ q3_; clear b_ h_; have HQ := Aside0.mk hq_; have U6 := Aside0.mk (Below.refl w60_.heap.size w60_); clear hq_)
        | (refine gate_alloc 16 rfl rfl ?_; refine make_ev rfl (cs := fC ⟨0, 0, 0, [], 0, 0, 0, 0, false, 0, []⟩ nilS nilS 0 0) (t := 45) (by first | (go_simp; done) | (go_simp; rfl)) ?_; intro gx hg_ w61_ k_ z_ b_; have Nf_x := Aside0.mk (show gf ≠ gx by rw [hg_]; exact Nat.ne_of_lt (blk_lt Kf.out)); have Nb_x := Aside0.mk (show gb ≠ gx by rw [hg_]; exact Nat.ne_of_lt (blk_lt Kb.out)); have M3x := Aside0.mk (show w50_.heap.size ≤ gx by rw [hg_]; exact U3.out.size); have M6x := Aside0.mk (show w60_.heap.size ≤ gx by rw [hg_]; exact U6.out.size); have Mx := Aside0.mk (show w.heap.size ≤ gx by rw [hg_]; exact V.out.size); have q0_ := Aside0.mk (blk_below Kf.out b_); have q1_ := Aside0.mk (blk_below Kb.out b_); have q2_ := Aside0.mk (U3.out.trans (b_.mono U3.out.size)); have q3_ := Aside0.mk (U6.out.trans (b_.mono U6.out.size)); have q4_ := Aside0.mk (V.out.trans (b_.mono V.out.size)); clear Kf; clear Kb; clear U3; clear U6; clear V; have Kf := q0_; have Kb := q1_; have U3 := q2_; have U6 := q3_; have V := q4_; clear q0_ q1_ q2_ q3_ q4_; have Kx := Aside0.mk k_; clear hg_ k_ z_ b_)
        | (refine gate_stored (t := 45) (p := .tmp 16) rfl ?_; refine store_ev rfl rfl rfl (g := gx) (k := 0) (u := (.agg (fC F (.slice Aq F.data.length cq) (.slice Bq F.sets.length mq) s cd))) (cs' := fC F (.slice Aq F.data.length cq) (.slice Bq F.sets.length mq) s cd) rfl rfl Kx.out (by kernel_rfl) (Nat.le_of_ble_eq_true rfl) rfl rfl ?_; intro w62_ k_ o_; have q0_ := Aside0.mk (o_.blk Kf.out Nf_x.out); have q1_ := Aside0.mk (o_.blk Kb.out Nb_x.out); have q2_ := Aside0.mk (k_); have q3_ := Aside0.mk (o_.below U3.out M3x.out); have q4_ := Aside0.mk (o_.below U6.out M6x.out); have q5_ := Aside0.mk (o_.below V.out Mx.out); clear Kf; clear Kb; clear Kx; clear U3; clear U6; clear V; have Kf := q0_; have Kb := q1_; have Kx := q2_; have U3 := q3_; have U6 := q4_; have V := q5_; clear q0_ q1_ q2_ q3_ q4_ q5_; clear k_ o_)
        | (go_at_call 20; (with_reducible refine (fixed_calls _).mono ?_); rintro e_ w63_ ⟨rfl, h_⟩; have b_ := h_; have q0_ := Aside0.mk (blk_below Kf.out b_); have q1_ := Aside0.mk (blk_below Kb.out b_); have q2_ := Aside0.mk (blk_below Kx.out b_); have q3_ := Aside0.mk (U3.out.trans (b_.mono U3.out.size)); have q4_ := Aside0.mk (U6.out.trans (b_.mono U6.out.size)); have q5_ := Aside0.mk (V.out.trans (b_.mono V.out.size)); clear Kf; clear Kb; clear Kx; clear U3; clear U6; clear V; have Kf := q0_; have Kb := q1_; have Kx := q2_; have U3 := q3_; have U6 := q4_; have V := q5_; clear q0_ q1_ q2_ q3_ q4_ q5_; clear b_ h_)
        | (refine gate_load (t := 38) 53 rfl rfl ?_; (try (refine gate_guard (by rfl) ?_; dsimp only)); refine load_ev rfl rfl rfl Kf.out Tryd.underlying38 rfl (by kernel_rfl) ?_)
        | (refine gate_load (t := 38) 55 rfl rfl ?_; (try (refine gate_guard (by rfl) ?_; dsimp only)); refine load_pre_ev rfl rfl rfl Kx.out (cs' := frC F (.slice Aq F.data.length cq) (.slice Bq F.sets.length mq)) rfl Tryd.underlying38 rfl (by kernel_rfl) ?_)
        | (go_at_call 28; have r1_ := (FrCame.below HC.out U3.out).rows; have r2_ := (FrCame.below HQ.out U6.out).rows; (refine (rsame_calls _ F Ap Aq Bp Bq cp cq mp mq r1_.1 r1_.2.1 r2_.1 r2_.2.1 r1_.2.2 r2_.2.2 HSL.out).mono ?_); clear r1_ r2_; rintro e_ w64_ ⟨rfl, h_⟩; have b_ := h_; have q0_ := Aside0.mk (blk_below Kf.out b_); have q1_ := Aside0.mk (blk_below Kb.out b_); have q2_ := Aside0.mk (blk_below Kx.out b_); have q3_ := Aside0.mk (U3.out.trans (b_.mono U3.out.size)); have q4_ := Aside0.mk (U6.out.trans (b_.mono U6.out.size)); have q5_ := Aside0.mk (V.out.trans (b_.mono V.out.size)); clear Kf; clear Kb; clear Kx; clear U3; clear U6; clear V; have Kf := q0_; have Kb := q1_; have Kx := q2_; have U3 := q3_; have U6 := q4_; have V := q5_; clear q0_ q1_ q2_ q3_ q4_ q5_; clear b_ h_)
        | (refine gate_load (t := 24) 59 rfl rfl ?_; (try (refine gate_guard (by rfl) ?_; dsimp only)); refine load_ev rfl rfl rfl Kb.out Tryd.underlying24 rfl (by kernel_rfl) ?_)
        | (refine gate_load (t := 5) 61 rfl rfl ?_; (try (refine gate_guard (by rfl) ?_; dsimp only)); refine loadf_ev rfl rfl rfl Kx.out rfl Tryd.underlying5 rfl ?_)
        | (refine gate_load (t := 22) 63 rfl rfl ?_; (try (refine gate_guard (by rfl) ?_; dsimp only)); refine loadf_ev rfl rfl rfl Kx.out rfl Tryd.underlying22 rfl ?_))
      exact HP.out _ _ ⟨rfl, V.out⟩
    | succ j =>
      have p0 : (0 : Int) < (j : Int) + 1 := by omega
      have p1 : decide ((0 : Int) < (j : Int) + 1) = true := decide_eq_true p0
      have p2 : 0 < j + 1 := by omega
      have zz : 9 + (first :: List.replicate j 0).length ≤ 9223372036854775807 := by have := HK.out; simp; try omega
      have HBB := Lib.hid (show Byte8 (first :: List.replicate j 0) from fun x hx => by first | (cases hx; done) | (rcases List.mem_cons.1 hx with rfl | hx; exact HI.out; obtain ⟨-, rfl⟩ := List.mem_replicate.1 hx; exact ⟨by decide, by decide⟩))
      obtain ⟨sD, hsD⟩ : ∃ sD, strOfNums (first :: List.replicate j 0) = sD := ⟨_, rfl⟩
      have zD : sD.size = (first :: List.replicate j 0).length := by rw [← hsD, str_size]
      have hXD : sX ++ sD = strOfNums (lX ++ (first :: List.replicate j 0)) := by rw [HX.out, ← hsD, strs_append]
      have hbl : Byte8 (lX ++ (first :: List.replicate j 0)) := fun x hx => by rcases List.mem_append.1 hx with hx | hx; exact HBX.out x hx; exact HBB.out x hx
      have hll : (lX ++ (first :: List.replicate j 0)).length ≤ 100000 := by have := HLX.out; have := HK.out; simp; omega
      obtain ⟨l, hle⟩ : ∃ l, lX ++ (first :: List.replicate j 0) = l := ⟨_, rfl⟩
      rw [hle] at hXD hbl hll
      have HS := Lib.hid (show (sX ++ sD).size = l.length ∧ bytesOf (sX ++ sD) = l ∧ l.length ≤ 9223372036854775807 from ⟨by rw [hXD, str_size], by rw [hXD, bytes_str hbl], by omega⟩)
      have HSL := Lib.hid (show (getFr l).1.sets.length ≤ 1000000 by have := getFr_sets l; omega)
      have HGC := Lib.hid (fun (W : World) (A2 : Option Addr) (c2 : Nat) (hg : GV W) (h1 : ReadsInt W .u8 A2 l.length l) (h2 : l.length ≤ c2) => get_came W hg A2 c2 l h1 h2 hbl hll)
      have hrg := fun W => rget_calls W l hbl hll
      rw [← hXD] at hrg
      have HRG := Lib.hid hrg
      clear hrg hXD hbl hll hle
      generalize hGF : getFr l = G at HSL HGC HRG
      obtain ⟨F, s, cd⟩ := G
      dsimp only at HSL HGC HRG
      clear hGF
      go_wp2_with (first
        | (refine gate_dst (N := 33) rfl ?_; refine makeb_ev rfl rfl (j + 1) rfl rfl Tryd.underlying35 Tryd.infoB8 (by have := HK.out; omega) ?_; intro gm hg_ w30_ cs0 k_ e_ z_ b_; have Mm := Aside0.mk (show w.heap.size ≤ gm by rw [hg_]; exact V.out.size); have q0_ := Aside0.mk (V.out.trans (b_.mono V.out.size)); clear V; have V := q0_; clear q0_; have KM := Aside0.mk k_; have eM := Aside0.mk e_; clear hg_ k_ e_ z_ b_)
        | (refine gate_stored (t := 5) (p := .tmp 38) rfl ?_; refine store_ev rfl rfl rfl (g := gm) (k := 0) (u := .int .u8 first) (cs' := (nums .u8 (first :: List.replicate j 0)).toArray) rfl rfl KM.out (by kernel_rfl) (by rw [← Array.length_toList, eM.out]; simp [nums, Value.cells]) rfl (by rw [eM.out]; simp [nums, Value.cells, List.replicate_succ]) ?_; intro w31_ k_ o_; have q0_ := Aside0.mk (o_.below V.out Mm.out); clear V KM eM; have V := q0_; have KM := Aside0.mk k_; have eM := Aside0.mk (show (nums .u8 (first :: List.replicate j 0)).toArray.toList = nums .u8 (first :: List.replicate j 0) from by simp); clear q0_ k_ o_; have h_ := reads_of_blk (l := (first :: List.replicate j 0)) KM.out eM.out (by have := zz; simp; try omega); rw [show (first :: List.replicate j 0).length = (j + 1) by simp] at h_; have cv := string_of_reads (c := (j + 1)) Tryd.underlying35 Tryd.underlying5 Tryd.underlying9 h_; rw [hsD] at cv; clear h_)
        | (refine gate_conv 45 rfl rfl ?_; refine bytes_ev rfl rfl (l) rfl Tryd.underlying9 Tryd.underlying35 Tryd.underlying5 HS.out.1 HS.out.2.1 HS.out.2.2 ?_; intro gy cy hg_ hc_ w32_ r_ z_ b_; have My := Aside0.mk (show w.heap.size ≤ gy by rw [hg_]; exact V.out.size); have Cy := Aside0.mk hc_; have q0_ := Aside0.mk (V.out.trans (b_.mono V.out.size)); clear V; have V := q0_; clear q0_; have Ry := Aside0.mk r_; clear hg_ hc_ r_ z_ b_)
        | (go_at_call 27; (refine (HGC.out _ _ _ (GV.below HGV.out V.out) Ry.out Cy.out).mono ?_); rintro e_ w50_ ⟨⟨v_, rfl, hc_⟩, h_⟩; obtain ⟨Ap, cp, Bp, mp, rfl, hA_, hB_⟩ := hc_; have b_ := h_; have q0_ := Aside0.mk (V.out.trans (b_.mono V.out.size)); clear V; have V := q0_; clear q0_; clear b_ h_; have HC := Aside0.mk (show FrCame _ F _ w50_ from ⟨Ap, cp, Bp, mp, rfl, hA_, hB_⟩); have U3 := Aside0.mk (Below.refl w50_.heap.size w50_); clear hA_ hB_ Ry Cy)
        | (refine gate_alloc 14 rfl rfl ?_; refine make_ev rfl (cs := frC ⟨0, 0, 0, [], 0, 0, 0, 0, false, 0, []⟩ nilS nilS) (t := 38) (by first | (go_simp; done) | (go_simp; rfl)) ?_; intro gf hg_ w51_ k_ z_ b_; have M3f := Aside0.mk (show w50_.heap.size ≤ gf by rw [hg_]; exact U3.out.size); have Mf := Aside0.mk (show w.heap.size ≤ gf by rw [hg_]; exact V.out.size); have q0_ := Aside0.mk (U3.out.trans (b_.mono U3.out.size)); have q1_ := Aside0.mk (V.out.trans (b_.mono V.out.size)); clear U3; clear V; have U3 := q0_; have V := q1_; clear q0_ q1_; have Kf := Aside0.mk k_; clear hg_ k_ z_ b_)
        | (refine gate_alloc 15 rfl rfl ?_; refine make_ev rfl (cs := #[.int .u8 0, .int .u32 0]) (t := 24) (by first | (go_simp; done) | (go_simp; rfl)) ?_; intro gb hg_ w52_ k_ z_ b_; have Nf_b := Aside0.mk (show gf ≠ gb by rw [hg_]; exact Nat.ne_of_lt (blk_lt Kf.out)); have M3b := Aside0.mk (show w50_.heap.size ≤ gb by rw [hg_]; exact U3.out.size); have Mb := Aside0.mk (show w.heap.size ≤ gb by rw [hg_]; exact V.out.size); have q0_ := Aside0.mk (blk_below Kf.out b_); have q1_ := Aside0.mk (U3.out.trans (b_.mono U3.out.size)); have q2_ := Aside0.mk (V.out.trans (b_.mono V.out.size)); clear Kf; clear U3; clear V; have Kf := q0_; have U3 := q1_; have V := q2_; clear q0_ q1_ q2_; have Kb := Aside0.mk k_; clear hg_ k_ z_ b_)
        | (refine gate_stored (t := 38) (p := .tmp 14) rfl ?_; refine store_ev rfl rfl rfl (g := gf) (k := 0) (u := (.agg (frC F (.slice Ap F.data.length cp) (.slice Bp F.sets.length mp)))) (cs' := frC F (.slice Ap F.data.length cp) (.slice Bp F.sets.length mp)) rfl rfl Kf.out (by kernel_rfl) (Nat.le_of_ble_eq_true rfl) rfl rfl ?_; intro w53_ k_ o_; have q0_ := Aside0.mk (o_.blk Kb.out Nf_b.out.symm); have q1_ := Aside0.mk (k_); have q2_ := Aside0.mk (o_.below U3.out M3f.out); have q3_ := Aside0.mk (o_.below V.out Mf.out); clear Kb; clear Kf; clear U3; clear V; have Kb := q0_; have Kf := q1_; have U3 := q2_; have V := q3_; clear q0_ q1_ q2_ q3_; clear k_ o_)
        | (refine gate_stored (t := 24) (p := .tmp 15) rfl ?_; refine store_ev rfl rfl rfl (g := gb) (k := 0) (u := (.agg #[.int .u8 s, .int .u32 cd])) (cs' := #[.int .u8 s, .int .u32 cd]) rfl rfl Kb.out (by kernel_rfl) (Nat.le_of_ble_eq_true rfl) rfl rfl ?_; intro w54_ k_ o_; have q0_ := Aside0.mk (o_.blk Kf.out Nf_b.out); have q1_ := Aside0.mk (k_); have q2_ := Aside0.mk (o_.below U3.out M3b.out); have q3_ := Aside0.mk (o_.below V.out Mb.out); clear Kf; clear Kb; clear U3; clear V; have Kf := q0_; have Kb := q1_; have U3 := q2_; have V := q3_; clear q0_ q1_ q2_ q3_; clear k_ o_)
        | (go_at_call 26; (refine (HRG.out _).mono ?_); rintro e_ w60_ hp_; obtain ⟨⟨Aq, cq, Bq, mq, rfl, hq_⟩, h_⟩ := RGetPost.of hp_; clear hp_; have b_ := h_; have q0_ := Aside0.mk (blk_below Kf.out b_); have q1_ := Aside0.mk (blk_below Kb.out b_); have q2_ := Aside0.mk (U3.out.trans (b_.mono U3.out.size)); have q3_ := Aside0.mk (V.out.trans (b_.mono V.out.size)); clear Kf; clear Kb; clear U3; clear V; have Kf := q0_; have Kb := q1_; have U3 := q2_; have V := q3_; clear q0_ q1_ q2_ q3_; clear b_ h_; have HQ := Aside0.mk hq_; have U6 := Aside0.mk (Below.refl w60_.heap.size w60_); clear hq_)
        | (refine gate_alloc 16 rfl rfl ?_; refine make_ev rfl (cs := fC ⟨0, 0, 0, [], 0, 0, 0, 0, false, 0, []⟩ nilS nilS 0 0) (t := 45) (by first | (go_simp; done) | (go_simp; rfl)) ?_; intro gx hg_ w61_ k_ z_ b_; have Nf_x := Aside0.mk (show gf ≠ gx by rw [hg_]; exact Nat.ne_of_lt (blk_lt Kf.out)); have Nb_x := Aside0.mk (show gb ≠ gx by rw [hg_]; exact Nat.ne_of_lt (blk_lt Kb.out)); have M3x := Aside0.mk (show w50_.heap.size ≤ gx by rw [hg_]; exact U3.out.size); have M6x := Aside0.mk (show w60_.heap.size ≤ gx by rw [hg_]; exact U6.out.size); have Mx := Aside0.mk (show w.heap.size ≤ gx by rw [hg_]; exact V.out.size); have q0_ := Aside0.mk (blk_below Kf.out b_); have q1_ := Aside0.mk (blk_below Kb.out b_); have q2_ := Aside0.mk (U3.out.trans (b_.mono U3.out.size)); have q3_ := Aside0.mk (U6.out.trans (b_.mono U6.out.size)); have q4_ := Aside0.mk (V.out.trans (b_.mono V.out.size)); clear Kf; clear Kb; clear U3; clear U6; clear V; have Kf := q0_; have Kb := q1_; have U3 := q2_; have U6 := q3_; have V := q4_; clear q0_ q1_ q2_ q3_ q4_; have Kx := Aside0.mk k_; clear hg_ k_ z_ b_)
        | (refine gate_stored (t := 45) (p := .tmp 16) rfl ?_; refine store_ev rfl rfl rfl (g := gx) (k := 0) (u := (.agg (fC F (.slice Aq F.data.length cq) (.slice Bq F.sets.length mq) s cd))) (cs' := fC F (.slice Aq F.data.length cq) (.slice Bq F.sets.length mq) s cd) rfl rfl Kx.out (by kernel_rfl) (Nat.le_of_ble_eq_true rfl) rfl rfl ?_; intro w62_ k_ o_; have q0_ := Aside0.mk (o_.blk Kf.out Nf_x.out); have q1_ := Aside0.mk (o_.blk Kb.out Nb_x.out); have q2_ := Aside0.mk (k_); have q3_ := Aside0.mk (o_.below U3.out M3x.out); have q4_ := Aside0.mk (o_.below U6.out M6x.out); have q5_ := Aside0.mk (o_.below V.out Mx.out); clear Kf; clear Kb; clear Kx; clear U3; clear U6; clear V; have Kf := q0_; have Kb := q1_; have Kx := q2_; have U3 := q3_; have U6 := q4_; have V := q5_; clear q0_ q1_ q2_ q3_ q4_ q5_; clear k_ o_)
        | (go_at_call 20; (with_reducible refine (fixed_calls _).mono ?_); rintro e_ w63_ ⟨rfl, h_⟩; have b_ := h_; have q0_ := Aside0.mk (blk_below Kf.out b_); have q1_ := Aside0.mk (blk_below Kb.out b_); have q2_ := Aside0.mk (blk_below Kx.out b_); have q3_ := Aside0.mk (U3.out.trans (b_.mono U3.out.size)); have q4_ := Aside0.mk (U6.out.trans (b_.mono U6.out.size)); have q5_ := Aside0.mk (V.out.trans (b_.mono V.out.size)); clear Kf; clear Kb; clear Kx; clear U3; clear U6; clear V; have Kf := q0_; have Kb := q1_; have Kx := q2_; have U3 := q3_; have U6 := q4_; have V := q5_; clear q0_ q1_ q2_ q3_ q4_ q5_; clear b_ h_)
        | (refine gate_load (t := 38) 53 rfl rfl ?_; (try (refine gate_guard (by rfl) ?_; dsimp only)); refine load_ev rfl rfl rfl Kf.out Tryd.underlying38 rfl (by kernel_rfl) ?_)
        | (refine gate_load (t := 38) 55 rfl rfl ?_; (try (refine gate_guard (by rfl) ?_; dsimp only)); refine load_pre_ev rfl rfl rfl Kx.out (cs' := frC F (.slice Aq F.data.length cq) (.slice Bq F.sets.length mq)) rfl Tryd.underlying38 rfl (by kernel_rfl) ?_)
        | (go_at_call 28; have r1_ := (FrCame.below HC.out U3.out).rows; have r2_ := (FrCame.below HQ.out U6.out).rows; (refine (rsame_calls _ F Ap Aq Bp Bq cp cq mp mq r1_.1 r1_.2.1 r2_.1 r2_.2.1 r1_.2.2 r2_.2.2 HSL.out).mono ?_); clear r1_ r2_; rintro e_ w64_ ⟨rfl, h_⟩; have b_ := h_; have q0_ := Aside0.mk (blk_below Kf.out b_); have q1_ := Aside0.mk (blk_below Kb.out b_); have q2_ := Aside0.mk (blk_below Kx.out b_); have q3_ := Aside0.mk (U3.out.trans (b_.mono U3.out.size)); have q4_ := Aside0.mk (U6.out.trans (b_.mono U6.out.size)); have q5_ := Aside0.mk (V.out.trans (b_.mono V.out.size)); clear Kf; clear Kb; clear Kx; clear U3; clear U6; clear V; have Kf := q0_; have Kb := q1_; have Kx := q2_; have U3 := q3_; have U6 := q4_; have V := q5_; clear q0_ q1_ q2_ q3_ q4_ q5_; clear b_ h_)
        | (refine gate_load (t := 24) 59 rfl rfl ?_; (try (refine gate_guard (by rfl) ?_; dsimp only)); refine load_ev rfl rfl rfl Kb.out Tryd.underlying24 rfl (by kernel_rfl) ?_)
        | (refine gate_load (t := 5) 61 rfl rfl ?_; (try (refine gate_guard (by rfl) ?_; dsimp only)); refine loadf_ev rfl rfl rfl Kx.out rfl Tryd.underlying5 rfl ?_)
        | (refine gate_load (t := 22) 63 rfl rfl ?_; (try (refine gate_guard (by rfl) ?_; dsimp only)); refine loadf_ev rfl rfl rfl Kx.out rfl Tryd.underlying22 rfl ?_))
      exact HP.out _ _ ⟨rfl, V.out⟩
theorem frameWrong_walk (kind flags stream n first : Int) (W : World) (w0 : (Lit.int .u8 kind).wf = true) (w1 : (Lit.int .u8 flags).wf = true) (w2 : (Lit.int .u32 stream).wf = true) (w3 : (Lit.int .u16 n).wf = true) (w4 : (Lit.int .u8 first).wf = true) (hG : GV W) :
    Calls Tryd.prog 6 #[.int .u8 kind, .int .u8 flags, .int .u32 stream, .int .u16 n, .int .u8 first] W fun e w' => e = .returned (.bool true) ∧ Below W.heap.size W w' := by
  simp [Lit.wf, IntKind.min, IntKind.max, IntKind.signed, IntKind.bits] at w0 w1 w2 w3 w4
  exact frameWrong_text W kind flags stream n first (n % 16400).toNat (by omega) (by omega) (by omega) (by omega) (by omega) (by omega) (by omega) (by omega) (by omega) (by omega) (by omega) (by omega) hG
end Go.Proofs.YtjjfkmniffbgkaaDoor

/- From the row's list to the cell of errors.errorType; bounds of numbers that came in. -/
namespace Go.Proofs.YtjjfkmniffbgkaaDoor
set_option linter.unusedVariables false
set_option linter.unusedSimpArgs false
open Go.RowKit
theorem Tryd.et : Tryd.prog.globalNamed "errors.errorType" = some 1 := by kernel_rfl
theorem Tryd.rt : (Tryd.prog.cutTypes.find? (·.1 == "internal/reflectlite.rtype")).map (·.2) = some 130 := by kernel_rfl
theorem Tryd.oneRow : ((List.range 182).filter fun t => Tryd.prog.rowNamed t [101, 114, 114, 111, 114]) = [28] := by kernel_rfl
theorem Tryd.sizeT : Tryd.prog.types.size = 182 := by kernel_rfl
theorem gv_of_laid {W : World} (h : laidMetH Tryd.prog [("errors.errorType", Rows.laid_errors_errorType)] W) : GV W := by
  have h' : laidMet Tryd.prog [] W ∧ handlesMet Tryd.prog [("errors.errorType", Rows.laid_errors_errorType)] W := h
  obtain ⟨name, u, ty, e1, e2, e3, e4, e5⟩ := h'.2 _ (List.mem_singleton.2 rfl)
  have en : name = [101, 114, 114, 111, 114] := (Option.some.inj e1).symm
  subst en
  obtain rfl := Option.some.inj (Tryd.rt.symm.trans e2)
  have hm : ty ∈ (List.range 182).filter fun t => Tryd.prog.rowNamed t [101, 114, 114, 111, 114] := List.mem_filter.2 ⟨List.mem_range.2 (by rw [← Tryd.sizeT]; exact e3), e4⟩
  rw [Tryd.oneRow] at hm
  obtain rfl := List.mem_singleton.1 hm
  have hh : typeHandle Tryd.prog 28 = hOf 28 := by kernel_rfl
  rw [hh] at e5
  unfold GV
  simpa using World.var?_cell Tryd.et e5 0
end Go.Proofs.YtjjfkmniffbgkaaDoor

/- The statement of louver/louverlaw07.FrameWrong: for every input it returns true, and each argument reads behind the call as it read before; no other condition than the row's own. -/
namespace Go.Proofs.YtjjfkmniffbgkaaDoor.frameWrong
set_option linter.unusedVariables false
set_option linter.unusedSimpArgs false
open Go.ChangeShapes Go.WideShapes Go.ChangeAt Go.RowKit
open Go.ChangeMaps (open_string shut_string)
set_option linter.unusedVariables false
theorem own : ownKnob Tryd.prog.godebug = none := by kernel_rfl
theorem laidOut : laidOutB Tryd.prog = true := by kernel_rfl
set_option maxRecDepth 100000 in
theorem contract (H : Type) (enc : TypeId × Value → H) (W : World) (base : Nat) (args : Array Value) (ds gs : List (DataW H)) (before : List MemPlace)
    (hval : ∀ (j : Nat) t v, Tryd.f6.params[j]? = some t → args[j]? = some v → Value.okWide Tryd.prog W .any base t v)
    (hW : DataW.Whole enc Tryd.prog Tryd.f6.params.toList Rows.frameWrongSpec.vars false W args.toList ds gs before)
    (hsz : (DataW.weightsEach Tryd.prog (Tryd.f6.params.toList ++ Rows.frameWrongSpec.plain.varTypes Tryd.prog) (ds ++ gs)).all (· ≤ reachBytes) = true)
    (hL : laidMetH Tryd.prog Rows.frameWrongRow.laid W) (hS : W.ShapedOpen Tryd.prog) :
    Calls Tryd.prog 6 args W fun e W' => ∃ v, e = .returned v ∧ Rows.frameWrongSpec.post enc Tryd.prog Tryd.f6 false true false false W args v W' := by
  have hW' := hW
  obtain ⟨p, q, hA0, hV, rfl, hfz, hnd⟩ := hW
  have hA : DataW.TrodAll enc Tryd.prog W 0 (fun _ => true) true Tryd.f6.params.toList args.toList ds p := hA0
  rw [Tryd.params6] at hA hval hsz
  obtain ⟨v0, vs0, d0, ds0, p0, q0, hargs, rfl, rfl, h0, r0⟩ := trodAll_cons hA
  obtain ⟨v1, vs1, d1, ds1, p1, q1, rfl, rfl, rfl, h1, r1⟩ := trodAll_cons r0
  obtain ⟨v2, vs2, d2, ds2, p2, q2, rfl, rfl, rfl, h2, r2⟩ := trodAll_cons r1
  obtain ⟨v3, vs3, d3, ds3, p3, q3, rfl, rfl, rfl, h3, r3⟩ := trodAll_cons r2
  obtain ⟨v4, vs4, d4, ds4, p4, q4, rfl, rfl, rfl, h4, r4⟩ := trodAll_cons r3
  obtain ⟨rfl, rfl, rfl⟩ := trodAll_nil r4
  obtain rfl : args = #[v0, v1, v2, v3, v4] := by cases args; simp_all
  obtain ⟨rfl, rfl⟩ := trodVars_none hV
  obtain ⟨a0, rfl, rfl, rfl, w0⟩ := open_int Tryd.underlying5 (hval 0 5 v0 rfl rfl) h0
  obtain ⟨a1, rfl, rfl, rfl, w1⟩ := open_int Tryd.underlying5 (hval 1 5 v1 rfl rfl) h1
  obtain ⟨a2, rfl, rfl, rfl, w2⟩ := open_int Tryd.underlying22 (hval 2 22 v2 rfl rfl) h2
  obtain ⟨a3, rfl, rfl, rfl, w3⟩ := open_int Tryd.underlying52 (hval 3 52 v3 rfl rfl) h3
  obtain ⟨a4, rfl, rfl, rfl, w4⟩ := open_int Tryd.underlying5 (hval 4 5 v4 rfl rfl) h4
  clear hA0 hval
  refine (frameWrong_walk a0 a1 a2 a3 a4 W w0 w1 w2 w3 w4 (gv_of_laid hL)).mono fun e W' ⟨he, bel⟩ => ?_
  subst he
  exact ⟨_, rfl, _, _, _, [], _, [], hW', trodAll_mk1 (shut_bool Tryd.underlying4 _), (trodAll_cons_mk (shut_int Tryd.underlying5 w0) (trodAll_cons_mk (shut_int Tryd.underlying5 w1) (trodAll_cons_mk (shut_int Tryd.underlying22 w2) (trodAll_cons_mk (shut_int Tryd.underlying52 w3) (trodAll_cons_mk (shut_int Tryd.underlying5 w4) trodAll_mk0))))), rfl, bel.frame _, fun h => by cases h⟩
noncomputable def laidWorld (os : Os) : World :=
  { World.holding Tryd.prog os ⟨#[], #[], []⟩ with heap := (World.holding Tryd.prog os ⟨#[], #[], []⟩).heap.modify 1 fun
      | .cells _ t frozen => .cells #[.iface 130 (.agg #[.pointer (some ⟨5, 28, none⟩)])] t frozen
      | o => o }
set_option maxRecDepth 100000 in
theorem laid_met (os : Os) (args : Array Value) : laidMetH Tryd.prog Rows.frameWrongRow.laid ((laidWorld os).forCall (fun _ _ => 0) ⟨#[], args, []⟩).memory := laidMetH_of_parts (laidMet_nil _ _) (by kernel_rfl)
set_option maxRecDepth 100000 in
theorem lifted (os : Os) (started : os.Started) (H : Type) (enc : TypeId × Value → H) (F : Stop.Interp) :
    ReturnsInHanded {} Tryd.checked os 6 .any ((OpenSpec.ofChange Rows.frameWrongSpec).preRow enc Tryd.prog Tryd.f6 Rows.frameWrongRow.domain false Rows.frameWrongRow.laid) (((OpenSpec.ofChange Rows.frameWrongSpec).at F).post enc Tryd.prog Tryd.f6 false true false false) := by
  refine returnsInHanded_of_row (C := Tryd.checked) (s := (OpenSpec.ofChange Rows.frameWrongSpec)) own started (by kernel_rfl) Tryd.func6
    (witness_row_at (enc := enc) (C := Tryd.checked) false (laidWorld os) #[.int .u8 0, .int .u8 0, .int .u32 0, .int .u16 0, .int .u8 0] rfl (by kernel_rfl) (by kernel_rfl) (by kernel_rfl)
      (OpenSpec.preRow_of_cond 8 (x := ([.lit (.int .u8 0), .lit (.int .u8 0), .lit (.int .u32 0), .lit (.int .u16 0), .lit (.int .u8 0)], [], [])) (by kernel_rfl) (by kernel_rfl) (fun k hk => by cases hk) (by kernel_rfl) (laid_met os _))) ?_
  intro W base args ds gs before hval hW _ hcond hsz hL hS _
  exact contract H enc W base args ds gs before hval hW hsz hL hS
theorem said : Rows.FrameWrongSaid :=
  OpenClaim.holds_of_cond 6 Tryd.f6 rfl rfl rfl rfl rfl rfl rfl ⟨rfl, rfl, rfl, rfl, rfl⟩ rfl rfl rfl rfl rfl (by kernel_rfl) Tryd.func6 (by kernel_rfl)
    (of_decide_eq_true (by kernel_rfl)) (by unfold Func.isWrapper; first | (rw [if_pos (by decide +kernel)]; kernel_rfl) | (rw [if_neg (by decide +kernel)]; exact ⟨rfl, rfl⟩))
    (fun os started H enc _ F => by rw [OpenClaim.pre_eq_preRow]; exact lifted os started H enc F)
theorem plain (f : FuncId) (fn : Func) (hf : Tryd.pinned.checked.prog.funcNamed "louver/louverlaw07.FrameWrong" = some f) (hfn : Tryd.pinned.checked.prog.funcs[f]? = some fn) :
    true = Tryd.pinned.checked.prog.looks [] ∧ ∀ (j : Nat) t, fn.params[j]? = some t → Tryd.pinned.checked.prog.wantsStandIn t = false := by
  obtain rfl : f = 6 := Option.some.inj ((show Tryd.prog.funcNamed "louver/louverlaw07.FrameWrong" = some 6 by kernel_rfl).symm.trans hf) |>.symm
  obtain rfl : fn = Tryd.f6 := (Option.some.inj (Tryd.func6.symm.trans hfn)).symm
  refine ⟨by kernel_rfl, fun j t ht => ?_⟩
  rw [Tryd.params6] at ht
  have hm := Array.mem_of_getElem? ht
  have hall : ∀ t ∈ #[5, 5, 22, 52, 5], Tryd.prog.wantsStandIn t = false := by intro t h; simp only [List.mem_toArray, List.mem_cons, List.not_mem_nil, or_false] at h; rcases h with rfl | rfl | rfl | rfl | rfl <;> kernel_rfl
  exact hall t hm
theorem card : Rows.FrameWrongCardSaid :=
  Claim7.holds_tied_plain_at .later [] _ _ _ _ said (fun _ h => by cases h) (by kernel_rfl) (fun _ h => by cases h) frameWrong_row_tie rfl ⟨rfl, rfl⟩ (by kernel_rfl) rfl plain (by kernel_rfl)
#print axioms card
end Go.Proofs.YtjjfkmniffbgkaaDoor.frameWrong
