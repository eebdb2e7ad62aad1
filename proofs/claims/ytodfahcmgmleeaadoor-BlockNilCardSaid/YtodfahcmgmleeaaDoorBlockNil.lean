/- The law BlockNil, walked. -/
import Derived.Test.YtodfahcmgmleeaaDoorBlockFix
import Derived.Test.YtodfahcmgmleeaaDoorFrameIn
namespace Go.Proofs.YtodfahcmgmleeaaDoor
open Go.RowKit Go.Proofs.YtodfahcmgmleeaaDoorW.PrintWords
attribute [local go_sem high] eqFault

set_option maxHeartbeats 2000000 in
set_option maxRecDepth 100000 in
theorem blockNil_walk (w : World) (ty fl st pad code oth wgt win : Int) (al : Bool) (D S : Value) (hgv : GV w) :
    Calls Tryd.prog 4 #[frV ty fl st D pad code oth wgt win al S] w fun ev w' => ev = .returned (.bool true) ∧ Below w.heap.size w w' := by
  refine of_post fun R hRR => ?_
  have HP := Lib.hid hRR
  clear hRR
  have HV := Lib.hid hgv
  have hgb := World.block_lt_of_cell? w _ hgv
  clear hgv
  go_enter Tryd.func4, Tryd.ntmps4
  go_wp2_with fail
  refine (take_nil _ _ _ _ _ _ _ _ _ _ _ _).mono ?_
  rintro e w1 ⟨rfl, hb1⟩
  have hs1 := hb1.size
  have HB1 := Lib.hid hb1
  clear hb1
  go_wp2_with fail
  have hB2 : Below w.heap.size w ((w1.alloc whO).alloc (faO 1 2)) := (((((Below.refl w.heap.size w).alloc (Nat.le_refl _) (frO ty fl st D pad code oth wgt win al S)).trans (HB1.out.mono (by simp))).alloc (by simp at hs1; omega) _).alloc (by simp at hs1 ⊢; omega) _)
  have p1 := blk_alloc (blk_new w1 whO) (faO 1 2)
  have p2 := blk_new1 w1 whO (faO 1 2)
  refine (fixed12 _ (HV.out.below hB2) (by have := hB2.size; omega)).mono ?_
  rintro e w3 ⟨rfl, hb3⟩
  have hs3 := hb3.size
  have r1 := blk_below p1 hb3
  have r2 := blk_below p2 hb3
  have q1 := blk_cell r1 1
  obtain ⟨k0, k1, -, -⟩ := blk2 r2
  have hz0 : w1.heap.size < w3.heap.size := blk_lt r1
  have hz1 : w1.heap.size + 1 < w3.heap.size := blk_lt r2
  simp at q1
  have HB3 := Lib.hid (hB2.trans (hb3.mono hB2.size))
  clear p1 p2 r1 r2 hb3 hB2
  go_wp2_with fail
  refine (busy_nil _).mono ?_
  rintro e w4 ⟨rfl, rfl⟩
  go_wp2_with fail
  refine (held_nil _).mono ?_
  rintro e w4 ⟨rfl, rfl⟩
  go_wp2_with fail
  exact HP.out _ _ ⟨rfl, HB3.out⟩

theorem agg_of {cs : Array Value} {l : List Value} (h : cs.toList = l) : cs = l.toArray := by subst h; simp
set_option maxRecDepth 100000 in
/-- A frame by value, opened. -/
theorem open_frame_arg {H : Type} {enc : TypeId × Value → H} {W : World} {b0 : Nat} {v : Value} {d : DataW H} {p : List MemPlace} (hv : Value.okWide Tryd.prog W .any b0 32 v)
    (h : DataW.Trod enc Tryd.prog W 0 (fun _ => true) true 32 v d p) : ∃ ty fl st A n c pad code oth wgt al win S data, v = frV ty fl st (.slice A n c) pad code oth wgt win al S ∧ FrIs W ty fl st A n pad code oth wgt win data S := by
  obtain ⟨cs, rfl, -⟩ := Go.WideShapes.okWide_struct Tryd.underlying32 hv
  obtain ⟨fuel, hf⟩ := h
  obtain ⟨ty, fl, st, A, n, c, pad, code, oth, wgt, al, win, S, data, hc, hF⟩ := open_frame hf
  refine ⟨ty, fl, st, A, n, c, pad, code, oth, wgt, al, win, S, data, ?_, hF⟩
  exact congrArg Value.agg (agg_of hc)
end Go.Proofs.YtodfahcmgmleeaaDoor
