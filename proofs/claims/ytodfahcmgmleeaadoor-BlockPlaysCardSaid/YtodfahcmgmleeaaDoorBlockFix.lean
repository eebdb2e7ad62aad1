/- The chapter's example. -/
import Derived.Test.YtodfahcmgmleeaaDoorBlockGo
import Derived.Handy
namespace Go.Proofs.YtodfahcmgmleeaaDoor
set_option linter.unusedVariables false
set_option linter.unusedSimpArgs false
open Go.RowKit Go.Proofs.YtodfahcmgmleeaaDoorW.PrintWords
attribute [local go_sem high] eqFault

theorem Tryd.mk8 : ∀ W : World, (Instr.makeSlice 29 (.int .i64 8) (.int .i64 8)).run Tryd.prog W = .ok (.slice (some ⟨W.heap.size, 0, none⟩) 8 8) (W.alloc (.cells (madeCells #[.int .u8 0] 8) 5)) :=
  fun W => print_make 29 5 .u8 1 Tryd.underlying29 Tryd.info8 (by decide) 8 (by decide) W

set_option maxHeartbeats 2000000 in
set_option maxRecDepth 100000 in
theorem fixed12 (w : World) (hgv : GV w) (hgb : 0 < w.heap.size) : Calls Tryd.prog 15 #[] w fun ev w' => ev = .returned (.bool true) ∧ Below w.heap.size w w' := by
  refine of_post fun R hRR => ?_
  have HP := Lib.hid hRR
  clear hRR
  have HV := Lib.hid hgv
  clear hgv
  go_enter Tryd.func15, Tryd.ntmps15
  go_wp2_with fail
  refine (new_g _).mono ?_
  rintro e w1 ⟨g, rfl, hg, hG, hB⟩
  have H1 := Lib.hid (And.intro hG hB)
  have hs1 := hB.size
  clear hG hB
  go_wp2_with fail
  refine (take_calls _ w.heap.size g _ _ _ _ _ _ _ _ _ _ _ none _ _ _ [] H1.out.1 hg (by omega) (by decide) (by decide) (by decide) (fun _ => rfl) (by exact ⟨rfl, by decide, fun h => absurd h (by decide)⟩) (by intro _ h; cases h) (by decide) (HV.out.below H1.out.2) hgb).mono ?_
  rw [show gtake ⟨0, [], false, false, 0, 0, 0⟩ 1 0 1 [] = (⟨false, 0, [], false, 0, 0⟩, ⟨1, [], false, true, 0, 0, 0⟩) from by rfl]
  rintro e w2 ⟨v2, v3, rfl, hO2, hG2, -, hK2, hB2, -, -⟩
  obtain ⟨A2, c2, rfl⟩ := own_slice hO2
  have hs2 := hB2.size
  have hgz := blk_lt hG2.blk
  have H2 := Lib.hid (And.intro hG2 ((H1.out.2.trans hB2).mono (Nat.le_refl _)))
  clear hG2 hK2 hB2 hO2
  go_wp2_with fail
  have hW3 : Below w2.heap.size w2 ((w2.alloc (.cells #[.int .u32 0, .slice A2 0 c2, .bool false] 34)).alloc (.cells #[.int .u8 0, .int .u32 0] 36)) := by go_grown
  have HB3 := Lib.hid hW3
  refine (busy_calls _ _ g _ _ ⟨blk_below H2.out.1.blk hW3, pw_own_below H2.out.1.own hW3⟩).mono ?_
  rintro e w3 ⟨rfl, rfl⟩
  clear hW3
  have hmk := Tryd.mk8 ((w2.alloc (.cells #[.int .u32 0, .slice A2 0 c2, .bool false] 34)).alloc (.cells #[.int .u8 0, .int .u32 0] 36))
  go_wp2_with fail
  have hW4 : Below w2.heap.size w2 (((w2.alloc (.cells #[.int .u32 0, .slice A2 0 c2, .bool false] 34)).alloc (.cells #[.int .u8 0, .int .u32 0] 36)).alloc (.cells (madeCells #[.int .u8 0] 8) 5)) := by go_grown
  have hR4 : ReadsInt (((w2.alloc (.cells #[.int .u32 0, .slice A2 0 c2, .bool false] 34)).alloc (.cells #[.int .u8 0, .int .u32 0] 36)).alloc (.cells (madeCells #[.int .u8 0] 8) 5)) .u8 (some ⟨w2.heap.size + 1 + 1, 0, none⟩) 8 (List.replicate 8 0) := by
    obtain ⟨A4, c4, h4, h⟩ := own_reads (own_made ((w2.alloc (.cells #[.int .u32 0, .slice A2 0 c2, .bool false] 34)).alloc (.cells #[.int .u8 0, .int .u32 0] 36)) 0 5 .u8 8 (Nat.zero_le _) (by decide))
    injection h4 with h4 _ _
    subst h4
    simpa using h
  have hE4 : Elsewhere (some ⟨w2.heap.size + 1 + 1, 0, none⟩) 8 g := by
    intro ad h _
    injection h with h
    subst h
    show w2.heap.size + 1 + 1 ≠ g
    omega
  have p1 := blk_alloc (blk_new1 w2 (.cells #[.int .u32 0, .slice A2 0 c2, .bool false] 34) (.cells #[.int .u8 0, .int .u32 0] 36)) (.cells (madeCells #[.int .u8 0] 8) 5)
  clear hmk
  generalize (((w2.alloc (.cells #[.int .u32 0, .slice A2 0 c2, .bool false] 34)).alloc (.cells #[.int .u8 0, .int .u32 0] 36)).alloc (.cells (madeCells #[.int .u8 0] 8) 5)) = W4 at hW4 hR4 p1 ⊢
  have hs4 := hW4.size
  refine (take_calls W4 w.heap.size g v3 ⟨1, [], false, true, 0, 0, 0⟩ 6 0 0 (-1) 0 0 0 0 false _ _ 8 8 _ ⟨blk_below H2.out.1.blk hW4, pw_own_below H2.out.1.own hW4⟩ hg (by omega) (by decide) (by decide) (by decide) (fun _ => rfl) hR4 hE4 (by decide) (HV.out.below (H2.out.2.trans (hW4.mono (by omega)))) hgb).mono ?_
  rw [show gtake ⟨1, [], false, true, 0, 0, 0⟩ 6 0 0 (List.replicate 8 0) = (⟨false, 0, [], false, 1, 1⟩, ⟨0, [], false, false, 0, 1, 1⟩) from by rfl]
  rintro e w5 ⟨v5, v6, rfl, hO5, -, -, hK5, hB5, -, -⟩
  obtain ⟨A5, c5, rfl⟩ := own_slice hO5
  have p5 := (hK5.2 (w2.heap.size + 1) (blk_lt p1) (by omega) (own_ne_new H2.out.1.own 1)).trans p1
  have hs5 := hB5.size
  obtain ⟨q0, q1, -, -⟩ := blk2 p5
  have hzz : w2.heap.size + 1 < w5.heap.size := blk_lt p5
  have hzy : w2.heap.size + 1 < w5.heap.size + 1 := by omega
  have HZ := Lib.hid ((H2.out.2.trans (hW4.mono (by omega))).trans hB5)
  clear hW4 hR4 p1 hO5 hK5 hB5 hE4 p5
  go_wp2_with fail
  refine HP.out _ _ ⟨rfl, ?_⟩
  exact (HZ.out.alloc (by omega) _).alloc (by simp; omega) _
end Go.Proofs.YtodfahcmgmleeaaDoor
