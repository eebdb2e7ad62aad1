/- BlockPlays' round: what lies in memory behind each of its steps. No walk. -/
import Derived.Test.YtodfahcmgmleeaaDoorBlockLaw
import Derived.Test.YtodfahcmgmleeaaDoorFrameIn
import Derived.Test.YtodfahcmgmleeaaDoorClear
import Derived.Test.YtodfahcmgmleeaaDoorMem2
namespace Go.Proofs.YtodfahcmgmleeaaDoor
set_option linter.unusedVariables false
set_option linter.unusedSimpArgs false
open Go.RowKit Go.Proofs.YtodfahcmgmleeaaDoorW.PrintWords

abbrev rCells (m : RSt) : Array Value := #[.bool m.busy, .int .u32 m.stream, .string (strOfNums m.block), .bool m.fin, .int .i64 m.more, .int .i64 m.bad]

/-- Ahead of Take: the frame, its copy over a row of its own, the two states. -/
structure Mid (w wr W : World) (g M : Nat) (v : Value) (s : GSt) (m : RSt) (fc oc : Array Value) (D : Value) (n : Nat) (data : List Int) : Prop where
  gG : IsG W w.heap.size g v s
  mM : W.heap[M]? = some (.cells (rCells m) 28 (0, 0))
  fF : W.heap[wr.heap.size]? = some (.cells fc 32 (0, 0))
  oO : W.heap[wr.heap.size + 1]? = some (.cells oc 32 (0, 0))
  dD : W.ownsRow w.heap.size 5 1 D n (nums .u8 data)
  at_ : D.ownBlock = some (wr.heap.size + 1 + 1) ∨ D.ownBlock = some (wr.heap.size + 1 + 1 + 1)
  low : ∀ b, v.ownBlock = some b → b < wr.heap.size
  bel : Below wr.heap.size wr W

theorem mid_of {w wr w2 : World} {g M : Nat} {v : Value} {s : GSt} {m : RSt} {fc : Array Value} {A2 : Option Addr} {n c2 : Nat} {data : List Int} {o : Obj}
    (hG : IsG wr w.heap.size g v s) (hM : wr.heap[M]? = some (.cells (rCells m) 28 (0, 0))) (ho : o = .cells #[] 5)
    (hown : w2.ownsRow w.heap.size 5 1 (.slice A2 n c2) n (nums .u8 data))
    (hgrow : (((wr.alloc (.cells fc 32)).alloc (.cells fc 32)).alloc o).grownBy w2 (some (wr.heap.size + 1 + 1)))
    (hat : (Value.slice A2 n c2).ownBlock = some (wr.heap.size + 1 + 1) ∨ (Value.slice A2 n c2).ownBlock = some (((wr.alloc (.cells fc 32)).alloc (.cells fc 32)).alloc o).heap.size) :
    Mid w wr (w2.setCell ⟨wr.heap.size + 1, 3, none⟩ (.slice A2 n c2)) g M v s m fc (fc.setIfInBounds 3 (.slice A2 n c2)) (.slice A2 n c2) n data := by
  subst ho
  have hgl := blk_lt hG.blk
  have hMl := blk_lt hM
  have hB6 : Below wr.heap.size wr (((wr.alloc (.cells fc 32)).alloc (.cells fc 32)).alloc (.cells #[] 5)) := below_alloc3 wr _ _ _
  have p6 := blk_alloc (blk_alloc (blk_new wr (.cells fc 32)) (.cells fc 32)) (.cells #[] 5)
  have p7 := blk_alloc (blk_new1 wr (.cells fc 32) (.cells fc 32)) (.cells #[] 5)
  have q6 := blk_grown p6 hgrow (by simp; omega)
  have q7 := blk_grown p7 hgrow (by simp)
  have g2 : w2.heap[g]? = _ := blk_grown (blk_below hG.blk hB6) hgrow (by simp; omega)
  have m2 : w2.heap[M]? = _ := blk_grown (blk_below hM hB6) hgrow (by simp; omega)
  have hlow : ∀ b, v.ownBlock = some b → b < wr.heap.size := fun b hb => own_lt hG.own b hb
  have v2 : w2.ownsRow w.heap.size 5 1 v s.block.length (nums .u8 s.block) := (pw_own_below hG.own hB6).kept hgrow (by
    cases hv : v.ownBlock with
    | none => exact .inl rfl
    | some b => exact .inr (fun e => by have := hlow b hv; injection e with e; omega))
  have hb2 : Below wr.heap.size wr w2 := hB6.grown hgrow (by simp; omega) (fun k hk => by injection hk with hk; omega)
  refine ⟨⟨blk_far g2 (by simp; omega) _, own_setCell v2 ?_ _⟩, blk_far m2 (by simp; omega) _, blk_far q6 (by simp) _, blk_set q7 3 _, own_setCell hown (own_ne hown q7 (by decide)) _, ?_, hlow, hb2.setCell (by simp) _⟩
  · intro e
    have h := hlow (wr.heap.size + 1) e.symm
    omega
  · rcases hat with h | h
    · exact .inl h
    · refine .inr (h.trans ?_)
      simp

theorem own_keepBut {W W8 : World} {base n size g : Nat} {e : TypeId} {D : Value} {xs : List Value} {row : Option Nat} (h : W.ownsRow base e size D n xs) (hK : KeepBut W W8 g row) (hg : some g ≠ D.ownBlock) (hr : D.ownBlock = none ∨ D.ownBlock ≠ row) : W8.ownsRow base e size D n xs := by
  refine ⟨h.1, h.2.imp id ?_⟩
  rintro ⟨b, cap, cur, rfl, hb, hh, rest⟩
  refine ⟨b, cap, cur, rfl, hb, (hK.2 b (blk_lt hh) ?_ ?_).trans hh, rest⟩
  · rintro rfl
    exact hg rfl
  · rcases hr with hr | hr
    · simp [Value.ownBlock] at hr
    · exact hr

/-- Behind Take, with the two results laid: T is the block of the whole one, T + 1 that of the fault. -/
structure Mid2 (w wr W : World) (g M T : Nat) (v2 v3 : Value) (r : GOut × GSt) (m : RSt) (fc oc : Array Value) : Prop where
  gG : IsG W w.heap.size g v3 r.2
  mM : W.heap[M]? = some (.cells (rCells m) 28 (0, 0))
  fF : W.heap[wr.heap.size]? = some (.cells fc 32 (0, 0))
  oO : W.heap[wr.heap.size + 1]? = some (.cells oc 32 (0, 0))
  tT : W.heap[T]? = some (.cells (wholeC r.1.stream v2 r.1.fin) 34 (0, 0))
  tF : W.heap[T + 1]? = some (.cells (faultC r.1.bs r.1.bc) 36 (0, 0))
  row : W.ownsRow w.heap.size 5 1 v2 r.1.block.length (nums .u8 r.1.block)
  nil : v2 = .slice none 0 0 ∨ v3 = .slice none 0 0
  low : ∀ b, v3.ownBlock = some b → b < W.heap.size
  bel : Below w.heap.size wr W

theorem mid2_of {w wr W W8 : World} {g M : Nat} {v v2 v3 D : Value} {s : GSt} {m : RSt} {fc oc : Array Value} {n : Nat} {data : List Int} {r : GOut × GSt}
    (h : Mid w wr W g M v s m fc oc D n data) (hgl : g < wr.heap.size) (hMl : M < wr.heap.size) (hgM : g ≠ M) (hwr : w.heap.size ≤ wr.heap.size)
    (hO : W8.ownsRow w.heap.size 5 1 v2 r.1.block.length (nums .u8 r.1.block)) (hG : IsG W8 w.heap.size g v3 r.2) (hn : v2 = .slice none 0 0 ∨ v3 = .slice none 0 0) (hK : KeepBut W W8 g v.ownBlock) (hB : Below w.heap.size W W8)
    (hF2 : Fresh W v v2) (hF3 : Fresh W v v3) :
    Mid2 w wr ((W8.alloc (.cells (wholeC r.1.stream v2 r.1.fin) 34)).alloc (.cells (faultC r.1.bs r.1.bc) 36)) g M W8.heap.size v2 v3 r m fc oc ∧
      ((W8.alloc (.cells (wholeC r.1.stream v2 r.1.fin) 34)).alloc (.cells (faultC r.1.bs r.1.bc) 36)).ownsRow w.heap.size 5 1 D n (nums .u8 data) ∧
      (v2.ownBlock = none ∨ v2.ownBlock ≠ D.ownBlock) ∧ (v3.ownBlock = none ∨ v3.ownBlock ≠ D.ownBlock) := by
  have hvn : ∀ {i : Nat}, wr.heap.size ≤ i → some i ≠ v.ownBlock := fun hi e => by have := h.low _ e.symm; omega
  have hDl : ∀ b, D.ownBlock = some b → wr.heap.size < b ∧ b < W.heap.size := fun b hb => ⟨by rcases h.at_ with e | e <;> (rw [e] at hb; injection hb with hb; omega), own_lt h.dD b hb⟩
  have far : ∀ {x : Value}, Fresh W v x → x.ownBlock = none ∨ x.ownBlock ≠ D.ownBlock := by
    rintro x (e | e | ⟨b, e, hb⟩)
    · rcases hv : v.ownBlock with _ | b
      · exact .inl (e.trans hv)
      · refine .inr fun e2 => ?_
        have h1 := h.low b hv
        have h2 := hDl b (e2.symm.trans (e.trans hv))
        omega
    · exact .inl e
    · refine .inr fun e2 => ?_
      have h2 := hDl b (e2.symm.trans e)
      omega
  have m8 := (hK.2 M (blk_lt h.mM) (fun e => hgM e.symm) (own_ne h.gG.own h.mM (by decide))).trans h.mM
  have f8 := (hK.2 wr.heap.size (blk_lt h.fF) (by omega) (hvn (Nat.le_refl _))).trans h.fF
  have o8 := (hK.2 (wr.heap.size + 1) (blk_lt h.oO) (by omega) (hvn (by omega))).trans h.oO
  have d8 : W8.ownsRow w.heap.size 5 1 D n (nums .u8 data) := by
    refine own_keepBut h.dD hK (own_ne h.dD h.gG.blk (by decide)) ?_
    cases hd : D.ownBlock with
    | none => exact .inl rfl
    | some b => exact .inr (hvn (Nat.le_of_lt (hDl b hd).1))
  refine ⟨⟨⟨blk_alloc (blk_alloc hG.blk _) _, (hG.own.alloc _).alloc _⟩, blk_alloc (blk_alloc m8 _) _, blk_alloc (blk_alloc f8 _) _, blk_alloc (blk_alloc o8 _) _, blk_alloc (blk_new _ _) _, blk_new1 _ _ _, (hO.alloc _).alloc _, hn, fun b hb => by have := own_lt hG.own b hb; simp; omega, ?_⟩, (d8.alloc _).alloc _, far hF2, far hF3⟩
  have hs8 := hB.size
  have hsW := h.bel.size
  exact (((h.bel.mono hwr).trans hB).alloc (by omega) _).alloc (by simp; omega) _

theorem Mid2.wiped {w wr W W' : World} {g M T n : Nat} {v2 v3 D : Value} {r : GOut × GSt} {m : RSt} {fc oc : Array Value} {xs : List Int} (h : Mid2 w wr W g M T v2 v3 r m fc oc) (hwr : w.heap.size ≤ wr.heap.size)
    (hD : W.ownsRow w.heap.size 5 1 D n (nums .u8 xs)) (hw : Wiped W W' D.ownBlock) (f2 : v2.ownBlock = none ∨ v2.ownBlock ≠ D.ownBlock) (f3 : v3.ownBlock = none ∨ v3.ownBlock ≠ D.ownBlock) : Mid2 w wr W' g M T v2 v3 r m fc oc :=
  ⟨⟨hw.blk h.gG.blk (own_ne hD h.gG.blk (by decide)), hw.own h.gG.own f3⟩, hw.blk h.mM (own_ne hD h.mM (by decide)), hw.blk h.fF (own_ne hD h.fF (by decide)), hw.blk h.oO (own_ne hD h.oO (by decide)),
    hw.blk h.tT (own_ne hD h.tT (by decide)), hw.blk h.tF (own_ne hD h.tF (by decide)), hw.own h.row f2, h.nil, fun b hb => by rw [hw.size]; exact h.low b hb,
    h.bel.trans ((Below.refl w.heap.size W).grown hw.grown (Nat.le_trans hwr h.bel.size) (own_base hD))⟩

theorem Mid2.below {w wr W W' : World} {g M T : Nat} {v2 v3 : Value} {r : GOut × GSt} {m : RSt} {fc oc : Array Value} (h : Mid2 w wr W g M T v2 v3 r m fc oc) (hwr : w.heap.size ≤ wr.heap.size) (hb : Below W.heap.size W W') : Mid2 w wr W' g M T v2 v3 r m fc oc :=
  ⟨⟨blk_below h.gG.blk hb, pw_own_below h.gG.own hb⟩, blk_below h.mM hb, blk_below h.fF hb, blk_below h.oO hb, blk_below h.tT hb, blk_below h.tF hb, pw_own_below h.row hb, h.nil, fun b hb' => Nat.lt_of_lt_of_le (h.low b hb') hb.size, h.bel.trans (hb.mono (Nat.le_trans hwr h.bel.size))⟩

theorem Mid2.setM {w wr W : World} {g M T : Nat} {v2 v3 : Value} {r : GOut × GSt} {m : RSt} {fc oc : Array Value} (h : Mid2 w wr W g M T v2 v3 r m fc oc) (hM : w.heap.size ≤ M) (q : RSt) :
    Mid2 w wr ((((((W.setCell ⟨M, 0, none⟩ (.bool q.busy)).setCell ⟨M, 1, none⟩ (.int .u32 q.stream)).setCell ⟨M, 2, none⟩ (.string (strOfNums q.block))).setCell ⟨M, 3, none⟩ (.bool q.fin)).setCell ⟨M, 4, none⟩ (.int .i64 q.more)).setCell ⟨M, 5, none⟩ (.int .i64 q.bad)) g M T v2 v3 r q fc oc := by
  have n1 := blk_ne h.gG.blk h.mM (by decide)
  have n2 := blk_ne h.fF h.mM (by decide)
  have n3 := blk_ne h.oO h.mM (by decide)
  have n4 := blk_ne h.tT h.mM (by decide)
  have n5 := blk_ne h.tF h.mM (by decide)
  have o1 := own_ne h.gG.own h.mM (by decide)
  have o2 := own_ne h.row h.mM (by decide)
  refine ⟨⟨blk_far (blk_far (blk_far (blk_far (blk_far (blk_far h.gG.blk n1 _) n1 _) n1 _) n1 _) n1 _) n1 _, own_setCell (own_setCell (own_setCell (own_setCell (own_setCell (own_setCell h.gG.own o1 _) o1 _) o1 _) o1 _) o1 _) o1 _⟩,
    blk_set (blk_set (blk_set (blk_set (blk_set (blk_set h.mM 0 (.bool q.busy)) 1 (.int .u32 q.stream)) 2 (.string (strOfNums q.block))) 3 (.bool q.fin)) 4 (.int .i64 q.more)) 5 (.int .i64 q.bad),
    blk_far (blk_far (blk_far (blk_far (blk_far (blk_far h.fF n2 _) n2 _) n2 _) n2 _) n2 _) n2 _, blk_far (blk_far (blk_far (blk_far (blk_far (blk_far h.oO n3 _) n3 _) n3 _) n3 _) n3 _) n3 _,
    blk_far (blk_far (blk_far (blk_far (blk_far (blk_far h.tT n4 _) n4 _) n4 _) n4 _) n4 _) n4 _, blk_far (blk_far (blk_far (blk_far (blk_far (blk_far h.tF n5 _) n5 _) n5 _) n5 _) n5 _) n5 _,
    own_setCell (own_setCell (own_setCell (own_setCell (own_setCell (own_setCell h.row o2 _) o2 _) o2 _) o2 _) o2 _) o2 _, h.nil, fun b hb => by simpa [World.setCell] using h.low b hb,
    (((((h.bel.setCell (p := ⟨M, 0, none⟩) hM _).setCell (p := ⟨M, 1, none⟩) hM _).setCell (p := ⟨M, 2, none⟩) hM _).setCell (p := ⟨M, 3, none⟩) hM _).setCell (p := ⟨M, 4, none⟩) hM _).setCell (p := ⟨M, 5, none⟩) hM _⟩

theorem same_calls (w : World) (r : GOut × GSt) (q1 : RSt) (q2 : Bool) (q3 : RSt) (h : Tells r (q1, q2, q3)) (A : Option Addr) (c : Nat) (hR : ReadsInt w .u8 A r.1.block.length r.1.block) :
    Calls Tryd.prog 19 #[.agg (wholeC r.1.stream (.slice A r.1.block.length c) r.1.fin), .bool r.1.ok, .agg (faultC r.1.bs r.1.bc), rV q3, .bool q2, .int .i64 q1.bad] w fun ev w' => ev = .returned (.bool true) ∧ Below w.heap.size w w' := by
  obtain ⟨-, h1, h2, h3, h4, h5⟩ := h
  simp only at h1 h2 h3 h4 h5
  rw [h3] at hR
  rw [h1]
  rcases h5 with ⟨e1, e2, e3⟩ | ⟨e1, e2, e3, e4⟩
  · rw [e1, e2, e3]
    exact same_zero w q2 r.1.fin r.1.stream A _ c q3 h2 h4 (by rw [h3]; exact hR)
  · rw [e1, e2]
    exact same_bad w q2 r.1.fin r.1.stream A _ c q3 q1.bad e3 e4 h2 h4 (by rw [h3]; exact hR)
theorem tells_facts {r : GOut × GSt} {q1 : RSt} {q2 : Bool} {q3 : RSt} (h : Tells r (q1, q2, q3)) : r.2.busy = q1.busy ∧ r.2.block = q1.block ∧ q1.block.length ≤ 8192 := by
  rcases h.1 with ⟨e1, e2, e3, e4, e5, e6, e7, e8, e9, e10, e11⟩ | ⟨e1, e2, e3, e4, e5, e6, e7, e8, e9, e10, e11, e12⟩
  · exact ⟨e4, e5, by rw [← e5]; exact e6⟩
  · refine ⟨e5.trans e6.symm, e7.trans e8.symm, ?_⟩
    have e8' : q1.block = [] := e8
    rw [e8']
    simp
theorem isG_below {W W' : World} {base g : Nat} {v : Value} {s : GSt} (h : IsG W base g v s) (hb : Below W.heap.size W W') : IsG W' base g v s := ⟨blk_below h.blk hb, pw_own_below h.own hb⟩
end Go.Proofs.YtodfahcmgmleeaaDoor
