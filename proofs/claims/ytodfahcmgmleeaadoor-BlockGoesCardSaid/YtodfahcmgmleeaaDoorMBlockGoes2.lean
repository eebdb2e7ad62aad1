/- The statement of louver/louverlaw12.BlockGoes: for every input it returns true, and each argument reads behind the call as it read before; no other condition than the row's own. -/
import Derived.Test.YtodfahcmgmleeaaDoorMBlockGoes1
import Derived.Handy
import Derived.Test.YtodfahcmgmleeaaDoorMBlockGoesW1
import Derived.Test.YtodfahcmgmleeaaDoorRows
import Derived.LaidHandle
import Derived.LaidLaws
import Derived.Stop.Joined
import Derived.ChangeSlices
import Derived.Deep.Slices
import Derived.ChangeArms
import Derived.ChangeSame
import Derived.Lib.SmallJoins
import Derived.Test.YtodfahcmgmleeaaDoorCards
import Derived.Test.YtodfahcmgmleeaaDoorTie
import Derived.WalkKit
import Derived.ProofKit
import Derived.OpenShut
import Derived.ShutString
import Derived.ChangeOld
import Derived.Below
import Derived.SizedLaws
import Derived.Carry
import Derived.Deep.DeepHandedRow
import Derived.Test.YtodfahcmgmleeaaDoorMBlockGoes0
/- The chapter's example. -/
namespace Go.Proofs.YtodfahcmgmleeaaDoor
set_option linter.unusedVariables false
set_option linter.unusedSimpArgs false
open Go.RowKit Go.Proofs.YtodfahcmgmleeaaDoorW.PrintWords
attribute [local go_sem high] eqFault
theorem Tryd.mk8 : ∀ W : World, (Instr.makeSlice 29 (.int .i64 8) (.int .i64 8)).run Tryd.prog W = .ok (.slice (some ⟨W.heap.size, 0, none⟩) 8 8) (W.alloc (.cells (madeCells #[.int .u8 0] 8) 5)) :=
 fun W => print_make 29 5 .u8 1 Tryd.underlying29 Tryd.info8 (by decide) 8 (by decide) W
set_option maxHeartbeats 2000000 in
set_option maxRecDepth 100000 in
theorem fixed12 (w : World) (hgv : GV w) (hgb : 0 < w.heap.size) : Calls Tryd.prog 15 #[] w fun ev w' => ev = .returned (.bool true) ∧ Below w.heap.size w w' := by
 refine of_post fun R hRR => ?_
 have HP := Lib.hid hRR
 clear hRR
 have HV := Lib.hid hgv
 clear hgv
 go_enter Tryd.func15, Tryd.ntmps15
 go_wp2_with fail
 refine (new_g _).mono ?_
 rintro e w1 ⟨g, rfl, hg, hG, hB⟩
 have H1 := Lib.hid (And.intro hG hB)
 have hs1 := hB.size
 clear hG hB
 go_wp2_with fail
 refine (take_calls _ w.heap.size g _ _ _ _ _ _ _ _ _ _ _ none _ _ _ [] H1.out.1 hg (by omega) (by decide) (by decide) (by decide) (fun _ => rfl) (by exact ⟨rfl, by decide, fun h => absurd h (by decide)⟩) (by intro _ h; cases h) (by decide) (HV.out.below H1.out.2) hgb).mono ?_
 rw [show gtake ⟨0, [], false, false, 0, 0, 0⟩ 1 0 1 [] = (⟨false, 0, [], false, 0, 0⟩, ⟨1, [], false, true, 0, 0, 0⟩) from by rfl]
 rintro e w2 ⟨v2, v3, rfl, hO2, hG2, -, hK2, hB2, -, -⟩
 obtain ⟨A2, c2, rfl⟩ := own_slice hO2
 have hs2 := hB2.size
 have hgz := blk_lt hG2.blk
 have H2 := Lib.hid (And.intro hG2 ((H1.out.2.trans hB2).mono (Nat.le_refl _)))
 clear hG2 hK2 hB2 hO2
 go_wp2_with fail
 have hW3 : Below w2.heap.size w2 ((w2.alloc (.cells #[.int .u32 0, .slice A2 0 c2, .bool false] 34)).alloc (.cells #[.int .u8 0, .int .u32 0] 36)) := by go_grown
 have HB3 := Lib.hid hW3
 refine (busy_calls _ _ g _ _ ⟨blk_below H2.out.1.blk hW3, pw_own_below H2.out.1.own hW3⟩).mono ?_
 rintro e w3 ⟨rfl, rfl⟩
 clear hW3
 have hmk := Tryd.mk8 ((w2.alloc (.cells #[.int .u32 0, .slice A2 0 c2, .bool false] 34)).alloc (.cells #[.int .u8 0, .int .u32 0] 36))
 go_wp2_with fail
 have hW4 : Below w2.heap.size w2 (((w2.alloc (.cells #[.int .u32 0, .slice A2 0 c2, .bool false] 34)).alloc (.cells #[.int .u8 0, .int .u32 0] 36)).alloc (.cells (madeCells #[.int .u8 0] 8) 5)) := by go_grown
 have hR4 : ReadsInt (((w2.alloc (.cells #[.int .u32 0, .slice A2 0 c2, .bool false] 34)).alloc (.cells #[.int .u8 0, .int .u32 0] 36)).alloc (.cells (madeCells #[.int .u8 0] 8) 5)) .u8 (some ⟨w2.heap.size + 1 + 1, 0, none⟩) 8 (List.replicate 8 0) := by
  obtain ⟨A4, c4, h4, h⟩ := own_reads (own_made ((w2.alloc (.cells #[.int .u32 0, .slice A2 0 c2, .bool false] 34)).alloc (.cells #[.int .u8 0, .int .u32 0] 36)) 0 5 .u8 8 (Nat.zero_le _) (by decide))
  injection h4 with h4 _ _
  subst h4
  simpa using h
 have hE4 : Elsewhere (some ⟨w2.heap.size + 1 + 1, 0, none⟩) 8 g := by
  intro ad h _
  injection h with h
  subst h
  show w2.heap.size + 1 + 1 ≠ g
  omega
 have p1 := blk_alloc (blk_new1 w2 (.cells #[.int .u32 0, .slice A2 0 c2, .bool false] 34) (.cells #[.int .u8 0, .int .u32 0] 36)) (.cells (madeCells #[.int .u8 0] 8) 5)
 clear hmk
 generalize (((w2.alloc (.cells #[.int .u32 0, .slice A2 0 c2, .bool false] 34)).alloc (.cells #[.int .u8 0, .int .u32 0] 36)).alloc (.cells (madeCells #[.int .u8 0] 8) 5)) = W4 at hW4 hR4 p1 ⊢
 have hs4 := hW4.size
 refine (take_calls W4 w.heap.size g v3 ⟨1, [], false, true, 0, 0, 0⟩ 6 0 0 (-1) 0 0 0 0 false _ _ 8 8 _ ⟨blk_below H2.out.1.blk hW4, pw_own_below H2.out.1.own hW4⟩ hg (by omega) (by decide) (by decide) (by decide) (fun _ => rfl) hR4 hE4 (by decide) (HV.out.below (H2.out.2.trans (hW4.mono (by omega)))) hgb).mono ?_
 rw [show gtake ⟨1, [], false, true, 0, 0, 0⟩ 6 0 0 (List.replicate 8 0) = (⟨false, 0, [], false, 1, 1⟩, ⟨0, [], false, false, 0, 1, 1⟩) from by rfl]
 rintro e w5 ⟨v5, v6, rfl, hO5, -, -, hK5, hB5, -, -⟩
 obtain ⟨A5, c5, rfl⟩ := own_slice hO5
 have p5 := (hK5.2 (w2.heap.size + 1) (blk_lt p1) (by omega) (own_ne_new H2.out.1.own 1)).trans p1
 have hs5 := hB5.size
 obtain ⟨q0, q1, -, -⟩ := blk2 p5
 have hzz : w2.heap.size + 1 < w5.heap.size := blk_lt p5
 have hzy : w2.heap.size + 1 < w5.heap.size + 1 := by omega
 have HZ := Lib.hid ((H2.out.2.trans (hW4.mono (by omega))).trans hB5)
 clear hW4 hR4 p1 hO5 hK5 hB5 hE4 p5
 go_wp2_with fail
 refine HP.out _ _ ⟨rfl, ?_⟩
 exact (HZ.out.alloc (by omega) _).alloc (by simp; omega) _
end Go.Proofs.YtodfahcmgmleeaaDoor

/- Take over what is held; rows of frames that were made. No walk. -/
namespace Go.Proofs.YtodfahcmgmleeaaDoor
set_option linter.unusedVariables false
set_option linter.unusedSimpArgs false
open Go.RowKit Go.Proofs.YtodfahcmgmleeaaDoorW.PrintWords
abbrev nilS : Value := .slice none 0 0
abbrev gO (g : Nat) (v : Value) (s : GSt) : Own := .obj g (.cells (gCells s v) 71 (0, 0))
abbrev gR (v : Value) (s : GSt) : Own := nrow 5 v .u8 s.block
theorem Hold.base {w W : World} {l : List Own} (H : Hold w W [] l) {e : TypeId} {size n : Nat} {v : Value} {xs : List Value} (h : Own.row e size v n xs ∈ l) : W.ownsRow w.heap.size e size v n xs := by
 have hr : W.ownsRow 0 e size v n xs := H.ok _ h
 refine ⟨hr.1, hr.2.imp id ?_⟩
 rintro ⟨b, cap, cur, rfl, _, rest⟩
 refine ⟨b, cap, cur, rfl, ?_, rest⟩
 rcases H.mine _ h b (Option.mem_toList.2 rfl) with h' | h'
 ·exact h'
 ·cases h'
theorem own_zero {W : World} {base n size : Nat} {e : TypeId} {v : Value} {xs : List Value} (h : W.ownsRow base e size v n xs) : W.ownsRow 0 e size v n xs := by
 refine ⟨h.1, h.2.imp id ?_⟩
 rintro ⟨b, cap, cur, rfl, _, rest⟩
 exact ⟨b, cap, cur, rfl, Nat.zero_le _, rest⟩
theorem Hold.isG {w W : World} {l : List Own} (H : Hold w W [] l) {g : Nat} {v : Value} {s : GSt} (h1 : gO g v s ∈ l) (h2 : gR v s ∈ l) : IsG W w.heap.size g v s := ⟨H.ok _ h1, H.base h2⟩
theorem Fresh.mem {w : World} {v v' : Value} (h : Fresh w v v') {k : Nat} (hk : k ∈ v'.ownBlock.toList) : w.heap.size ≤ k ∨ k ∈ v.ownBlock.toList := by
 have hk' := Option.mem_toList.1 hk
 rcases h with h | h | ⟨b, h, hb⟩
 ·exact .inr (Option.mem_toList.2 (h.symm.trans hk'))
 ·rw [h] at hk'; cases hk'
 ·rw [h] at hk'
  exact .inl (by injection hk' with e; omega)
theorem TakePost.hold {w W w' : World} {g : Nat} {v : Value} {s : GSt} {r : GOut × GSt} {e : Ending} (hG : IsG W w.heap.size g v s) (hs : w.heap.size ≤ W.heap.size) (h : TakePost W w.heap.size g v r e w') :
  ∃ v2 v3, e = .returned (.tuple #[.agg (wholeC r.1.stream v2 r.1.fin), .bool r.1.ok, .agg (faultC r.1.bs r.1.bc)]) ∧ Hold W w' (ats [gO g v s, gR v s]) [gO g v3 r.2, gR v3 r.2, nrow 5 v2 .u8 r.1.block] := by
 obtain ⟨v2, v3, he, hO, hG3, hn, hK, hB, hF2, hF3⟩ := h
 have hm : ∀ k, k ∈ ats [gO g v s, gR v s] ↔ k = g ∨ k ∈ v.ownBlock.toList := fun k => by
  simp [ats, Own.at_]
 have h3 : some g ≠ v3.ownBlock := fun e => own_ne hG3.own hG3.blk (by decide) e
 have h2 : some g ≠ v2.ownBlock := fun e => own_ne hO hG3.blk (by decide) e
 refine ⟨v2, v3, he, ⟨hB.os, hB.tape, hB.output, hK.1, fun k hk hn => hK.2 k hk (fun e => hn ((hm k).2 (.inl e))) (fun e => hn ((hm k).2 (.inr (Option.mem_toList.2 e.symm))))⟩, ?_, ?_, ?_⟩
 ·intro o ho
  simp only [List.mem_cons, List.not_mem_nil, or_false] at ho
  rcases ho with rfl | rfl | rfl
  ·exact hG3.blk
  ·exact own_zero hG3.own
  ·exact own_zero hO
 ·refine List.Pairwise.cons (fun b hb k hk => ?_) (List.Pairwise.cons (fun b hb k hk => ?_) (pair1 _))
  ·obtain rfl : k = g := List.mem_singleton.1 hk
   simp only [List.mem_cons, List.not_mem_nil, or_false] at hb
   rcases hb with rfl | rfl
   ·exact fun hk => h3 (Option.mem_toList.1 hk).symm
   ·exact fun hk => h2 (Option.mem_toList.1 hk).symm
  ·obtain rfl := List.mem_singleton.1 hb
   rcases hn with rfl | rfl
   ·exact fun h => by cases h
   ·cases hk
 ·intro o ho k hk
  simp only [List.mem_cons, List.not_mem_nil, or_false] at ho
  rcases ho with rfl | rfl | rfl
  ·exact .inr ((hm k).2 (.inl (List.mem_singleton.1 hk)))
  ·exact (hF3.mem hk).imp id fun h => (hm k).2 (.inr h)
  ·exact (hF2.mem hk).imp id fun h => (hm k).2 (.inr h)
theorem take_other (w : World) (base g : Nat) (v : Value) (s : GSt) (ty fl st pad code oth wgt win : Int) (al : Bool) (D S : Value)
  (hG : IsG w base g v s) (hbg : base ≤ g) (hbb : base ≤ w.heap.size) (hy : s.busy = false) (h0 : s.bs = 0) (hc0 : s.bc = 0) (h1 : ty ≠ 1) (h9 : ty ≠ 9) :
  Calls Tryd.prog 17 #[.pointer (some ⟨g, 0, none⟩), frV ty fl st D pad code oth wgt win al S] w (TakePost w base g v (⟨false, 0, [], false, 0, 0⟩, s)) :=
 (take_none w base g v s s ty fl st pad code oth wgt win al D S false hG hbg hbb h0 hc0 (.inl rfl) (fun w2 hb => takes_pass w2 base g v s ty fl st pad code oth wgt win al D S ⟨blk_below hG.blk hb, pw_own_below hG.own hb⟩ hbg hy h1 h9)).mono fun _ _ h => h.post
structure CE where
 ty : Int
 fl : Int
 st : Int
 x : List Int
 A : Option Addr
 c : Nat
abbrev CE.cells (e : CE) : List Value := [.int .u8 e.ty, .int .u8 e.fl, .int .u32 e.st, .slice e.A e.x.length e.c, .int .i64 (-1), .int .u32 0, .int .u32 0, .int .u8 0, .bool false, .int .u32 0, nilS]
abbrev CE.thing (e : CE) : Own := nrow 5 (.slice e.A e.x.length e.c) .u8 e.x
abbrev rowO (v : Value) (es : List CE) : Own := .row 32 11 v es.length (es.flatMap CE.cells)
def rowT (es : List CE) : List Own := es.reverse.map CE.thing
theorem rowT_more (es : List CE) (e : CE) : rowT (es ++ [e]) = e.thing :: rowT es := by simp [rowT]
theorem rowT_mem {es : List CE} {e : CE} (h : e ∈ es) : e.thing ∈ rowT es := List.mem_map.2 ⟨e, List.mem_reverse.2 h, rfl⟩
theorem rowO_more (v : Value) (es : List CE) (e : CE) : Own.row 32 11 v (es.length + 1) (es.flatMap CE.cells ++ e.cells) = rowO v (es ++ [e]) := by
 unfold rowO
 rw [List.length_append, List.flatMap_append]
 simp
theorem flat_at : ∀ (es : List CE) (i j : Nat) (e : CE) (u : Value), es[i]? = some e → e.cells[j]? = some u → (es.flatMap CE.cells)[i * 11 + j]? = some u
 | [], i, j, e, u, h, _ => by simp at h
 | x :: es, 0, j, e, u, h, hu => by
  obtain rfl : x = e := by simpa using h
  have hj : j < x.cells.length := (List.getElem?_eq_some_iff.1 hu).1
  rw [List.flatMap_cons, Nat.zero_mul, Nat.zero_add, List.getElem?_append_left hj]
  exact hu
 | x :: es, i + 1, j, e, u, h, hu => by
  have hx : x.cells.length = 11 := rfl
  rw [List.flatMap_cons, List.getElem?_append_right (by omega), hx, show (i + 1) * 11 + j - 11 = i * 11 + j by omega]
  exact flat_at es i j e u (by simpa using h) hu
theorem add_off (g x j : Nat) : (⟨g, x, none⟩ : Addr).add j = ⟨g, x + j, none⟩ := by
 unfold Addr.add
 split <;> simp_all
theorem Hold.frame {w W : World} {t : List Nat} {l : List Own} (H : Hold w W t l) {v : Value} {es : List CE} (h1 : rowO v es ∈ l) (h2 : ∀ o ∈ rowT es, o ∈ l) {i : Nat} {e : CE} (he : es[i]? = some e) :
  ∃ (a : Addr) (c : Nat), v = .slice (some a) es.length c ∧ (∀ (j : Nat) (u : Value), e.cells[j]? = some u → W.cell? ((a.add (i * 11)).add j) = some u) ∧ ReadsInt W .u8 e.A e.x.length e.x ∧ e.thing ∈ l := by
 have hrow : W.ownsRow 0 32 11 v es.length (es.flatMap CE.cells) := H.ok _ h1
 have hi : i < es.length := (List.getElem?_eq_some_iff.1 he).1
 rcases hrow.2 with ⟨rfl, h0⟩ | ⟨g, cap, cur, rfl, _, hb, hle, _, hsz, htk⟩
 ·omega
 ·have hm := h2 _ (rowT_mem (List.mem_of_getElem? he))
  obtain ⟨A', c', e2, hR⟩ := own_reads (H.row (k := .u8) hm)
  injection e2 with e2 _ _
  subst e2
  refine ⟨⟨g, 0, none⟩, cap, rfl, fun j u hu => ?_, hR, hm⟩
  have hf := flat_at es i j e u he hu
  rw [← htk, List.getElem?_take] at hf
  rw [show ((⟨g, 0, none⟩ : Addr).add (i * 11)).add j = ⟨g, i * 11 + j, none⟩ by rw [add_off, add_off, Nat.zero_add], blk_cell hb, ← Array.getElem?_toList]
  split at hf
  ·exact hf
  ·cases hf
theorem list_load_at {P : Program} {ops : Array Oper} {rest : List Oper} {o : Oper} {a : Act} {w : World} {Q : Exit → Act → World → Prop} (hgd : o.guard = none) {ty : TypeId} {x : Operand} (ho : o.op = .load ty x) {ad : Addr} (hx : a.eval x = .pointer (some ad)) (cs : List Value)
  (hc : ∀ j v, cs[j]? = some v → w.cell? (ad.add j) = some v) (hd : (P.underlying ty).map (·.isRow) = some true) (hi : (P.info? ty).map (·.size) = some cs.length) (h : wpList P ops Q rest (a.put o.dst (.agg cs.toArray)) w) : wpList P ops Q (o :: rest) a w := by
 obtain ⟨d, hu, hr⟩ := Option.map_eq_some_iff.1 hd
 have hl : (loadCells ad cs.length).run P w = .ok cs.toArray w := run_loadCells_list (P := P) w ad cs hc
 have hv : (loadVar ty ad).run P w = .ok (.agg cs.toArray) w := by
  cases hq : P.info? ty with
  | none => simp [hq] at hi
  | some i =>
   have hs : i.size = cs.length := by simpa [hq] using hi
   have hagg : (isAgg ty).run P w = .ok true w := by
    unfold isAgg
    rw [Sem.run_bind, run_underlying hu w]
    cases d <;> simp_all
   simp [loadVar, Sem.run_bind, hagg, sizeOf, typeInfo, hq, hs, hl]
 refine wpList_plain hgd fun K hK => ?_
 unfold Oper.wp execOp
 simp only [ho, hx, Instr.loadAt, Instr.sureAddr, Sem.run_bind, Sem.run_pure, Result.andThen_ok, hv]
 exact hK _ _ h
end Go.Proofs.YtodfahcmgmleeaaDoor

/- block.Cut, walked. (This text is printed by wip/gen/cut12.py.) -/
namespace Go.Proofs.YtodfahcmgmleeaaDoor
set_option linter.unusedVariables false
set_option linter.unusedSimpArgs false
open Go.RowKit Go.Proofs.YtodfahcmgmleeaaDoorW.PrintWords Go.Proofs.YtodfahcmgmleeaaDoorW.PrintLast Go.Proofs.YtodfahcmgmleeaaDoorW.PrintMore Go.Extern.Stop Go.Stop Go.Extern Go.Maps
attribute [local go_sem] max2_int min2_int max_two min_two
theorem Tryd.infoFr : (Tryd.prog.info? 32).map (fun i => (i.zero, i.size, i.bytes)) = some (some (.agg #[.int .u8 0, .int .u8 0, .int .u32 0, nilS, .int .i64 0, .int .u32 0, .int .u32 0, .int .u8 0, .bool false, .int .u32 0, nilS]), 11, 80) := by kernel_rfl
theorem is_call {P : Program} {ops : Array Oper} {rest : List Oper} {o : Oper} {a : Act} {Q : Exit → Act → World → Prop} {W : World} {c : Go.Call} (_ho : o.op = .call c) (h : wpList P ops Q (o :: rest) a W) : wpList P ops Q (o :: rest) a W := h
theorem clone_got (w : World) (A : Option Addr) (n c : Nat) (data : List Int) (hR : ReadsInt w .u8 A n data) (hn : n ≤ 100000) :
  Calls Tryd.prog 42 #[.slice A n c] w fun e w' => ∃ v, e = .returned v ∧ Hold w w' [] [nrow 5 v .u8 data] := by
 refine (clone_calls w A n c data hR hn).mono ?_
 rintro e w' ⟨v, rfl, ho, hb⟩
 exact ⟨v, rfl, Hold.made hb (own_zero ho) fun k hk => own_base ho k (Option.mem_toList.1 hk)⟩
structure CutTo (st : Int) (fin : Bool) (b : List Int) (most : Nat) (es : List CE) : Prop where
 at_ : ∀ (j : Nat) (e : CE), es[j]? = some e → e.ty = cutT j ∧ e.fl = cutF fin b.length most j ∧ e.st = st ∧ e.x = cutD b most j
 more : ∀ j, j < es.length → j = 0 ∨ j * most < b.length
 open_ : ∀ j, j + 1 < es.length → cutE b.length most j = false
structure CutOk (st : Int) (fin : Bool) (b : List Int) (most : Nat) (es : List CE) : Prop where
 cuts : CutTo st fin b most es
 last : ∃ K, es.length = K + 1 ∧ cutE b.length most K = true
theorem CutTo.nil (st : Int) (fin : Bool) (b : List Int) (most : Nat) : CutTo st fin b most [] := ⟨fun j e h => by simp at h, fun j h => by simp at h, fun j h => by simp at h⟩
theorem CutTo.snoc {st : Int} {fin : Bool} {b : List Int} {most : Nat} {es : List CE} (h : CutTo st fin b most es) (ho : ∀ j, j < es.length → cutE b.length most j = false) {e : CE} (h1 : e.ty = cutT es.length) (h2 : e.fl = cutF fin b.length most es.length) (h3 : e.st = st) (h4 : e.x = cutD b most es.length)
  (hm : es.length = 0 ∨ es.length * most < b.length) : CutTo st fin b most (es ++ [e]) := by
 refine ⟨fun j e' he => ?_, fun j hj => ?_, fun j hj => ?_⟩
 ·rcases Nat.lt_or_ge j es.length with hlt | hge
  ·rw [List.getElem?_append_left hlt] at he
   exact h.at_ j e' he
  ·have hi : j < (es ++ [e]).length := (List.getElem?_eq_some_iff.1 he).1
   obtain rfl : j = es.length := by simp at hi; omega
   rw [List.getElem?_append_right (Nat.le_refl _), Nat.sub_self] at he
   obtain rfl : e = e' := by simpa using he
   exact ⟨h1, h2, h3, h4⟩
 ·rcases Nat.lt_or_ge j es.length with hlt | hge
  ·exact h.more j hlt
  ·obtain rfl : j = es.length := by simp at hj; omega
   exact hm
 ·exact ho j (by simp at hj; omega)
structure CLoop (w W : World) (st : Int) (fin : Bool) (b : List Int) (most c : Nat) (A : Option Addr) (gw : Nat) (es : List CE) (m : Nat) (vo : Value) (rest : List Int) (r : Nat) (AL : Option Addr) (cl_ : Nat) : Prop where
 H : Hold w W [] ([cl gw [.int .u32 st, .slice A b.length c, .bool fin] 34, .row 32 11 vo m (es.flatMap CE.cells)] ++ rowT es)
 len : es.length = m
 cuts : CutTo st fin b most es
 open_ : ∀ j, j < m → cutE b.length most j = false
 more : m = 0 ∨ m * most < b.length
 rest_ : rest = b.drop (m * most)
 rlen : rest.length = r
 rd : ReadsInt w .u8 AL r rest
 le : r ≤ cl_
def CutEnd (w : World) (st : Int) (fin : Bool) (b : List Int) (most : Nat) (e : Ending) (w' : World) : Prop :=
 ∃ v es, e = .returned v ∧ (∃ A c, v = .slice A es.length c) ∧ Hold w w' [] ([rowO v es] ++ rowT es) ∧ CutOk st fin b most es
theorem CutEnd.of {w W : World} {st : Int} {fin : Bool} {b : List Int} {most : Nat} {es : List CE} {m : Nat} {v : Value} {ty fl : Int} {X : List Int} {Ad : Option Addr} {cd : Nat} (hm : es.length = m)
  (H : Hold w W [] ([.row 32 11 v (m + 1) (es.flatMap CE.cells ++ (CE.mk ty fl st X Ad cd).cells), (CE.mk ty fl st X Ad cd).thing] ++ rowT es))
  (cuts : CutTo st fin b most es) (ho : ∀ j, j < m → cutE b.length most j = false) (hmore : m = 0 ∨ m * most < b.length) (h1 : ty = cutT m) (h2 : fl = cutF fin b.length most m) (h4 : X = cutD b most m) (hl : cutE b.length most m = true) : CutEnd w st fin b most (.returned v) W := by
 subst hm
 have H2 : Hold w W [] ([rowO v (es ++ [⟨ty, fl, st, X, Ad, cd⟩])] ++ rowT (es ++ [⟨ty, fl, st, X, Ad, cd⟩])) := by
  rw [rowT_more, ← rowO_more]
  exact H
 obtain ⟨A, c, hv⟩ := own_slice (H2.ok _ (List.Mem.head _))
 exact ⟨v, es ++ [⟨ty, fl, st, X, Ad, cd⟩], rfl, ⟨A, c, hv⟩, H2, cuts.snoc ho h1 h2 rfl h4 hmore, es.length, by simp, hl⟩
theorem CLoop.next {w W : World} {st : Int} {fin : Bool} {b : List Int} {most c : Nat} {A : Option Addr} {gw : Nat} {es : List CE} {m : Nat} {vo v : Value} {rest : List Int} {r : Nat} {AL A0 : Option Addr} {cl_ c0 : Nat} {ty fl : Int} {X : List Int} {Ad : Option Addr} {cd : Nat}
  (h : Aside0 (CLoop w W st fin b most c A gw es m vo rest r AL cl_)) {n q : Nat} (hn : cutE b.length most m = false) (hnm : n = most ∧ q = r - most ∧ m * most + r = b.length ∧ most < r)
  {W1 : World} (H : Hold w W1 [] ([cl gw [.int .u32 st, .slice A b.length c, .bool fin] 34, .row 32 11 v (m + 1) (es.flatMap CE.cells ++ (CE.mk ty fl st X Ad cd).cells), (CE.mk ty fl st X Ad cd).thing] ++ rowT es))
  (h1 : ty = cutT m) (h2 : fl = cutF fin b.length most m) (h4 : X = cutD b most m) (hrd : ReadsInt w .u8 A0 q (rest.drop n)) (hle : q ≤ c0) :
  CLoop w W1 st fin b most c A gw (es ++ [⟨ty, fl, st, X, Ad, cd⟩]) (m + 1) v (rest.drop n) q A0 c0 := by
 obtain ⟨hn1, hq1, hmr, hlt⟩ := hnm
 replace hn1 := hn1.symm
 subst hn1
 subst hq1
 have g := h.out
 have hl := g.len
 have hx : (m + 1) * most = m * most + most := by rw [Nat.add_mul, Nat.one_mul]
 refine ⟨?_, by rw [List.length_append, hl]; rfl, ?_, fun j hj => ?_, .inr (by omega), ?_, by rw [List.length_drop, g.rlen], hrd, hle⟩
 ·rw [rowT_more, List.flatMap_append, List.flatMap_singleton]
  exact H
 ·refine g.cuts.snoc (fun j hj => g.open_ j (by omega)) ?_ ?_ rfl ?_ ?_
  ·rw [hl]; exact h1
  ·rw [hl]; exact h2
  ·rw [hl]; exact h4
  ·rw [hl]; exact g.more
 ·rcases Nat.lt_or_ge j m with hlt | hge
  ·exact g.open_ j hlt
  ·obtain rfl : j = m := by omega
   exact hn
 ·rw [g.rest_, List.drop_drop, hx]
set_option maxHeartbeats 2000000 in
set_option maxRecDepth 100000 in
theorem cut_calls (w : World) (st : Int) (fin : Bool) (A : Option Addr) (b : List Int) (c most : Nat) (hR : ReadsInt w .u8 A b.length b) (hc : b.length ≤ c) (hb : b.length ≤ 300) (hm : 20 ≤ most) (hm2 : most ≤ 300) : Calls Tryd.prog 24 #[.agg (wholeC st (.slice A b.length c) fin), .int .i64 (most : Int)] w (CutEnd w st fin b most) := by
 refine of_post0 fun R hRR => ?_
 have HP := Lib.hid hRR
 have HR := Lib.hid (And.intro hR hc)
 have HBM := Lib.hid (And.intro hb (And.intro hm hm2))
 have hmx : (if (most : Int) < 1 then 1 else (most : Int)) = (most : Int) := by rw [if_neg (by omega)]
 have hmi : (if (16384 : Int) < (most : Int) then 16384 else (most : Int)) = (most : Int) := by rw [if_neg (by omega)]
 have o1 : bits .or .u8 0 1 = 1 := by decide
 have o2 : bits .or .u8 0 4 = 4 := by decide
 have o3 : bits .or .u8 1 4 = 5 := by decide
 have H : Hold w w [] [.row 32 11 nilS 0 []] := Hold.made (Below.refl _ _) (World.ownsRow_nil _ _ _ _) (fun k hk => by cases hk)
 clear hRR hR hc hb hm hm2
 go_enter Tryd.func24, Tryd.ntmps24
 go_wp2_with (first
  | ((with_reducible refine is_box rfl ?_); refine box_h H rfl rfl rfl rfl ?_; clear H; intro gw w_ H)
  | ((with_reducible refine is_load rfl ?_); refine loadf_h H rfl rfl rfl (by repeat (first | exact List.Mem.head _ | apply List.Mem.tail)) rfl (by kernel_rfl) ?_))
 go_loopg [5, 6] (b.length + 1) (fun k v5 v6 wr => ∃ (es : List CE) (m : Nat) (rest : List Int) (r : Nat) (AL : Option Addr) (cl_ : Nat) (Ao : Option Addr) (co : Nat), v5 = .slice AL r cl_ ∧ v6 = .slice Ao m co ∧ r + 1 ≤ k ∧ Aside0 (CLoop w wr st fin b most c A gw es m (.slice Ao m co) rest r AL cl_))
 case atStart => exact ⟨[], 0, b, b.length, A, c, none, 0, rfl, rfl, by first | omega | simp, Aside0.mk ⟨H, rfl, CutTo.nil _ _ _ _, fun j hj => by omega, .inl rfl, by simp, rfl, HR.out.1, HR.out.2⟩⟩
 case round =>
  obtain ⟨es, m, rest, r, AL, cl_, Ao, co, rfl, rfl, hk, HL⟩ := hrel
  clear H
  have H := HL.out.H
  cases gk with
  | zero => omega
  | succ k =>
   have hlen := HL.out.len
   have hmore := HL.out.more
   have hrest := HL.out.rest_
   have hrl := HL.out.rlen
   have hrd := HL.out.rd
   have hle := HL.out.le
   obtain ⟨hb3, hm20, hm300⟩ := HBM.out
   have hmr : m * most + r = b.length := by
    rw [hrest, List.length_drop] at hrl
    rcases hmore with h | h
    ·rw [h] at hrl ⊢; omega
    ·omega
   have hm16 : m ≤ 20 := by
    rcases Nat.lt_or_ge 20 m with h | h
    ·have : 21 * 20 ≤ m * most := Nat.mul_le_mul h hm20
     omega
    ·exact h
   have HM0 : m = 0 ∨ 0 < m := by omega
   have HJ := Lib.hid (show r + 1 ≤ k + 1 ∧ m ≤ 20 ∧ r ≤ 300 from ⟨hk, hm16, by omega⟩)
   obtain ⟨i0, hi, _, hsz, _⟩ := info_parts Tryd.info8
   clear hk hlen hmore
   rcases Nat.lt_or_ge most r with hlt | hge
   ·obtain ⟨n, hn⟩ : ∃ n : Nat, n = most := ⟨_, rfl⟩
    obtain ⟨q, hq⟩ : ∃ q : Nat, q = r - most := ⟨_, rfl⟩
    have hE := Lib.hid (show cutE b.length most m = false from decide_eq_false (by rw [Nat.add_mul, Nat.one_mul]; omega))
    have HNM := Lib.hid (show n = most ∧ q = r - most ∧ m * most + r = b.length ∧ most < r from ⟨hn, hq, hmr, hlt⟩)
    have hmn : (if (most : Int) < (r : Int) then (most : Int) else (r : Int)) = (n : Int) := by split <;> omega
    have hmn2 : (if most < r then (most : Int) else (r : Int)) = (n : Int) := by split <;> omega
    obtain ⟨hcut1, hr1, hc1⟩ := print_take_int (P := Tryd.prog) (k := .u8) 29 5 Tryd.underlying29 hi hsz AL cl_ rest (n : Int) (by omega) (by omega) (by omega)
    obtain ⟨A0, hcut2, hr2, hc2⟩ := print_drop_of (P := Tryd.prog) (Value.int .u8) (0 : Int) 29 5 .i64 Tryd.underlying29 hi hsz AL cl_ rest (n : Int) (by omega) (by omega) (by omega)
    rw [Int.toNat_natCast] at hcut1 hr1 hc1 hcut2 hr2 hc2
    have hql : (rest.drop n).length = q := by rw [List.length_drop]; omega
    have HDR := Lib.hid (show ReadsInt w .u8 A0 q (rest.drop n) ∧ q ≤ cl_ - n from ⟨by rw [← hql]; exact hr2 w (by rw [hrl]; exact hrd), by rw [← hql]; exact hc2⟩)
    have hXC : rest.take n = cutD b most m := by unfold cutD; rw [← hrest, hn]
    rw [hrl, hql] at hcut2
    rw [hrl] at hcut1
    obtain ⟨X, hX⟩ : ∃ X, rest.take n = X := ⟨_, rfl⟩
    have hXl : X.length ≤ 100000 := by rw [← hX, List.length_take]; omega
    rw [hX] at hcut1 hr1 hXC
    have HX := Lib.hid (And.intro (hr1 w (by rw [hrl]; exact hrd)) hXl)
    have HXC := Lib.hid hXC
    clear hX hXl hXC hr1 hr2 hc1 hc2 hql
    have d1 : decide ((q : Int) = 0) = false := decide_eq_false (by omega)
    have d2 : decide (q = 0) = false := decide_eq_false (by omega)
    have d3 : ((q : Int) == 0) = false := d1
    have d4 : (q == 0) = false := d2
    clear hq hn hlt hmr hrl hrd hle hi hsz hrest hm20 hm300 hb3 hm16
    go_upto_region 5 with (first
     | ((with_reducible refine is_load rfl ?_); refine loadf_h H rfl rfl rfl (by repeat (first | exact List.Mem.head _ | apply List.Mem.tail)) rfl (by kernel_rfl) ?_))
    replace H := H.below (below_drew (Below.refl _ _))
    refine start_ (n := 9) (S := fun w' => w'.cell? ⟨gw, 0, none⟩ = some (.int .u32 st)) (ds := []) #[false, false, false, false, false, false, false, false, false] (by kernel_rfl) rfl rfl ((H.cell (by repeat (first | exact List.Mem.head _ | apply List.Mem.tail)) 0).trans rfl) (fun hHeld => ?_)
    generalize World.drew _ = wy at H hHeld ⊢
    refine pure_ (i := 0) (N := some 18) (v := ?_) (a' := ?_) #[true, false, false, false, false, false, false, false, false] rfl rfl (by kernel_rfl) (fun _ _ _ h => h) (Or.inl ⟨by rfl, ?_⟩) ?_ ?_
    rotate_left
    ·intro w'
     go_simp
     with_reducible rfl
    rotate_left
    ·simp only [Act.put, putA, putB, putC]
     rfl
    refine take_ (i := 1) (N := some 19) (v := ?_) (a' := ?_) #[true, true, false, false, false, false, false, false, false] rfl rfl (by kernel_rfl) (fun _ _ _ h => h) (Or.inl ⟨by rfl, ?_⟩) hHeld ?_ ?_
    rotate_left
    ·intro w' s0
     go_simp
     with_reducible rfl
    rotate_left
    ·simp only [Act.put, putA, putB, putC]
     rfl
    refine pure_ (i := 2) (N := some 20) (v := ?_) (a' := ?_) #[true, true, true, false, false, false, false, false, false] rfl rfl (by kernel_rfl) (fun _ _ _ h => h) (Or.inl ⟨by rfl, ?_⟩) ?_ ?_
    rotate_left
    ·intro w'
     go_simp
     with_reducible rfl
    rotate_left
    ·simp only [Act.put, putA, putB, putC]
     rfl
    refine pure_ (i := 3) (N := some 21) (v := ?_) (a' := ?_) #[true, true, true, true, false, false, false, false, false] rfl rfl (by kernel_rfl) (fun _ _ _ h => h) (Or.inl ⟨by rfl, ?_⟩) ?_ ?_
    rotate_left
    ·intro w'
     go_simp
     with_reducible rfl
    rotate_left
    ·simp only [Act.put, putA, putB, putC]
     rfl
    refine pure_ (i := 4) (N := some 22) (v := ?_) (a' := ?_) #[true, true, true, true, true, false, false, false, false] rfl rfl (by kernel_rfl) (fun _ _ _ h => h) (Or.inl ⟨by rfl, ?_⟩) ?_ ?_
    rotate_left
    ·intro w'
     go_simp
     with_reducible rfl
    rotate_left
    ·simp only [Act.put, putA, putB, putC]
     rfl
    refine two_ (i := 5) (j := 7) (Ni := some 23) (Nj := some 8) #[true, true, true, true, true, true, false, false, false] #[true, true, true, true, true, false, false, true, false] rfl rfl rfl rfl (by kernel_rfl) (by decide) (by decide) (fun K hK => ?_) (fun K hK => ?_)
    ·refine goes_ Tryd.func42 (by kernel_rfl) rfl #[.slice AL X.length cl_] (by rfl) rfl rfl (by (try simp only [List.map_toArray, List.map_cons, List.map_nil]); first | done | rfl) ?_
     refine (clone_got _ AL X.length cl_ X (HX.out.1.below H.all) HX.out.2).mono ?_
     rintro e_ w9 ⟨vd, rfl, h_⟩
     obtain ⟨Ad, cd, rfl⟩ := own_slice (h_.row (List.Mem.head _))
     replace H := Hold.push H h_
     replace h_ := h_.all
     refine ⟨_, rfl, ?_⟩
     have hS := Lib.hid (show (fun w' : World => w'.cell? ⟨gw, 0, none⟩ = some (.int .u32 st)) _ from (pw_cell_below h_ hHeld))
     clear h_
     refine hK.out _ _ hS.out (fun hHeld => ?_)
     clear hK K
     clear hS
     refine norm_ (a' := ?_) ?_ ?_
     rotate_left
     ·show Act.put _ (some 23) _ = _
      simp only [Act.put, putA, putB, putC]
      rfl
     refine pure_ (i := 6) (N := some 24) (v := ?_) (a' := ?_) #[true, true, true, true, true, true, true, false, false] rfl rfl (by kernel_rfl) (fun _ _ _ h => h) (Or.inl ⟨by rfl, ?_⟩) ?_ ?_
     rotate_left
     ·intro w'
      go_simp
      with_reducible rfl
     rotate_left
     ·simp only [Act.put, putA, putB, putC]
      rfl
     refine one_ (i := 7) (N := some 8) #[true, true, true, true, true, true, true, true, false] rfl rfl (by kernel_rfl) (by decide) (fun K hK => ?_)
     refine alloc_o H (by rfl) (cs := [.int .u8 0, .int .u8 0, .int .u32 0, nilS, .int .i64 0, .int .u32 0, .int .u32 0, .int .u8 0, .bool false, .int .u32 0, nilS]) (by first | (go_simp; done) | (go_simp; rfl)) ?_
     clear H
     intro gf w_ H h_
     have hS := Lib.hid (show (fun w' : World => w'.cell? ⟨gw, 0, none⟩ = some (.int .u32 st)) _ from (pw_cell_below h_ hHeld))
     clear h_
     refine hK.out _ _ hS.out (fun hHeld => ?_)
     clear hK K
     clear hS
     refine norm_ (a' := ?_) ?_ ?_
     rotate_left
     ·show Act.put _ (some 8) _ = _
      simp only [Act.put, putA, putB, putC]
      rfl
     refine one_ (i := 8) (N := none) #[true, true, true, true, true, true, true, true, true] rfl rfl (by kernel_rfl) (by decide) (fun K hK => ?_)
     refine store_o H (by rfl) rfl rfl rfl rfl (u := .agg #[.int .u8 9, .int .u8 0, .int .u32 st, .slice Ad X.length cd, .int .i64 (-1), .int .u32 0, .int .u32 0, .int .u8 0, .bool false, .int .u32 0, nilS]) (by repeat (first | exact Put.head | apply Put.tail)) (by kernel_rfl) (Nat.le_of_ble_eq_true rfl) rfl ?_
     clear H
     intro w_ H h_
     simp only [setC, Value.cells, List.toList_toArray] at H
     clear h_
     have hS := Lib.hid (show (fun w' : World => w'.cell? ⟨gw, 0, none⟩ = some (.int .u32 st)) _ from ((H.cell (by repeat (first | exact List.Mem.head _ | apply List.Mem.tail)) 0).trans rfl))
     refine hK.out _ _ hS.out (fun hHeld => ?_)
     clear hK K
     clear hS
     refine done_ (by kernel_rfl) ?_
     clear hHeld
     rcases HM0 with h0 | h0
     ·have d5 : decide ((m : Int) = 0) = true := decide_eq_true (by omega)
      have d6 : decide (m = 0) = true := decide_eq_true (by omega)
      have d7 : ((m : Int) == 0) = true := d5
      have d8 : (m == 0) = true := d6
      cases fin with
      | true =>
       have hty := Lib.hid (show (1 : Int) = cutT m by unfold cutT; rw [if_pos h0])
       have hfl := Lib.hid (show (1 : Int) = cutF true b.length most m by unfold cutF; rw [hE.out, h0]; rfl)
       clear h0
       go_wp2_with (first
        | ((with_reducible refine is_store (ty := 5) rfl ?_); refine store_h H rfl rfl rfl rfl (u := .int .u8 1) rfl (by repeat (first | exact Put.head | apply Put.tail)) (by kernel_rfl) (Nat.le_of_ble_eq_true rfl) rfl ?_; clear H; intro w_ H; simp only [setC, Value.cells, List.toList_toArray] at H)
        | ((with_reducible refine is_load (ty := 32) rfl ?_); refine load_h H rfl rfl rfl (by repeat (first | exact List.Mem.head _ | apply List.Mem.tail)) (by kernel_rfl) (by kernel_rfl) ?_)
        | ((with_reducible refine is_load rfl ?_); refine loadf_h H rfl rfl rfl (by repeat (first | exact List.Mem.head _ | apply List.Mem.tail)) rfl (by kernel_rfl) ?_)
        | ((with_reducible refine is_lit rfl ?_); refine onerow_h H rfl (e := 32) (cs := [.int .u8 1, .int .u8 1, .int .u32 st, .slice Ad X.length cd, .int .i64 (-1), .int .u32 0, .int .u32 0, .int .u8 0, .bool false, .int .u32 0, nilS]) (by first | (go_simp; done) | (go_simp; rfl)) ?_; clear H; intro gl w_ H)
        | ((with_reducible refine is_call rfl ?_); refine appends_h H rfl rfl Tryd.underlying22 Tryd.infoFr rfl (by decide) rfl rfl (g := gl) (by repeat (first | exact List.Mem.head _ | apply List.Mem.tail)) rfl rfl (fun y => (by repeat (first | exact Put.head | apply Put.tail))) (by have := HJ.out; omega) (by have := HJ.out; omega) ?_; clear H; intro vo2 w_ H))
       obtain ⟨Ao2, co2, rfl⟩ := own_slice (H.ok (.row 32 11 vo2 (m + 1) (es.flatMap CE.cells ++ (CE.mk 1 1 st X Ad cd).cells)) (by repeat (first | exact List.Mem.head _ | apply List.Mem.tail)))
       go_roundg k
       case measure => have := HJ.out; omega
       case rel =>
        refine ⟨es ++ [(CE.mk 1 1 st X Ad cd)], m + 1, rest.drop n, q, A0, cl_ - n, Ao2, co2, rfl, rfl, by have h1_ := HJ.out.1; have h2_ := HNM.out.2; have h3_ := HBM.out.2.1; omega, Aside0.mk ?_⟩
        have H3 := H.want (l' := [cl gw [.int .u32 st, .slice A b.length c, .bool true] 34, .row 32 11 (.slice Ao2 (m + 1) co2) (m + 1) (es.flatMap CE.cells ++ (CE.mk 1 1 st X Ad cd).cells), (CE.mk 1 1 st X Ad cd).thing] ++ rowT es) (Want.take (by repeat (first | exact Pull.head | apply Pull.tail)) (Want.take (by repeat (first | exact Pull.head | apply Pull.tail)) (Want.take (by repeat (first | exact Pull.head | apply Pull.tail)) (Want.done (by repeat (first | exact Suf.refl | apply Suf.cons))))))
        exact CLoop.next HL hE.out HNM.out H3 hty.out hfl.out HXC.out HDR.out.1 HDR.out.2
      | false =>
       have hty := Lib.hid (show (1 : Int) = cutT m by unfold cutT; rw [if_pos h0])
       have hfl := Lib.hid (show (0 : Int) = cutF false b.length most m by unfold cutF; rw [hE.out, h0]; rfl)
       clear h0
       go_wp2_with (first
        | ((with_reducible refine is_store (ty := 5) rfl ?_); refine store_h H rfl rfl rfl rfl (u := .int .u8 1) rfl (by repeat (first | exact Put.head | apply Put.tail)) (by kernel_rfl) (Nat.le_of_ble_eq_true rfl) rfl ?_; clear H; intro w_ H; simp only [setC, Value.cells, List.toList_toArray] at H)
        | ((with_reducible refine is_store (ty := 5) rfl ?_); refine store_h H rfl rfl rfl rfl (u := .int .u8 0) rfl (by repeat (first | exact Put.head | apply Put.tail)) (by kernel_rfl) (Nat.le_of_ble_eq_true rfl) rfl ?_; clear H; intro w_ H; simp only [setC, Value.cells, List.toList_toArray] at H)
        | ((with_reducible refine is_load (ty := 32) rfl ?_); refine load_h H rfl rfl rfl (by repeat (first | exact List.Mem.head _ | apply List.Mem.tail)) (by kernel_rfl) (by kernel_rfl) ?_)
        | ((with_reducible refine is_load rfl ?_); refine loadf_h H rfl rfl rfl (by repeat (first | exact List.Mem.head _ | apply List.Mem.tail)) rfl (by kernel_rfl) ?_)
        | ((with_reducible refine is_lit rfl ?_); refine onerow_h H rfl (e := 32) (cs := [.int .u8 1, .int .u8 0, .int .u32 st, .slice Ad X.length cd, .int .i64 (-1), .int .u32 0, .int .u32 0, .int .u8 0, .bool false, .int .u32 0, nilS]) (by first | (go_simp; done) | (go_simp; rfl)) ?_; clear H; intro gl w_ H)
        | ((with_reducible refine is_call rfl ?_); refine appends_h H rfl rfl Tryd.underlying22 Tryd.infoFr rfl (by decide) rfl rfl (g := gl) (by repeat (first | exact List.Mem.head _ | apply List.Mem.tail)) rfl rfl (fun y => (by repeat (first | exact Put.head | apply Put.tail))) (by have := HJ.out; omega) (by have := HJ.out; omega) ?_; clear H; intro vo2 w_ H))
       obtain ⟨Ao2, co2, rfl⟩ := own_slice (H.ok (.row 32 11 vo2 (m + 1) (es.flatMap CE.cells ++ (CE.mk 1 0 st X Ad cd).cells)) (by repeat (first | exact List.Mem.head _ | apply List.Mem.tail)))
       go_roundg k
       case measure => have := HJ.out; omega
       case rel =>
        refine ⟨es ++ [(CE.mk 1 0 st X Ad cd)], m + 1, rest.drop n, q, A0, cl_ - n, Ao2, co2, rfl, rfl, by have h1_ := HJ.out.1; have h2_ := HNM.out.2; have h3_ := HBM.out.2.1; omega, Aside0.mk ?_⟩
        have H3 := H.want (l' := [cl gw [.int .u32 st, .slice A b.length c, .bool false] 34, .row 32 11 (.slice Ao2 (m + 1) co2) (m + 1) (es.flatMap CE.cells ++ (CE.mk 1 0 st X Ad cd).cells), (CE.mk 1 0 st X Ad cd).thing] ++ rowT es) (Want.take (by repeat (first | exact Pull.head | apply Pull.tail)) (Want.take (by repeat (first | exact Pull.head | apply Pull.tail)) (Want.take (by repeat (first | exact Pull.head | apply Pull.tail)) (Want.done (by repeat (first | exact Suf.refl | apply Suf.cons))))))
        exact CLoop.next HL hE.out HNM.out H3 hty.out hfl.out HXC.out HDR.out.1 HDR.out.2
     ·have d5 : decide ((m : Int) = 0) = false := decide_eq_false (by omega)
      have d6 : decide (m = 0) = false := decide_eq_false (by omega)
      have d7 : ((m : Int) == 0) = false := d5
      have d8 : (m == 0) = false := d6
      have hty := Lib.hid (show (9 : Int) = cutT m by unfold cutT; rw [if_neg (by omega)])
      have hfl := Lib.hid (show (0 : Int) = cutF fin b.length most m by unfold cutF; rw [hE.out, if_neg (by omega)]; rfl)
      clear h0
      go_wp2_with (first
       | ((with_reducible refine is_store (ty := 5) rfl ?_); refine store_h H rfl rfl rfl rfl (u := .int .u8 1) rfl (by repeat (first | exact Put.head | apply Put.tail)) (by kernel_rfl) (Nat.le_of_ble_eq_true rfl) rfl ?_; clear H; intro w_ H; simp only [setC, Value.cells, List.toList_toArray] at H)
       | ((with_reducible refine is_store (ty := 5) rfl ?_); refine store_h H rfl rfl rfl rfl (u := .int .u8 0) rfl (by repeat (first | exact Put.head | apply Put.tail)) (by kernel_rfl) (Nat.le_of_ble_eq_true rfl) rfl ?_; clear H; intro w_ H; simp only [setC, Value.cells, List.toList_toArray] at H)
       | ((with_reducible refine is_load (ty := 32) rfl ?_); refine load_h H rfl rfl rfl (by repeat (first | exact List.Mem.head _ | apply List.Mem.tail)) (by kernel_rfl) (by kernel_rfl) ?_)
       | ((with_reducible refine is_load rfl ?_); refine loadf_h H rfl rfl rfl (by repeat (first | exact List.Mem.head _ | apply List.Mem.tail)) rfl (by kernel_rfl) ?_)
       | ((with_reducible refine is_lit rfl ?_); refine onerow_h H rfl (e := 32) (cs := [.int .u8 9, .int .u8 0, .int .u32 st, .slice Ad X.length cd, .int .i64 (-1), .int .u32 0, .int .u32 0, .int .u8 0, .bool false, .int .u32 0, nilS]) (by first | (go_simp; done) | (go_simp; rfl)) ?_; clear H; intro gl w_ H)
       | ((with_reducible refine is_call rfl ?_); refine appends_h H rfl rfl Tryd.underlying22 Tryd.infoFr rfl (by decide) rfl rfl (g := gl) (by repeat (first | exact List.Mem.head _ | apply List.Mem.tail)) rfl rfl (fun y => (by repeat (first | exact Put.head | apply Put.tail))) (by have := HJ.out; omega) (by have := HJ.out; omega) ?_; clear H; intro vo2 w_ H))
      obtain ⟨Ao2, co2, rfl⟩ := own_slice (H.ok (.row 32 11 vo2 (m + 1) (es.flatMap CE.cells ++ (CE.mk 9 0 st X Ad cd).cells)) (by repeat (first | exact List.Mem.head _ | apply List.Mem.tail)))
      go_roundg k
      case measure => have := HJ.out; omega
      case rel =>
       refine ⟨es ++ [(CE.mk 9 0 st X Ad cd)], m + 1, rest.drop n, q, A0, cl_ - n, Ao2, co2, rfl, rfl, by have h1_ := HJ.out.1; have h2_ := HNM.out.2; have h3_ := HBM.out.2.1; omega, Aside0.mk ?_⟩
       have H3 := H.want (l' := [cl gw [.int .u32 st, .slice A b.length c, .bool fin] 34, .row 32 11 (.slice Ao2 (m + 1) co2) (m + 1) (es.flatMap CE.cells ++ (CE.mk 9 0 st X Ad cd).cells), (CE.mk 9 0 st X Ad cd).thing] ++ rowT es) (Want.take (by repeat (first | exact Pull.head | apply Pull.tail)) (Want.take (by repeat (first | exact Pull.head | apply Pull.tail)) (Want.take (by repeat (first | exact Pull.head | apply Pull.tail)) (Want.done (by repeat (first | exact Suf.refl | apply Suf.cons))))))
       exact CLoop.next HL hE.out HNM.out H3 hty.out hfl.out HXC.out HDR.out.1 HDR.out.2
    ·refine alloc_o H (by rfl) (cs := [.int .u8 0, .int .u8 0, .int .u32 0, nilS, .int .i64 0, .int .u32 0, .int .u32 0, .int .u8 0, .bool false, .int .u32 0, nilS]) (by first | (go_simp; done) | (go_simp; rfl)) ?_
     clear H
     intro gf w_ H h_
     have hS := Lib.hid (show (fun w' : World => w'.cell? ⟨gw, 0, none⟩ = some (.int .u32 st)) _ from (pw_cell_below h_ hHeld))
     clear h_
     refine hK.out _ _ hS.out (fun hHeld => ?_)
     clear hK K
     clear hS
     refine norm_ (a' := ?_) ?_ ?_
     rotate_left
     ·show Act.put _ (some 8) _ = _
      simp only [Act.put, putA, putB, putC]
      rfl
     refine one_ (i := 5) (N := some 23) #[true, true, true, true, true, true, false, true, false] rfl rfl (by kernel_rfl) (by decide) (fun K hK => ?_)
     refine goes_ Tryd.func42 (by kernel_rfl) rfl #[.slice AL X.length cl_] (by rfl) rfl rfl (by (try simp only [List.map_toArray, List.map_cons, List.map_nil]); first | done | rfl) ?_
     refine (clone_got _ AL X.length cl_ X (HX.out.1.below H.all) HX.out.2).mono ?_
     rintro e_ w9 ⟨vd, rfl, h_⟩
     obtain ⟨Ad, cd, rfl⟩ := own_slice (h_.row (List.Mem.head _))
     replace H := Hold.push H h_
     replace h_ := h_.all
     refine ⟨_, rfl, ?_⟩
     have hS := Lib.hid (show (fun w' : World => w'.cell? ⟨gw, 0, none⟩ = some (.int .u32 st)) _ from (pw_cell_below h_ hHeld))
     clear h_
     refine hK.out _ _ hS.out (fun hHeld => ?_)
     clear hK K
     clear hS
     refine norm_ (a' := ?_) ?_ ?_
     rotate_left
     ·show Act.put _ (some 23) _ = _
      simp only [Act.put, putA, putB, putC]
      rfl
     refine pure_ (i := 6) (N := some 24) (v := ?_) (a' := ?_) #[true, true, true, true, true, true, true, true, false] rfl rfl (by kernel_rfl) (fun _ _ _ h => h) (Or.inl ⟨by rfl, ?_⟩) ?_ ?_
     rotate_left
     ·intro w'
      go_simp
      with_reducible rfl
     rotate_left
     ·simp only [Act.put, putA, putB, putC]
      rfl
     refine one_ (i := 8) (N := none) #[true, true, true, true, true, true, true, true, true] rfl rfl (by kernel_rfl) (by decide) (fun K hK => ?_)
     refine store_o H (by rfl) rfl rfl rfl rfl (u := .agg #[.int .u8 9, .int .u8 0, .int .u32 st, .slice Ad X.length cd, .int .i64 (-1), .int .u32 0, .int .u32 0, .int .u8 0, .bool false, .int .u32 0, nilS]) (by repeat (first | exact Put.head | apply Put.tail)) (by kernel_rfl) (Nat.le_of_ble_eq_true rfl) rfl ?_
     clear H
     intro w_ H h_
     simp only [setC, Value.cells, List.toList_toArray] at H
     clear h_
     have hS := Lib.hid (show (fun w' : World => w'.cell? ⟨gw, 0, none⟩ = some (.int .u32 st)) _ from ((H.cell (by repeat (first | exact List.Mem.head _ | apply List.Mem.tail)) 0).trans rfl))
     refine hK.out _ _ hS.out (fun hHeld => ?_)
     clear hK K
     clear hS
     refine done_ (by kernel_rfl) ?_
     clear hHeld
     rcases HM0 with h0 | h0
     ·have d5 : decide ((m : Int) = 0) = true := decide_eq_true (by omega)
      have d6 : decide (m = 0) = true := decide_eq_true (by omega)
      have d7 : ((m : Int) == 0) = true := d5
      have d8 : (m == 0) = true := d6
      cases fin with
      | true =>
       have hty := Lib.hid (show (1 : Int) = cutT m by unfold cutT; rw [if_pos h0])
       have hfl := Lib.hid (show (1 : Int) = cutF true b.length most m by unfold cutF; rw [hE.out, h0]; rfl)
       clear h0
       go_wp2_with (first
        | ((with_reducible refine is_store (ty := 5) rfl ?_); refine store_h H rfl rfl rfl rfl (u := .int .u8 1) rfl (by repeat (first | exact Put.head | apply Put.tail)) (by kernel_rfl) (Nat.le_of_ble_eq_true rfl) rfl ?_; clear H; intro w_ H; simp only [setC, Value.cells, List.toList_toArray] at H)
        | ((with_reducible refine is_load (ty := 32) rfl ?_); refine load_h H rfl rfl rfl (by repeat (first | exact List.Mem.head _ | apply List.Mem.tail)) (by kernel_rfl) (by kernel_rfl) ?_)
        | ((with_reducible refine is_load rfl ?_); refine loadf_h H rfl rfl rfl (by repeat (first | exact List.Mem.head _ | apply List.Mem.tail)) rfl (by kernel_rfl) ?_)
        | ((with_reducible refine is_lit rfl ?_); refine onerow_h H rfl (e := 32) (cs := [.int .u8 1, .int .u8 1, .int .u32 st, .slice Ad X.length cd, .int .i64 (-1), .int .u32 0, .int .u32 0, .int .u8 0, .bool false, .int .u32 0, nilS]) (by first | (go_simp; done) | (go_simp; rfl)) ?_; clear H; intro gl w_ H)
        | ((with_reducible refine is_call rfl ?_); refine appends_h H rfl rfl Tryd.underlying22 Tryd.infoFr rfl (by decide) rfl rfl (g := gl) (by repeat (first | exact List.Mem.head _ | apply List.Mem.tail)) rfl rfl (fun y => (by repeat (first | exact Put.head | apply Put.tail))) (by have := HJ.out; omega) (by have := HJ.out; omega) ?_; clear H; intro vo2 w_ H))
       obtain ⟨Ao2, co2, rfl⟩ := own_slice (H.ok (.row 32 11 vo2 (m + 1) (es.flatMap CE.cells ++ (CE.mk 1 1 st X Ad cd).cells)) (by repeat (first | exact List.Mem.head _ | apply List.Mem.tail)))
       go_roundg k
       case measure => have := HJ.out; omega
       case rel =>
        refine ⟨es ++ [(CE.mk 1 1 st X Ad cd)], m + 1, rest.drop n, q, A0, cl_ - n, Ao2, co2, rfl, rfl, by have h1_ := HJ.out.1; have h2_ := HNM.out.2; have h3_ := HBM.out.2.1; omega, Aside0.mk ?_⟩
        have H3 := H.want (l' := [cl gw [.int .u32 st, .slice A b.length c, .bool true] 34, .row 32 11 (.slice Ao2 (m + 1) co2) (m + 1) (es.flatMap CE.cells ++ (CE.mk 1 1 st X Ad cd).cells), (CE.mk 1 1 st X Ad cd).thing] ++ rowT es) (Want.take (by repeat (first | exact Pull.head | apply Pull.tail)) (Want.take (by repeat (first | exact Pull.head | apply Pull.tail)) (Want.take (by repeat (first | exact Pull.head | apply Pull.tail)) (Want.done (by repeat (first | exact Suf.refl | apply Suf.cons))))))
        exact CLoop.next HL hE.out HNM.out H3 hty.out hfl.out HXC.out HDR.out.1 HDR.out.2
      | false =>
       have hty := Lib.hid (show (1 : Int) = cutT m by unfold cutT; rw [if_pos h0])
       have hfl := Lib.hid (show (0 : Int) = cutF false b.length most m by unfold cutF; rw [hE.out, h0]; rfl)
       clear h0
       go_wp2_with (first
        | ((with_reducible refine is_store (ty := 5) rfl ?_); refine store_h H rfl rfl rfl rfl (u := .int .u8 1) rfl (by repeat (first | exact Put.head | apply Put.tail)) (by kernel_rfl) (Nat.le_of_ble_eq_true rfl) rfl ?_; clear H; intro w_ H; simp only [setC, Value.cells, List.toList_toArray] at H)
        | ((with_reducible refine is_store (ty := 5) rfl ?_); refine store_h H rfl rfl rfl rfl (u := .int .u8 0) rfl (by repeat (first | exact Put.head | apply Put.tail)) (by kernel_rfl) (Nat.le_of_ble_eq_true rfl) rfl ?_; clear H; intro w_ H; simp only [setC, Value.cells, List.toList_toArray] at H)
        | ((with_reducible refine is_load (ty := 32) rfl ?_); refine load_h H rfl rfl rfl (by repeat (first | exact List.Mem.head _ | apply List.Mem.tail)) (by kernel_rfl) (by kernel_rfl) ?_)
        | ((with_reducible refine is_load rfl ?_); refine loadf_h H rfl rfl rfl (by repeat (first | exact List.Mem.head _ | apply List.Mem.tail)) rfl (by kernel_rfl) ?_)
        | ((with_reducible refine is_lit rfl ?_); refine onerow_h H rfl (e := 32) (cs := [.int .u8 1, .int .u8 0, .int .u32 st, .slice Ad X.length cd, .int .i64 (-1), .int .u32 0, .int .u32 0, .int .u8 0, .bool false, .int .u32 0, nilS]) (by first | (go_simp; done) | (go_simp; rfl)) ?_; clear H; intro gl w_ H)
        | ((with_reducible refine is_call rfl ?_); refine appends_h H rfl rfl Tryd.underlying22 Tryd.infoFr rfl (by decide) rfl rfl (g := gl) (by repeat (first | exact List.Mem.head _ | apply List.Mem.tail)) rfl rfl (fun y => (by repeat (first | exact Put.head | apply Put.tail))) (by have := HJ.out; omega) (by have := HJ.out; omega) ?_; clear H; intro vo2 w_ H))
       obtain ⟨Ao2, co2, rfl⟩ := own_slice (H.ok (.row 32 11 vo2 (m + 1) (es.flatMap CE.cells ++ (CE.mk 1 0 st X Ad cd).cells)) (by repeat (first | exact List.Mem.head _ | apply List.Mem.tail)))
       go_roundg k
       case measure => have := HJ.out; omega
       case rel =>
        refine ⟨es ++ [(CE.mk 1 0 st X Ad cd)], m + 1, rest.drop n, q, A0, cl_ - n, Ao2, co2, rfl, rfl, by have h1_ := HJ.out.1; have h2_ := HNM.out.2; have h3_ := HBM.out.2.1; omega, Aside0.mk ?_⟩
        have H3 := H.want (l' := [cl gw [.int .u32 st, .slice A b.length c, .bool false] 34, .row 32 11 (.slice Ao2 (m + 1) co2) (m + 1) (es.flatMap CE.cells ++ (CE.mk 1 0 st X Ad cd).cells), (CE.mk 1 0 st X Ad cd).thing] ++ rowT es) (Want.take (by repeat (first | exact Pull.head | apply Pull.tail)) (Want.take (by repeat (first | exact Pull.head | apply Pull.tail)) (Want.take (by repeat (first | exact Pull.head | apply Pull.tail)) (Want.done (by repeat (first | exact Suf.refl | apply Suf.cons))))))
        exact CLoop.next HL hE.out HNM.out H3 hty.out hfl.out HXC.out HDR.out.1 HDR.out.2
     ·have d5 : decide ((m : Int) = 0) = false := decide_eq_false (by omega)
      have d6 : decide (m = 0) = false := decide_eq_false (by omega)
      have d7 : ((m : Int) == 0) = false := d5
      have d8 : (m == 0) = false := d6
      have hty := Lib.hid (show (9 : Int) = cutT m by unfold cutT; rw [if_neg (by omega)])
      have hfl := Lib.hid (show (0 : Int) = cutF fin b.length most m by unfold cutF; rw [hE.out, if_neg (by omega)]; rfl)
      clear h0
      go_wp2_with (first
       | ((with_reducible refine is_store (ty := 5) rfl ?_); refine store_h H rfl rfl rfl rfl (u := .int .u8 1) rfl (by repeat (first | exact Put.head | apply Put.tail)) (by kernel_rfl) (Nat.le_of_ble_eq_true rfl) rfl ?_; clear H; intro w_ H; simp only [setC, Value.cells, List.toList_toArray] at H)
       | ((with_reducible refine is_store (ty := 5) rfl ?_); refine store_h H rfl rfl rfl rfl (u := .int .u8 0) rfl (by repeat (first | exact Put.head | apply Put.tail)) (by kernel_rfl) (Nat.le_of_ble_eq_true rfl) rfl ?_; clear H; intro w_ H; simp only [setC, Value.cells, List.toList_toArray] at H)
       | ((with_reducible refine is_load (ty := 32) rfl ?_); refine load_h H rfl rfl rfl (by repeat (first | exact List.Mem.head _ | apply List.Mem.tail)) (by kernel_rfl) (by kernel_rfl) ?_)
       | ((with_reducible refine is_load rfl ?_); refine loadf_h H rfl rfl rfl (by repeat (first | exact List.Mem.head _ | apply List.Mem.tail)) rfl (by kernel_rfl) ?_)
       | ((with_reducible refine is_lit rfl ?_); refine onerow_h H rfl (e := 32) (cs := [.int .u8 9, .int .u8 0, .int .u32 st, .slice Ad X.length cd, .int .i64 (-1), .int .u32 0, .int .u32 0, .int .u8 0, .bool false, .int .u32 0, nilS]) (by first | (go_simp; done) | (go_simp; rfl)) ?_; clear H; intro gl w_ H)
       | ((with_reducible refine is_call rfl ?_); refine appends_h H rfl rfl Tryd.underlying22 Tryd.infoFr rfl (by decide) rfl rfl (g := gl) (by repeat (first | exact List.Mem.head _ | apply List.Mem.tail)) rfl rfl (fun y => (by repeat (first | exact Put.head | apply Put.tail))) (by have := HJ.out; omega) (by have := HJ.out; omega) ?_; clear H; intro vo2 w_ H))
      obtain ⟨Ao2, co2, rfl⟩ := own_slice (H.ok (.row 32 11 vo2 (m + 1) (es.flatMap CE.cells ++ (CE.mk 9 0 st X Ad cd).cells)) (by repeat (first | exact List.Mem.head _ | apply List.Mem.tail)))
      go_roundg k
      case measure => have := HJ.out; omega
      case rel =>
       refine ⟨es ++ [(CE.mk 9 0 st X Ad cd)], m + 1, rest.drop n, q, A0, cl_ - n, Ao2, co2, rfl, rfl, by have h1_ := HJ.out.1; have h2_ := HNM.out.2; have h3_ := HBM.out.2.1; omega, Aside0.mk ?_⟩
       have H3 := H.want (l' := [cl gw [.int .u32 st, .slice A b.length c, .bool fin] 34, .row 32 11 (.slice Ao2 (m + 1) co2) (m + 1) (es.flatMap CE.cells ++ (CE.mk 9 0 st X Ad cd).cells), (CE.mk 9 0 st X Ad cd).thing] ++ rowT es) (Want.take (by repeat (first | exact Pull.head | apply Pull.tail)) (Want.take (by repeat (first | exact Pull.head | apply Pull.tail)) (Want.take (by repeat (first | exact Pull.head | apply Pull.tail)) (Want.done (by repeat (first | exact Suf.refl | apply Suf.cons))))))
       exact CLoop.next HL hE.out HNM.out H3 hty.out hfl.out HXC.out HDR.out.1 HDR.out.2
   ·obtain ⟨n, hn⟩ : ∃ n : Nat, n = r := ⟨_, rfl⟩
    obtain ⟨q, hq⟩ : ∃ q : Nat, q = 0 := ⟨_, rfl⟩
    have hE := Lib.hid (show cutE b.length most m = true from decide_eq_true (by rw [Nat.add_mul, Nat.one_mul]; omega))
    have hmn : (if (most : Int) < (r : Int) then (most : Int) else (r : Int)) = (n : Int) := by split <;> omega
    have hmn2 : (if most < r then (most : Int) else (r : Int)) = (n : Int) := by split <;> omega
    obtain ⟨hcut1, hr1, hc1⟩ := print_take_int (P := Tryd.prog) (k := .u8) 29 5 Tryd.underlying29 hi hsz AL cl_ rest (n : Int) (by omega) (by omega) (by omega)
    obtain ⟨A0, hcut2, hr2, hc2⟩ := print_drop_of (P := Tryd.prog) (Value.int .u8) (0 : Int) 29 5 .i64 Tryd.underlying29 hi hsz AL cl_ rest (n : Int) (by omega) (by omega) (by omega)
    rw [Int.toNat_natCast] at hcut1 hr1 hc1 hcut2 hr2 hc2
    have hql : (rest.drop n).length = q := by rw [List.length_drop]; omega
    have HDR := Lib.hid (show ReadsInt w .u8 A0 q (rest.drop n) ∧ q ≤ cl_ - n from ⟨by rw [← hql]; exact hr2 w (by rw [hrl]; exact hrd), by rw [← hql]; exact hc2⟩)
    have hXC : rest.take n = cutD b most m := by unfold cutD; rw [← hrest, hn]; rw [List.take_of_length_le (by omega), List.take_of_length_le (by omega)]
    rw [hrl, hql] at hcut2
    rw [hrl] at hcut1
    obtain ⟨X, hX⟩ : ∃ X, rest.take n = X := ⟨_, rfl⟩
    have hXl : X.length ≤ 100000 := by rw [← hX, List.length_take]; omega
    rw [hX] at hcut1 hr1 hXC
    have HX := Lib.hid (And.intro (hr1 w (by rw [hrl]; exact hrd)) hXl)
    have HXC := Lib.hid hXC
    clear hX hXl hXC hr1 hr2 hc1 hc2 hql
    have d1 : decide ((q : Int) = 0) = true := decide_eq_true (by omega)
    have d2 : decide (q = 0) = true := decide_eq_true (by omega)
    have d3 : ((q : Int) == 0) = true := d1
    have d4 : (q == 0) = true := d2
    clear hq hn hge hmr hrl hrd hle hi hsz hrest hm20 hm300 hb3 hm16
    go_upto_region 5 with (first
     | ((with_reducible refine is_load rfl ?_); refine loadf_h H rfl rfl rfl (by repeat (first | exact List.Mem.head _ | apply List.Mem.tail)) rfl (by kernel_rfl) ?_))
    replace H := H.below (below_drew (Below.refl _ _))
    refine start_ (n := 9) (S := fun w' => w'.cell? ⟨gw, 0, none⟩ = some (.int .u32 st)) (ds := []) #[false, false, false, false, false, false, false, false, false] (by kernel_rfl) rfl rfl ((H.cell (by repeat (first | exact List.Mem.head _ | apply List.Mem.tail)) 0).trans rfl) (fun hHeld => ?_)
    generalize World.drew _ = wy at H hHeld ⊢
    refine pure_ (i := 0) (N := some 18) (v := ?_) (a' := ?_) #[true, false, false, false, false, false, false, false, false] rfl rfl (by kernel_rfl) (fun _ _ _ h => h) (Or.inl ⟨by rfl, ?_⟩) ?_ ?_
    rotate_left
    ·intro w'
     go_simp
     with_reducible rfl
    rotate_left
    ·simp only [Act.put, putA, putB, putC]
     rfl
    refine take_ (i := 1) (N := some 19) (v := ?_) (a' := ?_) #[true, true, false, false, false, false, false, false, false] rfl rfl (by kernel_rfl) (fun _ _ _ h => h) (Or.inl ⟨by rfl, ?_⟩) hHeld ?_ ?_
    rotate_left
    ·intro w' s0
     go_simp
     with_reducible rfl
    rotate_left
    ·simp only [Act.put, putA, putB, putC]
     rfl
    refine pure_ (i := 2) (N := some 20) (v := ?_) (a' := ?_) #[true, true, true, false, false, false, false, false, false] rfl rfl (by kernel_rfl) (fun _ _ _ h => h) (Or.inl ⟨by rfl, ?_⟩) ?_ ?_
    rotate_left
    ·intro w'
     go_simp
     with_reducible rfl
    rotate_left
    ·simp only [Act.put, putA, putB, putC]
     rfl
    refine pure_ (i := 3) (N := some 21) (v := ?_) (a' := ?_) #[true, true, true, true, false, false, false, false, false] rfl rfl (by kernel_rfl) (fun _ _ _ h => h) (Or.inl ⟨by rfl, ?_⟩) ?_ ?_
    rotate_left
    ·intro w'
     go_simp
     with_reducible rfl
    rotate_left
    ·simp only [Act.put, putA, putB, putC]
     rfl
    refine pure_ (i := 4) (N := some 22) (v := ?_) (a' := ?_) #[true, true, true, true, true, false, false, false, false] rfl rfl (by kernel_rfl) (fun _ _ _ h => h) (Or.inl ⟨by rfl, ?_⟩) ?_ ?_
    rotate_left
    ·intro w'
     go_simp
     with_reducible rfl
    rotate_left
    ·simp only [Act.put, putA, putB, putC]
     rfl
    refine two_ (i := 5) (j := 7) (Ni := some 23) (Nj := some 8) #[true, true, true, true, true, true, false, false, false] #[true, true, true, true, true, false, false, true, false] rfl rfl rfl rfl (by kernel_rfl) (by decide) (by decide) (fun K hK => ?_) (fun K hK => ?_)
    ·refine goes_ Tryd.func42 (by kernel_rfl) rfl #[.slice AL X.length cl_] (by rfl) rfl rfl (by (try simp only [List.map_toArray, List.map_cons, List.map_nil]); first | done | rfl) ?_
     refine (clone_got _ AL X.length cl_ X (HX.out.1.below H.all) HX.out.2).mono ?_
     rintro e_ w9 ⟨vd, rfl, h_⟩
     obtain ⟨Ad, cd, rfl⟩ := own_slice (h_.row (List.Mem.head _))
     replace H := Hold.push H h_
     replace h_ := h_.all
     refine ⟨_, rfl, ?_⟩
     have hS := Lib.hid (show (fun w' : World => w'.cell? ⟨gw, 0, none⟩ = some (.int .u32 st)) _ from (pw_cell_below h_ hHeld))
     clear h_
     refine hK.out _ _ hS.out (fun hHeld => ?_)
     clear hK K
     clear hS
     refine norm_ (a' := ?_) ?_ ?_
     rotate_left
     ·show Act.put _ (some 23) _ = _
      simp only [Act.put, putA, putB, putC]
      rfl
     refine pure_ (i := 6) (N := some 24) (v := ?_) (a' := ?_) #[true, true, true, true, true, true, true, false, false] rfl rfl (by kernel_rfl) (fun _ _ _ h => h) (Or.inl ⟨by rfl, ?_⟩) ?_ ?_
     rotate_left
     ·intro w'
      go_simp
      with_reducible rfl
     rotate_left
     ·simp only [Act.put, putA, putB, putC]
      rfl
     refine one_ (i := 7) (N := some 8) #[true, true, true, true, true, true, true, true, false] rfl rfl (by kernel_rfl) (by decide) (fun K hK => ?_)
     refine alloc_o H (by rfl) (cs := [.int .u8 0, .int .u8 0, .int .u32 0, nilS, .int .i64 0, .int .u32 0, .int .u32 0, .int .u8 0, .bool false, .int .u32 0, nilS]) (by first | (go_simp; done) | (go_simp; rfl)) ?_
     clear H
     intro gf w_ H h_
     have hS := Lib.hid (show (fun w' : World => w'.cell? ⟨gw, 0, none⟩ = some (.int .u32 st)) _ from (pw_cell_below h_ hHeld))
     clear h_
     refine hK.out _ _ hS.out (fun hHeld => ?_)
     clear hK K
     clear hS
     refine norm_ (a' := ?_) ?_ ?_
     rotate_left
     ·show Act.put _ (some 8) _ = _
      simp only [Act.put, putA, putB, putC]
      rfl
     refine one_ (i := 8) (N := none) #[true, true, true, true, true, true, true, true, true] rfl rfl (by kernel_rfl) (by decide) (fun K hK => ?_)
     refine store_o H (by rfl) rfl rfl rfl rfl (u := .agg #[.int .u8 9, .int .u8 0, .int .u32 st, .slice Ad X.length cd, .int .i64 (-1), .int .u32 0, .int .u32 0, .int .u8 0, .bool false, .int .u32 0, nilS]) (by repeat (first | exact Put.head | apply Put.tail)) (by kernel_rfl) (Nat.le_of_ble_eq_true rfl) rfl ?_
     clear H
     intro w_ H h_
     simp only [setC, Value.cells, List.toList_toArray] at H
     clear h_
     have hS := Lib.hid (show (fun w' : World => w'.cell? ⟨gw, 0, none⟩ = some (.int .u32 st)) _ from ((H.cell (by repeat (first | exact List.Mem.head _ | apply List.Mem.tail)) 0).trans rfl))
     refine hK.out _ _ hS.out (fun hHeld => ?_)
     clear hK K
     clear hS
     refine done_ (by kernel_rfl) ?_
     clear hHeld
     rcases HM0 with h0 | h0
     ·have d5 : decide ((m : Int) = 0) = true := decide_eq_true (by omega)
      have d6 : decide (m = 0) = true := decide_eq_true (by omega)
      have d7 : ((m : Int) == 0) = true := d5
      have d8 : (m == 0) = true := d6
      cases fin with
      | true =>
       have hty := Lib.hid (show (1 : Int) = cutT m by unfold cutT; rw [if_pos h0])
       have hfl := Lib.hid (show (5 : Int) = cutF true b.length most m by unfold cutF; rw [hE.out, h0]; rfl)
       clear h0
       go_wp2_with (first
        | ((with_reducible refine is_store (ty := 5) rfl ?_); refine store_h H rfl rfl rfl rfl (u := .int .u8 1) rfl (by repeat (first | exact Put.head | apply Put.tail)) (by kernel_rfl) (Nat.le_of_ble_eq_true rfl) rfl ?_; clear H; intro w_ H; simp only [setC, Value.cells, List.toList_toArray] at H)
        | ((with_reducible refine is_store (ty := 5) rfl ?_); refine store_h H rfl rfl rfl rfl (u := .int .u8 5) rfl (by repeat (first | exact Put.head | apply Put.tail)) (by kernel_rfl) (Nat.le_of_ble_eq_true rfl) rfl ?_; clear H; intro w_ H; simp only [setC, Value.cells, List.toList_toArray] at H)
        | ((with_reducible refine is_load (ty := 32) rfl ?_); refine load_h H rfl rfl rfl (by repeat (first | exact List.Mem.head _ | apply List.Mem.tail)) (by kernel_rfl) (by kernel_rfl) ?_)
        | ((with_reducible refine is_load rfl ?_); refine loadf_h H rfl rfl rfl (by repeat (first | exact List.Mem.head _ | apply List.Mem.tail)) rfl (by kernel_rfl) ?_)
        | ((with_reducible refine is_lit rfl ?_); refine onerow_h H rfl (e := 32) (cs := [.int .u8 1, .int .u8 5, .int .u32 st, .slice Ad X.length cd, .int .i64 (-1), .int .u32 0, .int .u32 0, .int .u8 0, .bool false, .int .u32 0, nilS]) (by first | (go_simp; done) | (go_simp; rfl)) ?_; clear H; intro gl w_ H)
        | ((with_reducible refine is_call rfl ?_); refine appends_h H rfl rfl Tryd.underlying22 Tryd.infoFr rfl (by decide) rfl rfl (g := gl) (by repeat (first | exact List.Mem.head _ | apply List.Mem.tail)) rfl rfl (fun y => (by repeat (first | exact Put.head | apply Put.tail))) (by have := HJ.out; omega) (by have := HJ.out; omega) ?_; clear H; intro vo2 w_ H))
       have H3 := H.want (l' := [.row 32 11 vo2 (m + 1) (es.flatMap CE.cells ++ (CE.mk 1 5 st X Ad cd).cells), (CE.mk 1 5 st X Ad cd).thing] ++ rowT es) (Want.take (by repeat (first | exact Pull.head | apply Pull.tail)) (Want.take (by repeat (first | exact Pull.head | apply Pull.tail)) (Want.done (by repeat (first | exact Suf.refl | apply Suf.cons)))))
       exact HP.out _ _ (CutEnd.of HL.out.len H3 HL.out.cuts HL.out.open_ HL.out.more hty.out hfl.out HXC.out hE.out)
      | false =>
       have hty := Lib.hid (show (1 : Int) = cutT m by unfold cutT; rw [if_pos h0])
       have hfl := Lib.hid (show (4 : Int) = cutF false b.length most m by unfold cutF; rw [hE.out, h0]; rfl)
       clear h0
       go_wp2_with (first
        | ((with_reducible refine is_store (ty := 5) rfl ?_); refine store_h H rfl rfl rfl rfl (u := .int .u8 1) rfl (by repeat (first | exact Put.head | apply Put.tail)) (by kernel_rfl) (Nat.le_of_ble_eq_true rfl) rfl ?_; clear H; intro w_ H; simp only [setC, Value.cells, List.toList_toArray] at H)
        | ((with_reducible refine is_store (ty := 5) rfl ?_); refine store_h H rfl rfl rfl rfl (u := .int .u8 4) rfl (by repeat (first | exact Put.head | apply Put.tail)) (by kernel_rfl) (Nat.le_of_ble_eq_true rfl) rfl ?_; clear H; intro w_ H; simp only [setC, Value.cells, List.toList_toArray] at H)
        | ((with_reducible refine is_load (ty := 32) rfl ?_); refine load_h H rfl rfl rfl (by repeat (first | exact List.Mem.head _ | apply List.Mem.tail)) (by kernel_rfl) (by kernel_rfl) ?_)
        | ((with_reducible refine is_load rfl ?_); refine loadf_h H rfl rfl rfl (by repeat (first | exact List.Mem.head _ | apply List.Mem.tail)) rfl (by kernel_rfl) ?_)
        | ((with_reducible refine is_lit rfl ?_); refine onerow_h H rfl (e := 32) (cs := [.int .u8 1, .int .u8 4, .int .u32 st, .slice Ad X.length cd, .int .i64 (-1), .int .u32 0, .int .u32 0, .int .u8 0, .bool false, .int .u32 0, nilS]) (by first | (go_simp; done) | (go_simp; rfl)) ?_; clear H; intro gl w_ H)
        | ((with_reducible refine is_call rfl ?_); refine appends_h H rfl rfl Tryd.underlying22 Tryd.infoFr rfl (by decide) rfl rfl (g := gl) (by repeat (first | exact List.Mem.head _ | apply List.Mem.tail)) rfl rfl (fun y => (by repeat (first | exact Put.head | apply Put.tail))) (by have := HJ.out; omega) (by have := HJ.out; omega) ?_; clear H; intro vo2 w_ H))
       have H3 := H.want (l' := [.row 32 11 vo2 (m + 1) (es.flatMap CE.cells ++ (CE.mk 1 4 st X Ad cd).cells), (CE.mk 1 4 st X Ad cd).thing] ++ rowT es) (Want.take (by repeat (first | exact Pull.head | apply Pull.tail)) (Want.take (by repeat (first | exact Pull.head | apply Pull.tail)) (Want.done (by repeat (first | exact Suf.refl | apply Suf.cons)))))
       exact HP.out _ _ (CutEnd.of HL.out.len H3 HL.out.cuts HL.out.open_ HL.out.more hty.out hfl.out HXC.out hE.out)
     ·have d5 : decide ((m : Int) = 0) = false := decide_eq_false (by omega)
      have d6 : decide (m = 0) = false := decide_eq_false (by omega)
      have d7 : ((m : Int) == 0) = false := d5
      have d8 : (m == 0) = false := d6
      have hty := Lib.hid (show (9 : Int) = cutT m by unfold cutT; rw [if_neg (by omega)])
      have hfl := Lib.hid (show (4 : Int) = cutF fin b.length most m by unfold cutF; rw [hE.out, if_neg (by omega)]; rfl)
      clear h0
      go_wp2_with (first
       | ((with_reducible refine is_store (ty := 5) rfl ?_); refine store_h H rfl rfl rfl rfl (u := .int .u8 1) rfl (by repeat (first | exact Put.head | apply Put.tail)) (by kernel_rfl) (Nat.le_of_ble_eq_true rfl) rfl ?_; clear H; intro w_ H; simp only [setC, Value.cells, List.toList_toArray] at H)
       | ((with_reducible refine is_store (ty := 5) rfl ?_); refine store_h H rfl rfl rfl rfl (u := .int .u8 4) rfl (by repeat (first | exact Put.head | apply Put.tail)) (by kernel_rfl) (Nat.le_of_ble_eq_true rfl) rfl ?_; clear H; intro w_ H; simp only [setC, Value.cells, List.toList_toArray] at H)
       | ((with_reducible refine is_load (ty := 32) rfl ?_); refine load_h H rfl rfl rfl (by repeat (first | exact List.Mem.head _ | apply List.Mem.tail)) (by kernel_rfl) (by kernel_rfl) ?_)
       | ((with_reducible refine is_load rfl ?_); refine loadf_h H rfl rfl rfl (by repeat (first | exact List.Mem.head _ | apply List.Mem.tail)) rfl (by kernel_rfl) ?_)
       | ((with_reducible refine is_lit rfl ?_); refine onerow_h H rfl (e := 32) (cs := [.int .u8 9, .int .u8 4, .int .u32 st, .slice Ad X.length cd, .int .i64 (-1), .int .u32 0, .int .u32 0, .int .u8 0, .bool false, .int .u32 0, nilS]) (by first | (go_simp; done) | (go_simp; rfl)) ?_; clear H; intro gl w_ H)
       | ((with_reducible refine is_call rfl ?_); refine appends_h H rfl rfl Tryd.underlying22 Tryd.infoFr rfl (by decide) rfl rfl (g := gl) (by repeat (first | exact List.Mem.head _ | apply List.Mem.tail)) rfl rfl (fun y => (by repeat (first | exact Put.head | apply Put.tail))) (by have := HJ.out; omega) (by have := HJ.out; omega) ?_; clear H; intro vo2 w_ H))
      have H3 := H.want (l' := [.row 32 11 vo2 (m + 1) (es.flatMap CE.cells ++ (CE.mk 9 4 st X Ad cd).cells), (CE.mk 9 4 st X Ad cd).thing] ++ rowT es) (Want.take (by repeat (first | exact Pull.head | apply Pull.tail)) (Want.take (by repeat (first | exact Pull.head | apply Pull.tail)) (Want.done (by repeat (first | exact Suf.refl | apply Suf.cons)))))
      exact HP.out _ _ (CutEnd.of HL.out.len H3 HL.out.cuts HL.out.open_ HL.out.more hty.out hfl.out HXC.out hE.out)
    ·refine alloc_o H (by rfl) (cs := [.int .u8 0, .int .u8 0, .int .u32 0, nilS, .int .i64 0, .int .u32 0, .int .u32 0, .int .u8 0, .bool false, .int .u32 0, nilS]) (by first | (go_simp; done) | (go_simp; rfl)) ?_
     clear H
     intro gf w_ H h_
     have hS := Lib.hid (show (fun w' : World => w'.cell? ⟨gw, 0, none⟩ = some (.int .u32 st)) _ from (pw_cell_below h_ hHeld))
     clear h_
     refine hK.out _ _ hS.out (fun hHeld => ?_)
     clear hK K
     clear hS
     refine norm_ (a' := ?_) ?_ ?_
     rotate_left
     ·show Act.put _ (some 8) _ = _
      simp only [Act.put, putA, putB, putC]
      rfl
     refine one_ (i := 5) (N := some 23) #[true, true, true, true, true, true, false, true, false] rfl rfl (by kernel_rfl) (by decide) (fun K hK => ?_)
     refine goes_ Tryd.func42 (by kernel_rfl) rfl #[.slice AL X.length cl_] (by rfl) rfl rfl (by (try simp only [List.map_toArray, List.map_cons, List.map_nil]); first | done | rfl) ?_
     refine (clone_got _ AL X.length cl_ X (HX.out.1.below H.all) HX.out.2).mono ?_
     rintro e_ w9 ⟨vd, rfl, h_⟩
     obtain ⟨Ad, cd, rfl⟩ := own_slice (h_.row (List.Mem.head _))
     replace H := Hold.push H h_
     replace h_ := h_.all
     refine ⟨_, rfl, ?_⟩
     have hS := Lib.hid (show (fun w' : World => w'.cell? ⟨gw, 0, none⟩ = some (.int .u32 st)) _ from (pw_cell_below h_ hHeld))
     clear h_
     refine hK.out _ _ hS.out (fun hHeld => ?_)
     clear hK K
     clear hS
     refine norm_ (a' := ?_) ?_ ?_
     rotate_left
     ·show Act.put _ (some 23) _ = _
      simp only [Act.put, putA, putB, putC]
      rfl
     refine pure_ (i := 6) (N := some 24) (v := ?_) (a' := ?_) #[true, true, true, true, true, true, true, true, false] rfl rfl (by kernel_rfl) (fun _ _ _ h => h) (Or.inl ⟨by rfl, ?_⟩) ?_ ?_
     rotate_left
     ·intro w'
      go_simp
      with_reducible rfl
     rotate_left
     ·simp only [Act.put, putA, putB, putC]
      rfl
     refine one_ (i := 8) (N := none) #[true, true, true, true, true, true, true, true, true] rfl rfl (by kernel_rfl) (by decide) (fun K hK => ?_)
     refine store_o H (by rfl) rfl rfl rfl rfl (u := .agg #[.int .u8 9, .int .u8 0, .int .u32 st, .slice Ad X.length cd, .int .i64 (-1), .int .u32 0, .int .u32 0, .int .u8 0, .bool false, .int .u32 0, nilS]) (by repeat (first | exact Put.head | apply Put.tail)) (by kernel_rfl) (Nat.le_of_ble_eq_true rfl) rfl ?_
     clear H
     intro w_ H h_
     simp only [setC, Value.cells, List.toList_toArray] at H
     clear h_
     have hS := Lib.hid (show (fun w' : World => w'.cell? ⟨gw, 0, none⟩ = some (.int .u32 st)) _ from ((H.cell (by repeat (first | exact List.Mem.head _ | apply List.Mem.tail)) 0).trans rfl))
     refine hK.out _ _ hS.out (fun hHeld => ?_)
     clear hK K
     clear hS
     refine done_ (by kernel_rfl) ?_
     clear hHeld
     rcases HM0 with h0 | h0
     ·have d5 : decide ((m : Int) = 0) = true := decide_eq_true (by omega)
      have d6 : decide (m = 0) = true := decide_eq_true (by omega)
      have d7 : ((m : Int) == 0) = true := d5
      have d8 : (m == 0) = true := d6
      cases fin with
      | true =>
       have hty := Lib.hid (show (1 : Int) = cutT m by unfold cutT; rw [if_pos h0])
       have hfl := Lib.hid (show (5 : Int) = cutF true b.length most m by unfold cutF; rw [hE.out, h0]; rfl)
       clear h0
       go_wp2_with (first
        | ((with_reducible refine is_store (ty := 5) rfl ?_); refine store_h H rfl rfl rfl rfl (u := .int .u8 1) rfl (by repeat (first | exact Put.head | apply Put.tail)) (by kernel_rfl) (Nat.le_of_ble_eq_true rfl) rfl ?_; clear H; intro w_ H; simp only [setC, Value.cells, List.toList_toArray] at H)
        | ((with_reducible refine is_store (ty := 5) rfl ?_); refine store_h H rfl rfl rfl rfl (u := .int .u8 5) rfl (by repeat (first | exact Put.head | apply Put.tail)) (by kernel_rfl) (Nat.le_of_ble_eq_true rfl) rfl ?_; clear H; intro w_ H; simp only [setC, Value.cells, List.toList_toArray] at H)
        | ((with_reducible refine is_load (ty := 32) rfl ?_); refine load_h H rfl rfl rfl (by repeat (first | exact List.Mem.head _ | apply List.Mem.tail)) (by kernel_rfl) (by kernel_rfl) ?_)
        | ((with_reducible refine is_load rfl ?_); refine loadf_h H rfl rfl rfl (by repeat (first | exact List.Mem.head _ | apply List.Mem.tail)) rfl (by kernel_rfl) ?_)
        | ((with_reducible refine is_lit rfl ?_); refine onerow_h H rfl (e := 32) (cs := [.int .u8 1, .int .u8 5, .int .u32 st, .slice Ad X.length cd, .int .i64 (-1), .int .u32 0, .int .u32 0, .int .u8 0, .bool false, .int .u32 0, nilS]) (by first | (go_simp; done) | (go_simp; rfl)) ?_; clear H; intro gl w_ H)
        | ((with_reducible refine is_call rfl ?_); refine appends_h H rfl rfl Tryd.underlying22 Tryd.infoFr rfl (by decide) rfl rfl (g := gl) (by repeat (first | exact List.Mem.head _ | apply List.Mem.tail)) rfl rfl (fun y => (by repeat (first | exact Put.head | apply Put.tail))) (by have := HJ.out; omega) (by have := HJ.out; omega) ?_; clear H; intro vo2 w_ H))
       have H3 := H.want (l' := [.row 32 11 vo2 (m + 1) (es.flatMap CE.cells ++ (CE.mk 1 5 st X Ad cd).cells), (CE.mk 1 5 st X Ad cd).thing] ++ rowT es) (Want.take (by repeat (first | exact Pull.head | apply Pull.tail)) (Want.take (by repeat (first | exact Pull.head | apply Pull.tail)) (Want.done (by repeat (first | exact Suf.refl | apply Suf.cons)))))
       exact HP.out _ _ (CutEnd.of HL.out.len H3 HL.out.cuts HL.out.open_ HL.out.more hty.out hfl.out HXC.out hE.out)
      | false =>
       have hty := Lib.hid (show (1 : Int) = cutT m by unfold cutT; rw [if_pos h0])
       have hfl := Lib.hid (show (4 : Int) = cutF false b.length most m by unfold cutF; rw [hE.out, h0]; rfl)
       clear h0
       go_wp2_with (first
        | ((with_reducible refine is_store (ty := 5) rfl ?_); refine store_h H rfl rfl rfl rfl (u := .int .u8 1) rfl (by repeat (first | exact Put.head | apply Put.tail)) (by kernel_rfl) (Nat.le_of_ble_eq_true rfl) rfl ?_; clear H; intro w_ H; simp only [setC, Value.cells, List.toList_toArray] at H)
        | ((with_reducible refine is_store (ty := 5) rfl ?_); refine store_h H rfl rfl rfl rfl (u := .int .u8 4) rfl (by repeat (first | exact Put.head | apply Put.tail)) (by kernel_rfl) (Nat.le_of_ble_eq_true rfl) rfl ?_; clear H; intro w_ H; simp only [setC, Value.cells, List.toList_toArray] at H)
        | ((with_reducible refine is_load (ty := 32) rfl ?_); refine load_h H rfl rfl rfl (by repeat (first | exact List.Mem.head _ | apply List.Mem.tail)) (by kernel_rfl) (by kernel_rfl) ?_)
        | ((with_reducible refine is_load rfl ?_); refine loadf_h H rfl rfl rfl (by repeat (first | exact List.Mem.head _ | apply List.Mem.tail)) rfl (by kernel_rfl) ?_)
        | ((with_reducible refine is_lit rfl ?_); refine onerow_h H rfl (e := 32) (cs := [.int .u8 1, .int .u8 4, .int .u32 st, .slice Ad X.length cd, .int .i64 (-1), .int .u32 0, .int .u32 0, .int .u8 0, .bool false, .int .u32 0, nilS]) (by first | (go_simp; done) | (go_simp; rfl)) ?_; clear H; intro gl w_ H)
        | ((with_reducible refine is_call rfl ?_); refine appends_h H rfl rfl Tryd.underlying22 Tryd.infoFr rfl (by decide) rfl rfl (g := gl) (by repeat (first | exact List.Mem.head _ | apply List.Mem.tail)) rfl rfl (fun y => (by repeat (first | exact Put.head | apply Put.tail))) (by have := HJ.out; omega) (by have := HJ.out; omega) ?_; clear H; intro vo2 w_ H))
       have H3 := H.want (l' := [.row 32 11 vo2 (m + 1) (es.flatMap CE.cells ++ (CE.mk 1 4 st X Ad cd).cells), (CE.mk 1 4 st X Ad cd).thing] ++ rowT es) (Want.take (by repeat (first | exact Pull.head | apply Pull.tail)) (Want.take (by repeat (first | exact Pull.head | apply Pull.tail)) (Want.done (by repeat (first | exact Suf.refl | apply Suf.cons)))))
       exact HP.out _ _ (CutEnd.of HL.out.len H3 HL.out.cuts HL.out.open_ HL.out.more hty.out hfl.out HXC.out hE.out)
     ·have d5 : decide ((m : Int) = 0) = false := decide_eq_false (by omega)
      have d6 : decide (m = 0) = false := decide_eq_false (by omega)
      have d7 : ((m : Int) == 0) = false := d5
      have d8 : (m == 0) = false := d6
      have hty := Lib.hid (show (9 : Int) = cutT m by unfold cutT; rw [if_neg (by omega)])
      have hfl := Lib.hid (show (4 : Int) = cutF fin b.length most m by unfold cutF; rw [hE.out, if_neg (by omega)]; rfl)
      clear h0
      go_wp2_with (first
       | ((with_reducible refine is_store (ty := 5) rfl ?_); refine store_h H rfl rfl rfl rfl (u := .int .u8 1) rfl (by repeat (first | exact Put.head | apply Put.tail)) (by kernel_rfl) (Nat.le_of_ble_eq_true rfl) rfl ?_; clear H; intro w_ H; simp only [setC, Value.cells, List.toList_toArray] at H)
       | ((with_reducible refine is_store (ty := 5) rfl ?_); refine store_h H rfl rfl rfl rfl (u := .int .u8 4) rfl (by repeat (first | exact Put.head | apply Put.tail)) (by kernel_rfl) (Nat.le_of_ble_eq_true rfl) rfl ?_; clear H; intro w_ H; simp only [setC, Value.cells, List.toList_toArray] at H)
       | ((with_reducible refine is_load (ty := 32) rfl ?_); refine load_h H rfl rfl rfl (by repeat (first | exact List.Mem.head _ | apply List.Mem.tail)) (by kernel_rfl) (by kernel_rfl) ?_)
       | ((with_reducible refine is_load rfl ?_); refine loadf_h H rfl rfl rfl (by repeat (first | exact List.Mem.head _ | apply List.Mem.tail)) rfl (by kernel_rfl) ?_)
       | ((with_reducible refine is_lit rfl ?_); refine onerow_h H rfl (e := 32) (cs := [.int .u8 9, .int .u8 4, .int .u32 st, .slice Ad X.length cd, .int .i64 (-1), .int .u32 0, .int .u32 0, .int .u8 0, .bool false, .int .u32 0, nilS]) (by first | (go_simp; done) | (go_simp; rfl)) ?_; clear H; intro gl w_ H)
       | ((with_reducible refine is_call rfl ?_); refine appends_h H rfl rfl Tryd.underlying22 Tryd.infoFr rfl (by decide) rfl rfl (g := gl) (by repeat (first | exact List.Mem.head _ | apply List.Mem.tail)) rfl rfl (fun y => (by repeat (first | exact Put.head | apply Put.tail))) (by have := HJ.out; omega) (by have := HJ.out; omega) ?_; clear H; intro vo2 w_ H))
      have H3 := H.want (l' := [.row 32 11 vo2 (m + 1) (es.flatMap CE.cells ++ (CE.mk 9 4 st X Ad cd).cells), (CE.mk 9 4 st X Ad cd).thing] ++ rowT es) (Want.take (by repeat (first | exact Pull.head | apply Pull.tail)) (Want.take (by repeat (first | exact Pull.head | apply Pull.tail)) (Want.done (by repeat (first | exact Suf.refl | apply Suf.cons)))))
      exact HP.out _ _ (CutEnd.of HL.out.len H3 HL.out.cuts HL.out.open_ HL.out.more hty.out hfl.out HXC.out hE.out)
end Go.Proofs.YtodfahcmgmleeaaDoor

/- BlockGoes, walked. (This text is printed by wip/gen/goes12.py.) -/
namespace Go.Proofs.YtodfahcmgmleeaaDoor
set_option linter.unusedVariables false
set_option linter.unusedSimpArgs false
open Go.RowKit Go.Proofs.YtodfahcmgmleeaaDoorW.PrintWords Go.Proofs.YtodfahcmgmleeaaDoorW.PrintLast Go.Proofs.YtodfahcmgmleeaaDoorW.PrintMore Go.Extern.Stop Go.Stop Go.Extern Go.Maps
attribute [local go_sem high] eqFault
theorem wrap_ok12 {x : Int} (h0 : -9223372036854775808 ≤ x) (h1 : x ≤ 9223372036854775807) : wrap64 x = x := by
 unfold wrap64
 omega
theorem fixed_h (w : World) (hgv : GV w) : Calls Tryd.prog 15 #[] w fun e w' => e = .returned (.bool true) ∧ Below w.heap.size w w' := fixed12 w hgv (World.block_lt_of_cell? w _ hgv)
theorem new_h (w : World) : Calls Tryd.prog 16 #[] w fun e w' => ∃ g, e = .returned (.pointer (some ⟨g, 0, none⟩)) ∧ Hold w w' [] [gO g nilS ⟨0, [], false, false, 0, 0, 0⟩, gR nilS ⟨0, [], false, false, 0, 0, 0⟩] := by
 refine (new_g w).mono ?_
 rintro e w' ⟨g, rfl, hg, hG, hB⟩
 refine ⟨g, rfl, Kept.of_below hB, fun o ho => ?_, List.Pairwise.cons (fun b hb k hk => ?_) (pair1 _), fun o ho k hk => ?_⟩
 ·rcases List.mem_cons.1 ho with rfl | ho
  ·exact hG.blk
  ·rw [List.mem_singleton.1 ho]; exact own_nil _ _ _ _
 ·rw [List.mem_singleton.1 hb]; exact fun h => by cases h
 ·rcases List.mem_cons.1 ho with rfl | ho
  ·obtain rfl : k = g := List.mem_singleton.1 hk
   exact .inl hg
  ·rw [List.mem_singleton.1 ho] at hk; cases hk
theorem Hold.ge {w W : World} {l : List Own} (H : Hold w W [] l) {g : Nat} {o : Obj} (h : Own.obj g o ∈ l) : w.heap.size ≤ g := by
 rcases H.mine _ h g (List.mem_singleton.2 rfl) with h | h
 ·exact h
 ·cases h
theorem take_h {w W : World} {l : List Own} (H : Hold w W [] l) {g : Nat} {v : Value} {s : GSt} (e : CE) (h1 : gO g v s ∈ l) (h2 : gR v s ∈ l) (h3 : e.thing ∈ l) (hgv : GV w) (hm0 : 0 ≤ s.more) (hm1 : s.more ≤ 1000) (hsl : s.block.length ≤ 100000) (hbc : s.bs = 0 → s.bc = 0) (hn : e.x.length ≤ 20000)
  {ok : Bool} {st : Int} {b : List Int} {fin : Bool} {s' : GSt} (hr : gtake s e.ty e.fl e.st e.x = (⟨ok, st, b, fin, 0, 0⟩, s')) :
  Calls Tryd.prog 17 #[.pointer (some ⟨g, 0, none⟩), .agg e.cells.toArray] W fun ev w' => ∃ v2 v3, ev = .returned (.tuple #[.agg #[.int .u32 st, v2, .bool fin], .bool ok, .agg #[.int .u8 0, .int .u32 0]]) ∧
   Hold W w' (ats [gO g v s, gR v s]) [gO g v3 s', gR v3 s', nrow 5 v2 .u8 b] := by
 have hG := H.isG h1 h2
 have hrow := H.row (k := .u8) h3
 obtain ⟨A', c', e2, hR⟩ := own_reads hrow
 injection e2 with e2 _ _
 subst e2
 have hE : Elsewhere e.A e.x.length g := fun ad h hn he => by
  rcases hrow.2 with ⟨h4, _⟩ | ⟨g', cap, cur, h4, _, hh, _⟩
  ·injection h4 with h4 _ _; rw [h4] at h; cases h
  ·injection h4 with h4 _ _
   rw [h4] at h
   injection h with h
   have h5 : g' = g := by rw [← he, ← h]
   have h6 := hG.blk
   rw [h5, h6] at hh
   injection hh with hh
   injection hh with _ hh _
   exact absurd hh (by decide)
 have h_ := take_calls W w.heap.size g v s e.ty e.fl e.st (-1) 0 0 0 0 false e.A nilS e.x.length e.c e.x hG (H.ge h1) H.kept.size hm0 hm1 hsl hbc hR hE hn (GV.below hgv H.all) (World.block_lt_of_cell? w _ hgv)
 rw [hr] at h_
 exact h_.mono fun ev w' h => h.hold hG H.kept.size
theorem other_h {w W : World} {l : List Own} (H : Hold w W [] l) {g : Nat} {v : Value} {s : GSt} (h1 : gO g v s ∈ l) (h2 : gR v s ∈ l) (hy : s.busy = false) (h0 : s.bs = 0) (hc0 : s.bc = 0) (ty fl st pad code oth wgt win : Int) (al : Bool) (D S : Value) (ht1 : ty ≠ 1) (ht9 : ty ≠ 9) :
  Calls Tryd.prog 17 #[.pointer (some ⟨g, 0, none⟩), frV ty fl st D pad code oth wgt win al S] W fun ev w' => ∃ v2 v3, ev = .returned (.tuple #[.agg #[.int .u32 0, v2, .bool false], .bool false, .agg #[.int .u8 0, .int .u32 0]]) ∧
   Hold W w' (ats [gO g v s, gR v s]) [gO g v3 s, gR v3 s, nrow 5 v2 .u8 []] :=
 (take_other W w.heap.size g v s ty fl st pad code oth wgt win al D S (H.isG h1 h2) (H.ge h1) H.kept.size hy h0 hc0 ht1 ht9).mono fun ev w' h => h.hold (H.isG h1 h2) H.kept.size
section
variable {P : Program} {ops : Array Oper} {rest : List Oper} {o : Oper} {a : Act} {Q : Exit → Act → World → Prop} {w W : World} {t : List Nat} {l : List Own}
theorem conv_g (H : Hold w W t l) {src dst e e' : TypeId} {x : Operand} (ho : o.op = .convert src dst x) {v : Value} {xs : List Int} (hx : a.eval x = v) (hm : nrow e' v .u8 xs ∈ l)
  (hs : P.underlying src = some (.slice e)) (he : P.underlying e = some (.int .u8)) (hd : P.underlying dst = some .string) (hw : Region.wanted o (yielded ops a.tmps) = true) (h : wpList P ops Q rest (a.put o.dst (.string (strOfNums xs))) W) : wpList P ops Q (o :: rest) a W :=
 gate_guard hw (conv_h H rfl ho hx hm hs he hd h)
theorem convr_g {src dst e : TypeId} {x : Operand} (ho : o.op = .convert src dst x) {A : Option Addr} {n c : Nat} {xs : List Int} (hx : a.eval x = .slice A n c) (hR : ReadsInt W .u8 A n xs)
  (hs : P.underlying src = some (.slice e)) (he : P.underlying e = some (.int .u8)) (hd : P.underlying dst = some .string) (hw : Region.wanted o (yielded ops a.tmps) = true) (h : wpList P ops Q rest (a.put o.dst (.string (strOfNums xs))) W) : wpList P ops Q (o :: rest) a W :=
 gate_guard hw (convr_h rfl ho hx hR hs he hd h)
end
theorem perm_tail2 (B T R : List Own) : ((B ++ T) ++ R).Perm ((B ++ R) ++ T) := by rw [List.append_assoc, List.append_assoc]; exact List.perm_append_comm.append_left _
structure GLoop (w W : World) (go : Nat) (oc : List Value) (g : Nat) (v : Value) (sst : Int) (sf : Bool) (sm : Int) : Prop where
 H : Hold w W [] [gO g v ⟨sst, [], sf, false, sm, 0, 0⟩, gR v ⟨sst, [], sf, false, sm, 0, 0⟩, cl go oc 32]
 m0 : 0 ≤ sm
 m1 : sm ≤ 1000
structure JLoop (w W : World) (go : Nat) (oc : List Value) (g : Nat) (v : Value) (s : GSt) (vr : Value) (es : List CE) (st : Int) (fin : Bool) (b : List Int) (most j : Nat) (gb : Bool) : Prop where
 H : Hold w W [] ([gO g v s, gR v s, rowO vr es, cl go oc 32] ++ rowT es)
 gs : j < es.length → GS st b fin most j s
 end_ : j = es.length → ∃ sst sf sm, s = ⟨sst, [], sf, false, sm, 0, 0⟩
 got : gb = decide (j = es.length)
 m0 : 0 ≤ s.more
 m1 : s.more ≤ 1000
 bl : s.block.length ≤ 100000
theorem CutOk.last_iff {st : Int} {fin : Bool} {b : List Int} {most : Nat} {es : List CE} (h : CutOk st fin b most es) {j : Nat} (hj : j < es.length) : cutE b.length most j = true ↔ j + 1 = es.length := by
 obtain ⟨K, hK, hE⟩ := h.last
 constructor
 ·intro he
  rcases Nat.lt_or_ge (j + 1) es.length with h1 | h1
  ·rw [h.cuts.open_ j h1] at he; cases he
  ·omega
 ·intro he
  obtain rfl : j = K := by omega
  exact hE
set_option maxHeartbeats 2000000 in
set_option maxRecDepth 100000 in
theorem goes_great (w : World) (A : Option Addr) (l : List BE) (c : Nat) (hl : BsIn w A l) (hll : l.length ≤ 9223372036854775807) (mo : Nat) (hmo : mo ≤ 255) (ty fl st pad code oth wgt win : Int) (al : Bool) (oA : Option Addr) (on oc : Nat) (oS : Value) (hgv : GV w) (hg : 20 < l.length ∨ ty = 1 ∨ ty = 9) : Calls Tryd.prog 6 #[.slice A l.length c, .int .u8 (mo : Int), .agg #[.int .u8 ty, .int .u8 fl, .int .u32 st, .slice oA on oc, .int .i64 pad, .int .u32 code, .int .u32 oth, .int .u8 wgt, .bool al, .int .u32 win, oS]] w fun e w' => e = .returned (.bool true) ∧ Below w.heap.size w w' := by
 refine of_post0 fun R hRR => ?_
 have HP := Lib.hid hRR
 have HGV := Lib.hid hgv
 have HL := Lib.hid hl
 clear hRR hgv hl
 have H : Hold w w [] [] := Hold.nothing (Kept.refl _ _)
 rcases Nat.lt_or_ge 20 l.length with h | h
 ·have d1 : decide ((20 : Int) < (l.length : Int)) = true := decide_eq_true (by omega)
  have d2 : decide (20 < l.length) = true := decide_eq_true (by omega)
  clear hg
  go_enter Tryd.func6, Tryd.ntmps6
  go_wp2_with (first
   | ((with_reducible refine is_box rfl ?_); refine box_h H rfl rfl rfl rfl ?_; clear H; intro go w_ H)
   | (go_at_call 15; refine (fixed_h _ (GV.below HGV.out H.all)).mono ?_; rintro e_ w_ ⟨rfl, h_⟩; replace H := H.below h_; clear h_))
  exact HP.out _ _ ⟨rfl, H.all⟩
 ·have d1 : decide ((20 : Int) < (l.length : Int)) = false := decide_eq_false (by omega)
  have d2 : decide (20 < l.length) = false := decide_eq_false (by omega)
  by_cases ht : ty = 1
  ·subst ht
   clear hg
   go_enter Tryd.func6, Tryd.ntmps6
   go_wp2_with (first
    | ((with_reducible refine is_box rfl ?_); refine box_h H rfl rfl rfl rfl ?_; clear H; intro go w_ H)
    | (go_at_call 15; refine (fixed_h _ (GV.below HGV.out H.all)).mono ?_; rintro e_ w_ ⟨rfl, h_⟩; replace H := H.below h_; clear h_)
    | ((with_reducible refine is_load rfl ?_); refine loadf_g H rfl rfl (by repeat (first | exact List.Mem.head _ | apply List.Mem.tail)) rfl (by kernel_rfl) (by rfl) ?_)
    | ((with_reducible refine is_load rfl ?_); refine loadf_h H rfl rfl rfl (by repeat (first | exact List.Mem.head _ | apply List.Mem.tail)) rfl (by kernel_rfl) ?_))
   exact HP.out _ _ ⟨rfl, H.all⟩
  ·have e1 : decide (ty = 1) = false := decide_eq_false ht
   have e2 : (ty == 1) = false := e1
   obtain rfl : ty = 9 := by omega
   clear hg
   go_enter Tryd.func6, Tryd.ntmps6
   go_wp2_with (first
    | ((with_reducible refine is_box rfl ?_); refine box_h H rfl rfl rfl rfl ?_; clear H; intro go w_ H)
    | (go_at_call 15; refine (fixed_h _ (GV.below HGV.out H.all)).mono ?_; rintro e_ w_ ⟨rfl, h_⟩; replace H := H.below h_; clear h_)
    | ((with_reducible refine is_load rfl ?_); refine loadf_g H rfl rfl (by repeat (first | exact List.Mem.head _ | apply List.Mem.tail)) rfl (by kernel_rfl) (by rfl) ?_)
    | ((with_reducible refine is_load rfl ?_); refine loadf_h H rfl rfl rfl (by repeat (first | exact List.Mem.head _ | apply List.Mem.tail)) rfl (by kernel_rfl) ?_))
   exact HP.out _ _ ⟨rfl, H.all⟩
set_option maxHeartbeats 2000000 in
set_option maxRecDepth 100000 in
theorem goes_main (w : World) (A : Option Addr) (l : List BE) (c : Nat) (hl : BsIn w A l) (hll : l.length ≤ 9223372036854775807) (mo : Nat) (hmo : mo ≤ 255) (ty fl st pad code oth wgt win : Int) (al : Bool) (oA : Option Addr) (on oc : Nat) (oS : Value) (hgv : GV w) (hg : l.length ≤ 20) (ht1 : ty ≠ 1) (ht9 : ty ≠ 9) : Calls Tryd.prog 6 #[.slice A l.length c, .int .u8 (mo : Int), .agg #[.int .u8 ty, .int .u8 fl, .int .u32 st, .slice oA on oc, .int .i64 pad, .int .u32 code, .int .u32 oth, .int .u8 wgt, .bool al, .int .u32 win, oS]] w fun e w' => e = .returned (.bool true) ∧ Below w.heap.size w w' := by
 refine of_post0 fun R hRR => ?_
 have HP := Lib.hid hRR
 have HGV := Lib.hid hgv
 have HL := Lib.hid hl
 clear hRR hgv hl
 have H : Hold w w [] [] := Hold.nothing (Kept.refl _ _)
 have d1 : decide ((20 : Int) < (l.length : Int)) = false := decide_eq_false (by omega)
 have d2 : decide (20 < l.length) = false := decide_eq_false (by omega)
 have e1 : decide (ty = 1) = false := decide_eq_false (by omega)
 have e2 : (ty == 1) = false := e1
 have f1 : decide (ty = 9) = false := decide_eq_false (by omega)
 have f2 : (ty == 9) = false := f1
 have HT := Lib.hid (And.intro ht1 ht9)
 have HLL := Lib.hid hg
 obtain ⟨M, hM⟩ : ∃ M : Nat, M = 20 + mo := ⟨_, rfl⟩
 have hw8 : IntKind.i64.wrap (mo : Int) = (mo : Int) := by simp [IntKind.wrap, IntKind.bits, IntKind.signed]; omega
 have hw9 : wrap64 (20 + (mo : Int)) = (M : Int) := by rw [wrap_ok12 (by omega) (by omega)]; omega
 have HM := Lib.hid (show 20 ≤ M ∧ M ≤ 300 by omega)
 clear hM hg ht1 ht9 hmo
 go_enter Tryd.func6, Tryd.ntmps6
 go_wp2_with (first
  | ((with_reducible refine is_box rfl ?_); refine box_h H rfl rfl rfl rfl ?_; clear H; intro go w_ H)
  | ((with_reducible refine is_load rfl ?_); refine loadf_g H rfl rfl (by repeat (first | exact List.Mem.head _ | apply List.Mem.tail)) rfl (by kernel_rfl) (by rfl) ?_)
  | ((with_reducible refine is_load rfl ?_); refine loadf_h H rfl rfl rfl (by repeat (first | exact List.Mem.head _ | apply List.Mem.tail)) rfl (by kernel_rfl) ?_)
  | (go_at_call 16; refine (new_h _).mono ?_; rintro e_ w_ ⟨g, rfl, h_⟩; replace H := Hold.push H h_; clear h_))
 go_loopg [36] l.length (fun k v36 wr => ∃ (i : Nat) (v : Value) (sst : Int) (sf : Bool) (sm : Int), v36 = .int .i64 (i : Int) ∧ i + k = l.length ∧ Aside0 (GLoop w wr go [.int .u8 ty, .int .u8 fl, .int .u32 st, .slice oA on oc, .int .i64 pad, .int .u32 code, .int .u32 oth, .int .u8 wgt, .bool al, .int .u32 win, oS] g v sst sf sm))
 case atStart => exact ⟨0, nilS, 0, false, 0, rfl, by omega, Aside0.mk ⟨H, by decide, by decide⟩⟩
 case round =>
  obtain ⟨i, v, sst, sf, sm, rfl, hik, hP⟩ := hrel
  have HPH := Lib.hid hP.out
  clear hP H
  have H := HPH.out.H
  cases gk with
  | zero =>
   have g1 : decide ((i : Int) < (l.length : Int)) = false := decide_eq_false (by omega)
   have g2 : decide (i < l.length) = false := decide_eq_false (by omega)
   clear hik
   go_wp2_with (first
    | (go_at_call 15; refine (fixed_h _ (GV.below HGV.out H.all)).mono ?_; rintro e_ w_ ⟨rfl, h_⟩; replace H := H.below h_; clear h_))
   exact HP.out _ _ ⟨rfl, H.all⟩
  | succ k =>
   have hil : i < l.length := by omega
   have g1 : decide ((i : Int) < (l.length : Int)) = true := decide_eq_true (by omega)
   have g2 : decide (i < l.length) = true := decide_eq_true hil
   have g3 : (i : Int) < (l.length : Int) := by omega
   have hi20 : i ≤ 20 := by have := HLL.out; omega
   obtain ⟨e0, he0⟩ : ∃ e, l[i]? = some e := ⟨_, List.getElem?_eq_getElem hil⟩
   obtain ⟨a0, rfl, hcl0, hR0, hc0, _⟩ := HL.out i e0 he0
   obtain ⟨b, eA, ec⟩ := e0
   have hcl : wr.cell? (a0.add i) = some (.slice eA b.length ec) := pw_cell_below HPH.out.H.all hcl0
   have hww : wrap64 ((i : Int) + 1) = ((i + 1 : Nat) : Int) := by rw [wrap_ok12 (by omega) (by omega)]; omega
   have hwi : IntKind.u32.wrap (i : Int) = (i : Int) := by simp [IntKind.wrap, IntKind.bits, IntKind.signed]; omega
   have HIK := Lib.hid hik
   clear hcl0 he0 hik hi20
   rcases Nat.lt_or_ge 300 b.length with hb | hb
   ·have h1 : decide ((300 : Int) < (b.length : Int)) = true := decide_eq_true (by omega)
    have h2 : decide (300 < b.length) = true := decide_eq_true hb
    clear hb
    go_wp2_with (first
     | (go_at_call 15; refine (fixed_h _ (GV.below HGV.out H.all)).mono ?_; rintro e_ w_ ⟨rfl, h_⟩; replace H := H.below h_; clear h_))
    exact HP.out _ _ ⟨rfl, H.all⟩
   ·have h1 : decide ((300 : Int) < (b.length : Int)) = false := decide_eq_false (by omega)
    have h2 : decide (300 < b.length) = false := decide_eq_false (by omega)
    have HB := Lib.hid (And.intro hR0 (And.intro hc0 (And.intro hb HM.out)))
    obtain ⟨fin, hfin⟩ : ∃ fin : Bool, ((i : Int) % 2 == 0) = fin := ⟨_, rfl⟩
    clear hR0 hc0 hb
    go_wp2_with (first
     | (go_at_call 24; refine (cut_calls _ (i : Int) fin eA b ec M (HB.out.1.below H.all) HB.out.2.1 HB.out.2.2.1 HB.out.2.2.2.1 HB.out.2.2.2.2).mono ?_; rintro e_ w_ ⟨vr, es, rfl, ⟨Ar, cr, rfl⟩, h_, hok⟩; replace H := (Hold.push H h_).perm (perm_tail2 _ _ _); have HOK := Lib.hid hok; clear h_ hok))
    go_loopg [57, 10] es.length (fun k2 v57 v10 wj => ∃ (j : Nat) (v : Value) (s : GSt) (gb : Bool), v57 = .int .i64 (j : Int) ∧ v10 = .bool gb ∧ j + k2 = es.length ∧ Aside0 (JLoop w wj go [.int .u8 ty, .int .u8 fl, .int .u32 st, .slice oA on oc, .int .i64 pad, .int .u32 code, .int .u32 oth, .int .u8 wgt, .bool al, .int .u32 win, oS] g v s (.slice Ar es.length cr) es (i : Int) fin b M j gb))
    case atStart =>
     refine ⟨0, v, ⟨sst, [], sf, false, sm, 0, 0⟩, false, rfl, rfl, by omega, Aside0.mk ⟨H.want (Want.take (by repeat (first | exact Pull.head | apply Pull.tail)) (Want.take (by repeat (first | exact Pull.head | apply Pull.tail)) (Want.take (by repeat (first | exact Pull.head | apply Pull.tail)) (Want.take (by repeat (first | exact Pull.head | apply Pull.tail)) (Want.done (by repeat (first | exact Suf.refl | apply Suf.cons))))))), fun _ => ?_, fun h => ?_, ?_, HPH.out.m0, HPH.out.m1, Nat.zero_le _⟩⟩
     ·unfold GS; rw [if_pos rfl]; exact ⟨rfl, rfl, rfl⟩
     ·exact ⟨_, _, _, rfl⟩
     ·obtain ⟨K, hK, _⟩ := HOK.out.last
      rw [hK]; rfl
    case round =>
     obtain ⟨j, v', s, gb, rfl, rfl, hjk, hP⟩ := hrel
     have HJP := Lib.hid hP.out
     clear hP H
     have H := HJP.out.H
     cases gk with
     | zero =>
      have m1 : decide ((j : Int) < (es.length : Int)) = false := decide_eq_false (by omega)
      have m2 : decide (j < es.length) = false := decide_eq_false (by omega)
      obtain ⟨sst', sf', sm', rfl⟩ := HJP.out.end_ (by omega)
      obtain rfl : gb = true := by rw [HJP.out.got]; exact decide_eq_true (by omega)
      replace H := H.sub (List.sublist_append_left _ _)
      have HSM := Lib.hid (And.intro HJP.out.m0 HJP.out.m1)
      clear hjk HJP
      go_wp2_with (first
       | ((with_reducible refine is_load (ty := 32) rfl ?_); refine load_h H rfl rfl rfl (by repeat (first | exact List.Mem.head _ | apply List.Mem.tail)) (by kernel_rfl) (by kernel_rfl) ?_)
       | ((with_reducible refine is_load (ty := 36) rfl ?_); refine load_g H rfl rfl (by repeat (first | exact List.Mem.head _ | apply List.Mem.tail)) (by kernel_rfl) (by kernel_rfl) (by rfl) ?_)
       | (go_at_call 20; refine (busy_calls _ _ g _ _ (H.isG (s := ⟨sst', [], sf', false, sm', 0, 0⟩) (by repeat (first | exact List.Mem.head _ | apply List.Mem.tail)) (by repeat (first | exact List.Mem.head _ | apply List.Mem.tail)))).mono ?_; rintro e_ w_ ⟨rfl, rfl⟩)
       | (go_at_call 21; refine (held_calls _ _ g _ _ (H.isG (s := ⟨sst', [], sf', false, sm', 0, 0⟩) (by repeat (first | exact List.Mem.head _ | apply List.Mem.tail)) (by repeat (first | exact List.Mem.head _ | apply List.Mem.tail)))).mono ?_; rintro e_ w_ ⟨rfl, rfl⟩)
       | (go_at_call 17; refine (other_h H (s := ⟨sst', [], sf', false, sm', 0, 0⟩) (by repeat (first | exact List.Mem.head _ | apply List.Mem.tail)) (by repeat (first | exact List.Mem.head _ | apply List.Mem.tail)) rfl rfl rfl ty fl st pad code oth wgt win al (.slice oA on oc) oS HT.out.1 HT.out.2).mono ?_; rintro e_ w_ ⟨v2, v3, rfl, h_⟩; obtain ⟨A2, c2, rfl⟩ := own_slice (h_.row (k := .u8) (xs := []) (List.Mem.tail _ (List.Mem.tail _ (List.Mem.head _)))); replace H := Hold.call (H.pull2 (by repeat (first | exact Pull.head | apply Pull.tail)) (by repeat (first | exact Pull.head | apply Pull.tail))) h_; clear h_)
       | ((with_reducible refine is_alloc (ty := 34) rfl ?_); refine alloc_h H rfl rfl (cs := [.int .u32 0, nilS, .bool false]) (by first | (go_simp; done) | (go_simp; rfl)) ?_; clear H; intro gh w_ H)
       | ((with_reducible refine is_alloc (ty := 36) rfl ?_); refine alloc_h H rfl rfl (cs := [.int .u8 0, .int .u32 0]) (by first | (go_simp; done) | (go_simp; rfl)) ?_; clear H; intro gu w_ H)
       | ((with_reducible refine is_store (ty := 34) rfl ?_); refine store_h H rfl rfl rfl rfl (u := .agg #[.int .u32 0, .slice A2 ([] : List Int).length c2, .bool false]) rfl (by repeat (first | exact Put.head | apply Put.tail)) (by kernel_rfl) (Nat.le_of_ble_eq_true rfl) rfl ?_; clear H; intro w_ H; simp only [setC, Value.cells, List.toList_toArray] at H)
       | ((with_reducible refine is_store (ty := 36) rfl ?_); refine store_h H rfl rfl rfl rfl (u := .agg #[.int .u8 0, .int .u32 0]) rfl (by repeat (first | exact Put.head | apply Put.tail)) (by kernel_rfl) (Nat.le_of_ble_eq_true rfl) rfl ?_; clear H; intro w_ H; simp only [setC, Value.cells, List.toList_toArray] at H))
      go_roundg k
      case measure => have := HIK.out; omega
      case rel => exact ⟨i + 1, v3, sst', sf', sm', by first | rfl | simp, by have := HIK.out; omega, Aside0.mk ⟨H.want (l' := [gO g v3 ⟨sst', [], sf', false, sm', 0, 0⟩, gR v3 ⟨sst', [], sf', false, sm', 0, 0⟩, cl go [.int .u8 ty, .int .u8 fl, .int .u32 st, .slice oA on oc, .int .i64 pad, .int .u32 code, .int .u32 oth, .int .u8 wgt, .bool al, .int .u32 win, oS] 32]) (Want.take (by repeat (first | exact Pull.head | apply Pull.tail)) (Want.take (by repeat (first | exact Pull.head | apply Pull.tail)) (Want.take (by repeat (first | exact Pull.head | apply Pull.tail)) (Want.done (by repeat (first | exact Suf.refl | apply Suf.cons)))))), HSM.out.1, HSM.out.2⟩⟩
     | succ k2 =>
      have hjl : j < es.length := by omega
      have m1 : decide ((j : Int) < (es.length : Int)) = true := decide_eq_true (by omega)
      have m2 : decide (j < es.length) = true := decide_eq_true hjl
      have m3 : (j : Int) < (es.length : Int) := by omega
      obtain rfl : gb = false := by rw [HJP.out.got]; exact decide_eq_false (by omega)
      obtain ⟨e, he⟩ : ∃ e, es[j]? = some e := ⟨_, List.getElem?_eq_getElem hjl⟩
      obtain ⟨hty, hfl, hst, hx⟩ := HOK.out.cuts.at_ j e he
      obtain ⟨a1, c1, e1, hce, _, _⟩ := H.frame (v := .slice Ar es.length cr) (es := es) (by repeat (first | exact List.Mem.head _ | apply List.Mem.tail)) (fun o ho => by repeat (first | exact ho | exact List.mem_append_left _ ho | apply List.mem_append_right | apply List.Mem.tail)) he
      injection e1 with e1 _ e3
      subst e1
      clear e3
      have HCE := Lib.hid hce
      have HMT := Lib.hid (rowT_mem (List.mem_of_getElem? he))
      have hmore := HOK.out.cuts.more j hjl
      have hj15 : j ≤ 20 := by
       rcases hmore with h | h
       ·omega
       ·rcases Nat.lt_or_ge 20 j with h' | h'
        ·have := Nat.mul_le_mul h' HM.out.1
         have := HB.out.2.2.1
         omega
        ·exact h'
      have hgt := gtake_cut HM.out.1 HB.out.2.2.1 hmore (HJP.out.gs hjl)
      have hxl : e.x.length ≤ 20000 := by rw [hx]; unfold cutD; rw [List.length_take, List.length_drop]; have := HB.out.2.2.1; omega
      have hsl : s.bs = 0 → s.bc = 0 := by
       have h := HJP.out.gs hjl
       unfold GS at h
       split at h
       ·exact fun _ => h.2.2
       ·rw [h]; exact fun _ => rfl
      have HS := Lib.hid (And.intro HJP.out.m0 (And.intro HJP.out.m1 (And.intro HJP.out.bl (And.intro hsl hxl))))
      have hwj : wrap64 ((j : Int) + 1) = ((j + 1 : Nat) : Int) := by rw [wrap_ok12 (by omega) (by omega)]; omega
      have HJK := Lib.hid hjk
      have HWJ := Lib.hid hwj
      clear hwj
      cases hE : cutE b.length M j with
      | true =>
       have HGT := Lib.hid (show gtake s e.ty e.fl e.st e.x = ((⟨true, (i : Int), b, fin, 0, 0⟩ : GOut), (⟨0, [], false, false, (j : Int), 0, 0⟩ : GSt)) by rw [hty, hfl, hst, hx, hgt, hE, if_pos rfl])
       have HE := Lib.hid ((HOK.out.last_iff hjl).1 hE)
       have HJ15 := Lib.hid hj15
       clear hgt hE hty hfl hst hx hce he hmore hj15 hsl hxl hjk HJP
       go_wp2_with (first
        | ((with_reducible refine is_load (ty := 32) rfl ?_); refine list_load_at rfl rfl (ad := a1.add (j * 11)) rfl e.cells HCE.out (by kernel_rfl) (by kernel_rfl) ?_)
        | ((with_reducible refine is_alloc (ty := 32) rfl ?_); refine alloc_h H rfl rfl (cs := [.int .u8 0, .int .u8 0, .int .u32 0, nilS, .int .i64 0, .int .u32 0, .int .u32 0, .int .u8 0, .bool false, .int .u32 0, nilS]) (by first | (go_simp; done) | (go_simp; rfl)) ?_; clear H; intro gf w_ H)
        | ((with_reducible refine is_store (ty := 32) rfl ?_); refine store_h H rfl rfl rfl rfl (u := .agg #[.int .u8 e.ty, .int .u8 e.fl, .int .u32 e.st, .slice e.A e.x.length e.c, .int .i64 (-1), .int .u32 0, .int .u32 0, .int .u8 0, .bool false, .int .u32 0, nilS]) rfl (by repeat (first | exact Put.head | apply Put.tail)) (by kernel_rfl) (Nat.le_of_ble_eq_true rfl) rfl ?_; clear H; intro w_ H; simp only [setC, Value.cells, List.toList_toArray] at H)
        | (go_at_call 17; refine (take_h H e (by repeat (first | exact List.Mem.head _ | apply List.Mem.tail)) (by repeat (first | exact List.Mem.head _ | apply List.Mem.tail)) (by repeat (first | exact HMT.out | exact List.mem_append_left _ HMT.out | apply List.mem_append_right | apply List.Mem.tail)) HGV.out HS.out.1 HS.out.2.1 HS.out.2.2.1 HS.out.2.2.2.1 HS.out.2.2.2.2 HGT.out).mono ?_; rintro e_ w_ ⟨v2, v3, rfl, h_⟩; obtain ⟨A2, c2, rfl⟩ := own_slice (h_.row (k := .u8) (xs := b) (List.Mem.tail _ (List.Mem.tail _ (List.Mem.head _)))); replace H := Hold.call (H.pull2 (by repeat (first | exact Pull.head | apply Pull.tail)) (by repeat (first | exact Pull.head | apply Pull.tail))) h_; clear h_)
        | ((with_reducible refine is_alloc (ty := 34) rfl ?_); refine alloc_h H rfl rfl (cs := [.int .u32 0, nilS, .bool false]) (by first | (go_simp; done) | (go_simp; rfl)) ?_; clear H; intro gh w_ H)
        | ((with_reducible refine is_alloc (ty := 36) rfl ?_); refine alloc_h H rfl rfl (cs := [.int .u8 0, .int .u32 0]) (by first | (go_simp; done) | (go_simp; rfl)) ?_; clear H; intro gu w_ H)
        | ((with_reducible refine is_store (ty := 34) rfl ?_); refine store_h H rfl rfl rfl rfl (u := .agg #[.int .u32 (i : Int), .slice A2 (b : List Int).length c2, .bool fin]) rfl (by repeat (first | exact Put.head | apply Put.tail)) (by kernel_rfl) (Nat.le_of_ble_eq_true rfl) rfl ?_; clear H; intro w_ H; simp only [setC, Value.cells, List.toList_toArray] at H)
        | ((with_reducible refine is_store (ty := 36) rfl ?_); refine store_h H rfl rfl rfl rfl (u := .agg #[.int .u8 0, .int .u32 0]) rfl (by repeat (first | exact Put.head | apply Put.tail)) (by kernel_rfl) (Nat.le_of_ble_eq_true rfl) rfl ?_; clear H; intro w_ H; simp only [setC, Value.cells, List.toList_toArray] at H)
        | ((with_reducible refine is_load (ty := 32) rfl ?_); refine load_h H rfl rfl rfl (by repeat (first | exact List.Mem.head _ | apply List.Mem.tail)) (by kernel_rfl) (by kernel_rfl) ?_)
        | ((with_reducible refine is_load (ty := 36) rfl ?_); refine load_h H rfl rfl rfl (by repeat (first | exact List.Mem.head _ | apply List.Mem.tail)) (by kernel_rfl) (by kernel_rfl) ?_)
        | ((with_reducible refine is_load rfl ?_); refine loadf_g H rfl rfl (by repeat (first | exact List.Mem.head _ | apply List.Mem.tail)) rfl (by kernel_rfl) (by rfl) ?_)
        | ((with_reducible refine is_conv rfl ?_); refine conv_g H rfl (v := .slice A2 b.length c2) rfl (by repeat (first | exact List.Mem.head _ | apply List.Mem.tail)) Tryd.underlying29 Tryd.underlying5 Tryd.underlying9 (by rfl) ?_)
        | ((with_reducible refine is_conv rfl ?_); refine convr_g rfl (A := eA) (n := b.length) (c := ec) rfl (HB.out.1.below H.all) Tryd.underlying29 Tryd.underlying5 Tryd.underlying9 (by rfl) ?_))
       go_roundg k2
       case measure => have := HJK.out; omega
       case rel =>
        refine ⟨j + 1, v3, ⟨0, [], false, false, (j : Int), 0, 0⟩, true, by rw [HWJ.out], rfl, by have := HJK.out; omega, Aside0.mk ⟨H.want (Want.take (by repeat (first | exact Pull.head | apply Pull.tail)) (Want.take (by repeat (first | exact Pull.head | apply Pull.tail)) (Want.take (by repeat (first | exact Pull.head | apply Pull.tail)) (Want.take (by repeat (first | exact Pull.head | apply Pull.tail)) (Want.done (by repeat (first | exact Suf.refl | apply Suf.cons))))))), fun h => ?_, fun _ => ⟨_, _, _, rfl⟩, ?_, ?_, ?_, Nat.zero_le _⟩⟩
        ·have := HE.out; omega
        ·exact (decide_eq_true HE.out).symm
        ·show (0 : Int) ≤ (j : Int); omega
        ·show (j : Int) ≤ 1000; have := HJ15.out; omega
      | false =>
       have HGT := Lib.hid (show gtake s e.ty e.fl e.st e.x = ((⟨false, 0, [], false, 0, 0⟩ : GOut), (⟨(i : Int), b.take ((j + 1) * M), fin, true, (j : Int), 0, 0⟩ : GSt)) by rw [hty, hfl, hst, hx, hgt, hE, if_neg Bool.false_ne_true])
       have HE := Lib.hid (show j + 1 < es.length by
        have h := (HOK.out.last_iff hjl).2
        rw [hE] at h
        rcases Nat.lt_or_ge (j + 1) es.length with h1 | h1
        ·exact h1
        ·exact absurd (h (by omega)) (by decide))
       have HJ15 := Lib.hid hj15
       clear hgt hE hty hfl hst hx hce he hmore hj15 hsl hxl hjk HJP
       go_wp2_with (first
        | ((with_reducible refine is_load (ty := 32) rfl ?_); refine list_load_at rfl rfl (ad := a1.add (j * 11)) rfl e.cells HCE.out (by kernel_rfl) (by kernel_rfl) ?_)
        | ((with_reducible refine is_alloc (ty := 32) rfl ?_); refine alloc_h H rfl rfl (cs := [.int .u8 0, .int .u8 0, .int .u32 0, nilS, .int .i64 0, .int .u32 0, .int .u32 0, .int .u8 0, .bool false, .int .u32 0, nilS]) (by first | (go_simp; done) | (go_simp; rfl)) ?_; clear H; intro gf w_ H)
        | ((with_reducible refine is_store (ty := 32) rfl ?_); refine store_h H rfl rfl rfl rfl (u := .agg #[.int .u8 e.ty, .int .u8 e.fl, .int .u32 e.st, .slice e.A e.x.length e.c, .int .i64 (-1), .int .u32 0, .int .u32 0, .int .u8 0, .bool false, .int .u32 0, nilS]) rfl (by repeat (first | exact Put.head | apply Put.tail)) (by kernel_rfl) (Nat.le_of_ble_eq_true rfl) rfl ?_; clear H; intro w_ H; simp only [setC, Value.cells, List.toList_toArray] at H)
        | (go_at_call 17; refine (take_h H e (by repeat (first | exact List.Mem.head _ | apply List.Mem.tail)) (by repeat (first | exact List.Mem.head _ | apply List.Mem.tail)) (by repeat (first | exact HMT.out | exact List.mem_append_left _ HMT.out | apply List.mem_append_right | apply List.Mem.tail)) HGV.out HS.out.1 HS.out.2.1 HS.out.2.2.1 HS.out.2.2.2.1 HS.out.2.2.2.2 HGT.out).mono ?_; rintro e_ w_ ⟨v2, v3, rfl, h_⟩; obtain ⟨A2, c2, rfl⟩ := own_slice (h_.row (k := .u8) (xs := []) (List.Mem.tail _ (List.Mem.tail _ (List.Mem.head _)))); replace H := Hold.call (H.pull2 (by repeat (first | exact Pull.head | apply Pull.tail)) (by repeat (first | exact Pull.head | apply Pull.tail))) h_; clear h_)
        | ((with_reducible refine is_alloc (ty := 34) rfl ?_); refine alloc_h H rfl rfl (cs := [.int .u32 0, nilS, .bool false]) (by first | (go_simp; done) | (go_simp; rfl)) ?_; clear H; intro gh w_ H)
        | ((with_reducible refine is_alloc (ty := 36) rfl ?_); refine alloc_h H rfl rfl (cs := [.int .u8 0, .int .u32 0]) (by first | (go_simp; done) | (go_simp; rfl)) ?_; clear H; intro gu w_ H)
        | ((with_reducible refine is_store (ty := 34) rfl ?_); refine store_h H rfl rfl rfl rfl (u := .agg #[.int .u32 0, .slice A2 ([] : List Int).length c2, .bool false]) rfl (by repeat (first | exact Put.head | apply Put.tail)) (by kernel_rfl) (Nat.le_of_ble_eq_true rfl) rfl ?_; clear H; intro w_ H; simp only [setC, Value.cells, List.toList_toArray] at H)
        | ((with_reducible refine is_store (ty := 36) rfl ?_); refine store_h H rfl rfl rfl rfl (u := .agg #[.int .u8 0, .int .u32 0]) rfl (by repeat (first | exact Put.head | apply Put.tail)) (by kernel_rfl) (Nat.le_of_ble_eq_true rfl) rfl ?_; clear H; intro w_ H; simp only [setC, Value.cells, List.toList_toArray] at H)
        | ((with_reducible refine is_load (ty := 32) rfl ?_); refine load_h H rfl rfl rfl (by repeat (first | exact List.Mem.head _ | apply List.Mem.tail)) (by kernel_rfl) (by kernel_rfl) ?_)
        | ((with_reducible refine is_load (ty := 36) rfl ?_); refine load_h H rfl rfl rfl (by repeat (first | exact List.Mem.head _ | apply List.Mem.tail)) (by kernel_rfl) (by kernel_rfl) ?_)
        | ((with_reducible refine is_load rfl ?_); refine loadf_g H rfl rfl (by repeat (first | exact List.Mem.head _ | apply List.Mem.tail)) rfl (by kernel_rfl) (by rfl) ?_)
        | ((with_reducible refine is_conv rfl ?_); refine conv_g H rfl (v := .slice A2 b.length c2) rfl (by repeat (first | exact List.Mem.head _ | apply List.Mem.tail)) Tryd.underlying29 Tryd.underlying5 Tryd.underlying9 (by rfl) ?_)
        | ((with_reducible refine is_conv rfl ?_); refine convr_g rfl (A := eA) (n := b.length) (c := ec) rfl (HB.out.1.below H.all) Tryd.underlying29 Tryd.underlying5 Tryd.underlying9 (by rfl) ?_))
       go_roundg k2
       case measure => have := HJK.out; omega
       case rel =>
        refine ⟨j + 1, v3, ⟨(i : Int), b.take ((j + 1) * M), fin, true, (j : Int), 0, 0⟩, false, by rw [HWJ.out], rfl, by have := HJK.out; omega, Aside0.mk ⟨H.want (Want.take (by repeat (first | exact Pull.head | apply Pull.tail)) (Want.take (by repeat (first | exact Pull.head | apply Pull.tail)) (Want.take (by repeat (first | exact Pull.head | apply Pull.tail)) (Want.take (by repeat (first | exact Pull.head | apply Pull.tail)) (Want.done (by repeat (first | exact Suf.refl | apply Suf.cons))))))), fun _ => GS.next _ rfl, fun h => ?_, ?_, ?_, ?_, by show (b.take ((j + 1) * M)).length ≤ 100000; rw [List.length_take]; have := HB.out.2.2.1; omega⟩⟩
        ·have := HE.out; omega
        ·exact (decide_eq_false (by have := HE.out; omega)).symm
        ·show (0 : Int) ≤ (j : Int); omega
        ·show (j : Int) ≤ 1000; have := HJ15.out; omega
theorem blockGoes_walk (w : World) (A : Option Addr) (l : List BE) (c : Nat) (hl : BsIn w A l) (hll : l.length ≤ 9223372036854775807) (mo : Nat) (hmo : mo ≤ 255) (ty fl st pad code oth wgt win : Int) (al : Bool) (oA : Option Addr) (on oc : Nat) (oS : Value) (hgv : GV w) : Calls Tryd.prog 6 #[.slice A l.length c, .int .u8 (mo : Int), .agg #[.int .u8 ty, .int .u8 fl, .int .u32 st, .slice oA on oc, .int .i64 pad, .int .u32 code, .int .u32 oth, .int .u8 wgt, .bool al, .int .u32 win, oS]] w fun e w' => e = .returned (.bool true) ∧ Below w.heap.size w w' := by
 by_cases h1 : l.length ≤ 20
 ·by_cases h2 : ty = 1
  ·exact goes_great w A l c hl hll mo hmo ty fl st pad code oth wgt win al oA on oc oS hgv (.inr (.inl h2))
  ·by_cases h3 : ty = 9
   ·exact goes_great w A l c hl hll mo hmo ty fl st pad code oth wgt win al oA on oc oS hgv (.inr (.inr h3))
   ·exact goes_main w A l c hl hll mo hmo ty fl st pad code oth wgt win al oA on oc oS hgv h1 h2 h3
 ·exact goes_great w A l c hl hll mo hmo ty fl st pad code oth wgt win al oA on oc oS hgv (.inl (by omega))
end Go.Proofs.YtodfahcmgmleeaaDoor

/- From the row's list to the cell of errors.errorType; bounds of numbers that came in. -/
namespace Go.Proofs.YtodfahcmgmleeaaDoor
set_option linter.unusedVariables false
set_option linter.unusedSimpArgs false
open Go.RowKit
theorem Tryd.et : Tryd.prog.globalNamed "errors.errorType" = some 0 := by kernel_rfl
theorem Tryd.rt : (Tryd.prog.cutTypes.find? (·.1 == "internal/reflectlite.rtype")).map (·.2) = some 121 := by kernel_rfl
theorem Tryd.oneRow : ((List.range 176).filter fun t => Tryd.prog.rowNamed t [101, 114, 114, 111, 114]) = [73] := by kernel_rfl
theorem Tryd.sizeT : Tryd.prog.types.size = 176 := by kernel_rfl
theorem gv_of_laid {W : World} (h : laidMetH Tryd.prog [("errors.errorType", Rows.laid_errors_errorType)] W) : GV W := by
 have h' : laidMet Tryd.prog [] W ∧ handlesMet Tryd.prog [("errors.errorType", Rows.laid_errors_errorType)] W := h
 obtain ⟨name, u, ty, e1, e2, e3, e4, e5⟩ := h'.2 _ (List.mem_singleton.2 rfl)
 have en : name = [101, 114, 114, 111, 114] := (Option.some.inj e1).symm
 subst en
 obtain rfl := Option.some.inj (Tryd.rt.symm.trans e2)
 have hm : ty ∈ (List.range 176).filter fun t => Tryd.prog.rowNamed t [101, 114, 114, 111, 114] := List.mem_filter.2 ⟨List.mem_range.2 (by rw [← Tryd.sizeT]; exact e3), e4⟩
 rw [Tryd.oneRow] at hm
 obtain rfl := List.mem_singleton.1 hm
 have hh : typeHandle Tryd.prog 73 = hOf 73 := by kernel_rfl
 rw [hh] at e5
 unfold GV
 simpa using World.var?_cell Tryd.et e5 0
end Go.Proofs.YtodfahcmgmleeaaDoor

/- A frame that came in, opened to its cells. -/
namespace Go.Proofs.YtodfahcmgmleeaaDoor
set_option linter.unusedVariables false
set_option linter.unusedSimpArgs false
open Go.RowKit Go.ChangeShapes Go.WideShapes Go.Deep Go.Joins Go.Proofs.YtodfahcmgmleeaaDoorW.PrintWords
theorem list11 {α : Type} {l : List α} (h : l.length = 11) : ∃ c0 c1 c2 c3 c4 c5 c6 c7 c8 c9 c10, l = [c0, c1, c2, c3, c4, c5, c6, c7, c8, c9, c10] := by
 match l, h with
 | [c0, c1, c2, c3, c4, c5, c6, c7, c8, c9, c10], _ => exact ⟨c0, c1, c2, c3, c4, c5, c6, c7, c8, c9, c10, rfl⟩
structure FrIs (W : World) (ty fl st : Int) (A : Option Addr) (n : Nat) (pad code oth wgt win : Int) (data : List Int) (S : Value) : Prop where
 ty : (Lit.int .u8 ty).wf = true
 fl : (Lit.int .u8 fl).wf = true
 st : (Lit.int .u32 st).wf = true
 pad : (Lit.int .i64 pad).wf = true
 code : (Lit.int .u32 code).wf = true
 oth : (Lit.int .u32 oth).wf = true
 wgt : (Lit.int .u8 wgt).wf = true
 win : (Lit.int .u32 win).wf = true
 reads : ReadsInt W .u8 A n data
 max : n ≤ maxLen
 bytes : ∀ x ∈ data, (Lit.int .u8 x).wf = true
 sets : ∃ a l c, S = .slice a l c
def ReadsIn (W : World) (A : Option Addr) (n : Nat) : Prop := ∃ l : List Int, n = l.length ∧ ReadsInt W .u8 A l.length l ∧ l.length ≤ maxLen ∧ ∀ x ∈ l, (Lit.int .u8 x).wf = true
set_option maxRecDepth 100000 in
theorem open_frame {H : Type} {enc : TypeId × Value → H} {W : World} {fuel : Nat} {cs : List Value} {x : DataW H × List MemPlace}
  (h : DataW.trod enc Tryd.prog W 0 (fun _ => true) true fuel 32 cs = some x) :
  ∃ ty fl st A n c pad code oth wgt al win S data, cs = [.int .u8 ty, .int .u8 fl, .int .u32 st, .slice A n c, .int .i64 pad, .int .u32 code, .int .u32 oth, .int .u8 wgt, .bool al, .int .u32 win, S] ∧
   FrIs W ty fl st A n pad code oth wgt win data S := by
 obtain ⟨xs, m, _, rfl, hl, hlen, hf⟩ := DataW.trod_struct Tryd.underlying32 h
 have hC : Tryd.prog.cellsOf 32 = 11 := by kernel_rfl
 rw [hC] at hl
 have e1 : Tryd.prog.cellsOf 5 = 1 := by kernel_rfl
 have e2 : Tryd.prog.cellsOf 26 = 1 := by kernel_rfl
 have e3 : Tryd.prog.cellsOf 29 = 1 := by kernel_rfl
 have e4 : Tryd.prog.cellsOf 3 = 1 := by kernel_rfl
 have e5 : Tryd.prog.cellsOf 4 = 1 := by kernel_rfl
 have e6 : Tryd.prog.cellsOf 30 = 1 := by kernel_rfl
 obtain ⟨c0, c1, c2, c3, c4, c5, c6, c7, c8, c9, c10, rfl⟩ := list11 hl
 obtain ⟨y0, y1, y2, y3, y4, y5, y6, y7, y8, y9, y10, rfl⟩ := list11 (show xs.length = 11 from hlen)
 have h0 := hf 0 _ rfl
 have h1 := hf 1 _ rfl
 have h2 := hf 2 _ rfl
 have h3 := hf 3 _ rfl
 have h4 := hf 4 _ rfl
 have h5 := hf 5 _ rfl
 have h6 := hf 6 _ rfl
 have h7 := hf 7 _ rfl
 have h8 := hf 8 _ rfl
 have h9 := hf 9 _ rfl
 have h10 := hf 10 _ rfl
 clear hf h hl
 simp [e1, e2, e3, e4, e5, e6] at h0 h1 h2 h3 h4 h5 h6 h7 h8 h9 h10
 obtain ⟨n0, k0, _, w0⟩ := DataW.trod_int Tryd.underlying5 h0
 obtain ⟨n1, k1, _, w1⟩ := DataW.trod_int Tryd.underlying5 h1
 obtain ⟨n2, k2, _, w2⟩ := DataW.trod_int Tryd.underlying26 h2
 obtain ⟨A, n3, cp, k3⟩ := slice_form Tryd.underlying29 h3
 obtain ⟨n4, k4, _, w4⟩ := DataW.trod_int Tryd.underlying3 h4
 obtain ⟨n5, k5, _, w5⟩ := DataW.trod_int Tryd.underlying26 h5
 obtain ⟨n6, k6, _, w6⟩ := DataW.trod_int Tryd.underlying26 h6
 obtain ⟨n7, k7, _, w7⟩ := DataW.trod_int Tryd.underlying5 h7
 obtain ⟨n8, k8, _⟩ := DataW.trod_bool Tryd.underlying4 h8
 obtain ⟨n9, k9, _, w9⟩ := DataW.trod_int Tryd.underlying26 h9
 obtain ⟨A10, n10, cp10, k10⟩ := slice_form Tryd.underlying30 h10
 simp at k0 k1 k2 k3 k4 k5 k6 k7 k8 k9 k10
 subst k0 k1 k2 k3 k4 k5 k6 k7 k8 k9 k10
 have z := open_ints Tryd.underlying29 Tryd.underlying5 e1 h3
 have hz : ReadsIn W A n3 := by
  rcases z with ⟨hc, _⟩ | ⟨a, len, cap, zs, hc, _, h1, h2, h3, _, h4, h5⟩
  ·injection hc with hc _
   injection hc with q1 q2 q3
   subst q1 q2 q3
   exact ReadsInt.ofRow (zs := []) (cap := 0) (.inl ⟨rfl, rfl, rfl, rfl⟩)
  ·injection hc with hc _
   injection hc with q1 q2 q3
   subst q1 q2 q3
   exact ReadsInt.ofRow (.inr ⟨a, rfl, h1, h2, by simpa using h3, h4, h5⟩)
 obtain ⟨l, rfl, r1, r2, r3⟩ := hz
 exact ⟨n0, n1, n2, A, _, cp, n4, n5, n6, n7, n8, n9, _, l, rfl, ⟨w0, w1, w2, w4, w5, w6, w7, w9, r1, r2, r3, _, _, _, rfl⟩⟩
end Go.Proofs.YtodfahcmgmleeaaDoor

/- The law BlockNil, walked. -/
namespace Go.Proofs.YtodfahcmgmleeaaDoor
set_option linter.unusedVariables false
set_option linter.unusedSimpArgs false
open Go.RowKit Go.Proofs.YtodfahcmgmleeaaDoorW.PrintWords
attribute [local go_sem high] eqFault
theorem agg_of {cs : Array Value} {l : List Value} (h : cs.toList = l) : cs = l.toArray := by subst h; simp
set_option maxRecDepth 100000 in
theorem open_frame_arg {H : Type} {enc : TypeId × Value → H} {W : World} {b0 : Nat} {v : Value} {d : DataW H} {p : List MemPlace} (hv : Value.okWide Tryd.prog W .any b0 32 v)
  (h : DataW.Trod enc Tryd.prog W 0 (fun _ => true) true 32 v d p) : ∃ ty fl st A n c pad code oth wgt al win S data, v = frV ty fl st (.slice A n c) pad code oth wgt win al S ∧ FrIs W ty fl st A n pad code oth wgt win data S := by
 obtain ⟨cs, rfl, -⟩ := Go.WideShapes.okWide_struct Tryd.underlying32 hv
 obtain ⟨fuel, hf⟩ := h
 obtain ⟨ty, fl, st, A, n, c, pad, code, oth, wgt, al, win, S, data, hc, hF⟩ := open_frame hf
 refine ⟨ty, fl, st, A, n, c, pad, code, oth, wgt, al, win, S, data, ?_, hF⟩
 exact congrArg Value.agg (agg_of hc)
end Go.Proofs.YtodfahcmgmleeaaDoor

/- The statement of louver/louverlaw12.BlockGoes: for every input it returns true, and each argument reads behind the call as it read before; no other condition than the row's own. -/
namespace Go.Proofs.YtodfahcmgmleeaaDoor.blockGoes
set_option linter.unusedVariables false
set_option linter.unusedSimpArgs false
open Go.ChangeShapes Go.WideShapes Go.ChangeAt Go.RowKit
open Go.ChangeMaps (open_string shut_string)
set_option linter.unusedVariables false
theorem own : ownKnob Tryd.prog.godebug = none := by kernel_rfl
theorem laidOut : laidOutB Tryd.prog = true := by kernel_rfl
set_option maxRecDepth 100000 in
theorem contract (H : Type) (enc : TypeId × Value → H) (W : World) (base : Nat) (args : Array Value) (ds gs : List (DataW H)) (before : List MemPlace)
  (hval : ∀ (j : Nat) t v, Tryd.f6.params[j]? = some t → args[j]? = some v → Value.okWide Tryd.prog W .any base t v)
  (hW : DataW.Whole enc Tryd.prog Tryd.f6.params.toList Rows.blockGoesSpec.vars false W args.toList ds gs before)
  (hsz : (DataW.weightsEach Tryd.prog (Tryd.f6.params.toList ++ Rows.blockGoesSpec.plain.varTypes Tryd.prog) (ds ++ gs)).all (· ≤ reachBytes) = true)
  (hL : laidMetH Tryd.prog Rows.blockGoesRow.laid W) (hS : W.ShapedOpen Tryd.prog) :
  Calls Tryd.prog 6 args W fun e W' => ∃ v, e = .returned v ∧ Rows.blockGoesSpec.post enc Tryd.prog Tryd.f6 false true false false W args v W' := by
 have hW' := hW
 obtain ⟨p, q, hA0, hV, rfl, hfz, hnd⟩ := hW
 have hA : DataW.TrodAll enc Tryd.prog W 0 (fun _ => true) true Tryd.f6.params.toList args.toList ds p := hA0
 rw [Tryd.params6] at hA hval hsz
 obtain ⟨v0, vs0, d0, ds0, p0, q0, hargs, rfl, rfl, h0, r0⟩ := trodAll_cons hA
 obtain ⟨v1, vs1, d1, ds1, p1, q1, rfl, rfl, rfl, h1, r1⟩ := trodAll_cons r0
 obtain ⟨v2, vs2, d2, ds2, p2, q2, rfl, rfl, rfl, h2, r2⟩ := trodAll_cons r1
 obtain ⟨rfl, rfl, rfl⟩ := trodAll_nil r2
 obtain rfl : args = #[v0, v1, v2] := by cases args; simp_all
 obtain ⟨rfl, rfl⟩ := trodVars_none hV
 have k0 := h0
 have ok0 := (hval 0 46 v0 rfl rfl)
 have lt0 : ∀ x ∈ p0, x.block < W.heap.size := by obtain ⟨m, hm⟩ := k0; exact DataW.trod_lt m _ _ _ hm
 obtain ⟨a1, rfl, rfl, rfl, w1⟩ := open_int Tryd.underlying5 (hval 1 5 v1 rfl rfl) h1
 have k2 := h2
 have ok2 := (hval 2 32 v2 rfl rfl)
 have lt2 : ∀ x ∈ p2, x.block < W.heap.size := by obtain ⟨m, hm⟩ := k2; exact DataW.trod_lt m _ _ _ hm
 obtain ⟨A0, l0, c0, rfl, hn0, hR0⟩ := open_rows ok0 h0; obtain ⟨ty, fl, st, A, n, c, pad, code, oth, wgt, al, win, S, data, rfl, hF⟩ := open_frame_arg ok2 h2; obtain ⟨hm0, hm1⟩ : 0 ≤ a1 ∧ a1 ≤ 255 := by simp [Lit.wf, IntKind.min, IntKind.max, IntKind.signed, IntKind.bits] at w1; omega
 obtain ⟨mo, hmo⟩ := Int.eq_ofNat_of_zero_le hm0; subst hmo
 clear hA0 hval
 refine (blockGoes_walk W A0 l0 c0 hR0 hn0 mo (by omega) ty fl st pad code oth wgt win al A n c S (gv_of_laid hL)).mono fun e W' ⟨he, bel⟩ => ?_
 subst he
 exact ⟨_, rfl, _, _, _, [], _, [], hW', trodAll_mk1 (shut_bool Tryd.underlying4 _), (trodAll_cons_mk (Below.trod laidOut (by kernel_rfl) (of_decide_eq_true (by kernel_rfl)) k0 bel lt0) (trodAll_cons_mk (shut_int Tryd.underlying5 w1) (trodAll_cons_mk (Below.trod laidOut (by kernel_rfl) (of_decide_eq_true (by kernel_rfl)) k2 bel lt2) trodAll_mk0))), rfl, bel.frame _, fun h => by cases h⟩
noncomputable def laidWorld (os : Os) : World :=
 { World.holding Tryd.prog os ⟨#[], #[], []⟩ with heap := (World.holding Tryd.prog os ⟨#[], #[], []⟩).heap.modify 0 fun
   | .cells _ t frozen => .cells #[.iface 121 (.agg #[.pointer (some ⟨4, 73, none⟩)])] t frozen
   | o => o }
set_option maxRecDepth 100000 in
theorem laid_met (os : Os) (args : Array Value) : laidMetH Tryd.prog Rows.blockGoesRow.laid ((laidWorld os).forCall (fun _ _ => 0) ⟨#[], args, []⟩).memory := laidMetH_of_parts (laidMet_nil _ _) (by kernel_rfl)
set_option maxRecDepth 100000 in
theorem lifted (os : Os) (started : os.Started) (H : Type) (enc : TypeId × Value → H) (F : Stop.Interp) :
  ReturnsInHanded {} Tryd.checked os 6 .any ((OpenSpec.ofChange Rows.blockGoesSpec).preRow enc Tryd.prog Tryd.f6 Rows.blockGoesRow.domain false Rows.blockGoesRow.laid) (((OpenSpec.ofChange Rows.blockGoesSpec).at F).post enc Tryd.prog Tryd.f6 false true false false) := by
 refine returnsInHanded_of_row (C := Tryd.checked) (s := (OpenSpec.ofChange Rows.blockGoesSpec)) own started (by kernel_rfl) Tryd.func6
  (witness_row_at (enc := enc) (C := Tryd.checked) false (laidWorld os) #[.slice none 0 0, .int .u8 0, .agg #[.int .u8 0, .int .u8 0, .int .u32 0, .slice none 0 0, .int .i64 0, .int .u32 0, .int .u32 0, .int .u8 0, .bool false, .int .u32 0, .slice none 0 0]] rfl (by kernel_rfl) (by kernel_rfl) (by kernel_rfl)
   (OpenSpec.preRow_of_cond 8 (x := ([.nil, .lit (.int .u8 0), .agg [.lit (.int .u8 0), .lit (.int .u8 0), .lit (.int .u32 0), .nil, .lit (.int .i64 0), .lit (.int .u32 0), .lit (.int .u32 0), .lit (.int .u8 0), .lit (.bool false), .lit (.int .u32 0), .nil]], [], [])) (by kernel_rfl) (by kernel_rfl) (fun k hk => by cases hk) (by kernel_rfl) (laid_met os _))) ?_
 intro W base args ds gs before hval hW _ hcond hsz hL hS _
 exact contract H enc W base args ds gs before hval hW hsz hL hS
theorem said : Rows.BlockGoesSaid :=
 OpenClaim.holds_of_cond 6 Tryd.f6 rfl rfl rfl rfl rfl rfl rfl ⟨rfl, rfl, rfl, rfl, rfl⟩ rfl rfl rfl rfl rfl (by kernel_rfl) Tryd.func6 (by kernel_rfl)
  (of_decide_eq_true (by kernel_rfl)) (by unfold Func.isWrapper; first | (rw [if_pos (by decide +kernel)]; kernel_rfl) | (rw [if_neg (by decide +kernel)]; exact ⟨rfl, rfl⟩))
  (fun os started H enc _ F => by rw [OpenClaim.pre_eq_preRow]; exact lifted os started H enc F)
theorem plain (f : FuncId) (fn : Func) (hf : Tryd.pinned.checked.prog.funcNamed "louver/louverlaw12.BlockGoes" = some f) (hfn : Tryd.pinned.checked.prog.funcs[f]? = some fn) :
  true = Tryd.pinned.checked.prog.looks [] ∧ ∀ (j : Nat) t, fn.params[j]? = some t → Tryd.pinned.checked.prog.wantsStandIn t = false := by
 obtain rfl : f = 6 := Option.some.inj ((show Tryd.prog.funcNamed "louver/louverlaw12.BlockGoes" = some 6 by kernel_rfl).symm.trans hf) |>.symm
 obtain rfl : fn = Tryd.f6 := (Option.some.inj (Tryd.func6.symm.trans hfn)).symm
 refine ⟨by kernel_rfl, fun j t ht => ?_⟩
 rw [Tryd.params6] at ht
 have hm := Array.mem_of_getElem? ht
 have hall : ∀ t ∈ #[46, 5, 32], Tryd.prog.wantsStandIn t = false := by intro t h; simp only [List.mem_toArray, List.mem_cons, List.not_mem_nil, or_false] at h; rcases h with rfl | rfl | rfl <;> kernel_rfl
 exact hall t hm
theorem card : Rows.BlockGoesCardSaid :=
 Claim7.holds_tied_plain_at .later [] _ _ _ _ said (fun _ h => by cases h) (by kernel_rfl) (fun _ h => by cases h) blockGoes_row_tie rfl ⟨rfl, rfl⟩ (by kernel_rfl) rfl plain (by kernel_rfl)
#print axioms card
end Go.Proofs.YtodfahcmgmleeaaDoor.blockGoes
