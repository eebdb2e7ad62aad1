/- The statement of louver/louverlaw24.SubsDrops: for every input it returns true, and each argument reads behind the call as it read before; no other condition than the row's own. -/
import Derived.Test.YtkgedjaihimafaaMSubsDrops1
import Derived.Test.YtkgedjaihimafaaMSubsDropsW1
import Derived.ChangeSlices
import Derived.Deep.Slices
import Derived.Deep.Strs
import Derived.ChangeArms
import Derived.ChangeSame
import Derived.Lib.SmallJoins
import Derived.Test.YtkgedjaihimafaaRows
import Derived.WalkKit
import Derived.ProofKit
import Derived.OpenShut
import Derived.ShutString
import Derived.ChangeOld
import Derived.Below
import Derived.SizedLaws
import Derived.Carry
import Derived.Deep.DeepHandedRow
import Derived.LaidHandle
import Derived.LaidLaws
import Derived.Test.YtkgedjaihimafaaMSubsDrops0
/- Of, Client, Drop, walked. (This text is printed by wip/gen/sub4.py.) -/
namespace Go.Proofs.Ytkgedjaihimafaa
set_option linter.unusedVariables false
set_option linter.unusedSimpArgs false
open Go.RowKit Go.Lib Go.Maps Go.Proofs.YtkgedjaihimafaaW.PrintWords Go.Proofs.YtkgedjaihimafaaW.PrintLast Go.Proofs.YtkgedjaihimafaaW.PrintMore Go.Extern.Stop Go.Stop Go.Extern
theorem Hold.ne {w W : World} {t : List Nat} {l r1 r2 : List Own} (H : Hold w W t l) {g g' : Nat} {o : Obj} {y : Own} (h1 : Pull l (.obj g o) r1) (h2 : Pull r1 y r2) (hy : g' ∈ y.at_) : g ≠ g' := fun e => by
 have H2 := H.only2 h1 h2
 exact (List.pairwise_cons.1 H2.apart).1 _ (List.Mem.head _) g (List.mem_singleton.2 rfl) (by rw [e]; exact hy)
def SbsIn (w : World) (v : Value) (es : List Sb) : Prop := ∃ A c, v = .slice A es.length c ∧ ∀ (i : Nat) (e : Sb), es[i]? = some e → ∃ a, A = some a ∧ ∀ (j : Nat) (u : Value), e.cells[j]? = some u → w.cell? ((a.add (i * 5)).add j) = some u
theorem SbsIn.below {w W : World} {v : Value} {es : List Sb} (h : SbsIn w v es) (hb : Below w.heap.size w W) : SbsIn W v es := by
 obtain ⟨A, c, rfl, h⟩ := h
 refine ⟨A, c, rfl, fun i e he => ?_⟩
 obtain ⟨a, rfl, hc⟩ := h i e he
 exact ⟨a, rfl, fun j u hu => pw_cell_below hb (hc j u hu)⟩
theorem add_off (g x j : Nat) : (⟨g, x, none⟩ : Addr).add j = ⟨g, x + j, none⟩ := by
 unfold Addr.add
 split <;> simp_all
theorem own_sbs {W : World} {v : Value} {es : List Sb} (h : W.ownsRow 0 29 5 v es.length (es.flatMap Sb.cells)) : SbsIn W v es := by
 rcases h.2 with ⟨rfl, h0⟩ | ⟨g, cap, cur, rfl, _, hb, hle, _, hsz, htk⟩
 ·obtain rfl : es = [] := List.eq_nil_of_length_eq_zero h0
  exact ⟨none, 0, rfl, fun i e he => by simp at he⟩
 ·refine ⟨_, _, rfl, fun i e he => ⟨⟨g, 0, none⟩, rfl, fun j u hu => ?_⟩⟩
  have hf := flat_atS es i j e u he hu
  rw [← htk, List.getElem?_take] at hf
  rw [add_off, add_off, Nat.zero_add, blk_cell hb, ← Array.getElem?_toList]
  split at hf
  ·exact hf
  ·cases hf
theorem list_load_at {P : Program} {ops : Array Oper} {rest : List Oper} {o : Oper} {a : Act} {w : World} {Q : Exit → Act → World → Prop} (hgd : o.guard = none) {ty : TypeId} {x : Operand} (ho : o.op = .load ty x) {ad : Addr} (hx : a.eval x = .pointer (some ad)) (cs : List Value)
  (hc : ∀ j v, cs[j]? = some v → w.cell? (ad.add j) = some v) (hd : (P.underlying ty).map (·.isRow) = some true) (hi : (P.info? ty).map (·.size) = some cs.length) (h : wpList P ops Q rest (a.put o.dst (.agg cs.toArray)) w) : wpList P ops Q (o :: rest) a w := by
 obtain ⟨d, hu, hr⟩ := Option.map_eq_some_iff.1 hd
 have hl : (loadCells ad cs.length).run P w = .ok cs.toArray w := run_loadCells_list (P := P) w ad cs hc
 have hv : (loadVar ty ad).run P w = .ok (.agg cs.toArray) w := by
  cases hq : P.info? ty with
  | none => simp [hq] at hi
  | some i =>
   have hs : i.size = cs.length := by simpa [hq] using hi
   have hagg : (isAgg ty).run P w = .ok true w := by
    unfold isAgg
    rw [Sem.run_bind, run_underlying hu w]
    cases d <;> simp_all
   simp [loadVar, Sem.run_bind, hagg, sizeOf, typeInfo, hq, hs, hl]
 refine wpList_plain hgd fun K hK => ?_
 unfold Oper.wp execOp
 simp only [ho, hx, Instr.loadAt, Instr.sureAddr, Sem.run_bind, Sem.run_pure, Result.andThen_ok, hv]
 exact hK _ _ h
theorem wrap_okS {x : Int} (h0 : -9223372036854775808 ≤ x) (h1 : x ≤ 9223372036854775807) : wrap64 x = x := by
 unfold wrap64
 omega
def outL (m l : List Sb) : List Sb := m.filter fun s => !l.any fun u => s.is u.cl u.id
theorem outL_nil (m : List Sb) : outL m [] = m := List.filter_eq_self.2 fun s _ => rfl
theorem outL_snoc (m l : List Sb) (e : Sb) : remL (outL m l) e.cl e.id = outL m (l ++ [e]) := by
 unfold remL outL
 rw [List.filter_filter]
 refine List.filter_congr fun s _ => ?_
 rw [List.any_append]
 cases l.any fun u => s.is u.cl u.id <;> simp
theorem outL_all (m : List Sb) (c : Int) : outL m (m.filter fun s => s.cl == c) = m.filter fun s => !(s.cl == c) := by
 refine List.filter_congr fun s hs => ?_
 congr 1
 cases hc : s.cl == c
 ·refine Bool.eq_false_iff.2 fun h => ?_
  obtain ⟨u, hu, hi⟩ := List.any_eq_true.1 h
  have h1 := (List.mem_filter.1 hu).2
  rw [Sb.is_iff] at hi
  have : s.cl == c := by rw [hi.1]; exact h1
  rw [hc] at this; cases this
 ·exact List.any_eq_true.2 ⟨s, List.mem_filter.2 ⟨hs, hc⟩, Sb.is_self s⟩
set_option maxHeartbeats 2000000 in
set_option maxRecDepth 100000 in
theorem ofC_calls (w : World) (tb b N : Nat) (m : List Sb) (c : Int) (h : IsT w tb b N m) (hs : Sorted m) (hok : ∀ s ∈ m, okKey (s.cl, s.id)) (hl : m.length ≤ 1000000) : Calls Try.prog 13 #[.pointer (some ⟨tb, 0, none⟩), .int .u32 c] w fun e w' => ∃ v, e = .returned v ∧ Hold w w' (ats [tbO tb b, tbM b N m]) [rowS v (m.filter (fun s : Sb => s.cl == c)), tbO tb b, tbM b N m] := by
 refine of_post0 fun R hRR => ?_
 have HP := Lib.hid hRR
 have H := h.hold
 clear hRR h
 have HSO := Lib.hid (And.intro hs (And.intro hok hl))
 clear hs hok hl
 go_enter Try.func13, Try.ntmps13
 go_wp2_with (first
  | ((with_reducible refine is_box rfl ?_); refine box_h H rfl rfl rfl rfl ?_; clear H; intro pb w_ H)
  | (go_at_call 24; refine (someC_calls _ tb b N pb m c (H.isT (by repeat (first | exact Pull.head | apply Pull.tail)) (by repeat (first | exact Pull.head | apply Pull.tail))) (H.ok (cl pb [.int .u32 c] 23) (by repeat (first | exact List.Mem.head _ | apply List.Mem.tail))) (H.ne (y := tbO tb b) (by repeat (first | exact Pull.head | apply Pull.tail)) (by repeat (first | exact Pull.head | apply Pull.tail)) (List.mem_singleton.2 rfl)) (H.ne (y := tbM b N m) (by repeat (first | exact Pull.head | apply Pull.tail)) (by repeat (first | exact Pull.head | apply Pull.tail)) (List.mem_singleton.2 rfl)) HSO.out.1 HSO.out.2.1 HSO.out.2.2).mono ?_; rintro e_ w_ ⟨v, rfl, h_⟩; replace H := Hold.call (H.pull3 (by repeat (first | exact Pull.head | apply Pull.tail)) (by repeat (first | exact Pull.head | apply Pull.tail)) (by repeat (first | exact Pull.head | apply Pull.tail))) h_; clear h_))
 exact HP.out _ _ ⟨_, rfl, H.want (Want.take (by repeat (first | exact Pull.head | apply Pull.tail)) (Want.take (by repeat (first | exact Pull.head | apply Pull.tail)) (Want.take (by repeat (first | exact Pull.head | apply Pull.tail)) (Want.done (s := []) (by repeat (first | exact Suf.refl | apply Suf.cons))))))⟩
set_option maxHeartbeats 2000000 in
set_option maxRecDepth 100000 in
theorem dropT_calls (w : World) (tb b N : Nat) (m : List Sb) (c : Int) (h : IsT w tb b N m) (hs : Sorted m) (hok : ∀ s ∈ m, okKey (s.cl, s.id)) (hl : m.length ≤ 1000000) : Calls Try.prog 10 #[.pointer (some ⟨tb, 0, none⟩), .int .u32 c] w fun e w' => ∃ v, e = .returned v ∧ Hold w w' (ats [tbO tb b, tbM b N m]) [rowS v (m.filter fun s : Sb => s.cl == c), tbO tb b, tbM b N (m.filter fun s => !(s.cl == c))] := by
 refine of_post0 fun R hRR => ?_
 have HP := Lib.hid hRR
 have H := h.hold
 clear hRR h
 have HSO := Lib.hid (And.intro hs (And.intro hok hl))
 clear hs hok hl
 go_enter Try.func10, Try.ntmps10
 go_wp2_with (first
  | (go_at_call 13; refine (ofC_calls _ tb b N m c (H.isT (by repeat (first | exact Pull.head | apply Pull.tail)) (by repeat (first | exact Pull.head | apply Pull.tail))) HSO.out.1 HSO.out.2.1 HSO.out.2.2).mono ?_; rintro e_ w_ ⟨v, rfl, h_⟩; obtain ⟨Ao, co, rfl⟩ := own_slice (h_.ok _ (List.Mem.head _)); replace H := Hold.call (H.pull2 (by repeat (first | exact Pull.head | apply Pull.tail)) (by repeat (first | exact Pull.head | apply Pull.tail))) h_; clear h_))
 obtain ⟨out, hout⟩ : ∃ out, (m.filter fun s : Sb => s.cl == c) = out := ⟨_, rfl⟩
 rw [hout] at H
 have hlen : out.length ≤ 1000000 := by rw [← hout]; exact Nat.le_trans (List.length_filter_le _ _) HSO.out.2.2
 have hmem : ∀ e ∈ out, okKey (e.cl, e.id) := fun e he => by rw [← hout] at he; exact HSO.out.2.1 e (List.mem_filter.1 he).1
 have HLN := Lib.hid (And.intro hlen hmem)
 have HOUT := Lib.hid hout
 rw [hout]
 obtain ⟨ol, hol⟩ : ∃ ol, out.length = ol := ⟨_, rfl⟩
 rw [hol] at H ⊢
 have HOL := Lib.hid hol
 clear hlen hmem hout hol
 go_loopg [13] ol (fun k v13 wr => ∃ j : Nat, v13 = .int .i64 (j : Int) ∧ j + k = ol ∧ Aside0 (Hold w wr (ats [tbO tb b, tbM b N m]) [rowS (.slice Ao ol co) out, tbO tb b, tbM b N (outL m (out.take j))]))
 case atStart => exact ⟨0, rfl, by omega, Aside0.mk (by rw [List.take_zero, outL_nil]; exact H.want (Want.take (by repeat (first | exact Pull.head | apply Pull.tail)) (Want.take (by repeat (first | exact Pull.head | apply Pull.tail)) (Want.take (by repeat (first | exact Pull.head | apply Pull.tail)) (Want.done (s := []) (by repeat (first | exact Suf.refl | apply Suf.cons)))))))⟩
 case round =>
  obtain ⟨j, rfl, hjk, hP⟩ := hrel
  clear H
  have H := hP.out
  clear hP
  cases gk with
  | zero =>
   have g1 : decide ((j : Int) < (ol : Int)) = false := decide_eq_false (by omega)
   have g2 : decide (j < ol) = false := decide_eq_false (by omega)
   have HJ := Lib.hid hjk
   clear hjk
   go_wp2_with fail
   refine HP.out _ _ ⟨_, rfl, ?_⟩
   have e1 : out.take j = out := List.take_of_length_le (by have := HJ.out; have := HOL.out; omega)
   rw [e1, ← HOUT.out, outL_all, HOUT.out] at H
   rw [HOUT.out]
   exact H.want (Want.take (by repeat (first | exact Pull.head | apply Pull.tail)) (Want.take (by repeat (first | exact Pull.head | apply Pull.tail)) (Want.take (by repeat (first | exact Pull.head | apply Pull.tail)) (Want.done (s := []) (by repeat (first | exact Suf.refl | apply Suf.cons))))))
  | succ k =>
   have hjl : j < ol := by omega
   have g1 : decide ((j : Int) < (ol : Int)) = true := decide_eq_true (by omega)
   have g2 : decide (j < ol) = true := decide_eq_true hjl
   have g3 : (j : Int) < (ol : Int) := by omega
   obtain ⟨e, he⟩ : ∃ e, out[j]? = some e := ⟨_, List.getElem?_eq_getElem (by rw [HOL.out]; exact hjl)⟩
   have hrr : wr.ownsRow 0 29 5 (.slice Ao out.length co) out.length (out.flatMap Sb.cells) := by
    have := H.ok (rowS (.slice Ao ol co) out) (List.Mem.head _)
    rw [HOL.out]
    rw [← HOL.out]
    rw [← HOL.out] at this
    exact this
   obtain ⟨A', c', e1, hc⟩ := own_sbs hrr
   obtain ⟨a1, e2, hce⟩ := hc j e he
   injection e1 with e1 e3 e4
   clear e3 e4
   rw [e2] at e1
   subst e1
   have HCE := Lib.hid hce
   have HOK := Lib.hid (HLN.out.2 e (List.mem_of_getElem? he))
   have HTK := Lib.hid (show out.take (j + 1) = out.take j ++ [e] by rw [List.take_add_one, he]; rfl)
   have HU := Lib.hid (rem_upd (m := outL m (out.take j)) (HSO.out.1.rem _) e.cl e.id)
   have HW := Lib.hid (show wrap64 ((j : Int) + 1) = ((j + 1 : Nat) : Int) by rw [wrap_okS (by omega) (by have := HLN.out.1; have := HOL.out; omega)]; omega)
   have HJ := Lib.hid hjk
   clear hjk hrr hc hce he e2
   go_upto_region 5 with (first
    | ((with_reducible refine is_load (ty := 29) rfl ?_); refine list_load_at rfl rfl (ad := a1.add (j * 5)) rfl [.int .u32 e.cl, .int .u32 e.id, .string e.tp, .int .u64 e.fr, .int .u64 e.nx] HCE.out (by kernel_rfl) (by kernel_rfl) ?_)
    | ((with_reducible refine is_alloc (ty := 29) rfl ?_); refine alloc_h H rfl rfl (cs := [.int .u32 0, .int .u32 0, .string ⟨#[]⟩, .int .u64 0, .int .u64 0]) (by first | (go_simp; done) | (go_simp; rfl)) ?_; clear H; intro g7 w_ H)
    | ((with_reducible refine is_store (ty := 29) rfl ?_); refine store_h H rfl rfl rfl rfl (u := .agg #[.int .u32 e.cl, .int .u32 e.id, .string e.tp, .int .u64 e.fr, .int .u64 e.nx]) rfl (by repeat (first | exact Put.head | apply Put.tail)) (by kernel_rfl) (Nat.le_of_ble_eq_true rfl) rfl ?_; clear H; intro w_ H; simp only [setC, Value.cells, List.toList_toArray] at H))
   replace H := H.below (below_drew (Below.refl _ _))
   refine start_ (n := 10) (S := fun w' => w'.cell? ⟨tb, 0, none⟩ = some (.map (some b)) ∧ w'.cell? ⟨g7, 0, none⟩ = some (.int .u32 e.cl) ∧ w'.cell? ⟨g7, 1, none⟩ = some (.int .u32 e.id)) (ds := []) #[false, false, false, false, false, false, false, false, false, false] (by kernel_rfl) rfl rfl ⟨((H.cell (by repeat (first | exact List.Mem.head _ | apply List.Mem.tail)) 0).trans rfl), ((H.cell (by repeat (first | exact List.Mem.head _ | apply List.Mem.tail)) 0).trans rfl), ((H.cell (by repeat (first | exact List.Mem.head _ | apply List.Mem.tail)) 1).trans rfl)⟩ (fun hHeld => ?_)
   generalize World.drew _ = wy at H hHeld ⊢
   refine pure_ (i := 0) (N := some 17) (v := ?_) (a' := ?_) #[true, false, false, false, false, false, false, false, false, false] rfl rfl (by kernel_rfl) (fun _ _ _ h => h) (Or.inl ⟨by rfl, ?_⟩) ?_ ?_
   rotate_left
   ·intro w'
    go_simp
    with_reducible rfl
   rotate_left
   ·simp only [Act.put, putA, putB, putC]
    rfl
   refine pure_ (i := 1) (N := some 18) (v := ?_) (a' := ?_) #[true, true, false, false, false, false, false, false, false, false] rfl rfl (by kernel_rfl) (fun _ _ _ h => h) (Or.inl ⟨by rfl, ?_⟩) ?_ ?_
   rotate_left
   ·intro w'
    go_simp
    with_reducible rfl
   rotate_left
   ·simp only [Act.put, putA, putB, putC]
    rfl
   refine pure_ (i := 2) (N := some 19) (v := ?_) (a' := ?_) #[true, true, true, false, false, false, false, false, false, false] rfl rfl (by kernel_rfl) (fun _ _ _ h => h) (Or.inl ⟨by rfl, ?_⟩) ?_ ?_
   rotate_left
   ·intro w'
    go_simp
    with_reducible rfl
   rotate_left
   ·simp only [Act.put, putA, putB, putC]
    rfl
   refine take_ (i := 3) (N := some 20) (v := ?_) (a' := ?_) #[true, true, true, true, false, false, false, false, false, false] rfl rfl (by kernel_rfl) (fun _ _ _ h => h) (Or.inl ⟨by rfl, ?_⟩) hHeld ?_ ?_
   rotate_left
   ·rintro w' ⟨s0, s1, s2⟩
    go_simp
    with_reducible rfl
   rotate_left
   ·simp only [Act.put, putA, putB, putC]
    rfl
   refine pure_ (i := 4) (N := some 21) (v := ?_) (a' := ?_) #[true, true, true, true, true, false, false, false, false, false] rfl rfl (by kernel_rfl) (fun _ _ _ h => h) (Or.inl ⟨by rfl, ?_⟩) ?_ ?_
   rotate_left
   ·intro w'
    go_simp
    with_reducible rfl
   rotate_left
   ·simp only [Act.put, putA, putB, putC]
    rfl
   refine take_ (i := 5) (N := some 22) (v := ?_) (a' := ?_) #[true, true, true, true, true, true, false, false, false, false] rfl rfl (by kernel_rfl) (fun _ _ _ h => h) (Or.inl ⟨by rfl, ?_⟩) hHeld ?_ ?_
   rotate_left
   ·rintro w' ⟨s0, s1, s2⟩
    go_simp
    with_reducible rfl
   rotate_left
   ·simp only [Act.put, putA, putB, putC]
    rfl
   refine pure_ (i := 6) (N := some 23) (v := ?_) (a' := ?_) #[true, true, true, true, true, true, true, false, false, false] rfl rfl (by kernel_rfl) (fun _ _ _ h => h) (Or.inl ⟨by rfl, ?_⟩) ?_ ?_
   rotate_left
   ·intro w'
    go_simp
    with_reducible rfl
   rotate_left
   ·simp only [Act.put, putA, putB, putC]
    rfl
   refine take_ (i := 7) (N := some 24) (v := ?_) (a' := ?_) #[true, true, true, true, true, true, true, true, false, false] rfl rfl (by kernel_rfl) (fun _ _ _ h => h) (Or.inl ⟨by rfl, ?_⟩) hHeld ?_ ?_
   rotate_left
   ·rintro w' ⟨s0, s1, s2⟩
    go_simp
    with_reducible rfl
   rotate_left
   ·simp only [Act.put, putA, putB, putC]
    rfl
   refine pure_ (i := 8) (N := some 25) (v := ?_) (a' := ?_) #[true, true, true, true, true, true, true, true, true, false] rfl rfl (by kernel_rfl) (fun _ _ _ h => h) (Or.inl ⟨by rfl, ?_⟩) ?_ ?_
   rotate_left
   ·intro w'
    go_simp
    with_reducible rfl
   rotate_left
   ·simp only [Act.put, putA, putB, putC]
    rfl
   refine one_ (i := 9) (N := none) #[true, true, true, true, true, true, true, true, true, true] rfl rfl (by kernel_rfl) (by decide) (fun K hK => ?_)
   refine delete_o (t1 := 0) subMap H (by rfl) rfl (b := b) rfl (k := (e.cl, e.id)) HOK.out rfl (by repeat (first | exact Put.head | apply Put.tail)) HU.out.1 HU.out.2.1 HU.out.2.2 ?_
   clear H
   intro w_ H
   have hS := Lib.hid (show (fun w' : World => w'.cell? ⟨tb, 0, none⟩ = some (.map (some b)) ∧ w'.cell? ⟨g7, 0, none⟩ = some (.int .u32 e.cl) ∧ w'.cell? ⟨g7, 1, none⟩ = some (.int .u32 e.id)) _ from ⟨((H.cell (by repeat (first | exact List.Mem.head _ | apply List.Mem.tail)) 0).trans rfl), ((H.cell (by repeat (first | exact List.Mem.head _ | apply List.Mem.tail)) 0).trans rfl), ((H.cell (by repeat (first | exact List.Mem.head _ | apply List.Mem.tail)) 1).trans rfl)⟩)
   refine hK.out _ _ hS.out (fun hHeld => ?_)
   clear hK K
   clear hS
   refine done_ (by kernel_rfl) ?_
   clear hHeld
   go_wp2_with fail
   go_roundg k
   case measure => have := HJ.out; omega
   case rel =>
    refine ⟨j + 1, by rw [HW.out], by have := HJ.out; omega, Aside0.mk (H.want (l' := [rowS (.slice (some a1) ol co) out, tbO tb b, tbM b N (outL m (out.take (j + 1)))]) ?_)⟩
    rw [HTK.out, ← outL_snoc]
    exact (Want.take (by repeat (first | exact Pull.head | apply Pull.tail)) (Want.take (by repeat (first | exact Pull.head | apply Pull.tail)) (Want.take (by repeat (first | exact Pull.head | apply Pull.tail)) (Want.done (s := []) (by repeat (first | exact Suf.refl | apply Suf.cons))))))

section
variable {P : Program} {ops : Array Oper} {rest : List Oper} {o : Oper} {a : Act} {Q : Exit → Act → World → Prop} {W : World}
theorem loadf_at (hgd : o.guard = none) {t : TypeId} {x : Operand} (ho : o.op = .load t x) {ad : Addr} {v : Value} (hx : a.eval x = .pointer (some ad)) (hc : W.cell? ad = some v) (hd : (P.underlying t).map (·.isRow) = some false)
  (h : wpList P ops Q rest (a.put o.dst v) W) : wpList P ops Q (o :: rest) a W := by
 obtain ⟨d, hu, hd⟩ := Option.map_eq_some_iff.1 hd
 refine wpList_plain hgd fun K hK => ?_
 have hagg : (isAgg t).run P W = .ok false W := by
  unfold isAgg
  rw [Sem.run_bind, run_underlying hu W]
  cases d <;> simp_all
 unfold Oper.wp execOp
 simp [ho, hx, Instr.loadAt, Instr.sureAddr, loadVar, Sem.run_bind, hagg, hc]
 exact hK _ _ h
theorem loadf_at_g {t : TypeId} {x : Operand} (ho : o.op = .load t x) {ad : Addr} {v : Value} (hx : a.eval x = .pointer (some ad)) (hc : W.cell? ad = some v) (hd : (P.underlying t).map (·.isRow) = some false) (hw : Region.wanted o (yielded ops a.tmps) = true)
  (h : wpList P ops Q rest (a.put o.dst v) W) : wpList P ops Q (o :: rest) a W := gate_guard hw (loadf_at rfl ho hx hc hd h)
end
theorem SbsIn.at_ {w W : World} {v : Value} {l : List Sb} {A : Option Addr} {c : Nat} {n : Nat} (h : SbsIn w (.slice A n c) l) (hb : Below w.heap.size w W) {j : Nat} {e : Sb} (he : l[j]? = some e) : ∃ a, A = some a ∧ ∀ (i : Nat) (u : Value), e.cells[i]? = some u → W.cell? ((a.add (j * 5)).add i) = some u := by
 obtain ⟨A', c', e1, hc⟩ := h.below hb
 injection e1 with e1 _ _
 subst e1
 exact hc j e he
theorem idx_take {l : List Sb} {j : Nat} {e : Sb} (he : l[j]? = some e) : l.take (j + 1) = l.take j ++ [e] := by rw [List.take_add_one, he]; rfl
set_option maxHeartbeats 2000000 in
set_option maxRecDepth 100000 in
theorem rsome_calls (w : World) (v : Value) (l : List Sb) (c : Int) (is : Bool) (h : SbsIn w v l) (hl : l.length ≤ 1000000) : Calls Try.prog 12 #[v, .int .u32 c, .bool is] w fun e w' => ∃ v', e = .returned v' ∧ Hold w w' [] [rowS v' (((l).filter fun s : Sb => (s.cl == c) == is))] := by
 obtain ⟨A, c_, rfl, hin⟩ := h
 have HIN := Lib.hid (show SbsIn w (.slice A l.length c_) l from ⟨A, c_, rfl, hin⟩)
 clear hin
 refine of_post0 fun R hRR => ?_
 have HP := Lib.hid hRR
 have H : Hold w w [] [] := Hold.nothing (Kept.refl _ _)
 obtain ⟨n, hn⟩ : ∃ n, l.length = n := ⟨_, rfl⟩
 rw [hn] at HIN ⊢
 have HN := Lib.hid (And.intro hn hl)
 clear hRR hn hl
 go_enter Try.func12, Try.ntmps12
 go_wp2_with (first
  | ((with_reducible refine is_lit rfl ?_); refine emptyrow_h H rfl 29 5 (by first | (go_simp; done) | (go_simp; rfl)) ?_; clear H; intro go w_ H))
 go_loopg [7, 12] n (fun k vo vi wr => ∃ (j : Nat) (Ao : Option Addr) (on co : Nat), vo = .slice Ao on co ∧ vi = .int .i64 (j : Int) ∧ j + k = n ∧ Aside0 (Hold w wr [] [.row 29 5 (.slice Ao on co) on (((((l.take j)).filter fun s : Sb => (s.cl == c) == is)).flatMap Sb.cells)] ∧ ((((l.take j)).filter fun s : Sb => (s.cl == c) == is)).length = on ∧ on ≤ j))
 case atStart => exact ⟨0, _, 0, 0, rfl, rfl, by omega, Aside0.mk ⟨H, by simp, Nat.le_refl _⟩⟩
 case round =>
  obtain ⟨j, Ao, on, co, rfl, rfl, hjk, hP⟩ := hrel
  clear H
  obtain ⟨H, hon, hoj⟩ := hP.out
  clear hP
  cases gk with
  | zero =>
   have g1 : decide ((j : Int) < (n : Int)) = false := decide_eq_false (by omega)
   have g2 : decide (j < n) = false := decide_eq_false (by omega)
   have HJ := Lib.hid hjk
   have HON := Lib.hid hon
   clear hjk hon hoj
   go_wp2_with fail
   have e1 : l.take j = l := List.take_of_length_le (by have := HJ.out; have := HN.out.1; omega)
   have HON2 := HON.out
   rw [e1] at H HON2
   rw [← HON2] at H ⊢
   exact HP.out _ _ ⟨_, rfl, H⟩
  | succ k =>
   have hjl : j < n := by omega
   have g1 : decide ((j : Int) < (n : Int)) = true := decide_eq_true (by omega)
   have g2 : decide (j < n) = true := decide_eq_true hjl
   have g3 : (j : Int) < (n : Int) := by omega
   obtain ⟨e, he⟩ : ∃ e, l[j]? = some e := ⟨_, List.getElem?_eq_getElem (by have := HN.out.1; omega)⟩
   obtain ⟨a1, rfl, _⟩ := SbsIn.at_ (v := .int .u8 0) HIN.out (Below.refl _ _) he
   have HCE := Lib.hid (fun (W : World) (hb : Below w.heap.size w W) => (show ∀ (i : Nat) (u : Value), e.cells[i]? = some u → W.cell? ((a1.add (j * 5)).add i) = some u by
    obtain ⟨a2, ha, hc⟩ := SbsIn.at_ (v := .int .u8 0) HIN.out hb he
    obtain rfl := Option.some.inj ha
    exact hc))
   have HW := Lib.hid (show wrap64 ((j : Int) + 1) = ((j + 1 : Nat) : Int) by rw [wrap_okS (by omega) (by have := HN.out; omega)]; omega)
   have HJ := Lib.hid hjk
   have HE := Lib.hid he
   have HON := Lib.hid (show on ≤ 1000000 ∧ ((((l.take j)).filter fun s : Sb => (s.cl == c) == is)).length = on ∧ on ≤ j from ⟨by have := HN.out; omega, hon, hoj⟩)
   clear hjk hon hoj he
   cases hc : ((e.cl == c) == is) with
   | true =>
    have HC := Lib.hid hc
    have d1 : ((e.cl == c) == is) = true := hc
    have d2 : (decide (e.cl = c) == is) = true := by rw [← hc]; rfl
    clear hc
    go_wp2_with (first
     | ((with_reducible refine is_load (ty := 23) rfl ?_); refine loadf_at rfl rfl (ad := (a1.add (j * 5)).add 0) rfl (HCE.out _ H.all 0 _ rfl) (by kernel_rfl) ?_)
     | ((with_reducible refine is_load (ty := 29) rfl ?_); refine list_load_at rfl rfl (ad := a1.add (j * 5)) rfl [.int .u32 e.cl, .int .u32 e.id, .string e.tp, .int .u64 e.fr, .int .u64 e.nx] (HCE.out _ H.all) (by kernel_rfl) (by kernel_rfl) ?_)
     | ((with_reducible refine is_lit rfl ?_); refine onerow_h H rfl (e := 29) (cs := [.int .u32 e.cl, .int .u32 e.id, .string e.tp, .int .u64 e.fr, .int .u64 e.nx]) (by first | (go_simp; done) | (go_simp; rfl)) ?_; clear H; intro gl w_ H)
     | ((with_reducible refine is_call rfl ?_); refine appends_h H rfl rfl Try.underlying22 Try.infoSub rfl (by decide) rfl rfl (g := gl) (by repeat (first | exact List.Mem.head _ | apply List.Mem.tail)) rfl rfl (fun y => (by repeat (first | exact Put.head | apply Put.tail))) (by have := HON.out; omega) (by have := HON.out; omega) ?_; clear H; intro vo2 w_ H))
    obtain ⟨Ao2, co2, e9⟩ := own_slice (H.ok (.row 29 5 vo2 (on + 1) (((((l.take j)).filter fun s : Sb => (s.cl == c) == is)).flatMap Sb.cells ++ (e).cells)) (by repeat (first | exact List.Mem.head _ | apply List.Mem.tail)))
    subst e9
    go_roundg k
    case measure => have := HJ.out; omega
    case rel =>
     have e7 : (((l.take (j + 1))).filter fun s : Sb => (s.cl == c) == is) = (((l.take j)).filter fun s : Sb => (s.cl == c) == is) ++ [e] := by rw [idx_take HE.out]; rw [List.filter_append]; simp only [List.filter_cons, List.filter_nil, HC.out]; simp
     refine ⟨j + 1, Ao2, on + 1, co2, rfl, by rw [HW.out], by have := HJ.out; omega, Aside0.mk ⟨?_, ?_, by have := HON.out.2.2; omega⟩⟩
     ·rw [e7, List.flatMap_append, List.flatMap_singleton]
      exact H.want (l' := [.row 29 5 (.slice Ao2 (on + 1) co2) (on + 1) (((((l.take j)).filter fun s : Sb => (s.cl == c) == is)).flatMap Sb.cells ++ (e).cells)]) (Want.take (by repeat (first | exact Pull.head | apply Pull.tail)) (Want.done (s := []) (by repeat (first | exact Suf.refl | apply Suf.cons))))
     ·rw [e7, List.length_append, HON.out.2.1]; rfl
   | false =>
    have HC := Lib.hid hc
    have d1 : ((e.cl == c) == is) = false := hc
    have d2 : (decide (e.cl = c) == is) = false := by rw [← hc]; rfl
    clear hc
    go_wp2_with (first
     | ((with_reducible refine is_load (ty := 23) rfl ?_); refine loadf_at rfl rfl (ad := (a1.add (j * 5)).add 0) rfl (HCE.out _ H.all 0 _ rfl) (by kernel_rfl) ?_)
     | ((with_reducible refine is_load (ty := 29) rfl ?_); refine list_load_at rfl rfl (ad := a1.add (j * 5)) rfl [.int .u32 e.cl, .int .u32 e.id, .string e.tp, .int .u64 e.fr, .int .u64 e.nx] (HCE.out _ H.all) (by kernel_rfl) (by kernel_rfl) ?_))
    go_roundg k
    case measure => have := HJ.out; omega
    case rel =>
     have e7 : (((l.take (j + 1))).filter fun s : Sb => (s.cl == c) == is) = (((l.take j)).filter fun s : Sb => (s.cl == c) == is) := by rw [idx_take HE.out]; rw [List.filter_append]; simp only [List.filter_cons, List.filter_nil, HC.out]; simp
     refine ⟨j + 1, Ao, on, co, rfl, by rw [HW.out], by have := HJ.out; omega, Aside0.mk ⟨?_, ?_, by have := HON.out.2.2; omega⟩⟩
     ·rw [e7]
      exact H.want (Want.take (by repeat (first | exact Pull.head | apply Pull.tail)) (Want.done (s := []) (by repeat (first | exact Suf.refl | apply Suf.cons))))
     ·rw [e7, HON.out.2.1]
end Go.Proofs.Ytkgedjaihimafaa

/- '==' of two subscriptions that are one. -/
namespace Go.Proofs.Ytkgedjaihimafaa
set_option linter.unusedVariables false
set_option linter.unusedSimpArgs false
open Go.RowKit Go.Proofs.YtkgedjaihimafaaW.PrintWords
theorem eqSub (d : Nat) (w : World) (s : Sb) : (Op.equalIn (d + 2) 29 (.agg s.cells.toArray) (.agg s.cells.toArray)).run Try.prog w = .ok true w := by
 have h : (Op.equalIn (d + 2) 29 (.agg s.cells.toArray) (.agg s.cells.toArray)).run Try.prog w = .ok (s.cl == s.cl && (s.id == s.id && (s.tp.toList == s.tp.toList && (s.fr == s.fr && (s.nx == s.nx))))) w := by
  refine eqA_of Try.underlying29 (by kernel_rfl) ?_
  refine eqf_cons (by rfl) (by go_simp; rfl) (by go_simp; rfl) (by go_simp) ?_
  refine eqf_cons (by rfl) (by go_simp; rfl) (by go_simp; rfl) (by go_simp) ?_
  refine eqf_cons (by rfl) (by go_simp; rfl) (by go_simp; rfl) (by go_simp) ?_
  refine eqf_cons (by rfl) (by go_simp; rfl) (by go_simp; rfl) (by go_simp) ?_
  exact eqf_last (by rfl) (by go_simp; rfl) (by go_simp; rfl) (by go_simp)
 rw [h]
 simp
theorem fndI_at {c i : Int} : ∀ {l : List Sb} {j : Nat} {e : Sb}, (∀ s ∈ l.take j, s.is c i = false) → l[j]? = some e → e.is c i = true → fndI l c i = some j
 | [], _, _, _, h, _ => by simp at h
 | x :: l, 0, e, _, h, he => by
  obtain rfl : x = e := by simpa using h
  unfold fndI
  rw [List.findIdx?_cons, he]
  rfl
 | x :: l, j + 1, e, hn, h, he => by
  have hx := hn x (by simp)
  have ih := fndI_at (l := l) (j := j) (fun s hs => hn s (by simp [hs])) (by simpa using h) he
  unfold fndI at ih ⊢
  rw [List.findIdx?_cons, hx, ih]
  rfl
theorem fndI_no {c i : Int} {l : List Sb} (h : ∀ s ∈ l, s.is c i = false) : fndI l c i = none := List.findIdx?_eq_none_iff.2 h
end Go.Proofs.Ytkgedjaihimafaa

/- The reference's rows: before, Find, Same, Add, walked. (This text is printed by wip/gen/sub6.py.) -/
namespace Go.Proofs.Ytkgedjaihimafaa
set_option linter.unusedVariables false
set_option linter.unusedSimpArgs false
open Go.RowKit Go.Lib Go.Maps Go.Proofs.YtkgedjaihimafaaW.PrintWords Go.Proofs.YtkgedjaihimafaaW.PrintLast Go.Proofs.YtkgedjaihimafaaW.PrintMore Go.Extern.Stop Go.Stop Go.Extern
attribute [local go_sem high] eqSub
set_option maxHeartbeats 2000000 in
set_option maxRecDepth 100000 in
theorem before_calls (w : World) (a b : Sb) : Calls Try.prog 23 #[.agg a.cells.toArray, .agg b.cells.toArray] w fun e w' => e = .returned (.bool (beforeB a b)) ∧ Below w.heap.size w w' := by
 refine of_post0 fun R hRR => ?_
 have HP := Lib.hid hRR
 have H : Hold w w [] [] := Hold.nothing (Kept.refl _ _)
 clear hRR
 by_cases h1 : a.cl < b.cl
 ·have HB := Lib.hid (show beforeB a b = true from before_iff.2 (.inl h1))
  have d1 : decide (a.cl < b.cl) = true := decide_eq_true h1
  go_enter Try.func23, Try.ntmps23
  go_wp2_with (first
   | ((with_reducible refine is_box rfl ?_); refine box_h H rfl rfl rfl rfl ?_; clear H; intro g_ w_ H)
   | ((with_reducible refine is_load rfl ?_); refine loadf_g H rfl rfl (by repeat (first | exact List.Mem.head _ | apply List.Mem.tail)) rfl (by kernel_rfl) (by rfl) ?_)
   | ((with_reducible refine is_load rfl ?_); refine loadf_h H rfl rfl rfl (by repeat (first | exact List.Mem.head _ | apply List.Mem.tail)) rfl (by kernel_rfl) ?_))
  exact HP.out _ _ ⟨by rw [HB.out]; rfl, H.all⟩
 ·have d1 : decide (a.cl < b.cl) = false := decide_eq_false h1
  by_cases h2 : a.cl = b.cl
  ·have d2 : (a.cl == b.cl) = true := by simpa using h2
   have d3 : decide (a.cl = b.cl) = true := decide_eq_true h2
   have d4 : decide (b.cl < b.cl) = false := by simp
   by_cases h3 : a.id < b.id
   ·have HB := Lib.hid (show beforeB a b = true from before_iff.2 (.inr ⟨h2, h3⟩))
    have d5 : decide (a.id < b.id) = true := decide_eq_true h3
    have H2 := Lib.hid h2
    clear h2 h1
    go_enter Try.func23, Try.ntmps23
    go_wp2_with (first
     | ((with_reducible refine is_box rfl ?_); refine box_h H rfl rfl rfl rfl ?_; clear H; intro g_ w_ H)
     | ((with_reducible refine is_load rfl ?_); refine loadf_g H rfl rfl (by repeat (first | exact List.Mem.head _ | apply List.Mem.tail)) rfl (by kernel_rfl) (by rfl) ?_)
     | ((with_reducible refine is_load rfl ?_); refine loadf_h H rfl rfl rfl (by repeat (first | exact List.Mem.head _ | apply List.Mem.tail)) rfl (by kernel_rfl) ?_))
    exact HP.out _ _ ⟨by rw [HB.out]; rfl, H.all⟩
   ·have HB := Lib.hid (show beforeB a b = false from Bool.eq_false_iff.2 fun h => by have := before_iff.1 h; omega)
    have d5 : decide (a.id < b.id) = false := decide_eq_false h3
    have H2 := Lib.hid h2
    clear h2 h1 h3
    go_enter Try.func23, Try.ntmps23
    go_wp2_with (first
     | ((with_reducible refine is_box rfl ?_); refine box_h H rfl rfl rfl rfl ?_; clear H; intro g_ w_ H)
     | ((with_reducible refine is_load rfl ?_); refine loadf_g H rfl rfl (by repeat (first | exact List.Mem.head _ | apply List.Mem.tail)) rfl (by kernel_rfl) (by rfl) ?_)
     | ((with_reducible refine is_load rfl ?_); refine loadf_h H rfl rfl rfl (by repeat (first | exact List.Mem.head _ | apply List.Mem.tail)) rfl (by kernel_rfl) ?_))
    exact HP.out _ _ ⟨by rw [HB.out]; rfl, H.all⟩
  ·have HB := Lib.hid (show beforeB a b = false from Bool.eq_false_iff.2 fun h => by have := before_iff.1 h; omega)
   have d2 : (a.cl == b.cl) = false := by simpa using h2
   have d3 : decide (a.cl = b.cl) = false := decide_eq_false h2
   clear h1
   go_enter Try.func23, Try.ntmps23
   go_wp2_with (first
    | ((with_reducible refine is_box rfl ?_); refine box_h H rfl rfl rfl rfl ?_; clear H; intro g_ w_ H)
    | ((with_reducible refine is_load rfl ?_); refine loadf_g H rfl rfl (by repeat (first | exact List.Mem.head _ | apply List.Mem.tail)) rfl (by kernel_rfl) (by rfl) ?_)
    | ((with_reducible refine is_load rfl ?_); refine loadf_h H rfl rfl rfl (by repeat (first | exact List.Mem.head _ | apply List.Mem.tail)) rfl (by kernel_rfl) ?_))
   exact HP.out _ _ ⟨by rw [HB.out]; rfl, H.all⟩
set_option maxHeartbeats 2000000 in
set_option maxRecDepth 100000 in
theorem find_calls (w : World) (v : Value) (l : List Sb) (c i : Int) (h : SbsIn w v l) (hl : l.length ≤ 1000000) : Calls Try.prog 16 #[v, .int .u32 c, .int .u32 i] w fun e w' => e = .returned (.int .i64 (idx (fndI l c i))) ∧ Below w.heap.size w w' := by
 obtain ⟨A, c_, rfl, hin⟩ := h
 have HIN := Lib.hid (show SbsIn w (.slice A l.length c_) l from ⟨A, c_, rfl, hin⟩)
 clear hin
 refine of_post0 fun R hRR => ?_
 have HP := Lib.hid hRR
 have H : Hold w w [] [] := Hold.nothing (Kept.refl _ _)
 obtain ⟨n, hn⟩ : ∃ n, l.length = n := ⟨_, rfl⟩
 rw [hn] at HIN ⊢
 have HN := Lib.hid (And.intro hn hl)
 clear hRR hn hl
 go_enter Try.func16, Try.ntmps16
 go_wp2_with fail
 go_loopg [10] n (fun k vi wr => ∃ j : Nat, vi = .int .i64 (j : Int) ∧ j + k = n ∧ Aside0 (Hold w wr [] [] ∧ ∀ s ∈ l.take j, s.is c i = false))
 case atStart => exact ⟨0, rfl, by omega, Aside0.mk ⟨H, fun s hs => by simp at hs⟩⟩
 case round =>
  obtain ⟨j, rfl, hjk, hP⟩ := hrel
  clear H
  obtain ⟨H, hno⟩ := hP.out
  have HNO := Lib.hid hno
  clear hP hno
  cases gk with
  | zero =>
   have g1 : decide ((j : Int) < (n : Int)) = false := decide_eq_false (by omega)
   have g2 : decide (j < n) = false := decide_eq_false (by omega)
   have HF := Lib.hid (show idx (fndI l c i) = -1 by
    have e1 : l.take j = l := List.take_of_length_le (by have := HN.out.1; omega)
    have h := HNO.out
    rw [e1] at h
    rw [fndI_no h]; rfl)
   clear hjk
   go_wp2_with fail
   exact HP.out _ _ ⟨by rw [HF.out]; rfl, H.all⟩
  | succ k =>
   have hjl : j < n := by omega
   have g1 : decide ((j : Int) < (n : Int)) = true := decide_eq_true (by omega)
   have g2 : decide (j < n) = true := decide_eq_true hjl
   have g3 : (j : Int) < (n : Int) := by omega
   obtain ⟨e, he⟩ : ∃ e, l[j]? = some e := ⟨_, List.getElem?_eq_getElem (by have := HN.out.1; omega)⟩
   obtain ⟨a1, rfl, _⟩ := SbsIn.at_ (v := .int .u8 0) HIN.out (Below.refl _ _) he
   have HCE := Lib.hid (fun (W : World) (hb : Below w.heap.size w W) => (show ∀ (i : Nat) (u : Value), e.cells[i]? = some u → W.cell? ((a1.add (j * 5)).add i) = some u by
    obtain ⟨a2, ha, hc⟩ := SbsIn.at_ (v := .int .u8 0) HIN.out hb he
    obtain rfl := Option.some.inj ha
    exact hc))
   have HW := Lib.hid (show wrap64 ((j : Int) + 1) = ((j + 1 : Nat) : Int) by rw [wrap_okS (by omega) (by have := HN.out; omega)]; omega)
   have HJ := Lib.hid hjk
   have HE := Lib.hid he
   clear hjk he
   by_cases h1 : e.cl = c
   ·have d1 : (e.cl == c) = true := by simpa using h1
    have d2 : decide (e.cl = c) = true := decide_eq_true h1
    by_cases h2 : e.id = i
    ·have d3 : (e.id == i) = true := by simpa using h2
     have d4 : decide (e.id = i) = true := decide_eq_true h2
     have HF := Lib.hid (show idx (fndI l c i) = (j : Int) by rw [fndI_at HNO.out HE.out (Sb.is_iff.2 ⟨h1, h2⟩)]; rfl)
     clear h1 h2
     go_wp2_with (first
      | ((with_reducible refine is_load (ty := 23) rfl ?_); refine loadf_at rfl rfl (ad := (a1.add (j * 5)).add 0) rfl (HCE.out _ H.all 0 _ rfl) (by kernel_rfl) ?_)
      | ((with_reducible refine is_load (ty := 23) rfl ?_); refine loadf_at_g rfl (ad := (a1.add (j * 5)).add 1) rfl (HCE.out _ H.all 1 _ rfl) (by kernel_rfl) (by rfl) ?_))
     exact HP.out _ _ ⟨by rw [HF.out]; rfl, H.all⟩
    ·have d3 : (e.id == i) = false := by simpa using h2
     have d4 : decide (e.id = i) = false := decide_eq_false h2
     have HX := Lib.hid (show e.is c i = false from Bool.eq_false_iff.2 fun h => h2 (Sb.is_iff.1 h).2)
     clear h1 h2
     go_wp2_with (first
      | ((with_reducible refine is_load (ty := 23) rfl ?_); refine loadf_at rfl rfl (ad := (a1.add (j * 5)).add 0) rfl (HCE.out _ H.all 0 _ rfl) (by kernel_rfl) ?_)
      | ((with_reducible refine is_load (ty := 23) rfl ?_); refine loadf_at_g rfl (ad := (a1.add (j * 5)).add 1) rfl (HCE.out _ H.all 1 _ rfl) (by kernel_rfl) (by rfl) ?_))
     go_roundg k
     case measure => have := HJ.out; omega
     case rel => exact ⟨j + 1, by rw [HW.out], by have := HJ.out; omega, Aside0.mk ⟨H, fun s hs => by
      rw [idx_take HE.out] at hs
      rcases List.mem_append.1 hs with h | h
      ·exact HNO.out s h
      ·rw [List.mem_singleton.1 h]; exact HX.out⟩⟩
   ·have d1 : (e.cl == c) = false := by simpa using h1
    have d2 : decide (e.cl = c) = false := decide_eq_false h1
    have HX := Lib.hid (show e.is c i = false from Bool.eq_false_iff.2 fun h => h1 (Sb.is_iff.1 h).1)
    clear h1
    go_wp2_with (first
     | ((with_reducible refine is_load (ty := 23) rfl ?_); refine loadf_at rfl rfl (ad := (a1.add (j * 5)).add 0) rfl (HCE.out _ H.all 0 _ rfl) (by kernel_rfl) ?_)
     | ((with_reducible refine is_load (ty := 23) rfl ?_); refine loadf_at_g rfl (ad := (a1.add (j * 5)).add 1) rfl (HCE.out _ H.all 1 _ rfl) (by kernel_rfl) (by rfl) ?_))
    go_roundg k
    case measure => have := HJ.out; omega
    case rel => exact ⟨j + 1, by rw [HW.out], by have := HJ.out; omega, Aside0.mk ⟨H, fun s hs => by
     rw [idx_take HE.out] at hs
     rcases List.mem_append.1 hs with h | h
     ·exact HNO.out s h
     ·rw [List.mem_singleton.1 h]; exact HX.out⟩⟩

theorem load_at_o {P : Program} {ops : Array Oper} {o : Oper} {a : Act} {Q : Exit → Act → World → Prop} {W : World} {Kc : Act → World → Prop} (hw : Region.wanted o (yielded ops a.tmps) = true) {ty : TypeId} {x : Operand} (ho : o.op = .load ty x) {ad : Addr} (hx : a.eval x = .pointer (some ad)) (cs : List Value)
  (hc : ∀ j v, cs[j]? = some v → W.cell? (ad.add j) = some v) (hd : (P.underlying ty).map (·.isRow) = some true) (hi : (P.info? ty).map (·.size) = some cs.length) (h : Kc (a.put o.dst (.agg cs.toArray)) W) : if Region.wanted o (yielded ops a.tmps) = true then Oper.wp P o a W Kc Q else Kc (a.put o.dst undef) W := by
 obtain ⟨d, hu, hr⟩ := Option.map_eq_some_iff.1 hd
 have hl : (loadCells ad cs.length).run P W = .ok cs.toArray W := run_loadCells_list (P := P) W ad cs hc
 have hv : (loadVar ty ad).run P W = .ok (.agg cs.toArray) W := by
  cases hq : P.info? ty with
  | none => simp [hq] at hi
  | some i =>
   have hs : i.size = cs.length := by simpa [hq] using hi
   have hagg : (isAgg ty).run P W = .ok true W := by
    unfold isAgg
    rw [Sem.run_bind, run_underlying hu W]
    cases d <;> simp_all
   simp [loadVar, Sem.run_bind, hagg, sizeOf, typeInfo, hq, hs, hl]
 rw [if_pos hw]
 unfold Oper.wp execOp
 simp only [ho, hx, Instr.loadAt, Instr.sureAddr, Sem.run_bind, Sem.run_pure, Result.andThen_ok, hv]
 exact h
theorem ins_none {s : Sb} : ∀ {l : List Sb}, (∀ t ∈ l, beforeB s t = false) → ins s l = l ++ [s]
 | [], _ => rfl
 | x :: l, h => by
  unfold ins
  rw [if_neg (by rw [h x (List.mem_cons_self ..)]; decide), ins_none fun t ht => h t (List.mem_cons_of_mem _ ht)]
  rfl
theorem ins_app_none {s : Sb} (r : List Sb) : ∀ {l : List Sb}, (∀ t ∈ l, beforeB s t = false) → ins s (l ++ r) = l ++ ins s r
 | [], _ => rfl
 | x :: l, h => by
  rw [List.cons_append, List.cons_append]
  conv => lhs; unfold ins
  rw [if_neg (by rw [h x (List.mem_cons_self ..)]; decide), ins_app_none r fun t ht => h t (List.mem_cons_of_mem _ ht)]
theorem ins_app_done {s : Sb} (r : List Sb) : ∀ {l : List Sb}, (∃ t ∈ l, beforeB s t = true) → ins s (l ++ r) = ins s l ++ r
 | [], h => by obtain ⟨_, h, _⟩ := h; cases h
 | x :: l, h => by
  rw [List.cons_append]
  unfold ins
  by_cases hb : beforeB s x = true
  ·rw [if_pos hb, if_pos hb]; rfl
  ·rw [if_neg hb, if_neg hb, ins_app_done r (by
    obtain ⟨t, ht, h2⟩ := h
    rcases List.mem_cons.1 ht with rfl | ht
    ·exact absurd h2 hb
    ·exact ⟨t, ht, h2⟩)]
   rfl
set_option maxHeartbeats 2000000 in
set_option maxRecDepth 100000 in
theorem same_calls (w : World) (v v2 : Value) (l : List Sb) (h : SbsIn w v l) (h2 : SbsIn w v2 l) (hl : l.length ≤ 1000000) : Calls Try.prog 11 #[v, v2] w fun e w' => e = .returned (.bool true) ∧ Below w.heap.size w w' := by
 obtain ⟨B, d_, rfl, hin2⟩ := h2
 have HIB := Lib.hid (show SbsIn w (.slice B l.length d_) l from ⟨B, d_, rfl, hin2⟩)
 clear hin2
 obtain ⟨A, c_, rfl, hin⟩ := h
 have HIN := Lib.hid (show SbsIn w (.slice A l.length c_) l from ⟨A, c_, rfl, hin⟩)
 clear hin
 refine of_post0 fun R hRR => ?_
 have HP := Lib.hid hRR
 have H : Hold w w [] [] := Hold.nothing (Kept.refl _ _)
 obtain ⟨n, hn⟩ : ∃ n, l.length = n := ⟨_, rfl⟩
 rw [hn] at HIN HIB ⊢
 have HN := Lib.hid (And.intro hn hl)
 clear hRR hn hl
 go_enter Try.func11, Try.ntmps11
 go_wp2_with fail
 go_loopg [13] n (fun k vi wr => ∃ j : Nat, vi = .int .i64 (j : Int) ∧ j + k = n ∧ Aside0 (Hold w wr [] []))
 case atStart => exact ⟨0, rfl, by omega, Aside0.mk H⟩
 case round =>
  obtain ⟨j, rfl, hjk, hP⟩ := hrel
  clear H
  have H := hP.out
  clear hP
  cases gk with
  | zero =>
   have g1 : decide ((j : Int) < (n : Int)) = false := decide_eq_false (by omega)
   have g2 : decide (j < n) = false := decide_eq_false (by omega)
   clear hjk
   go_wp2_with fail
   exact HP.out _ _ ⟨rfl, H.all⟩
  | succ k =>
   have hjl : j < n := by omega
   have g1 : decide ((j : Int) < (n : Int)) = true := decide_eq_true (by omega)
   have g2 : decide (j < n) = true := decide_eq_true hjl
   have g3 : (j : Int) < (n : Int) := by omega
   obtain ⟨e, he⟩ : ∃ e, l[j]? = some e := ⟨_, List.getElem?_eq_getElem (by have := HN.out.1; omega)⟩
   obtain ⟨a1, rfl, _⟩ := SbsIn.at_ (v := .int .u8 0) HIN.out (Below.refl _ _) he
   have HCE := Lib.hid (fun (W : World) (hb : Below w.heap.size w W) => (show ∀ (i : Nat) (u : Value), e.cells[i]? = some u → W.cell? ((a1.add (j * 5)).add i) = some u by
    obtain ⟨a2, ha, hc⟩ := SbsIn.at_ (v := .int .u8 0) HIN.out hb he
    obtain rfl := Option.some.inj ha
    exact hc))
   have HW := Lib.hid (show wrap64 ((j : Int) + 1) = ((j + 1 : Nat) : Int) by rw [wrap_okS (by omega) (by have := HN.out; omega)]; omega)
   have HJ := Lib.hid hjk
   have HE := Lib.hid he
   obtain ⟨b1, rfl, _⟩ := SbsIn.at_ (v := .int .u8 0) HIB.out (Below.refl _ _) he
   have HCB := Lib.hid (fun (W : World) (hb : Below w.heap.size w W) => (show ∀ (i : Nat) (u : Value), e.cells[i]? = some u → W.cell? ((b1.add (j * 5)).add i) = some u by
    obtain ⟨a2, ha, hc⟩ := SbsIn.at_ (v := .int .u8 0) HIB.out hb he
    obtain rfl := Option.some.inj ha
    exact hc))
   clear hjk he
   go_upto_region 6 with fail
   replace H := H.below (below_drew (Below.refl _ _))
   refine start_ (n := 9) (S := fun w' => True) (ds := []) #[false, false, false, false, false, false, false, false, false] (by kernel_rfl) rfl rfl trivial (fun hHeld => ?_)
   generalize World.drew _ = wy at H hHeld ⊢
   refine pure_ (i := 0) (N := some 16) (v := ?_) (a' := ?_) #[true, false, false, false, false, false, false, false, false] rfl rfl (by kernel_rfl) (fun _ _ _ h => h) (Or.inl ⟨by rfl, ?_⟩) ?_ ?_
   rotate_left
   ·intro w'
    go_simp
    with_reducible rfl
   rotate_left
   ·simp only [Act.put, putA, putB, putC]
    rfl
   refine pure_ (i := 1) (N := some 17) (v := ?_) (a' := ?_) #[true, true, false, false, false, false, false, false, false] rfl rfl (by kernel_rfl) (fun _ _ _ h => h) (Or.inl ⟨by rfl, ?_⟩) ?_ ?_
   rotate_left
   ·intro w'
    go_simp
    with_reducible rfl
   rotate_left
   ·simp only [Act.put, putA, putB, putC]
    rfl
   refine pure_ (i := 2) (N := some 18) (v := ?_) (a' := ?_) #[true, true, true, false, false, false, false, false, false] rfl rfl (by kernel_rfl) (fun _ _ _ h => h) (Or.inl ⟨by rfl, ?_⟩) ?_ ?_
   rotate_left
   ·intro w'
    go_simp
    with_reducible rfl
   rotate_left
   ·simp only [Act.put, putA, putB, putC]
    rfl
   refine pure_ (i := 4) (N := some 20) (v := ?_) (a' := ?_) #[true, true, true, false, true, false, false, false, false] rfl rfl (by kernel_rfl) (fun _ _ _ h => h) (Or.inl ⟨by rfl, ?_⟩) ?_ ?_
   rotate_left
   ·intro w'
    go_simp
    with_reducible rfl
   rotate_left
   ·simp only [Act.put, putA, putB, putC]
    rfl
   refine pure_ (i := 5) (N := some 21) (v := ?_) (a' := ?_) #[true, true, true, false, true, true, false, false, false] rfl rfl (by kernel_rfl) (fun _ _ _ h => h) (Or.inl ⟨by rfl, ?_⟩) ?_ ?_
   rotate_left
   ·intro w'
    go_simp
    with_reducible rfl
   rotate_left
   ·simp only [Act.put, putA, putB, putC]
    rfl
   refine pure_ (i := 6) (N := some 22) (v := ?_) (a' := ?_) #[true, true, true, false, true, true, true, false, false] rfl rfl (by kernel_rfl) (fun _ _ _ h => h) (Or.inl ⟨by rfl, ?_⟩) ?_ ?_
   rotate_left
   ·intro w'
    go_simp
    with_reducible rfl
   rotate_left
   ·simp only [Act.put, putA, putB, putC]
    rfl
   refine two_ (i := 3) (j := 7) (Ni := some 19) (Nj := some 23) #[true, true, true, true, true, true, true, false, false] #[true, true, true, false, true, true, true, true, false] rfl rfl rfl rfl (by kernel_rfl) (by decide) (by decide) (fun K hK => ?_) (fun K hK => ?_)
   ·refine load_at_o (by rfl) rfl (ad := a1.add (j * 5)) rfl [.int .u32 e.cl, .int .u32 e.id, .string e.tp, .int .u64 e.fr, .int .u64 e.nx] (HCE.out _ H.all) (by kernel_rfl) (by kernel_rfl) ?_
    refine hK.out _ _ trivial (fun hHeld => ?_)
    clear hK K
    refine norm_ (a' := ?_) ?_ ?_
    rotate_left
    ·show Act.put _ (some 19) _ = _
     simp only [Act.put, putA, putB, putC]
     rfl
    refine one_ (i := 7) (N := some 23) #[true, true, true, true, true, true, true, true, false] rfl rfl (by kernel_rfl) (by decide) (fun K hK => ?_)
    refine load_at_o (by rfl) rfl (ad := b1.add (j * 5)) rfl [.int .u32 e.cl, .int .u32 e.id, .string e.tp, .int .u64 e.fr, .int .u64 e.nx] (HCB.out _ H.all) (by kernel_rfl) (by kernel_rfl) ?_
    refine hK.out _ _ trivial (fun hHeld => ?_)
    clear hK K
    refine norm_ (a' := ?_) ?_ ?_
    rotate_left
    ·show Act.put _ (some 23) _ = _
     simp only [Act.put, putA, putB, putC]
     rfl
    refine pure_ (i := 8) (N := some 24) (v := ?_) (a' := ?_) #[true, true, true, true, true, true, true, true, true] rfl rfl (by kernel_rfl) (fun _ _ _ h => h) (Or.inl ⟨by rfl, ?_⟩) ?_ ?_
    rotate_left
    ·intro w'
     go_simp
     with_reducible rfl
    rotate_left
    ·simp only [Act.put, putA, putB, putC]
     rfl
    refine done_ (by kernel_rfl) ?_
    clear hHeld
    go_wp2_with fail
    go_roundg k
    case measure => have := HJ.out; omega
    case rel => exact ⟨j + 1, by rw [HW.out], by have := HJ.out; omega, Aside0.mk H⟩
   ·refine load_at_o (by rfl) rfl (ad := b1.add (j * 5)) rfl [.int .u32 e.cl, .int .u32 e.id, .string e.tp, .int .u64 e.fr, .int .u64 e.nx] (HCB.out _ H.all) (by kernel_rfl) (by kernel_rfl) ?_
    refine hK.out _ _ trivial (fun hHeld => ?_)
    clear hK K
    refine norm_ (a' := ?_) ?_ ?_
    rotate_left
    ·show Act.put _ (some 23) _ = _
     simp only [Act.put, putA, putB, putC]
     rfl
    refine one_ (i := 3) (N := some 19) #[true, true, true, true, true, true, true, true, false] rfl rfl (by kernel_rfl) (by decide) (fun K hK => ?_)
    refine load_at_o (by rfl) rfl (ad := a1.add (j * 5)) rfl [.int .u32 e.cl, .int .u32 e.id, .string e.tp, .int .u64 e.fr, .int .u64 e.nx] (HCE.out _ H.all) (by kernel_rfl) (by kernel_rfl) ?_
    refine hK.out _ _ trivial (fun hHeld => ?_)
    clear hK K
    refine norm_ (a' := ?_) ?_ ?_
    rotate_left
    ·show Act.put _ (some 19) _ = _
     simp only [Act.put, putA, putB, putC]
     rfl
    refine pure_ (i := 8) (N := some 24) (v := ?_) (a' := ?_) #[true, true, true, true, true, true, true, true, true] rfl rfl (by kernel_rfl) (fun _ _ _ h => h) (Or.inl ⟨by rfl, ?_⟩) ?_ ?_
    rotate_left
    ·intro w'
     go_simp
     with_reducible rfl
    rotate_left
    ·simp only [Act.put, putA, putB, putC]
     rfl
    refine done_ (by kernel_rfl) ?_
    clear hHeld
    go_wp2_with fail
    go_roundg k
    case measure => have := HJ.out; omega
    case rel => exact ⟨j + 1, by rw [HW.out], by have := HJ.out; omega, Aside0.mk H⟩
set_option maxHeartbeats 2000000 in
set_option maxRecDepth 100000 in
theorem radd_old (w : World) (v : Value) (l : List Sb) (s : Sb) (h : SbsIn w v l) (hl : l.length ≤ 1000000) (k0 : Nat) (hf : fndI l s.cl s.id = some k0) : Calls Try.prog 8 #[v, .agg s.cells.toArray] w fun e w' => e = .returned (.tuple #[v, .bool false]) ∧ Below w.heap.size w w' := by
 obtain ⟨A, c_, rfl, hin⟩ := h
 have HIN := Lib.hid (show SbsIn w (.slice A l.length c_) l from ⟨A, c_, rfl, hin⟩)
 clear hin
 refine of_post0 fun R hRR => ?_
 have HP := Lib.hid hRR
 have H : Hold w w [] [] := Hold.nothing (Kept.refl _ _)
 obtain ⟨n, hn⟩ : ∃ n, l.length = n := ⟨_, rfl⟩
 rw [hn] at HIN ⊢
 have HN := Lib.hid (And.intro hn hl)
 clear hRR hn hl
 have HFI := Lib.hid (show idx (fndI l s.cl s.id) = (k0 : Int) by rw [hf]; rfl)
 have d1 : decide (0 ≤ (k0 : Int)) = true := decide_eq_true (by omega)
 clear hf
 go_enter Try.func8, Try.ntmps8
 go_wp2_with (first
  | ((with_reducible refine is_box rfl ?_); refine box_h H rfl rfl rfl rfl ?_; clear H; intro gs3 w_ H)
  | ((with_reducible refine is_load rfl ?_); refine loadf_h H rfl rfl rfl (by repeat (first | exact List.Mem.head _ | apply List.Mem.tail)) rfl (by kernel_rfl) ?_)
  | (go_at_call 16; refine (find_calls _ _ l s.cl s.id (HIN.out.below H.all) HN.out.2).mono ?_; rintro e_ w_ ⟨rfl, h_⟩; rw [HFI.out]; replace H := H.below h_; clear h_))
 exact HP.out _ _ ⟨by rw [HN.out.1]; rfl, H.all⟩
set_option maxHeartbeats 4000000 in
set_option maxRecDepth 100000 in
theorem radd_new (w : World) (v : Value) (l : List Sb) (s : Sb) (h : SbsIn w v l) (hl : l.length ≤ 1000000) (hf : fndI l s.cl s.id = none) : Calls Try.prog 8 #[v, .agg s.cells.toArray] w fun e w' => ∃ v', e = .returned (.tuple #[v', .bool true]) ∧ Hold w w' [] [rowS v' (ins s l)] := by
 obtain ⟨A, c_, rfl, hin⟩ := h
 have HIN := Lib.hid (show SbsIn w (.slice A l.length c_) l from ⟨A, c_, rfl, hin⟩)
 clear hin
 refine of_post0 fun R hRR => ?_
 have HP := Lib.hid hRR
 have H : Hold w w [] [] := Hold.nothing (Kept.refl _ _)
 obtain ⟨n, hn⟩ : ∃ n, l.length = n := ⟨_, rfl⟩
 rw [hn] at HIN ⊢
 have HN := Lib.hid (And.intro hn hl)
 clear hRR hn hl
 have HFI := Lib.hid (show idx (fndI l s.cl s.id) = (-1 : Int) by rw [hf]; rfl)
 clear hf
 go_enter Try.func8, Try.ntmps8
 go_wp2_with (first
  | ((with_reducible refine is_box rfl ?_); refine box_h H rfl rfl rfl rfl ?_; clear H; intro gs3 w_ H)
  | ((with_reducible refine is_load rfl ?_); refine loadf_h H rfl rfl rfl (by repeat (first | exact List.Mem.head _ | apply List.Mem.tail)) rfl (by kernel_rfl) ?_)
  | (go_at_call 16; refine (find_calls _ _ l s.cl s.id (HIN.out.below H.all) HN.out.2).mono ?_; rintro e_ w_ ⟨rfl, h_⟩; rw [HFI.out]; replace H := H.below h_; clear h_)
  | ((with_reducible refine is_lit rfl ?_); refine emptyrow_h H rfl 29 5 (by first | (go_simp; done) | (go_simp; rfl)) ?_; clear H; intro go w_ H))
 go_loopg [6, 7, 20] n (fun k vo vd vi wr => ∃ (j : Nat) (dn : Bool) (o_ : List Sb) (Ao : Option Addr) (on co : Nat), vo = .slice Ao on co ∧ vd = .bool dn ∧ vi = .int .i64 (j : Int) ∧ j + k = n ∧ Aside0 (Hold w wr [] [.row 29 5 (.slice Ao on co) on (o_.flatMap Sb.cells), cl gs3 [.int .u32 s.cl, .int .u32 s.id, .string s.tp, .int .u64 s.fr, .int .u64 s.nx] 29] ∧ o_.length = on ∧ on ≤ j + 1 ∧ (on ≤ j + (if dn = true then 1 else 0)) ∧ (dn = false → o_ = l.take j ∧ ∀ t ∈ l.take j, beforeB s t = false) ∧ (dn = true → o_ = ins s (l.take j) ∧ ∃ t ∈ l.take j, beforeB s t = true)))
 case atStart => exact ⟨0, false, [], _, 0, 0, rfl, rfl, rfl, by omega, Aside0.mk ⟨H, rfl, by omega, by omega, fun _ => ⟨rfl, fun t ht => by simp at ht⟩, fun h => by cases h⟩⟩
 case round =>
  obtain ⟨j, dn, o_, Ao, on, co, rfl, rfl, rfl, hjk, hP⟩ := hrel
  clear H
  obtain ⟨H, hon, hoj, hoj2, hd0, hd1⟩ := hP.out
  clear hP
  cases gk with
  | zero =>
   have g1 : decide ((j : Int) < (n : Int)) = false := decide_eq_false (by omega)
   have g2 : decide (j < n) = false := decide_eq_false (by omega)
   have e1 : l.take j = l := List.take_of_length_le (by have := HN.out.1; omega)
   rw [e1] at hd0 hd1
   have HON := Lib.hid (show on ≤ 1000001 ∧ o_.length = on from ⟨by have := HN.out; omega, hon⟩)
   clear hjk hon hoj hoj2 e1
   cases dn with
   | true =>
    have HDN := Lib.hid (hd1 rfl)
    clear hd0 hd1
    go_wp2_with fail
    have HON2 := HON.out.2
    rw [← HON2] at H ⊢
    refine HP.out _ _ ⟨_, rfl, ?_⟩
    rw [← HDN.out.1]
    exact H.want (Want.take (by repeat (first | exact Pull.head | apply Pull.tail)) (Want.done (s := []) (by repeat (first | exact Suf.refl | apply Suf.cons))))
   | false =>
    have HDN := Lib.hid (hd0 rfl)
    clear hd0 hd1
    go_wp2_with (first
     | ((with_reducible refine is_load (ty := 29) rfl ?_); refine load_h H rfl rfl rfl (by repeat (first | exact List.Mem.head _ | apply List.Mem.tail)) (by kernel_rfl) (by kernel_rfl) ?_)
     | ((with_reducible refine is_lit rfl ?_); refine onerow_h H rfl (e := 29) (cs := [.int .u32 s.cl, .int .u32 s.id, .string s.tp, .int .u64 s.fr, .int .u64 s.nx]) (by first | (go_simp; done) | (go_simp; rfl)) ?_; clear H; intro gl w_ H)
     | ((with_reducible refine is_call rfl ?_); refine appends_h H rfl rfl Try.underlying22 Try.infoSub rfl (by decide) rfl rfl (g := gl) (by repeat (first | exact List.Mem.head _ | apply List.Mem.tail)) rfl rfl (fun y => (by repeat (first | exact Put.head | apply Put.tail))) (by have := HON.out; omega) (by have := HON.out; omega) ?_; clear H; intro vo2 w_ H))
    refine HP.out _ _ ⟨_, rfl, ?_⟩
    rw [ins_none HDN.out.2, ← HDN.out.1]
    have H3 := H.want (l' := [.row 29 5 (vo2) (on + 1) (o_.flatMap Sb.cells ++ [.int .u32 s.cl, .int .u32 s.id, .string s.tp, .int .u64 s.fr, .int .u64 s.nx])]) (Want.take (by repeat (first | exact Pull.head | apply Pull.tail)) (Want.done (s := []) (by repeat (first | exact Suf.refl | apply Suf.cons))))
    rw [← HON.out.2] at H3
    rw [show (Own.row 29 5 vo2 (o_.length + 1) (o_.flatMap Sb.cells ++ [.int .u32 s.cl, .int .u32 s.id, .string s.tp, .int .u64 s.fr, .int .u64 s.nx])) = rowS vo2 (o_ ++ [s]) from rowS_more vo2 o_ s] at H3
    exact H3
  | succ k =>
   have hjl : j < n := by omega
   have g1 : decide ((j : Int) < (n : Int)) = true := decide_eq_true (by omega)
   have g2 : decide (j < n) = true := decide_eq_true hjl
   have g3 : (j : Int) < (n : Int) := by omega
   obtain ⟨e, he⟩ : ∃ e, l[j]? = some e := ⟨_, List.getElem?_eq_getElem (by have := HN.out.1; omega)⟩
   obtain ⟨a1, rfl, _⟩ := SbsIn.at_ (v := .int .u8 0) HIN.out (Below.refl _ _) he
   have HCE := Lib.hid (fun (W : World) (hb : Below w.heap.size w W) => (show ∀ (i : Nat) (u : Value), e.cells[i]? = some u → W.cell? ((a1.add (j * 5)).add i) = some u by
    obtain ⟨a2, ha, hc⟩ := SbsIn.at_ (v := .int .u8 0) HIN.out hb he
    obtain rfl := Option.some.inj ha
    exact hc))
   have HW := Lib.hid (show wrap64 ((j : Int) + 1) = ((j + 1 : Nat) : Int) by rw [wrap_okS (by omega) (by have := HN.out; omega)]; omega)
   have HJ := Lib.hid hjk
   have HE := Lib.hid he
   have HNL := Lib.hid hoj2
   have HON := Lib.hid (show on ≤ 1000001 ∧ o_.length = on ∧ on ≤ j + 1 from ⟨by have := HN.out; omega, hon, hoj⟩)
   clear hjk he hon hoj hoj2
   cases dn with
   | true =>
    have HDN := Lib.hid (hd1 rfl)
    clear hd0 hd1
    go_upto_region 8 with fail
    replace H := H.below (below_drew (Below.refl _ _))
    refine start_ (n := 10) (S := fun w' => True) (ds := []) #[false, false, false, false, false, false, false, false, false, false] (by kernel_rfl) rfl rfl trivial (fun hHeld => ?_)
    generalize World.drew _ = wy at H hHeld ⊢
    refine pure_ (i := 0) (N := some 23) (v := ?_) (a' := ?_) #[true, false, false, false, false, false, false, false, false, false] rfl rfl (by kernel_rfl) (fun _ _ _ h => h) (Or.inl ⟨by rfl, ?_⟩) ?_ ?_
    rotate_left
    ·intro w'
     go_simp
     with_reducible rfl
    rotate_left
    ·simp only [Act.put, putA, putB, putC]
     rfl
    refine pure_ (i := 1) (N := some 24) (v := ?_) (a' := ?_) #[true, true, false, false, false, false, false, false, false, false] rfl rfl (by kernel_rfl) (fun _ _ _ h => h) (Or.inl ⟨by rfl, ?_⟩) ?_ ?_
    rotate_left
    ·intro w'
     go_simp
     with_reducible rfl
    rotate_left
    ·simp only [Act.put, putA, putB, putC]
     rfl
    refine pure_ (i := 2) (N := some 25) (v := ?_) (a' := ?_) #[true, true, true, false, false, false, false, false, false, false] rfl rfl (by kernel_rfl) (fun _ _ _ h => h) (Or.inl ⟨by rfl, ?_⟩) ?_ ?_
    rotate_left
    ·intro w'
     go_simp
     with_reducible rfl
    rotate_left
    ·simp only [Act.put, putA, putB, putC]
     rfl
    refine pure_ (i := 3) (N := some 26) (v := undef) (a' := ?_) #[true, true, true, true, false, false, false, false, false, false] rfl rfl (by kernel_rfl) (fun _ _ _ h => h) (Or.inr ⟨by rfl, rfl⟩) ?_ ?_
    rotate_left
    ·simp only [Act.put, putA, putB, putC]
     rfl
    refine pure_ (i := 4) (N := some 27) (v := undef) (a' := ?_) #[true, true, true, true, true, false, false, false, false, false] rfl rfl (by kernel_rfl) (fun _ _ _ h => h) (Or.inr ⟨by rfl, rfl⟩) ?_ ?_
    rotate_left
    ·simp only [Act.put, putA, putB, putC]
     rfl
    refine pure_ (i := 5) (N := some 28) (v := undef) (a' := ?_) #[true, true, true, true, true, true, false, false, false, false] rfl rfl (by kernel_rfl) (fun _ _ _ h => h) (Or.inr ⟨by rfl, rfl⟩) ?_ ?_
    rotate_left
    ·simp only [Act.put, putA, putB, putC]
     rfl
    refine pure_ (i := 6) (N := some 29) (v := undef) (a' := ?_) #[true, true, true, true, true, true, true, false, false, false] rfl rfl (by kernel_rfl) (fun _ _ _ h => h) (Or.inr ⟨by rfl, rfl⟩) ?_ ?_
    rotate_left
    ·simp only [Act.put, putA, putB, putC]
     rfl
    refine pure_ (i := 7) (N := some 30) (v := undef) (a' := ?_) #[true, true, true, true, true, true, true, true, false, false] rfl rfl (by kernel_rfl) (fun _ _ _ h => h) (Or.inr ⟨by rfl, rfl⟩) ?_ ?_
    rotate_left
    ·simp only [Act.put, putA, putB, putC]
     rfl
    refine pure_ (i := 8) (N := some 31) (v := undef) (a' := ?_) #[true, true, true, true, true, true, true, true, true, false] rfl rfl (by kernel_rfl) (fun _ _ _ h => h) (Or.inr ⟨by rfl, rfl⟩) ?_ ?_
    rotate_left
    ·simp only [Act.put, putA, putB, putC]
     rfl
    refine pure_ (i := 9) (N := some 32) (v := ?_) (a' := ?_) #[true, true, true, true, true, true, true, true, true, true] rfl rfl (by kernel_rfl) (fun _ _ _ h => h) (Or.inl ⟨by rfl, ?_⟩) ?_ ?_
    rotate_left
    ·intro w'
     go_simp
     with_reducible rfl
    rotate_left
    ·simp only [Act.put, putA, putB, putC]
     rfl
    refine done_ (by kernel_rfl) ?_
    clear hHeld
    go_wp2_with (first
     | ((with_reducible refine is_load (ty := 29) rfl ?_); refine list_load_at rfl rfl (ad := a1.add (j * 5)) rfl [.int .u32 e.cl, .int .u32 e.id, .string e.tp, .int .u64 e.fr, .int .u64 e.nx] (HCE.out _ H.all) (by kernel_rfl) (by kernel_rfl) ?_)
     | ((with_reducible refine is_lit rfl ?_); refine onerow_h H rfl (e := 29) (cs := [.int .u32 e.cl, .int .u32 e.id, .string e.tp, .int .u64 e.fr, .int .u64 e.nx]) (by first | (go_simp; done) | (go_simp; rfl)) ?_; clear H; intro gl w_ H)
     | ((with_reducible refine is_call rfl ?_); refine appends_h H rfl rfl Try.underlying22 Try.infoSub rfl (by decide) rfl rfl (g := gl) (by repeat (first | exact List.Mem.head _ | apply List.Mem.tail)) rfl rfl (fun y => (by repeat (first | exact Put.head | apply Put.tail))) (by have := HON.out; omega) (by have := HON.out; omega) ?_; clear H; intro vo2 w_ H))
    obtain ⟨Ao2, co2, e9⟩ := own_slice (H.ok (.row 29 5 (vo2) (on + 1) (o_.flatMap Sb.cells ++ [.int .u32 e.cl, .int .u32 e.id, .string e.tp, .int .u64 e.fr, .int .u64 e.nx])) (by repeat (first | exact List.Mem.head _ | apply List.Mem.tail)))
    subst e9
    go_roundg k
    case measure => have := HJ.out; omega
    case rel =>
     refine ⟨j + 1, true, o_ ++ [e], Ao2, on + 1, co2, rfl, rfl, by rw [HW.out], by have := HJ.out; omega, Aside0.mk ⟨?_, ?_, by have h1_ := HON.out.2.2; have hz := HNL.out; simp at hz; omega, by have h1_ := HON.out.2.2; have hz := HNL.out; simp at hz ⊢; omega, ?_, ?_⟩⟩
     ·rw [show (o_ ++ [e]).flatMap Sb.cells = o_.flatMap Sb.cells ++ [.int .u32 e.cl, .int .u32 e.id, .string e.tp, .int .u64 e.fr, .int .u64 e.nx] by simp [List.flatMap_append]]
      exact H.want (l' := [.row 29 5 (.slice Ao2 (on + 1) co2) (on + 1) (o_.flatMap Sb.cells ++ [.int .u32 e.cl, .int .u32 e.id, .string e.tp, .int .u64 e.fr, .int .u64 e.nx]), cl gs3 [.int .u32 s.cl, .int .u32 s.id, .string s.tp, .int .u64 s.fr, .int .u64 s.nx] 29]) (Want.take (by repeat (first | exact Pull.head | apply Pull.tail)) (Want.take (by repeat (first | exact Pull.head | apply Pull.tail)) (Want.done (s := []) (by repeat (first | exact Suf.refl | apply Suf.cons)))))
     ·simp [HON.out.2.1]
     ·intro h; cases h
     ·intro _; exact ⟨by rw [idx_take HE.out, ins_app_done _ HDN.out.2, ← HDN.out.1], by obtain ⟨t, ht, h2⟩ := HDN.out.2; exact ⟨t, by rw [idx_take HE.out]; exact List.mem_append_left _ ht, h2⟩⟩
   | false =>
    have HDN := Lib.hid (hd0 rfl)
    clear hd0 hd1
    cases hb : beforeB s e with
    | true =>
     have HBE := Lib.hid hb
     clear hb
     go_upto_region 8 with fail
     replace H := H.below (below_drew (Below.refl _ _))
     refine start_ (n := 10) (S := fun w' => True) (ds := []) #[false, false, false, false, false, false, false, false, false, false] (by kernel_rfl) rfl rfl trivial (fun hHeld => ?_)
     generalize World.drew _ = wy at H hHeld ⊢
     refine pure_ (i := 0) (N := some 23) (v := ?_) (a' := ?_) #[true, false, false, false, false, false, false, false, false, false] rfl rfl (by kernel_rfl) (fun _ _ _ h => h) (Or.inl ⟨by rfl, ?_⟩) ?_ ?_
     rotate_left
     ·intro w'
      go_simp
      with_reducible rfl
     rotate_left
     ·simp only [Act.put, putA, putB, putC]
      rfl
     refine pure_ (i := 1) (N := some 24) (v := ?_) (a' := ?_) #[true, true, false, false, false, false, false, false, false, false] rfl rfl (by kernel_rfl) (fun _ _ _ h => h) (Or.inl ⟨by rfl, ?_⟩) ?_ ?_
     rotate_left
     ·intro w'
      go_simp
      with_reducible rfl
     rotate_left
     ·simp only [Act.put, putA, putB, putC]
      rfl
     refine pure_ (i := 2) (N := some 25) (v := ?_) (a' := ?_) #[true, true, true, false, false, false, false, false, false, false] rfl rfl (by kernel_rfl) (fun _ _ _ h => h) (Or.inl ⟨by rfl, ?_⟩) ?_ ?_
     rotate_left
     ·intro w'
      go_simp
      with_reducible rfl
     rotate_left
     ·simp only [Act.put, putA, putB, putC]
      rfl
     refine pure_ (i := 4) (N := some 27) (v := ?_) (a' := ?_) #[true, true, true, false, true, false, false, false, false, false] rfl rfl (by kernel_rfl) (fun _ _ _ h => h) (Or.inl ⟨by rfl, ?_⟩) ?_ ?_
     rotate_left
     ·intro w'
      go_simp
      with_reducible rfl
     rotate_left
     ·simp only [Act.put, putA, putB, putC]
      rfl
     refine pure_ (i := 5) (N := some 28) (v := ?_) (a' := ?_) #[true, true, true, false, true, true, false, false, false, false] rfl rfl (by kernel_rfl) (fun _ _ _ h => h) (Or.inl ⟨by rfl, ?_⟩) ?_ ?_
     rotate_left
     ·intro w'
      go_simp
      with_reducible rfl
     rotate_left
     ·simp only [Act.put, putA, putB, putC]
      rfl
     refine pure_ (i := 6) (N := some 29) (v := ?_) (a' := ?_) #[true, true, true, false, true, true, true, false, false, false] rfl rfl (by kernel_rfl) (fun _ _ _ h => h) (Or.inl ⟨by rfl, ?_⟩) ?_ ?_
     rotate_left
     ·intro w'
      go_simp
      with_reducible rfl
     rotate_left
     ·simp only [Act.put, putA, putB, putC]
      rfl
     refine two_ (i := 3) (j := 7) (Ni := some 26) (Nj := some 30) #[true, true, true, true, true, true, true, false, false, false] #[true, true, true, false, true, true, true, true, false, false] rfl rfl rfl rfl (by kernel_rfl) (by decide) (by decide) (fun K hK => ?_) (fun K hK => ?_)
     ·refine load_o H (by rfl) rfl rfl (cs := [.int .u32 s.cl, .int .u32 s.id, .string s.tp, .int .u64 s.fr, .int .u64 s.nx]) (by repeat (first | exact List.Mem.head _ | apply List.Mem.tail)) (by kernel_rfl) (by kernel_rfl) ?_
      refine hK.out _ _ trivial (fun hHeld => ?_)
      clear hK K
      refine norm_ (a' := ?_) ?_ ?_
      rotate_left
      ·show Act.put _ (some 26) _ = _
       simp only [Act.put, putA, putB, putC]
       rfl
      refine one_ (i := 7) (N := some 30) #[true, true, true, true, true, true, true, true, false, false] rfl rfl (by kernel_rfl) (by decide) (fun K hK => ?_)
      refine load_at_o (by rfl) rfl (ad := a1.add (j * 5)) rfl [.int .u32 e.cl, .int .u32 e.id, .string e.tp, .int .u64 e.fr, .int .u64 e.nx] (HCE.out _ H.all) (by kernel_rfl) (by kernel_rfl) ?_
      refine hK.out _ _ trivial (fun hHeld => ?_)
      clear hK K
      refine norm_ (a' := ?_) ?_ ?_
      rotate_left
      ·show Act.put _ (some 30) _ = _
       simp only [Act.put, putA, putB, putC]
       rfl
      refine one_ (i := 8) (N := some 31) #[true, true, true, true, true, true, true, true, true, false] rfl rfl (by kernel_rfl) (by decide) (fun K hK => ?_)
      refine goes_ Try.func23 (by kernel_rfl) rfl #[.agg ([.int .u32 s.cl, .int .u32 s.id, .string s.tp, .int .u64 s.fr, .int .u64 s.nx]).toArray, .agg ([.int .u32 e.cl, .int .u32 e.id, .string e.tp, .int .u64 e.fr, .int .u64 e.nx]).toArray] (by rfl) rfl rfl (by (try simp only [List.map_toArray, List.map_cons, List.map_nil]); first | done | rfl) ?_
      refine (before_calls _ s e).mono ?_
      rintro e_ w9 ⟨rfl, h_⟩
      rw [HBE.out]
      replace H := H.below h_
      clear h_
      refine ⟨_, rfl, ?_⟩
      refine hK.out _ _ trivial (fun hHeld => ?_)
      clear hK K
      refine norm_ (a' := ?_) ?_ ?_
      rotate_left
      ·show Act.put _ (some 31) _ = _
       simp only [Act.put, putA, putB, putC]
       rfl
      refine pure_ (i := 9) (N := some 32) (v := ?_) (a' := ?_) #[true, true, true, true, true, true, true, true, true, true] rfl rfl (by kernel_rfl) (fun _ _ _ h => h) (Or.inl ⟨by rfl, ?_⟩) ?_ ?_
      rotate_left
      ·intro w'
       go_simp
       with_reducible rfl
      rotate_left
      ·simp only [Act.put, putA, putB, putC]
       rfl
      refine done_ (by kernel_rfl) ?_
      clear hHeld
      go_upto_region 10 with (first
       | ((with_reducible refine is_load (ty := 29) rfl ?_); refine load_h H rfl rfl rfl (by repeat (first | exact List.Mem.head _ | apply List.Mem.tail)) (by kernel_rfl) (by kernel_rfl) ?_)
       | ((with_reducible refine is_lit rfl ?_); refine onerow_h H rfl (e := 29) (cs := [.int .u32 s.cl, .int .u32 s.id, .string s.tp, .int .u64 s.fr, .int .u64 s.nx]) (by first | (go_simp; done) | (go_simp; rfl)) ?_; clear H; intro gl w_ H)
       | ((with_reducible refine is_call rfl ?_); refine appends_h H rfl rfl Try.underlying22 Try.infoSub rfl (by decide) rfl rfl (g := gl) (by repeat (first | exact List.Mem.head _ | apply List.Mem.tail)) rfl rfl (fun y => (by repeat (first | exact Put.head | apply Put.tail))) (by have := HON.out; omega) (by have := HON.out; omega) ?_; clear H; intro vo2 w_ H))
      go_wp2_with (first
       | ((with_reducible refine is_load (ty := 29) rfl ?_); refine list_load_at rfl rfl (ad := a1.add (j * 5)) rfl [.int .u32 e.cl, .int .u32 e.id, .string e.tp, .int .u64 e.fr, .int .u64 e.nx] (HCE.out _ H.all) (by kernel_rfl) (by kernel_rfl) ?_)
       | ((with_reducible refine is_lit rfl ?_); refine onerow_h H rfl (e := 29) (cs := [.int .u32 e.cl, .int .u32 e.id, .string e.tp, .int .u64 e.fr, .int .u64 e.nx]) (by first | (go_simp; done) | (go_simp; rfl)) ?_; clear H; intro gl w_ H)
       | ((with_reducible refine is_call rfl ?_); refine appends_h H rfl rfl Try.underlying22 Try.infoSub rfl (by decide) rfl rfl (g := gl) (by repeat (first | exact List.Mem.head _ | apply List.Mem.tail)) rfl rfl (fun y => (by repeat (first | exact Put.head | apply Put.tail))) (by have := HON.out; omega) (by have := HON.out; omega) ?_; clear H; intro vo3 w_ H))
      obtain ⟨Ao2, co2, e9⟩ := own_slice (H.ok (.row 29 5 (vo3) (on + 1 + 1) (o_.flatMap Sb.cells ++ [.int .u32 s.cl, .int .u32 s.id, .string s.tp, .int .u64 s.fr, .int .u64 s.nx] ++ [.int .u32 e.cl, .int .u32 e.id, .string e.tp, .int .u64 e.fr, .int .u64 e.nx])) (by repeat (first | exact List.Mem.head _ | apply List.Mem.tail)))
      subst e9
      go_roundg k
      case measure => have := HJ.out; omega
      case rel =>
       refine ⟨j + 1, true, o_ ++ [s] ++ [e], Ao2, on + 1 + 1, co2, rfl, rfl, by rw [HW.out], by have := HJ.out; omega, Aside0.mk ⟨?_, ?_, by have h1_ := HON.out.2.2; have hz := HNL.out; simp at hz; omega, by have h1_ := HON.out.2.2; have hz := HNL.out; simp at hz ⊢; omega, ?_, ?_⟩⟩
       ·rw [show (o_ ++ [s] ++ [e]).flatMap Sb.cells = o_.flatMap Sb.cells ++ [.int .u32 s.cl, .int .u32 s.id, .string s.tp, .int .u64 s.fr, .int .u64 s.nx] ++ [.int .u32 e.cl, .int .u32 e.id, .string e.tp, .int .u64 e.fr, .int .u64 e.nx] by simp [List.flatMap_append]]
        exact H.want (l' := [.row 29 5 (.slice Ao2 (on + 1 + 1) co2) (on + 1 + 1) (o_.flatMap Sb.cells ++ [.int .u32 s.cl, .int .u32 s.id, .string s.tp, .int .u64 s.fr, .int .u64 s.nx] ++ [.int .u32 e.cl, .int .u32 e.id, .string e.tp, .int .u64 e.fr, .int .u64 e.nx]), cl gs3 [.int .u32 s.cl, .int .u32 s.id, .string s.tp, .int .u64 s.fr, .int .u64 s.nx] 29]) (Want.take (by repeat (first | exact Pull.head | apply Pull.tail)) (Want.take (by repeat (first | exact Pull.head | apply Pull.tail)) (Want.done (s := []) (by repeat (first | exact Suf.refl | apply Suf.cons)))))
       ·simp [HON.out.2.1]
       ·intro h; cases h
       ·intro _; exact ⟨by rw [idx_take HE.out, ins_app_none _ HDN.out.2, ← HDN.out.1]; simp [ins, HBE.out], ⟨e, by rw [idx_take HE.out]; simp, HBE.out⟩⟩
     ·refine load_at_o (by rfl) rfl (ad := a1.add (j * 5)) rfl [.int .u32 e.cl, .int .u32 e.id, .string e.tp, .int .u64 e.fr, .int .u64 e.nx] (HCE.out _ H.all) (by kernel_rfl) (by kernel_rfl) ?_
      refine hK.out _ _ trivial (fun hHeld => ?_)
      clear hK K
      refine norm_ (a' := ?_) ?_ ?_
      rotate_left
      ·show Act.put _ (some 30) _ = _
       simp only [Act.put, putA, putB, putC]
       rfl
      refine one_ (i := 3) (N := some 26) #[true, true, true, true, true, true, true, true, false, false] rfl rfl (by kernel_rfl) (by decide) (fun K hK => ?_)
      refine load_o H (by rfl) rfl rfl (cs := [.int .u32 s.cl, .int .u32 s.id, .string s.tp, .int .u64 s.fr, .int .u64 s.nx]) (by repeat (first | exact List.Mem.head _ | apply List.Mem.tail)) (by kernel_rfl) (by kernel_rfl) ?_
      refine hK.out _ _ trivial (fun hHeld => ?_)
      clear hK K
      refine norm_ (a' := ?_) ?_ ?_
      rotate_left
      ·show Act.put _ (some 26) _ = _
       simp only [Act.put, putA, putB, putC]
       rfl
      refine one_ (i := 8) (N := some 31) #[true, true, true, true, true, true, true, true, true, false] rfl rfl (by kernel_rfl) (by decide) (fun K hK => ?_)
      refine goes_ Try.func23 (by kernel_rfl) rfl #[.agg ([.int .u32 s.cl, .int .u32 s.id, .string s.tp, .int .u64 s.fr, .int .u64 s.nx]).toArray, .agg ([.int .u32 e.cl, .int .u32 e.id, .string e.tp, .int .u64 e.fr, .int .u64 e.nx]).toArray] (by rfl) rfl rfl (by (try simp only [List.map_toArray, List.map_cons, List.map_nil]); first | done | rfl) ?_
      refine (before_calls _ s e).mono ?_
      rintro e_ w9 ⟨rfl, h_⟩
      rw [HBE.out]
      replace H := H.below h_
      clear h_
      refine ⟨_, rfl, ?_⟩
      refine hK.out _ _ trivial (fun hHeld => ?_)
      clear hK K
      refine norm_ (a' := ?_) ?_ ?_
      rotate_left
      ·show Act.put _ (some 31) _ = _
       simp only [Act.put, putA, putB, putC]
       rfl
      refine pure_ (i := 9) (N := some 32) (v := ?_) (a' := ?_) #[true, true, true, true, true, true, true, true, true, true] rfl rfl (by kernel_rfl) (fun _ _ _ h => h) (Or.inl ⟨by rfl, ?_⟩) ?_ ?_
      rotate_left
      ·intro w'
       go_simp
       with_reducible rfl
      rotate_left
      ·simp only [Act.put, putA, putB, putC]
       rfl
      refine done_ (by kernel_rfl) ?_
      clear hHeld
      go_upto_region 10 with (first
       | ((with_reducible refine is_load (ty := 29) rfl ?_); refine load_h H rfl rfl rfl (by repeat (first | exact List.Mem.head _ | apply List.Mem.tail)) (by kernel_rfl) (by kernel_rfl) ?_)
       | ((with_reducible refine is_lit rfl ?_); refine onerow_h H rfl (e := 29) (cs := [.int .u32 s.cl, .int .u32 s.id, .string s.tp, .int .u64 s.fr, .int .u64 s.nx]) (by first | (go_simp; done) | (go_simp; rfl)) ?_; clear H; intro gl w_ H)
       | ((with_reducible refine is_call rfl ?_); refine appends_h H rfl rfl Try.underlying22 Try.infoSub rfl (by decide) rfl rfl (g := gl) (by repeat (first | exact List.Mem.head _ | apply List.Mem.tail)) rfl rfl (fun y => (by repeat (first | exact Put.head | apply Put.tail))) (by have := HON.out; omega) (by have := HON.out; omega) ?_; clear H; intro vo2 w_ H))
      go_wp2_with (first
       | ((with_reducible refine is_load (ty := 29) rfl ?_); refine list_load_at rfl rfl (ad := a1.add (j * 5)) rfl [.int .u32 e.cl, .int .u32 e.id, .string e.tp, .int .u64 e.fr, .int .u64 e.nx] (HCE.out _ H.all) (by kernel_rfl) (by kernel_rfl) ?_)
       | ((with_reducible refine is_lit rfl ?_); refine onerow_h H rfl (e := 29) (cs := [.int .u32 e.cl, .int .u32 e.id, .string e.tp, .int .u64 e.fr, .int .u64 e.nx]) (by first | (go_simp; done) | (go_simp; rfl)) ?_; clear H; intro gl w_ H)
       | ((with_reducible refine is_call rfl ?_); refine appends_h H rfl rfl Try.underlying22 Try.infoSub rfl (by decide) rfl rfl (g := gl) (by repeat (first | exact List.Mem.head _ | apply List.Mem.tail)) rfl rfl (fun y => (by repeat (first | exact Put.head | apply Put.tail))) (by have := HON.out; omega) (by have := HON.out; omega) ?_; clear H; intro vo3 w_ H))
      obtain ⟨Ao2, co2, e9⟩ := own_slice (H.ok (.row 29 5 (vo3) (on + 1 + 1) (o_.flatMap Sb.cells ++ [.int .u32 s.cl, .int .u32 s.id, .string s.tp, .int .u64 s.fr, .int .u64 s.nx] ++ [.int .u32 e.cl, .int .u32 e.id, .string e.tp, .int .u64 e.fr, .int .u64 e.nx])) (by repeat (first | exact List.Mem.head _ | apply List.Mem.tail)))
      subst e9
      go_roundg k
      case measure => have := HJ.out; omega
      case rel =>
       refine ⟨j + 1, true, o_ ++ [s] ++ [e], Ao2, on + 1 + 1, co2, rfl, rfl, by rw [HW.out], by have := HJ.out; omega, Aside0.mk ⟨?_, ?_, by have h1_ := HON.out.2.2; have hz := HNL.out; simp at hz; omega, by have h1_ := HON.out.2.2; have hz := HNL.out; simp at hz ⊢; omega, ?_, ?_⟩⟩
       ·rw [show (o_ ++ [s] ++ [e]).flatMap Sb.cells = o_.flatMap Sb.cells ++ [.int .u32 s.cl, .int .u32 s.id, .string s.tp, .int .u64 s.fr, .int .u64 s.nx] ++ [.int .u32 e.cl, .int .u32 e.id, .string e.tp, .int .u64 e.fr, .int .u64 e.nx] by simp [List.flatMap_append]]
        exact H.want (l' := [.row 29 5 (.slice Ao2 (on + 1 + 1) co2) (on + 1 + 1) (o_.flatMap Sb.cells ++ [.int .u32 s.cl, .int .u32 s.id, .string s.tp, .int .u64 s.fr, .int .u64 s.nx] ++ [.int .u32 e.cl, .int .u32 e.id, .string e.tp, .int .u64 e.fr, .int .u64 e.nx]), cl gs3 [.int .u32 s.cl, .int .u32 s.id, .string s.tp, .int .u64 s.fr, .int .u64 s.nx] 29]) (Want.take (by repeat (first | exact Pull.head | apply Pull.tail)) (Want.take (by repeat (first | exact Pull.head | apply Pull.tail)) (Want.done (s := []) (by repeat (first | exact Suf.refl | apply Suf.cons)))))
       ·simp [HON.out.2.1]
       ·intro h; cases h
       ·intro _; exact ⟨by rw [idx_take HE.out, ins_app_none _ HDN.out.2, ← HDN.out.1]; simp [ins, HBE.out], ⟨e, by rw [idx_take HE.out]; simp, HBE.out⟩⟩
    | false =>
     have HBE := Lib.hid hb
     clear hb
     go_upto_region 8 with fail
     replace H := H.below (below_drew (Below.refl _ _))
     refine start_ (n := 10) (S := fun w' => True) (ds := []) #[false, false, false, false, false, false, false, false, false, false] (by kernel_rfl) rfl rfl trivial (fun hHeld => ?_)
     generalize World.drew _ = wy at H hHeld ⊢
     refine pure_ (i := 0) (N := some 23) (v := ?_) (a' := ?_) #[true, false, false, false, false, false, false, false, false, false] rfl rfl (by kernel_rfl) (fun _ _ _ h => h) (Or.inl ⟨by rfl, ?_⟩) ?_ ?_
     rotate_left
     ·intro w'
      go_simp
      with_reducible rfl
     rotate_left
     ·simp only [Act.put, putA, putB, putC]
      rfl
     refine pure_ (i := 1) (N := some 24) (v := ?_) (a' := ?_) #[true, true, false, false, false, false, false, false, false, false] rfl rfl (by kernel_rfl) (fun _ _ _ h => h) (Or.inl ⟨by rfl, ?_⟩) ?_ ?_
     rotate_left
     ·intro w'
      go_simp
      with_reducible rfl
     rotate_left
     ·simp only [Act.put, putA, putB, putC]
      rfl
     refine pure_ (i := 2) (N := some 25) (v := ?_) (a' := ?_) #[true, true, true, false, false, false, false, false, false, false] rfl rfl (by kernel_rfl) (fun _ _ _ h => h) (Or.inl ⟨by rfl, ?_⟩) ?_ ?_
     rotate_left
     ·intro w'
      go_simp
      with_reducible rfl
     rotate_left
     ·simp only [Act.put, putA, putB, putC]
      rfl
     refine pure_ (i := 4) (N := some 27) (v := ?_) (a' := ?_) #[true, true, true, false, true, false, false, false, false, false] rfl rfl (by kernel_rfl) (fun _ _ _ h => h) (Or.inl ⟨by rfl, ?_⟩) ?_ ?_
     rotate_left
     ·intro w'
      go_simp
      with_reducible rfl
     rotate_left
     ·simp only [Act.put, putA, putB, putC]
      rfl
     refine pure_ (i := 5) (N := some 28) (v := ?_) (a' := ?_) #[true, true, true, false, true, true, false, false, false, false] rfl rfl (by kernel_rfl) (fun _ _ _ h => h) (Or.inl ⟨by rfl, ?_⟩) ?_ ?_
     rotate_left
     ·intro w'
      go_simp
      with_reducible rfl
     rotate_left
     ·simp only [Act.put, putA, putB, putC]
      rfl
     refine pure_ (i := 6) (N := some 29) (v := ?_) (a' := ?_) #[true, true, true, false, true, true, true, false, false, false] rfl rfl (by kernel_rfl) (fun _ _ _ h => h) (Or.inl ⟨by rfl, ?_⟩) ?_ ?_
     rotate_left
     ·intro w'
      go_simp
      with_reducible rfl
     rotate_left
     ·simp only [Act.put, putA, putB, putC]
      rfl
     refine two_ (i := 3) (j := 7) (Ni := some 26) (Nj := some 30) #[true, true, true, true, true, true, true, false, false, false] #[true, true, true, false, true, true, true, true, false, false] rfl rfl rfl rfl (by kernel_rfl) (by decide) (by decide) (fun K hK => ?_) (fun K hK => ?_)
     ·refine load_o H (by rfl) rfl rfl (cs := [.int .u32 s.cl, .int .u32 s.id, .string s.tp, .int .u64 s.fr, .int .u64 s.nx]) (by repeat (first | exact List.Mem.head _ | apply List.Mem.tail)) (by kernel_rfl) (by kernel_rfl) ?_
      refine hK.out _ _ trivial (fun hHeld => ?_)
      clear hK K
      refine norm_ (a' := ?_) ?_ ?_
      rotate_left
      ·show Act.put _ (some 26) _ = _
       simp only [Act.put, putA, putB, putC]
       rfl
      refine one_ (i := 7) (N := some 30) #[true, true, true, true, true, true, true, true, false, false] rfl rfl (by kernel_rfl) (by decide) (fun K hK => ?_)
      refine load_at_o (by rfl) rfl (ad := a1.add (j * 5)) rfl [.int .u32 e.cl, .int .u32 e.id, .string e.tp, .int .u64 e.fr, .int .u64 e.nx] (HCE.out _ H.all) (by kernel_rfl) (by kernel_rfl) ?_
      refine hK.out _ _ trivial (fun hHeld => ?_)
      clear hK K
      refine norm_ (a' := ?_) ?_ ?_
      rotate_left
      ·show Act.put _ (some 30) _ = _
       simp only [Act.put, putA, putB, putC]
       rfl
      refine one_ (i := 8) (N := some 31) #[true, true, true, true, true, true, true, true, true, false] rfl rfl (by kernel_rfl) (by decide) (fun K hK => ?_)
      refine goes_ Try.func23 (by kernel_rfl) rfl #[.agg ([.int .u32 s.cl, .int .u32 s.id, .string s.tp, .int .u64 s.fr, .int .u64 s.nx]).toArray, .agg ([.int .u32 e.cl, .int .u32 e.id, .string e.tp, .int .u64 e.fr, .int .u64 e.nx]).toArray] (by rfl) rfl rfl (by (try simp only [List.map_toArray, List.map_cons, List.map_nil]); first | done | rfl) ?_
      refine (before_calls _ s e).mono ?_
      rintro e_ w9 ⟨rfl, h_⟩
      rw [HBE.out]
      replace H := H.below h_
      clear h_
      refine ⟨_, rfl, ?_⟩
      refine hK.out _ _ trivial (fun hHeld => ?_)
      clear hK K
      refine norm_ (a' := ?_) ?_ ?_
      rotate_left
      ·show Act.put _ (some 31) _ = _
       simp only [Act.put, putA, putB, putC]
       rfl
      refine pure_ (i := 9) (N := some 32) (v := ?_) (a' := ?_) #[true, true, true, true, true, true, true, true, true, true] rfl rfl (by kernel_rfl) (fun _ _ _ h => h) (Or.inl ⟨by rfl, ?_⟩) ?_ ?_
      rotate_left
      ·intro w'
       go_simp
       with_reducible rfl
      rotate_left
      ·simp only [Act.put, putA, putB, putC]
       rfl
      refine done_ (by kernel_rfl) ?_
      clear hHeld
      go_wp2_with (first
       | ((with_reducible refine is_load (ty := 29) rfl ?_); refine list_load_at rfl rfl (ad := a1.add (j * 5)) rfl [.int .u32 e.cl, .int .u32 e.id, .string e.tp, .int .u64 e.fr, .int .u64 e.nx] (HCE.out _ H.all) (by kernel_rfl) (by kernel_rfl) ?_)
       | ((with_reducible refine is_lit rfl ?_); refine onerow_h H rfl (e := 29) (cs := [.int .u32 e.cl, .int .u32 e.id, .string e.tp, .int .u64 e.fr, .int .u64 e.nx]) (by first | (go_simp; done) | (go_simp; rfl)) ?_; clear H; intro gl w_ H)
       | ((with_reducible refine is_call rfl ?_); refine appends_h H rfl rfl Try.underlying22 Try.infoSub rfl (by decide) rfl rfl (g := gl) (by repeat (first | exact List.Mem.head _ | apply List.Mem.tail)) rfl rfl (fun y => (by repeat (first | exact Put.head | apply Put.tail))) (by have := HON.out; omega) (by have := HON.out; omega) ?_; clear H; intro vo2 w_ H))
      obtain ⟨Ao2, co2, e9⟩ := own_slice (H.ok (.row 29 5 (vo2) (on + 1) (o_.flatMap Sb.cells ++ [.int .u32 e.cl, .int .u32 e.id, .string e.tp, .int .u64 e.fr, .int .u64 e.nx])) (by repeat (first | exact List.Mem.head _ | apply List.Mem.tail)))
      subst e9
      go_roundg k
      case measure => have := HJ.out; omega
      case rel =>
       refine ⟨j + 1, false, o_ ++ [e], Ao2, on + 1, co2, rfl, rfl, by rw [HW.out], by have := HJ.out; omega, Aside0.mk ⟨?_, ?_, by have h1_ := HON.out.2.2; have hz := HNL.out; simp at hz; omega, by have h1_ := HON.out.2.2; have hz := HNL.out; simp at hz ⊢; omega, ?_, ?_⟩⟩
       ·rw [show (o_ ++ [e]).flatMap Sb.cells = o_.flatMap Sb.cells ++ [.int .u32 e.cl, .int .u32 e.id, .string e.tp, .int .u64 e.fr, .int .u64 e.nx] by simp [List.flatMap_append]]
        exact H.want (l' := [.row 29 5 (.slice Ao2 (on + 1) co2) (on + 1) (o_.flatMap Sb.cells ++ [.int .u32 e.cl, .int .u32 e.id, .string e.tp, .int .u64 e.fr, .int .u64 e.nx]), cl gs3 [.int .u32 s.cl, .int .u32 s.id, .string s.tp, .int .u64 s.fr, .int .u64 s.nx] 29]) (Want.take (by repeat (first | exact Pull.head | apply Pull.tail)) (Want.take (by repeat (first | exact Pull.head | apply Pull.tail)) (Want.done (s := []) (by repeat (first | exact Suf.refl | apply Suf.cons)))))
       ·simp [HON.out.2.1]
       ·intro _; exact ⟨by rw [idx_take HE.out, HDN.out.1], fun t ht => by rw [idx_take HE.out] at ht; rcases List.mem_append.1 ht with h | h; exact HDN.out.2 t h; rw [List.mem_singleton.1 h]; exact HBE.out⟩
       ·intro h; cases h
     ·refine load_at_o (by rfl) rfl (ad := a1.add (j * 5)) rfl [.int .u32 e.cl, .int .u32 e.id, .string e.tp, .int .u64 e.fr, .int .u64 e.nx] (HCE.out _ H.all) (by kernel_rfl) (by kernel_rfl) ?_
      refine hK.out _ _ trivial (fun hHeld => ?_)
      clear hK K
      refine norm_ (a' := ?_) ?_ ?_
      rotate_left
      ·show Act.put _ (some 30) _ = _
       simp only [Act.put, putA, putB, putC]
       rfl
      refine one_ (i := 3) (N := some 26) #[true, true, true, true, true, true, true, true, false, false] rfl rfl (by kernel_rfl) (by decide) (fun K hK => ?_)
      refine load_o H (by rfl) rfl rfl (cs := [.int .u32 s.cl, .int .u32 s.id, .string s.tp, .int .u64 s.fr, .int .u64 s.nx]) (by repeat (first | exact List.Mem.head _ | apply List.Mem.tail)) (by kernel_rfl) (by kernel_rfl) ?_
      refine hK.out _ _ trivial (fun hHeld => ?_)
      clear hK K
      refine norm_ (a' := ?_) ?_ ?_
      rotate_left
      ·show Act.put _ (some 26) _ = _
       simp only [Act.put, putA, putB, putC]
       rfl
      refine one_ (i := 8) (N := some 31) #[true, true, true, true, true, true, true, true, true, false] rfl rfl (by kernel_rfl) (by decide) (fun K hK => ?_)
      refine goes_ Try.func23 (by kernel_rfl) rfl #[.agg ([.int .u32 s.cl, .int .u32 s.id, .string s.tp, .int .u64 s.fr, .int .u64 s.nx]).toArray, .agg ([.int .u32 e.cl, .int .u32 e.id, .string e.tp, .int .u64 e.fr, .int .u64 e.nx]).toArray] (by rfl) rfl rfl (by (try simp only [List.map_toArray, List.map_cons, List.map_nil]); first | done | rfl) ?_
      refine (before_calls _ s e).mono ?_
      rintro e_ w9 ⟨rfl, h_⟩
      rw [HBE.out]
      replace H := H.below h_
      clear h_
      refine ⟨_, rfl, ?_⟩
      refine hK.out _ _ trivial (fun hHeld => ?_)
      clear hK K
      refine norm_ (a' := ?_) ?_ ?_
      rotate_left
      ·show Act.put _ (some 31) _ = _
       simp only [Act.put, putA, putB, putC]
       rfl
      refine pure_ (i := 9) (N := some 32) (v := ?_) (a' := ?_) #[true, true, true, true, true, true, true, true, true, true] rfl rfl (by kernel_rfl) (fun _ _ _ h => h) (Or.inl ⟨by rfl, ?_⟩) ?_ ?_
      rotate_left
      ·intro w'
       go_simp
       with_reducible rfl
      rotate_left
      ·simp only [Act.put, putA, putB, putC]
       rfl
      refine done_ (by kernel_rfl) ?_
      clear hHeld
      go_wp2_with (first
       | ((with_reducible refine is_load (ty := 29) rfl ?_); refine list_load_at rfl rfl (ad := a1.add (j * 5)) rfl [.int .u32 e.cl, .int .u32 e.id, .string e.tp, .int .u64 e.fr, .int .u64 e.nx] (HCE.out _ H.all) (by kernel_rfl) (by kernel_rfl) ?_)
       | ((with_reducible refine is_lit rfl ?_); refine onerow_h H rfl (e := 29) (cs := [.int .u32 e.cl, .int .u32 e.id, .string e.tp, .int .u64 e.fr, .int .u64 e.nx]) (by first | (go_simp; done) | (go_simp; rfl)) ?_; clear H; intro gl w_ H)
       | ((with_reducible refine is_call rfl ?_); refine appends_h H rfl rfl Try.underlying22 Try.infoSub rfl (by decide) rfl rfl (g := gl) (by repeat (first | exact List.Mem.head _ | apply List.Mem.tail)) rfl rfl (fun y => (by repeat (first | exact Put.head | apply Put.tail))) (by have := HON.out; omega) (by have := HON.out; omega) ?_; clear H; intro vo2 w_ H))
      obtain ⟨Ao2, co2, e9⟩ := own_slice (H.ok (.row 29 5 (vo2) (on + 1) (o_.flatMap Sb.cells ++ [.int .u32 e.cl, .int .u32 e.id, .string e.tp, .int .u64 e.fr, .int .u64 e.nx])) (by repeat (first | exact List.Mem.head _ | apply List.Mem.tail)))
      subst e9
      go_roundg k
      case measure => have := HJ.out; omega
      case rel =>
       refine ⟨j + 1, false, o_ ++ [e], Ao2, on + 1, co2, rfl, rfl, by rw [HW.out], by have := HJ.out; omega, Aside0.mk ⟨?_, ?_, by have h1_ := HON.out.2.2; have hz := HNL.out; simp at hz; omega, by have h1_ := HON.out.2.2; have hz := HNL.out; simp at hz ⊢; omega, ?_, ?_⟩⟩
       ·rw [show (o_ ++ [e]).flatMap Sb.cells = o_.flatMap Sb.cells ++ [.int .u32 e.cl, .int .u32 e.id, .string e.tp, .int .u64 e.fr, .int .u64 e.nx] by simp [List.flatMap_append]]
        exact H.want (l' := [.row 29 5 (.slice Ao2 (on + 1) co2) (on + 1) (o_.flatMap Sb.cells ++ [.int .u32 e.cl, .int .u32 e.id, .string e.tp, .int .u64 e.fr, .int .u64 e.nx]), cl gs3 [.int .u32 s.cl, .int .u32 s.id, .string s.tp, .int .u64 s.fr, .int .u64 s.nx] 29]) (Want.take (by repeat (first | exact Pull.head | apply Pull.tail)) (Want.take (by repeat (first | exact Pull.head | apply Pull.tail)) (Want.done (s := []) (by repeat (first | exact Suf.refl | apply Suf.cons)))))
       ·simp [HON.out.2.1]
       ·intro _; exact ⟨by rw [idx_take HE.out, HDN.out.1], fun t ht => by rw [idx_take HE.out] at ht; rcases List.mem_append.1 ht with h | h; exact HDN.out.2 t h; rw [List.mem_singleton.1 h]; exact HBE.out⟩
       ·intro h; cases h
end Go.Proofs.Ytkgedjaihimafaa

/- The nil table; the example; SubsNil, walked. (This text is printed by wip/gen/sub5.py.) -/
namespace Go.Proofs.Ytkgedjaihimafaa
set_option linter.unusedVariables false
set_option linter.unusedSimpArgs false
open Go.RowKit Go.Lib Go.Maps Go.Proofs.YtkgedjaihimafaaW.PrintWords Go.Proofs.YtkgedjaihimafaaW.PrintLast Go.Proofs.YtkgedjaihimafaaW.PrintMore Go.Extern.Stop Go.Stop Go.Extern
abbrev exS : Sb := ⟨1, 2, ⟨#[97]⟩, 0, 0⟩
theorem exFound : fnd (ins exS []) exS.cl exS.id = some exS := fnd_ins_self exS (fun t h => by cases h)
theorem exLen : (ins exS []).length = 1 := by simp [ins]
set_option maxHeartbeats 4000000 in
set_option maxRecDepth 100000 in
theorem fixed24_calls (w : World)  : Calls Try.prog 6 #[] w fun e w' => e = .returned (.bool true) ∧ Below w.heap.size w w' := by
 refine of_post0 fun R hRR => ?_
 have HP := Lib.hid hRR
 have H : Hold w w [] [] := Hold.nothing (Kept.refl _ _)
 clear hRR
 go_enter Try.func6, Try.ntmps6
 go_wp2_with (first
  | (go_at_call 7; refine (newT_calls _).mono ?_; rintro e_ w_ ⟨tb, b, rfl, h_⟩; replace H := Hold.push H h_; clear h_)
  | ((with_reducible refine is_alloc (ty := 29) rfl ?_); refine alloc_h H rfl rfl (cs := [.int .u32 0, .int .u32 0, .string ⟨#[]⟩, .int .u64 0, .int .u64 0]) (by first | (go_simp; done) | (go_simp; rfl)) ?_; clear H; intro gs w_ H)
  | ((with_reducible refine is_store (ty := 29) rfl ?_); refine store_h H rfl rfl rfl rfl (u := .agg #[.int .u32 1, .int .u32 2, .string ⟨#[97]⟩, .int .u64 0, .int .u64 0]) rfl (by repeat (first | exact Put.head | apply Put.tail)) (by kernel_rfl) (Nat.le_of_ble_eq_true rfl) rfl ?_; clear H; intro w_ H; simp only [setC, Value.cells, List.toList_toArray] at H)
  | ((with_reducible refine is_load (ty := 29) rfl ?_); refine load_h H rfl rfl rfl (by repeat (first | exact List.Mem.head _ | apply List.Mem.tail)) (by kernel_rfl) (by kernel_rfl) ?_)
  | ((with_reducible refine is_load (ty := 29) rfl ?_); refine load_g H rfl rfl (by repeat (first | exact List.Mem.head _ | apply List.Mem.tail)) (by kernel_rfl) (by kernel_rfl) (by rfl) ?_)
  | (go_at_call 9; have hg_ : Hold _ _ _ (_ :: ([tbO tb b, tbM b 0 []] ++ [])) := H; clear hg_; refine (addT_new _ tb b 0 [] (H.isT (by repeat (first | exact Pull.head | apply Pull.tail)) (by repeat (first | exact Pull.head | apply Pull.tail))) exS (by constructor <;> constructor <;> decide) rfl (by unfold maxLen; omega)).mono ?_; rintro e_ w_ ⟨rfl, h_⟩; replace H := Hold.call (H.pull2 (by repeat (first | exact Pull.head | apply Pull.tail)) (by repeat (first | exact Pull.head | apply Pull.tail))) h_; clear h_)
  | (go_at_call 9; refine (addT_old _ tb b (0 + 1) (ins exS []) (H.isT (by repeat (first | exact Pull.head | apply Pull.tail)) (by repeat (first | exact Pull.head | apply Pull.tail))) exS exS (by constructor <;> constructor <;> decide) exFound).mono ?_; rintro e_ w_ ⟨rfl, h_⟩; replace H := Hold.call (H.pull2 (by repeat (first | exact Pull.head | apply Pull.tail)) (by repeat (first | exact Pull.head | apply Pull.tail))) h_; clear h_)
  | (go_at_call 14; refine (lenT_calls _ tb b (0 + 1) (ins exS []) (H.isT (by repeat (first | exact Pull.head | apply Pull.tail)) (by repeat (first | exact Pull.head | apply Pull.tail)))).mono ?_; rintro e_ w_ ⟨rfl, h_⟩; rw [show (ins exS []).length = 1 from exLen]; replace H := Hold.call (H.pull2 (by repeat (first | exact Pull.head | apply Pull.tail)) (by repeat (first | exact Pull.head | apply Pull.tail))) h_; clear h_))
 exact HP.out _ _ ⟨rfl, H.all⟩
end Go.Proofs.Ytkgedjaihimafaa

/- SubsDrops, walked. (This text is printed by wip/gen/sub8.py.) -/
namespace Go.Proofs.Ytkgedjaihimafaa
set_option linter.unusedVariables false
set_option linter.unusedSimpArgs false
open Go.RowKit Go.Lib Go.Maps Go.Proofs.YtkgedjaihimafaaW.PrintWords Go.Proofs.YtkgedjaihimafaaW.PrintLast Go.Proofs.YtkgedjaihimafaaW.PrintMore Go.Extern.Stop Go.Stop Go.Extern
attribute [local go_sem high] eqSub
structure TLoop (w W : World) (tb b N j : Nat) (m : List Sb) (vm : Value) : Prop where
 H : Hold w W [] [tbO tb b, tbM b N m, rowS vm m]
 sorted : Sorted m
 ok : ∀ s ∈ m, okKey (s.cl, s.id)
 len : m.length ≤ j
 N : N ≤ j
theorem TLoop.add {w W W1 : World} {tb b N j : Nat} {m : List Sb} {vm vm' : Value} {s : Sb} (h : TLoop w W tb b N j m vm) (hk : okKey (s.cl, s.id)) (hf : fndI m s.cl s.id = none) (H : Hold w W1 [] [tbO tb b, tbM b (N + 1) (ins s m), rowS vm' (ins s m)]) : TLoop w W1 tb b (N + 1) (j + 1) (ins s m) vm' :=
 ⟨H, ins_sorted h.sorted (fndI_none hf).2, fun t ht => by
  rcases List.mem_cons.1 ((ins_perm s m).mem_iff.1 ht) with rfl | ht
  ·exact hk
  ·exact h.ok t ht, by rw [ins_len]; have := h.len; omega, by have := h.N; omega⟩
theorem TLoop.same {w W W1 : World} {tb b N j : Nat} {m : List Sb} {vm : Value} (h : TLoop w W tb b N j m vm) (H : Hold w W1 [] [tbO tb b, tbM b N m, rowS vm m]) : TLoop w W1 tb b N (j + 1) m vm := ⟨H, h.sorted, h.ok, by have := h.len; omega, by have := h.N; omega⟩
theorem beq_true_filter (m : List Sb) (c : Int) : (m.filter fun s : Sb => (s.cl == c) == true) = m.filter fun s : Sb => s.cl == c := List.filter_congr fun s _ => by cases s.cl == c <;> rfl
theorem beq_false_filter (m : List Sb) (c : Int) : (m.filter fun s : Sb => (s.cl == c) == false) = m.filter fun s : Sb => !(s.cl == c) := List.filter_congr fun s _ => by cases s.cl == c <;> rfl
theorem gone_none (m : List Sb) (c : Int) : ((m.filter fun s : Sb => !(s.cl == c)).filter fun s : Sb => s.cl == c) = [] := by
 rw [List.filter_filter]
 exact List.filter_eq_nil_iff.2 fun s _ => by cases s.cl == c <;> decide
theorem gone_all (m : List Sb) (c : Int) : ((m.filter fun s : Sb => !(s.cl == c)).filter fun s : Sb => !(s.cl == c)) = m.filter fun s : Sb => !(s.cl == c) := by
 rw [List.filter_filter]
 exact List.filter_congr fun s _ => by cases s.cl == c <;> rfl
theorem gone_len (m : List Sb) (c : Int) : (m.filter fun s : Sb => !(s.cl == c)).length + (m.filter fun s : Sb => s.cl == c).length = m.length := by
 induction m with
 | nil => rfl
 | cons s m ih =>
  rw [List.filter_cons, List.filter_cons]
  cases s.cl == c <;> simp <;> omega
def cliOut (m l : List Sb) : List Sb := m.filter fun s => !l.any fun u => s.cl == u.cl
theorem cliOut_nil (m : List Sb) : cliOut m [] = m := List.filter_eq_self.2 fun s _ => rfl
theorem cliOut_snoc (m l : List Sb) (e : Sb) : ((cliOut m l).filter fun s : Sb => !(s.cl == e.cl)) = cliOut m (l ++ [e]) := by
 unfold cliOut
 rw [List.filter_filter]
 refine List.filter_congr fun s _ => ?_
 rw [List.any_append]
 cases l.any fun u => s.cl == u.cl <;> simp
theorem cliOut_all {m l : List Sb} (h : ∀ s ∈ m, s ∈ l) : cliOut m l = [] := List.filter_eq_nil_iff.2 fun s hs => by
 rw [show (l.any fun u => s.cl == u.cl) = true from List.any_eq_true.2 ⟨s, h s hs, by simp⟩]
 decide
set_option maxHeartbeats 2000000 in
set_option maxRecDepth 100000 in
theorem drops_great (w : World) (v : Value) (l : List Sb) (c0 : Int) (h : SbsIn w v l) (hk : ∀ s ∈ l, okKey (s.cl, s.id) ∧ s.tp.size ≤ maxLen) (hl : 100 < l.length) : Calls Try.prog 3 #[v, .int .u32 c0] w fun e w' => e = .returned (.bool true) ∧ Below w.heap.size w w' := by
 obtain ⟨A, c_, rfl, hin⟩ := h
 have HIN := Lib.hid (show SbsIn w (.slice A l.length c_) l from ⟨A, c_, rfl, hin⟩)
 clear hin
 refine of_post0 fun R hRR => ?_
 have HP := Lib.hid hRR
 have H : Hold w w [] [] := Hold.nothing (Kept.refl _ _)
 obtain ⟨n, hn⟩ : ∃ n, l.length = n := ⟨_, rfl⟩
 rw [hn] at HIN ⊢
 have HK := Lib.hid hk
 have d1 : decide ((100 : Int) < (n : Int)) = true := decide_eq_true (by omega)
 have d2 : decide (100 < n) = true := decide_eq_true (by omega)
 clear hRR hn hl hk
 go_enter Try.func3, Try.ntmps3
 go_wp2_with (first
  | (go_at_call 6; refine (fixed24_calls _).mono ?_; rintro e_ w_ ⟨rfl, h_⟩; replace H := H.below h_; clear h_))
 exact HP.out _ _ ⟨rfl, H.all⟩
set_option maxHeartbeats 4000000 in
set_option maxRecDepth 100000 in
theorem drops_main (w : World) (v : Value) (l : List Sb) (c0 : Int) (h : SbsIn w v l) (hk : ∀ s ∈ l, okKey (s.cl, s.id) ∧ s.tp.size ≤ maxLen) (hl : l.length ≤ 100) : Calls Try.prog 3 #[v, .int .u32 c0] w fun e w' => e = .returned (.bool true) ∧ Below w.heap.size w w' := by
 obtain ⟨A, c_, rfl, hin⟩ := h
 have HIN := Lib.hid (show SbsIn w (.slice A l.length c_) l from ⟨A, c_, rfl, hin⟩)
 clear hin
 refine of_post0 fun R hRR => ?_
 have HP := Lib.hid hRR
 have H : Hold w w [] [] := Hold.nothing (Kept.refl _ _)
 obtain ⟨n, hn⟩ : ∃ n, l.length = n := ⟨_, rfl⟩
 rw [hn] at HIN ⊢
 have HK := Lib.hid hk
 have d1 : decide ((100 : Int) < (n : Int)) = false := decide_eq_false (by omega)
 have d2 : decide (100 < n) = false := decide_eq_false (by omega)
 have HN := Lib.hid (show l.length = n ∧ n ≤ 100 from ⟨hn, by omega⟩)
 clear hRR hn hl hk
 go_enter Try.func3, Try.ntmps3
 go_wp2_with (first
  | (go_at_call 7; refine (newT_calls _).mono ?_; rintro e_ w_ ⟨tb, b, rfl, h_⟩; replace H := Hold.push H h_; clear h_)
  | ((with_reducible refine is_lit rfl ?_); refine emptyrow_h H rfl 29 5 (by first | (go_simp; done) | (go_simp; rfl)) ?_; clear H; intro go w_ H))
 go_loopg [26, 6] n (fun k vi vm wr => ∃ (j N : Nat) (m : List Sb) (Am : Option Addr) (cm : Nat), vi = .int .i64 (j : Int) ∧ vm = .slice Am m.length cm ∧ j + k = n ∧ Aside0 (TLoop w wr tb b N j m (.slice Am m.length cm)))
 case atStart => exact ⟨0, 0, [], _, _, rfl, rfl, by omega, Aside0.mk ⟨H.want (Want.take (by repeat (first | exact Pull.head | apply Pull.tail)) (Want.take (by repeat (first | exact Pull.head | apply Pull.tail)) (Want.take (by repeat (first | exact Pull.head | apply Pull.tail)) (Want.done (s := []) (by repeat (first | exact Suf.refl | apply Suf.cons)))))), List.Pairwise.nil, fun s hs => (by cases hs), Nat.le_refl _, Nat.le_refl _⟩⟩
 case round =>
  obtain ⟨j, N, m, Am, cm, rfl, rfl, hjk, hP⟩ := hrel
  have HT := Lib.hid hP.out
  clear hP H
  have H := HT.out.H
  cases gk with
  | zero =>
   have g1 : decide ((j : Int) < (n : Int)) = false := decide_eq_false (by omega)
   have g2 : decide (j < n) = false := decide_eq_false (by omega)
   have HML := Lib.hid (show m.length ≤ 100 by have := HT.out.len; have := HN.out; omega)
   clear hjk
   obtain ⟨gn, hgn⟩ : ∃ gn, (m.filter fun s : Sb => s.cl == c0) = gn := ⟨_, rfl⟩
   obtain ⟨m0, hm0⟩ : ∃ m0, (m.filter fun s : Sb => !(s.cl == c0)) = m0 := ⟨_, rfl⟩
   have hlen := gone_len m c0
   rw [hgn, hm0] at hlen
   have hq : wrap64 ((m.length : Int) - (gn.length : Int)) = (m0.length : Int) := by rw [wrap_okS (by have := HML.out; omega) (by have := HML.out; omega)]; omega
   have HML6 := Lib.hid (show m.length ≤ 1000000 by have := HML.out; omega)
   have HGL := Lib.hid (show gn.length ≤ 1000000 by have := HML.out; omega)
   have HS0 := Lib.hid (show Sorted m0 ∧ (∀ s ∈ m0, okKey (s.cl, s.id)) ∧ m0.length ≤ 1000000 from ⟨by rw [← hm0]; exact HT.out.sorted.rem _, fun s hs => by rw [← hm0] at hs; exact HT.out.ok s (List.mem_filter.1 hs).1, by have := HML.out; omega⟩)
   have HG := Lib.hid (show (m.filter fun s : Sb => s.cl == c0) = gn ∧ (m.filter fun s : Sb => !(s.cl == c0)) = m0 ∧ (m0.filter fun s : Sb => s.cl == c0) = [] ∧ (m0.filter fun s : Sb => !(s.cl == c0)) = m0 ∧ (∀ s ∈ m0, s ∈ m) from ⟨hgn, hm0, by rw [← hm0]; exact gone_none m c0, by rw [← hm0]; exact gone_all m c0, fun s hs => by rw [← hm0] at hs; exact (List.mem_filter.1 hs).1⟩)
   clear hgn hm0 hlen
   go_wp2_with (first
    | (go_at_call 10; have hg_ : Hold _ _ _ (tbO tb b :: tbM b N m :: _) := H; clear hg_; refine (dropT_calls _ tb b N m c0 (H.isT (by repeat (first | exact Pull.head | apply Pull.tail)) (by repeat (first | exact Pull.head | apply Pull.tail))) HT.out.sorted HT.out.ok HML6.out).mono ?_; rintro e_ w_ ⟨vg, rfl, h_⟩; rw [HG.out.1, HG.out.2.1] at h_; obtain ⟨Ag, cg, rfl⟩ := own_slice (h_.ok _ (List.Mem.head _)); replace H := Hold.call (H.pull2 (by repeat (first | exact Pull.head | apply Pull.tail)) (by repeat (first | exact Pull.head | apply Pull.tail))) h_; clear h_)
    | (go_at_call 12; refine (rsome_calls _ _ m c0 _ (own_sbs (H.ok (rowS (.slice Am m.length cm) m) (by repeat (first | exact List.Mem.head _ | apply List.Mem.tail)))) HML6.out).mono ?_; rintro e_ w_ ⟨v2, rfl, h_⟩; (first | (rw [beq_true_filter, HG.out.1] at h_; obtain ⟨At, ct, rfl⟩ := own_slice (h_.ok _ (List.Mem.head _))) | (rw [beq_false_filter, HG.out.2.1] at h_; obtain ⟨Af, cf, rfl⟩ := own_slice (h_.ok _ (List.Mem.head _)))); replace H := Hold.push H h_; clear h_)
    | (go_at_call 11; refine (same_calls _ _ _ gn (own_sbs (H.ok (rowS (.slice Ag gn.length cg) gn) (by repeat (first | exact List.Mem.head _ | apply List.Mem.tail)))) (own_sbs (H.ok (rowS (.slice At gn.length ct) gn) (by repeat (first | exact List.Mem.head _ | apply List.Mem.tail)))) HGL.out).mono ?_; rintro e_ w_ ⟨rfl, h_⟩; replace H := H.below h_; clear h_)
    | (go_at_call 13; refine (ofC_calls _ tb b N m0 c0 (H.isT (by repeat (first | exact Pull.head | apply Pull.tail)) (by repeat (first | exact Pull.head | apply Pull.tail))) HS0.out.1 HS0.out.2.1 HS0.out.2.2).mono ?_; rintro e_ w_ ⟨vg, rfl, h_⟩; rw [HG.out.2.2.1] at h_; obtain ⟨Ay, cy, rfl⟩ := own_slice (h_.ok _ (List.Mem.head _)); replace H := Hold.call (H.pull2 (by repeat (first | exact Pull.head | apply Pull.tail)) (by repeat (first | exact Pull.head | apply Pull.tail))) h_; clear h_)
    | (go_at_call 10; refine (dropT_calls _ tb b N m0 c0 (H.isT (by repeat (first | exact Pull.head | apply Pull.tail)) (by repeat (first | exact Pull.head | apply Pull.tail))) HS0.out.1 HS0.out.2.1 HS0.out.2.2).mono ?_; rintro e_ w_ ⟨vg, rfl, h_⟩; rw [HG.out.2.2.1, HG.out.2.2.2.1] at h_; obtain ⟨Az, cz, rfl⟩ := own_slice (h_.ok _ (List.Mem.head _)); replace H := Hold.call (H.pull2 (by repeat (first | exact Pull.head | apply Pull.tail)) (by repeat (first | exact Pull.head | apply Pull.tail))) h_; clear h_)
    | (go_at_call 14; refine (lenT_calls _ tb b N m0 (H.isT (by repeat (first | exact Pull.head | apply Pull.tail)) (by repeat (first | exact Pull.head | apply Pull.tail)))).mono ?_; rintro e_ w_ ⟨rfl, h_⟩; replace H := Hold.call (H.pull2 (by repeat (first | exact Pull.head | apply Pull.tail)) (by repeat (first | exact Pull.head | apply Pull.tail))) h_; clear h_))
   go_loopg [85] m0.length (fun k vi wr => ∃ j : Nat, vi = .int .i64 (j : Int) ∧ j + k = m0.length ∧ Aside0 (Hold w wr [] [tbO tb b, tbM b N m0, rowS (.slice Am m.length cm) m, rowS (.slice Af m0.length cf) m0]))
   case atStart => exact ⟨0, rfl, by omega, Aside0.mk (H.want (Want.take (by repeat (first | exact Pull.head | apply Pull.tail)) (Want.take (by repeat (first | exact Pull.head | apply Pull.tail)) (Want.take (by repeat (first | exact Pull.head | apply Pull.tail)) (Want.take (by repeat (first | exact Pull.head | apply Pull.tail)) (Want.done (s := []) (by repeat (first | exact Suf.refl | apply Suf.cons))))))))⟩
   case round =>
    obtain ⟨j, rfl, hjk, hP⟩ := hrel
    clear H
    have H := hP.out
    clear hP
    cases gk with
    | succ k =>
     have hjl : j < m0.length := by omega
     have g1 : decide ((j : Int) < (m0.length : Int)) = true := decide_eq_true (by omega)
     have g2 : decide (j < m0.length) = true := decide_eq_true hjl
     have g3 : (j : Int) < (m0.length : Int) := by omega
     obtain ⟨e, he⟩ : ∃ e, m0[j]? = some e := ⟨_, List.getElem?_eq_getElem hjl⟩
     obtain ⟨A', c', e1, hc⟩ := own_sbs (H.ok (rowS (.slice Af m0.length cf) m0) (by repeat (first | exact List.Mem.head _ | apply List.Mem.tail)))
     obtain ⟨a1, e2, hce⟩ := hc j e he
     injection e1 with e1 e3 e4
     clear e3 e4
     rw [e2] at e1
     subst e1
     have HCX := Lib.hid hce
     have HW := Lib.hid (show wrap64 ((j : Int) + 1) = ((j + 1 : Nat) : Int) by rw [wrap_okS (by omega) (by have := HML.out; have := HS0.out; omega)]; omega)
     have HJ := Lib.hid hjk
     have HE := Lib.hid he
     have HOK := Lib.hid (HS0.out.2.1 e (List.mem_of_getElem? he))
     have HF := Lib.hid (fnd_of_mem HS0.out.1 (List.mem_of_getElem? he))
     clear hjk he hce hc e2
     go_wp2_with (first
      | ((with_reducible refine is_load (ty := 29) rfl ?_); refine list_load_at rfl rfl (ad := a1.add (j * 5)) rfl [.int .u32 e.cl, .int .u32 e.id, .string e.tp, .int .u64 e.fr, .int .u64 e.nx] HCX.out (by kernel_rfl) (by kernel_rfl) ?_)
      | ((with_reducible refine is_alloc (ty := 29) rfl ?_); refine alloc_h H rfl rfl (cs := [.int .u32 0, .int .u32 0, .string ⟨#[]⟩, .int .u64 0, .int .u64 0]) (by first | (go_simp; done) | (go_simp; rfl)) ?_; clear H; intro g13 w_ H)
      | ((with_reducible refine is_store (ty := 29) rfl ?_); refine store_h H rfl rfl rfl rfl (u := .agg #[.int .u32 e.cl, .int .u32 e.id, .string e.tp, .int .u64 e.fr, .int .u64 e.nx]) rfl (by repeat (first | exact Put.head | apply Put.tail)) (by kernel_rfl) (Nat.le_of_ble_eq_true rfl) rfl ?_; clear H; intro w_ H; simp only [setC, Value.cells, List.toList_toArray] at H)
      | ((with_reducible refine is_load (ty := 29) rfl ?_); refine load_h H rfl rfl rfl (by repeat (first | exact List.Mem.head _ | apply List.Mem.tail)) (by kernel_rfl) (by kernel_rfl) ?_)
      | ((with_reducible refine is_load (ty := 29) rfl ?_); refine load_g H rfl rfl (by repeat (first | exact List.Mem.head _ | apply List.Mem.tail)) (by kernel_rfl) (by kernel_rfl) (by rfl) ?_)
      | ((with_reducible refine is_load rfl ?_); refine loadf_h H rfl rfl rfl (by repeat (first | exact List.Mem.head _ | apply List.Mem.tail)) rfl (by kernel_rfl) ?_)
      | (go_at_call 15; refine (getT_some _ tb b N m0 (H.isT (by repeat (first | exact Pull.head | apply Pull.tail)) (by repeat (first | exact Pull.head | apply Pull.tail))) e.cl e.id HOK.out e HF.out).mono ?_; rintro e_ w_ ⟨rfl, h_⟩; replace H := Hold.call (H.pull2 (by repeat (first | exact Pull.head | apply Pull.tail)) (by repeat (first | exact Pull.head | apply Pull.tail))) h_; clear h_))
     go_roundg k
     case measure => have := HJ.out; omega
     case rel => exact ⟨j + 1, by rw [HW.out], by have := HJ.out; omega, Aside0.mk (H.want (Want.take (by repeat (first | exact Pull.head | apply Pull.tail)) (Want.take (by repeat (first | exact Pull.head | apply Pull.tail)) (Want.take (by repeat (first | exact Pull.head | apply Pull.tail)) (Want.take (by repeat (first | exact Pull.head | apply Pull.tail)) (Want.done (s := []) (by repeat (first | exact Suf.refl | apply Suf.cons))))))))⟩
    | zero =>
     have g1 : decide ((j : Int) < (m0.length : Int)) = false := decide_eq_false (by omega)
     have g2 : decide (j < m0.length) = false := decide_eq_false (by omega)
     clear hjk
     go_wp2_with fail
     go_loopg [108] m.length (fun k vi wr => ∃ j : Nat, vi = .int .i64 (j : Int) ∧ j + k = m.length ∧ Aside0 (Hold w wr [] [tbO tb b, tbM b N (cliOut m0 (m.take j)), rowS (.slice Am m.length cm) m]))
     case atStart => exact ⟨0, rfl, by omega, Aside0.mk (by rw [List.take_zero, cliOut_nil]; exact H.want (Want.take (by repeat (first | exact Pull.head | apply Pull.tail)) (Want.take (by repeat (first | exact Pull.head | apply Pull.tail)) (Want.take (by repeat (first | exact Pull.head | apply Pull.tail)) (Want.done (s := []) (by repeat (first | exact Suf.refl | apply Suf.cons)))))))⟩
     case round =>
      obtain ⟨j, rfl, hjk, hP⟩ := hrel
      clear H
      have H := hP.out
      clear hP
      cases gk with
      | zero =>
       have g1 : decide ((j : Int) < (m.length : Int)) = false := decide_eq_false (by omega)
       have g2 : decide (j < m.length) = false := decide_eq_false (by omega)
       rw [List.take_of_length_le (by omega : m.length ≤ j), cliOut_all HG.out.2.2.2.2] at H
       clear hjk
       go_wp2_with (first
        | (go_at_call 6; refine (fixed24_calls _).mono ?_; rintro e_ w_ ⟨rfl, h_⟩; replace H := H.below h_; clear h_)
        | (go_at_call 14; refine (lenT_calls _ tb b N [] (H.isT (by repeat (first | exact Pull.head | apply Pull.tail)) (by repeat (first | exact Pull.head | apply Pull.tail)))).mono ?_; rintro e_ w_ ⟨rfl, h_⟩; replace H := Hold.call (H.pull2 (by repeat (first | exact Pull.head | apply Pull.tail)) (by repeat (first | exact Pull.head | apply Pull.tail))) h_; clear h_))
       exact HP.out _ _ ⟨rfl, H.all⟩
      | succ k =>
       have hjl : j < m.length := by omega
       have g1 : decide ((j : Int) < (m.length : Int)) = true := decide_eq_true (by omega)
       have g2 : decide (j < m.length) = true := decide_eq_true hjl
       have g3 : (j : Int) < (m.length : Int) := by omega
       obtain ⟨e, he⟩ : ∃ e, m[j]? = some e := ⟨_, List.getElem?_eq_getElem hjl⟩
       obtain ⟨A', c', e1, hc⟩ := own_sbs (H.ok (rowS (.slice Am m.length cm) m) (by repeat (first | exact List.Mem.head _ | apply List.Mem.tail)))
       obtain ⟨a1, e2, hce⟩ := hc j e he
       injection e1 with e1 e3 e4
       clear e3 e4
       rw [e2] at e1
       subst e1
       have HCX := Lib.hid hce
       have HW := Lib.hid (show wrap64 ((j : Int) + 1) = ((j + 1 : Nat) : Int) by rw [wrap_okS (by omega) (by have := HML.out; have := HS0.out; omega)]; omega)
       have HJ := Lib.hid hjk
       have HE := Lib.hid he
       clear hjk he hce hc e2
       go_wp2_with (first
        | ((with_reducible refine is_load (ty := 29) rfl ?_); refine list_load_at rfl rfl (ad := a1.add (j * 5)) rfl [.int .u32 e.cl, .int .u32 e.id, .string e.tp, .int .u64 e.fr, .int .u64 e.nx] HCX.out (by kernel_rfl) (by kernel_rfl) ?_)
        | ((with_reducible refine is_alloc (ty := 29) rfl ?_); refine alloc_h H rfl rfl (cs := [.int .u32 0, .int .u32 0, .string ⟨#[]⟩, .int .u64 0, .int .u64 0]) (by first | (go_simp; done) | (go_simp; rfl)) ?_; clear H; intro g17 w_ H)
        | ((with_reducible refine is_store (ty := 29) rfl ?_); refine store_h H rfl rfl rfl rfl (u := .agg #[.int .u32 e.cl, .int .u32 e.id, .string e.tp, .int .u64 e.fr, .int .u64 e.nx]) rfl (by repeat (first | exact Put.head | apply Put.tail)) (by kernel_rfl) (Nat.le_of_ble_eq_true rfl) rfl ?_; clear H; intro w_ H; simp only [setC, Value.cells, List.toList_toArray] at H)
        | ((with_reducible refine is_load rfl ?_); refine loadf_h H rfl rfl rfl (by repeat (first | exact List.Mem.head _ | apply List.Mem.tail)) rfl (by kernel_rfl) ?_)
        | (go_at_call 10; refine (dropT_calls _ tb b N (cliOut m0 (m.take j)) e.cl (H.isT (by repeat (first | exact Pull.head | apply Pull.tail)) (by repeat (first | exact Pull.head | apply Pull.tail))) (HS0.out.1.rem _) (fun s hs => HS0.out.2.1 s (List.mem_filter.1 hs).1) (Nat.le_trans (List.length_filter_le _ _) HS0.out.2.2)).mono ?_; rintro e_ w_ ⟨vg, rfl, h_⟩; rw [cliOut_snoc] at h_; replace H := Hold.call (H.pull2 (by repeat (first | exact Pull.head | apply Pull.tail)) (by repeat (first | exact Pull.head | apply Pull.tail))) h_; clear h_))
       go_roundg k
       case measure => have := HJ.out; omega
       case rel => exact ⟨j + 1, by rw [HW.out], by have := HJ.out; omega, Aside0.mk (by rw [idx_take HE.out]; exact H.want (Want.take (by repeat (first | exact Pull.head | apply Pull.tail)) (Want.take (by repeat (first | exact Pull.head | apply Pull.tail)) (Want.take (by repeat (first | exact Pull.head | apply Pull.tail)) (Want.done (s := []) (by repeat (first | exact Suf.refl | apply Suf.cons)))))))⟩
  | succ k =>
   have hjl : j < n := by omega
   have g1 : decide ((j : Int) < (n : Int)) = true := decide_eq_true (by omega)
   have g2 : decide (j < n) = true := decide_eq_true hjl
   have g3 : (j : Int) < (n : Int) := by omega
   obtain ⟨e, he⟩ : ∃ e, l[j]? = some e := ⟨_, List.getElem?_eq_getElem (by have := HN.out; omega)⟩
   obtain ⟨a1, rfl, _⟩ := SbsIn.at_ (v := .int .u8 0) HIN.out (Below.refl _ _) he
   have HCE := Lib.hid (fun (W : World) (hb : Below w.heap.size w W) => (show ∀ (i : Nat) (u : Value), e.cells[i]? = some u → W.cell? ((a1.add (j * 5)).add i) = some u by
    obtain ⟨a2, ha, hc⟩ := SbsIn.at_ (v := .int .u8 0) HIN.out hb he
    obtain rfl := Option.some.inj ha
    exact hc))
   have HW := Lib.hid (show wrap64 ((j : Int) + 1) = ((j + 1 : Nat) : Int) by rw [wrap_okS (by omega) (by have := HN.out; omega)]; omega)
   have HJ := Lib.hid hjk
   have HE := Lib.hid he
   have HML := Lib.hid (show m.length ≤ 1000000 by have := HT.out.len; have := HN.out; omega)
   have HNX := Lib.hid (show N < maxLen by unfold maxLen; have := HT.out.N; have := HN.out; omega)
   have HOK := Lib.hid (HK.out e (List.mem_of_getElem? he)).1
   clear hjk he
   rcases Nat.lt_or_ge 1000 e.tp.size with ht | ht
   ·have t1 : decide ((1000 : Int) < (e.tp.size : Int)) = true := decide_eq_true (by omega)
    have t2 : decide (1000 < e.tp.size) = true := decide_eq_true ht
    clear ht
    go_wp2_with (first
     | ((with_reducible refine is_load (ty := 29) rfl ?_); refine list_load_at rfl rfl (ad := a1.add (j * 5)) rfl [.int .u32 e.cl, .int .u32 e.id, .string e.tp, .int .u64 e.fr, .int .u64 e.nx] (HCE.out _ H.all) (by kernel_rfl) (by kernel_rfl) ?_)
     | ((with_reducible refine is_alloc (ty := 29) rfl ?_); refine alloc_h H rfl rfl (cs := [.int .u32 0, .int .u32 0, .string ⟨#[]⟩, .int .u64 0, .int .u64 0]) (by first | (go_simp; done) | (go_simp; rfl)) ?_; clear H; intro g8 w_ H)
     | ((with_reducible refine is_store (ty := 29) rfl ?_); refine store_h H rfl rfl rfl rfl (u := .agg #[.int .u32 e.cl, .int .u32 e.id, .string e.tp, .int .u64 e.fr, .int .u64 e.nx]) rfl (by repeat (first | exact Put.head | apply Put.tail)) (by kernel_rfl) (Nat.le_of_ble_eq_true rfl) rfl ?_; clear H; intro w_ H; simp only [setC, Value.cells, List.toList_toArray] at H)
     | ((with_reducible refine is_load rfl ?_); refine loadf_h H rfl rfl rfl (by repeat (first | exact List.Mem.head _ | apply List.Mem.tail)) rfl (by kernel_rfl) ?_)
     | (go_at_call 6; refine (fixed24_calls _).mono ?_; rintro e_ w_ ⟨rfl, h_⟩; replace H := H.below h_; clear h_))
    exact HP.out _ _ ⟨rfl, H.all⟩
   ·have t1 : decide ((1000 : Int) < (e.tp.size : Int)) = false := decide_eq_false (by omega)
    have t2 : decide (1000 < e.tp.size) = false := decide_eq_false (by omega)
    clear ht
    cases hfi : fndI m e.cl e.id with
    | none =>
     have HFI := Lib.hid hfi
     have HF := Lib.hid (fndI_none hfi).1
     clear hfi
     go_wp2_with (first
      | ((with_reducible refine is_load (ty := 29) rfl ?_); refine list_load_at rfl rfl (ad := a1.add (j * 5)) rfl [.int .u32 e.cl, .int .u32 e.id, .string e.tp, .int .u64 e.fr, .int .u64 e.nx] (HCE.out _ H.all) (by kernel_rfl) (by kernel_rfl) ?_)
      | ((with_reducible refine is_alloc (ty := 29) rfl ?_); refine alloc_h H rfl rfl (cs := [.int .u32 0, .int .u32 0, .string ⟨#[]⟩, .int .u64 0, .int .u64 0]) (by first | (go_simp; done) | (go_simp; rfl)) ?_; clear H; intro g8 w_ H)
      | ((with_reducible refine is_store (ty := 29) rfl ?_); refine store_h H rfl rfl rfl rfl (u := .agg #[.int .u32 e.cl, .int .u32 e.id, .string e.tp, .int .u64 e.fr, .int .u64 e.nx]) rfl (by repeat (first | exact Put.head | apply Put.tail)) (by kernel_rfl) (Nat.le_of_ble_eq_true rfl) rfl ?_; clear H; intro w_ H; simp only [setC, Value.cells, List.toList_toArray] at H)
      | ((with_reducible refine is_load (ty := 29) rfl ?_); refine load_h H rfl rfl rfl (by repeat (first | exact List.Mem.head _ | apply List.Mem.tail)) (by kernel_rfl) (by kernel_rfl) ?_)
      | ((with_reducible refine is_load rfl ?_); refine loadf_h H rfl rfl rfl (by repeat (first | exact List.Mem.head _ | apply List.Mem.tail)) rfl (by kernel_rfl) ?_)
      | (go_at_call 8; refine (radd_new _ _ m e (own_sbs (H.ok (rowS (.slice Am m.length cm) m) (by repeat (first | exact List.Mem.head _ | apply List.Mem.tail)))) HML.out HFI.out).mono ?_; rintro e_ w_ ⟨v2, rfl, h_⟩; obtain ⟨A2, c2, rfl⟩ := own_slice (h_.ok _ (List.Mem.head _)); replace H := Hold.push H h_; clear h_)
      | (go_at_call 9; refine (addT_new _ tb b N m (H.isT (by repeat (first | exact Pull.head | apply Pull.tail)) (by repeat (first | exact Pull.head | apply Pull.tail))) e HOK.out HF.out HNX.out).mono ?_; rintro e_ w_ ⟨rfl, h_⟩; replace H := Hold.call (H.pull2 (by repeat (first | exact Pull.head | apply Pull.tail)) (by repeat (first | exact Pull.head | apply Pull.tail))) h_; clear h_))
     go_roundg k
     case measure => have := HJ.out; omega
     case rel => exact ⟨j + 1, N + 1, ins e m, A2, c2, by rw [HW.out], rfl, by have := HJ.out; omega, Aside0.mk (HT.out.add HOK.out HFI.out (H.want (Want.take (by repeat (first | exact Pull.head | apply Pull.tail)) (Want.take (by repeat (first | exact Pull.head | apply Pull.tail)) (Want.take (by repeat (first | exact Pull.head | apply Pull.tail)) (Want.done (s := []) (by repeat (first | exact Suf.refl | apply Suf.cons))))))))⟩
    | some kf =>
     have HFI := Lib.hid hfi
     obtain ⟨e1, _, _, hf⟩ := fndI_some hfi
     have HF := Lib.hid hf
     clear hfi hf
     go_wp2_with (first
      | ((with_reducible refine is_load (ty := 29) rfl ?_); refine list_load_at rfl rfl (ad := a1.add (j * 5)) rfl [.int .u32 e.cl, .int .u32 e.id, .string e.tp, .int .u64 e.fr, .int .u64 e.nx] (HCE.out _ H.all) (by kernel_rfl) (by kernel_rfl) ?_)
      | ((with_reducible refine is_alloc (ty := 29) rfl ?_); refine alloc_h H rfl rfl (cs := [.int .u32 0, .int .u32 0, .string ⟨#[]⟩, .int .u64 0, .int .u64 0]) (by first | (go_simp; done) | (go_simp; rfl)) ?_; clear H; intro g8 w_ H)
      | ((with_reducible refine is_store (ty := 29) rfl ?_); refine store_h H rfl rfl rfl rfl (u := .agg #[.int .u32 e.cl, .int .u32 e.id, .string e.tp, .int .u64 e.fr, .int .u64 e.nx]) rfl (by repeat (first | exact Put.head | apply Put.tail)) (by kernel_rfl) (Nat.le_of_ble_eq_true rfl) rfl ?_; clear H; intro w_ H; simp only [setC, Value.cells, List.toList_toArray] at H)
      | ((with_reducible refine is_load (ty := 29) rfl ?_); refine load_h H rfl rfl rfl (by repeat (first | exact List.Mem.head _ | apply List.Mem.tail)) (by kernel_rfl) (by kernel_rfl) ?_)
      | ((with_reducible refine is_load rfl ?_); refine loadf_h H rfl rfl rfl (by repeat (first | exact List.Mem.head _ | apply List.Mem.tail)) rfl (by kernel_rfl) ?_)
      | (go_at_call 8; refine (radd_old _ _ m e (own_sbs (H.ok (rowS (.slice Am m.length cm) m) (by repeat (first | exact List.Mem.head _ | apply List.Mem.tail)))) HML.out kf HFI.out).mono ?_; rintro e_ w_ ⟨rfl, h_⟩; replace H := H.below h_; clear h_)
      | (go_at_call 9; refine (addT_old _ tb b N m (H.isT (by repeat (first | exact Pull.head | apply Pull.tail)) (by repeat (first | exact Pull.head | apply Pull.tail))) e e1 HOK.out HF.out).mono ?_; rintro e_ w_ ⟨rfl, h_⟩; replace H := Hold.call (H.pull2 (by repeat (first | exact Pull.head | apply Pull.tail)) (by repeat (first | exact Pull.head | apply Pull.tail))) h_; clear h_))
     go_roundg k
     case measure => have := HJ.out; omega
     case rel => exact ⟨j + 1, N, m, Am, cm, by rw [HW.out], rfl, by have := HJ.out; omega, Aside0.mk (HT.out.same (H.want (Want.take (by repeat (first | exact Pull.head | apply Pull.tail)) (Want.take (by repeat (first | exact Pull.head | apply Pull.tail)) (Want.take (by repeat (first | exact Pull.head | apply Pull.tail)) (Want.done (s := []) (by repeat (first | exact Suf.refl | apply Suf.cons))))))))⟩
theorem subsDrops_walk (w : World) (v : Value) (l : List Sb) (c0 : Int) (h : SbsIn w v l) (hk : ∀ s ∈ l, okKey (s.cl, s.id) ∧ s.tp.size ≤ maxLen) : Calls Try.prog 3 #[v, .int .u32 c0] w fun e w' => e = .returned (.bool true) ∧ Below w.heap.size w w' := by
 by_cases hl : l.length ≤ 100
 ·exact drops_main w v l c0 h hk hl
 ·exact drops_great w v l c0 h hk (by omega)
end Go.Proofs.Ytkgedjaihimafaa

/- Subscriptions that came in, opened. -/
namespace Go.Proofs.Ytkgedjaihimafaa
set_option linter.unusedVariables false
set_option linter.unusedSimpArgs false
open Go.RowKit Go.ChangeShapes Go.WideShapes Go.Deep Go.Joins Go.Proofs.YtkgedjaihimafaaW.PrintWords
theorem list5 {α : Type} {l : List α} (h : l.length = 5) : ∃ c0 c1 c2 c3 c4, l = [c0, c1, c2, c3, c4] := by
 match l, h with
 | [c0, c1, c2, c3, c4], _ => exact ⟨c0, c1, c2, c3, c4, rfl⟩
set_option maxRecDepth 100000 in
theorem open_sub {H : Type} {enc : TypeId × Value → H} {W : World} {fuel : Nat} {cs : List Value} {x : DataW H × List MemPlace} (h : DataW.trod enc Try.prog W 0 (fun _ => true) true fuel 29 cs = some x) :
  ∃ s : Sb, cs = s.cells ∧ okKey (s.cl, s.id) ∧ s.tp.size ≤ maxLen := by
 obtain ⟨xs, m, _, rfl, hl, hlen, hf⟩ := DataW.trod_struct Try.underlying29 h
 have hC : Try.prog.cellsOf 29 = 5 := by kernel_rfl
 rw [hC] at hl
 have e2 : Try.prog.cellsOf 23 = 1 := by kernel_rfl
 have e3 : Try.prog.cellsOf 9 = 1 := by kernel_rfl
 have e4 : Try.prog.cellsOf 27 = 1 := by kernel_rfl
 obtain ⟨c0, c1, c2, c3, c4, rfl⟩ := list5 hl
 obtain ⟨y0, y1, y2, y3, y4, rfl⟩ := list5 (show xs.length = 5 from hlen)
 have h0 := hf 0 _ rfl
 have h1 := hf 1 _ rfl
 have h2 := hf 2 _ rfl
 have h3 := hf 3 _ rfl
 have h4 := hf 4 _ rfl
 clear hf h hl
 simp [e2, e3, e4] at h0 h1 h2 h3 h4
 obtain ⟨n0, k0, _, w0⟩ := DataW.trod_int Try.underlying23 h0
 obtain ⟨n1, k1, _, w1⟩ := DataW.trod_int Try.underlying23 h1
 obtain ⟨s2, k2, _, w2⟩ := DataW.trod_string Try.underlying9 h2
 obtain ⟨n3, k3, _, w3⟩ := DataW.trod_int Try.underlying27 h3
 obtain ⟨n4, k4, _, w4⟩ := DataW.trod_int Try.underlying27 h4
 simp at k0 k1 k2 k3 k4
 subst k0 k1 k2 k3 k4
 exact ⟨⟨n0, n1, s2, n3, n4⟩, rfl, ⟨u32_wf.1 w0, u32_wf.1 w1⟩, w2⟩
set_option maxRecDepth 100000 in
theorem open_subs {H : Type} {enc : TypeId × Value → H} {W : World} {b0 : Nat} {v : Value} {d : DataW H} {p : List MemPlace} (hv : Value.okWide Try.prog W .any b0 22 v)
  (h : DataW.Trod enc Try.prog W 0 (fun _ => true) true 22 v d p) : ∃ l : List Sb, SbsIn W v l ∧ l.length ≤ 9223372036854775807 ∧ (∀ s ∈ l, okKey (s.cl, s.id) ∧ s.tp.size ≤ maxLen) := by
 obtain ⟨A, n, cap, rfl⟩ := okWide_slice Try.underlying22 hv
 obtain ⟨fuel, hf⟩ := h
 rcases open_slice Try.underlying22 hf with ⟨hcs, _⟩ | ⟨a, len, cap', m, k, D, Pl, hcs, hb, hl, hm, hmm, hx, hi⟩
 ·simp [Value.cells] at hcs
  obtain ⟨rfl, rfl, rfl⟩ := hcs
  exact ⟨[], ⟨none, 0, rfl, fun i e he => by simp at he⟩, Nat.zero_le _, fun s hs => by cases hs⟩
 ·simp [Value.cells] at hcs
  obtain ⟨rfl, rfl, rfl⟩ := hcs
  unfold maxLen at hm
  have hC : Try.prog.cellsOf 29 = 5 := by kernel_rfl
  have hat : ∀ i, i < n → ∃ e : Sb, (∀ (j : Nat) (u : Value), e.cells[j]? = some u → W.cell? ((a.add (i * 5)).add j) = some u) ∧ okKey (e.cl, e.id) ∧ e.tp.size ≤ maxLen := by
   intro i hin
   obtain ⟨cs', hc, ht⟩ := hi i (by simp at hmm; omega)
   rw [hC] at hc
   obtain ⟨_, hcl, hat⟩ := World.cells?_some hc
   obtain ⟨s, rfl, h1, h2⟩ := open_sub ht
   refine ⟨s, fun j u hj => ?_, h1, h2⟩
   have hlt : j < 5 := (List.getElem?_eq_some_iff.1 hj).1
   exact (hat j hlt).trans hj
  have hex : ∃ l : List Sb, l.length = n ∧ ∀ i e, l[i]? = some e → (∀ (j : Nat) (u : Value), e.cells[j]? = some u → W.cell? ((a.add (i * 5)).add j) = some u) ∧ okKey (e.cl, e.id) ∧ e.tp.size ≤ maxLen := by
   clear hf hi hl hm hmm hx hb hv
   induction n with
   | zero => exact ⟨[], rfl, fun i e h => by simp at h⟩
   | succ n ih =>
    obtain ⟨l, hl, hc⟩ := ih (fun i h => hat i (by omega))
    obtain ⟨e, he⟩ := hat n (by omega)
    refine ⟨l ++ [e], by simp [hl], fun i e' h => ?_⟩
    by_cases hlt : i < l.length
    ·rw [List.getElem?_append_left hlt] at h
     exact hc i e' h
    ·have hi : i < (l ++ [e]).length := (List.getElem?_eq_some_iff.1 h).1
     have e1 : i = n := by simp at hi; omega
     subst e1
     rw [List.getElem?_append_right (by omega), hl, Nat.sub_self] at h
     obtain rfl : e = e' := by simpa using h
     exact he
  obtain ⟨l, rfl, hc⟩ := hex
  refine ⟨l, ⟨some a, cap, rfl, fun i e he => ⟨a, rfl, (hc i e he).1⟩⟩, by omega, fun s hs => ?_⟩
  obtain ⟨i, hi, rfl⟩ := List.mem_iff_getElem.1 hs
  exact (hc i _ (List.getElem?_eq_getElem hi)).2
end Go.Proofs.Ytkgedjaihimafaa

/- The statement of louver/louverlaw24.SubsDrops: for every input it returns true, and each argument reads behind the call as it read before; no other condition than the row's own. -/
namespace Go.Proofs.Ytkgedjaihimafaa.subsDrops
set_option linter.unusedVariables false
set_option linter.unusedSimpArgs false
open Go.ChangeShapes Go.WideShapes Go.ChangeAt Go.RowKit
open Go.ChangeMaps (open_string shut_string)
set_option linter.unusedVariables false
theorem own : ownKnob Try.prog.godebug = none := by kernel_rfl
theorem laidOut : laidOutB Try.prog = true := by kernel_rfl
set_option maxRecDepth 100000 in
theorem contract (H : Type) (enc : TypeId × Value → H) (W : World) (base : Nat) (args : Array Value) (ds gs : List (DataW H)) (before : List MemPlace)
  (hval : ∀ (j : Nat) t v, Try.f3.params[j]? = some t → args[j]? = some v → Value.okWide Try.prog W .any base t v)
  (hW : DataW.Whole enc Try.prog Try.f3.params.toList Rows.subsDropsSpec.vars false W args.toList ds gs before)
  (hsz : (DataW.weightsEach Try.prog (Try.f3.params.toList ++ Rows.subsDropsSpec.plain.varTypes Try.prog) (ds ++ gs)).all (· ≤ reachBytes) = true)
  (hL : laidMetH Try.prog Rows.subsDropsRow.laid W) (hS : W.ShapedOpen Try.prog) :
  Calls Try.prog 3 args W fun e W' => ∃ v, e = .returned v ∧ Rows.subsDropsSpec.post enc Try.prog Try.f3 false true false false W args v W' := by
 have hW' := hW
 obtain ⟨p, q, hA0, hV, rfl, hfz, hnd⟩ := hW
 have hA : DataW.TrodAll enc Try.prog W 0 (fun _ => true) true Try.f3.params.toList args.toList ds p := hA0
 rw [Try.params3] at hA hval hsz
 obtain ⟨v0, vs0, d0, ds0, p0, q0, hargs, rfl, rfl, h0, r0⟩ := trodAll_cons hA
 obtain ⟨v1, vs1, d1, ds1, p1, q1, rfl, rfl, rfl, h1, r1⟩ := trodAll_cons r0
 obtain ⟨rfl, rfl, rfl⟩ := trodAll_nil r1
 obtain rfl : args = #[v0, v1] := by cases args; simp_all
 obtain ⟨rfl, rfl⟩ := trodVars_none hV
 have k0 := h0
 have ok0 := (hval 0 22 v0 rfl rfl)
 have lt0 : ∀ x ∈ p0, x.block < W.heap.size := by obtain ⟨m, hm⟩ := k0; exact DataW.trod_lt m _ _ _ hm
 obtain ⟨a1, rfl, rfl, rfl, w1⟩ := open_int Try.underlying23 (hval 1 23 v1 rfl rfl) h1
 obtain ⟨l0, hl0, hn0, hk0⟩ := open_subs ok0 h0
 clear hA0 hval
 refine (subsDrops_walk W v0 l0 a1 hl0 hk0).mono fun e W' ⟨he, bel⟩ => ?_
 subst he
 exact ⟨_, rfl, _, _, _, [], _, [], hW', trodAll_mk1 (shut_bool Try.underlying4 _), (trodAll_cons_mk (Below.trod laidOut (by kernel_rfl) (of_decide_eq_true (by kernel_rfl)) k0 bel lt0) (trodAll_cons_mk (shut_int Try.underlying23 w1) trodAll_mk0)), rfl, bel.frame _, fun h => by cases h⟩
noncomputable def laidWorld (os : Os) : World := World.holding Try.prog os ⟨#[], #[], []⟩
theorem laid_met (os : Os) (args : Array Value) : laidMetH Try.prog Rows.subsDropsRow.laid ((laidWorld os).forCall (fun _ _ => 0) ⟨#[], args, []⟩).memory := laidMetH_nil _ _
set_option maxRecDepth 100000 in
theorem lifted (os : Os) (started : os.Started) (H : Type) (enc : TypeId × Value → H) (F : Stop.Interp) :
  ReturnsInHanded {} Try.checked os 3 .any ((OpenSpec.ofChange Rows.subsDropsSpec).preRow enc Try.prog Try.f3 Rows.subsDropsRow.domain false Rows.subsDropsRow.laid) (((OpenSpec.ofChange Rows.subsDropsSpec).at F).post enc Try.prog Try.f3 false true false false) := by
 refine returnsInHanded_of_row (C := Try.checked) (s := (OpenSpec.ofChange Rows.subsDropsSpec)) own started (by kernel_rfl) Try.func3
  (witness_row_at (enc := enc) (C := Try.checked) false (laidWorld os) #[.slice none 0 0, .int .u32 0] rfl (by kernel_rfl) (by kernel_rfl) (by kernel_rfl)
   (OpenSpec.preRow_of_cond 8 (x := ([.nil, .lit (.int .u32 0)], [], [])) (by kernel_rfl) (by kernel_rfl) (fun k hk => by cases hk) (by kernel_rfl) (laid_met os _))) ?_
 intro W base args ds gs before hval hW _ hcond hsz hL hS _
 exact contract H enc W base args ds gs before hval hW hsz hL hS
theorem said : Rows.SubsDropsSaid :=
 OpenClaim.holds_of_cond 3 Try.f3 rfl rfl rfl rfl rfl rfl rfl ⟨rfl, rfl, rfl, rfl, rfl⟩ rfl rfl rfl rfl rfl (by kernel_rfl) Try.func3 (by kernel_rfl)
  (of_decide_eq_true (by kernel_rfl)) (by unfold Func.isWrapper; first | (rw [if_pos (by decide +kernel)]; kernel_rfl) | (rw [if_neg (by decide +kernel)]; exact ⟨rfl, rfl⟩))
  (fun os started H enc _ F => by rw [OpenClaim.pre_eq_preRow]; exact lifted os started H enc F)
#print axioms said
end Go.Proofs.Ytkgedjaihimafaa.subsDrops
