/- The statement of louver/louverlaw07.FramePuts: for every input it returns true, and each argument reads behind the call as it read before; no other condition than the row's own. -/
import Derived.Test.YtjjfkmniffbgkaaDoorMFramePuts12
import Derived.Test.YtjjfkmniffbgkaaDoorMFramePuts11
import Derived.Test.YtjjfkmniffbgkaaDoorMFramePuts2
import Derived.Test.YtjjfkmniffbgkaaDoorRows
import Derived.LaidHandle
import Derived.LaidLaws
import Derived.Stop.Joined
import Derived.Test.YtjjfkmniffbgkaaDoorCards
import Derived.Test.YtjjfkmniffbgkaaDoorTie
import Derived.WalkKit
import Derived.ProofKit
import Derived.OpenShut
import Derived.ShutString
import Derived.ChangeOld
import Derived.Below
import Derived.SizedLaws
import Derived.Carry
import Derived.Deep.DeepHandedRow
import Derived.Test.YtjjfkmniffbgkaaDoorMFramePuts0
/- A frame that came in, opened: its data, its settings. -/
namespace Go.Proofs.YtjjfkmniffbgkaaDoor
set_option linter.unusedVariables false
set_option linter.unusedSimpArgs false
open Go.RowKit Go.ChangeShapes Go.WideShapes Go.Deep Go.Joins Go.Proofs.YtjjfkmniffbgkaaDoorW.PrintWords Go.Proofs.YtjjfkmniffbgkaaDoorW.PrintLast Go.Proofs.YtjjfkmniffbgkaaDoorW.PrintMore Go.Proofs.YtjjfkmniffbgkaaDoor.QFrmA
theorem Kd_of_reads {w : World} {A : Option Addr} {n : Nat} {xs : List Int} (h : ReadsInt w .u8 A n xs) : (Kd.int .u8).C w A n xs := Kd.C_of_reads (d := (0 : Int)) (h1 := fun _ => rfl) h
theorem list11 {α : Type} {l : List α} (h : l.length = 11) : ∃ c0 c1 c2 c3 c4 c5 c6 c7 c8 c9 c10, l = [c0, c1, c2, c3, c4, c5, c6, c7, c8, c9, c10] := by
 match l, h with
 | [c0, c1, c2, c3, c4, c5, c6, c7, c8, c9, c10], _ => exact ⟨c0, c1, c2, c3, c4, c5, c6, c7, c8, c9, c10, rfl⟩
set_option maxRecDepth 100000 in
theorem open_bytes_cell {H : Type} {enc : TypeId × Value → H} {W : World} {fuel : Nat} {A : Option Addr} {n cap : Nat} {x : DataW H × List MemPlace} (hf : DataW.trod enc Tryd.prog W 0 (fun _ => true) true fuel 35 [.slice A n cap] = some x) :
  ∃ l : List Int, l.length = n ∧ ReadsInt W .u8 A l.length l ∧ l.length ≤ cap ∧ ∀ x ∈ l, 0 ≤ x ∧ x ≤ 255 := by
 have e1 : Tryd.prog.cellsOf 5 = 1 := by kernel_rfl
 have wf8 : ∀ {n : Int}, (Lit.int .u8 n).wf = true → 0 ≤ n ∧ n ≤ 255 := fun h => by simp [Lit.wf, IntKind.min, IntKind.max, IntKind.signed, IntKind.bits] at h; omega
 rcases open_ints Tryd.underlying35 Tryd.underlying5 e1 hf with ⟨hc, _⟩ | ⟨a, len, cap', zs, hc, _, g1, g2, g3, _, g4, g5⟩
 ·simp at hc
  obtain ⟨rfl, rfl, rfl⟩ := hc
  obtain ⟨l, hl1, hr, hm, hw, hcc⟩ := ReadsInt.ofRowC (w := W) (k := .u8) (a := none) (len := 0) (cap := 0) (zs := []) (.inl ⟨rfl, rfl, rfl, rfl⟩)
  exact ⟨l, hl1.symm, hr, hcc, fun x hx => wf8 (hw x hx)⟩
 ·simp at hc
  obtain ⟨rfl, rfl, rfl⟩ := hc
  obtain ⟨l, hl1, hr, hm, hw, hcc⟩ := ReadsInt.ofRowC (.inr ⟨a, rfl, g1, g2, by simpa using g3, g4, g5⟩)
  exact ⟨l, hl1.symm, hr, hcc, fun x hx => wf8 (hw x hx)⟩
set_option maxRecDepth 100000 in
theorem open_sets_cell {H : Type} {enc : TypeId × Value → H} {W : World} {fuel : Nat} {A : Option Addr} {n cap : Nat} {x : DataW H × List MemPlace} (hf : DataW.trod enc Tryd.prog W 0 (fun _ => true) true fuel 36 [.slice A n cap] = some x) :
  ∃ l : List S99, l.length = n ∧ Kd.C k99 W A l.length l ∧ l.length ≤ cap ∧ ∀ s ∈ l, 0 ≤ s.f0 ∧ s.f0 ≤ 65535 ∧ 0 ≤ s.f1 ∧ s.f1 ≤ 4294967295 := by
 have hC : Tryd.prog.cellsOf 99 = 2 := by kernel_rfl
 rcases open_slice Tryd.underlying36 hf with ⟨hcs, _⟩ | ⟨a, len, cap', m, k, D, Pl, hcs, hb, hl, hm, hmm, hx, hi⟩
 ·simp at hcs
  obtain ⟨rfl, rfl, rfl⟩ := hcs
  exact ⟨[], rfl, ⟨rfl, by decide, fun h => absurd h (Nat.lt_irrefl 0)⟩, Nat.le_refl _, fun f hf => by cases hf⟩
 ·simp at hcs
  obtain ⟨rfl, rfl, rfl⟩ := hcs
  unfold maxLen at hm
  have hat : ∀ i, i < n → ∃ s c : Int, W.cell? (a.add (i * 2)) = some (.int .u16 s) ∧ W.cell? (a.add (i * 2 + 1)) = some (.int .u32 c) ∧ 0 ≤ s ∧ s ≤ 65535 ∧ 0 ≤ c ∧ c ≤ 4294967295 := by
   intro i hin
   obtain ⟨cs', hc, ht⟩ := hi i (by simp at hmm; omega)
   rw [hC] at hc
   obtain ⟨_, hcl, hat⟩ := World.cells?_some hc
   obtain ⟨y0, y1, q, hy, hlen, h0, h1⟩ := trod_struct2 Tryd.underlying99 ht
   match cs', hcl with
   | [c0, c1], _ =>
    have e1 : Tryd.prog.cellsOf 52 = 1 := by kernel_rfl
    have e2 : Tryd.prog.cellsOf 22 = 1 := by kernel_rfl
    simp [e1, e2] at h0 h1
    obtain ⟨s, hs, _, hwf⟩ := DataW.trod_int Tryd.underlying52 h0
    obtain ⟨c, hc', _, hwf2⟩ := DataW.trod_int Tryd.underlying22 h1
    have z0 := hat 0 (by decide)
    have z1 := hat 1 (by decide)
    simp at hs hc' z0 z1
    subst hs hc'
    refine ⟨s, c, ?_, ?_, ?_⟩
    ·simpa [Addr.add] using z0
    ·rw [← Deep.add_add]; exact z1
    ·simp [Lit.wf, IntKind.min, IntKind.max, IntKind.signed, IntKind.bits] at hwf hwf2; omega
  have hex : ∃ l : List S99, l.length = n ∧ ∀ i (h : i < l.length), W.cell? (a.add (i * 2)) = some (.int .u16 (l[i]).f0) ∧ W.cell? (a.add (i * 2 + 1)) = some (.int .u32 (l[i]).f1) ∧ 0 ≤ (l[i]).f0 ∧ (l[i]).f0 ≤ 65535 ∧ 0 ≤ (l[i]).f1 ∧ (l[i]).f1 ≤ 4294967295 := by
   clear hf hi hl hm hmm hx hb
   induction n with
   | zero => exact ⟨[], rfl, fun i h => absurd h (Nat.not_lt_zero i)⟩
   | succ n ih =>
    obtain ⟨l, hl, hc⟩ := ih (fun i h => hat i (by omega))
    obtain ⟨s, c, h1, h2, h3⟩ := hat n (by omega)
    refine ⟨l ++ [⟨s, c⟩], by simp [hl], fun i h => ?_⟩
    by_cases hlt : i < l.length
    ·rw [List.getElem_append_left hlt]
     exact hc i hlt
    ·have e : i = n := by simp at h; omega
     subst e
     rw [List.getElem_append_right (by omega)]
     simp [hl, h1, h2, h3]
  obtain ⟨l, hll, hc⟩ := hex
  refine ⟨l, hll, ⟨rfl, by omega, fun _ => ⟨a, rfl, fun j f hj => ?_⟩⟩, by omega, fun f hf => ?_⟩
  ·obtain ⟨hjl, rfl⟩ := List.getElem?_eq_some_iff.1 hj
   obtain ⟨q0, q1, -⟩ := hc j hjl
   refine ⟨_, rfl, k99_mk W _, fun i u hu => ?_⟩
   have hi2 : i < 2 := (List.getElem?_eq_some_iff.1 hu).1
   have hsz : (k99).sz = 2 := rfl
   rw [hsz]
   match i, hi2, hu with
   | 0, _, hu => simp at hu; rw [← hu]; exact q0
   | 1, _, hu => simp at hu; rw [← hu]; exact q1
  ·obtain ⟨j, hj, rfl⟩ := List.getElem_of_mem hf
   exact (hc j hj).2.2
set_option maxRecDepth 100000 in
theorem open_fr_cells {H : Type} {enc : TypeId × Value → H} {W : World} {fuel : Nat} {cs : List Value} {x : DataW H × List MemPlace}
  (hf : DataW.trod enc Tryd.prog W 0 (fun _ => true) true fuel 38 cs = some x) : ∃ (F : Fr) (A B : Option Addr) (c m : Nat), cs = (frC F (.slice A F.data.length c) (.slice B F.sets.length m)).toList ∧
   ReadsInt W .u8 A F.data.length F.data ∧ F.data.length ≤ c ∧ Kd.C k99 W B F.sets.length F.sets ∧ F.sets.length ≤ m ∧ FrWf F := by
 obtain ⟨xs, mm, _, rfl, hl, hlen, hf⟩ := DataW.trod_struct Tryd.underlying38 hf
 have hC : Tryd.prog.cellsOf 38 = 11 := by kernel_rfl
 rw [hC] at hl
 have e1 : Tryd.prog.cellsOf 5 = 1 := by kernel_rfl
 have e2 : Tryd.prog.cellsOf 22 = 1 := by kernel_rfl
 have e3 : Tryd.prog.cellsOf 35 = 1 := by kernel_rfl
 have e4 : Tryd.prog.cellsOf 3 = 1 := by kernel_rfl
 have e5 : Tryd.prog.cellsOf 4 = 1 := by kernel_rfl
 have e6 : Tryd.prog.cellsOf 36 = 1 := by kernel_rfl
 obtain ⟨c0, c1, c2, c3, c4, c5, c6, c7, c8, c9, c10, rfl⟩ := list11 hl
 obtain ⟨y0, y1, y2, y3, y4, y5, y6, y7, y8, y9, y10, rfl⟩ := list11 (show xs.length = 11 from hlen)
 have h0 := hf 0 _ rfl
 have h1 := hf 1 _ rfl
 have h2 := hf 2 _ rfl
 have h3 := hf 3 _ rfl
 have h4 := hf 4 _ rfl
 have h5 := hf 5 _ rfl
 have h6 := hf 6 _ rfl
 have h7 := hf 7 _ rfl
 have h8 := hf 8 _ rfl
 have h9 := hf 9 _ rfl
 have h10 := hf 10 _ rfl
 clear hf hl
 simp [e1, e2, e3, e4, e5, e6] at h0 h1 h2 h3 h4 h5 h6 h7 h8 h9 h10
 obtain ⟨n0, k0, _, w0⟩ := DataW.trod_int Tryd.underlying5 h0
 obtain ⟨n1, k1, _, w1⟩ := DataW.trod_int Tryd.underlying5 h1
 obtain ⟨n2, k2, _, w2⟩ := DataW.trod_int Tryd.underlying22 h2
 obtain ⟨A, n3, cp, k3⟩ := slice_form Tryd.underlying35 h3
 obtain ⟨n4, k4, _, w4⟩ := DataW.trod_int Tryd.underlying3 h4
 obtain ⟨n5, k5, _, w5⟩ := DataW.trod_int Tryd.underlying22 h5
 obtain ⟨n6, k6, _, w6⟩ := DataW.trod_int Tryd.underlying22 h6
 obtain ⟨n7, k7, _, w7⟩ := DataW.trod_int Tryd.underlying5 h7
 obtain ⟨n8, k8, _⟩ := DataW.trod_bool Tryd.underlying4 h8
 obtain ⟨n9, k9, _, w9⟩ := DataW.trod_int Tryd.underlying22 h9
 obtain ⟨B, n10, cp10, k10⟩ := slice_form Tryd.underlying36 h10
 simp at k0 k1 k2 k3 k4 k5 k6 k7 k8 k9 k10
 subst k0 k1 k2 k3 k4 k5 k6 k7 k8 k9 k10
 obtain ⟨data, rfl, r1, r2, r3⟩ := open_bytes_cell h3
 obtain ⟨sets, rfl, s1, s2, s3⟩ := open_sets_cell h10
 have g8 : ∀ {n : Int}, (Lit.int .u8 n).wf = true → 0 ≤ n ∧ n ≤ 255 := fun h => by simp [Lit.wf, IntKind.min, IntKind.max, IntKind.signed, IntKind.bits] at h; omega
 have g32 : ∀ {n : Int}, (Lit.int .u32 n).wf = true → 0 ≤ n ∧ n ≤ 4294967295 := fun h => by simp [Lit.wf, IntKind.min, IntKind.max, IntKind.signed, IntKind.bits] at h; omega
 refine ⟨⟨n0, n1, n2, data, n4, n5, n6, n7, n8, n9, sets⟩, A, B, cp, cp10, rfl, r1, r2, s1, s2, ⟨(g8 w0).1, (g8 w0).2, (g8 w1).1, (g8 w1).2, (g32 w2).1, (g32 w2).2, r3, (g32 w5).1, (g32 w5).2, (g32 w6).1, (g32 w6).2, (g8 w7).1, (g8 w7).2, (g32 w9).1, (g32 w9).2, s3⟩⟩
set_option maxRecDepth 100000 in
theorem open_fr {H : Type} {enc : TypeId × Value → H} {W : World} {b0 : Nat} {v : Value} {d : DataW H} {p : List MemPlace} (hv : Value.okWide Tryd.prog W .any b0 38 v)
  (h : DataW.Trod enc Tryd.prog W 0 (fun _ => true) true 38 v d p) : ∃ (F : Fr) (A B : Option Addr) (c m : Nat), v = .agg (frC F (.slice A F.data.length c) (.slice B F.sets.length m)) ∧
   ReadsInt W .u8 A F.data.length F.data ∧ F.data.length ≤ c ∧ Kd.C k99 W B F.sets.length F.sets ∧ F.sets.length ≤ m ∧ FrWf F := by
 obtain ⟨cs, rfl, -⟩ := Go.WideShapes.okWide_struct Tryd.underlying38 hv
 obtain ⟨fuel, hf⟩ := h
 obtain ⟨F, A, B, c, m, hc, h1⟩ := open_fr_cells hf
 exact ⟨F, A, B, c, m, congrArg Value.agg (Array.toList_inj.1 hc), h1⟩
end Go.Proofs.YtjjfkmniffbgkaaDoor

/- From the row's list to the cell of errors.errorType; bounds of numbers that came in. -/
namespace Go.Proofs.YtjjfkmniffbgkaaDoor
set_option linter.unusedVariables false
set_option linter.unusedSimpArgs false
open Go.RowKit
theorem Tryd.et : Tryd.prog.globalNamed "errors.errorType" = some 1 := by kernel_rfl
theorem Tryd.rt : (Tryd.prog.cutTypes.find? (·.1 == "internal/reflectlite.rtype")).map (·.2) = some 130 := by kernel_rfl
theorem Tryd.oneRow : ((List.range 182).filter fun t => Tryd.prog.rowNamed t [101, 114, 114, 111, 114]) = [28] := by kernel_rfl
theorem Tryd.sizeT : Tryd.prog.types.size = 182 := by kernel_rfl
theorem gv_of_laid {W : World} (h : laidMetH Tryd.prog [("errors.errorType", Rows.laid_errors_errorType)] W) : GV W := by
 have h' : laidMet Tryd.prog [] W ∧ handlesMet Tryd.prog [("errors.errorType", Rows.laid_errors_errorType)] W := h
 obtain ⟨name, u, ty, e1, e2, e3, e4, e5⟩ := h'.2 _ (List.mem_singleton.2 rfl)
 have en : name = [101, 114, 114, 111, 114] := (Option.some.inj e1).symm
 subst en
 obtain rfl := Option.some.inj (Tryd.rt.symm.trans e2)
 have hm : ty ∈ (List.range 182).filter fun t => Tryd.prog.rowNamed t [101, 114, 114, 111, 114] := List.mem_filter.2 ⟨List.mem_range.2 (by rw [← Tryd.sizeT]; exact e3), e4⟩
 rw [Tryd.oneRow] at hm
 obtain rfl := List.mem_singleton.1 hm
 have hh : typeHandle Tryd.prog 28 = hOf 28 := by kernel_rfl
 rw [hh] at e5
 unfold GV
 simpa using World.var?_cell Tryd.et e5 0
end Go.Proofs.YtjjfkmniffbgkaaDoor

/- The statement of louver/louverlaw07.FramePuts: for every input it returns true, and each argument reads behind the call as it read before; no other condition than the row's own. -/
namespace Go.Proofs.YtjjfkmniffbgkaaDoor.framePuts
set_option linter.unusedVariables false
set_option linter.unusedSimpArgs false
open Go.ChangeShapes Go.WideShapes Go.ChangeAt Go.RowKit
open Go.ChangeMaps (open_string shut_string)
set_option linter.unusedVariables false
theorem own : ownKnob Tryd.prog.godebug = none := by kernel_rfl
theorem laidOut : laidOutB Tryd.prog = true := by kernel_rfl
set_option maxRecDepth 100000 in
theorem contract (H : Type) (enc : TypeId × Value → H) (W : World) (base : Nat) (args : Array Value) (ds gs : List (DataW H)) (before : List MemPlace)
  (hval : ∀ (j : Nat) t v, Tryd.f4.params[j]? = some t → args[j]? = some v → Value.okWide Tryd.prog W .any base t v)
  (hW : DataW.Whole enc Tryd.prog Tryd.f4.params.toList Rows.framePutsSpec.vars false W args.toList ds gs before)
  (hsz : (DataW.weightsEach Tryd.prog (Tryd.f4.params.toList ++ Rows.framePutsSpec.plain.varTypes Tryd.prog) (ds ++ gs)).all (· ≤ reachBytes) = true)
  (hL : laidMetH Tryd.prog Rows.framePutsRow.laid W) (hS : W.ShapedOpen Tryd.prog) :
  Calls Tryd.prog 4 args W fun e W' => ∃ v, e = .returned v ∧ Rows.framePutsSpec.post enc Tryd.prog Tryd.f4 false true false false W args v W' := by
 have hW' := hW
 obtain ⟨p, q, hA0, hV, rfl, hfz, hnd⟩ := hW
 have hA : DataW.TrodAll enc Tryd.prog W 0 (fun _ => true) true Tryd.f4.params.toList args.toList ds p := hA0
 rw [Tryd.params4] at hA hval hsz
 obtain ⟨v0, vs0, d0, ds0, p0, q0, hargs, rfl, rfl, h0, r0⟩ := trodAll_cons hA
 obtain ⟨rfl, rfl, rfl⟩ := trodAll_nil r0
 obtain rfl : args = #[v0] := by cases args; simp_all
 obtain ⟨rfl, rfl⟩ := trodVars_none hV
 have k0 := h0
 have ok0 := (hval 0 38 v0 rfl rfl)
 have lt0 : ∀ x ∈ p0, x.block < W.heap.size := by obtain ⟨m, hm⟩ := k0; exact DataW.trod_lt m _ _ _ hm
 obtain ⟨F0, A0, B0, c0, m0, rfl, hAr, hc0, hB0, hm0, hw0⟩ := open_fr ok0 h0
 clear hA0 hval
 refine (framePuts_walk W F0 A0 B0 c0 m0 (Kd_of_reads hAr) hc0 hB0 hm0 hw0 (gv_of_laid hL)).mono fun e W' ⟨he, bel⟩ => ?_
 subst he
 exact ⟨_, rfl, _, _, _, [], _, [], hW', trodAll_mk1 (shut_bool Tryd.underlying4 _), (trodAll_cons_mk (Below.trod laidOut (by kernel_rfl) (of_decide_eq_true (by kernel_rfl)) k0 bel lt0) trodAll_mk0), rfl, bel.frame _, fun h => by cases h⟩
noncomputable def laidWorld (os : Os) : World :=
 { World.holding Tryd.prog os ⟨#[], #[], []⟩ with heap := (World.holding Tryd.prog os ⟨#[], #[], []⟩).heap.modify 1 fun
   | .cells _ t frozen => .cells #[.iface 130 (.agg #[.pointer (some ⟨5, 28, none⟩)])] t frozen
   | o => o }
set_option maxRecDepth 100000 in
theorem laid_met (os : Os) (args : Array Value) : laidMetH Tryd.prog Rows.framePutsRow.laid ((laidWorld os).forCall (fun _ _ => 0) ⟨#[], args, []⟩).memory := laidMetH_of_parts (laidMet_nil _ _) (by kernel_rfl)
set_option maxRecDepth 100000 in
theorem lifted (os : Os) (started : os.Started) (H : Type) (enc : TypeId × Value → H) (F : Stop.Interp) :
  ReturnsInHanded {} Tryd.checked os 4 .any ((OpenSpec.ofChange Rows.framePutsSpec).preRow enc Tryd.prog Tryd.f4 Rows.framePutsRow.domain false Rows.framePutsRow.laid) (((OpenSpec.ofChange Rows.framePutsSpec).at F).post enc Tryd.prog Tryd.f4 false true false false) := by
 refine returnsInHanded_of_row (C := Tryd.checked) (s := (OpenSpec.ofChange Rows.framePutsSpec)) own started (by kernel_rfl) Tryd.func4
  (witness_row_at (enc := enc) (C := Tryd.checked) false (laidWorld os) #[.agg #[.int .u8 0, .int .u8 0, .int .u32 0, .slice none 0 0, .int .i64 0, .int .u32 0, .int .u32 0, .int .u8 0, .bool false, .int .u32 0, .slice none 0 0]] rfl (by kernel_rfl) (by kernel_rfl) (by kernel_rfl)
   (OpenSpec.preRow_of_cond 8 (x := ([.agg [.lit (.int .u8 0), .lit (.int .u8 0), .lit (.int .u32 0), .nil, .lit (.int .i64 0), .lit (.int .u32 0), .lit (.int .u32 0), .lit (.int .u8 0), .lit (.bool false), .lit (.int .u32 0), .nil]], [], [])) (by kernel_rfl) (by kernel_rfl) (fun k hk => by cases hk) (by kernel_rfl) (laid_met os _))) ?_
 intro W base args ds gs before hval hW _ hcond hsz hL hS _
 exact contract H enc W base args ds gs before hval hW hsz hL hS
theorem said : Rows.FramePutsSaid :=
 OpenClaim.holds_of_cond 4 Tryd.f4 rfl rfl rfl rfl rfl rfl rfl ⟨rfl, rfl, rfl, rfl, rfl⟩ rfl rfl rfl rfl rfl (by kernel_rfl) Tryd.func4 (by kernel_rfl)
  (of_decide_eq_true (by kernel_rfl)) (by unfold Func.isWrapper; first | (rw [if_pos (by decide +kernel)]; kernel_rfl) | (rw [if_neg (by decide +kernel)]; exact ⟨rfl, rfl⟩))
  (fun os started H enc _ F => by rw [OpenClaim.pre_eq_preRow]; exact lifted os started H enc F)
theorem plain (f : FuncId) (fn : Func) (hf : Tryd.pinned.checked.prog.funcNamed "louver/louverlaw07.FramePuts" = some f) (hfn : Tryd.pinned.checked.prog.funcs[f]? = some fn) :
  true = Tryd.pinned.checked.prog.looks [] ∧ ∀ (j : Nat) t, fn.params[j]? = some t → Tryd.pinned.checked.prog.wantsStandIn t = false := by
 obtain rfl : f = 4 := Option.some.inj ((show Tryd.prog.funcNamed "louver/louverlaw07.FramePuts" = some 4 by kernel_rfl).symm.trans hf) |>.symm
 obtain rfl : fn = Tryd.f4 := (Option.some.inj (Tryd.func4.symm.trans hfn)).symm
 refine ⟨by kernel_rfl, fun j t ht => ?_⟩
 rw [Tryd.params4] at ht
 have hm := Array.mem_of_getElem? ht
 have hall : ∀ t ∈ #[38], Tryd.prog.wantsStandIn t = false := by intro t h; simp only [List.mem_toArray, List.mem_cons, List.not_mem_nil, or_false] at h; rcases h with rfl <;> kernel_rfl
 exact hall t hm
theorem card : Rows.FramePutsCardSaid :=
 Claim7.holds_tied_plain_at .later [] _ _ _ _ said (fun _ h => by cases h) (by kernel_rfl) (fun _ h => by cases h) framePuts_row_tie rfl ⟨rfl, rfl⟩ (by kernel_rfl) rfl plain (by kernel_rfl)
#print axioms card
end Go.Proofs.YtjjfkmniffbgkaaDoor.framePuts
