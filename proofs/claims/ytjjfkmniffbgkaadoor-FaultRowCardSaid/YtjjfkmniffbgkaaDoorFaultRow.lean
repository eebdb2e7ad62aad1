/- The statement FaultRow over lists, and a row of faults that came in, opened. -/
import Derived.Test.YtjjfkmniffbgkaaDoorQFaultx
import Derived.ChangeShapes
import Derived.ChangeSlices
import Derived.Deep.Slices
import Derived.ChangeArms
import Derived.ChangeSame
import Derived.WideLaws
import Derived.OpenShut
namespace Go.Proofs.YtjjfkmniffbgkaaDoor
set_option linter.unusedVariables false
set_option linter.unusedSimpArgs false
open Go.RowKit Go.ChangeShapes Go.WideShapes Go.Deep Go.Proofs.YtjjfkmniffbgkaaDoorW.PrintWords Go.Proofs.YtjjfkmniffbgkaaDoor.QFault Go.Proofs.YtjjfkmniffbgkaaDoor.Given

abbrev Flt := S24
def wt (s : Int) : Int := if s = 0 then 0 else if s > 3 then 0 else 4 - s
def better (f g : Flt) : Prop := wt f.f0 > wt g.f0 ∨ (wt f.f0 = wt g.f0 ∧ f.f1 < g.f1)
instance (f g : Flt) : Decidable (better f g) := by unfold better; infer_instance
/-- The one that weighs more. -/
def worse (a b : Flt) : Flt := if better b a ∧ wt b.f0 > 0 then b else a

theorem wrap_ok1 {x : Int} (h0 : -9223372036854775808 ≤ x) (h1 : x ≤ 9223372036854775807) : wrap64 x = x := by
  unfold wrap64
  omega
theorem weight_some (s c : Int) (h0 : 0 ≤ s) (h1 : s ≤ 255) : fault_weight.f s c = some (wt s) := by
  unfold fault_weight.f wt
  split
  · rfl
  · split
    · rfl
    · rw [wrap_ok1 (x := s) (by omega) (by omega), wrap_ok1 (by omega) (by omega)]
def cmpI (x y : Int) : Int := if x < y then -1 else if x > y then 1 else 0
theorem cmp_some (x y : Int) : cmp_Compare_int.f x y = some (cmpI x y) := by
  unfold cmp_Compare_int.f cmp_isNaN_int.f cmpI
  simp
  repeat' split
  all_goals first | rfl | omega
theorem cmpu_some (x y : Int) : cmp_Compare_uint32.f x y = some (cmpI x y) := by
  unfold cmp_Compare_uint32.f cmp_isNaN_uint32.f cmpI
  simp
  repeat' split
  all_goals first | rfl | omega
theorem ev_or (x y : Int) : Ev (fun k => cmp_Or_int.f k [x, y]) (if x = 0 then y else x) := by
  have r0 : rd [x, y] 0 = x := rfl
  have r1 : rd [x, y] 1 = y := rfl
  unfold cmp_Or_int.f
  by_cases hx : x = 0
  · subst hx
    by_cases hy : y = 0
    · subst hy
      refine ⟨3, fun k hk => ?_⟩
      obtain ⟨m, rfl⟩ : ∃ m, k = m + 1 + 1 + 1 := ⟨k - 3, by omega⟩
      simp only [cmp_Or_int.l0]
      simp [r0, r1, wrap_ok1]
    · refine ⟨2, fun k hk => ?_⟩
      obtain ⟨m, rfl⟩ : ∃ m, k = m + 1 + 1 := ⟨k - 2, by omega⟩
      simp only [cmp_Or_int.l0]
      simp [r0, r1, wrap_ok1, hy]
  · refine ⟨1, fun k hk => ?_⟩
    obtain ⟨m, rfl⟩ : ∃ m, k = m + 1 := ⟨k - 1, by omega⟩
    simp only [cmp_Or_int.l0]
    simp [r0, hx]
theorem ev_worse (a b : Flt) (ha0 : 0 ≤ a.f0) (ha1 : a.f0 ≤ 255) (hb0 : 0 ≤ b.f0) (hb1 : b.f0 ≤ 255) : Ev (fun k => fault_Worse.f k a.f0 a.f1 b.f0 b.f1) ((worse a b).f0, (worse a b).f1) := by
  unfold fault_Worse.f
  simp only [weight_some _ _ ha0 ha1, weight_some _ _ hb0 hb1, cmp_some, cmpu_some, Option.bind_some]
  refine Ev.bind (ev_or _ _) ?_
  have e : ((if cmpI (wt b.f0) (wt a.f0) = 0 then cmpI a.f1 b.f1 else cmpI (wt b.f0) (wt a.f0)) > 0) ↔ better b a := by
    unfold better cmpI
    repeat' split
    all_goals omega
  unfold worse
  by_cases h1 : better b a
  · simp only [e.2 h1, if_true, h1, true_and]
    by_cases h2 : wt b.f0 > 0
    · simp only [h2, if_true]
      exact Ev.now _
    · simp only [h2, if_false]
      exact Ev.now _
  · have h1' : ¬ ((if cmpI (wt b.f0) (wt a.f0) = 0 then cmpI a.f1 b.f1 else cmpI (wt b.f0) (wt a.f0)) > 0) := fun h => h1 (e.1 h)
    simp only [h1', if_false, h1, false_and]
    exact Ev.now _

/-- One that nothing of a row is better than; if it weighs anything it is of the row. -/
def Top (a : Flt) (l : List Flt) : Prop := (∀ f ∈ l, wt f.f0 > 0 → ¬ better f a) ∧ (wt a.f0 > 0 → a ∈ l) ∧ 0 ≤ a.f0 ∧ a.f0 ≤ 255
theorem wt_ge (s : Int) : 0 ≤ wt s ∨ s < 0 := by unfold wt; repeat' split; all_goals omega
theorem top_snoc {a f : Flt} {l : List Flt} (h : Top a l) (h0 : 0 ≤ f.f0) (h1 : f.f0 ≤ 255) : Top (worse a f) (l ++ [f]) := by
  obtain ⟨p, q, r, s⟩ := h
  unfold worse
  by_cases hb : better f a ∧ wt f.f0 > 0
  · rw [if_pos hb]
    refine ⟨fun g hg hw hgb => ?_, fun _ => by simp, h0, h1⟩
    rcases List.mem_append.1 hg with hg | hg
    · refine p g hg hw ?_
      have h2 := hb.1
      unfold better at *
      omega
    · rw [List.mem_singleton.1 hg] at hgb
      unfold better at hgb
      omega
  · rw [if_neg hb]
    refine ⟨fun g hg hw hgb => ?_, fun hw => List.mem_append_left _ (q hw), r, s⟩
    rcases List.mem_append.1 hg with hg | hg
    · exact p g hg hw hgb
    · rw [List.mem_singleton.1 hg] at hgb hw
      exact hb ⟨hgb, hw⟩
theorem top_cons {b f : Flt} {l : List Flt} (h : Top b l) (h0 : 0 ≤ f.f0) (h1 : f.f0 ≤ 255) : Top (worse f b) (f :: l) := by
  obtain ⟨p, q, r, s⟩ := h
  unfold worse
  by_cases hb : better b f ∧ wt b.f0 > 0
  · rw [if_pos hb]
    refine ⟨fun g hg hw hgb => ?_, fun hw => List.mem_cons_of_mem _ (q hw), r, s⟩
    rcases List.mem_cons.1 hg with rfl | hg
    · have h2 := hb.1
      unfold better at *
      omega
    · exact p g hg hw hgb
  · rw [if_neg hb]
    refine ⟨fun g hg hw hgb => ?_, fun _ => by simp, h0, h1⟩
    rcases List.mem_cons.1 hg with rfl | hg
    · unfold better at hgb
      omega
    · have h2 := p g hg hw
      have h3 := wt_ge b.f0
      unfold better at *
      omega
theorem worse_top {a f : Flt} {l : List Flt} (h : Top a l) (hf : f ∈ l) (hw : wt f.f0 > 0) : worse a f = a := by
  unfold worse
  rw [if_neg (fun hb => h.1 f hf hw hb.1)]
theorem wt_pos {s : Int} (h0 : 0 ≤ s) : wt s > 0 ↔ (1 ≤ s ∧ s ≤ 3) := by
  unfold wt
  repeat' split
  all_goals omega
theorem top_same {a b : Flt} {l : List Flt} (ha : Top a l) (hb : Top b l) : (a.f0 = b.f0 ∧ a.f1 = b.f1) ∨ (¬ wt a.f0 > 0 ∧ ¬ wt b.f0 > 0) := by
  by_cases h1 : wt a.f0 > 0
  · have h2 := hb.1 a (ha.2.1 h1) h1
    have h3 : wt b.f0 > 0 := by unfold better at h2; omega
    have h4 := ha.1 b (hb.2.1 h3) h3
    have e1 := (wt_pos ha.2.2.1).1 h1
    have e2 := (wt_pos hb.2.2.1).1 h3
    left
    unfold better at h2 h4
    unfold wt at h2 h4
    repeat' split at h2
    all_goals omega
  · right
    refine ⟨h1, fun h3 => ?_⟩
    have h4 := ha.1 b (hb.2.1 h3) h3
    unfold better at h4
    omega

theorem rdT_at (l : List Flt) (i : Nat) (h : i < l.length) : rd_T24 l (i : Int) = l[i] := by
  unfold rd_T24
  simp only [Int.toNat_natCast]
  rw [List.getD_eq_getElem?_getD, List.getElem?_eq_getElem h]
  rfl
theorem some_some (s c : Int) : louverref01_Some.f s c = some (decide (1 ≤ s ∧ s ≤ 3)) := by
  unfold louverref01_Some.f
  by_cases h : s ≥ 1
  · rw [if_pos h]
    congr 1
    rw [decide_eq_decide]
    omega
  · rw [if_neg h]
    congr 1
    symm
    rw [decide_eq_false_iff_not]
    omega

theorem ev_check (l : List Flt) (hl : l.length ≤ 3000) (hb : ∀ f ∈ l, 0 ≤ f.f0 ∧ f.f0 ≤ 255) (a b : Flt) (ha : Top a l) (hbt : Top b l) : ∀ (d i : Nat), i ≤ l.length → l.length - i = d → Ev (fun k => louverlaw01_FaultRow.l1 k l (l.length : Int) (i : Int) a.f0 a.f1 b.f0 b.f1) true := by
  intro d
  induction d with
  | zero =>
    intro i hi hd
    refine Ev.step (f := fun _ => some true) (fun k => ?_) (Ev.now true)
    simp only [louverlaw01_FaultRow.l1]
    rw [if_neg (by omega)]
    simp only [louverlaw01_fixed.f, some_some, Option.bind_some, if_true]
    rcases top_same ha hbt with ⟨e1, e2⟩ | ⟨e1, e2⟩
    · simp [e1, e2]
    · rw [wt_pos ha.2.2.1] at e1
      rw [wt_pos hbt.2.2.1] at e2
      simp [e1, e2]
  | succ d ih =>
    intro i hi hd
    have hlt : i < l.length := by omega
    have h2 := ih (i + 1) (by omega) (by omega)
    have hm := List.getElem_mem hlt
    have hbb := hb _ hm
    by_cases hs : 1 ≤ (l[i]).f0 ∧ (l[i]).f0 ≤ 3
    · have hw := (wt_pos hbb.1).2 hs
      have e := worse_top ha hm hw
      have ew := ev_worse a l[i] ha.2.2.1 ha.2.2.2 hbb.1 hbb.2
      rw [e] at ew
      refine Ev.step (f := fun k => (fault_Worse.f k a.f0 a.f1 (l[i]).f0 (l[i]).f1).bind fun t => if (!(t.1 == a.f0) || (!(t.2 == a.f1))) = true then some false else louverlaw01_FaultRow.l1 k l (l.length : Int) ((i + 1 : Nat) : Int) a.f0 a.f1 b.f0 b.f1) (fun k => ?_) ?_
      · simp only [louverlaw01_FaultRow.l1]
        rw [if_pos (by omega), if_pos (by omega), if_pos (by omega), rdT_at l i hlt, some_some, wrap_ok1 (by omega) (by omega), decide_eq_true hs]
        simp only [Option.bind_some, if_true]
        rfl
      · refine Ev.bind ew ?_
        simpa using h2
    · refine Ev.step (f := fun k => louverlaw01_FaultRow.l1 k l (l.length : Int) ((i + 1 : Nat) : Int) a.f0 a.f1 b.f0 b.f1) (fun k => ?_) h2
      simp only [louverlaw01_FaultRow.l1]
      rw [if_pos (by omega), if_pos (by omega), if_pos (by omega), rdT_at l i hlt, some_some, wrap_ok1 (by omega) (by omega), decide_eq_false hs]
      simp only [Option.bind_some, Bool.false_eq_true, if_false]
      rfl

theorem ev_fold (l : List Flt) (hl : l.length ≤ 3000) (hb : ∀ f ∈ l, 0 ≤ f.f0 ∧ f.f0 ≤ 255) : ∀ (d i : Nat) (a b : Flt), i ≤ l.length → l.length - i = d → Top a (l.take i) → Top b (l.drop (l.length - i)) → Ev (fun k => louverlaw01_FaultRow.l0 k l (l.length : Int) (i : Int) a.f0 a.f1 b.f0 b.f1) true := by
  intro d
  induction d with
  | zero =>
    intro i a b hi hd ha hbt
    obtain rfl : i = l.length := by omega
    rw [List.take_length] at ha
    rw [Nat.sub_self, List.drop_zero] at hbt
    refine Ev.step (f := fun k => louverlaw01_FaultRow.l1 k l (l.length : Int) ((0 : Nat) : Int) a.f0 a.f1 b.f0 b.f1) (fun k => ?_) (ev_check l hl hb a b ha hbt _ 0 (Nat.zero_le _) rfl)
    simp only [louverlaw01_FaultRow.l0]
    rw [if_neg (by omega)]
    rfl
  | succ d ih =>
    intro i a b hi hd ha hbt
    have hlt : i < l.length := by omega
    have hj : l.length - 1 - i < l.length := by omega
    have hm := hb _ (List.getElem_mem hlt)
    have hn := hb _ (List.getElem_mem hj)
    have ta := top_snoc ha hm.1 hm.2
    have tb := top_cons hbt hn.1 hn.2
    have e1 : l.take i ++ [l[i]] = l.take (i + 1) := by rw [List.take_succ_eq_append_getElem hlt]
    have e2 : l[l.length - 1 - i] :: l.drop (l.length - i) = l.drop (l.length - (i + 1)) := by
      rw [show l.length - (i + 1) = l.length - 1 - i by omega, List.drop_eq_getElem_cons hj, show l.length - 1 - i + 1 = l.length - i by omega]
    rw [e1] at ta
    rw [e2] at tb
    have h2 := ih (i + 1) _ _ (by omega) (by omega) ta tb
    have eq : wrap64 (wrap64 ((l.length : Int) - 1) - (i : Int)) = ((l.length - 1 - i : Nat) : Int) := by
      rw [wrap_ok1 (x := (l.length : Int) - 1) (by omega) (by omega), wrap_ok1 (by omega) (by omega)]
      omega
    refine Ev.step (f := fun k => (fault_Worse.f k a.f0 a.f1 (l[i]).f0 (l[i]).f1).bind fun bt124 => (fault_Worse.f k (l[l.length - 1 - i]).f0 (l[l.length - 1 - i]).f1 b.f0 b.f1).bind fun bt127 => louverlaw01_FaultRow.l0 k l (l.length : Int) ((i + 1 : Nat) : Int) bt124.1 bt124.2 bt127.1 bt127.2) (fun k => ?_) ?_
    · simp only [louverlaw01_FaultRow.l0]
      rw [if_pos (by omega), if_pos (by omega), if_pos (by omega), rdT_at l i hlt]
      congr 1
      funext bt
      rw [eq, if_pos (by omega), if_pos (by omega), rdT_at l _ hj, wrap_ok1 (x := (i : Int) + 1) (by omega) (by omega)]
      rfl
    · refine Ev.bind (ev_worse a l[i] ha.2.2.1 ha.2.2.2 hm.1 hm.2) (Ev.bind (ev_worse l[l.length - 1 - i] b hn.1 hn.2 hbt.2.2.1 hbt.2.2.2) ?_)
      exact h2

theorem faultRow_pure (l : List Flt) (hb : ∀ f ∈ l, 0 ≤ f.f0 ∧ f.f0 ≤ 255) : ∃ k, louverlaw01_FaultRow.f k l = some true := by
  apply Ev.rounds
  unfold louverlaw01_FaultRow.f
  by_cases h : (l.length : Int) > 3000
  · simp only [h, if_true, louverlaw01_fixed.f]
    exact Ev.now true
  · simp only [h, if_false]
    refine ev_fold l (by omega) hb _ 0 ⟨0, 0⟩ ⟨0, 0⟩ (Nat.zero_le _) rfl ?_ ?_
    · exact ⟨fun f hf => by simp at hf, fun h => absurd h (by decide), by decide, by decide⟩
    · rw [Nat.sub_zero, List.drop_length]
      exact ⟨fun f hf => by simp at hf, fun h => absurd h (by decide), by decide, by decide⟩

set_option maxRecDepth 100000 in
/-- A row of faults that came in, opened. -/
theorem open_faults {H : Type} {enc : TypeId × Value → H} {W : World} {b0 : Nat} {v : Value} {d : DataW H} {p : List MemPlace} (hv : Value.okWide Tryd.prog W .any b0 56 v)
    (h : DataW.Trod enc Tryd.prog W 0 (fun _ => true) true 56 v d p) : ∃ (A : Option Addr) (l : List Flt) (c : Nat), v = .slice A l.length c ∧ Kd.C k24 W A l.length l ∧ l.length ≤ c ∧ ∀ f ∈ l, 0 ≤ f.f0 ∧ f.f0 ≤ 255 := by
  obtain ⟨A, n, cap, rfl⟩ := okWide_slice Tryd.underlying56 hv
  obtain ⟨fuel, hf⟩ := h
  have hC : Tryd.prog.cellsOf 24 = 2 := by kernel_rfl
  rcases open_slice Tryd.underlying56 hf with ⟨hcs, _⟩ | ⟨a, len, cap', m, k, D, Pl, hcs, hb, hl, hm, hmm, hx, hi⟩
  · simp [Value.cells] at hcs
    obtain ⟨rfl, rfl, rfl⟩ := hcs
    exact ⟨none, [], 0, rfl, ⟨rfl, by decide, fun h => absurd h (Nat.lt_irrefl 0)⟩, Nat.le_refl _, fun f hf => by cases hf⟩
  · simp [Value.cells] at hcs
    obtain ⟨rfl, rfl, rfl⟩ := hcs
    unfold maxLen at hm
    have hat : ∀ i, i < n → ∃ s c : Int, W.cell? (a.add (i * 2)) = some (.int .u8 s) ∧ W.cell? (a.add (i * 2 + 1)) = some (.int .u32 c) ∧ 0 ≤ s ∧ s ≤ 255 := by
      intro i hin
      obtain ⟨cs', hc, ht⟩ := hi i (by simp at hmm; omega)
      rw [hC] at hc
      obtain ⟨_, hcl, hat⟩ := World.cells?_some hc
      obtain ⟨y0, y1, q, hy, hlen, h0, h1⟩ := trod_struct2 Tryd.underlying24 ht
      match cs', hcl with
      | [c0, c1], _ =>
        have e1 : Tryd.prog.cellsOf 5 = 1 := by kernel_rfl
        have e2 : Tryd.prog.cellsOf 22 = 1 := by kernel_rfl
        simp [e1, e2] at h0 h1
        obtain ⟨s, hs, _, hwf⟩ := DataW.trod_int Tryd.underlying5 h0
        obtain ⟨c, hc', _, _⟩ := DataW.trod_int Tryd.underlying22 h1
        have z0 := hat 0 (by decide)
        have z1 := hat 1 (by decide)
        simp at hs hc' z0 z1
        subst hs hc'
        refine ⟨s, c, ?_, ?_, ?_⟩
        · simpa [Addr.add] using z0
        · rw [← Deep.add_add]; exact z1
        · simp [Lit.wf, IntKind.min, IntKind.max, IntKind.signed, IntKind.bits] at hwf; omega
    have hex : ∃ l : List Flt, l.length = n ∧ ∀ i (h : i < l.length), W.cell? (a.add (i * 2)) = some (.int .u8 (l[i]).f0) ∧ W.cell? (a.add (i * 2 + 1)) = some (.int .u32 (l[i]).f1) ∧ 0 ≤ (l[i]).f0 ∧ (l[i]).f0 ≤ 255 := by
      clear hf hi hl hm hmm hx hb hv
      induction n with
      | zero => exact ⟨[], rfl, fun i h => absurd h (Nat.not_lt_zero i)⟩
      | succ n ih =>
        obtain ⟨l, hl, hc⟩ := ih (fun i h => hat i (by omega))
        obtain ⟨s, c, h1, h2, h3⟩ := hat n (by omega)
        refine ⟨l ++ [⟨s, c⟩], by simp [hl], fun i h => ?_⟩
        by_cases hlt : i < l.length
        · rw [List.getElem_append_left hlt]
          exact hc i hlt
        · have e : i = n := by simp at h; omega
          subst e
          rw [List.getElem_append_right (by omega)]
          simp [hl, h1, h2, h3]
    obtain ⟨l, hll, hc⟩ := hex
    refine ⟨some a, l, cap, by rw [hll], ⟨rfl, by omega, fun _ => ⟨a, rfl, fun j f hj => ?_⟩⟩, by omega, fun f hf => ?_⟩
    · obtain ⟨hjl, rfl⟩ := List.getElem?_eq_some_iff.1 hj
      obtain ⟨q0, q1, -⟩ := hc j hjl
      refine ⟨_, rfl, k24_mk W _, fun i u hu => ?_⟩
      have hi2 : i < 2 := (List.getElem?_eq_some_iff.1 hu).1
      have hsz : (k24).sz = 2 := rfl
      rw [hsz]
      match i, hi2, hu with
      | 0, _, hu => simp at hu; rw [← hu]; exact q0
      | 1, _, hu => simp at hu; rw [← hu]; exact q1
    · obtain ⟨j, hj, rfl⟩ := List.getElem_of_mem hf
      exact (hc j hj).2.2

theorem faultRow_walk (A0 : Option Addr) (l0 : List Flt) (c0 : Nat) (W : World) (hR : Kd.C k24 W A0 l0.length l0) (hc : l0.length ≤ c0) (hb : ∀ f ∈ l0, 0 ≤ f.f0 ∧ f.f0 ≤ 255) (hG : WFact W) :
    Calls Tryd.prog 8 #[.slice A0 l0.length c0] W fun e w' => e = .returned (.bool true) ∧ Below W.heap.size W w' := by
  obtain ⟨k, h⟩ := faultRow_pure l0 hb
  exact louverlaw01_FaultRow.calls k A0 c0 l0 true W ⟨hG⟩ hR hc h
end Go.Proofs.YtjjfkmniffbgkaaDoor
