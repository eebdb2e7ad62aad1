/- The statement of louver/louverlaw22.CommandGets: for every input it returns true, and each argument reads behind the call as it read before; no other condition than the row's own. -/
import Derived.Test.YtkgedjaihimafaaDoorMCommandGets6
import Derived.ChangeSlices
import Derived.Deep.Slices
import Derived.ChangeArms
import Derived.ChangeSame
import Derived.WideLaws
import Derived.OpenShut
import Derived.Lib.SmallJoins
import Derived.Test.YtkgedjaihimafaaDoorMCommandGets8
import Derived.Test.YtkgedjaihimafaaDoorCards
import Derived.Test.YtkgedjaihimafaaDoorTie
import Derived.WalkKit
import Derived.ProofKit
import Derived.ShutString
import Derived.ChangeOld
import Derived.Below
import Derived.SizedLaws
import Derived.Carry
import Derived.Deep.DeepHandedRow
import Derived.LaidHandle
import Derived.LaidLaws
import Derived.Lay
import Derived.Stop.Joined
/- A command that came in by value, opened. -/
namespace Go.Proofs.YtkgedjaihimafaaDoor
set_option linter.unusedVariables false
set_option linter.unusedSimpArgs false
open Go.RowKit Go.ChangeShapes Go.WideShapes Go.Deep Go.Joins Go.Proofs.YtkgedjaihimafaaDoorW.PrintWords Go.Proofs.YtkgedjaihimafaaDoor.QCmd Go.Proofs.YtkgedjaihimafaaDoor.Given
theorem list6 {α : Type} {l : List α} (h : l.length = 6) : ∃ c0 c1 c2 c3 c4 c5, l = [c0, c1, c2, c3, c4, c5] := by
  match l, h with
  | [c0, c1, c2, c3, c4, c5], _ => exact ⟨c0, c1, c2, c3, c4, c5, rfl⟩
theorem agg_of6 {cs : Array Value} {l : List Value} (h : cs.toList = l) : cs = l.toArray := by subst h; simp

set_option maxRecDepth 100000 in
theorem open_command {H : Type} {enc : TypeId × Value → H} {W : World} {fuel : Nat} {cs : List Value} {x : DataW H × List MemPlace}
    (h : DataW.trod enc Tryd.prog W 0 (fun _ => true) true fuel 26 cs = some x) :
    ∃ kind id topic seq code A c pay, cs = [.int .u8 kind, .int .u32 id, .string topic, .int .u64 seq, .int .u8 code, .slice A (List.length pay) c] ∧ CmdIn kind id seq code topic pay ∧ Kd.C (Kd.int .u8) W A pay.length pay ∧ pay.length ≤ c := by
  obtain ⟨xs, m, _, rfl, hl, hlen, hf⟩ := DataW.trod_struct Tryd.underlying26 h
  have hC : Tryd.prog.cellsOf 26 = 6 := by kernel_rfl
  rw [hC] at hl
  have e1 : Tryd.prog.cellsOf 5 = 1 := by kernel_rfl
  have e2 : Tryd.prog.cellsOf 22 = 1 := by kernel_rfl
  have e3 : Tryd.prog.cellsOf 24 = 1 := by kernel_rfl
  have e4 : Tryd.prog.cellsOf 9 = 1 := by kernel_rfl
  have e5 : Tryd.prog.cellsOf 23 = 1 := by kernel_rfl
  obtain ⟨c0, c1, c2, c3, c4, c5, rfl⟩ := list6 hl
  obtain ⟨y0, y1, y2, y3, y4, y5, rfl⟩ := list6 (show xs.length = 6 from hlen)
  have h0 := hf 0 _ rfl
  have h1 := hf 1 _ rfl
  have h2 := hf 2 _ rfl
  have h3 := hf 3 _ rfl
  have h4 := hf 4 _ rfl
  have h5 := hf 5 _ rfl
  clear hf h hl
  simp [e1, e2, e3, e4, e5] at h0 h1 h2 h3 h4 h5
  obtain ⟨n0, k0, _, w0⟩ := DataW.trod_int Tryd.underlying5 h0
  obtain ⟨n1, k1, _, w1⟩ := DataW.trod_int Tryd.underlying22 h1
  obtain ⟨s2, k2, _, _⟩ := DataW.trod_string Tryd.underlying9 h2
  obtain ⟨n3, k3, _, w3⟩ := DataW.trod_int Tryd.underlying23 h3
  obtain ⟨n4, k4, _, w4⟩ := DataW.trod_int Tryd.underlying5 h4
  obtain ⟨A, n5, cp, k5⟩ := slice_form Tryd.underlying24 h5
  simp at k0 k1 k2 k3 k4 k5
  subst k0 k1 k2 k3 k4 k5
  have z := open_ints Tryd.underlying24 Tryd.underlying5 e1 h5
  have hz : ∃ l : List Int, n5 = l.length ∧ ReadsInt W .u8 A l.length l ∧ (∀ x ∈ l, (Lit.int .u8 x).wf = true) ∧ l.length ≤ cp := by
    rcases z with ⟨hc, _⟩ | ⟨a, len, cap, zs, hc, _, g1, g2, g3, _, g4, g5⟩
    · injection hc with hc _
      injection hc with q1 q2 q3
      subst q1 q2 q3
      obtain ⟨l, hl1, hr, hm, hw, hcc⟩ := ReadsInt.ofRowC (w := W) (k := .u8) (a := none) (len := 0) (cap := 0) (zs := []) (.inl ⟨rfl, rfl, rfl, rfl⟩)
      exact ⟨l, hl1, hr, hw, hcc⟩
    · injection hc with hc _
      injection hc with q1 q2 q3
      subst q1 q2 q3
      obtain ⟨l, hl1, hr, hm, hw, hcc⟩ := ReadsInt.ofRowC (.inr ⟨a, rfl, g1, g2, by simpa using g3, g4, g5⟩)
      exact ⟨l, hl1, hr, hw, hcc⟩
  obtain ⟨l, rfl, r1, r3, r4⟩ := hz
  have wf8 : ∀ {n : Int}, (Lit.int .u8 n).wf = true → 0 ≤ n ∧ n ≤ 255 := fun h => by simp [Lit.wf, IntKind.min, IntKind.max, IntKind.signed, IntKind.bits] at h; omega
  have wf32 : ∀ {n : Int}, (Lit.int .u32 n).wf = true → 0 ≤ n ∧ n ≤ 4294967295 := fun h => by simp [Lit.wf, IntKind.min, IntKind.max, IntKind.signed, IntKind.bits] at h; omega
  have wf64 : ∀ {n : Int}, (Lit.int .u64 n).wf = true → 0 ≤ n ∧ n ≤ 18446744073709551615 := fun h => by simp [Lit.wf, IntKind.min, IntKind.max, IntKind.signed, IntKind.bits] at h; omega
  exact ⟨n0, n1, s2, n3, n4, A, cp, l, rfl, ⟨wf8 w0, wf32 w1, wf64 w3, wf8 w4, fun x hx => wf8 (r3 x hx)⟩, Kd.C_of_reads (d := (0 : Int)) (h1 := fun _ => rfl) r1, r4⟩

set_option maxRecDepth 100000 in
theorem open_command_arg {H : Type} {enc : TypeId × Value → H} {W : World} {b0 : Nat} {v : Value} {d : DataW H} {p : List MemPlace} (hv : Value.okWide Tryd.prog W .any b0 26 v)
    (h : DataW.Trod enc Tryd.prog W 0 (fun _ => true) true 26 v d p) : ∃ kind id topic seq code A c pay, v = .agg #[.int .u8 kind, .int .u32 id, .string topic, .int .u64 seq, .int .u8 code, .slice A (List.length pay) c] ∧ CmdIn kind id seq code topic pay ∧ Kd.C (Kd.int .u8) W A pay.length pay ∧ pay.length ≤ c := by
  obtain ⟨cs, rfl, -⟩ := Go.WideShapes.okWide_struct Tryd.underlying26 hv
  obtain ⟨fuel, hf⟩ := h
  obtain ⟨kind, id, topic, seq, code, A, c, pay, hc, h1⟩ := open_command hf
  exact ⟨kind, id, topic, seq, code, A, c, pay, congrArg Value.agg (agg_of6 hc), h1⟩
end Go.Proofs.YtkgedjaihimafaaDoor

/- The statement CommandGets, walked. -/
namespace Go.Proofs.YtkgedjaihimafaaDoor
set_option linter.unusedVariables false
set_option linter.unusedSimpArgs false
open Go.RowKit Go.Proofs.YtkgedjaihimafaaDoorW.PrintWords Go.Proofs.YtkgedjaihimafaaDoorW.PrintLast Go.Proofs.YtkgedjaihimafaaDoorW.PrintMore Go.Proofs.YtkgedjaihimafaaDoor.QCmd Go.Proofs.YtkgedjaihimafaaDoor.Given

theorem same_refl22 (k i : Int) (t : ByteArray) (q c : Int) (p : List Int) : louverref22_Same.f k i t q c p k i t q c p = some true := by
  unfold louverref22_Same.f
  simp
theorem fixed22_calls (w : World) : Calls Tryd.prog 11 #[] w fun e w' => e = .returned (.bool true) ∧ Below w.heap.size w w' := by
  obtain ⟨k, hk⟩ := ev_fixed22.rounds
  exact louverlaw22_fixed.calls k true w hk
theorem gets_great (w : World) (A : Option Addr) (c : Nat) (l : List Int) (hl : 9000 < l.length) :
    Calls Tryd.prog 4 #[.slice A l.length c] w fun e w' => e = .returned (.bool true) ∧ Below w.heap.size w w' := by
  refine of_post0 fun R hRR => ?_
  have HP := Lib.hid hRR
  have b1 : decide ((9000 : Int) < (l.length : Int)) = true := by rw [decide_eq_true_iff]; omega
  have b2 : decide (9000 < l.length) = true := by rw [decide_eq_true_iff]; omega
  clear hRR hl
  go_enter Tryd.func4, Tryd.ntmps4
  go_wp2_with fail
  refine (fixed22_calls _).mono ?_
  rintro e w1 ⟨rfl, hb⟩
  have HB := Lib.hid hb
  clear hb
  go_wp2_with fail
  exact HP.out _ _ ⟨rfl, HB.out⟩

theorem getR_why (l : List Int) : 0 ≤ (getR l).2.2.2.2.2.2.1 ∧ (getR l).2.2.2.2.2.2.1 ≤ 255 := by
  unfold getR
  repeat' split
  all_goals (simp only; omega)
theorem cell_below2 {w W : World} {g : Nat} {cs : Array Value} {t : TypeId} (h : w.heap[g]? = some (.cells cs t (0, 0))) (hb : Below w.heap.size w W) (i : Nat) : W.cell? ⟨g, i, none⟩ = cs[i]? := blk_cell (blk_below h hb) i
theorem cmdOk_topic {k : Int} {t : ByteArray} {q c : Int} {p : List Int} (h : cmdOk k t q c p = true) : t.size ≤ 64 := by
  unfold cmdOk at h
  simp only [Bool.and_eq_true, decide_eq_true_iff] at h
  obtain ⟨-, ht, -⟩ := h
  split at ht
  · exact topicOk_size ht
  · have := empty_of (t := t) (by simpa using ht)
    subst this
    decide
theorem put_own (w : World) (k i : Int) (t : ByteArray) (q c : Int) (pay : List Int) (A : Option Addr) (cap : Nat) (l : List Int) (hl : putL k i t q c pay = l) (hok : cmdOk k t q c pay = true) (hk : 0 ≤ k) (hc : 0 ≤ c) (hi0 : 0 ≤ i) (hi1 : i ≤ 4294967295) (hp : pay.length ≤ 9000) (hR : ReadsInt w .u8 A pay.length pay) (hcap : pay.length ≤ cap) :
    Calls Tryd.prog 12 #[.agg (cmdC k i t q c (.slice A pay.length cap))] w fun e w' => ∃ v, e = .returned v ∧ w'.ownsRow w.heap.size 5 1 v l.length (nums .u8 l) ∧ Below w.heap.size w w' := by
  obtain ⟨n, hn⟩ := (ev_put k i t q c pay hk hc hi0 hi1 (by have := cmdOk_topic hok; omega) hp).rounds
  rw [hok, if_pos rfl, hl] at hn
  refine (command_Put.calls n k i t q c A cap pay l w (Kd.C_of_reads (d := (0 : Int)) (h1 := fun _ => rfl) hR) hcap hn).mono ?_
  rintro e w' ⟨v, he, hr, hb⟩
  exact ⟨v, he, Kd.own_of_R hr, hb⟩
set_option maxHeartbeats 2000000 in
set_option maxRecDepth 100000 in
theorem gets_walk (w : World) (A : Option Addr) (c : Nat) (l : List Int) (hl : l.length ≤ 9000) (hlc : l.length ≤ c) (hR : ReadsInt w .u8 A l.length l) (hby : Byte8 l) :
    Calls Tryd.prog 4 #[.slice A l.length c] w fun e w' => e = .returned (.bool true) ∧ Below w.heap.size w w' := by
  refine of_post0 fun R hRR => ?_
  have HP := Lib.hid hRR
  have b1 : decide ((9000 : Int) < (l.length : Int)) = false := by rw [decide_eq_false_iff_not]; omega
  have b2 : decide (9000 < l.length) = false := by rw [decide_eq_false_iff_not]; omega
  have HBY := Lib.hid hby
  have HR := Lib.hid hR
  have HO := own_empty w w.heap.size 5 (Nat.le_refl _)
  have hR1 : ReadsInt (w.alloc (.cells #[] 5)) .u8 A l.length l := hR.below (below_alloc (Below.refl w.heap.size w) _)
  have hcv : ∀ W, Below w.heap.size w W → (convert 24 9 (.slice A l.length c)).run Tryd.prog W = .ok (.string (strOfNums l)) W := fun W hW => string_of_reads Tryd.underlying24 Tryd.underlying5 Tryd.underlying9 (hR.below hW)
  have HCV := Lib.hid hcv
  clear hRR hby hR hcv
  go_enter Tryd.func4, Tryd.ntmps4
  go_wp2_with (at_builtin; refine list_append_row _ (by rfl) (.tmp 14) (.tmp 15) 24 (by rfl) w.heap.size 5 .u8 1 Tryd.underlying24 Tryd.infoB8 (by decide) (.slice (some ⟨w.heap.size, 0, none⟩) 0 0) [] l A l.length c (by rfl) (by rfl) HO hR1 (by simp) (by simp; omega) ?_; intro v1 w2 hown hgrow hat; simp only [List.nil_append] at hown; obtain ⟨A2, c2, rfl⟩ := own_slice hown; have H2 := Lib.hid (And.intro hown (And.intro hgrow hat)); clear hown hgrow hat HO hR1)
  have hb2 : Below w.heap.size w w2 := (below_alloc (Below.refl w.heap.size w) _).grown H2.out.2.1 (by simp) (fun k hk => by simp [Value.ownBlock] at hk; omega)
  refine (get_calls w2 A2 c2 l (by omega) (own_cap H2.out.1) (own_reads' H2.out.1) HBY.out).mono ?_
  rintro e w3 ⟨⟨v3, rfl, hO3⟩, hb3⟩
  have hwhy := getR_why l
  have hin := getR_in HBY.out
  have HREF := Lib.hid (fun W => refGet_calls W l (by omega) HBY.out)
  have HBK := Lib.hid (fun k i t q c p why => putL_getR (l := l) (kind := k) (id := i) (topic := t) (seq := q) (code := c) (pay := p) (why := why) HBY.out)
  generalize getR l = r at *
  obtain ⟨k, i, t, q, cc, pay, why, ok⟩ := r
  simp only at hwhy hO3 hin
  obtain ⟨hy0, hy1⟩ := hwhy
  obtain ⟨A3, c3, rfl⟩ := own_slice hO3
  have hs2 := hb2.size
  have hs3 := hb3.size
  have h4own := (pw_own_below H2.out.1 hb3).alloc (.cells (cmdC k i t q cc (.slice A3 pay.length c3)) 26)
  obtain ⟨W5, hcl, hwp⟩ := clear_own _ w.heap.size 0 _ _ _ h4own
  have hne3 : (Value.slice A3 pay.length c3).ownBlock = none ∨ (Value.slice A3 pay.length c3).ownBlock ≠ (Value.slice A2 l.length c2).ownBlock := by
    cases h3 : (Value.slice A3 pay.length c3).ownBlock with
    | none => exact .inl rfl
    | some b3 =>
      refine .inr fun e => ?_
      have q1 := own_base hO3 b3 h3
      have q2 := own_lt H2.out.1 b3 e.symm
      omega
  have hO5 := hwp.own (hO3.alloc (.cells (cmdC k i t q cc (.slice A3 pay.length c3)) 26)) hne3
  have hk5 := hwp.blk (blk_new w3 (.cells (cmdC k i t q cc (.slice A3 pay.length c3)) 26)) (own_ne h4own (blk_new w3 _) (by decide))
  have hB5 : Below w.heap.size w W5 := ((hb2.trans (hb3.mono hs2)).alloc (by omega) _).grown hwp.grown (by simp; omega) (own_base h4own)
  have HC5 := HCV.out W5 hB5
  have H5 := Lib.hid (And.intro hO5 (And.intro hk5 hB5))
  have HIN := Lib.hid hin
  clear hb2 hb3 hO3 h4own hwp hne3 hO5 hk5 hB5 hin
  unfold cmdC at hcl
  go_wp2_with fail
  refine (HREF.out _).mono ?_
  rintro e w6 ⟨⟨A6, c6, rfl, hr6, hc6⟩, hb6⟩
  simp only at hr6 hc6
  have hk6 := blk_below H5.out.2.1 hb6
  have hO6 := pw_own_below H5.out.1 hb6
  have hB6 := H5.out.2.2.trans (hb6.mono H5.out.2.2.size)
  have p0 := blk_cell hk6 0
  have p1 := blk_cell hk6 1
  have p2 := blk_cell hk6 2
  have p3 := blk_cell hk6 3
  have p4 := blk_cell hk6 4
  have p5 := blk_cell hk6 5
  simp at p0 p1 p2 p3 p4 p5
  have hz6 : w3.heap.size < w6.heap.size := blk_lt hk6
  have H6 := Lib.hid (And.intro hk6 (And.intro hO6 (And.intro hB6 (And.intro hr6 hc6))))
  clear hb6 hk6 hO6 hB6 hr6 hc6 HC5
  go_wp2_with fail
  have hbW := below_alloc (Below.refl w6.heap.size w6) (.cells (cmdC k i t q cc (.slice A6 pay.length c6)) 26)
  refine (louverref22_Same.calls k i t q cc A3 c3 pay k i t q cc A6 c6 pay true _ (Kd.C_of_reads (d := (0 : Int)) (h1 := fun _ => rfl) ((own_reads' H6.out.2.1).below hbW)) (own_cap H6.out.2.1) (Kd.C_of_reads (d := (0 : Int)) (h1 := fun _ => rfl) (H6.out.2.2.2.1.below hbW)) H6.out.2.2.2.2 (same_refl22 k i t q cc pay)).mono ?_
  rintro e w8 ⟨rfl, hb8⟩
  have hk8 := blk_below (blk_alloc H6.out.1 (.cells (cmdC k i t q cc (.slice A6 pay.length c6)) 26)) hb8
  have hO8 := pw_own_below (H6.out.2.1.alloc (.cells (cmdC k i t q cc (.slice A6 pay.length c6)) 26)) hb8
  have hB8 := (H6.out.2.2.1.trans (hbW.mono H6.out.2.2.1.size)).trans (hb8.mono (Nat.le_trans H6.out.2.2.1.size hbW.size))
  have hC8 := HCV.out w8 hB8
  have s0 := blk_cell hk8 0
  have s1 := blk_cell hk8 1
  have s2 := blk_cell hk8 2
  have s3 := blk_cell hk8 3
  have s4 := blk_cell hk8 4
  have s5 := blk_cell hk8 5
  simp at s0 s1 s2 s3 s4 s5
  have hz8 : w3.heap.size < w8.heap.size := blk_lt hk8
  have H8 := Lib.hid (And.intro hk8 (And.intro hO8 hB8))
  clear hbW hb8 hk8 hO8 hB8 p0 p1 p2 p3 p4 p5
  have HC := Lib.hid (fun W (hW : Below w8.heap.size w8 W) => HCV.out W (H8.out.2.2.trans (hW.mono H8.out.2.2.size)))
  cases ok
  · go_wp2_with fail
    refine start_ (n := 14) (S := fun w' => True) (ds := []) #[false, false, false, false, false, false, false, false, false, false, false, false, false, false] (by kernel_rfl) rfl rfl trivial (fun hHeld => ?_)
    refine one_ (i := 0) (N := some 46) #[true, false, false, false, false, false, false, false, false, false, false, false, false, false] rfl rfl (by kernel_rfl) (by decide) (fun K hK => ?_)
    refine goes_ Tryd.func11 (by kernel_rfl) rfl #[] (by rfl) rfl rfl (by (try simp only [List.map_toArray, List.map_cons, List.map_nil]); first | done | rfl) ?_
    refine (fixed22_calls _).mono ?_
    rintro e w9 ⟨rfl, hb9⟩
    have H9 := Lib.hid hb9
    clear hb9
    refine ⟨_, rfl, ?_⟩
    refine hK.out _ _ trivial (fun hHeld => ?_)
    clear hK K
    refine norm_ (a' := ?_) ?_ ?_
    rotate_left
    · show Act.put _ (some 46) _ = _
      simp only [Act.put, List.setIfInBounds_toArray, List.set_cons_zero, List.set_cons_succ]
      rfl
    refine pure_ (i := 1) (N := some 47) (v := ?_) (a' := ?_) #[true, true, false, false, false, false, false, false, false, false, false, false, false, false] rfl rfl (by kernel_rfl) (fun _ _ _ h => h) (Or.inl ⟨by rfl, ?_⟩) ?_ ?_
    rotate_left
    · intro w'
      go_simp
      with_reducible rfl
    rotate_left
    · simp only [Act.put, List.setIfInBounds_toArray, List.set_cons_zero, List.set_cons_succ]
      rfl
    refine pure_ (i := 2) (N := some 48) (v := ?_) (a' := ?_) #[true, true, true, false, false, false, false, false, false, false, false, false, false, false] rfl rfl (by kernel_rfl) (fun _ _ _ h => h) (Or.inl ⟨by rfl, ?_⟩) ?_ ?_
    rotate_left
    · intro w'
      go_simp
      with_reducible rfl
    rotate_left
    · simp only [Act.put, List.setIfInBounds_toArray, List.set_cons_zero, List.set_cons_succ]
      rfl
    refine pure_ (i := 3) (N := some 49) (v := ?_) (a' := ?_) #[true, true, true, true, false, false, false, false, false, false, false, false, false, false] rfl rfl (by kernel_rfl) (fun _ _ _ h => h) (Or.inl ⟨by rfl, ?_⟩) ?_ ?_
    rotate_left
    · intro w'
      go_simp
      with_reducible rfl
    rotate_left
    · simp only [Act.put, List.setIfInBounds_toArray, List.set_cons_zero, List.set_cons_succ]
      rfl
    refine pure_ (i := 4) (N := some 50) (v := ?_) (a' := ?_) #[true, true, true, true, true, false, false, false, false, false, false, false, false, false] rfl rfl (by kernel_rfl) (fun _ _ _ h => h) (Or.inl ⟨by rfl, ?_⟩) ?_ ?_
    rotate_left
    · intro w'
      go_simp
      with_reducible rfl
    rotate_left
    · simp only [Act.put, List.setIfInBounds_toArray, List.set_cons_zero, List.set_cons_succ]
      rfl
    refine pure_ (i := 5) (N := some 51) (v := undef) (a' := ?_) #[true, true, true, true, true, true, false, false, false, false, false, false, false, false] rfl rfl (by kernel_rfl) (fun _ _ _ h => h) (Or.inr ⟨by rfl, rfl⟩) ?_ ?_
    rotate_left
    · simp only [Act.put, List.setIfInBounds_toArray, List.set_cons_zero, List.set_cons_succ]
      rfl
    refine pure_ (i := 6) (N := some 52) (v := undef) (a' := ?_) #[true, true, true, true, true, true, true, false, false, false, false, false, false, false] rfl rfl (by kernel_rfl) (fun _ _ _ h => h) (Or.inr ⟨by rfl, rfl⟩) ?_ ?_
    rotate_left
    · simp only [Act.put, List.setIfInBounds_toArray, List.set_cons_zero, List.set_cons_succ]
      rfl
    refine pure_ (i := 7) (N := some 53) (v := undef) (a' := ?_) #[true, true, true, true, true, true, true, true, false, false, false, false, false, false] rfl rfl (by kernel_rfl) (fun _ _ _ h => h) (Or.inr ⟨by rfl, rfl⟩) ?_ ?_
    rotate_left
    · simp only [Act.put, List.setIfInBounds_toArray, List.set_cons_zero, List.set_cons_succ]
      rfl
    refine pure_ (i := 8) (N := some 54) (v := undef) (a' := ?_) #[true, true, true, true, true, true, true, true, true, false, false, false, false, false] rfl rfl (by kernel_rfl) (fun _ _ _ h => h) (Or.inr ⟨by rfl, rfl⟩) ?_ ?_
    rotate_left
    · simp only [Act.put, List.setIfInBounds_toArray, List.set_cons_zero, List.set_cons_succ]
      rfl
    refine pure_ (i := 9) (N := some 55) (v := undef) (a' := ?_) #[true, true, true, true, true, true, true, true, true, true, false, false, false, false] rfl rfl (by kernel_rfl) (fun _ _ _ h => h) (Or.inr ⟨by rfl, rfl⟩) ?_ ?_
    rotate_left
    · simp only [Act.put, List.setIfInBounds_toArray, List.set_cons_zero, List.set_cons_succ]
      rfl
    refine pure_ (i := 10) (N := some 56) (v := undef) (a' := ?_) #[true, true, true, true, true, true, true, true, true, true, true, false, false, false] rfl rfl (by kernel_rfl) (fun _ _ _ h => h) (Or.inr ⟨by rfl, rfl⟩) ?_ ?_
    rotate_left
    · simp only [Act.put, List.setIfInBounds_toArray, List.set_cons_zero, List.set_cons_succ]
      rfl
    refine pure_ (i := 11) (N := some 57) (v := ?_) (a' := ?_) #[true, true, true, true, true, true, true, true, true, true, true, true, false, false] rfl rfl (by kernel_rfl) (fun _ _ _ h => h) (Or.inl ⟨by rfl, ?_⟩) ?_ ?_
    rotate_left
    · intro w'
      go_simp
      with_reducible rfl
    rotate_left
    · simp only [Act.put, List.setIfInBounds_toArray, List.set_cons_zero, List.set_cons_succ]
      rfl
    refine pure_ (i := 12) (N := some 58) (v := ?_) (a' := ?_) #[true, true, true, true, true, true, true, true, true, true, true, true, true, false] rfl rfl (by kernel_rfl) (fun _ _ _ h => h) (Or.inl ⟨by rfl, ?_⟩) ?_ ?_
    rotate_left
    · intro w'
      go_simp
      with_reducible rfl
    rotate_left
    · simp only [Act.put, List.setIfInBounds_toArray, List.set_cons_zero, List.set_cons_succ]
      rfl
    refine pure_ (i := 13) (N := some 2) (v := ?_) (a' := ?_) #[true, true, true, true, true, true, true, true, true, true, true, true, true, true] rfl rfl (by kernel_rfl) (fun _ _ _ h => h) (Or.inl ⟨by rfl, ?_⟩) ?_ ?_
    rotate_left
    · intro w'
      go_simp
      with_reducible rfl
    rotate_left
    · simp only [Act.put, List.setIfInBounds_toArray, List.set_cons_zero, List.set_cons_succ]
      rfl
    refine done_ (by kernel_rfl) ?_
    go_wp2_with fail
    exact HP.out _ _ ⟨rfl, H8.out.2.2.trans (((Below.refl w8.heap.size w8).drew.trans (H9.out.mono (Nat.le_refl _))).mono H8.out.2.2.size)⟩
  · obtain ⟨hpl, hwhy, hok⟩ := HBK.out k i t q cc pay why rfl
    subst hwhy
    have HPO := Lib.hid (fun W (hW : Below w8.heap.size w8 W) => put_own W k i t q cc pay A3 c3 l hpl hok HIN.out.1.k.1 HIN.out.1.c.1 HIN.out.1.i.1 HIN.out.1.i.2 (by have := HIN.out.2.1; omega) ((own_reads' H8.out.2.1).below hW) (own_cap H8.out.2.1))
    clear hpl hok
    go_wp2_with fail
    have HB00 := Lib.hid (show Below w8.heap.size w8 w8.drew from (Below.refl _ _).drew)
    refine start_ (n := 14) (S := fun w' => w'.cell? ⟨w3.heap.size, 0, none⟩ = some (.int .u8 k) ∧ w'.cell? ⟨w3.heap.size, 1, none⟩ = some (.int .u32 i) ∧ w'.cell? ⟨w3.heap.size, 2, none⟩ = some (.string t) ∧ w'.cell? ⟨w3.heap.size, 3, none⟩ = some (.int .u64 q) ∧ w'.cell? ⟨w3.heap.size, 4, none⟩ = some (.int .u8 cc) ∧ w'.cell? ⟨w3.heap.size, 5, none⟩ = some (.slice A3 pay.length c3) ∧ (convert 24 9 (.slice A l.length c)).run Tryd.prog w' = .ok (.string (strOfNums l)) w') (ds := []) #[false, false, false, false, false, false, false, false, false, false, false, false, false, false] (by kernel_rfl) rfl rfl ⟨s0, s1, s2, s3, s4, s5, HC.out _ HB00.out⟩ (fun hHeld => ?_)
    refine one_ (i := 0) (N := some 46) #[true, false, false, false, false, false, false, false, false, false, false, false, false, false] rfl rfl (by kernel_rfl) (by decide) (fun K hK => ?_)
    refine goes_ Tryd.func11 (by kernel_rfl) rfl #[] (by rfl) rfl rfl (by (try simp only [List.map_toArray, List.map_cons, List.map_nil]); first | done | rfl) ?_
    refine (fixed22_calls _).mono ?_
    rintro e w9 ⟨rfl, hb9⟩
    have HB9 := Lib.hid (HB00.out.trans (hb9.mono (Nat.le_refl _)))
    have x0 := cell_below2 H8.out.1 HB9.out 0
    have x1 := cell_below2 H8.out.1 HB9.out 1
    have x2 := cell_below2 H8.out.1 HB9.out 2
    have x3 := cell_below2 H8.out.1 HB9.out 3
    have x4 := cell_below2 H8.out.1 HB9.out 4
    have x5 := cell_below2 H8.out.1 HB9.out 5
    simp at x0 x1 x2 x3 x4 x5
    clear hb9
    refine ⟨_, rfl, ?_⟩
    refine hK.out _ _ ⟨x0, x1, x2, x3, x4, x5, HC.out _ HB9.out⟩ (fun hHeld => ?_)
    clear hK K
    refine norm_ (a' := ?_) ?_ ?_
    rotate_left
    · show Act.put _ (some 46) _ = _
      simp only [Act.put, List.setIfInBounds_toArray, List.set_cons_zero, List.set_cons_succ]
      rfl
    refine pure_ (i := 1) (N := some 47) (v := ?_) (a' := ?_) #[true, true, false, false, false, false, false, false, false, false, false, false, false, false] rfl rfl (by kernel_rfl) (fun _ _ _ h => h) (Or.inl ⟨by rfl, ?_⟩) ?_ ?_
    rotate_left
    · intro w'
      go_simp
      with_reducible rfl
    rotate_left
    · simp only [Act.put, List.setIfInBounds_toArray, List.set_cons_zero, List.set_cons_succ]
      rfl
    refine pure_ (i := 2) (N := some 48) (v := ?_) (a' := ?_) #[true, true, true, false, false, false, false, false, false, false, false, false, false, false] rfl rfl (by kernel_rfl) (fun _ _ _ h => h) (Or.inl ⟨by rfl, ?_⟩) ?_ ?_
    rotate_left
    · intro w'
      go_simp
      with_reducible rfl
    rotate_left
    · simp only [Act.put, List.setIfInBounds_toArray, List.set_cons_zero, List.set_cons_succ]
      rfl
    refine pure_ (i := 3) (N := some 49) (v := ?_) (a' := ?_) #[true, true, true, true, false, false, false, false, false, false, false, false, false, false] rfl rfl (by kernel_rfl) (fun _ _ _ h => h) (Or.inl ⟨by rfl, ?_⟩) ?_ ?_
    rotate_left
    · intro w'
      go_simp
      with_reducible rfl
    rotate_left
    · simp only [Act.put, List.setIfInBounds_toArray, List.set_cons_zero, List.set_cons_succ]
      rfl
    refine pure_ (i := 4) (N := some 50) (v := ?_) (a' := ?_) #[true, true, true, true, true, false, false, false, false, false, false, false, false, false] rfl rfl (by kernel_rfl) (fun _ _ _ h => h) (Or.inl ⟨by rfl, ?_⟩) ?_ ?_
    rotate_left
    · intro w'
      go_simp
      with_reducible rfl
    rotate_left
    · simp only [Act.put, List.setIfInBounds_toArray, List.set_cons_zero, List.set_cons_succ]
      rfl
    refine take_ (i := 5) (N := some 51) (v := ?_) (a' := ?_) #[true, true, true, true, true, true, false, false, false, false, false, false, false, false] rfl rfl (by kernel_rfl) (fun _ _ _ h => h) (Or.inl ⟨by rfl, ?_⟩) hHeld ?_ ?_
    rotate_left
    · rintro w' ⟨s0, s1, s2, s3, s4, s5, s6⟩
      go_simp
      with_reducible rfl
    rotate_left
    · simp only [Act.put, List.setIfInBounds_toArray, List.set_cons_zero, List.set_cons_succ]
      rfl
    refine pure_ (i := 8) (N := some 54) (v := ?_) (a' := ?_) #[true, true, true, true, true, true, false, false, true, false, false, false, false, false] rfl rfl (by kernel_rfl) (fun _ _ _ h => h) (Or.inl ⟨by rfl, ?_⟩) ?_ ?_
    rotate_left
    · intro w'
      go_simp
      with_reducible rfl
    rotate_left
    · simp only [Act.put, List.setIfInBounds_toArray, List.set_cons_zero, List.set_cons_succ]
      rfl
    refine take_ (i := 9) (N := some 55) (v := ?_) (a' := ?_) #[true, true, true, true, true, true, false, false, true, true, false, false, false, false] rfl rfl (by kernel_rfl) (fun _ _ _ h => h) (Or.inl ⟨by rfl, ?_⟩) hHeld ?_ ?_
    rotate_left
    · rintro w' ⟨s0, s1, s2, s3, s4, s5, s6⟩
      go_simp
      with_reducible rfl
    rotate_left
    · simp only [Act.put, List.setIfInBounds_toArray, List.set_cons_zero, List.set_cons_succ]
      rfl
    refine one_ (i := 6) (N := some 52) #[true, true, true, true, true, true, true, false, true, true, false, false, false, false] rfl rfl (by kernel_rfl) (by decide) (fun K hK => ?_)
    refine goes_ Tryd.func12 (by kernel_rfl) rfl #[.agg (cmdC k i t q cc (.slice A3 pay.length c3))] (by rfl) rfl rfl (by (try simp only [List.map_toArray, List.map_cons, List.map_nil]); first | done | rfl) ?_
    refine (HPO.out _ HB9.out).mono ?_
    rintro e w10 ⟨v10, rfl, hO10, hb10⟩
    have HB10 := Lib.hid (HB9.out.trans (hb10.mono HB9.out.size))
    have y0 := cell_below2 H8.out.1 HB10.out 0
    have y1 := cell_below2 H8.out.1 HB10.out 1
    have y2 := cell_below2 H8.out.1 HB10.out 2
    have y3 := cell_below2 H8.out.1 HB10.out 3
    have y4 := cell_below2 H8.out.1 HB10.out 4
    have y5 := cell_below2 H8.out.1 HB10.out 5
    simp at y0 y1 y2 y3 y4 y5
    have HV10 := Lib.hid (own_string (P := Tryd.prog) Tryd.underlying24 Tryd.underlying5 Tryd.underlying9 hO10)
    clear hb10 hO10
    refine ⟨_, rfl, ?_⟩
    refine hK.out _ _ ⟨y0, y1, y2, y3, y4, y5, HC.out _ HB10.out⟩ (fun hHeld => ?_)
    clear hK K
    refine norm_ (a' := ?_) ?_ ?_
    rotate_left
    · show Act.put _ (some 52) _ = _
      simp only [Act.put, List.setIfInBounds_toArray, List.set_cons_zero, List.set_cons_succ]
      rfl
    refine one_ (i := 7) (N := some 53) #[true, true, true, true, true, true, true, true, true, true, false, false, false, false] rfl rfl (by kernel_rfl) (by decide) (fun K hK => ?_)
    have hv10 := HV10.out
    refine event_step (w1 := w10) (v := .string (strOfNums l)) (by rfl) (by go_simp) ?_
    clear hv10
    refine hK.out _ _ ⟨y0, y1, y2, y3, y4, y5, HC.out _ HB10.out⟩ (fun hHeld => ?_)
    clear hK K
    refine norm_ (a' := ?_) ?_ ?_
    rotate_left
    · show Act.put _ (some 53) _ = _
      simp only [Act.put, List.setIfInBounds_toArray, List.set_cons_zero, List.set_cons_succ]
      rfl
    refine pure_ (i := 10) (N := some 56) (v := ?_) (a' := ?_) #[true, true, true, true, true, true, true, true, true, true, true, false, false, false] rfl rfl (by kernel_rfl) (fun _ _ _ h => h) (Or.inl ⟨by rfl, ?_⟩) ?_ ?_
    rotate_left
    · intro w'
      go_simp
      with_reducible rfl
    rotate_left
    · simp only [Act.put, List.setIfInBounds_toArray, List.set_cons_zero, List.set_cons_succ]
      rfl
    refine pure_ (i := 11) (N := some 57) (v := ?_) (a' := ?_) #[true, true, true, true, true, true, true, true, true, true, true, true, false, false] rfl rfl (by kernel_rfl) (fun _ _ _ h => h) (Or.inl ⟨by rfl, ?_⟩) ?_ ?_
    rotate_left
    · intro w'
      go_simp
      with_reducible rfl
    rotate_left
    · simp only [Act.put, List.setIfInBounds_toArray, List.set_cons_zero, List.set_cons_succ]
      rfl
    refine pure_ (i := 12) (N := some 58) (v := ?_) (a' := ?_) #[true, true, true, true, true, true, true, true, true, true, true, true, true, false] rfl rfl (by kernel_rfl) (fun _ _ _ h => h) (Or.inl ⟨by rfl, ?_⟩) ?_ ?_
    rotate_left
    · intro w'
      go_simp
      with_reducible rfl
    rotate_left
    · simp only [Act.put, List.setIfInBounds_toArray, List.set_cons_zero, List.set_cons_succ]
      rfl
    refine pure_ (i := 13) (N := some 2) (v := ?_) (a' := ?_) #[true, true, true, true, true, true, true, true, true, true, true, true, true, true] rfl rfl (by kernel_rfl) (fun _ _ _ h => h) (Or.inl ⟨by rfl, ?_⟩) ?_ ?_
    rotate_left
    · intro w'
      go_simp
      with_reducible rfl
    rotate_left
    · simp only [Act.put, List.setIfInBounds_toArray, List.set_cons_zero, List.set_cons_succ]
      rfl
    refine done_ (by kernel_rfl) ?_
    go_wp2_with fail
    exact HP.out _ _ ⟨rfl, H8.out.2.2.trans (HB10.out.mono H8.out.2.2.size)⟩
end Go.Proofs.YtkgedjaihimafaaDoor

/- A row of bytes that came in, opened. -/
namespace Go.Proofs.YtkgedjaihimafaaDoor
set_option linter.unusedVariables false
set_option linter.unusedSimpArgs false
open Go.RowKit Go.ChangeShapes Go.WideShapes Go.Deep Go.Joins Go.Proofs.YtkgedjaihimafaaDoorW.PrintWords
set_option maxRecDepth 100000 in
theorem open_bytes_arg {H : Type} {enc : TypeId × Value → H} {W : World} {b0 : Nat} {v : Value} {d : DataW H} {p : List MemPlace} (hv : Value.okWide Tryd.prog W .any b0 24 v)
    (h : DataW.Trod enc Tryd.prog W 0 (fun _ => true) true 24 v d p) : ∃ (A : Option Addr) (l : List Int) (c : Nat), v = .slice A l.length c ∧ ReadsInt W .u8 A l.length l ∧ l.length ≤ c ∧ ∀ x ∈ l, 0 ≤ x ∧ x ≤ 255 := by
  obtain ⟨A, n, cap, rfl⟩ := okWide_slice Tryd.underlying24 hv
  obtain ⟨fuel, hf⟩ := h
  have e1 : Tryd.prog.cellsOf 5 = 1 := by kernel_rfl
  have wf8 : ∀ {n : Int}, (Lit.int .u8 n).wf = true → 0 ≤ n ∧ n ≤ 255 := fun h => by simp [Lit.wf, IntKind.min, IntKind.max, IntKind.signed, IntKind.bits] at h; omega
  rcases open_ints Tryd.underlying24 Tryd.underlying5 e1 hf with ⟨hc, _⟩ | ⟨a, len, cap', zs, hc, _, g1, g2, g3, _, g4, g5⟩
  · simp [Value.cells] at hc
    obtain ⟨rfl, rfl, rfl⟩ := hc
    obtain ⟨l, hl1, hr, hm, hw, hcc⟩ := ReadsInt.ofRowC (w := W) (k := .u8) (a := none) (len := 0) (cap := 0) (zs := []) (.inl ⟨rfl, rfl, rfl, rfl⟩)
    exact ⟨none, l, 0, by rw [← hl1], hr, hcc, fun x hx => wf8 (hw x hx)⟩
  · simp [Value.cells] at hc
    obtain ⟨rfl, rfl, rfl⟩ := hc
    obtain ⟨l, hl1, hr, hm, hw, hcc⟩ := ReadsInt.ofRowC (.inr ⟨a, rfl, g1, g2, by simpa using g3, g4, g5⟩)
    exact ⟨some a, l, cap, by rw [← hl1], hr, hcc, fun x hx => wf8 (hw x hx)⟩

theorem commandGets_walk (A : Option Addr) (c : Nat) (l : List Int) (w : World) (hlc : l.length ≤ c) (hR : ReadsInt w .u8 A l.length l) (hby : Byte8 l) :
    Calls Tryd.prog 4 #[.slice A l.length c] w fun e w' => e = .returned (.bool true) ∧ Below w.heap.size w w' := by
  by_cases hl : l.length ≤ 9000
  · exact gets_walk w A c l hl hlc hR hby
  · exact gets_great w A c l (by omega)
end Go.Proofs.YtkgedjaihimafaaDoor

/- The statement of louver/louverlaw22.CommandGets: for every input it returns true, and each argument reads behind the call as it read before; no other condition than the row's own. -/
namespace Go.Proofs.YtkgedjaihimafaaDoor.commandGets
set_option linter.unusedVariables false
set_option linter.unusedSimpArgs false
open Go.ChangeShapes Go.WideShapes Go.ChangeAt Go.RowKit
open Go.ChangeMaps (open_string shut_string)
set_option linter.unusedVariables false
theorem own : ownKnob Tryd.prog.godebug = none := by kernel_rfl
theorem laidOut : laidOutB Tryd.prog = true := by kernel_rfl
set_option maxRecDepth 100000 in
theorem contract (H : Type) (enc : TypeId × Value → H) (W : World) (base : Nat) (args : Array Value) (ds gs : List (DataW H)) (before : List MemPlace)
    (hval : ∀ (j : Nat) t v, Tryd.f4.params[j]? = some t → args[j]? = some v → Value.okWide Tryd.prog W .any base t v)
    (hW : DataW.Whole enc Tryd.prog Tryd.f4.params.toList Rows.commandGetsSpec.vars false W args.toList ds gs before)
    (hsz : (DataW.weightsEach Tryd.prog (Tryd.f4.params.toList ++ Rows.commandGetsSpec.plain.varTypes Tryd.prog) (ds ++ gs)).all (· ≤ reachBytes) = true)
    (hL : laidMetH Tryd.prog Rows.commandGetsRow.laid W) (hS : W.ShapedOpen Tryd.prog) :
    Calls Tryd.prog 4 args W fun e W' => ∃ v, e = .returned v ∧ Rows.commandGetsSpec.post enc Tryd.prog Tryd.f4 false true false false W args v W' := by
  have hW' := hW
  obtain ⟨p, q, hA0, hV, rfl, hfz, hnd⟩ := hW
  have hA : DataW.TrodAll enc Tryd.prog W 0 (fun _ => true) true Tryd.f4.params.toList args.toList ds p := hA0
  rw [Tryd.params4] at hA hval hsz
  obtain ⟨v0, vs0, d0, ds0, p0, q0, hargs, rfl, rfl, h0, r0⟩ := trodAll_cons hA
  obtain ⟨rfl, rfl, rfl⟩ := trodAll_nil r0
  obtain rfl : args = #[v0] := by cases args; simp_all
  obtain ⟨rfl, rfl⟩ := trodVars_none hV
  have k0 := h0
  have ok0 := (hval 0 24 v0 rfl rfl)
  have lt0 : ∀ x ∈ p0, x.block < W.heap.size := by obtain ⟨m, hm⟩ := k0; exact DataW.trod_lt m _ _ _ hm
  obtain ⟨A0, l0, c0, rfl, hR0, hc0, hb0⟩ := open_bytes_arg ok0 h0
  clear hA0 hval
  refine (commandGets_walk A0 c0 l0 W hc0 hR0 hb0).mono fun e W' ⟨he, bel⟩ => ?_
  subst he
  exact ⟨_, rfl, _, _, _, [], _, [], hW', trodAll_mk1 (shut_bool Tryd.underlying4 _), (trodAll_cons_mk (Below.trod laidOut (by kernel_rfl) (of_decide_eq_true (by kernel_rfl)) k0 bel lt0) trodAll_mk0), rfl, bel.frame _, fun h => by cases h⟩
noncomputable def laidWorld (os : Os) : World := World.laidAll Tryd.prog os Rows.commandGetsRow.laid
set_option maxRecDepth 100000 in
theorem laid_met (os : Os) (args : Array Value) : laidMetH Tryd.prog Rows.commandGetsRow.laid ((laidWorld os).forCall (fun _ _ => 0) ⟨#[], args, []⟩).memory := by rw [MakeChecks.laidMetH_plain _ _ _ (by kernel_rfl)]; exact laidMet_laidAll _ (by kernel_rfl) (by kernel_rfl)
set_option maxRecDepth 100000 in
theorem lifted (os : Os) (started : os.Started) (H : Type) (enc : TypeId × Value → H) (F : Stop.Interp) :
    ReturnsInHanded {} Tryd.checked os 4 .any ((OpenSpec.ofChange Rows.commandGetsSpec).preRow enc Tryd.prog Tryd.f4 Rows.commandGetsRow.domain false Rows.commandGetsRow.laid) (((OpenSpec.ofChange Rows.commandGetsSpec).at F).post enc Tryd.prog Tryd.f4 false true false false) := by
  refine returnsInHanded_of_row (C := Tryd.checked) (s := (OpenSpec.ofChange Rows.commandGetsSpec)) own started (by kernel_rfl) Tryd.func4
    (witness_row_at (enc := enc) (C := Tryd.checked) false (laidWorld os) #[.slice none 0 0] (World.laidAll_os _ _ _) (by kernel_rfl) (by kernel_rfl) (by kernel_rfl)
      (OpenSpec.preRow_of_cond 8 (x := ([.nil], [], [])) (by kernel_rfl) (by kernel_rfl) (fun k hk => by cases hk) (by kernel_rfl) (laid_met os _))) ?_
  intro W base args ds gs before hval hW _ hcond hsz hL hS _
  exact contract H enc W base args ds gs before hval hW hsz hL hS
theorem said : Rows.CommandGetsSaid :=
  OpenClaim.holds_of_cond 4 Tryd.f4 rfl rfl rfl rfl rfl rfl rfl ⟨rfl, rfl, rfl, rfl, rfl⟩ rfl rfl rfl rfl rfl (by kernel_rfl) Tryd.func4 (by kernel_rfl)
    (of_decide_eq_true (by kernel_rfl)) (by unfold Func.isWrapper; first | (rw [if_pos (by decide +kernel)]; kernel_rfl) | (rw [if_neg (by decide +kernel)]; exact ⟨rfl, rfl⟩))
    (fun os started H enc _ F => by rw [OpenClaim.pre_eq_preRow]; exact lifted os started H enc F)
theorem plain (f : FuncId) (fn : Func) (hf : Tryd.pinned.checked.prog.funcNamed "louver/louverlaw22.CommandGets" = some f) (hfn : Tryd.pinned.checked.prog.funcs[f]? = some fn) :
    false = Tryd.pinned.checked.prog.looks [] ∧ ∀ (j : Nat) t, fn.params[j]? = some t → Tryd.pinned.checked.prog.wantsStandIn t = false := by
  obtain rfl : f = 4 := Option.some.inj ((show Tryd.prog.funcNamed "louver/louverlaw22.CommandGets" = some 4 by kernel_rfl).symm.trans hf) |>.symm
  obtain rfl : fn = Tryd.f4 := (Option.some.inj (Tryd.func4.symm.trans hfn)).symm
  refine ⟨by kernel_rfl, fun j t ht => ?_⟩
  rw [Tryd.params4] at ht
  have hm := Array.mem_of_getElem? ht
  have hall : ∀ t ∈ #[24], Tryd.prog.wantsStandIn t = false := by intro t h; simp only [List.mem_toArray, List.mem_cons, List.not_mem_nil, or_false] at h; rcases h with rfl <;> kernel_rfl
  exact hall t hm
theorem card : Rows.CommandGetsCardSaid :=
  Claim7.holds_tied_plain_at .later [] _ _ _ _ said (fun _ h => by cases h) (by kernel_rfl) (fun _ h => by cases h) commandGets_row_tie rfl ⟨rfl, rfl⟩ (by kernel_rfl) rfl plain (by kernel_rfl)
#print axioms card
end Go.Proofs.YtkgedjaihimafaaDoor.commandGets
