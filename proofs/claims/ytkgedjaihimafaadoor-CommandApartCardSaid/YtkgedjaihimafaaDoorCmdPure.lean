/- What the printed functions of the commands' statements come to. -/
import Derived.Test.YtkgedjaihimafaaDoorCmdRef21
namespace Go.Proofs.YtkgedjaihimafaaDoor
set_option linter.unusedVariables false
set_option linter.unusedSimpArgs false
open Go.RowKit Go.Proofs.YtkgedjaihimafaaDoorW.PrintWords Go.Proofs.YtkgedjaihimafaaDoorW.PrintMore Go.Proofs.YtkgedjaihimafaaDoor.QCmd Go.Proofs.YtkgedjaihimafaaDoor.Given

/-- May a command be? -/
def cmdOk (kind : Int) (topic : ByteArray) (seq code : Int) (pay : List Int) : Bool :=
  decide (1 ≤ kind ∧ kind ≤ 8) && ((if kind = 1 ∨ kind = 3 then topicOk topic else decide (topic.data.toList = [])) && (decide ((4 ≤ kind ∧ kind ≤ 7) ∨ seq = 0) &&
    ((if kind = 8 then decide (1 ≤ code ∧ code ≤ 5) else decide (code = 0)) && (if kind = 3 ∨ kind = 6 then decide (pay.length ≤ 2048) else decide (pay.length = 0)))))

theorem topicOk_nil {t : ByteArray} (h : t.data.toList = []) : topicOk t = false := by
  rw [topicOk_list, h]
  simp [splitL, isPart]

theorem kinds9 (k : Int) : k < 1 ∨ k = 1 ∨ k = 2 ∨ k = 3 ∨ k = 4 ∨ k = 5 ∨ k = 6 ∨ k = 7 ∨ k = 8 ∨ 8 < k := by omega

set_option maxHeartbeats 2000000 in
theorem ev_refMay (kind id : Int) (topic : ByteArray) (seq code : Int) (pay : List Int) (hk : 0 ≤ kind) (hc : 0 ≤ code) (ht : topic.size ≤ 1000000000) :
    Ev (fun k => louverref22_May.f k kind id topic seq code pay) (cmdOk kind topic seq code pay) := by
  obtain ⟨K, hK⟩ := ev_may topic ht
  refine ⟨K + 4, fun k hk' => ?_⟩
  obtain ⟨m, rfl⟩ : ∃ m, k = m + 1 + 1 + 1 + 1 := ⟨k - 4, by omega⟩
  have h1 := hK (m + 1 + 1) (by omega)
  have ht' : topic.toList = topic.data.toList := ByteArray.toList_eq topic
  simp only [louverref22_May.f, louverref22_May.j0, louverref22_May.j1, louverref22_May.j2, louverref22_May.j3, louverref22_seq.f, h1, Option.bind_some, ht']
  unfold cmdOk
  have hp : ∀ n : Nat, (((n : Int) == 0) = decide (n = 0)) := fun n => by rw [Bool.eq_iff_iff]; simp
  have hq : ∀ n : Nat, decide ((n : Int) ≤ 2048) = decide (n ≤ 2048) := fun n => by rw [decide_eq_decide]; omega
  simp only [hp, hq]
  rcases kinds9 kind with h | h | h | h | h | h | h | h | h | h
  · obtain rfl : kind = 0 := by omega
    simp
  rotate_right
  · simp [h, show ¬ kind = 0 by omega, show ¬ kind ≤ 8 by omega]
  all_goals subst h
  all_goals
    by_cases e1 : topic.data.toList = [] <;> cases e2 : topicOk topic <;> by_cases e3 : seq = 0 <;>
      rcases (show code = 0 ∨ (¬ code = 0 ∧ 1 ≤ code ∧ code ≤ 5 ∧ ¬ 5 < code) ∨ (¬ code = 0 ∧ 1 ≤ code ∧ ¬ code ≤ 5 ∧ 5 < code) by omega) with e4 | ⟨e4, e5, e6, e7⟩ | ⟨e4, e5, e6, e7⟩ <;>
      simp [*]

theorem cmay_some (s : ByteArray) (hs : s.size ≤ 1000000000) : topic_May.f s = some (topicOk s) := by
  unfold topic_May.f
  rw [if_pos hs]
set_option maxHeartbeats 2000000 in
theorem ev_cmdMay (kind id : Int) (topic : ByteArray) (seq code : Int) (pay : List Int) (hk : 0 ≤ kind) (hc : 0 ≤ code) (ht : topic.size ≤ 1000000000) :
    Ev (fun k => command_May.f k kind id topic seq code pay) (cmdOk kind topic seq code pay) := by
  refine ⟨4, fun k hk' => ?_⟩
  obtain ⟨m, rfl⟩ : ∃ m, k = m + 1 + 1 + 1 + 1 := ⟨k - 4, by omega⟩
  have h1 := cmay_some topic ht
  have ht' : topic.toList = topic.data.toList := ByteArray.toList_eq topic
  simp only [command_May.f, command_May.j0, command_May.j1, command_May.j2, command_May.j3, command_topics.f, command_seqs.f, command_payloads.f, h1, Option.bind_some, ht']
  unfold cmdOk
  have hq : ∀ n : Nat, decide ((n : Int) ≤ 2048) = decide (n ≤ 2048) := fun n => by rw [decide_eq_decide]; omega
  have hz : ∀ n : Nat, ((n : Int) = 0) = (n = 0) := fun n => by rw [eq_iff_iff]; omega
  simp only [hq, hz]
  have hnil := @topicOk_nil topic
  have hpl : pay.length = 0 → pay.length ≤ 2048 := fun h => by omega
  rcases kinds9 kind with h | h | h | h | h | h | h | h | h | h
  · obtain rfl : kind = 0 := by omega
    simp
  rotate_right
  · simp [h, show ¬ kind < 1 by omega, show ¬ kind ≤ 8 by omega]
  all_goals subst h
  all_goals
    by_cases e1 : topic.data.toList = [] <;> cases e2 : topicOk topic <;> by_cases e3 : seq = 0 <;> by_cases e8 : pay.length = 0 <;>
      rcases (show (code = 0 ∧ ¬ 1 ≤ code) ∨ (¬ code = 0 ∧ 1 ≤ code ∧ code ≤ 5) ∨ (¬ code = 0 ∧ 1 ≤ code ∧ ¬ code ≤ 5) by omega) with ⟨e4, e5⟩ | ⟨e4, e5, e6⟩ | ⟨e4, e5, e6⟩ <;>
      simp_all
  all_goals
    split
    · rename_i h
      simp [h]
    · rename_i h
      simp [h]

/-- The low m bytes of a number, the high one first. -/
def beL (n : Int) : Nat → List Int
  | 0 => []
  | m + 1 => (n / 2 ^ (8 * m)) % 256 :: beL n m
theorem beL_length (n : Int) : ∀ m, (beL n m).length = m
  | 0 => rfl
  | m + 1 => by simp [beL, beL_length n m]
theorem wrap_okC {x : Int} (h0 : -9223372036854775808 ≤ x) (h1 : x ≤ 9223372036854775807) : wrap64 x = x := by
  unfold wrap64
  omega
theorem ev_number_loop (n : Int) : ∀ (m : Nat) (l : List Int), m ≤ 8 → l.length + m ≤ 1000000 → Ev (fun k => command_number.l0 k l n (8 * (m : Int) - 8)) (l ++ beL n m)
  | 0, l, _, _ => by
    refine Ev.step (f := fun _ => some l) (fun k => ?_) ?_
    · simp only [command_number.l0]
      rw [if_neg (by omega)]
    · simpa [beL] using Ev.now l
  | m + 1, l, hm, hl => by
    have ih := ev_number_loop n m (l ++ [(n / 2 ^ (8 * m)) % 256]) (by omega) (by simp; omega)
    have es : shr .u64 n (8 * ((m + 1 : Nat) : Int) - 8) = n / 2 ^ (8 * m) := by
      unfold shr
      rw [show (8 * ((m + 1 : Nat) : Int) - 8).toNat = 8 * m by omega, Nat.min_eq_left (by show 8 * m ≤ 64; omega)]
    refine Ev.step (f := fun k => command_number.l0 k (l ++ [(n / 2 ^ (8 * m)) % 256]) n (8 * (m : Int) - 8)) (fun k => ?_) ?_
    · simp only [command_number.l0]
      rw [if_pos (by omega), if_pos (by omega), if_pos (by omega), es, wrap_okC (x := 8 * ((m + 1 : Nat) : Int) - 8 - 8) (by omega) (by omega)]
      rw [show 8 * ((m + 1 : Nat) : Int) - 8 - 8 = 8 * (m : Int) - 8 by omega]
    · rw [List.append_assoc] at ih
      exact ih
theorem ev_number (l : List Int) (n : Int) (m : Nat) (hm : m ≤ 8) (hl : l.length + m ≤ 1000000) : Ev (fun k => command_number.f k l n (m : Int)) (l ++ beL n m) := by
  unfold command_number.f
  have e : wrap64 (8 * (wrap64 ((m : Int) - 1))) = 8 * (m : Int) - 8 := by
    rw [wrap_okC (x := (m : Int) - 1) (by omega) (by omega), wrap_okC (by omega) (by omega)]
    omega
  rw [e]
  exact ev_number_loop n m l hm hl

/-- A command's writing. -/
def putL (kind id : Int) (topic : ByteArray) (seq code : Int) (pay : List Int) : List Int :=
  ((((([kind] ++ beL id 4) ++ (if kind = 3 then [((topic.size : Int)) % 256] else [])) ++ bytesOf topic) ++ (if 4 ≤ kind ∧ kind ≤ 7 then beL seq 8 else [])) ++ (if kind = 8 then [code] else [])) ++ pay

theorem ev_put (kind id : Int) (topic : ByteArray) (seq code : Int) (pay : List Int) (hk : 0 ≤ kind) (hc : 0 ≤ code) (hi0 : 0 ≤ id) (hi1 : id ≤ 4294967295) (ht : topic.size ≤ 3000) (hp : pay.length ≤ 9000) :
    Ev (fun k => command_Put.f k kind id topic seq code pay) (if cmdOk kind topic seq code pay = true then putL kind id topic seq code pay else []) := by
  have hw : IntKind.u64.wrap id = id := by
    simp [IntKind.wrap, IntKind.bits, IntKind.signed]
    omega
  have hj : ∀ l : List Int, l.length ≤ 100 → Ev (fun k => command_Put.j0 k l kind id topic seq code pay) ((((l ++ bytesOf topic) ++ (if 4 ≤ kind ∧ kind ≤ 7 then beL seq 8 else [])) ++ (if kind = 8 then [code] else [])) ++ pay) := by
    intro l hl
    have hb : (bytesOf topic).length = topic.size := bytesOf_length topic
    have hs : command_seqs.f kind = some (decide (4 ≤ kind ∧ kind ≤ 7)) := by
      unfold command_seqs.f
      by_cases h4 : kind ≥ 4
      · rw [if_pos h4]
        congr 1
        rw [decide_eq_decide]
        omega
      · rw [if_neg h4]
        congr 1
        symm
        rw [decide_eq_false_iff_not]
        omega
    by_cases h47 : 4 ≤ kind ∧ kind ≤ 7
    · refine Ev.step (f := fun k => (command_number.f k (l ++ bytesOf topic) seq 8).bind fun t => some (t ++ pay)) (fun k => ?_) ?_
      · simp only [command_Put.j0]
        rw [if_pos (by omega), hs, decide_eq_true h47]
        simp only [Option.bind_some, if_true, show ¬ kind = 8 by omega, if_false]
        cases hn : command_number.f k (l ++ bytesOf topic) seq 8 with
        | none => rfl
        | some r =>
          simp only [Option.bind_some]
          rw [if_pos]
          have hK := ev_number (l ++ bytesOf topic) seq 8 (by decide) (by rw [List.length_append]; omega)
          obtain ⟨K, hK⟩ := hK
          have h1 := at_rounds (g := fun k => command_number.f k (l ++ bytesOf topic) seq 8) (fun k => command_number.mono _ _ _ k) (Nat.le_max_left k K) hn
          have h2 := hK (max k K) (Nat.le_max_right _ _)
          have h3 : r = l ++ bytesOf topic ++ beL seq 8 := Option.some.inj (h1.symm.trans h2)
          rw [h3]
          simp only [List.length_append, beL_length]
          omega
      · rw [if_pos h47, if_neg (by omega), List.append_nil]
        exact Ev.bind (ev_number (l ++ bytesOf topic) seq 8 (by decide) (by rw [List.length_append]; omega)) (Ev.now _)
    · rw [if_neg h47, List.append_nil]
      refine Ev.step (f := fun _ => some (((l ++ bytesOf topic) ++ (if kind = 8 then [code] else [])) ++ pay)) (fun k => ?_) (Ev.now _)
      simp only [command_Put.j0]
      rw [if_pos (by omega), hs, decide_eq_false h47]
      simp only [Option.bind_some, Bool.false_eq_true, if_false]
      by_cases h8 : kind = 8
      · simp only [h8, if_true]
        rw [if_pos (by rw [List.length_append]; omega)]
        show (if _ then _ else _) = _
        rw [if_pos (by simp only [List.length_append, List.length_singleton]; omega)]
      · simp only [h8, if_false, List.append_nil]
        rw [if_pos (by simp only [List.length_append]; omega)]
  unfold command_Put.f
  refine Ev.bind (ev_cmdMay kind id topic seq code pay hk hc (by omega)) ?_
  cases cmdOk kind topic seq code pay
  · simp
    exact Ev.now _
  · simp only [if_true, hw]
    refine Ev.bind (ev_number [kind] id 4 (by decide) (by simp)) ?_
    unfold putL
    by_cases h3 : kind = 3
    · have hl : ([kind] ++ beL id 4).length < 140737488355328 := by rw [List.length_append, beL_length, List.length_singleton]; decide
      simp only [h3, if_true] at hl ⊢
      simp only [hl, if_true]
      have := hj ([kind] ++ beL id 4 ++ [((topic.size : Int)) % 256]) (by simp [beL_length])
      rw [h3] at this
      exact this
    · simp only [h3, if_false, List.append_nil]
      exact hj ([kind] ++ beL id 4) (by simp [beL_length])
end Go.Proofs.YtkgedjaihimafaaDoor
