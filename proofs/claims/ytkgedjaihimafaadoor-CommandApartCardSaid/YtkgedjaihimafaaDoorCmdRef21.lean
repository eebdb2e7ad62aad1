/- What the printed functions of the topics' statements come to. -/
import Derived.Test.YtkgedjaihimafaaDoorQCmdx
import Derived.Test.YtkgedjaihimafaaDoorTopicPlain
namespace Go.Proofs.YtkgedjaihimafaaDoor
set_option linter.unusedVariables false
set_option linter.unusedSimpArgs false
open Go.RowKit Go.Proofs.YtkgedjaihimafaaDoorW.PrintWords Go.Proofs.YtkgedjaihimafaaDoor.QCmd Go.Proofs.YtkgedjaihimafaaDoor.Given

theorem wrap_ok {x : Int} (h0 : -9223372036854775808 ≤ x) (h1 : x ≤ 9223372036854775807) : wrap64 x = x := by
  unfold wrap64
  omega
theorem extract_list (s : ByteArray) (a b : Nat) : (s.extract a b).data.toList = (s.data.toList.drop a).take (b - a) := by
  rw [Lib.extract_data]
theorem bt_at (s : ByteArray) (i : Nat) (h : i < s.size) : bt s (i : Int) = ((s.data.toList[i]'(by simpa using h)).toNat : Int) := by
  unfold bt
  simp only [Int.toNat_natCast]
  rw [dif_pos h]
  simp [ByteArray.getElem_eq_getElem_data]

theorem ev_parts_loop (s : ByteArray) (hs : s.size ≤ 1000000000) : ∀ (d i frm : Nat) (acc : List ByteArray), i ≤ s.size → s.size - i = d → frm ≤ i → (∀ c ∈ (s.data.toList.drop frm).take (i - frm), c ≠ 47) → acc.length ≤ frm →
    Ev (fun k => louverref21_Parts.l0 k s acc (frm : Int) (i : Int)) (acc ++ (splitL (s.data.toList.drop frm)).map fun l => ⟨l.toArray⟩) := by
  have hl : s.data.toList.length = s.size := by simp
  intro d
  induction d with
  | zero =>
    intro i frm acc hi hd hf hno hacc
    obtain rfl : i = s.size := by omega
    have e1 : (s.data.toList.drop frm).take (s.size - frm) = s.data.toList.drop frm := List.take_of_length_le (by rw [List.length_drop]; omega)
    rw [e1] at hno
    rw [splitL_none _ hno]
    refine Ev.step (f := fun k => louverref21_Parts.l0 k s (acc ++ [s.extract frm s.size]) ((s.size : Int) + 1) ((s.size : Int) + 1)) (fun k => ?_) ?_
    · simp only [louverref21_Parts.l0]
      rw [if_pos (by omega), if_pos trivial, if_pos (by omega), if_pos (by omega), if_pos (by omega), wrap_ok (by omega) (by omega)]
      simp only [Int.toNat_natCast]
    · refine Ev.step (f := fun _ => some (acc ++ [s.extract frm s.size])) (fun k => ?_) ?_
      · simp only [louverref21_Parts.l0]
        rw [if_neg (by omega)]
      · have e2 : s.extract frm s.size = ⟨(s.data.toList.drop frm).toArray⟩ := bytes_ext (by rw [extract_list, e1])
        rw [e2]
        exact Ev.now _
  | succ d ih =>
    intro i frm acc hi hd hf hno hacc
    have hlt : i < s.size := by omega
    have hbt := bt_at s i hlt
    have hil : i < s.data.toList.length := by omega
    have hdrop : s.data.toList.drop frm = (s.data.toList.drop frm).take (i - frm) ++ s.data.toList[i] :: s.data.toList.drop (i + 1) := by
      have e := (List.take_append_drop (i - frm) (s.data.toList.drop frm)).symm
      rw [List.drop_drop] at e
      rw [show frm + (i - frm) = i by omega, List.drop_eq_getElem_cons hil] at e
      exact e
    by_cases hc : s.data.toList[i] = 47
    · rw [hc] at hdrop
      rw [hdrop, splitL_at _ _ hno]
      have h2 := ih (i + 1) (i + 1) (acc ++ [s.extract frm i]) (by omega) (by omega) (Nat.le_refl _) (by simp) (by rw [List.length_append, List.length_singleton]; omega)
      refine Ev.step (f := fun k => louverref21_Parts.l0 k s (acc ++ [s.extract frm i]) ((i + 1 : Nat) : Int) ((i + 1 : Nat) : Int)) (fun k => ?_) ?_
      · simp only [louverref21_Parts.l0]
        rw [if_pos (by omega), if_neg (by omega), if_pos (by omega), if_pos (by omega), hbt, hc, if_pos (by decide), if_pos (by omega), if_pos (by omega), if_pos (by omega), wrap_ok (by omega) (by omega)]
        simp only [Int.toNat_natCast]
        rfl
      · have e2 : s.extract frm i = ⟨((s.data.toList.drop frm).take (i - frm)).toArray⟩ := bytes_ext (by rw [extract_list])
        rw [List.map_cons, ← e2]
        rw [List.append_assoc] at h2
        exact h2
    · have h2 := ih (i + 1) frm acc (by omega) (by omega) (by omega) (by
        intro c hc2
        rw [show i + 1 - frm = (i - frm) + 1 by omega, List.take_add_one] at hc2
        rcases List.mem_append.1 hc2 with h | h
        · exact hno c h
        · rw [List.getElem?_drop, show frm + (i - frm) = i by omega, List.getElem?_eq_getElem hil] at h
          have : c = s.data.toList[i] := by simpa using h
          rw [this]
          exact hc) hacc
      refine Ev.step (f := fun k => louverref21_Parts.l0 k s acc (frm : Int) ((i + 1 : Nat) : Int)) (fun k => ?_) h2
      have hne : ¬ (((s.data.toList[i]).toNat : Int) = 47) := by
        intro e
        apply hc
        apply UInt8.toNat_inj.1
        show _ = 47
        omega
      simp only [louverref21_Parts.l0]
      rw [if_pos (by omega), if_neg (by omega), if_pos (by omega), if_pos (by omega), hbt, if_neg hne, wrap_ok (by omega) (by omega)]
      rfl

theorem ev_parts (s : ByteArray) (hs : s.size ≤ 1000000000) : Ev (fun k => louverref21_Parts.f k s) (pieces s) := by
  have h := ev_parts_loop s hs s.size 0 0 [] (Nat.zero_le _) rfl (Nat.le_refl _) (by simp) (Nat.le_refl _)
  rw [pieces_map]
  exact h

theorem letter_some (c : Nat) : louverref21_letter.f (c : Int) = some (chrN c) := by
  unfold louverref21_letter.f chrN
  have e : ((c : Int) == 46) = decide (c = 46) := by rw [Bool.eq_iff_iff]; simp; omega
  rw [e]
  repeat' split
  all_goals simp <;> omega

theorem ev_part_loop (s : ByteArray) (hs : s.size ≤ 1000000000) : ∀ (d i : Nat), i ≤ s.size → s.size - i = d → Ev (fun k => louverref21_part.l0 k s (i : Int)) ((s.data.toList.drop i).all fun c => chrN c.toNat) := by
  have hl : s.data.toList.length = s.size := by simp
  intro d
  induction d with
  | zero =>
    intro i hi hd
    refine Ev.step (f := fun _ => some true) (fun k => ?_) ?_
    · simp only [louverref21_part.l0]
      rw [if_neg (by omega)]
    · rw [List.drop_of_length_le (by omega)]
      exact Ev.now _
  | succ d ih =>
    intro i hi hd
    have hlt : i < s.size := by omega
    have hbt := bt_at s i hlt
    have hil : i < s.data.toList.length := by omega
    rw [List.drop_eq_getElem_cons hil, List.all_cons]
    have h2 := ih (i + 1) (by omega) (by omega)
    cases hc : chrN (s.data.toList[i]).toNat
    · refine Ev.step (f := fun _ => some false) (fun k => ?_) ?_
      · simp only [louverref21_part.l0]
        rw [if_pos (by omega), if_pos (by omega), hbt, letter_some, hc]
        simp
      · simpa using Ev.now false
    · refine Ev.step (f := fun k => louverref21_part.l0 k s ((i + 1 : Nat) : Int)) (fun k => ?_) ?_
      · simp only [louverref21_part.l0]
        rw [if_pos (by omega), if_pos (by omega), hbt, letter_some, hc, wrap_ok (by omega) (by omega)]
        simp
      · simpa using h2

theorem ev_part (s : ByteArray) (hs : s.size ≤ 1000000000) : Ev (fun k => louverref21_part.f k s) (isPart s.data.toList) := by
  have e0 : s.toList = s.data.toList := ByteArray.toList_eq s
  have hj : ∀ b, Ev (fun k => louverref21_part.j0 k s b) (if b = true then false else s.data.toList.all fun c => chrN c.toNat) := by
    intro b
    cases b
    · refine Ev.step (f := fun k => louverref21_part.l0 k s 0) (fun k => ?_) ?_
      · simp only [louverref21_part.j0]
        simp
      · simpa using ev_part_loop s hs s.size 0 (Nat.zero_le _) rfl
    · refine Ev.step (f := fun _ => some false) (fun k => ?_) ?_
      · simp only [louverref21_part.j0]
        simp
      · exact Ev.now _
  unfold isPart louverref21_part.f
  rw [e0]
  by_cases h1 : s.data.toList = []
  · simp only [h1, if_true]
    simpa using hj true
  · by_cases h2 : s.data.toList = [46]
    · simp only [h2]
      simpa using hj true
    · have hb := hj (s.data.toList == [46, 46])
      simp only [h1, h2, if_false]
      refine cast ?_ hb
      congr 1
      by_cases h3 : s.data.toList = [46, 46]
      · simp [h3]
      · have n1 : (s.data.toList != []) = true := by simpa using h1
        have n2 : (s.data.toList != [46]) = true := by simpa using h2
        have n3 : (s.data.toList != [46, 46]) = true := by simpa using h3
        have n4 : (s.data.toList == [46, 46]) = false := by simpa using h3
        rw [n1, n2, n3, n4]
        simp

theorem rd_at (l : List ByteArray) (i : Nat) (h : i < l.length) : rdOf ByteArray.empty l (i : Int) = l[i] := by
  unfold rdOf
  simp only [Int.toNat_natCast]
  rw [List.getD_eq_getElem?_getD, List.getElem?_eq_getElem h]
  rfl

theorem ev_all_loop (l : List ByteArray) (hl : l.length ≤ 1000000000) (hs : ∀ x ∈ l, x.size ≤ 1000000000) : ∀ (d i : Nat), i ≤ l.length → l.length - i = d → Ev (fun k => louverref21_May.l0 k l (l.length : Int) (i : Int)) ((l.drop i).all fun x => isPart x.data.toList) := by
  intro d
  induction d with
  | zero =>
    intro i hi hd
    refine Ev.step (f := fun _ => some true) (fun k => ?_) ?_
    · simp only [louverref21_May.l0]
      rw [if_neg (by omega)]
    · rw [List.drop_of_length_le (by omega)]
      exact Ev.now _
  | succ d ih =>
    intro i hi hd
    have hlt : i < l.length := by omega
    rw [List.drop_eq_getElem_cons hlt, List.all_cons]
    have h2 := ih (i + 1) (by omega) (by omega)
    have h1 := ev_part l[i] (hs _ (List.getElem_mem hlt))
    refine Ev.step (f := fun k => (louverref21_part.f k l[i]).bind fun t => if t = true then louverref21_May.l0 k l (l.length : Int) ((i + 1 : Nat) : Int) else some false) (fun k => ?_) ?_
    · simp only [louverref21_May.l0]
      rw [if_pos (by omega), if_pos (by omega), if_pos (by omega), rd_at l i hlt, wrap_ok (by omega) (by omega)]
      rfl
    · refine Ev.bind h1 ?_
      cases hp : isPart l[i].data.toList
      · simpa using Ev.now false
      · simpa using h2

theorem ev_may (s : ByteArray) (hs : s.size ≤ 1000000000) : Ev (fun k => louverref21_May.f k s) (topicOk s) := by
  have hj : ∀ b, Ev (fun k => louverref21_May.j0 k s b) (if b = true then false else (decide ((pieces s).length ≤ 16) && (pieces s).all (fun x => isPart x.data.toList))) := by
    intro b
    cases b
    · refine Ev.step (f := fun k => (louverref21_Parts.f k s).bind fun t => if (t.length : Int) > 16 then some false else louverref21_May.l0 k t (t.length : Int) 0) (fun k => ?_) ?_
      · simp only [louverref21_May.j0]
        simp
      · refine Ev.bind (ev_parts s hs) ?_
        have hle : (pieces s).length ≤ s.size + 1 := by
          have h : (pieces s).length = Lib.countB s ⟨#[47]⟩ + 1 := Lib.splitB_all ⟨#[47]⟩ (by decide) 0 _ s rfl
          have := Lib.countB_le ⟨#[47]⟩ (by decide) s.size s (Nat.le_refl _)
          omega
        by_cases h16 : (pieces s).length ≤ 16
        · have h := ev_all_loop (pieces s) (by omega) (fun x hx => by have := pieces_size s x hx; omega) _ 0 (Nat.zero_le _) rfl
          simp only [show ¬ ((pieces s).length : Int) > 16 by omega, if_false, h16, decide_true, Bool.true_and, Bool.false_eq_true]
          simpa using h
        · simp only [show ((pieces s).length : Int) > 16 by omega, if_true, h16, decide_false, Bool.false_and, Bool.false_eq_true, if_false]
          exact Ev.now false
    · refine Ev.step (f := fun _ => some false) (fun k => ?_) ?_
      · simp only [louverref21_May.j0]
        simp
      · exact Ev.now _
  unfold louverref21_May.f
  by_cases h0 : s.size = 0
  · have hn : s.data.toList = [] := List.eq_nil_of_length_eq_zero (by simpa using h0)
    have hk : topicOk s = false := by
      rw [topicOk_list, hn]
      simp [splitL, isPart]
    rw [hk]
    simp only [h0]
    simpa using hj true
  · simp only [show ¬ (s.size : Int) = 0 by omega, if_false]
    have h := hj (decide ((s.size : Int) > 64))
    unfold topicOk
    by_cases h64 : s.size ≤ 64
    · have e1 : decide ((s.size : Int) > 64) = false := by rw [decide_eq_false_iff_not]; omega
      have e2 : decide (s.size ≤ 64) = true := by rw [decide_eq_true_iff]; exact h64
      rw [e1] at h ⊢
      rw [e2, Bool.true_and]
      simpa using h
    · have e1 : decide ((s.size : Int) > 64) = true := by rw [decide_eq_true_iff]; omega
      have e2 : decide (s.size ≤ 64) = false := by rw [decide_eq_false_iff_not]; exact h64
      rw [e1] at h ⊢
      rw [e2, Bool.false_and]
      simpa using h

end Go.Proofs.YtkgedjaihimafaaDoor
