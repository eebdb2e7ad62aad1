/- Texts of this claim, put together: TopicPlain, CmdRef21, CmdPure, Mem, Mem2, Clone2, CmdRest, CmdRest4, CmdRest6, CmdRest3, CmdGet1, CmdWrit, CmdBack. -/
import Derived.Test.YtkgedjaihimafaaDoorMCommandGets1
import Derived.Lib.Join
import Derived.Test.YtkgedjaihimafaaDoorMCommandGets3
import Derived.Test.YtkgedjaihimafaaDoorMCommandGets5
import Derived.Test.YtkgedjaihimafaaDoorWWords
import Derived.WalkSpells
import Derived.Laws.BitsAllLaws
/- Plain words on cutting at slashes and joining. No program. -/
namespace Go.Proofs.YtkgedjaihimafaaDoor
set_option linter.unusedVariables false
set_option linter.unusedSimpArgs false
open Go.RowKit Go.Proofs.YtkgedjaihimafaaDoorW.PrintWords

def splitL : List UInt8 → List (List UInt8)
  | [] => [[]]
  | c :: l => if c = 47 then [] :: splitL l else match splitL l with
    | [] => [[c]]
    | h :: t => (c :: h) :: t
theorem splitL_ne : ∀ l, splitL l ≠ []
  | [] => by simp [splitL]
  | c :: l => by
    unfold splitL
    split
    · simp
    · split <;> simp
theorem splitL_cons_ne {c : UInt8} {l h : List UInt8} {t : List (List UInt8)} (hc : c ≠ 47) (e : splitL l = h :: t) : splitL (c :: l) = (c :: h) :: t := by
  unfold splitL
  rw [if_neg hc, e]
theorem splitL_none : ∀ (l : List UInt8), (∀ c ∈ l, c ≠ 47) → splitL l = [l]
  | [], _ => rfl
  | c :: l, h => splitL_cons_ne (h c (by simp)) (splitL_none l fun x hx => h x (by simp [hx]))
theorem splitL_at : ∀ (a b : List UInt8), (∀ c ∈ a, c ≠ 47) → splitL (a ++ 47 :: b) = a :: splitL b
  | [], b, _ => by simp [splitL]
  | c :: a, b, h => splitL_cons_ne (h c (by simp)) (splitL_at a b fun x hx => h x (by simp [hx]))
theorem splitL_sep : ∀ (a r : List UInt8), splitL (a ++ 47 :: r) = splitL a ++ splitL r
  | [], r => by simp [splitL]
  | c :: a, r => by
    by_cases hc : c = 47
    · subst hc
      have e1 : ∀ l, splitL (47 :: l) = [] :: splitL l := fun l => by simp [splitL]
      show splitL (47 :: (a ++ 47 :: r)) = _
      rw [e1, e1, splitL_sep a r]
      rfl
    · obtain ⟨h, t, e⟩ : ∃ h t, splitL a = h :: t := by
        cases e : splitL a with
        | nil => exact absurd e (splitL_ne a)
        | cons h t => exact ⟨h, t, rfl⟩
      have e2 : splitL (a ++ 47 :: r) = h :: (t ++ splitL r) := by rw [splitL_sep a r, e]; rfl
      rw [splitL_cons_ne hc e]
      exact splitL_cons_ne hc e2

theorem join_cons2 (x y : List UInt8) (t : List (List UInt8)) : Lib.join (x :: y :: t) [47] = x ++ 47 :: Lib.join (y :: t) [47] := by
  rw [Lib.join_cons, Lib.join_cons y t]
  simp [Lib.joinTail]
theorem join_split : ∀ l, Lib.join (splitL l) [47] = l
  | [] => by simp [splitL, Lib.join_one]
  | c :: l => by
    have ih := join_split l
    by_cases hc : c = 47
    · subst hc
      unfold splitL
      rw [if_pos rfl]
      cases e : splitL l with
      | nil => exact absurd e (splitL_ne l)
      | cons h t =>
        rw [e] at ih
        rw [join_cons2, ih]
        rfl
    · cases e : splitL l with
      | nil => exact absurd e (splitL_ne l)
      | cons h t =>
        rw [e] at ih
        rw [splitL_cons_ne hc e]
        cases t with
        | nil => rw [Lib.join_one] at ih ⊢; rw [ih]
        | cons y t =>
          rw [join_cons2] at ih ⊢
          rw [List.cons_append, ih]
theorem join_append : ∀ (l t : List (List UInt8)), l ≠ [] → t ≠ [] → Lib.join (l ++ t) [47] = Lib.join l [47] ++ 47 :: Lib.join t [47]
  | [], _, h, _ => absurd rfl h
  | [x], t, _, ht => by
    cases t with
    | nil => exact absurd rfl ht
    | cons y t => rw [Lib.join_one]; exact join_cons2 x y t
  | x :: y :: l, t, _, ht => by
    show Lib.join (x :: y :: (l ++ t)) [47] = _
    have ih := join_append (y :: l) t (by simp) ht
    rw [join_cons2, join_cons2, List.append_assoc]
    congr 1
    show _ = 47 :: (Lib.join (y :: l) [47] ++ _)
    congr 1
/-- One text lies under another one just if its parts begin with that one's, and there are more. -/
theorem prefix_iff (a s : List UInt8) : (a ++ [47]) <+: s ↔ (splitL a).length < (splitL s).length ∧ (splitL s).take (splitL a).length = splitL a := by
  constructor
  · rintro ⟨r, rfl⟩
    rw [List.append_assoc]
    show _ < (splitL (a ++ 47 :: r)).length ∧ (splitL (a ++ 47 :: r)).take _ = _
    rw [splitL_sep]
    have h := List.length_pos_iff.2 (splitL_ne r)
    refine ⟨by rw [List.length_append]; omega, List.take_left' rfl⟩
  · rintro ⟨h1, h2⟩
    have e := List.take_append_drop (splitL a).length (splitL s)
    rw [h2] at e
    have hd : (splitL s).drop (splitL a).length ≠ [] := by
      intro h
      have := congrArg List.length h
      rw [List.length_drop, List.length_nil] at this
      omega
    have j := join_append _ _ (splitL_ne a) hd
    rw [e, join_split, join_split] at j
    refine ⟨Lib.join ((splitL s).drop (splitL a).length) [47], ?_⟩
    rw [List.append_assoc]
    exact j.symm

theorem splitK_split : ∀ (l : List UInt8), Lib.splitK [47] 0 (l.count 47) l = splitL l
  | [] => rfl
  | c :: l => by
    have ih := splitK_split l
    by_cases hc : c = 47
    · subst hc
      have hix : Lib.index (47 :: l) [47] = 0 := by rw [Lib.index]; simp [List.isPrefixOf]
      rw [List.count_cons_self, Lib.splitK, hix]
      unfold splitL
      rw [if_pos rfl]
      simpa using ih
    · rw [List.count_cons_of_ne (by simpa using hc)]
      have hp : ([47] : List UInt8).isPrefixOf (c :: l) = false := by simp [List.isPrefixOf, Ne.symm hc]
      have hix : Lib.index (c :: l) [47] = if Lib.index l [47] == -1 then -1 else Lib.index l [47] + 1 := by rw [Lib.index, hp]; simp
      cases hk : l.count 47 with
      | zero =>
        rw [hk] at ih
        exact (splitL_cons_ne hc ih.symm).symm
      | succ k =>
        rw [hk] at ih
        rw [Lib.splitK] at ih ⊢
        rw [hix]
        by_cases hm : Lib.index l [47] = -1
        · rw [if_pos (by simpa using hm)] at ih
          rw [if_pos (by simp [hm])]
          exact (splitL_cons_ne hc ih.symm).symm
        · have hge := Lib.index_ge l [47]
          rw [if_neg (by simpa using hm)] at ih
          have h1 : ¬ ((if (Lib.index l [47] == -1) = true then -1 else Lib.index l [47] + 1) == -1) = true := by
            rw [if_neg (by simpa using hm)]
            simp
            omega
          rw [if_neg h1, if_neg (by simpa using hm)]
          obtain ⟨j, hj⟩ : ∃ j : Nat, Lib.index l [47] = j := ⟨(Lib.index l [47]).toNat, by omega⟩
          rw [hj] at ih ⊢
          have e1 : (((j : Nat) : Int) + 1).toNat = j + 1 := by omega
          rw [e1]
          simp only [Int.toNat_natCast, Nat.add_zero, List.length_cons, List.length_nil, Nat.zero_add, List.take_succ_cons, List.drop_succ_cons] at ih ⊢
          exact (splitL_cons_ne hc ih.symm).symm

theorem pieces_data (s : ByteArray) : (pieces s).map (·.data.toList) = splitL s.data.toList := by
  unfold pieces
  rw [Lib.splitB_data]
  show Lib.splitK [47] 0 (Lib.count s.data.toList [47]) s.data.toList = _
  rw [Lib.count_one]
  exact splitK_split _
theorem pieces_length (s : ByteArray) : (pieces s).length = (splitL s.data.toList).length := by rw [← pieces_data, List.length_map]
theorem bytes_ext {a b : ByteArray} (h : a.data.toList = b.data.toList) : a = b := by
  cases a; cases b
  simp only [ByteArray.mk.injEq]
  exact Array.toList_inj.1 h
theorem bytes_list_ext {a b : List ByteArray} (h : a.map (·.data.toList) = b.map (·.data.toList)) : a = b :=
  (List.map_inj_right (fun _ _ h => bytes_ext h)).1 h
theorem pieces_map (s : ByteArray) : pieces s = (splitL s.data.toList).map fun l => ⟨l.toArray⟩ := bytes_list_ext (by rw [pieces_data, List.map_map]; exact (List.map_id _).symm)
theorem topicOk_list (s : ByteArray) : topicOk s = (decide (s.size ≤ 64) && (decide ((splitL s.data.toList).length ≤ 16) && (splitL s.data.toList).all isPart)) := by
  unfold topicOk
  rw [pieces_length, ← pieces_data, List.all_map]
  rfl
end Go.Proofs.YtkgedjaihimafaaDoor

/- What the printed functions of the topics' statements come to. -/
namespace Go.Proofs.YtkgedjaihimafaaDoor
set_option linter.unusedVariables false
set_option linter.unusedSimpArgs false
open Go.RowKit Go.Proofs.YtkgedjaihimafaaDoorW.PrintWords Go.Proofs.YtkgedjaihimafaaDoor.QCmd Go.Proofs.YtkgedjaihimafaaDoor.Given

theorem wrap_ok {x : Int} (h0 : -9223372036854775808 ≤ x) (h1 : x ≤ 9223372036854775807) : wrap64 x = x := by
  unfold wrap64
  omega
theorem extract_list (s : ByteArray) (a b : Nat) : (s.extract a b).data.toList = (s.data.toList.drop a).take (b - a) := by
  rw [Lib.extract_data]
theorem bt_at (s : ByteArray) (i : Nat) (h : i < s.size) : bt s (i : Int) = ((s.data.toList[i]'(by simpa using h)).toNat : Int) := by
  unfold bt
  simp only [Int.toNat_natCast]
  rw [dif_pos h]
  simp [ByteArray.getElem_eq_getElem_data]

theorem ev_parts_loop (s : ByteArray) (hs : s.size ≤ 1000000000) : ∀ (d i frm : Nat) (acc : List ByteArray), i ≤ s.size → s.size - i = d → frm ≤ i → (∀ c ∈ (s.data.toList.drop frm).take (i - frm), c ≠ 47) → acc.length ≤ frm →
    Ev (fun k => louverref21_Parts.l0 k s acc (frm : Int) (i : Int)) (acc ++ (splitL (s.data.toList.drop frm)).map fun l => ⟨l.toArray⟩) := by
  have hl : s.data.toList.length = s.size := by simp
  intro d
  induction d with
  | zero =>
    intro i frm acc hi hd hf hno hacc
    obtain rfl : i = s.size := by omega
    have e1 : (s.data.toList.drop frm).take (s.size - frm) = s.data.toList.drop frm := List.take_of_length_le (by rw [List.length_drop]; omega)
    rw [e1] at hno
    rw [splitL_none _ hno]
    refine Ev.step (f := fun k => louverref21_Parts.l0 k s (acc ++ [s.extract frm s.size]) ((s.size : Int) + 1) ((s.size : Int) + 1)) (fun k => ?_) ?_
    · simp only [louverref21_Parts.l0]
      rw [if_pos (by omega), if_pos trivial, if_pos (by omega), if_pos (by omega), if_pos (by omega), wrap_ok (by omega) (by omega)]
      simp only [Int.toNat_natCast]
    · refine Ev.step (f := fun _ => some (acc ++ [s.extract frm s.size])) (fun k => ?_) ?_
      · simp only [louverref21_Parts.l0]
        rw [if_neg (by omega)]
      · have e2 : s.extract frm s.size = ⟨(s.data.toList.drop frm).toArray⟩ := bytes_ext (by rw [extract_list, e1])
        rw [e2]
        exact Ev.now _
  | succ d ih =>
    intro i frm acc hi hd hf hno hacc
    have hlt : i < s.size := by omega
    have hbt := bt_at s i hlt
    have hil : i < s.data.toList.length := by omega
    have hdrop : s.data.toList.drop frm = (s.data.toList.drop frm).take (i - frm) ++ s.data.toList[i] :: s.data.toList.drop (i + 1) := by
      have e := (List.take_append_drop (i - frm) (s.data.toList.drop frm)).symm
      rw [List.drop_drop] at e
      rw [show frm + (i - frm) = i by omega, List.drop_eq_getElem_cons hil] at e
      exact e
    by_cases hc : s.data.toList[i] = 47
    · rw [hc] at hdrop
      rw [hdrop, splitL_at _ _ hno]
      have h2 := ih (i + 1) (i + 1) (acc ++ [s.extract frm i]) (by omega) (by omega) (Nat.le_refl _) (by simp) (by rw [List.length_append, List.length_singleton]; omega)
      refine Ev.step (f := fun k => louverref21_Parts.l0 k s (acc ++ [s.extract frm i]) ((i + 1 : Nat) : Int) ((i + 1 : Nat) : Int)) (fun k => ?_) ?_
      · simp only [louverref21_Parts.l0]
        rw [if_pos (by omega), if_neg (by omega), if_pos (by omega), if_pos (by omega), hbt, hc, if_pos (by decide), if_pos (by omega), if_pos (by omega), if_pos (by omega), wrap_ok (by omega) (by omega)]
        simp only [Int.toNat_natCast]
        rfl
      · have e2 : s.extract frm i = ⟨((s.data.toList.drop frm).take (i - frm)).toArray⟩ := bytes_ext (by rw [extract_list])
        rw [List.map_cons, ← e2]
        rw [List.append_assoc] at h2
        exact h2
    · have h2 := ih (i + 1) frm acc (by omega) (by omega) (by omega) (by
        intro c hc2
        rw [show i + 1 - frm = (i - frm) + 1 by omega, List.take_add_one] at hc2
        rcases List.mem_append.1 hc2 with h | h
        · exact hno c h
        · rw [List.getElem?_drop, show frm + (i - frm) = i by omega, List.getElem?_eq_getElem hil] at h
          have : c = s.data.toList[i] := by simpa using h
          rw [this]
          exact hc) hacc
      refine Ev.step (f := fun k => louverref21_Parts.l0 k s acc (frm : Int) ((i + 1 : Nat) : Int)) (fun k => ?_) h2
      have hne : ¬ (((s.data.toList[i]).toNat : Int) = 47) := by
        intro e
        apply hc
        apply UInt8.toNat_inj.1
        show _ = 47
        omega
      simp only [louverref21_Parts.l0]
      rw [if_pos (by omega), if_neg (by omega), if_pos (by omega), if_pos (by omega), hbt, if_neg hne, wrap_ok (by omega) (by omega)]
      rfl

theorem ev_parts (s : ByteArray) (hs : s.size ≤ 1000000000) : Ev (fun k => louverref21_Parts.f k s) (pieces s) := by
  have h := ev_parts_loop s hs s.size 0 0 [] (Nat.zero_le _) rfl (Nat.le_refl _) (by simp) (Nat.le_refl _)
  rw [pieces_map]
  exact h

theorem letter_some (c : Nat) : louverref21_letter.f (c : Int) = some (chrN c) := by
  unfold louverref21_letter.f chrN
  have e : ((c : Int) == 46) = decide (c = 46) := by rw [Bool.eq_iff_iff]; simp; omega
  rw [e]
  repeat' split
  all_goals simp <;> omega

theorem ev_part_loop (s : ByteArray) (hs : s.size ≤ 1000000000) : ∀ (d i : Nat), i ≤ s.size → s.size - i = d → Ev (fun k => louverref21_part.l0 k s (i : Int)) ((s.data.toList.drop i).all fun c => chrN c.toNat) := by
  have hl : s.data.toList.length = s.size := by simp
  intro d
  induction d with
  | zero =>
    intro i hi hd
    refine Ev.step (f := fun _ => some true) (fun k => ?_) ?_
    · simp only [louverref21_part.l0]
      rw [if_neg (by omega)]
    · rw [List.drop_of_length_le (by omega)]
      exact Ev.now _
  | succ d ih =>
    intro i hi hd
    have hlt : i < s.size := by omega
    have hbt := bt_at s i hlt
    have hil : i < s.data.toList.length := by omega
    rw [List.drop_eq_getElem_cons hil, List.all_cons]
    have h2 := ih (i + 1) (by omega) (by omega)
    cases hc : chrN (s.data.toList[i]).toNat
    · refine Ev.step (f := fun _ => some false) (fun k => ?_) ?_
      · simp only [louverref21_part.l0]
        rw [if_pos (by omega), if_pos (by omega), hbt, letter_some, hc]
        simp
      · simpa using Ev.now false
    · refine Ev.step (f := fun k => louverref21_part.l0 k s ((i + 1 : Nat) : Int)) (fun k => ?_) ?_
      · simp only [louverref21_part.l0]
        rw [if_pos (by omega), if_pos (by omega), hbt, letter_some, hc, wrap_ok (by omega) (by omega)]
        simp
      · simpa using h2

theorem ev_part (s : ByteArray) (hs : s.size ≤ 1000000000) : Ev (fun k => louverref21_part.f k s) (isPart s.data.toList) := by
  have e0 : s.toList = s.data.toList := ByteArray.toList_eq s
  have hj : ∀ b, Ev (fun k => louverref21_part.j0 k s b) (if b = true then false else s.data.toList.all fun c => chrN c.toNat) := by
    intro b
    cases b
    · refine Ev.step (f := fun k => louverref21_part.l0 k s 0) (fun k => ?_) ?_
      · simp only [louverref21_part.j0]
        simp
      · simpa using ev_part_loop s hs s.size 0 (Nat.zero_le _) rfl
    · refine Ev.step (f := fun _ => some false) (fun k => ?_) ?_
      · simp only [louverref21_part.j0]
        simp
      · exact Ev.now _
  unfold isPart louverref21_part.f
  rw [e0]
  by_cases h1 : s.data.toList = []
  · simp only [h1, if_true]
    simpa using hj true
  · by_cases h2 : s.data.toList = [46]
    · simp only [h2]
      simpa using hj true
    · have hb := hj (s.data.toList == [46, 46])
      simp only [h1, h2, if_false]
      refine cast ?_ hb
      congr 1
      by_cases h3 : s.data.toList = [46, 46]
      · simp [h3]
      · have n1 : (s.data.toList != []) = true := by simpa using h1
        have n2 : (s.data.toList != [46]) = true := by simpa using h2
        have n3 : (s.data.toList != [46, 46]) = true := by simpa using h3
        have n4 : (s.data.toList == [46, 46]) = false := by simpa using h3
        rw [n1, n2, n3, n4]
        simp

theorem rd_at (l : List ByteArray) (i : Nat) (h : i < l.length) : rdOf ByteArray.empty l (i : Int) = l[i] := by
  unfold rdOf
  simp only [Int.toNat_natCast]
  rw [List.getD_eq_getElem?_getD, List.getElem?_eq_getElem h]
  rfl

theorem ev_all_loop (l : List ByteArray) (hl : l.length ≤ 1000000000) (hs : ∀ x ∈ l, x.size ≤ 1000000000) : ∀ (d i : Nat), i ≤ l.length → l.length - i = d → Ev (fun k => louverref21_May.l0 k l (l.length : Int) (i : Int)) ((l.drop i).all fun x => isPart x.data.toList) := by
  intro d
  induction d with
  | zero =>
    intro i hi hd
    refine Ev.step (f := fun _ => some true) (fun k => ?_) ?_
    · simp only [louverref21_May.l0]
      rw [if_neg (by omega)]
    · rw [List.drop_of_length_le (by omega)]
      exact Ev.now _
  | succ d ih =>
    intro i hi hd
    have hlt : i < l.length := by omega
    rw [List.drop_eq_getElem_cons hlt, List.all_cons]
    have h2 := ih (i + 1) (by omega) (by omega)
    have h1 := ev_part l[i] (hs _ (List.getElem_mem hlt))
    refine Ev.step (f := fun k => (louverref21_part.f k l[i]).bind fun t => if t = true then louverref21_May.l0 k l (l.length : Int) ((i + 1 : Nat) : Int) else some false) (fun k => ?_) ?_
    · simp only [louverref21_May.l0]
      rw [if_pos (by omega), if_pos (by omega), if_pos (by omega), rd_at l i hlt, wrap_ok (by omega) (by omega)]
      rfl
    · refine Ev.bind h1 ?_
      cases hp : isPart l[i].data.toList
      · simpa using Ev.now false
      · simpa using h2

theorem ev_may (s : ByteArray) (hs : s.size ≤ 1000000000) : Ev (fun k => louverref21_May.f k s) (topicOk s) := by
  have hj : ∀ b, Ev (fun k => louverref21_May.j0 k s b) (if b = true then false else (decide ((pieces s).length ≤ 16) && (pieces s).all (fun x => isPart x.data.toList))) := by
    intro b
    cases b
    · refine Ev.step (f := fun k => (louverref21_Parts.f k s).bind fun t => if (t.length : Int) > 16 then some false else louverref21_May.l0 k t (t.length : Int) 0) (fun k => ?_) ?_
      · simp only [louverref21_May.j0]
        simp
      · refine Ev.bind (ev_parts s hs) ?_
        have hle : (pieces s).length ≤ s.size + 1 := by
          have h : (pieces s).length = Lib.countB s ⟨#[47]⟩ + 1 := Lib.splitB_all ⟨#[47]⟩ (by decide) 0 _ s rfl
          have := Lib.countB_le ⟨#[47]⟩ (by decide) s.size s (Nat.le_refl _)
          omega
        by_cases h16 : (pieces s).length ≤ 16
        · have h := ev_all_loop (pieces s) (by omega) (fun x hx => by have := pieces_size s x hx; omega) _ 0 (Nat.zero_le _) rfl
          simp only [show ¬ ((pieces s).length : Int) > 16 by omega, if_false, h16, decide_true, Bool.true_and, Bool.false_eq_true]
          simpa using h
        · simp only [show ((pieces s).length : Int) > 16 by omega, if_true, h16, decide_false, Bool.false_and, Bool.false_eq_true, if_false]
          exact Ev.now false
    · refine Ev.step (f := fun _ => some false) (fun k => ?_) ?_
      · simp only [louverref21_May.j0]
        simp
      · exact Ev.now _
  unfold louverref21_May.f
  by_cases h0 : s.size = 0
  · have hn : s.data.toList = [] := List.eq_nil_of_length_eq_zero (by simpa using h0)
    have hk : topicOk s = false := by
      rw [topicOk_list, hn]
      simp [splitL, isPart]
    rw [hk]
    simp only [h0]
    simpa using hj true
  · simp only [show ¬ (s.size : Int) = 0 by omega, if_false]
    have h := hj (decide ((s.size : Int) > 64))
    unfold topicOk
    by_cases h64 : s.size ≤ 64
    · have e1 : decide ((s.size : Int) > 64) = false := by rw [decide_eq_false_iff_not]; omega
      have e2 : decide (s.size ≤ 64) = true := by rw [decide_eq_true_iff]; exact h64
      rw [e1] at h ⊢
      rw [e2, Bool.true_and]
      simpa using h
    · have e1 : decide ((s.size : Int) > 64) = true := by rw [decide_eq_true_iff]; omega
      have e2 : decide (s.size ≤ 64) = false := by rw [decide_eq_false_iff_not]; exact h64
      rw [e1] at h ⊢
      rw [e2, Bool.false_and]
      simpa using h

end Go.Proofs.YtkgedjaihimafaaDoor

/- What the printed functions of the commands' statements come to. -/
namespace Go.Proofs.YtkgedjaihimafaaDoor
set_option linter.unusedVariables false
set_option linter.unusedSimpArgs false
open Go.RowKit Go.Proofs.YtkgedjaihimafaaDoorW.PrintWords Go.Proofs.YtkgedjaihimafaaDoorW.PrintMore Go.Proofs.YtkgedjaihimafaaDoor.QCmd Go.Proofs.YtkgedjaihimafaaDoor.Given

/-- May a command be? -/
def cmdOk (kind : Int) (topic : ByteArray) (seq code : Int) (pay : List Int) : Bool :=
  decide (1 ≤ kind ∧ kind ≤ 8) && ((if kind = 1 ∨ kind = 3 then topicOk topic else decide (topic.data.toList = [])) && (decide ((4 ≤ kind ∧ kind ≤ 7) ∨ seq = 0) &&
    ((if kind = 8 then decide (1 ≤ code ∧ code ≤ 5) else decide (code = 0)) && (if kind = 3 ∨ kind = 6 then decide (pay.length ≤ 2048) else decide (pay.length = 0)))))

theorem topicOk_nil {t : ByteArray} (h : t.data.toList = []) : topicOk t = false := by
  rw [topicOk_list, h]
  simp [splitL, isPart]

theorem kinds9 (k : Int) : k < 1 ∨ k = 1 ∨ k = 2 ∨ k = 3 ∨ k = 4 ∨ k = 5 ∨ k = 6 ∨ k = 7 ∨ k = 8 ∨ 8 < k := by omega

set_option maxHeartbeats 2000000 in
theorem ev_refMay (kind id : Int) (topic : ByteArray) (seq code : Int) (pay : List Int) (hk : 0 ≤ kind) (hc : 0 ≤ code) (ht : topic.size ≤ 1000000000) :
    Ev (fun k => louverref22_May.f k kind id topic seq code pay) (cmdOk kind topic seq code pay) := by
  obtain ⟨K, hK⟩ := ev_may topic ht
  refine ⟨K + 4, fun k hk' => ?_⟩
  obtain ⟨m, rfl⟩ : ∃ m, k = m + 1 + 1 + 1 + 1 := ⟨k - 4, by omega⟩
  have h1 := hK (m + 1 + 1) (by omega)
  have ht' : topic.toList = topic.data.toList := ByteArray.toList_eq topic
  simp only [louverref22_May.f, louverref22_May.j0, louverref22_May.j1, louverref22_May.j2, louverref22_May.j3, louverref22_seq.f, h1, Option.bind_some, ht']
  unfold cmdOk
  have hp : ∀ n : Nat, (((n : Int) == 0) = decide (n = 0)) := fun n => by rw [Bool.eq_iff_iff]; simp
  have hq : ∀ n : Nat, decide ((n : Int) ≤ 2048) = decide (n ≤ 2048) := fun n => by rw [decide_eq_decide]; omega
  simp only [hp, hq]
  rcases kinds9 kind with h | h | h | h | h | h | h | h | h | h
  · obtain rfl : kind = 0 := by omega
    simp
  rotate_right
  · simp [h, show ¬ kind = 0 by omega, show ¬ kind ≤ 8 by omega]
  all_goals subst h
  all_goals
    by_cases e1 : topic.data.toList = [] <;> cases e2 : topicOk topic <;> by_cases e3 : seq = 0 <;>
      rcases (show code = 0 ∨ (¬ code = 0 ∧ 1 ≤ code ∧ code ≤ 5 ∧ ¬ 5 < code) ∨ (¬ code = 0 ∧ 1 ≤ code ∧ ¬ code ≤ 5 ∧ 5 < code) by omega) with e4 | ⟨e4, e5, e6, e7⟩ | ⟨e4, e5, e6, e7⟩ <;>
      simp [*]

theorem cmay_some (s : ByteArray) (hs : s.size ≤ 1000000000) : topic_May.f s = some (topicOk s) := by
  unfold topic_May.f
  rw [if_pos hs]
set_option maxHeartbeats 2000000 in
theorem ev_cmdMay (kind id : Int) (topic : ByteArray) (seq code : Int) (pay : List Int) (hk : 0 ≤ kind) (hc : 0 ≤ code) (ht : topic.size ≤ 1000000000) :
    Ev (fun k => command_May.f k kind id topic seq code pay) (cmdOk kind topic seq code pay) := by
  refine ⟨4, fun k hk' => ?_⟩
  obtain ⟨m, rfl⟩ : ∃ m, k = m + 1 + 1 + 1 + 1 := ⟨k - 4, by omega⟩
  have h1 := cmay_some topic ht
  have ht' : topic.toList = topic.data.toList := ByteArray.toList_eq topic
  simp only [command_May.f, command_May.j0, command_May.j1, command_May.j2, command_May.j3, command_topics.f, command_seqs.f, command_payloads.f, h1, Option.bind_some, ht']
  unfold cmdOk
  have hq : ∀ n : Nat, decide ((n : Int) ≤ 2048) = decide (n ≤ 2048) := fun n => by rw [decide_eq_decide]; omega
  have hz : ∀ n : Nat, ((n : Int) = 0) = (n = 0) := fun n => by rw [eq_iff_iff]; omega
  simp only [hq, hz]
  have hnil := @topicOk_nil topic
  have hpl : pay.length = 0 → pay.length ≤ 2048 := fun h => by omega
  rcases kinds9 kind with h | h | h | h | h | h | h | h | h | h
  · obtain rfl : kind = 0 := by omega
    simp
  rotate_right
  · simp [h, show ¬ kind < 1 by omega, show ¬ kind ≤ 8 by omega]
  all_goals subst h
  all_goals
    by_cases e1 : topic.data.toList = [] <;> cases e2 : topicOk topic <;> by_cases e3 : seq = 0 <;> by_cases e8 : pay.length = 0 <;>
      rcases (show (code = 0 ∧ ¬ 1 ≤ code) ∨ (¬ code = 0 ∧ 1 ≤ code ∧ code ≤ 5) ∨ (¬ code = 0 ∧ 1 ≤ code ∧ ¬ code ≤ 5) by omega) with ⟨e4, e5⟩ | ⟨e4, e5, e6⟩ | ⟨e4, e5, e6⟩ <;>
      simp_all
  all_goals
    split
    · rename_i h
      simp [h]
    · rename_i h
      simp [h]

/-- The low m bytes of a number, the high one first. -/
def beL (n : Int) : Nat → List Int
  | 0 => []
  | m + 1 => (n / 2 ^ (8 * m)) % 256 :: beL n m
theorem beL_length (n : Int) : ∀ m, (beL n m).length = m
  | 0 => rfl
  | m + 1 => by simp [beL, beL_length n m]
theorem wrap_okC {x : Int} (h0 : -9223372036854775808 ≤ x) (h1 : x ≤ 9223372036854775807) : wrap64 x = x := by
  unfold wrap64
  omega
theorem ev_number_loop (n : Int) : ∀ (m : Nat) (l : List Int), m ≤ 8 → l.length + m ≤ 1000000 → Ev (fun k => command_number.l0 k l n (8 * (m : Int) - 8)) (l ++ beL n m)
  | 0, l, _, _ => by
    refine Ev.step (f := fun _ => some l) (fun k => ?_) ?_
    · simp only [command_number.l0]
      rw [if_neg (by omega)]
    · simpa [beL] using Ev.now l
  | m + 1, l, hm, hl => by
    have ih := ev_number_loop n m (l ++ [(n / 2 ^ (8 * m)) % 256]) (by omega) (by simp; omega)
    have es : shr .u64 n (8 * ((m + 1 : Nat) : Int) - 8) = n / 2 ^ (8 * m) := by
      unfold shr
      rw [show (8 * ((m + 1 : Nat) : Int) - 8).toNat = 8 * m by omega, Nat.min_eq_left (by show 8 * m ≤ 64; omega)]
    refine Ev.step (f := fun k => command_number.l0 k (l ++ [(n / 2 ^ (8 * m)) % 256]) n (8 * (m : Int) - 8)) (fun k => ?_) ?_
    · simp only [command_number.l0]
      rw [if_pos (by omega), if_pos (by omega), if_pos (by omega), es, wrap_okC (x := 8 * ((m + 1 : Nat) : Int) - 8 - 8) (by omega) (by omega)]
      rw [show 8 * ((m + 1 : Nat) : Int) - 8 - 8 = 8 * (m : Int) - 8 by omega]
    · rw [List.append_assoc] at ih
      exact ih
theorem ev_number (l : List Int) (n : Int) (m : Nat) (hm : m ≤ 8) (hl : l.length + m ≤ 1000000) : Ev (fun k => command_number.f k l n (m : Int)) (l ++ beL n m) := by
  unfold command_number.f
  have e : wrap64 (8 * (wrap64 ((m : Int) - 1))) = 8 * (m : Int) - 8 := by
    rw [wrap_okC (x := (m : Int) - 1) (by omega) (by omega), wrap_okC (by omega) (by omega)]
    omega
  rw [e]
  exact ev_number_loop n m l hm hl

/-- A command's writing. -/
def putL (kind id : Int) (topic : ByteArray) (seq code : Int) (pay : List Int) : List Int :=
  ((((([kind] ++ beL id 4) ++ (if kind = 3 then [((topic.size : Int)) % 256] else [])) ++ bytesOf topic) ++ (if 4 ≤ kind ∧ kind ≤ 7 then beL seq 8 else [])) ++ (if kind = 8 then [code] else [])) ++ pay

theorem ev_put (kind id : Int) (topic : ByteArray) (seq code : Int) (pay : List Int) (hk : 0 ≤ kind) (hc : 0 ≤ code) (hi0 : 0 ≤ id) (hi1 : id ≤ 4294967295) (ht : topic.size ≤ 3000) (hp : pay.length ≤ 9000) :
    Ev (fun k => command_Put.f k kind id topic seq code pay) (if cmdOk kind topic seq code pay = true then putL kind id topic seq code pay else []) := by
  have hw : IntKind.u64.wrap id = id := by
    simp [IntKind.wrap, IntKind.bits, IntKind.signed]
    omega
  have hj : ∀ l : List Int, l.length ≤ 100 → Ev (fun k => command_Put.j0 k l kind id topic seq code pay) ((((l ++ bytesOf topic) ++ (if 4 ≤ kind ∧ kind ≤ 7 then beL seq 8 else [])) ++ (if kind = 8 then [code] else [])) ++ pay) := by
    intro l hl
    have hb : (bytesOf topic).length = topic.size := bytesOf_length topic
    have hs : command_seqs.f kind = some (decide (4 ≤ kind ∧ kind ≤ 7)) := by
      unfold command_seqs.f
      by_cases h4 : kind ≥ 4
      · rw [if_pos h4]
        congr 1
        rw [decide_eq_decide]
        omega
      · rw [if_neg h4]
        congr 1
        symm
        rw [decide_eq_false_iff_not]
        omega
    by_cases h47 : 4 ≤ kind ∧ kind ≤ 7
    · refine Ev.step (f := fun k => (command_number.f k (l ++ bytesOf topic) seq 8).bind fun t => some (t ++ pay)) (fun k => ?_) ?_
      · simp only [command_Put.j0]
        rw [if_pos (by omega), hs, decide_eq_true h47]
        simp only [Option.bind_some, if_true, show ¬ kind = 8 by omega, if_false]
        cases hn : command_number.f k (l ++ bytesOf topic) seq 8 with
        | none => rfl
        | some r =>
          simp only [Option.bind_some]
          rw [if_pos]
          have hK := ev_number (l ++ bytesOf topic) seq 8 (by decide) (by rw [List.length_append]; omega)
          obtain ⟨K, hK⟩ := hK
          have h1 := at_rounds (g := fun k => command_number.f k (l ++ bytesOf topic) seq 8) (fun k => command_number.mono _ _ _ k) (Nat.le_max_left k K) hn
          have h2 := hK (max k K) (Nat.le_max_right _ _)
          have h3 : r = l ++ bytesOf topic ++ beL seq 8 := Option.some.inj (h1.symm.trans h2)
          rw [h3]
          simp only [List.length_append, beL_length]
          omega
      · rw [if_pos h47, if_neg (by omega), List.append_nil]
        exact Ev.bind (ev_number (l ++ bytesOf topic) seq 8 (by decide) (by rw [List.length_append]; omega)) (Ev.now _)
    · rw [if_neg h47, List.append_nil]
      refine Ev.step (f := fun _ => some (((l ++ bytesOf topic) ++ (if kind = 8 then [code] else [])) ++ pay)) (fun k => ?_) (Ev.now _)
      simp only [command_Put.j0]
      rw [if_pos (by omega), hs, decide_eq_false h47]
      simp only [Option.bind_some, Bool.false_eq_true, if_false]
      by_cases h8 : kind = 8
      · simp only [h8, if_true]
        rw [if_pos (by rw [List.length_append]; omega)]
        show (if _ then _ else _) = _
        rw [if_pos (by simp only [List.length_append, List.length_singleton]; omega)]
      · simp only [h8, if_false, List.append_nil]
        rw [if_pos (by simp only [List.length_append]; omega)]
  unfold command_Put.f
  refine Ev.bind (ev_cmdMay kind id topic seq code pay hk hc (by omega)) ?_
  cases cmdOk kind topic seq code pay
  · simp
    exact Ev.now _
  · simp only [if_true, hw]
    refine Ev.bind (ev_number [kind] id 4 (by decide) (by simp)) ?_
    unfold putL
    by_cases h3 : kind = 3
    · have hl : ([kind] ++ beL id 4).length < 140737488355328 := by rw [List.length_append, beL_length, List.length_singleton]; decide
      simp only [h3, if_true] at hl ⊢
      simp only [hl, if_true]
      have := hj ([kind] ++ beL id 4 ++ [((topic.size : Int)) % 256]) (by simp [beL_length])
      rw [h3] at this
      exact this
    · simp only [h3, if_false, List.append_nil]
      exact hj ([kind] ++ beL id 4) (by simp [beL_length])
end Go.Proofs.YtkgedjaihimafaaDoor

/- Small laws on memory: append of a row that is read, as a run and as a step of a region that draws its order; blocks kept. No program. -/
namespace Go.Proofs.YtkgedjaihimafaaDoor
set_option linter.unusedVariables false
set_option linter.unusedSimpArgs false
open Go.RowKit Go.Proofs.YtkgedjaihimafaaDoorW.PrintWords

section
variable {P : Program}
theorem run_append_row (W : World) (base : Nat) (t ty e : TypeId) (k : IntKind) (bytes : Nat) (ht : P.underlying t = some (.slice e))
    (hinfo : (P.info? e).map (fun i => (i.zero, i.size, i.bytes)) = some (some (.int k 0), 1, bytes)) (hb0 : 0 < bytes)
    (v : Value) (xs ys : List Int) (A : Option Addr) (m c : Nat) (HO : W.ownsRow base e 1 v xs.length (nums k xs)) (HR : ReadsInt W k A m ys) (hbase : base ≤ W.heap.size)
    (hl : (xs.length + m) * bytes ≤ 140737488355328) :
    ∃ v1 w1, (Builtin.append_ #[t, t] ty #[v, .slice A m c]).run P W = .ok v1 w1 ∧ w1.ownsRow base e 1 v1 (xs ++ ys).length (nums k (xs ++ ys)) ∧ W.grownBy w1 v.ownBlock ∧
      (v1.ownBlock = v.ownBlock ∨ v1.ownBlock = some W.heap.size) := by
  obtain ⟨i0, hi, hq⟩ := Option.map_eq_some_iff.1 hinfo
  simp only [Prod.mk.injEq] at hq
  have hn : xs.length + m ≤ 140737488355328 := Nat.le_trans (Nat.le_mul_of_pos_right _ hb0) hl
  cases A with
  | none =>
    have hm0 : m = 0 := Nat.eq_zero_of_not_pos fun h => by obtain ⟨_, h1, _⟩ := HR.2.2 h; cases h1
    have hy : ys = [] := List.eq_nil_of_length_eq_zero (by have := HR.1; omega)
    subst hm0 hy
    refine ⟨v, W, ?_, by simpa using HO, World.grownBy.refl W _, .inl rfl⟩
    rcases HO.2 with ⟨hv, _⟩ | ⟨g, cap, cur, hv, _, _, hcap, _⟩ <;> subst hv <;>
      simp [Builtin.append_, run_underlying ht, sizeOf, typeInfo, hi, Builtin.lenOf, Builtin.firstCells, storeCells] <;> omega
  | some ad =>
    have hlen : ys.length = m := HR.1
    have hcell : ∀ j u, (nums k ys)[j]? = some u → W.cell? (ad.add j) = some u := fun j u hu => by
      have hj : j < ys.length := by
        have := (List.getElem?_eq_some_iff.1 hu).1
        rwa [nums_length] at this
      obtain ⟨a2, e2, hc⟩ := HR.2.2 (by omega)
      obtain rfl := Option.some.inj e2
      rw [hc j (by omega), ← hu]
      simp [nums, List.getD_eq_getElem?_getD, List.getElem?_eq_getElem hj]
    obtain ⟨v1, w1, h1, h2, h3, _, h5⟩ := run_append_own_at (P := P) W base t ty e i0 (.int k 0) 1 bytes ht hi hq.1 hq.2.1 hq.2.2 rfl (by decide) v xs.length (nums k xs) HO ad m c (nums k ys)
      (by rw [nums_length, hlen, Nat.mul_one]) hcell (fun u hu => by obtain ⟨q, _, rfl⟩ := List.mem_map.1 hu; rfl) (by unfold maxLen; omega) hl hbase
    refine ⟨v1, w1, h1, ?_, h3, h5⟩
    rw [nums_append, List.length_append, hlen]
    exact h2

variable {ops : Array Oper} {o : Oper} {a : Act} {K : Act → World → Prop} {Q : Exit → Act → World → Prop} {E : Prop}
/-- 'append(v, ys...)', ys a row that is read, nil let in, at a step of a region that draws its order. -/
theorem step_append_row (W : World) (hgd : o.guard = none) (s x : Operand) (t : TypeId) (ho : o.op = .call { callee := .builtin .append, args := #[s, x], argTypes := #[t, t] })
    (base : Nat) (e : TypeId) (k : IntKind) (bytes : Nat) (ht : P.underlying t = some (.slice e))
    (hinfo : (P.info? e).map (fun i => (i.zero, i.size, i.bytes)) = some (some (.int k 0), 1, bytes)) (hb0 : 0 < bytes)
    (v : Value) (xs ys : List Int) (A : Option Addr) (m c : Nat) (hs : a.eval s = v) (hx : a.eval x = .slice A m c)
    (HO : W.ownsRow base e 1 v xs.length (nums k xs)) (HR : ReadsInt W k A m ys) (hbase : base ≤ W.heap.size) (hl : (xs.length + m) * bytes ≤ 140737488355328)
    (h : ∀ v1 w1, w1.ownsRow base e 1 v1 (xs ++ ys).length (nums k (xs ++ ys)) → W.grownBy w1 v.ownBlock → (v1.ownBlock = v.ownBlock ∨ v1.ownBlock = some W.heap.size) → K (a.put o.dst v1) w1) :
    if Region.wanted o (yielded ops a.tmps) = true then Oper.wp P o a W K Q else E := by
  rw [if_pos (by simp [Region.wanted, hgd])]
  obtain ⟨v1, w1, hr, h1, h2, h3⟩ := run_append_row W base t o.type e k bytes ht hinfo hb0 v xs ys A m c HO HR hbase hl
  unfold Oper.wp execOp
  simp only [ho, resolve, invoke, builtin, Sem.run_bind, Sem.run_pure, Result.andThen_ok, List.map_toArray, List.map_cons, List.map_nil, hs, hx, hr]
  exact h v1 w1 h1 h2 h3
end

theorem keepBut_alloc {w W : World} {g : Nat} {row : Option Nat} (h : KeepBut w W g row) (o : Obj) : KeepBut w (W.alloc o) g row :=
  ⟨by have := h.1; simp; omega, fun i hi hg hr => (Below.heap_alloc W o i (by have := h.1; omega)).trans (h.2 i hi hg hr)⟩
theorem keepBut_row {w W : World} {g : Nat} {row : Option Nat} (h : KeepBut w W g none) : KeepBut w W g row := ⟨h.1, fun i hi hg _ => h.2 i hi hg (by simp)⟩
theorem keepBut_grown {w W W1 : World} {g : Nat} {row : Option Nat} (h : KeepBut w W g row) (hg : W.grownBy W1 row) : KeepBut w W1 g row :=
  ⟨Nat.le_trans h.1 hg.size, fun i hi hne hr => (hg.block i (by have := h.1; omega) hr).trans (h.2 i hi hne hr)⟩
/-- Does a row that is read lie elsewhere than block g? -/
def Elsewhere (A : Option Addr) (n g : Nat) : Prop := ∀ ad, A = some ad → 0 < n → ad.block ≠ g
theorem add_block (a : Addr) (j : Nat) : (a.add j).block = a.block := by unfold Addr.add; split <;> rfl
theorem reads_keep {w W : World} {g : Nat} {k : IntKind} {A : Option Addr} {n : Nat} {xs : List Int} (h : ReadsInt w k A n xs) (hK : KeepBut w W g none) (hE : Elsewhere A n g) : ReadsInt W k A n xs :=
  ⟨h.1, h.2.1, fun hn => by
    obtain ⟨ad, e, hc⟩ := h.2.2 hn
    refine ⟨ad, e, fun j hj => ?_⟩
    have hcell := hc j hj
    have hb := World.block_lt_of_cell? w _ hcell
    rw [add_block] at hb
    rw [← hcell]
    exact World.cell?_of_block (by rw [add_block]; exact hK.2 _ hb (hE ad e hn) (by simp))⟩
theorem grown_drew {w w1 : World} {row : Option Nat} (h : w.drew.grownBy w1 row) : w.grownBy w1 row := ⟨h.os, h.tape, h.output, h.size, h.block⟩
theorem keepBut_drewN {w W : World} {g : Nat} {row : Option Nat} (h : KeepBut w W g row) (n : Nat) : KeepBut w (W.drewN n) g row := h
theorem own_drewN {w : World} {base n size : Nat} {e : TypeId} {v : Value} {xs : List Value} (h : w.ownsRow base e size v n xs) (k : Nat) : (w.drewN k).ownsRow base e size v n xs := h
theorem blk_at {w : World} {n : Nat} (o : Obj) (hn : n = w.heap.size) : (w.alloc o).heap[n]? = some o := by subst hn; exact blk_new w o
theorem blk_new1 (w : World) (o1 o2 : Obj) : ((w.alloc o1).alloc o2).heap[w.heap.size + 1]? = some o2 := blk_at o2 (by simp)
theorem blk_new2 (w : World) (o1 o2 o3 : Obj) : (((w.alloc o1).alloc o2).alloc o3).heap[w.heap.size + 1 + 1]? = some o3 := blk_at o3 (by simp)
theorem below_alloc3 (w : World) (o1 o2 o3 : Obj) : Below w.heap.size w (((w.alloc o1).alloc o2).alloc o3) := (((Below.refl _ _).alloc (Nat.le_refl _) _).alloc (by simp) _).alloc (by simp; omega) _
end Go.Proofs.YtkgedjaihimafaaDoor

/- append of a row that is read, as a step of a list. No program. -/
namespace Go.Proofs.YtkgedjaihimafaaDoor
set_option linter.unusedVariables false
set_option linter.unusedSimpArgs false
open Go.RowKit Go.Proofs.YtkgedjaihimafaaDoorW.PrintWords
section
variable {P : Program} {ops : Array Oper} {rest : List Oper} {o : Oper} {a : Act} {Q : Exit → Act → World → Prop}
theorem list_append_row (W : World) (hgd : o.guard = none) (s x : Operand) (t : TypeId) (ho : o.op = .call { callee := .builtin .append, args := #[s, x], argTypes := #[t, t] })
    (base : Nat) (e : TypeId) (k : IntKind) (bytes : Nat) (ht : P.underlying t = some (.slice e))
    (hinfo : (P.info? e).map (fun i => (i.zero, i.size, i.bytes)) = some (some (.int k 0), 1, bytes)) (hb0 : 0 < bytes)
    (v : Value) (xs ys : List Int) (A : Option Addr) (m c : Nat) (hs : a.eval s = v) (hx : a.eval x = .slice A m c)
    (HO : W.ownsRow base e 1 v xs.length (nums k xs)) (HR : ReadsInt W k A m ys) (hbase : base ≤ W.heap.size) (hl : (xs.length + m) * bytes ≤ 140737488355328)
    (h : ∀ v1 w1, w1.ownsRow base e 1 v1 (xs ++ ys).length (nums k (xs ++ ys)) → W.grownBy w1 v.ownBlock → (v1.ownBlock = v.ownBlock ∨ v1.ownBlock = some W.heap.size) → wpList P ops Q rest (a.put o.dst v1) w1) :
    wpList P ops Q (o :: rest) a W :=
  wpList_plain hgd fun _ hK => by
    obtain ⟨v1, w1, hr, h1, h2, h3⟩ := run_append_row W base t o.type e k bytes ht hinfo hb0 v xs ys A m c HO HR hbase hl
    unfold Oper.wp execOp
    simp only [ho, resolve, invoke, builtin, Sem.run_bind, Sem.run_pure, Result.andThen_ok, List.map_toArray, List.map_cons, List.map_nil, hs, hx, hr]
    exact hK _ _ (h v1 w1 h1 h2 h3)
theorem own_empty (W : World) (base : Nat) (e : TypeId) (hb : base ≤ W.heap.size) : (W.alloc (.cells #[] e)).ownsRow base e 1 (.slice (some ⟨W.heap.size, 0, none⟩) 0 0) 0 (nums .u8 []) :=
  World.ownsRow_lit (base := base) (e := e) (size := 1) W #[] 0 hb (by decide) (by simp)
end
end Go.Proofs.YtkgedjaihimafaaDoor

/- What bytes.Clone gives. -/
namespace Go.Proofs.YtkgedjaihimafaaDoor
set_option linter.unusedVariables false
set_option linter.unusedSimpArgs false
open Go.RowKit Go.Proofs.YtkgedjaihimafaaDoorW.PrintWords

theorem Tryd.infoB8 : (Tryd.prog.info? 5).map (fun i => (i.zero, i.size, i.bytes)) = some (some (.int .u8 0), 1, 1) := by kernel_rfl
theorem clone_calls (w : World) (A : Option Addr) (n c : Nat) (data : List Int) (hR : ReadsInt w .u8 A n data) (hn : n ≤ 100000) :
    Calls Tryd.prog 56 #[.slice A n c] w fun ev w' => ∃ v, ev = .returned v ∧ w'.ownsRow w.heap.size 5 1 v data.length (nums .u8 data) ∧ Below w.heap.size w w' := by
  refine of_post0 fun R hRR => ?_
  have HP := Lib.hid hRR
  clear hRR
  have q : ∀ (w : World) (a : Option Addr) (n c n' c' : Nat), (binOp .eql 24 (.slice a n c) (.slice none n' c')).run Tryd.prog w = .ok (.bool a.isNone) w := fun w a n c n' c' => Lib.run_eql_slice_nil w _ _ a n c n' c' Tryd.underlying24
  cases A with
  | none =>
    have hm0 : n = 0 := Nat.eq_zero_of_not_pos fun h => by obtain ⟨_, h1, _⟩ := hR.2.2 h; cases h1
    have hy : data = [] := List.eq_nil_of_length_eq_zero (by have := hR.1; omega)
    subst hm0 hy
    clear hR
    go_enter Tryd.func56, Tryd.ntmps56
    go_wp2
    exact HP.out _ _ ⟨_, rfl, own_nil _ _ _ _, Below.refl _ _⟩
  | some ad =>
    have hR1 : ReadsInt (w.alloc (.cells #[] 5)) .u8 (some ad) n data := hR.below ((Below.refl w.heap.size w).alloc (Nat.le_refl _) _)
    have hO := own_empty w w.heap.size 5 (Nat.le_refl _)
    have hl : data.length = n := hR.1
    have HL := Lib.hid hl
    clear hR hl
    go_enter Tryd.func56, Tryd.ntmps56
    go_wp2_with (at_builtin; refine list_append_row _ (by rfl) (.tmp 5) (.tmp 6) 24 (by rfl) w.heap.size 5 .u8 1 Tryd.underlying24 Tryd.infoB8 (by decide) (.slice (some ⟨w.heap.size, 0, none⟩) 0 0) [] data (some ad) n c (by rfl) (by rfl) hO hR1 (by simp) (by simp; omega) ?_; intro v1 w2 hown hgrow hat; have H7 := Lib.hid (And.intro hown hgrow); clear hown hgrow hat)
    refine HP.out _ _ ⟨v1, rfl, H7.out.1, ?_⟩
    exact ((Below.refl w.heap.size w).alloc (Nat.le_refl _) _).grown H7.out.2 (by simp) (fun k hk => by simp [Value.ownBlock] at hk; omega)
end Go.Proofs.YtkgedjaihimafaaDoor

/- command.rest, walked: what stands behind a command's head. -/
namespace Go.Proofs.YtkgedjaihimafaaDoor
set_option linter.unusedVariables false
set_option linter.unusedSimpArgs false
open Go.RowKit Go.Proofs.YtkgedjaihimafaaDoorW.PrintWords Go.Proofs.YtkgedjaihimafaaDoor.QCmd

/-- A command in memory: its block, and the row of its bytes. -/
abbrev cmdC (kind id : Int) (topic : ByteArray) (seq code : Int) (v : Value) : Array Value := #[.int .u8 kind, .int .u32 id, .string topic, .int .u64 seq, .int .u8 code, v]
structure IsCmd (w : World) (base g : Nat) (kind id : Int) (topic : ByteArray) (seq code : Int) (pay : List Int) (v : Value) : Prop where
  blk : w.heap[g]? = some (.cells (cmdC kind id topic seq code v) 26 (0, 0))
  own : w.ownsRow base 5 1 v pay.length (nums .u8 pay)

/-- What rest leaves: it is written so (r) or not (none). -/
def RestPost (w : World) (base g : Nat) (kind id : Int) (r : Option (ByteArray × Int × Int × List Int)) (e : Ending) (w' : World) : Prop :=
  (Below base w w' ∧ KeepBut w w' g none) ∧ match r with
  | none => e = .returned (.bool false)
  | some (topic, seq, code, pay) => e = .returned (.bool true) ∧ ∃ v, IsCmd w' base g kind id topic seq code pay v

theorem rest_two (w : World) (base g : Nat) (id : Int) (A : Option Addr) (c : Nat) (l : List Int) (hG : IsCmd w base g 2 id ⟨#[]⟩ 0 0 [] (.slice none 0 0)) (hl : l.length ≤ 100000) :
    Calls Tryd.prog 36 #[.pointer (some ⟨g, 0, none⟩), .slice A l.length c] w (RestPost w base g 2 id (if l.length = 0 then some (⟨#[]⟩, 0, 0, []) else none)) := by
  refine of_post0 fun R hRR => ?_
  have HP := Lib.hid hRR
  have HG := Lib.hid hG
  have q0 := blk_cell hG.blk 0
  simp at q0
  clear hRR hG
  by_cases h0 : l.length = 0
  · have b1 : ((l.length : Int) == 0) = true := by rw [beq_iff_eq]; omega
    have b2 : (l.length == 0) = true := by rw [beq_iff_eq]; omega
    have H0 := Lib.hid h0
    clear h0
    go_enter Tryd.func36, Tryd.ntmps36
    go_wp2_with fail
    refine HP.out _ _ ?_
    rw [if_pos H0.out]
    exact ⟨⟨Below.refl _ _, KeepBut.refl _ _ _⟩, rfl, _, HG.out⟩
  · have b1 : ((l.length : Int) == 0) = false := by rw [beq_eq_false_iff_ne]; omega
    have b2 : (l.length == 0) = false := by rw [beq_eq_false_iff_ne]; omega
    have H0 := Lib.hid h0
    clear h0
    go_enter Tryd.func36, Tryd.ntmps36
    go_wp2_with fail
    refine HP.out _ _ ?_
    rw [if_neg H0.out]
    exact ⟨⟨Below.refl _ _, KeepBut.refl _ _ _⟩, rfl⟩

theorem rest_one (w : World) (base g : Nat) (id : Int) (A : Option Addr) (c : Nat) (l : List Int) (hb : base ≤ g) (hG : IsCmd w base g 1 id ⟨#[]⟩ 0 0 [] (.slice none 0 0)) (hl : l.length ≤ 100000) (hR : ReadsInt w .u8 A l.length l) :
    Calls Tryd.prog 36 #[.pointer (some ⟨g, 0, none⟩), .slice A l.length c] w (RestPost w base g 1 id (some (strOfNums l, 0, 0, []))) := by
  refine of_post0 fun R hRR => ?_
  have HP := Lib.hid hRR
  have HG := Lib.hid hG
  have q0 := blk_cell hG.blk 0
  have q2 := blk_cell hG.blk 2
  have f2 := blk_frozen hG.blk 2
  simp at q0 q2
  have hcv : ∀ W, Below w.heap.size w W → (convert 24 9 (.slice A l.length c)).run Tryd.prog W = .ok (.string (strOfNums l)) W := fun W hW => string_of_reads Tryd.underlying24 Tryd.underlying5 Tryd.underlying9 (hR.below hW)
  have HC := hcv w (Below.refl _ _)
  clear hRR hG hcv hR
  go_enter Tryd.func36, Tryd.ntmps36
  go_wp2_with fail
  refine HP.out _ _ ⟨⟨(Below.refl _ _).setCell (p := ⟨g, 2, none⟩) hb _, (KeepBut.refl _ _ _).set_ 2 _⟩, rfl, _, blk_set HG.out.blk 2 _, own_nil _ _ _ _⟩

theorem seqs_calls (w : World) (k : Int) (hk : 0 ≤ k ∧ k ≤ 255) : Calls Tryd.prog 34 #[.int .u8 k] w fun e w' => e = .returned (.bool (decide (4 ≤ k ∧ k ≤ 7))) ∧ w = w' := by
  by_cases h4 : 4 ≤ k
  · have b1 : decide (4 ≤ k) = true := by simpa using h4
    have e : decide (4 ≤ k ∧ k ≤ 7) = decide (k ≤ 7) := by rw [decide_eq_decide]; omega
    rw [e]
    clear e
    go_enter Tryd.func34, Tryd.ntmps34
    go_wp2
    go_ret
    exact ⟨rfl, rfl⟩
  · have b1 : decide (4 ≤ k) = false := by simpa using h4
    have e : decide (4 ≤ k ∧ k ≤ 7) = false := by rw [decide_eq_false_iff_not]; omega
    rw [e]
    clear e
    go_enter Tryd.func34, Tryd.ntmps34
    go_wp2
    go_ret
    exact ⟨rfl, rfl⟩

theorem rest_eight (w : World) (base g : Nat) (id : Int) (A : Option Addr) (c : Nat) (l : List Int) (hb : base ≤ g) (hG : IsCmd w base g 8 id ⟨#[]⟩ 0 0 [] (.slice none 0 0)) (hl : l.length ≤ 100000) (hR : ReadsInt w .u8 A l.length l) :
    Calls Tryd.prog 36 #[.pointer (some ⟨g, 0, none⟩), .slice A l.length c] w (RestPost w base g 8 id (if l.length = 1 then some (⟨#[]⟩, 0, l.getD 0 0, []) else none)) := by
  refine of_post0 fun R hRR => ?_
  have HP := Lib.hid hRR
  have HG := Lib.hid hG
  have q0 := blk_cell hG.blk 0
  have q4 := blk_cell hG.blk 4
  have f4 := blk_frozen hG.blk 4
  simp at q0 q4
  clear hRR hG
  by_cases h1 : l.length = 1
  · obtain ⟨ad, rfl, hc⟩ := hR.2.2 (by omega)
    have hc0 := hc 0 (by omega)
    have ha : ad.add 0 = ad := by unfold Addr.add; rfl
    rw [ha] at hc0
    have HX := Lib.hid (if_pos h1 : (if l.length = 1 then some ((⟨#[]⟩ : ByteArray), (0 : Int), l.getD 0 0, ([] : List Int)) else none) = _)
    rw [h1]
    generalize hx : l.getD 0 0 = x at hc0
    have HX2 := Lib.hid hx
    clear hc hR h1 hx hl
    go_enter Tryd.func36, Tryd.ntmps36
    go_wp2_with fail
    refine (seqs_calls _ 8 (by decide)).mono ?_
    rintro e w1 ⟨rfl, rfl⟩
    go_wp2_with fail
    refine HP.out _ _ ?_
    rw [HX.out, HX2.out]
    exact ⟨⟨(Below.refl _ _).setCell (p := ⟨g, 4, none⟩) hb _, (KeepBut.refl _ _ _).set_ 4 _⟩, rfl, _, blk_set HG.out.blk 4 _, own_nil _ _ _ _⟩
  · have b1 : ((l.length : Int) == 1) = false := by rw [beq_eq_false_iff_ne]; omega
    have b2 : (l.length == 1) = false := by rw [beq_eq_false_iff_ne]; omega
    have HX := Lib.hid (if_neg h1 : (if l.length = 1 then some ((⟨#[]⟩ : ByteArray), (0 : Int), l.getD 0 0, ([] : List Int)) else none) = _)
    clear h1 hR
    go_enter Tryd.func36, Tryd.ntmps36
    go_wp2_with fail
    refine (seqs_calls _ 8 (by decide)).mono ?_
    rintro e w1 ⟨rfl, rfl⟩
    go_wp2_with fail
    refine HP.out _ _ ?_
    rw [HX.out]
    exact ⟨⟨Below.refl _ _, KeepBut.refl _ _ _⟩, rfl⟩

theorem rest_other (w : World) (base g : Nat) (kind id : Int) (A : Option Addr) (c : Nat) (l : List Int) (hG : IsCmd w base g kind id ⟨#[]⟩ 0 0 [] (.slice none 0 0)) (hk : 0 ≤ kind ∧ kind ≤ 255) (hno : kind < 1 ∨ 8 < kind) :
    Calls Tryd.prog 36 #[.pointer (some ⟨g, 0, none⟩), .slice A l.length c] w (RestPost w base g kind id none) := by
  refine of_post0 fun R hRR => ?_
  have HP := Lib.hid hRR
  have q0 := blk_cell hG.blk 0
  simp at q0
  have b1 : (kind == 1) = false := by rw [beq_eq_false_iff_ne]; omega
  have b2 : (kind == 2) = false := by rw [beq_eq_false_iff_ne]; omega
  have b3 : (kind == 3) = false := by rw [beq_eq_false_iff_ne]; omega
  have b8 : (kind == 8) = false := by rw [beq_eq_false_iff_ne]; omega
  have HK := Lib.hid (show decide (4 ≤ kind ∧ kind ≤ 7) = false by rw [decide_eq_false_iff_not]; omega)
  clear hRR hG
  go_enter Tryd.func36, Tryd.ntmps36
  go_wp2_with fail
  refine (seqs_calls _ kind hk).mono ?_
  rintro e w1 ⟨rfl, rfl⟩
  rw [HK.out]
  go_wp2_with fail
  exact HP.out _ _ ⟨⟨Below.refl _ _, KeepBut.refl _ _ _⟩, rfl⟩
end Go.Proofs.YtkgedjaihimafaaDoor

/- command.rest at the kinds that have a number. -/
namespace Go.Proofs.YtkgedjaihimafaaDoor
set_option linter.unusedVariables false
set_option linter.unusedSimpArgs false
open Go.RowKit Go.Proofs.YtkgedjaihimafaaDoorW.PrintWords Go.Proofs.YtkgedjaihimafaaDoor.QCmd

/-- The number that bytes are, the high one first. -/
def valFrom : Int → List Int → Int
  | n, [] => n
  | n, c :: l => valFrom (n * 256 + c) l
def valL (l : List Int) : Int := valFrom 0 l
theorem or_byte (a c : Int) (h0 : 0 ≤ a) (h1 : a * 256 + c < 18446744073709551616) (hc : 0 ≤ c ∧ c ≤ 255) :
    Go.bits .or .u64 (IntKind.u64.wrap (a * 256)) (IntKind.u64.wrap c) = a * 256 + c := by
  have hw : ∀ x : Int, 0 ≤ x → x < 18446744073709551616 → IntKind.u64.wrap x = x := by
    intro x h0 h1
    simp [IntKind.wrap, IntKind.bits, IntKind.signed]
    omega
  rw [hw _ (by omega) (by omega), hw _ hc.1 (by omega)]
  obtain ⟨m, rfl⟩ := Int.eq_ofNat_of_zero_le h0
  obtain ⟨d, rfl⟩ := Int.eq_ofNat_of_zero_le hc.1
  have := u64_or_nat (m * 256) d (by omega) (by omega)
  rw [show ((m : Int) * 256) = ((m * 256 : Nat) : Int) by omega, this]
  have h2 : m * 256 ||| d = m * 256 + d := by
    have := Nat.shiftLeft_add_eq_or_of_lt (show d < 2 ^ 8 by omega) m
    rw [Nat.shiftLeft_eq] at this
    exact this.symm
  rw [h2]
  omega
theorem pow256_succ (n : Nat) : (256 : Int) ^ (n + 1) = 256 ^ n * 256 := by rw [Int.pow_succ]
theorem ev_value_loop (l : List Int) (hl : l.length ≤ 8) (hb : ∀ x ∈ l, 0 ≤ x ∧ x ≤ 255) : ∀ (m i : Nat) (n : Int), m + i = l.length → 0 ≤ n → n < 256 ^ i → Ev (fun k => QCmdV.command_value.l0 k n l (l.length : Int) (i : Int)) (valFrom n (l.drop i))
  | 0, i, n, hi, h0, h1 => by
    refine Ev.step (f := fun _ => some n) (fun k => ?_) ?_
    · simp only [QCmdV.command_value.l0]
      rw [if_neg (by omega)]
    · rw [List.drop_eq_nil_of_le (by omega)]
      exact Ev.now n
  | m + 1, i, n, hi, h0, h1 => by
    have hlt : i < l.length := by omega
    have hx := hb _ (List.getElem_mem hlt)
    have hrd : rd l (i : Int) = l[i] := by
      unfold rd
      rw [List.getD_eq_getElem?_getD, Int.toNat_natCast, List.getElem?_eq_getElem hlt]
      rfl
    have hpw : (256 : Int) ^ i ≤ 256 ^ 7 := by
      have : (256 : Nat) ^ i ≤ 256 ^ 7 := Nat.pow_le_pow_right (by decide) (by omega)
      have h := Int.ofNat_le.2 this
      rw [Int.natCast_pow, Int.natCast_pow] at h
      exact h
    have h7 : (256 : Int) ^ 7 = 72057594037927936 := rfl
    have ih := ev_value_loop l hl hb m (i + 1) (n * 256 + l[i]) (by omega) (by omega) (by rw [pow256_succ]; omega)
    refine Ev.step (f := fun k => QCmdV.command_value.l0 k (n * 256 + l[i]) l (l.length : Int) ((i + 1 : Nat) : Int)) (fun k => ?_) ?_
    · simp only [QCmdV.command_value.l0]
      rw [if_pos (by omega), if_pos (by omega), if_pos (by omega), hrd, or_byte n l[i] h0 (by omega) hx, wrap_okC (by omega) (by omega)]
      rfl
    · rw [List.drop_eq_getElem_cons hlt]
      exact ih
theorem ev_value (l : List Int) (hl : l.length ≤ 8) (hb : ∀ x ∈ l, 0 ≤ x ∧ x ≤ 255) : Ev (fun k => QCmdV.command_value.f k l) (valL l) := by
  unfold QCmdV.command_value.f valL
  exact ev_value_loop l hl hb l.length 0 0 (by omega) (by omega) (by decide)
theorem value_calls (w : World) (A : Option Addr) (c : Nat) (l : List Int) (hl : l.length ≤ 8) (hb : ∀ x ∈ l, 0 ≤ x ∧ x ≤ 255) (hR : ReadsInt w .u8 A l.length l) (hc : l.length ≤ c) :
    Calls Tryd.prog 35 #[.slice A l.length c] w fun e w' => e = .returned (.int .u64 (valL l)) ∧ Drawn0 w w' := by
  obtain ⟨k, hk⟩ := (ev_value l hl hb).rounds
  exact QCmdV.command_value.calls k A c l (valL l) w (Kd.C_of_reads (d := (0 : Int)) (h1 := fun _ => rfl) hR) hc hk

theorem rest_seq_no (w : World) (base g : Nat) (kind id : Int) (A : Option Addr) (c : Nat) (l : List Int) (hG : IsCmd w base g kind id ⟨#[]⟩ 0 0 [] (.slice none 0 0)) (hl : l.length ≤ 100000) (hk : 4 ≤ kind ∧ kind ≤ 7) (hno : l.length < 8 ∨ (kind ≠ 6 ∧ 8 < l.length)) :
    Calls Tryd.prog 36 #[.pointer (some ⟨g, 0, none⟩), .slice A l.length c] w (RestPost w base g kind id none) := by
  refine of_post0 fun R hRR => ?_
  have HP := Lib.hid hRR
  have q0 := blk_cell hG.blk 0
  simp at q0
  have b1 : (kind == 1) = false := by rw [beq_eq_false_iff_ne]; omega
  have b2 : (kind == 2) = false := by rw [beq_eq_false_iff_ne]; omega
  have b3 : (kind == 3) = false := by rw [beq_eq_false_iff_ne]; omega
  have HK := Lib.hid (show decide (4 ≤ kind ∧ kind ≤ 7) = true by rw [decide_eq_true_iff]; omega)
  have HKK := Lib.hid (show 0 ≤ kind ∧ kind ≤ 255 by omega)
  clear hRR hG
  by_cases h8 : l.length < 8
  · have c1 : decide ((l.length : Int) < 8) = true := by rw [decide_eq_true_iff]; omega
    clear hno h8 hk
    go_enter Tryd.func36, Tryd.ntmps36
    go_wp2_with fail
    refine (seqs_calls _ kind HKK.out).mono ?_
    rintro e w1 ⟨rfl, rfl⟩
    rw [HK.out]
    go_wp2_with fail
    exact HP.out _ _ ⟨⟨Below.refl _ _, KeepBut.refl _ _ _⟩, rfl⟩
  · have c1 : decide ((l.length : Int) < 8) = false := by rw [decide_eq_false_iff_not]; omega
    have c2 : decide (8 < (l.length : Int)) = true := by rw [decide_eq_true_iff]; omega
    have c3 : (kind == 6) = false := by rw [beq_eq_false_iff_ne]; omega
    have c4 : (kind != 6) = true := by rw [bne_iff_ne]; omega
    clear hno h8 hk
    go_enter Tryd.func36, Tryd.ntmps36
    go_wp2_with fail
    refine (seqs_calls _ kind HKK.out).mono ?_
    rintro e w1 ⟨rfl, rfl⟩
    rw [HK.out]
    go_wp2_with fail
    exact HP.out _ _ ⟨⟨Below.refl _ _, KeepBut.refl _ _ _⟩, rfl⟩

theorem rest_seq_bare (w : World) (base g : Nat) (kind id : Int) (A : Option Addr) (c : Nat) (l : List Int) (hb : base ≤ g) (hG : IsCmd w base g kind id ⟨#[]⟩ 0 0 [] (.slice none 0 0)) (hk : 4 ≤ kind ∧ kind ≤ 7) (h8 : l.length = 8) (hlc : l.length ≤ c) (hR : ReadsInt w .u8 A l.length l) (hby : ∀ x ∈ l, 0 ≤ x ∧ x ≤ 255) :
    Calls Tryd.prog 36 #[.pointer (some ⟨g, 0, none⟩), .slice A l.length c] w (RestPost w base g kind id (some (⟨#[]⟩, valL l, 0, []))) := by
  refine of_post0 fun R hRR => ?_
  have HP := Lib.hid hRR
  have HG := Lib.hid hG
  have q0 := blk_cell hG.blk 0
  have q3 := blk_cell hG.blk 3
  have f3 := blk_frozen hG.blk 3
  simp at q0 q3
  have b1 : (kind == 1) = false := by rw [beq_eq_false_iff_ne]; omega
  have b2 : (kind == 2) = false := by rw [beq_eq_false_iff_ne]; omega
  have b3 : (kind == 3) = false := by rw [beq_eq_false_iff_ne]; omega
  have c1 : decide ((l.length : Int) < 8) = false := by rw [decide_eq_false_iff_not]; omega
  have c2 : decide (8 < (l.length : Int)) = false := by rw [decide_eq_false_iff_not]; omega
  have HK := Lib.hid (show decide (4 ≤ kind ∧ kind ≤ 7) = true by rw [decide_eq_true_iff]; omega)
  have HKK := Lib.hid (show 0 ≤ kind ∧ kind ≤ 255 by omega)
  obtain ⟨i0, hi, _, hsz, _⟩ := info_parts Tryd.infoB8
  obtain ⟨hcut, hr1, hm1⟩ := print_take_int (P := Tryd.prog) (k := .u8) 24 5 Tryd.underlying24 hi hsz A c l 8 (by decide) (by omega) hlc
  have et : l.take (8 : Int).toNat = l := List.take_of_length_le (by rw [h8]; decide)
  rw [et] at hcut hr1 hm1
  have hV : ∀ W, Below w.heap.size w W → Calls Tryd.prog 35 #[.slice A 8 c] W fun e w' => e = .returned (.int .u64 (valL l)) ∧ Drawn0 W w' := fun W hW => by
    have := value_calls W A c l (by omega) hby (hR.below hW) hlc
    rw [h8] at this
    exact this
  have HV := Lib.hid hV
  clear hV hRR hG hR hr1 hk hby hm1 et hi hsz
  by_cases h6 : kind = 6
  · have c3 : (kind == 6) = true := by rw [beq_iff_eq]; exact h6
    have c4 : (kind != 6) = false := by rw [h6]; rfl
    clear h6
    go_enter Tryd.func36, Tryd.ntmps36
    go_wp2_with fail
    refine (seqs_calls _ kind HKK.out).mono ?_
    rintro e w1 ⟨rfl, rfl⟩
    rw [HK.out]
    go_wp2_with fail
    refine (HV.out _ (by repeat (first | exact Below.refl _ _ | apply below_drew1 | apply pw_below_drewN))).mono ?_
    rintro e w1 ⟨rfl, n, rfl⟩
    go_wp2_with fail
    exact HP.out _ _ ⟨⟨(show Below base w (w.drewN n) from by apply pw_below_drewN; exact Below.refl _ _).setCell (p := ⟨g, 3, none⟩) hb _, (show KeepBut w (w.drewN n) g none from KeepBut.refl w g none).set_ 3 _⟩, rfl, _, blk_set HG.out.blk 3 _, own_nil _ _ _ _⟩
  · have c3 : (kind == 6) = false := by rw [beq_eq_false_iff_ne]; exact h6
    have c4 : (kind != 6) = true := by rw [bne_iff_ne]; exact h6
    clear h6
    go_enter Tryd.func36, Tryd.ntmps36
    go_wp2_with fail
    refine (seqs_calls _ kind HKK.out).mono ?_
    rintro e w1 ⟨rfl, rfl⟩
    rw [HK.out]
    go_wp2_with fail
    refine (HV.out _ (by repeat (first | exact Below.refl _ _ | apply below_drew1 | apply pw_below_drewN))).mono ?_
    rintro e w1 ⟨rfl, n, rfl⟩
    go_wp2_with fail
    exact HP.out _ _ ⟨⟨(show Below base w (w.drewN n) from by apply pw_below_drewN; exact Below.refl _ _).setCell (p := ⟨g, 3, none⟩) hb _, (show KeepBut w (w.drewN n) g none from KeepBut.refl w g none).set_ 3 _⟩, rfl, _, blk_set HG.out.blk 3 _, own_nil _ _ _ _⟩
end Go.Proofs.YtkgedjaihimafaaDoor

/- command.rest at a message with bytes. -/
namespace Go.Proofs.YtkgedjaihimafaaDoor
set_option linter.unusedVariables false
set_option linter.unusedSimpArgs false
open Go.RowKit Go.Proofs.YtkgedjaihimafaaDoorW.PrintWords Go.Proofs.YtkgedjaihimafaaDoor.QCmd

set_option maxHeartbeats 1000000 in
set_option maxRecDepth 100000 in
theorem rest_six (w : World) (base g : Nat) (id : Int) (A : Option Addr) (c : Nat) (l : List Int) (hb : base ≤ g) (hG : IsCmd w base g 6 id ⟨#[]⟩ 0 0 [] (.slice none 0 0)) (hl : l.length ≤ 100000) (h8 : 8 < l.length) (hlc : l.length ≤ c) (hR : ReadsInt w .u8 A l.length l) (hE : Elsewhere A l.length g) (hby : ∀ x ∈ l, 0 ≤ x ∧ x ≤ 255) :
    Calls Tryd.prog 36 #[.pointer (some ⟨g, 0, none⟩), .slice A l.length c] w (RestPost w base g 6 id (some (⟨#[]⟩, valL (l.take 8), 0, l.drop 8))) := by
  refine of_post0 fun R hRR => ?_
  have HP := Lib.hid hRR
  have HG := Lib.hid hG
  have q0 := blk_cell hG.blk 0
  have q3 := blk_cell hG.blk 3
  have f3 := blk_frozen hG.blk 3
  have q5 := blk_cell hG.blk 5
  have f5 := blk_frozen hG.blk 5
  simp at q0 q3 q5
  have c1 : decide ((l.length : Int) < 8) = false := by rw [decide_eq_false_iff_not]; omega
  have c2 : decide (8 < (l.length : Int)) = true := by rw [decide_eq_true_iff]; omega
  obtain ⟨i0, hi, _, hsz, _⟩ := info_parts Tryd.infoB8
  obtain ⟨hcut, hr1, hm1⟩ := print_take_int (P := Tryd.prog) (k := .u8) 24 5 Tryd.underlying24 hi hsz A c l 8 (by decide) (by omega) hlc
  obtain ⟨A2, hcut2, hr2, hm2⟩ := print_drop_of (P := Tryd.prog) (Value.int .u8) (0 : Int) 24 5 .i64 Tryd.underlying24 hi hsz A c l 8 (by decide) (by omega) hlc
  rw [show (8 : Int).toNat = 8 from rfl] at *
  have hl1 : (l.take 8).length ≤ 8 := by rw [List.length_take]; omega
  have hby1 : ∀ x ∈ l.take 8, 0 ≤ x ∧ x ≤ 255 := fun x hx => hby x (List.mem_of_mem_take hx)
  have hl2 : (l.drop 8).length ≤ 100000 := by rw [List.length_drop]; omega
  generalize hL1 : l.take 8 = L1 at *
  generalize hL2 : l.drop 8 = L2 at *
  have hV : ∀ W, Below w.heap.size w W → Calls Tryd.prog 35 #[.slice A L1.length c] W fun e w' => e = .returned (.int .u64 (valL L1)) ∧ Drawn0 W w' := fun W hW => value_calls W A c L1 hl1 hby1 (hr1 W (hR.below hW)) hm1
  have HV := Lib.hid hV
  have hcl : ∀ W, KeepBut w W g none → Calls Tryd.prog 56 #[.slice A2 L2.length (c - 8)] W fun ev w' => ∃ v, ev = .returned v ∧ w'.ownsRow W.heap.size 5 1 v L2.length (nums .u8 L2) ∧ Below W.heap.size W w' := fun W hW => clone_calls W A2 L2.length (c - 8) L2 (hr2 W (reads_keep hR hW hE)) hl2
  have HCL := Lib.hid hcl
  clear hcl hV hRR hG hE hR hr1 hr2 hm1 hm2 hL1 hL2 hby hby1 hl1 hi hsz
  go_enter Tryd.func36, Tryd.ntmps36
  go_wp2_with fail
  refine (seqs_calls _ 6 (by decide)).mono ?_
  rintro e w1 ⟨rfl, rfl⟩
  go_wp2_with fail
  refine (HV.out _ (by repeat (first | exact Below.refl _ _ | apply below_drew1 | apply pw_below_drewN))).mono ?_
  rintro e w1 ⟨rfl, n, rfl⟩
  go_wp2_with fail
  have hgl := blk_lt HG.out.blk
  have hbw : base ≤ w.heap.size := by omega
  have HB0 := Lib.hid (((show Below base w (w.drewN n) from by apply pw_below_drewN; exact Below.refl _ _)).setCell (p := ⟨g, 3, none⟩) hb (.int .u64 (valL L1)))
  have hsz1 : ((w.drewN n).setCell ⟨g, 3, none⟩ (.int .u64 (valL L1))).heap.size = w.heap.size := by simp
  refine (HCL.out _ ((show KeepBut w (w.drewN n) g none from KeepBut.refl w g none).set_ 3 _)).mono ?_
  rintro e w1 ⟨v, rfl, hown, hb1⟩
  obtain ⟨A3, c3, rfl⟩ := own_slice hown
  have hgb := blk_below (blk_set (show (w.drewN n).heap[g]? = _ from HG.out.blk) 3 (.int .u64 (valL L1))) hb1
  have r5 := blk_cell hgb 5
  have s5 := blk_frozen hgb 5
  simp at r5
  have HO := Lib.hid (And.intro hown hgb)
  have HBB := Lib.hid (HB0.out.trans (hb1.mono (by rw [hsz1]; exact hbw)))
  have HKB := Lib.hid (((show KeepBut w (w.drewN n) g none from KeepBut.refl w g none).set_ 3 (.int .u64 (valL L1))).trans (KeepBut.of_below hb1 g none) (.inl rfl))
  rw [hsz1] at hown
  have HOW := Lib.hid hown
  clear hown hb1 hgb
  go_wp2_with fail
  have hO := own_weaken HOW.out hbw
  have hne := own_ne hO HO.out.2 (by decide)
  refine HP.out _ _ ⟨⟨HBB.out.setCell (p := ⟨g, 5, none⟩) hb _, HKB.out.set_ 5 _⟩, rfl, _, blk_set HO.out.2 5 _, own_setCell hO hne _⟩
end Go.Proofs.YtkgedjaihimafaaDoor

/- command.rest at a publication. -/
namespace Go.Proofs.YtkgedjaihimafaaDoor
set_option linter.unusedVariables false
set_option linter.unusedSimpArgs false
open Go.RowKit Go.Proofs.YtkgedjaihimafaaDoorW.PrintWords Go.Proofs.YtkgedjaihimafaaDoor.QCmd

set_option maxHeartbeats 1000000 in
set_option maxRecDepth 100000 in
theorem rest_three (w : World) (base g : Nat) (id : Int) (A : Option Addr) (c : Nat) (l : List Int) (hb : base ≤ g) (hG : IsCmd w base g 3 id ⟨#[]⟩ 0 0 [] (.slice none 0 0)) (hl : l.length ≤ 100000) (hlc : l.length ≤ c) (hR : ReadsInt w .u8 A l.length l) (hE : Elsewhere A l.length g)
    (h0 : 0 < l.length) (x : Int) (hx : l.getD 0 0 = x) (hx0 : 0 ≤ x) (hx1 : x ≤ 255) (hxl : x ≤ (l.length : Int) - 1) :
    Calls Tryd.prog 36 #[.pointer (some ⟨g, 0, none⟩), .slice A l.length c] w (RestPost w base g 3 id (some (strOfNums ((l.take (x + 1).toNat).drop 1), 0, 0, l.drop (x + 1).toNat))) := by
  refine of_post0 fun R hRR => ?_
  have HP := Lib.hid hRR
  have HG := Lib.hid hG
  have q0 := blk_cell hG.blk 0
  have q2 := blk_cell hG.blk 2
  have q5 := blk_cell hG.blk 5
  have f2 := blk_frozen hG.blk 2
  have f5 := blk_frozen hG.blk 5
  simp at q0 q2 q5
  obtain ⟨ad, rfl, hc⟩ := hR.2.2 h0
  have hc0 := hc 0 h0
  have ha : ad.add 0 = ad := by unfold Addr.add; rfl
  rw [ha, hx] at hc0
  obtain ⟨i0, hi, _, hsz, _⟩ := info_parts Tryd.infoB8
  obtain ⟨A1, hcut1, hr1, hm1⟩ := print_mid_int (P := Tryd.prog) (k := .u8) 24 5 Tryd.underlying24 hi hsz (some ad) c l 1 (x + 1) (by decide) (by omega) (by omega) hlc
  obtain ⟨A2, hcut2, hr2, hm2⟩ := print_drop_of (P := Tryd.prog) (Value.int .u8) (0 : Int) 24 5 .i64 Tryd.underlying24 hi hsz (some ad) c l (x + 1) (by omega) (by omega) hlc
  have e1 : (1 : Int).toNat = 1 := rfl
  rw [e1] at hcut1 hr1 hm1
  generalize hL1 : (l.take (x + 1).toNat).drop 1 = L1 at *
  generalize hL2 : l.drop (x + 1).toNat = L2 at *
  have hl2 : L2.length ≤ 100000 := by rw [← hL2, List.length_drop]; omega
  have HR1 := Lib.hid (hr1 w hR)
  have HR2 := Lib.hid (hr2 w hR)
  have b1 : ((l.length : Int) == 0) = false := by rw [beq_eq_false_iff_ne]; omega
  have b2 : (l.length == 0) = false := by rw [beq_eq_false_iff_ne]; omega
  have b3 : decide ((l.length : Int) - 1 < x) = false := by rw [decide_eq_false_iff_not]; omega
  have b5 : (0 : Int) < (l.length : Int) := by omega
  have hcv : ∀ W, KeepBut w W g none → (convert 24 9 (.slice A1 L1.length (c - 1))).run Tryd.prog W = .ok (.string (strOfNums L1)) W := fun W hW => string_of_reads Tryd.underlying24 Tryd.underlying5 Tryd.underlying9 (hr1 W (reads_keep hR hW hE))
  have HC := Lib.hid hcv
  clear hRR hG hcv hE hR hc hr1 hr2 hm1 hm2 hL1 hL2 hx hi hsz
  go_enter Tryd.func36, Tryd.ntmps36
  go_wp2_with fail
  have K0 : KeepBut w w.drew g none := KeepBut.refl w g none
  go_region_held3 (fun w' => (convert 24 9 (.slice A1 L1.length (c - 1))).run Tryd.prog w' = .ok (.string (strOfNums L1)) w' ∧ True)
    (first | exact ⟨HC.out _ K0, trivial⟩ | exact ⟨HC.out _ (KeepBut.of_below HBB.out g none), trivial⟩ | exact ⟨HC.out _ ((KeepBut.of_below HBB.out g none).set_ 2 _), trivial⟩ | exact ⟨HC.out _ ((KeepBut.of_below HBB.out g none).set_ 5 _), trivial⟩ | exact ⟨HC.out _ (((KeepBut.of_below HBB.out g none).set_ 2 _).set_ 5 _), trivial⟩ | exact ⟨HC.out _ (((KeepBut.of_below HBB.out g none).set_ 5 _).set_ 2 _), trivial⟩)
    ((go_at_call 56; refine (clone_calls _ A2 L2.length _ L2 (HR2.out.below (Below.refl _ _).drew) hl2).mono ?_; rintro e w1 ⟨v, rfl, hown, hb1⟩; obtain ⟨A3, c3, rfl⟩ := own_slice hown; have HBB := Lib.hid ((Below.refl w.heap.size w).drew.trans (hb1.mono (Nat.le_refl _))); have hgb := blk_below HG.out.blk HBB.out; have r2 := blk_cell hgb 2; have r5 := blk_cell hgb 5; have s2 := blk_frozen hgb 2; have s5 := blk_frozen hgb 5; simp at r2 r5; have HO := Lib.hid (And.intro hown hgb); clear hown hb1 hgb))
  go_wp2_with fail
  have hgl := blk_lt HG.out.blk
  have hbw : base ≤ w.heap.size := by omega
  have hO := own_weaken HO.out.1 (show base ≤ w.drew.heap.size from hbw)
  have hne := own_ne hO HO.out.2 (by decide)
  refine HP.out _ _ ⟨⟨((HBB.out.mono hbw).setCell (p := ⟨g, 2, none⟩) hb _).setCell (p := ⟨g, 5, none⟩) hb _, ((KeepBut.of_below HBB.out g none).set_ 2 _).set_ 5 _⟩, rfl, _, blk_set (blk_set HO.out.2 2 _) 5 _, own_setCell (own_setCell hO hne _) hne _⟩

theorem rest_three_no (w : World) (base g : Nat) (id : Int) (A : Option Addr) (c : Nat) (l : List Int) (hG : IsCmd w base g 3 id ⟨#[]⟩ 0 0 [] (.slice none 0 0)) (hl : l.length ≤ 100000) (hR : ReadsInt w .u8 A l.length l)
    (x : Int) (hx : l.getD 0 0 = x) (hx0 : 0 ≤ x) (hx1 : x ≤ 255) (hno : l.length = 0 ∨ (l.length : Int) - 1 < x) :
    Calls Tryd.prog 36 #[.pointer (some ⟨g, 0, none⟩), .slice A l.length c] w (RestPost w base g 3 id none) := by
  refine of_post0 fun R hRR => ?_
  have HP := Lib.hid hRR
  have q0 := blk_cell hG.blk 0
  simp at q0
  clear hRR hG
  by_cases h0 : l.length = 0
  · have b1 : ((l.length : Int) == 0) = true := by rw [beq_iff_eq]; omega
    have b2 : (l.length == 0) = true := by rw [beq_iff_eq]; omega
    clear hR hno hx h0
    go_enter Tryd.func36, Tryd.ntmps36
    go_wp2_with fail
    exact HP.out _ _ ⟨⟨Below.refl _ _, KeepBut.refl _ _ _⟩, rfl⟩
  · obtain ⟨ad, rfl, hc⟩ := hR.2.2 (by omega)
    have hc0 := hc 0 (by omega)
    have ha : ad.add 0 = ad := by unfold Addr.add; rfl
    rw [ha, hx] at hc0
    have b1 : ((l.length : Int) == 0) = false := by rw [beq_eq_false_iff_ne]; omega
    have b2 : (l.length == 0) = false := by rw [beq_eq_false_iff_ne]; omega
    have b3 : decide ((l.length : Int) - 1 < x) = true := by rw [decide_eq_true_iff]; omega
    have b5 : (0 : Int) < (l.length : Int) := by omega
    have b6 : 0 < l.length := by omega
    clear hR hno hx h0 hc
    go_enter Tryd.func36, Tryd.ntmps36
    go_wp2_with fail
    exact HP.out _ _ ⟨⟨Below.refl _ _, KeepBut.refl _ _ _⟩, rfl⟩
end Go.Proofs.YtkgedjaihimafaaDoor

/- command.rest as a whole; what command.Get answers. -/
namespace Go.Proofs.YtkgedjaihimafaaDoor
set_option linter.unusedVariables false
set_option linter.unusedSimpArgs false
open Go.RowKit Go.Proofs.YtkgedjaihimafaaDoorW.PrintWords Go.Proofs.YtkgedjaihimafaaDoor.QCmd

/-- What rest reads behind a head. -/
def restR (kind : Int) (l : List Int) : Option (ByteArray × Int × Int × List Int) :=
  if kind = 1 then some (strOfNums l, 0, 0, [])
  else if kind = 2 then (if l.length = 0 then some (⟨#[]⟩, 0, 0, []) else none)
  else if kind = 3 then (if l.length = 0 ∨ (l.length : Int) - 1 < l.getD 0 0 then none else some (strOfNums ((l.take (l.getD 0 0 + 1).toNat).drop 1), 0, 0, l.drop (l.getD 0 0 + 1).toNat))
  else if 4 ≤ kind ∧ kind ≤ 7 then (if l.length < 8 ∨ (kind ≠ 6 ∧ 8 < l.length) then none else some (⟨#[]⟩, valL (l.take 8), 0, l.drop 8))
  else if kind = 8 then (if l.length = 1 then some (⟨#[]⟩, 0, l.getD 0 0, []) else none)
  else none

theorem getD0_mem {l : List Int} (h : 0 < l.length) : l.getD 0 0 ∈ l := by
  cases l with
  | nil => simp at h
  | cons a l => simp
theorem rest_calls (w : World) (base g : Nat) (kind id : Int) (A : Option Addr) (c : Nat) (l : List Int) (hb : base ≤ g) (hk : 0 ≤ kind ∧ kind ≤ 255) (hG : IsCmd w base g kind id ⟨#[]⟩ 0 0 [] (.slice none 0 0)) (hl : l.length ≤ 100000) (hlc : l.length ≤ c) (hR : ReadsInt w .u8 A l.length l) (hE : Elsewhere A l.length g) (hby : ∀ x ∈ l, 0 ≤ x ∧ x ≤ 255) :
    Calls Tryd.prog 36 #[.pointer (some ⟨g, 0, none⟩), .slice A l.length c] w (RestPost w base g kind id (restR kind l)) := by
  unfold restR
  by_cases h1 : kind = 1
  · subst h1
    rw [if_pos rfl]
    exact rest_one w base g id A c l hb hG hl hR
  rw [if_neg h1]
  by_cases h2 : kind = 2
  · subst h2
    rw [if_pos rfl]
    exact rest_two w base g id A c l hG hl
  rw [if_neg h2]
  by_cases h3 : kind = 3
  · subst h3
    rw [if_pos rfl]
    by_cases h0 : l.length = 0
    · have h00 : l.getD 0 0 = 0 := by rw [List.eq_nil_of_length_eq_zero h0]; rfl
      rw [if_pos (Or.inl h0)]
      exact rest_three_no w base g id A c l hG hl hR (l.getD 0 0) rfl (by rw [h00]; exact Int.le_refl 0) (by rw [h00]; decide) (Or.inl h0)
    have hx := hby _ (getD0_mem (show 0 < l.length by omega))
    by_cases h4 : (l.length : Int) - 1 < l.getD 0 0
    · rw [if_pos (Or.inr h4)]
      exact rest_three_no w base g id A c l hG hl hR (l.getD 0 0) rfl hx.1 hx.2 (Or.inr h4)
    · rw [if_neg (fun h => h.elim h0 h4)]
      exact rest_three w base g id A c l hb hG hl hlc hR hE (by omega) (l.getD 0 0) rfl hx.1 hx.2 (by omega)
  rw [if_neg h3]
  by_cases h4 : 4 ≤ kind ∧ kind ≤ 7
  · rw [if_pos h4]
    by_cases h5 : l.length < 8 ∨ (kind ≠ 6 ∧ 8 < l.length)
    · rw [if_pos h5]
      exact rest_seq_no w base g kind id A c l hG hl h4 h5
    · rw [if_neg h5]
      by_cases h8 : l.length = 8
      · rw [List.take_of_length_le (by omega), List.drop_eq_nil_of_le (by omega)]
        exact rest_seq_bare w base g kind id A c l hb hG h4 h8 hlc hR hby
      · obtain rfl : kind = 6 := by
          by_cases h6 : kind = 6
          · exact h6
          · exact absurd (Or.inr ⟨h6, by omega⟩) h5
        exact rest_six w base g id A c l hb hG hl (by omega) hlc hR hE hby
  rw [if_neg h4]
  by_cases h8 : kind = 8
  · subst h8
    rw [if_pos rfl]
    exact rest_eight w base g id A c l hb hG hl hR
  rw [if_neg h8]
  exact rest_other w base g kind id A c l hG hk (by omega)

/-- Which command bytes are, and why one is refused. -/
def getR (l : List Int) : Int × Int × ByteArray × Int × Int × List Int × Int × Bool :=
  if l.length < 5 then (0, 0, ⟨#[]⟩, 0, 0, [], 0, false)
  else match restR (l.getD 0 0) (l.drop 5) with
    | none => (0, 0, ⟨#[]⟩, 0, 0, [], 0, false)
    | some (topic, seq, code, pay) =>
      if (l.getD 0 0 = 1 ∨ l.getD 0 0 = 3) ∧ topicOk topic = false then (l.getD 0 0, valL ((l.take 5).drop 1), ⟨#[]⟩, 0, 0, [], 1, false)
      else if l.getD 0 0 = 3 ∧ 2048 < pay.length then (l.getD 0 0, valL ((l.take 5).drop 1), ⟨#[]⟩, 0, 0, [], 5, false)
      else if cmdOk (l.getD 0 0) topic seq code pay = true then (l.getD 0 0, valL ((l.take 5).drop 1), topic, seq, code, pay, 0, true)
      else (0, 0, ⟨#[]⟩, 0, 0, [], 0, false)

end Go.Proofs.YtkgedjaihimafaaDoor

/- Of commands' writings, over lists: they are bytes; two that are the same are of one command; commands that came in. -/
namespace Go.Proofs.YtkgedjaihimafaaDoor
set_option linter.unusedVariables false
set_option linter.unusedSimpArgs false
open Go.RowKit Go.Proofs.YtkgedjaihimafaaDoorW.PrintWords Go.Proofs.YtkgedjaihimafaaDoorW.PrintMore Go.Proofs.YtkgedjaihimafaaDoor.QCmd Go.Proofs.YtkgedjaihimafaaDoor.Given

def Byte8 (l : List Int) : Prop := ∀ x ∈ l, 0 ≤ x ∧ x ≤ 255
theorem str_list (l : List Int) : (strOfNums l).toList = l.map fun n => UInt8.ofNat n.toNat := by
  rw [ByteArray.toList_eq]
  simp [strOfNums]
theorem back_list : ∀ (l : List Int), Byte8 l → (l.map fun n => UInt8.ofNat n.toNat).map (fun c => (c.toNat : Int)) = l
  | [], _ => rfl
  | x :: l, h => by
    have h1 := h x (by simp)
    have h2 := back_list l (fun y hy => h y (by simp [hy]))
    simp only [List.map_cons]
    rw [h2]
    congr 1
    rw [UInt8.toNat_ofNat']
    omega
theorem str_inj {a b : List Int} (ha : Byte8 a) (hb : Byte8 b) : ((strOfNums a).toList == (strOfNums b).toList) = decide (a = b) := by
  rw [str_list, str_list, Bool.eq_iff_iff, beq_iff_eq, decide_eq_true_iff]
  constructor
  · intro h
    have := congrArg (List.map (fun c : UInt8 => (c.toNat : Int))) h
    rwa [back_list a ha, back_list b hb] at this
  · intro h
    rw [h]
theorem be_byte (n : Int) : ∀ m, Byte8 (beL n m)
  | 0 => fun x hx => by cases hx
  | m + 1 => fun x hx => by
    rcases List.mem_cons.1 hx with rfl | h
    · omega
    · exact be_byte n m x h
theorem bytes_byte (s : ByteArray) : Byte8 (bytesOf s) := by
  intro x hx
  obtain ⟨c, -, rfl⟩ := List.mem_map.1 hx
  have := c.toNat_lt
  omega
theorem be4_inj {a b : Int} (ha : 0 ≤ a ∧ a ≤ 4294967295) (hb : 0 ≤ b ∧ b ≤ 4294967295) (h : beL a 4 = beL b 4) : a = b := by
  simp [beL] at h
  omega
theorem be8_inj {a b : Int} (ha : 0 ≤ a ∧ a ≤ 18446744073709551615) (hb : 0 ≤ b ∧ b ≤ 18446744073709551615) (h : beL a 8 = beL b 8) : a = b := by
  simp [beL] at h
  omega
theorem bytesOf_inj {s t : ByteArray} (h : bytesOf s = bytesOf t) : s = t := by
  have hi : Function.Injective fun c : UInt8 => (c.toNat : Int) := fun a b e => by
    apply UInt8.toNat_inj.1
    have : (a.toNat : Int) = b.toNat := e
    omega
  exact bytes_ext ((List.map_inj_right (fun _ _ e => hi e)).1 h)

theorem put_byte {kind id seq code : Int} {topic : ByteArray} {pay : List Int} (h : cmdOk kind topic seq code pay = true) (hp : Byte8 pay) : Byte8 (putL kind id topic seq code pay) := by
  have hk : 1 ≤ kind ∧ kind ≤ 8 := by
    unfold cmdOk at h
    simp only [Bool.and_eq_true, decide_eq_true_iff] at h
    exact h.1
  have hcode : kind = 8 → 1 ≤ code ∧ code ≤ 5 := by
    intro h8
    unfold cmdOk at h
    simp only [Bool.and_eq_true, decide_eq_true_iff, h8, if_true] at h
    exact h.2.2.2.1
  intro x hx
  unfold putL at hx
  simp only [List.mem_append] at hx
  rcases hx with (((((hx | hx) | hx) | hx) | hx) | hx) | hx
  · rw [List.mem_singleton.1 hx]; omega
  · exact be_byte id 4 x hx
  · split at hx
    · rw [List.mem_singleton.1 hx]; omega
    · cases hx
  · exact bytes_byte topic x hx
  · split at hx
    · exact be_byte seq 8 x hx
    · cases hx
  · split at hx
    · rename_i h8
      rw [List.mem_singleton.1 hx]
      have := hcode h8
      omega
    · cases hx
  · exact hp x hx

theorem ok_len3 {s : ByteArray} (h : topicOk s = true) : s.size ≤ 64 := by
  unfold topicOk at h
  simp at h
  exact h.1

theorem put_inj {k i q c k' i' q' c' : Int} {t t' : ByteArray} {p p' : List Int} (h : cmdOk k t q c p = true) (h' : cmdOk k' t' q' c' p' = true)
    (hi : 0 ≤ i ∧ i ≤ 4294967295) (hi' : 0 ≤ i' ∧ i' ≤ 4294967295) (hq : 0 ≤ q ∧ q ≤ 18446744073709551615) (hq' : 0 ≤ q' ∧ q' ≤ 18446744073709551615)
    (e : putL k i t q c p = putL k' i' t' q' c' p') : k = k' ∧ i = i' ∧ t = t' ∧ q = q' ∧ c = c' ∧ p = p' := by
  have hkk : k = k' := by
    unfold putL at e
    simp at e
    exact e.1
  subst hkk
  unfold putL at e
  simp only [List.append_assoc, List.cons_append, List.nil_append] at e
  obtain ⟨e1, e2⟩ := List.append_inj (List.cons.inj e).2 (by rw [beL_length, beL_length])
  have hii := be4_inj hi hi' e1
  unfold cmdOk at h h'
  simp only [Bool.and_eq_true, decide_eq_true_iff] at h h'
  obtain ⟨a1, a2, a3, a4, a5⟩ := h
  obtain ⟨b1, b2, b3, b4, b5⟩ := h'
  have hnil : ∀ {s : ByteArray}, s.data.toList = [] → bytesOf s = [] := fun hs => by simp [bytesOf, hs]
  rcases (show k = 1 ∨ k = 2 ∨ k = 3 ∨ k = 4 ∨ k = 5 ∨ k = 6 ∨ k = 7 ∨ k = 8 by omega) with rfl | rfl | rfl | rfl | rfl | rfl | rfl | rfl
  all_goals simp at a2 a3 a4 a5 b2 b3 b4 b5 e2
  · have hb : bytesOf t = bytesOf t' := by simpa [a5, b5] using e2
    exact ⟨rfl, hii, bytesOf_inj hb, by rw [a3, b3], by rw [a4, b4], by rw [a5, b5]⟩
  · exact ⟨rfl, hii, bytes_ext (by simp [a2, b2]), by rw [a3, b3], by rw [a4, b4], by rw [a5, b5]⟩
  · have s1 := (ok_len3 a2)
    have s2 := (ok_len3 b2)
    have hs : t.size = t'.size := by omega
    obtain ⟨e3, e4⟩ := List.append_inj e2.2 (by rw [bytesOf_length, bytesOf_length]; exact hs)
    exact ⟨rfl, hii, bytesOf_inj e3, by rw [a3, b3], by rw [a4, b4], e4⟩
  · have n1 : bytesOf t = [] := by simp [bytesOf, a2]
    have n2 : bytesOf t' = [] := by simp [bytesOf, b2]
    rw [n1, n2, a5, b5] at e2
    exact ⟨rfl, hii, bytes_ext (by simp [a2, b2]), be8_inj hq hq' (by simpa using e2), by rw [a4, b4], by rw [a5, b5]⟩
  · have n1 : bytesOf t = [] := by simp [bytesOf, a2]
    have n2 : bytesOf t' = [] := by simp [bytesOf, b2]
    rw [n1, n2, a5, b5] at e2
    exact ⟨rfl, hii, bytes_ext (by simp [a2, b2]), be8_inj hq hq' (by simpa using e2), by rw [a4, b4], by rw [a5, b5]⟩
  · have n1 : bytesOf t = [] := by simp [bytesOf, a2]
    have n2 : bytesOf t' = [] := by simp [bytesOf, b2]
    rw [n1, n2] at e2
    obtain ⟨e3, e4⟩ := List.append_inj (by simpa using e2) (by rw [beL_length, beL_length])
    exact ⟨rfl, hii, bytes_ext (by simp [a2, b2]), be8_inj hq hq' e3, by rw [a4, b4], e4⟩
  · have n1 : bytesOf t = [] := by simp [bytesOf, a2]
    have n2 : bytesOf t' = [] := by simp [bytesOf, b2]
    rw [n1, n2, a5, b5] at e2
    exact ⟨rfl, hii, bytes_ext (by simp [a2, b2]), be8_inj hq hq' (by simpa using e2), by rw [a4, b4], by rw [a5, b5]⟩
  · have n1 : bytesOf t = [] := by simp [bytesOf, a2]
    have n2 : bytesOf t' = [] := by simp [bytesOf, b2]
    rw [n1, n2, a5, b5] at e2
    exact ⟨rfl, hii, bytes_ext (by simp [a2, b2]), by rw [a3, b3], by simpa using e2, by rw [a5, b5]⟩

theorem ev_fixed22 : Ev (fun k => louverlaw22_fixed.f k) true := by
  unfold louverlaw22_fixed.f
  have h := ev_put 2 5 ⟨#[]⟩ 0 0 [] (by decide) (by decide) (by decide) (by decide) (by decide) (by decide)
  have hok : cmdOk 2 ⟨#[]⟩ 0 0 [] = true := by decide +kernel
  rw [hok] at h
  refine Ev.bind h ?_
  have e : ((strOfNums (if true = true then putL 2 5 ⟨#[]⟩ 0 0 [] else [])).toList == ([2, 0, 0, 0, 5] : List UInt8)) = true := by decide +kernel
  rw [e]
  exact Ev.now true

/-- A command's numbers in their ranges. -/
structure CmdIn (kind id seq code : Int) (topic : ByteArray) (pay : List Int) : Prop where
  k : 0 ≤ kind ∧ kind ≤ 255
  i : 0 ≤ id ∧ id ≤ 4294967295
  q : 0 ≤ seq ∧ seq ≤ 18446744073709551615
  c : 0 ≤ code ∧ code ≤ 255
  p : Byte8 pay

theorem great_some (kind id : Int) (topic : ByteArray) (seq code : Int) (pay : List Int) : louverlaw22_great.f kind id topic seq code pay = some (decide (3000 < topic.size ∨ 9000 < pay.length)) := by
  unfold louverlaw22_great.f
  by_cases h : (topic.size : Int) > 3000
  · rw [if_pos h, decide_eq_true (show 3000 < topic.size ∨ 9000 < pay.length by omega)]
  · rw [if_neg h]
    congr 1
    rw [decide_eq_decide]
    omega
end Go.Proofs.YtkgedjaihimafaaDoor

/- A command's writing is read as it was; what is read as a command is written so. Over lists. -/
namespace Go.Proofs.YtkgedjaihimafaaDoor
set_option linter.unusedVariables false
set_option linter.unusedSimpArgs false
open Go.RowKit Go.Proofs.YtkgedjaihimafaaDoorW.PrintWords Go.Proofs.YtkgedjaihimafaaDoorW.PrintMore Go.Proofs.YtkgedjaihimafaaDoor.QCmd Go.Proofs.YtkgedjaihimafaaDoor.Given

theorem str_bytes (s : ByteArray) : strOfNums (bytesOf s) = s := by
  refine bytes_ext ?_
  rw [← ByteArray.toList_eq, str_list, bytesOf, List.map_map]
  have : (fun n : Int => UInt8.ofNat n.toNat) ∘ (fun b : UInt8 => (b.toNat : Int)) = id := by
    funext b
    simp
  rw [this, List.map_id]
theorem bytes_str {l : List Int} (h : Byte8 l) : bytesOf (strOfNums l) = l := by
  have e := back_list l h
  unfold bytesOf
  rw [← ByteArray.toList_eq, str_list]
  exact e
theorem str_size (l : List Int) : (strOfNums l).size = l.length := by
  have := bytesOf_length (strOfNums l)
  unfold bytesOf at this
  rw [← ByteArray.toList_eq, str_list] at this
  simpa using this.symm

/-- What stands behind a command's head. -/
def restL (kind : Int) (topic : ByteArray) (seq code : Int) (pay : List Int) : List Int :=
  (if kind = 3 then [((topic.size : Int)) % 256] else []) ++ (bytesOf topic ++ ((if 4 ≤ kind ∧ kind ≤ 7 then beL seq 8 else []) ++ ((if kind = 8 then [code] else []) ++ pay)))
theorem putL_eq (kind id : Int) (topic : ByteArray) (seq code : Int) (pay : List Int) : putL kind id topic seq code pay = kind :: (beL id 4 ++ restL kind topic seq code pay) := by
  unfold putL restL
  simp only [List.append_assoc, List.cons_append, List.nil_append]
theorem valL_be4 {n : Int} (h : 0 ≤ n ∧ n ≤ 4294967295) : valL (beL n 4) = n := by
  simp [valL, valFrom, beL]
  omega
theorem valL_be8 {n : Int} (h : 0 ≤ n ∧ n ≤ 18446744073709551615) : valL (beL n 8) = n := by
  simp [valL, valFrom, beL]
  omega
theorem be4_valL {l : List Int} (hl : l.length = 4) (h : Byte8 l) : beL (valL l) 4 = l := by
  match l, hl with
  | [a, b, c, d], _ =>
    have ha := h a (by simp)
    have hb := h b (by simp)
    have hc := h c (by simp)
    have hd := h d (by simp)
    simp [valL, valFrom, beL]
    omega
theorem be8_valL {l : List Int} (hl : l.length = 8) (h : Byte8 l) : beL (valL l) 8 = l := by
  match l, hl with
  | [a, b, c, d, e, f, g, i], _ =>
    have ha := h a (by simp)
    have hb := h b (by simp)
    have hc := h c (by simp)
    have hd := h d (by simp)
    have he := h e (by simp)
    have hf := h f (by simp)
    have hg := h g (by simp)
    have hi := h i (by simp)
    simp [valL, valFrom, beL]
    omega
theorem valFrom_bound : ∀ (l : List Int) (n : Int), Byte8 l → 0 ≤ n → 0 ≤ valFrom n l ∧ valFrom n l < (n + 1) * 256 ^ l.length
  | [], n, _, hn => by simp [valFrom]; omega
  | c :: l, n, h, hn => by
    have hc := h c (by simp)
    have ih := valFrom_bound l (n * 256 + c) (fun x hx => h x (by simp [hx])) (by omega)
    refine ⟨ih.1, Int.lt_of_lt_of_le ih.2 ?_⟩
    rw [List.length_cons, pow256_succ, Int.mul_comm ((256 : Int) ^ l.length) 256, ← Int.mul_assoc]
    exact Int.mul_le_mul_of_nonneg_right (by omega) (Int.le_of_lt (Int.pow_pos (by decide)))
theorem valL_bound {l : List Int} (h : Byte8 l) : 0 ≤ valL l ∧ valL l < 256 ^ l.length := by
  have := valFrom_bound l 0 h (Int.le_refl 0)
  simpa [valL] using this

theorem topicOk_size {t : ByteArray} (h : topicOk t = true) : t.size ≤ 64 := by
  unfold topicOk at h
  simp only [Bool.and_eq_true, decide_eq_true_iff] at h
  exact h.1
theorem empty_of {t : ByteArray} (h : t.data.toList = []) : t = ⟨#[]⟩ := bytes_ext h
theorem bytesOf_empty : bytesOf ⟨#[]⟩ = [] := rfl

theorem restR_pub (topic : ByteArray) (pay : List Int) : restR 3 ((topic.size : Int) :: (bytesOf topic ++ pay)) = some (topic, 0, 0, pay) := by
  have hb := bytesOf_length topic
  unfold restR
  rw [if_neg (by decide), if_neg (by decide), if_pos rfl, List.getD_cons_zero]
  rw [if_neg (by simp only [List.length_cons, List.length_append]; omega)]
  have e1 : ((topic.size : Int) + 1).toNat = topic.size + 1 := by omega
  rw [e1, List.take_succ_cons, List.drop_succ_cons, List.drop_succ_cons, List.drop_zero, List.take_left' hb, List.drop_left' hb, str_bytes]

theorem restR_restL {kind : Int} {topic : ByteArray} {seq code : Int} {pay : List Int} (h : cmdOk kind topic seq code pay = true) (hq : 0 ≤ seq ∧ seq ≤ 18446744073709551615) : restR kind (restL kind topic seq code pay) = some (topic, seq, code, pay) := by
  unfold cmdOk at h
  simp only [Bool.and_eq_true, decide_eq_true_iff] at h
  obtain ⟨hk, ht, hs, hc, hp⟩ := h
  have hnil : pay.length = 0 → pay = [] := List.eq_nil_of_length_eq_zero
  unfold restR restL
  rcases kinds9 kind with h | h | h | h | h | h | h | h | h | h
  · omega
  · subst h
    simp at ht hs hc hp
    subst hs hc hp
    simp [str_bytes]
  · subst h
    simp at ht hs hc hp
    subst hs hc hp
    obtain rfl := empty_of (t := topic) (by simpa using ht)
    simp [bytesOf_empty]
  · subst h
    simp at ht hs hc hp
    subst hs hc
    have h64 := topicOk_size ht
    have em : ((topic.size : Int)) % 256 = topic.size := by omega
    simpa [em, restR] using restR_pub topic pay
  rotate_right
  · omega
  all_goals subst h
  rotate_right
  · simp at ht hs hc hp
    subst hs hp
    obtain rfl := empty_of (t := topic) (by simpa using ht)
    simp [bytesOf_empty]
  all_goals
    simp at ht hs hc hp
    subst hc
    obtain rfl := empty_of (t := topic) (by simpa using ht)
    try subst hp
    have h8 := beL_length seq 8
    have ev := valL_be8 hq
    have et : (beL seq 8).take 8 = beL seq 8 := List.take_of_length_le (by omega)
    simp [bytesOf_empty, h8, et, List.take_left' h8, List.drop_left' h8, ev]

theorem getR_putL {kind id : Int} {topic : ByteArray} {seq code : Int} {pay : List Int} (h : cmdOk kind topic seq code pay = true) (hi : 0 ≤ id ∧ id ≤ 4294967295) (hq : 0 ≤ seq ∧ seq ≤ 18446744073709551615) :
    getR (putL kind id topic seq code pay) = (kind, id, topic, seq, code, pay, 0, true) := by
  rw [putL_eq]
  have hl : (beL id 4).length = 4 := beL_length id 4
  have hr := restR_restL h hq
  have hd : (kind :: (beL id 4 ++ restL kind topic seq code pay)).drop 5 = restL kind topic seq code pay := by
    rw [List.drop_succ_cons, List.drop_left' hl]
  have ht : ((kind :: (beL id 4 ++ restL kind topic seq code pay)).take 5).drop 1 = beL id 4 := by
    rw [List.take_succ_cons, List.take_left' hl, List.drop_succ_cons, List.drop_zero]
  unfold getR
  rw [if_neg (by simp only [List.length_cons, List.length_append, hl]; omega), hd, ht, List.getD_cons_zero, hr, valL_be4 hi]
  have hc := h
  unfold cmdOk at hc
  simp only [Bool.and_eq_true, decide_eq_true_iff] at hc
  obtain ⟨hk, htt, -, -, hp⟩ := hc
  simp only
  rw [if_neg, if_neg, if_pos h]
  · rintro ⟨rfl, h2⟩
    simp at hp
    omega
  · rintro ⟨h1, h2⟩
    rw [if_pos h1] at htt
    rw [h2] at htt
    cases htt

theorem split5 {l : List Int} (h : ¬ l.length < 5) : l = l.getD 0 0 :: ((l.take 5).drop 1 ++ l.drop 5) ∧ ((l.take 5).drop 1).length = 4 := by
  match l, h with
  | [], h => simp at h
  | [_], h => simp at h
  | [_, _], h => simp at h
  | [_, _, _], h => simp at h
  | [_, _, _, _], h => simp at h
  | a :: b :: c :: d :: e :: l, _ => simp

theorem restL_restR {kind : Int} {l : List Int} {topic : ByteArray} {seq code : Int} {pay : List Int} (hl : Byte8 l) (h : restR kind l = some (topic, seq, code, pay)) : restL kind topic seq code pay = l := by
  unfold restR at h
  unfold restL
  by_cases h1 : kind = 1
  · subst h1
    simp at h
    obtain ⟨rfl, rfl, rfl, rfl⟩ := h
    simp [bytes_str hl]
  rw [if_neg h1] at h
  by_cases h2 : kind = 2
  · subst h2
    simp at h
    obtain ⟨rfl, rfl, rfl, rfl, rfl⟩ := h
    simp [bytesOf_empty]
  rw [if_neg h2] at h
  by_cases h3 : kind = 3
  · subst h3
    rw [if_pos rfl] at h
    split at h
    · cases h
    · rename_i hno
      match l, hl, hno, h with
      | [], _, hno, _ => simp at hno
      | x :: l, hl, hno, h =>
        have hx := hl x (by simp)
        have hl' : Byte8 l := fun y hy => hl y (by simp [hy])
        simp only [List.getD_cons_zero] at h hno
        have e1 : (x + 1).toNat = x.toNat + 1 := by omega
        have hxl : x.toNat ≤ l.length := by
          simp only [List.length_cons] at hno
          omega
        rw [e1, List.take_succ_cons, List.drop_succ_cons, List.drop_succ_cons, List.drop_zero] at h
        simp only [Option.some.injEq, Prod.mk.injEq] at h
        obtain ⟨rfl, rfl, rfl, rfl⟩ := h
        have hb : Byte8 (l.take x.toNat) := fun y hy => hl' y (List.mem_of_mem_take hy)
        have hm : min x.toNat l.length = x.toNat := by omega
        rw [bytes_str hb, str_size, List.length_take, hm]
        have em : max x 0 % 256 = x := by omega
        simp [em]
  rw [if_neg h3] at h
  by_cases h4 : 4 ≤ kind ∧ kind ≤ 7
  · rw [if_pos h4] at h
    split at h
    · cases h
    · rename_i hno
      simp only [Option.some.injEq, Prod.mk.injEq] at h
      obtain ⟨rfl, rfl, rfl, rfl⟩ := h
      have h8 : (l.take 8).length = 8 := by rw [List.length_take]; omega
      rw [if_neg h3, if_pos h4, if_neg (show ¬ kind = 8 by omega), be8_valL h8 (fun y hy => hl y (List.mem_of_mem_take hy)), bytesOf_empty]
      simp
  rw [if_neg h4] at h
  by_cases h8 : kind = 8
  · subst h8
    rw [if_pos rfl] at h
    split at h
    · rename_i h1'
      match l, h1', h with
      | [x], _, h =>
        simp at h
        obtain ⟨rfl, rfl, rfl, rfl⟩ := h
        simp [bytesOf_empty]
    · cases h
  rw [if_neg h8] at h
  cases h

theorem putL_getR {l : List Int} {kind id : Int} {topic : ByteArray} {seq code : Int} {pay : List Int} {why : Int} (hl : Byte8 l) (h : getR l = (kind, id, topic, seq, code, pay, why, true)) :
    putL kind id topic seq code pay = l ∧ why = 0 ∧ cmdOk kind topic seq code pay = true := by
  unfold getR at h
  by_cases h5 : l.length < 5
  · rw [if_pos h5] at h
    simp at h
  rw [if_neg h5] at h
  obtain ⟨e, h4⟩ := split5 h5
  split at h
  · simp at h
  · rename_i t q c p hr
    split at h
    · simp at h
    · split at h
      · simp at h
      · split at h
        · rename_i hok
          simp only [Prod.mk.injEq, and_true] at h
          obtain ⟨rfl, rfl, rfl, rfl, rfl, rfl, rfl⟩ := h
          refine ⟨?_, rfl, hok⟩
          have hd : Byte8 (l.drop 5) := fun y hy => hl y (List.mem_of_mem_drop hy)
          have ht : Byte8 ((l.take 5).drop 1) := fun y hy => hl y (List.mem_of_mem_take (List.mem_of_mem_drop hy))
          rw [putL_eq, restL_restR hd hr, be4_valL h4 ht]
          exact e.symm
        · simp at h

/-- What Get answers are a command's parts. -/
theorem restR_in {kind : Int} {l : List Int} {topic : ByteArray} {seq code : Int} {pay : List Int} (hl : Byte8 l) (h : restR kind l = some (topic, seq, code, pay)) :
    (0 ≤ seq ∧ seq ≤ 18446744073709551615) ∧ (0 ≤ code ∧ code ≤ 255) ∧ Byte8 pay ∧ pay.length ≤ l.length ∧ topic.size ≤ l.length := by
  have hz : (⟨#[]⟩ : ByteArray).size = 0 := rfl
  have hnil : Byte8 [] := fun x hx => by cases hx
  unfold restR at h
  split at h
  · simp only [Option.some.injEq, Prod.mk.injEq] at h
    obtain ⟨rfl, rfl, rfl, rfl⟩ := h
    exact ⟨by decide, by decide, hnil, by simp, by rw [str_size]; exact Nat.le_refl _⟩
  split at h
  · split at h
    · simp only [Option.some.injEq, Prod.mk.injEq] at h
      obtain ⟨rfl, rfl, rfl, rfl⟩ := h
      exact ⟨by decide, by decide, hnil, by simp, by rw [hz]; omega⟩
    · cases h
  split at h
  · split at h
    · cases h
    · simp only [Option.some.injEq, Prod.mk.injEq] at h
      obtain ⟨rfl, rfl, rfl, rfl⟩ := h
      refine ⟨by decide, by decide, fun y hy => hl y (List.mem_of_mem_drop hy), by rw [List.length_drop]; omega, ?_⟩
      rw [str_size, List.length_drop, List.length_take]
      omega
  split at h
  · split at h
    · cases h
    · simp only [Option.some.injEq, Prod.mk.injEq] at h
      obtain ⟨rfl, rfl, rfl, rfl⟩ := h
      rename_i hno
      have h8 : (l.take 8).length = 8 := by rw [List.length_take]; omega
      have hv := valL_bound (l := l.take 8) (fun y hy => hl y (List.mem_of_mem_take hy))
      rw [h8] at hv
      refine ⟨⟨hv.1, by have := hv.2; omega⟩, by decide, fun y hy => hl y (List.mem_of_mem_drop hy), by rw [List.length_drop]; omega, by rw [hz]; omega⟩
  split at h
  · split at h
    · rename_i h1
      simp only [Option.some.injEq, Prod.mk.injEq] at h
      obtain ⟨rfl, rfl, rfl, rfl⟩ := h
      exact ⟨by decide, hl _ (getD0_mem (by omega)), hnil, by simp, by rw [hz]; omega⟩
    · cases h
  · cases h
theorem getR_in {l : List Int} (hl : Byte8 l) : CmdIn (getR l).1 (getR l).2.1 (getR l).2.2.2.1 (getR l).2.2.2.2.1 (getR l).2.2.1 (getR l).2.2.2.2.2.1 ∧ (getR l).2.2.2.2.2.1.length ≤ l.length ∧ (getR l).2.2.1.size ≤ l.length := by
  have hz : (⟨#[]⟩ : ByteArray).size = 0 := rfl
  have hnil : Byte8 [] := fun x hx => by cases hx
  unfold getR
  by_cases h5 : l.length < 5
  · rw [if_pos h5]
    exact ⟨⟨by decide, by decide, by decide, by decide, hnil⟩, by simp, by rw [hz]; omega⟩
  rw [if_neg h5]
  have h4 := (split5 h5).2
  have ht : Byte8 ((l.take 5).drop 1) := fun y hy => hl y (List.mem_of_mem_take (List.mem_of_mem_drop hy))
  have hv := valL_bound ht
  rw [h4] at hv
  have hv' : 0 ≤ valL ((l.take 5).drop 1) ∧ valL ((l.take 5).drop 1) ≤ 4294967295 := ⟨hv.1, by have := hv.2; omega⟩
  have hk := hl _ (getD0_mem (show 0 < l.length by omega))
  split
  · exact ⟨⟨by decide, by decide, by decide, by decide, hnil⟩, by simp, by rw [hz]; omega⟩
  · rename_i t q c p hr
    obtain ⟨q1, q2, q3, q4, q5⟩ := restR_in (fun y hy => hl y (List.mem_of_mem_drop hy)) hr
    rw [List.length_drop] at q4 q5
    repeat' split
    · exact ⟨⟨hk, hv', ⟨Int.le_refl 0, (by decide : (0 : Int) ≤ 18446744073709551615)⟩, ⟨Int.le_refl 0, (by decide : (0 : Int) ≤ 255)⟩, hnil⟩, by simp, by rw [hz]; omega⟩
    · exact ⟨⟨hk, hv', ⟨Int.le_refl 0, (by decide : (0 : Int) ≤ 18446744073709551615)⟩, ⟨Int.le_refl 0, (by decide : (0 : Int) ≤ 255)⟩, hnil⟩, by simp, by rw [hz]; omega⟩
    · exact ⟨⟨hk, hv', q1, q2, q3⟩, by show p.length ≤ _; omega, by show t.size ≤ _; omega⟩
    · exact ⟨⟨by decide, by decide, by decide, by decide, hnil⟩, by simp, by rw [hz]; omega⟩
end Go.Proofs.YtkgedjaihimafaaDoor
