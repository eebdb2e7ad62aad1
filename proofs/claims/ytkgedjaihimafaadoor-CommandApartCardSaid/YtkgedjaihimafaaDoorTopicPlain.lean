/- Plain words on cutting at slashes and joining. No program. -/
import Derived.Test.YtkgedjaihimafaaDoorTopicGiven
import Derived.Lib.Join
namespace Go.Proofs.YtkgedjaihimafaaDoor
set_option linter.unusedVariables false
set_option linter.unusedSimpArgs false
open Go.RowKit Go.Proofs.YtkgedjaihimafaaDoorW.PrintWords

def splitL : List UInt8 → List (List UInt8)
  | [] => [[]]
  | c :: l => if c = 47 then [] :: splitL l else match splitL l with
    | [] => [[c]]
    | h :: t => (c :: h) :: t
theorem splitL_ne : ∀ l, splitL l ≠ []
  | [] => by simp [splitL]
  | c :: l => by
    unfold splitL
    split
    · simp
    · split <;> simp
theorem splitL_cons_ne {c : UInt8} {l h : List UInt8} {t : List (List UInt8)} (hc : c ≠ 47) (e : splitL l = h :: t) : splitL (c :: l) = (c :: h) :: t := by
  unfold splitL
  rw [if_neg hc, e]
theorem splitL_none : ∀ (l : List UInt8), (∀ c ∈ l, c ≠ 47) → splitL l = [l]
  | [], _ => rfl
  | c :: l, h => splitL_cons_ne (h c (by simp)) (splitL_none l fun x hx => h x (by simp [hx]))
theorem splitL_at : ∀ (a b : List UInt8), (∀ c ∈ a, c ≠ 47) → splitL (a ++ 47 :: b) = a :: splitL b
  | [], b, _ => by simp [splitL]
  | c :: a, b, h => splitL_cons_ne (h c (by simp)) (splitL_at a b fun x hx => h x (by simp [hx]))
theorem splitL_sep : ∀ (a r : List UInt8), splitL (a ++ 47 :: r) = splitL a ++ splitL r
  | [], r => by simp [splitL]
  | c :: a, r => by
    by_cases hc : c = 47
    · subst hc
      have e1 : ∀ l, splitL (47 :: l) = [] :: splitL l := fun l => by simp [splitL]
      show splitL (47 :: (a ++ 47 :: r)) = _
      rw [e1, e1, splitL_sep a r]
      rfl
    · obtain ⟨h, t, e⟩ : ∃ h t, splitL a = h :: t := by
        cases e : splitL a with
        | nil => exact absurd e (splitL_ne a)
        | cons h t => exact ⟨h, t, rfl⟩
      have e2 : splitL (a ++ 47 :: r) = h :: (t ++ splitL r) := by rw [splitL_sep a r, e]; rfl
      rw [splitL_cons_ne hc e]
      exact splitL_cons_ne hc e2

theorem join_cons2 (x y : List UInt8) (t : List (List UInt8)) : Lib.join (x :: y :: t) [47] = x ++ 47 :: Lib.join (y :: t) [47] := by
  rw [Lib.join_cons, Lib.join_cons y t]
  simp [Lib.joinTail]
theorem join_split : ∀ l, Lib.join (splitL l) [47] = l
  | [] => by simp [splitL, Lib.join_one]
  | c :: l => by
    have ih := join_split l
    by_cases hc : c = 47
    · subst hc
      unfold splitL
      rw [if_pos rfl]
      cases e : splitL l with
      | nil => exact absurd e (splitL_ne l)
      | cons h t =>
        rw [e] at ih
        rw [join_cons2, ih]
        rfl
    · cases e : splitL l with
      | nil => exact absurd e (splitL_ne l)
      | cons h t =>
        rw [e] at ih
        rw [splitL_cons_ne hc e]
        cases t with
        | nil => rw [Lib.join_one] at ih ⊢; rw [ih]
        | cons y t =>
          rw [join_cons2] at ih ⊢
          rw [List.cons_append, ih]
theorem join_append : ∀ (l t : List (List UInt8)), l ≠ [] → t ≠ [] → Lib.join (l ++ t) [47] = Lib.join l [47] ++ 47 :: Lib.join t [47]
  | [], _, h, _ => absurd rfl h
  | [x], t, _, ht => by
    cases t with
    | nil => exact absurd rfl ht
    | cons y t => rw [Lib.join_one]; exact join_cons2 x y t
  | x :: y :: l, t, _, ht => by
    show Lib.join (x :: y :: (l ++ t)) [47] = _
    have ih := join_append (y :: l) t (by simp) ht
    rw [join_cons2, join_cons2, List.append_assoc]
    congr 1
    show _ = 47 :: (Lib.join (y :: l) [47] ++ _)
    congr 1
/-- One text lies under another one just if its parts begin with that one's, and there are more. -/
theorem prefix_iff (a s : List UInt8) : (a ++ [47]) <+: s ↔ (splitL a).length < (splitL s).length ∧ (splitL s).take (splitL a).length = splitL a := by
  constructor
  · rintro ⟨r, rfl⟩
    rw [List.append_assoc]
    show _ < (splitL (a ++ 47 :: r)).length ∧ (splitL (a ++ 47 :: r)).take _ = _
    rw [splitL_sep]
    have h := List.length_pos_iff.2 (splitL_ne r)
    refine ⟨by rw [List.length_append]; omega, List.take_left' rfl⟩
  · rintro ⟨h1, h2⟩
    have e := List.take_append_drop (splitL a).length (splitL s)
    rw [h2] at e
    have hd : (splitL s).drop (splitL a).length ≠ [] := by
      intro h
      have := congrArg List.length h
      rw [List.length_drop, List.length_nil] at this
      omega
    have j := join_append _ _ (splitL_ne a) hd
    rw [e, join_split, join_split] at j
    refine ⟨Lib.join ((splitL s).drop (splitL a).length) [47], ?_⟩
    rw [List.append_assoc]
    exact j.symm

theorem splitK_split : ∀ (l : List UInt8), Lib.splitK [47] 0 (l.count 47) l = splitL l
  | [] => rfl
  | c :: l => by
    have ih := splitK_split l
    by_cases hc : c = 47
    · subst hc
      have hix : Lib.index (47 :: l) [47] = 0 := by rw [Lib.index]; simp [List.isPrefixOf]
      rw [List.count_cons_self, Lib.splitK, hix]
      unfold splitL
      rw [if_pos rfl]
      simpa using ih
    · rw [List.count_cons_of_ne (by simpa using hc)]
      have hp : ([47] : List UInt8).isPrefixOf (c :: l) = false := by simp [List.isPrefixOf, Ne.symm hc]
      have hix : Lib.index (c :: l) [47] = if Lib.index l [47] == -1 then -1 else Lib.index l [47] + 1 := by rw [Lib.index, hp]; simp
      cases hk : l.count 47 with
      | zero =>
        rw [hk] at ih
        exact (splitL_cons_ne hc ih.symm).symm
      | succ k =>
        rw [hk] at ih
        rw [Lib.splitK] at ih ⊢
        rw [hix]
        by_cases hm : Lib.index l [47] = -1
        · rw [if_pos (by simpa using hm)] at ih
          rw [if_pos (by simp [hm])]
          exact (splitL_cons_ne hc ih.symm).symm
        · have hge := Lib.index_ge l [47]
          rw [if_neg (by simpa using hm)] at ih
          have h1 : ¬ ((if (Lib.index l [47] == -1) = true then -1 else Lib.index l [47] + 1) == -1) = true := by
            rw [if_neg (by simpa using hm)]
            simp
            omega
          rw [if_neg h1, if_neg (by simpa using hm)]
          obtain ⟨j, hj⟩ : ∃ j : Nat, Lib.index l [47] = j := ⟨(Lib.index l [47]).toNat, by omega⟩
          rw [hj] at ih ⊢
          have e1 : (((j : Nat) : Int) + 1).toNat = j + 1 := by omega
          rw [e1]
          simp only [Int.toNat_natCast, Nat.add_zero, List.length_cons, List.length_nil, Nat.zero_add, List.take_succ_cons, List.drop_succ_cons] at ih ⊢
          exact (splitL_cons_ne hc ih.symm).symm

theorem pieces_data (s : ByteArray) : (pieces s).map (·.data.toList) = splitL s.data.toList := by
  unfold pieces
  rw [Lib.splitB_data]
  show Lib.splitK [47] 0 (Lib.count s.data.toList [47]) s.data.toList = _
  rw [Lib.count_one]
  exact splitK_split _
theorem pieces_length (s : ByteArray) : (pieces s).length = (splitL s.data.toList).length := by rw [← pieces_data, List.length_map]
theorem bytes_ext {a b : ByteArray} (h : a.data.toList = b.data.toList) : a = b := by
  cases a; cases b
  simp only [ByteArray.mk.injEq]
  exact Array.toList_inj.1 h
theorem bytes_list_ext {a b : List ByteArray} (h : a.map (·.data.toList) = b.map (·.data.toList)) : a = b :=
  (List.map_inj_right (fun _ _ h => bytes_ext h)).1 h
theorem pieces_map (s : ByteArray) : pieces s = (splitL s.data.toList).map fun l => ⟨l.toArray⟩ := bytes_list_ext (by rw [pieces_data, List.map_map]; exact (List.map_id _).symm)
theorem topicOk_list (s : ByteArray) : topicOk s = (decide (s.size ≤ 64) && (decide ((splitL s.data.toList).length ≤ 16) && (splitL s.data.toList).all isPart)) := by
  unfold topicOk
  rw [pieces_length, ← pieces_data, List.all_map]
  rfl
end Go.Proofs.YtkgedjaihimafaaDoor
