/- The four statements on topics, over lists. -/
import Derived.Test.YtodfahcmgmleeaaDoorTopicPure
namespace Go.Proofs.YtodfahcmgmleeaaDoor
set_option linter.unusedVariables false
set_option linter.unusedSimpArgs false
open Go.RowKit Go.Proofs.YtodfahcmgmleeaaDoorW.PrintWords Go.Proofs.YtodfahcmgmleeaaDoor.QTopic Go.Proofs.YtodfahcmgmleeaaDoor.Given

theorem parts_some (s : ByteArray) (hs : s.size ≤ 1000000000) : topic_Parts.f s = some (if topicOk s = true then pieces s else []) := by
  unfold topic_Parts.f
  rw [if_pos hs]
theorem may_some (s : ByteArray) (hs : s.size ≤ 1000000000) : topic_May.f s = some (topicOk s) := by
  unfold topic_May.f
  rw [if_pos hs]
theorem ok_len {s : ByteArray} (h : topicOk s = true) : s.size ≤ 64 ∧ (pieces s).length ≤ 16 := by
  unfold topicOk at h
  simp at h
  exact ⟨h.1, h.2.1⟩
theorem bytes_of_list (s : ByteArray) : (⟨s.data.toList.toArray⟩ : ByteArray) = s := bytes_ext rfl
theorem join_pieces (s : ByteArray) : (⟨(Lib.join ((pieces s).map (·.data.toList)) (⟨#[47]⟩ : ByteArray).data.toList).toArray⟩ : ByteArray) = s := by
  rw [pieces_data]
  show (⟨(Lib.join (splitL s.data.toList) [47]).toArray⟩ : ByteArray) = s
  rw [join_split]
theorem pieces_le (s : ByteArray) : (pieces s).length ≤ s.size + 1 := by
  have h : (pieces s).length = Lib.countB s ⟨#[47]⟩ + 1 := Lib.splitB_all ⟨#[47]⟩ (by decide) 0 _ s rfl
  have := Lib.countB_le ⟨#[47]⟩ (by decide) s.size s (Nat.le_refl _)
  omega

theorem TopicMay : louverlaw21_TopicMay.Pure := by
  intro s _
  apply Ev.rounds
  unfold louverlaw21_TopicMay.f
  by_cases h3 : (s.size : Int) > 3000
  · simp only [h3, if_true, fixed21]
    exact Ev.now true
  · have hs : s.size ≤ 1000000000 := by omega
    simp only [h3, if_false, parts_some s hs, may_some s hs, Option.bind_some]
    refine Ev.bind (ev_may s hs) ?_
    simp only [bne_self_eq_false, Bool.false_eq_true, if_false]
    refine Ev.bind (ev_may s hs) ?_
    cases hok : topicOk s
    · simp [fixed21]
      exact Ev.now true
    · simp only [if_true, fixed21, Option.bind_some]
      obtain ⟨h1, h2⟩ := ok_len hok
      have hj : strings_Join.f (pieces s) (⟨#[47]⟩ : ByteArray) = some s := by
        unfold strings_Join.f
        rw [if_pos, join_pieces]
        refine ⟨by omega, ?_⟩
        have e := congrArg ByteArray.size (join_pieces s)
        simp only [ByteArray.size, List.size_toArray] at e
        rw [e]
        exact hs
      refine Ev.bind (a := (s, true)) ?_ ?_
      · unfold topic_Join.f
        simp only [hj, parts_some s hs, hok, if_true, Option.bind_some]
        refine Ev.bind (ev_equal (pieces s) (pieces s) (by omega)) ?_
        have := pieces_pos s
        simp only [decide_true, if_true, show ¬ ((pieces s).length : Int) = 0 by omega, if_false]
        exact Ev.now _
      · refine Ev.bind (ev_parts s hs) ?_
        refine Ev.bind (ev_same (pieces s) (pieces s) (by omega)) ?_
        simp
        exact Ev.now true

/-- Is s under a? -/
def under (s a : ByteArray) : Bool := topicOk s && (topicOk a && (a.data.toList ++ [47]).isPrefixOf s.data.toList)
theorem app_list (a b : ByteArray) : (a ++ b).data.toList = a.data.toList ++ b.data.toList := by simp
theorem app_size (a b : ByteArray) : (a ++ b).size = a.size + b.size := by simp
theorem hasPrefix_some (s p : ByteArray) : strings_HasPrefix.f s p = some (p.data.toList.isPrefixOf s.data.toList) := by
  unfold strings_HasPrefix.f stringslite_HasPrefix.f
  have hl : s.data.toList.length = s.size := by simp
  have hp : p.data.toList.length = p.size := by simp
  by_cases h : p.size ≤ s.size
  · rw [if_pos (by omega), if_pos (by omega), if_pos (by omega)]
    simp only [Option.bind_some, Int.toNat_natCast]
    congr 1
    rw [ByteArray.toList_eq, ByteArray.toList_eq, extract_list, Bool.eq_iff_iff, beq_iff_eq, List.isPrefixOf_iff_prefix, List.prefix_iff_eq_take]
    simp only [List.drop_zero, Nat.sub_zero]
    rw [hp]
    exact ⟨fun h => h.symm, fun h => h.symm⟩
  · rw [if_neg (by omega)]
    simp only [Option.bind_some]
    congr 1
    symm
    rw [Bool.eq_false_iff]
    intro hh
    have := (List.isPrefixOf_iff_prefix.1 hh).length_le
    omega
theorem under_some (s a : ByteArray) (hs : s.size ≤ 1000000000) (ha : a.size ≤ 1000000000) : topic_Under.f s a = some (under s a) := by
  unfold topic_Under.f under
  rw [may_some s hs, may_some a ha]
  cases topicOk s
  · simp
  · cases topicOk a
    · simp
    · simp only [Option.bind_some, if_true]
      rw [if_pos (by omega), hasPrefix_some, app_list]
      simp
theorem under_iff {s a : ByteArray} : under s a = true ↔ topicOk s = true ∧ topicOk a = true ∧ (pieces a).length < (pieces s).length ∧ (pieces s).take (pieces a).length = pieces a := by
  unfold under
  simp only [Bool.and_eq_true, List.isPrefixOf_iff_prefix, prefix_iff, ← pieces_data, List.length_map, ← List.map_take]
  constructor
  · rintro ⟨h1, h2, h3, h4⟩
    exact ⟨h1, h2, h3, bytes_list_ext h4⟩
  · rintro ⟨h1, h2, h3, h4⟩
    exact ⟨h1, h2, h3, by rw [h4]⟩
theorem under_self (s : ByteArray) : under s s = false := by
  rw [Bool.eq_false_iff]
  intro h
  have := (under_iff.1 h).2.2.1
  omega

theorem TopicUnder : louverlaw21_TopicUnder.Pure := by
  intro s a _ _
  apply Ev.rounds
  have hj : ∀ b, (b = false → s.size ≤ 1000000000 ∧ a.size ≤ 1000000000) → Ev (fun k => louverlaw21_TopicUnder.j0 k s a b) true := by
    intro b hb
    cases b
    · obtain ⟨hs, ha⟩ := hb rfl
      have hj1 : ∀ b, b = (topicOk s && topicOk a) → Ev (fun k => louverlaw21_TopicUnder.j1 k s a false b) true := by
        rintro b hb
        cases b
        · have hu : under s a = false := by
            unfold under
            rw [← Bool.and_assoc, ← hb]
            rfl
          refine Ev.step (f := fun _ => some true) (fun k => ?_) (Ev.now true)
          simp only [louverlaw21_TopicUnder.j1]
          simp [fixed21, under_some s a hs ha, under_some s s hs hs, hu, under_self]
        · have hok : topicOk s = true ∧ topicOk a = true := by simpa using hb.symm
          refine Ev.step (f := fun k => (louverref21_Parts.f k s).bind fun t152 => (louverref21_Parts.f k a).bind fun t155 => if (t152.length : Int) > (t155.length : Int) then (if 0 ≤ (mn (t152.length : Int) (t155.length : Int)) then (if (mn (t152.length : Int) (t155.length : Int)) ≤ (t152.length : Int) then ((louverref21_Same.f k (t152.take ((mn (t152.length : Int) (t155.length : Int)) : Int).toNat) t155).bind fun t162 => if (under s a == t162) = true then some true else some false) else none) else none) else (if (under s a == false) = true then some true else some false)) (fun k => ?_) ?_
          · simp only [louverlaw21_TopicUnder.j1]
            simp [fixed21, under_some s a hs ha, under_some s s hs hs, under_self]
          · refine Ev.bind (ev_parts s hs) (Ev.bind (ev_parts a ha) ?_)
            have hle := pieces_le s
            by_cases hlt : (pieces a).length < (pieces s).length
            · have hmn : mn ((pieces s).length : Int) ((pieces a).length : Int) = ((pieces a).length : Int) := by unfold mn; rw [if_pos (by omega)]
              simp only [hmn, show ((pieces s).length : Int) > ((pieces a).length : Int) by omega, if_true, show (0 : Int) ≤ ((pieces a).length : Int) by omega, show ((pieces a).length : Int) ≤ ((pieces s).length : Int) by omega, Int.toNat_natCast]
              refine Ev.bind (ev_same _ _ (by rw [List.length_take]; omega)) ?_
              have e : under s a = decide ((pieces s).take (pieces a).length = pieces a) := by
                rw [Bool.eq_iff_iff, under_iff, decide_eq_true_iff]
                exact ⟨fun h => h.2.2.2, fun h => ⟨hok.1, hok.2, hlt, h⟩⟩
              rw [e]
              simp
              exact Ev.now true
            · have e : under s a = false := by
                rw [Bool.eq_false_iff]
                intro h
                exact hlt (under_iff.1 h).2.2.1
              simp only [show ¬ ((pieces s).length : Int) > ((pieces a).length : Int) by omega, if_false, e]
              simp
              exact Ev.now true
      refine Ev.step (f := fun k => (louverref21_May.f k s).bind fun t150 => if t150 = true then ((louverref21_May.f k a).bind fun t151 => louverlaw21_TopicUnder.j1 k s a false t151) else louverlaw21_TopicUnder.j1 k s a false false) (fun k => ?_) ?_
      · simp only [louverlaw21_TopicUnder.j0]
        simp
      · refine Ev.bind (ev_may s hs) ?_
        cases hok : topicOk s
        · simp only [Bool.false_eq_true, if_false]
          exact hj1 false (by rw [hok]; rfl)
        · simp only [if_true]
          exact Ev.bind (ev_may a ha) (hj1 _ (by rw [hok]; rfl))
    · refine Ev.step (f := fun _ => some true) (fun k => ?_) (Ev.now true)
      simp only [louverlaw21_TopicUnder.j0]
      simp [fixed21]
  unfold louverlaw21_TopicUnder.f
  by_cases h1 : (s.size : Int) > 3000
  · simp only [h1, if_true]
    exact hj true (fun h => by cases h)
  · simp only [h1, if_false]
    by_cases h2 : (a.size : Int) > 3000
    · simp only [h2, decide_true]
      exact hj true (fun h => by cases h)
    · simp only [h2, decide_false]
      exact hj false (fun _ => ⟨by omega, by omega⟩)

theorem under_trans {a b c : ByteArray} (h1 : under a b = true) (h2 : under b c = true) : under a c = true := by
  unfold under at *
  simp only [Bool.and_eq_true, List.isPrefixOf_iff_prefix] at *
  obtain ⟨p1, p2, p3⟩ := h1
  obtain ⟨q1, q2, q3⟩ := h2
  exact ⟨p1, q2, q3.trans ((List.prefix_append _ _).trans p3)⟩

theorem TopicNests : louverlaw21_TopicNests.Pure := by
  intro a b c p _ _ _ _
  apply Ev.rounds
  have hj : ∀ z, (z = false → a.size ≤ 3000 ∧ b.size ≤ 3000 ∧ c.size ≤ 3000 ∧ p.size ≤ 3000) → Ev (fun k => louverlaw21_TopicNests.j0 k a b c p z) true := by
    intro z hz
    cases z
    · obtain ⟨ha, hb, hc, hp⟩ := hz rfl
      have hj1 : Ev (fun k => louverlaw21_TopicNests.j1 k a p false) true := by
        have hs : ((a ++ (⟨#[47]⟩ : ByteArray)) ++ p).size ≤ 1000000000 := by
          rw [app_size, app_size]
          show a.size + 1 + p.size ≤ _
          omega
        have hd : ((a ++ (⟨#[47]⟩ : ByteArray)) ++ p).data.toList = (a.data.toList ++ [47]) ++ p.data.toList := by rw [app_list, app_list]
        have e : under ((a ++ (⟨#[47]⟩ : ByteArray)) ++ p) a = (topicOk ((a ++ (⟨#[47]⟩ : ByteArray)) ++ p) && topicOk a) := by
          unfold under
          have hpre : (a.data.toList ++ [47]).isPrefixOf ((a ++ (⟨#[47]⟩ : ByteArray)) ++ p).data.toList = true := by
            rw [hd, List.isPrefixOf_iff_prefix]
            exact List.prefix_append _ _
          rw [hpre, Bool.and_true]
        have h1 : a.size + 1 ≤ 9223372036854775807 := by omega
        have h2 : (a ++ (⟨#[47]⟩ : ByteArray)).size + p.size ≤ 9223372036854775807 := by
          rw [app_size]
          show a.size + 1 + p.size ≤ _
          omega
        refine Ev.step (f := fun k => (louverref21_May.f k ((a ++ (⟨#[47]⟩ : ByteArray)) ++ p)).bind fun t184 => if t184 = true then ((louverref21_May.f k a).bind fun t185 => some (under ((a ++ (⟨#[47]⟩ : ByteArray)) ++ p) a == t185)) else some (under ((a ++ (⟨#[47]⟩ : ByteArray)) ++ p) a == false)) (fun k => ?_) ?_
        · simp only [louverlaw21_TopicNests.j1]
          rw [if_neg (by decide), if_pos h1, if_pos h2, fixed21, under_some _ a hs (by omega)]
          simp only [Option.bind_some, if_true]
        · refine Ev.bind (ev_may _ hs) ?_
          rw [e]
          cases topicOk ((a ++ (⟨#[47]⟩ : ByteArray)) ++ p)
          · simp
            exact Ev.now true
          · simp only [if_true]
            refine Ev.bind (ev_may a (by omega)) ?_
            simp
            exact Ev.now true
      have u1 := under_some a b (by omega) (by omega)
      have u2 := under_some b c (by omega) (by omega)
      have u3 := under_some a c (by omega) (by omega)
      have u4 := under_some b a (by omega) (by omega)
      have n1 : under a b = true → under b a = false := by
        intro h
        rw [Bool.eq_false_iff]
        intro h'
        have := under_trans h h'
        rw [under_self] at this
        cases this
      refine Ev.step (f := fun k => louverlaw21_TopicNests.j1 k a p false) (fun k => ?_) hj1
      simp only [louverlaw21_TopicNests.j0]
      rw [u1, u2, u3, u4]
      cases h1 : under a b
      · simp
      · rw [n1 h1]
        cases h2 : under b c
        · simp
        · rw [under_trans h1 h2]
          simp
    · refine Ev.step (f := fun _ => some true) (fun k => ?_) (Ev.now true)
      simp only [louverlaw21_TopicNests.j0]
      simp [fixed21]
  unfold louverlaw21_TopicNests.f
  by_cases h1 : (a.size : Int) > 3000
  · simp only [h1, if_true]
    exact hj true (fun h => by cases h)
  · simp only [h1, if_false]
    by_cases h2 : (b.size : Int) > 3000
    · simp only [h2, if_true]
      exact hj true (fun h => by cases h)
    · simp only [h2, if_false]
      by_cases h3 : (c.size : Int) > 3000
      · simp only [h3, if_true]
        exact hj true (fun h => by cases h)
      · simp only [h3, if_false]
        by_cases h4 : (p.size : Int) > 3000
        · simp only [h4, decide_true]
          exact hj true (fun h => by cases h)
        · simp only [h4, decide_false]
          exact hj false (fun _ => ⟨by omega, by omega, by omega, by omega⟩)

def joinB (l : List ByteArray) : ByteArray := ⟨(Lib.join (l.map (·.data.toList)) [47]).toArray⟩
theorem joinB_nil : joinB [] = ⟨#[]⟩ := rfl
theorem joinB_data (l : List ByteArray) : (joinB l).data.toList = Lib.join (l.map (·.data.toList)) [47] := by simp [joinB]
theorem joinB_one (x : ByteArray) : joinB [x] = x := bytes_ext (by rw [joinB_data]; exact Lib.join_one _ _)
theorem joinB_snoc (l : List ByteArray) (x : ByteArray) (h : l ≠ []) : joinB (l ++ [x]) = (joinB l ++ (⟨#[47]⟩ : ByteArray)) ++ x := by
  refine bytes_ext ?_
  rw [joinB_data, List.map_append, join_append _ _ (by simpa using h) (by simp), app_list, app_list, joinB_data]
  simp [Lib.join_one]
theorem joinB_pieces (s : ByteArray) : joinB (pieces s) = s := join_pieces s
theorem joinB_size : ∀ (l : List ByteArray), (∀ x ∈ l, x.size ≤ 3000) → (joinB l).size ≤ l.length * 3001
  | [], _ => by rw [joinB_nil]; exact Nat.le_refl _
  | [x], h => by
    have := h x (by simp)
    rw [joinB_one]
    simp
    omega
  | x :: y :: l, h => by
    have h1 := h x (by simp)
    have h2 := joinB_size (y :: l) (fun z hz => h z (by simp [hz]))
    have e : (joinB (x :: y :: l)).size = x.size + 1 + (joinB (y :: l)).size := by
      have e := congrArg List.length (joinB_data (x :: y :: l))
      simp only [List.map_cons] at e
      rw [join_cons2] at e
      have e2 := congrArg List.length (joinB_data (y :: l))
      simp only [List.map_cons] at e2
      simp only [List.length_append, List.length_cons, Array.length_toList] at e e2
      simp only [ByteArray.size] at *
      omega
    rw [e]
    simp only [List.length_cons] at *
    omega

theorem join_j2 (s x : ByteArray) (ok want : Bool) (hw : want = true → ok = true ∧ x = s) (hn : want = false → ok = false ∧ x = ⟨#[]⟩) : Ev (fun k => louverlaw21_TopicJoin.j2 k s x ok want) true := by
  refine Ev.step (f := fun _ => some true) (fun k => ?_) (Ev.now true)
  simp only [louverlaw21_TopicJoin.j2]
  rw [fixed21]
  cases want
  · obtain ⟨rfl, rfl⟩ := hn rfl
    simp
  · obtain ⟨rfl, rfl⟩ := hw rfl
    simp

theorem join_end (l : List ByteArray) (hl : l.length ≤ 101) (hs : ∀ x ∈ l, x.size ≤ 3000) (len i : Int) (hi : ¬ i < len) : Ev (fun k => louverlaw21_TopicJoin.l0 k l (joinB l) l len i) true := by
  have hz := joinB_size l hs
  have hb : (joinB l).size ≤ 1000000000 := by omega
  refine Ev.step (f := fun k => (topic_Join.f k l).bind fun bt188 => if (l.length : Int) > 0 then ((louverref21_May.f k (joinB l)).bind fun t190 => if t190 = true then ((louverref21_Parts.f k (joinB l)).bind fun t191 => (louverref21_Same.f k t191 l).bind fun t194 => louverlaw21_TopicJoin.j2 k (joinB l) bt188.1 bt188.2 t194) else louverlaw21_TopicJoin.j2 k (joinB l) bt188.1 bt188.2 false) else louverlaw21_TopicJoin.j2 k (joinB l) bt188.1 bt188.2 false) (fun k => ?_) ?_
  · simp only [louverlaw21_TopicJoin.l0]
    rw [if_neg hi]
  · have hj : strings_Join.f l (⟨#[47]⟩ : ByteArray) = some (joinB l) := by
      unfold strings_Join.f
      rw [if_pos]
      · rfl
      · refine ⟨by omega, ?_⟩
        have e := congrArg List.length (joinB_data l)
        simp only [Array.length_toList] at e
        show (Lib.join (l.map (·.data.toList)) [47]).length ≤ _
        simp only [ByteArray.size] at hb
        omega
    have hJ : Ev (fun k => topic_Join.f k l) (if topicOk (joinB l) = true ∧ pieces (joinB l) = l then (joinB l, true) else (⟨#[]⟩, false)) := by
      unfold topic_Join.f
      simp only [hj, parts_some _ hb, Option.bind_some]
      cases hok : topicOk (joinB l)
      · simp only [Bool.false_eq_true, if_false, false_and]
        refine Ev.bind (ev_equal [] l (by simp)) ?_
        by_cases hn : l = []
        · subst hn
          simp
          exact Ev.now _
        · have e : decide ([] = l) = false := by rw [decide_eq_false_iff_not]; exact fun h => hn h.symm
          rw [e]
          simp
          exact Ev.now _
      · simp only [if_true, true_and]
        have hp := pieces_le (joinB l)
        refine Ev.bind (ev_equal (pieces (joinB l)) l (by omega)) ?_
        by_cases he : pieces (joinB l) = l
        · have hpos := pieces_pos (joinB l)
          rw [he] at hpos
          simp only [he, decide_true, if_true, show ¬ (l.length : Int) = 0 by omega, if_false]
          exact Ev.now _
        · simp only [he, decide_false, Bool.false_eq_true, if_false]
          exact Ev.now _
    refine Ev.bind hJ ?_
    by_cases h0 : l.length = 0
    · have hn : l = [] := List.eq_nil_of_length_eq_zero h0
      subst hn
      have hne : ¬ (topicOk (joinB []) = true ∧ pieces (joinB []) = []) := by
        rintro ⟨-, h⟩
        have := pieces_pos (joinB [])
        rw [h] at this
        simp at this
      simp only [hne, if_false]
      simp only [List.length_nil]
      exact join_j2 _ _ _ _ (fun h => by cases h) (fun _ => ⟨rfl, rfl⟩)
    · simp only [show (l.length : Int) > 0 by omega, if_true]
      refine Ev.bind (ev_may _ hb) ?_
      cases hok : topicOk (joinB l)
      · simp only [Bool.false_eq_true, if_false, false_and]
        exact join_j2 _ _ _ _ (fun h => by cases h) (fun _ => ⟨rfl, rfl⟩)
      · simp only [if_true, true_and]
        have hp := pieces_le (joinB l)
        refine Ev.bind (ev_parts _ hb) (Ev.bind (ev_same _ l (by omega)) ?_)
        by_cases he : pieces (joinB l) = l
        · simp only [he, if_true, decide_true]
          exact join_j2 _ _ _ _ (fun _ => ⟨rfl, rfl⟩) (fun h => by cases h)
        · simp only [he, if_false, decide_false]
          exact join_j2 _ _ _ _ (fun h => by cases h) (fun _ => ⟨rfl, rfl⟩)

theorem join_loop (l : List ByteArray) : ∀ (d i : Nat), i ≤ l.length → 102 - i = d → i ≤ 101 → (∀ x ∈ l.take i, x.size ≤ 3000) → Ev (fun k => louverlaw21_TopicJoin.l0 k l (joinB (l.take i)) l (l.length : Int) (i : Int)) true := by
  intro d
  induction d with
  | zero => intro i _ h1 h2; omega
  | succ d ih =>
    intro i hi hd hi1 hs
    by_cases hlt : i < l.length
    · have hx := rd_at l i hlt
      have htk : l.take (i + 1) = l.take i ++ [l[i]] := by rw [List.take_succ_eq_append_getElem hlt]
      have hjt : ∀ z, (z = false → l[i].size ≤ 3000 ∧ i ≤ 100) → Ev (fun k => louverlaw21_TopicJoin.j1 k l (joinB (l.take i)) (i : Int) l[i] l (l.length : Int) (i : Int) z) true := by
        intro z hzz
        cases z
        · obtain ⟨hsz, hi2⟩ := hzz rfl
          have hs2 : ∀ x ∈ l.take (i + 1), x.size ≤ 3000 := by
            intro x hx
            rw [htk] at hx
            rcases List.mem_append.1 hx with h | h
            · exact hs x h
            · rw [List.mem_singleton.1 h]
              exact hsz
          have hzb := joinB_size _ hs
          have hlen : (l.take i).length = i := by rw [List.length_take]; omega
          refine Ev.step (f := fun k => louverlaw21_TopicJoin.l0 k l (joinB (l.take (i + 1))) l (l.length : Int) ((i + 1 : Nat) : Int)) (fun k => ?_) (ih (i + 1) (by omega) (by omega) (by omega) hs2)
          simp only [louverlaw21_TopicJoin.j1]
          rw [if_neg (by decide), wrap_ok (by omega) (by omega), htk]
          by_cases h0 : i = 0
          · subst h0
            rw [if_neg (by decide), if_pos (by simp [joinB_nil]; exact Nat.le_trans (Nat.le_trans (Nat.le_of_eq (Nat.zero_add _)) hsz) (by decide))]
            simp only [List.take_zero, List.nil_append, joinB_nil, joinB_one]
            have e : (⟨#[]⟩ : ByteArray) ++ l[0] = l[0] := bytes_ext (by rw [app_list]; rfl)
            rw [e]
            rfl
          · rw [joinB_snoc _ _ (by intro h; rw [h] at hlen; simp at hlen; omega), if_pos (by omega), if_pos (by omega), if_pos (by rw [app_size]; show _ + 1 + _ ≤ _; omega)]
            rfl
        · refine Ev.step (f := fun _ => some true) (fun k => ?_) (Ev.now true)
          simp only [louverlaw21_TopicJoin.j1]
          simp [fixed21]
      by_cases hbig : (l[i].size : Int) > 3000
      · refine Ev.step (f := fun k => louverlaw21_TopicJoin.j1 k l (joinB (l.take i)) (i : Int) l[i] l (l.length : Int) (i : Int) true) (fun k => ?_) (hjt true (fun h => by cases h))
        simp only [louverlaw21_TopicJoin.l0]
        rw [hx, if_pos (by omega), if_pos (by omega), if_pos (by omega), if_pos hbig]
      · refine Ev.step (f := fun k => louverlaw21_TopicJoin.j1 k l (joinB (l.take i)) (i : Int) l[i] l (l.length : Int) (i : Int) (decide ((i : Int) > 100))) (fun k => ?_) (hjt _ (fun h => ⟨by omega, by have := of_decide_eq_false h; omega⟩))
        simp only [louverlaw21_TopicJoin.l0]
        rw [hx, if_pos (by omega), if_pos (by omega), if_pos (by omega), if_neg hbig]
    · have e : l.take i = l := List.take_of_length_le (by omega)
      rw [e] at hs ⊢
      exact join_end l (by omega) hs _ _ (by omega)

theorem topicJoin_pure (l : List ByteArray) : ∃ k, louverlaw21_TopicJoin.f k l = some true := by
  apply Ev.rounds
  unfold louverlaw21_TopicJoin.f
  have h := join_loop l 102 0 (Nat.zero_le _) rfl (by decide) (by simp)
  simpa [joinB_nil] using h
end Go.Proofs.YtodfahcmgmleeaaDoor
