/- topic.Parts, topic.May, strings.Join: their contracts in the printed form. -/
import Derived.Test.YtkgedjaihimafaaDoorTopicSplit
namespace Go.Proofs.YtkgedjaihimafaaDoor
set_option linter.unusedVariables false
set_option linter.unusedSimpArgs false
open Go.RowKit Go.Proofs.YtkgedjaihimafaaDoorW.PrintWords

/-- Is a text a name? -/
def topicOk (s : ByteArray) : Bool := decide (s.size ≤ 64) && (decide ((pieces s).length ≤ 16) && (pieces s).all (fun x => isPart x.data.toList))

theorem pieces_pos (s : ByteArray) : 1 ≤ (pieces s).length := by
  have h : (pieces s).length = Lib.countB s ⟨#[47]⟩ + 1 := Lib.splitB_all ⟨#[47]⟩ (by decide) 0 _ s rfl
  omega

theorem pieces_own (w : World) (xs : List ByteArray) (hm : xs.length ≤ maxLen) : (w.alloc (.cells (xs.map Value.string).toArray 9)).ownsRow w.heap.size 9 1 (.slice (some ⟨w.heap.size, 0, none⟩) xs.length xs.length) xs.length (encs Value.string xs) := by
  have h := World.ownsRow_lit (base := w.heap.size) (e := 9) (size := 1) w (xs.map Value.string).toArray xs.length (Nat.le_refl _) hm (by simp)
  simpa [encs] using h

/-- What Parts leaves. -/
def PartsPost (w : World) (s : ByteArray) (e : Ending) (w' : World) : Prop :=
  if topicOk s = true then e = .returned (.slice (some ⟨w.heap.size, 0, none⟩) (pieces s).length (pieces s).length) ∧ w'.ownsRow w.heap.size 9 1 (.slice (some ⟨w.heap.size, 0, none⟩) (pieces s).length (pieces s).length) (pieces s).length (encs Value.string (pieces s)) ∧ Below w.heap.size w w'
  else e = .returned (.slice none 0 0) ∧ Below w.heap.size w w'

theorem splitB_sizes (sep : ByteArray) : ∀ (k : Nat) (s : ByteArray), ∀ x ∈ Lib.splitB sep 0 k s, x.size ≤ s.size
  | 0, s, x, hx => by rw [Lib.splitB_zero, List.mem_singleton] at hx; rw [hx]; exact Nat.le_refl _
  | k + 1, s, x, hx => by
    rcases Lib.indexB_cases s sep with hix | ⟨i, hix, hroom⟩
    · rw [Lib.splitB_miss sep 0 _ s hix, List.mem_singleton] at hx
      rw [hx]
      exact Nat.le_refl _
    · rw [Lib.splitB_hit sep 0 k s i hix] at hx
      rcases List.mem_cons.1 hx with rfl | h
      · rw [ByteArray.size_extract]; omega
      · have := splitB_sizes sep k _ x h
        rw [ByteArray.size_extract] at this
        omega
theorem pieces_size (s : ByteArray) : ∀ x ∈ pieces s, x.size ≤ s.size := splitB_sizes _ _ s

set_option maxHeartbeats 1000000 in
theorem parts_calls (w : World) (s : ByteArray) (hs : s.size ≤ 1000000000) : Calls Tryd.prog 57 #[.string s] w (PartsPost w s) := by
  refine of_post0 fun R hRR => ?_
  have HP := Lib.hid hRR
  clear hRR
  by_cases h64 : s.size ≤ 64
  · have b1 : decide ((64 : Int) < (s.size : Int)) = false := by rw [decide_eq_false_iff_not]; omega
    have b2 : decide (64 < s.size) = false := by rw [decide_eq_false_iff_not]; omega
    have hnew : ∀ (j : Nat) (x : ByteArray), (pieces s)[j]? = some x → (w.alloc (.cells ((pieces s).map Value.string).toArray 9)).cell? ⟨w.heap.size, j, none⟩ = some (.string x) := by
      intro j x hx
      rw [World.cell?_alloc_at _ _ _ _ rfl]
      simp [hx]
    have hps := pieces_size s
    by_cases h16 : (pieces s).length ≤ 16
    · have b3 : decide ((16 : Int) < ((pieces s).length : Int)) = false := by rw [decide_eq_false_iff_not]; omega
      have b4 : decide (16 < (pieces s).length) = false := by rw [decide_eq_false_iff_not]; omega
      have hcf := containsFunc_calls (w.alloc (.cells ((pieces s).map Value.string).toArray 9)) w.heap.size (pieces s).length (pieces s) hnew (fun x hx => by have := hps x hx; omega) (by omega)
      have hok : topicOk s = (pieces s).all (fun x => isPart x.data.toList) := by simp [topicOk, h64, h16]
      have hsp := split_calls w s (by omega)
      have HO := Lib.hid (pieces_own w (pieces s) (by unfold maxLen; omega))
      generalize hl : pieces s = l at *
      have HC := Lib.hid (And.intro hcf hsp)
      have HL := Lib.hid hl
      clear hcf hsp hnew hps h16 hl
      cases ha : l.all (fun x => isPart x.data.toList)
      · have hany : l.any (fun x => !isPart x.data.toList) = true := by rw [List.any_eq_not_all_not]; simpa using ha
        have HK := Lib.hid (And.intro (hok.trans ha) hany)
        clear hok ha hany
        go_enter Tryd.func57, Tryd.ntmps57
        go_wp2_with fail
        refine HC.out.2.mono ?_
        rintro e w1 ⟨rfl, rfl⟩
        go_wp2_with fail
        refine HC.out.1.mono ?_
        rintro e w1 ⟨rfl, hb⟩
        rw [HK.out.2]
        have HB := Lib.hid hb
        clear hb
        go_wp2_with fail
        refine HP.out _ _ ?_
        unfold PartsPost
        rw [if_neg (by rw [HK.out.1]; decide)]
        exact ⟨rfl, ((Below.refl _ _).alloc (Nat.le_refl _) _).trans (HB.out.mono (by simp))⟩
      · have hany : l.any (fun x => !isPart x.data.toList) = false := by rw [List.any_eq_not_all_not]; simpa using ha
        have HK := Lib.hid (And.intro (hok.trans ha) hany)
        clear hok ha hany
        go_enter Tryd.func57, Tryd.ntmps57
        go_wp2_with fail
        refine HC.out.2.mono ?_
        rintro e w1 ⟨rfl, rfl⟩
        go_wp2_with fail
        refine HC.out.1.mono ?_
        rintro e w1 ⟨rfl, hb⟩
        rw [HK.out.2]
        have HB := Lib.hid hb
        clear hb
        go_wp2_with fail
        refine HP.out _ _ ?_
        unfold PartsPost
        rw [if_pos HK.out.1, HL.out]
        exact ⟨rfl, pw_own_below HO.out HB.out, ((Below.refl _ _).alloc (Nat.le_refl _) _).trans (HB.out.mono (by simp))⟩
    · have hl : (pieces s).length ≤ 65 := by
        have h : (pieces s).length = Lib.countB s ⟨#[47]⟩ + 1 := Lib.splitB_all ⟨#[47]⟩ (by decide) 0 _ s rfl
        have := Lib.countB_le ⟨#[47]⟩ (by decide) s.size s (Nat.le_refl _)
        omega
      have b3 : decide ((16 : Int) < ((pieces s).length : Int)) = true := by rw [decide_eq_true_iff]; omega
      have b4 : decide (16 < (pieces s).length) = true := by rw [decide_eq_true_iff]; omega
      have hok : topicOk s = false := by simp [topicOk, h16]
      have hsp := split_calls w s (by omega)
      generalize pieces s = l at hsp b3 b4 hl
      have HK := Lib.hid (And.intro hok hsp)
      clear hok hsp hnew hps h16
      go_enter Tryd.func57, Tryd.ntmps57
      go_wp2_with fail
      refine HK.out.2.mono ?_
      rintro e w1 ⟨rfl, rfl⟩
      go_wp2_with fail
      refine HP.out _ _ ?_
      unfold PartsPost
      rw [if_neg (by rw [HK.out.1]; decide)]
      exact ⟨rfl, (Below.refl _ _).alloc (Nat.le_refl _) _⟩
  · have b1 : decide ((64 : Int) < (s.size : Int)) = true := by rw [decide_eq_true_iff]; omega
    have b2 : decide (64 < s.size) = true := by rw [decide_eq_true_iff]; omega
    have hok : topicOk s = false := by simp [topicOk, h64]
    have HK := Lib.hid hok
    clear hok h64
    go_enter Tryd.func57, Tryd.ntmps57
    go_wp2_with fail
    refine HP.out _ _ ?_
    unfold PartsPost
    rw [if_neg (by rw [HK.out]; decide)]
    exact ⟨rfl, Below.refl _ _⟩

theorem may_calls (w : World) (s : ByteArray) (hs : s.size ≤ 1000000000) : Calls Tryd.prog 38 #[.string s] w fun e w' => e = .returned (.bool (topicOk s)) ∧ Below w.heap.size w w' := by
  refine of_post0 fun R hRR => ?_
  have HP := Lib.hid hRR
  clear hRR
  have q : ∀ (w : World) (a : Option Addr) (n c n' c' : Nat), (binOp .neq 70 (.slice a n c) (.slice none n' c')).run Tryd.prog w = .ok (.bool (!a.isNone)) w := fun w a n c n' c' => run_neq_slice_nil_any w _ _ a n c n' c' Tryd.underlying70
  have HC := Lib.hid (parts_calls w s hs)
  cases hok : topicOk s
  all_goals
    have HK := Lib.hid hok
    clear hok
    go_enter Tryd.func38, Tryd.ntmps38
    go_wp2_with fail
    refine HC.out.mono ?_
    intro e w1 hp
    unfold PartsPost at hp
    rw [HK.out] at hp
    simp only [Bool.false_eq_true, if_false, if_true] at hp
  · obtain ⟨rfl, hb⟩ := hp
    have HB := Lib.hid hb
    clear hb
    go_wp2_with fail
    exact HP.out _ _ ⟨congrArg (fun b => Ending.returned (Value.bool b)) HK.out.symm, HB.out⟩
  · obtain ⟨rfl, -, hb⟩ := hp
    have HB := Lib.hid hb
    clear hb
    go_wp2_with fail
    exact HP.out _ _ ⟨congrArg (fun b => Ending.returned (Value.bool b)) HK.out.symm, HB.out⟩

namespace Given
def topic_Parts.f (a0 : ByteArray) : Option (List ByteArray) := if a0.size ≤ 1000000000 then some (if topicOk a0 = true then pieces a0 else []) else none
theorem topic_Parts.calls (a0 : ByteArray) (r : List ByteArray) (w : World) (h : topic_Parts.f a0 = some r) :
    Calls Tryd.prog 57 #[.string a0] w fun e w' => ∃ v0_ : Value, e = .returned (v0_) ∧ Kd.R Kd.string 9 w' w.heap.size (fun _ => True) v0_ r ∧ Below w.heap.size w w' := by
  unfold topic_Parts.f at h
  split at h
  · rename_i hs
    refine (parts_calls w a0 hs).mono fun e w' hp => ?_
    unfold PartsPost at hp
    injection h with h
    cases hok : topicOk a0 <;> rw [hok] at hp h <;> simp only [Bool.false_eq_true, if_false, if_true] at hp h <;> subst h
    · exact ⟨_, hp.1, Kd.R_nil _ _ _ _ _, hp.2⟩
    · exact ⟨_, hp.1, Kd.R_of_own hp.2.1 (fun _ _ => trivial), hp.2.2⟩
  · cases h
def topic_May.f (a0 : ByteArray) : Option Bool := if a0.size ≤ 1000000000 then some (topicOk a0) else none
theorem topic_May.calls (a0 : ByteArray) (r : Bool) (w : World) (h : topic_May.f a0 = some r) :
    Calls Tryd.prog 38 #[.string a0] w fun e w' => e = .returned (.bool r) ∧ Below w.heap.size w w' := by
  unfold topic_May.f at h
  split at h
  · rename_i hs
    injection h with h
    subst h
    exact may_calls w a0 hs
  · cases h
end Given
end Go.Proofs.YtkgedjaihimafaaDoor
