/- The plain law: both gatherers agree, step by step. No program. -/
import Derived.Test.YtodfahcmgmleeaaDoorBlockSame
namespace Go.Proofs.YtodfahcmgmleeaaDoor
set_option linter.unusedVariables false
set_option linter.unusedSimpArgs false
open Go.RowKit Go.Proofs.YtodfahcmgmleeaaDoorW.PrintWords

theorem bits1 (fl : Int) (h0 : 0 ≤ fl) (h1 : fl ≤ 255) : (bits .and .u8 fl 1 != 0) = (fl.tmod 2 == 1) := by
  obtain ⟨k, rfl⟩ := Int.eq_ofNat_of_zero_le h0
  have h : ∀ k : Fin 256, (bits .and .u8 ((k : Nat) : Int) 1 != 0) = (Int.tmod ((k : Nat) : Int) 2 == 1) := by decide +kernel
  exact h ⟨k, by omega⟩
theorem bits4 (fl : Int) (h0 : 0 ≤ fl) (h1 : fl ≤ 255) : (bits .and .u8 fl 4 == 0) = !(fl.tdiv 4 % 2 == 1) := by
  obtain ⟨k, rfl⟩ := Int.eq_ofNat_of_zero_le h0
  have h : ∀ k : Fin 256, (bits .and .u8 ((k : Nat) : Int) 4 == 0) = !(Int.tdiv ((k : Nat) : Int) 4 % 2 == 1) := by decide +kernel
  exact h ⟨k, by omega⟩

/-- Both gatherers' states belong together. -/
def Agree (s : GSt) (m : RSt) : Prop :=
  (s.bs = 0 ∧ s.bc = 0 ∧ m.bad = 0 ∧ s.busy = m.busy ∧ s.block = m.block ∧ s.block.length ≤ 8192 ∧ 0 ≤ s.more ∧ s.more ≤ 16 ∧ 0 ≤ m.more ∧ m.more ≤ 16 ∧ (m.busy = true → s.stream = m.stream ∧ s.fin = m.fin ∧ s.more = m.more)) ∨
  (s.bs = 1 ∧ s.bc = m.bad ∧ 0 < m.bad ∧ m.bad < 1000 ∧ s.busy = false ∧ m.busy = false ∧ s.block = [] ∧ m.block = [] ∧ 0 ≤ s.more ∧ s.more ≤ 1000 ∧ 0 ≤ m.more ∧ m.more ≤ 16)

/-- What both tell is the same. -/
def Tells (r : GOut × GSt) (q : RSt × Bool × RSt) : Prop :=
  Agree r.2 q.1 ∧ r.1.ok = q.2.1 ∧ r.1.stream = q.2.2.stream ∧ r.1.block = q.2.2.block ∧ r.1.fin = q.2.2.fin ∧ (q.1.bad = 0 ∧ r.1.bs = 0 ∧ r.1.bc = 0 ∨ r.1.bs = 1 ∧ r.1.bc = q.1.bad ∧ 0 < q.1.bad ∧ q.1.bad < 1000)

theorem agree_step (s : GSt) (m : RSt) (ty fl st : Int) (data : List Int) (h : Agree s m) (h0 : 0 ≤ fl) (h1 : fl ≤ 255) : Tells (gtake s ty fl st data) (rTake m ty fl st data) := by
  obtain ⟨s1, s2, s3, s4, s5, s6, s7⟩ := s
  obtain ⟨m0, m1, m2, m3, m4, m5⟩ := m
  rcases h with ⟨e1, e2, e3, e4, e5, e6, e7, e8, e9, e10, e11⟩ | ⟨e1, e2, e3, e4, e5, e6, e7, e8, e9, e10, e11, e12⟩
  · simp only at e1 e2 e3 e4 e5 e6 e7 e8 e9 e10 e11
    subst e1 e2 e3 e4 e5
    have b1 := bits1 fl h0 h1
    have b4 := bits4 fl h0 h1
    cases s4
    · by_cases h1' : ty = 1
      · subst h1'
        by_cases ho : 8192 < data.length
        · simp [gtake, gtakes, rTake, rEnd, ho, Tells, Agree]
        · cases hf : (fl.tdiv 4 % 2 == 1)
          · simp at hf
            simp [gtake, gtakes, rTake, rEnd, ho, b1, b4, hf, Tells, Agree]
            omega
          · simp at hf
            simp [gtake, gtakes, rTake, rEnd, ho, b1, b4, hf, Tells, Agree]
      · by_cases h9 : ty = 9
        · simp [gtake, gtakes, rTake, h1', h9, Tells, Agree]
          omega
        · simp [gtake, gtakes, rTake, h1', h9, Tells, Agree]
          omega
    · obtain ⟨rfl, rfl, rfl⟩ := e11 rfl
      by_cases h9 : ty = 9
      · by_cases hs : st = s1
        · subst h9 hs
          by_cases ho : 8192 < s2.length + data.length ∨ 16 < s5 + 1
          · simp [gtake, gtakes, rTake, rEnd, ho, Tells, Agree]
            omega
          · have ho1 : ¬ 8192 < s2.length + data.length := fun h => ho (.inl h)
            have ho2 : ¬ 16 < s5 + 1 := fun h => ho (.inr h)
            cases hf : (fl.tdiv 4 % 2 == 1)
            · simp at hf
              simp [gtake, gtakes, rTake, rEnd, ho1, ho2, b4, hf, Tells, Agree]
              omega
            · simp at hf
              simp [gtake, gtakes, rTake, rEnd, ho1, ho2, b4, hf, Tells, Agree]
              omega
        · simp [gtake, gtakes, rTake, h9, hs, Tells, Agree]
          omega
      · simp [gtake, gtakes, rTake, h9, Tells, Agree]
        omega
  · simp only at e1 e2 e3 e4 e5 e6 e7 e8 e9 e10 e11 e12
    subst e1 e2 e5 e6 e7 e8
    have hne : s7 ≠ 0 := by omega
    simp [gtake, rTake, hne, Tells, Agree]
    omega
end Go.Proofs.YtodfahcmgmleeaaDoor
