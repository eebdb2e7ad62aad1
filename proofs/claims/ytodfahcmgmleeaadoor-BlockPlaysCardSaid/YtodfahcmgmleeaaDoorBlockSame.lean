/- The document's gatherer in one contract; same; the plain law: both gatherers agree. -/
import Derived.Test.YtodfahcmgmleeaaDoorBlockRef2
import Derived.Test.YtodfahcmgmleeaaDoorBlockRef3
namespace Go.Proofs.YtodfahcmgmleeaaDoor
set_option linter.unusedVariables false
set_option linter.unusedSimpArgs false
open Go.RowKit Go.Proofs.YtodfahcmgmleeaaDoorW.PrintWords
attribute [local go_sem high] eqFault

abbrev rFail (k : Int) : RSt := ⟨false, 0, [], false, 0, k⟩
def rEnd (g : RSt) (fl : Int) : RSt × Bool × RSt :=
  if 8192 < g.block.length ∨ 16 < g.more then (rFail 11, false, rZero) else if (fl.tdiv 4 % 2 == 1) = true then (rZero, true, g) else (g, false, rZero)
def rTake (m : RSt) (ty fl st : Int) (data : List Int) : RSt × Bool × RSt :=
  if m.bad ≠ 0 then (m, false, rZero)
  else if m.busy = false then
    if ty = 9 then (rFail 1, false, rZero) else if ty ≠ 1 then (m, false, rZero) else rEnd ⟨true, st, data, fl.tmod 2 == 1, 0, 0⟩ fl
  else if ty ≠ 9 ∨ st ≠ m.stream then (rFail 1, false, rZero) else rEnd ⟨true, m.stream, m.block ++ data, m.fin, m.more + 1, 0⟩ fl

theorem ref_calls (w : World) (m : RSt) (ty fl st pad code oth wgt win : Int) (al : Bool) (A : Option Addr) (n c : Nat) (data : List Int) (S : Value) (hm0 : 0 ≤ m.more) (hm1 : m.more ≤ 1000) (hl : m.block.length ≤ 100000) (hn : n ≤ 20000) (hR : ReadsInt w .u8 A n data) :
    Calls Tryd.prog 18 #[rV m, frV ty fl st (.slice A n c) pad code oth wgt win al S] w (RefPost w (rTake m ty fl st data).1 (rTake m ty fl st data).2.1 (rTake m ty fl st data).2.2) := by
  unfold rTake
  by_cases hb : m.bad = 0
  · rw [if_neg (by simpa using hb)]
    by_cases hbu : m.busy = false
    · rw [if_pos hbu]
      by_cases h9 : ty = 9
      · rw [if_pos h9]
        exact ref_idle9 w m ty fl st pad code oth wgt win al _ S hb hbu h9
      · rw [if_neg h9]
        by_cases h1 : ty = 1
        · rw [if_neg (by simpa using h1)]
          subst h1
          unfold rEnd
          by_cases ho : 8192 < data.length
          · rw [if_pos (.inl ho)]
            exact ref_begin_over w m fl st pad code oth wgt win al A n c data S hb hbu hR ho
          · rw [if_neg (by simp; omega)]
            by_cases hf : (fl.tdiv 4 % 2 == 1) = true
            · rw [if_pos hf]
              exact ref_begin_whole w m fl st pad code oth wgt win al A n c data S hb hbu hR ho hf
            · rw [if_neg hf]
              exact ref_begin_part w m fl st pad code oth wgt win al A n c data S hb hbu hR ho (by simpa using hf)
        · rw [if_pos h1]
          exact ref_pass w m ty fl st pad code oth wgt win al _ S hb hbu h9 h1
    · rw [if_neg hbu]
      have hbt : m.busy = true := by simpa using hbu
      by_cases h9 : ty = 9
      · by_cases hs : st = m.stream
        · rw [if_neg (by simp [h9, hs])]
          subst h9
          unfold rEnd
          by_cases ho : 8192 < m.block.length + data.length
          · rw [if_pos (.inl (by simpa using ho))]
            exact ref_more_over1 w m fl st pad code oth wgt win al A n c data S hb hbt hs hm0 hm1 hl hn hR ho
          · by_cases ho2 : 16 < m.more + 1
            · rw [if_pos (.inr ho2)]
              exact ref_more_over2 w m fl st pad code oth wgt win al A n c data S hb hbt hs hm0 hm1 hl hn hR ho ho2
            · rw [if_neg (by simp; omega)]
              by_cases hf : (fl.tdiv 4 % 2 == 1) = true
              · rw [if_pos hf]
                exact ref_more_whole w m fl st pad code oth wgt win al A n c data S hb hbt hs hm0 hm1 hl hn hR ho ho2 hf
              · rw [if_neg hf]
                exact ref_more_part w m fl st pad code oth wgt win al A n c data S hb hbt hs hm0 hm1 hl hn hR ho ho2 (by simpa using hf)
        · rw [if_pos (.inr hs)]
          exact ref_stream w m ty fl st pad code oth wgt win al _ S hb hbt h9 hs
      · rw [if_pos (.inl h9)]
        exact ref_other w m ty fl st pad code oth wgt win al _ S hb hbt h9
  · rw [if_pos hb]
    exact ref_again w m ty fl st pad code oth wgt win al _ S hb

/-! ### same -/
set_option maxHeartbeats 1000000 in
set_option maxRecDepth 100000 in
theorem same_zero (w : World) (ok fin : Bool) (st : Int) (A : Option Addr) (n c : Nat) (o : RSt) (hst : st = o.stream) (hfin : fin = o.fin) (hR : ReadsInt w .u8 A n o.block) :
    Calls Tryd.prog 19 #[.agg (wholeC st (.slice A n c) fin), .bool ok, .agg (faultC 0 0), rV o, .bool ok, .int .i64 0] w fun ev w' => ev = .returned (.bool true) ∧ Below w.heap.size w w' := by
  subst hst hfin
  obtain ⟨m0, m1, m2, m3, m4, m5⟩ := o
  have hcv : ∀ W, Below w.heap.size w W → (convert 29 9 (.slice A n c)).run Tryd.prog W = .ok (.string (strOfNums m2)) W := fun W hW => string_of_reads Tryd.underlying29 Tryd.underlying5 Tryd.underlying9 (hR.below hW)
  have HC := Lib.hid hcv
  clear hR hcv
  go_enter Tryd.func19, Tryd.ntmps19
  go_wp2_with fail
  rw [HC.out _ (by go_grown)]
  go_wp2_with fail
  go_ret
  exact ⟨rfl, by go_grown⟩

set_option maxHeartbeats 1000000 in
set_option maxRecDepth 100000 in
theorem same_bad (w : World) (ok fin : Bool) (st : Int) (A : Option Addr) (n c : Nat) (o : RSt) (k : Int) (hk0 : 0 < k) (hk1 : k < 1000) (hst : st = o.stream) (hfin : fin = o.fin) (hR : ReadsInt w .u8 A n o.block) :
    Calls Tryd.prog 19 #[.agg (wholeC st (.slice A n c) fin), .bool ok, .agg (faultC 1 k), rV o, .bool ok,   .int .i64 k] w fun ev w' => ev = .returned (.bool true) ∧ Below w.heap.size w w' := by
  subst hst hfin
  obtain ⟨m0, m1, m2, m3, m4, m5⟩ := o
  have hcv : ∀ W, Below w.heap.size w W → (convert 29 9 (.slice A n c)).run Tryd.prog W = .ok (.string (strOfNums m2)) W := fun W hW => string_of_reads Tryd.underlying29 Tryd.underlying5 Tryd.underlying9 (hR.below hW)
  have z1 : (k != 0) = true := by simp; omega
  have HC := Lib.hid hcv
  clear hR hcv
  go_enter Tryd.func19, Tryd.ntmps19
  go_wp2_with fail
  rw [HC.out _ (by go_grown)]
  go_wp2_with fail
  go_ret
  exact ⟨rfl, by go_grown⟩

end Go.Proofs.YtodfahcmgmleeaaDoor
