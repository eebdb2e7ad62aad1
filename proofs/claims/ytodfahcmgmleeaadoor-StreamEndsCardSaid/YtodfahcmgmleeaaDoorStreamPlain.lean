/- The plain part of package stream: the state behind a frame that came or is sent, as functions on numbers; no program. -/
import Derived.KernelRfl
namespace Go.Proofs.YtodfahcmgmleeaaDoor

/-- Behind a frame that came: the state, a fault's scope (0: none) and code. -/
def comeF (s k : Int) (e : Bool) : Int × Int × Int :=
  if s > 6 then (s, 1, 2)
  else if ¬ (k = 1 ∨ k = 0 ∨ k = 3 ∨ k = 8 ∨ k = 2) then (s, 1, 1)
  else if k = 2 then (s, 0, 0)
  else if s = 0 then (if k = 1 then (if e then (3, 0, 0) else (1, 0, 0)) else (s, 1, 1))
  else if s = 1 then (if k = 1 then (if e then (3, 0, 0) else (s, 2, 1)) else if k = 0 then (if e then (3, 0, 0) else (s, 0, 0)) else if k = 3 then (6, 0, 0) else (s, 0, 0))
  else if s = 2 then (if k = 1 then (if e then (4, 0, 0) else (s, 2, 1)) else if k = 0 then (if e then (4, 0, 0) else (s, 0, 0)) else if k = 3 then (6, 0, 0) else (s, 0, 0))
  else if s = 3 then (if k = 1 ∨ k = 0 then (s, 2, 5) else if k = 3 then (6, 0, 0) else (s, 0, 0))
  else if s = 4 then (if k = 1 ∨ k = 0 then (s, 1, 5) else (s, 0, 0))
  else if s = 6 then (if k = 1 ∨ k = 0 then (s, 2, 5) else (s, 0, 0))
  else (s, 0, 0)

/-- Behind a frame that is sent: the state, and whether it may be. -/
def sendF (s k : Int) (e : Bool) : Int × Bool :=
  if k = 1 ∧ s = 0 then (if e then (2, true) else (1, true))
  else if k = 1 ∨ k = 0 then (if s = 1 then (if e then (2, true) else (s, true)) else if s = 3 then (if e then (4, true) else (s, true)) else (s, false))
  else if k = 3 then (if s = 1 ∨ s = 2 ∨ s = 3 then (5, true) else (s, false))
  else if k = 8 then (s, decide (s = 1 ∨ s = 2))
  else (s, false)

def liveF (s : Int) : Bool := decide (s = 1 ∨ s = 2 ∨ s = 3)
def stepF (s : Int) (sent : Bool) (k : Int) (e : Bool) : Int := if sent then (sendF s k e).1 else (comeF s k e).1

theorem comeF_range (s k : Int) (e : Bool) (h0 : 0 ≤ s) (h1 : s ≤ 6) : 0 ≤ (comeF s k e).1 ∧ (comeF s k e).1 ≤ 6 := by
  unfold comeF
  repeat' split
  all_goals (constructor <;> simp <;> omega)
theorem sendF_range (s k : Int) (e : Bool) (h0 : 0 ≤ s) (h1 : s ≤ 6) : 0 ≤ (sendF s k e).1 ∧ (sendF s k e).1 ≤ 6 := by
  unfold sendF
  repeat' split
  all_goals (constructor <;> simp <;> omega)
/-- A state that was left for one further on never comes again. -/
theorem comeF_on (s k : Int) (e : Bool) (h0 : 0 < s) (h1 : s ≤ 6) : s ≤ (comeF s k e).1 := by
  unfold comeF
  repeat' split
  all_goals (simp <;> omega)
theorem sendF_on (s k : Int) (e : Bool) (h0 : 0 < s) (h1 : s ≤ 6) : s ≤ (sendF s k e).1 := by
  unfold sendF
  repeat' split
  all_goals (simp <;> omega)
/-- A fault changes no state; the scope is 0 just where there is none. -/
theorem comeF_fault (s k : Int) (e : Bool) : (comeF s k e).2.1 = 0 ∧ (comeF s k e).2.2 = 0 ∨ (comeF s k e).2.1 ≠ 0 ∧ (comeF s k e).1 = s := by
  unfold comeF
  repeat' split
  all_goals simp
theorem comeF_open (s k : Int) (e : Bool) (h : (comeF s k e).1 = 1) : s = 1 ∨ s = 0 := by
  revert h
  unfold comeF
  repeat' split
  all_goals (simp <;> omega)
theorem sendF_open (s k : Int) (e : Bool) (h : (sendF s k e).1 = 1) : s = 1 ∨ s = 0 := by
  revert h
  unfold sendF
  repeat' split
  all_goals (simp <;> omega)
theorem sendF_no (s k : Int) (e : Bool) (h : (sendF s k e).2 = false) : (sendF s k e).1 = s := by
  revert h
  unfold sendF
  repeat' split
  all_goals simp
end Go.Proofs.YtodfahcmgmleeaaDoor
