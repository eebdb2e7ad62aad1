/- topic.part, walked: whether a text is a part of a name. -/
import Derived.Test.YtkgedjaihimafaaDoorBase
import Derived.Outline
import Derived.Lib.OthersKept
import Derived.Lib.Hide
import Derived.Laws.RangeAny
import Derived.Deep.LoopGhost
import Derived.BigQuiet
import Derived.Deep.QuietTactic
namespace Go.Proofs.YtkgedjaihimafaaDoor
set_option linter.unusedVariables false
set_option linter.unusedSimpArgs false
open Go.RowKit Go.Proofs.YtkgedjaihimafaaDoorW.PrintWords

/-- May a number stand in a part? -/
def chrN (c : Nat) : Bool := (decide (97 ≤ c) && decide (c ≤ 122)) || (decide (48 ≤ c) && decide (c ≤ 57)) || decide (c = 45) || decide (c = 95) || decide (c = 46)
/-- Is a text a part? -/
def isPart (l : List UInt8) : Bool := l.all (fun c => chrN c.toNat) && l != [] && l != [46] && l != [46, 46]

theorem isPart_bad {l : List UInt8} {c : UInt8} (h : c ∈ l) (hc : chrN c.toNat = false) : isPart l = false := by
  unfold isPart
  have : l.all (fun c => chrN c.toNat) = false := by
    rw [List.all_eq_false]
    exact ⟨c, h, by simp [hc]⟩
  rw [this]
  rfl

theorem chrN_high {c : Nat} (h : 128 ≤ c) : chrN c = false := by
  unfold chrN
  simp
  omega

theorem isPart_all {s : ByteArray} (h : ∀ j (h : j < s.size), chrN (s[j]'h).toNat = true) : isPart s.data.toList = (!s.toList.isEmpty && !(s.toList == [46]) && !(s.toList == [46, 46])) := by
  have e : s.data.toList.all (fun c => chrN c.toNat) = true := by
    rw [List.all_eq_true]
    intro c hc
    obtain ⟨j, hj, rfl⟩ := List.getElem_of_mem hc
    have hj' : j < s.size := by simpa using hj
    have := h j hj'
    simpa [ByteArray.getElem_eq_getElem_data] using this
  have hl : s.toList = s.data.toList := ByteArray.toList_eq s
  unfold isPart
  rw [e, hl]
  cases s.data.toList <;> simp [Bool.and_assoc, bne]

theorem chrN_iff {c : Nat} : chrN c = true ↔ ((97 ≤ c ∧ c ≤ 122) ∨ (48 ≤ c ∧ c ≤ 57) ∨ c = 45 ∨ c = 95 ∨ c = 46) := by
  unfold chrN
  simp
  omega

/-- The loop's relation. -/
def PartRel (w : World) (s : ByteArray) (wr : World) : Prop :=
  ∃ pos : Nat, pos ≤ s.size ∧ wr.heap[w.heap.size]? = some (.stringIter s pos) ∧ Below w.heap.size w wr ∧ ∀ j (h : j < s.size), j < pos → chrN (s[j]'h).toNat = true

set_option maxHeartbeats 2000000 in
set_option maxRecDepth 100000 in
theorem part_calls (w : World) (s : ByteArray) (hs : s.size ≤ 1000000000) :
    Calls Tryd.prog 71 #[.string s] w fun ev w' => ev = .returned (.bool (isPart s.data.toList)) ∧ Below w.heap.size w w' := by
  refine of_post0 fun R hRR => ?_
  have HP := Lib.hid hRR
  clear hRR
  go_enter Tryd.func71, Tryd.ntmps71
  go_wp2
  go_loopw [] (fun wr => PartRel w s wr) (fun wr => s.size - wr.iterPos w.heap.size)
  case atStart => exact ⟨0, Nat.zero_le _, World.iter_heap w s 0, (Below.refl _ w).alloc (Nat.le_refl _) _, fun j h hj => absurd hj (Nat.not_lt_zero j)⟩
  case round =>
    obtain ⟨pos, hpl, hit, hbw, hall⟩ := hrel
    have hsz : w.heap.size < wr.heap.size := (Array.getElem?_eq_some_iff.1 hit).1
    by_cases hp : pos < s.size
    · have hnx : ∀ ty, (Instr.next (.pointer (some ⟨w.heap.size, 0, none⟩)) true ty).run Tryd.prog wr = _ := fun ty => Lib.run_next_any_at wr w.heap.size s pos ty hit hp
      have hit2 := Lib.iterAt_heap wr w.heap.size s pos (pos + (Utf8.decode s pos).2) hit
      have hbw2 := Lib.below_iterAt hbw (k := w.heap.size) (Nat.le_refl _) s (pos + (Utf8.decode s pos).2)
      have hmem : s[pos]'hp ∈ s.data.toList := by simp [ByteArray.getElem_eq_getElem_data]
      have hcase : (chrN (Utf8.decode s pos).1 = true ∧ (Utf8.decode s pos).2 = 1 ∧ chrN (s[pos]'hp).toNat = true) ∨ (chrN (Utf8.decode s pos).1 = false ∧ isPart s.data.toList = false) := by
        by_cases ha : (s[pos]'hp).toNat < 128
        · have hd := decode_ascii s pos hp ha
          by_cases hc : chrN (s[pos]'hp).toNat = true
          · exact .inl ⟨by rw [hd]; exact hc, by rw [hd], hc⟩
          · have hc' : chrN (s[pos]'hp).toNat = false := by simpa using hc
            exact .inr ⟨by rw [hd]; exact hc', isPart_bad hmem hc'⟩
        · exact .inr ⟨chrN_high (decode_high s pos hp (by omega)).1, isPart_bad hmem (chrN_high (by omega))⟩
      have hle := decode_le s pos
      generalize (Utf8.decode s pos).1 = c at hnx hcase hle
      generalize (Utf8.decode s pos).2 = m at hnx hcase hit2 hbw2
      have HALL := Lib.hid hall
      have HIT := Lib.hid (And.intro hit (And.intro hit2 hbw2))
      clear hall hit2 hbw2 hit hbw hmem
      rcases hcase with ⟨hc, rfl, hc2⟩ | ⟨hc, hno⟩
      · have HC := Lib.hid (And.intro hc2 (chrN_iff.1 hc))
        clear hc2 hc
        go_wp2_with fail
        all_goals
          first
          | (refine ⟨⟨pos + 1, by omega, HIT.out.2.1, HIT.out.2.2, fun j h hj => ?_⟩, ?_⟩
             · rcases Nat.lt_or_ge j pos with hlt | hge
               · exact HALL.out j h hlt
               · obtain rfl : j = pos := by omega
                 exact HC.out.1
             · simp only [World.iterPos, HIT.out.1, HIT.out.2.1]
               omega)
          | (exfalso
             have hx := HC.out.2
             try simp only [bne_iff_ne, bne_eq_false_iff_eq] at *
             omega)
      · have HC := Lib.hid (And.intro hno (fun h => Bool.false_ne_true (hc.symm.trans (chrN_iff.2 h))))
        clear hno hc
        go_wp2_with fail
        all_goals
          first
          | exact HP.out _ _ ⟨congrArg (fun b => Ending.returned (Value.bool b)) HC.out.1.symm, HIT.out.2.2⟩
          | (exfalso
             refine HC.out.2 ?_
             try simp only [bne_iff_ne, bne_eq_false_iff_eq] at *
             omega)
    · have hnx : ∀ ty, (Instr.next (.pointer (some ⟨w.heap.size, 0, none⟩)) true ty).run Tryd.prog wr = _ := fun ty => Lib.run_next_end_at wr w.heap.size s pos ty hit hp
      have HB := Lib.hid hbw
      have HE := Lib.hid (isPart_all (fun j h => hall j h (by omega)))
      clear hbw hall hit
      go_wp2_with fail
      all_goals
        refine HP.out _ _ ⟨?_, HB.out⟩
        rw [HE.out]
        simp_all
end Go.Proofs.YtkgedjaihimafaaDoor
