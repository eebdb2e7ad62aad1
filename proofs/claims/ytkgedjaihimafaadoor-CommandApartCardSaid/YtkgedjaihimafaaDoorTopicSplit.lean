/- strings.Split at a slash; the closure of topic.Parts; slices.IndexFunc and ContainsFunc at it. -/
import Derived.Test.YtkgedjaihimafaaDoorTopicPart
import Derived.Test.YtkgedjaihimafaaDoorShelf
import Derived.Shelf.Strings.SplitCore
import Derived.Lib.SplitLaws
import Derived.Lib.IndexBytes
namespace Go.Proofs.YtkgedjaihimafaaDoor
set_option linter.unusedVariables false
set_option linter.unusedSimpArgs false
open Go.RowKit Go.Proofs.YtkgedjaihimafaaDoorW.PrintWords

theorem genSplit_calls (w : World) (s : ByteArray) (hs : s.size < 4294967281) :
    Calls Tryd.prog 78 #[.string s, .string ⟨#[47]⟩, .int .i64 0, .int .i64 (-1)] w fun e w' =>
      e = .returned (.slice (some ⟨w.heap.size, 0, none⟩) (Lib.splitB ⟨#[47]⟩ 0 (Lib.countB s ⟨#[47]⟩) s).length (Lib.countB s ⟨#[47]⟩ + 1)) ∧ w' = w.alloc (.cells (Lib.cellsOf (Lib.splitB ⟨#[47]⟩ 0 (Lib.countB s ⟨#[47]⟩) s) (Lib.countB s ⟨#[47]⟩ + 1)) 9) := by
  have hle := Lib.countB_le ⟨#[47]⟩ (by decide) s.size s (Nat.le_refl _)
  have h := Any.strings_genSplit_core Tryd.lays221 (by kernel_rfl) s ⟨#[47]⟩ 0 (-1) (Lib.countB s ⟨#[47]⟩ + 1) w hs (by decide) (by decide)
    (fun x c _ => (Tryd.strings_Index_one x 47 _).mono fun e w' ⟨he, hw⟩ => ⟨by rw [he]; show _ = Ending.returned (Value.int .i64 (Lib.index x.data.toList [47])); rw [Lib.index_one], hw⟩)
    ((Tryd.strings_Count_one s 47 w).mono fun e w' ⟨he, hw⟩ => ⟨?_, hw⟩) (by decide) (by decide) (by rw [if_pos (by decide)]; omega)
  · rw [Nat.add_sub_cancel] at h
    exact h
  · rw [he]
    show _ = Ending.returned (Value.int .i64 ((Lib.count s.data.toList [47] : Nat) : Int))
    rw [Lib.count_one]
    rfl

/-- The pieces between slashes. -/
def pieces (s : ByteArray) : List ByteArray := Lib.splitB ⟨#[47]⟩ 0 (Lib.countB s ⟨#[47]⟩) s

theorem split_calls (w : World) (s : ByteArray) (hs : s.size < 4294967281) :
    Calls Tryd.prog 68 #[.string s, .string ⟨#[47]⟩] w fun e w' =>
      e = .returned (.slice (some ⟨w.heap.size, 0, none⟩) (pieces s).length (pieces s).length) ∧ w' = w.alloc (.cells ((pieces s).map Value.string).toArray 9) := by
  have hlen : (pieces s).length = Lib.countB s ⟨#[47]⟩ + 1 := Lib.splitB_all ⟨#[47]⟩ (by decide) 0 _ s rfl
  have c := genSplit_calls w s hs
  have e2 : Lib.cellsOf (Lib.splitB ⟨#[47]⟩ 0 (Lib.countB s ⟨#[47]⟩) s) (Lib.countB s ⟨#[47]⟩ + 1) = ((pieces s).map Value.string).toArray := by rw [← hlen]; exact Lib.cellsOf_full _
  rw [e2, ← hlen] at c
  have HC := Lib.hid c
  clear c hlen e2
  go_enter Tryd.func68, Tryd.ntmps68
  go_wp2_with fail
  refine HC.out.mono ?_
  rintro e w1 ⟨rfl, rfl⟩
  go_wp2_with fail
  go_ret
  exact ⟨rfl, rfl⟩

theorem notPart_calls (w : World) (s : ByteArray) (hs : s.size ≤ 1000000000) :
    Calls Tryd.prog 70 #[.string s] w fun ev w' => ev = .returned (.bool (!isPart s.data.toList)) ∧ Below w.heap.size w w' := by
  have HC := Lib.hid (part_calls w s hs)
  go_enter Tryd.func70, Tryd.ntmps70
  go_wp2_with fail
  refine HC.out.mono ?_
  rintro e w1 ⟨rfl, hb⟩
  have HB := Lib.hid hb
  clear hb
  go_wp2_with fail
  go_ret
  exact ⟨rfl, HB.out⟩

/-- What slices.IndexFunc leaves at that closure. -/
def IdxPost (w : World) (xs : List ByteArray) (e : Ending) (w' : World) : Prop :=
  ∃ r : Int, e = .returned (.int .i64 r) ∧ decide (0 ≤ r) = xs.any (fun x => !isPart x.data.toList) ∧ Below w.heap.size w w'
def IdxRel (w : World) (xs : List ByteArray) (i : Value) (wr : World) : Prop :=
  ∃ k : Nat, k ≤ xs.length ∧ i = .int .i64 k ∧ Below w.heap.size w wr ∧ ∀ x ∈ xs.take k, isPart x.data.toList = true

set_option maxHeartbeats 1000000 in
theorem indexFunc_calls (w : World) (b c : Nat) (xs : List ByteArray) (hc : ∀ j x, xs[j]? = some x → w.cell? ⟨b, j, none⟩ = some (.string x)) (hx : ∀ x ∈ xs, x.size ≤ 1000000000) (hl : xs.length ≤ 1000000000) :
    Calls Tryd.prog 79 #[.slice (some ⟨b, 0, none⟩) xs.length c, .func (Fn.func 70) #[] #[]] w (IdxPost w xs) := by
  refine of_post0 fun R hRR => ?_
  have HP := Lib.hid hRR
  have HC := Lib.hid (And.intro hc hx)
  clear hRR hc hx
  go_enter Tryd.func79, Tryd.ntmps79
  go_wp2_with fail
  go_loopw [8] (fun i wr => IdxRel w xs i wr) (fun i _ => xs.length - (intOf i).toNat)
  case atStart => exact ⟨0, Nat.zero_le _, rfl, Below.refl _ _, fun x hx => by simp at hx⟩
  case round =>
    obtain ⟨k, hk, rfl, hb, hall⟩ := hrel
    by_cases hlt : k < xs.length
    · have hkx : xs[k]? = some (xs[k]'hlt) := List.getElem?_eq_getElem hlt
      have hcell0 := HC.out.1 k _ hkx
      have hcell : wr.cell? ⟨b, k, none⟩ = some (.string (xs[k]'hlt)) := (hb.cell (World.block_lt_of_cell? w _ hcell0)).trans hcell0
      have hnb := notPart_calls wr (xs[k]'hlt) (HC.out.2 _ (List.getElem_mem hlt))
      have htk : xs.take (k + 1) = xs.take k ++ [xs[k]'hlt] := by rw [List.take_succ_eq_append_getElem hlt]
      have hmem := List.getElem_mem hlt
      generalize xs[k]'hlt = x at hcell hnb htk hmem
      have HN := Lib.hid hnb
      have HB := Lib.hid (And.intro hb (And.intro hall (And.intro htk hmem)))
      clear hb hall htk hnb hkx hcell0 hmem
      cases hp : isPart x.data.toList
      · have HQ := Lib.hid hp
        clear hp
        go_wp2_with fail
        refine HN.out.mono ?_
        rintro e w1 ⟨rfl, hb1⟩
        rw [HQ.out]
        have HB1 := Lib.hid hb1
        clear hb1
        go_wp2_with fail
        refine HP.out _ _ ⟨(k : Int), rfl, ?_, HB.out.1.trans (HB1.out.mono HB.out.1.size)⟩
        have h1 : xs.any (fun x => !isPart x.data.toList) = true := List.any_eq_true.2 ⟨x, HB.out.2.2.2, by simp [HQ.out]⟩
        rw [h1, decide_eq_true_iff]
        omega
      · have HQ := Lib.hid hp
        clear hp
        go_wp2_with fail
        refine HN.out.mono ?_
        rintro e w1 ⟨rfl, hb1⟩
        rw [HQ.out]
        have HB1 := Lib.hid hb1
        clear hb1
        go_wp2_with fail
        go_roundw
        case rel =>
          refine ⟨k + 1, by omega, by go_num, HB.out.1.trans (HB1.out.mono HB.out.1.size), fun y hy => ?_⟩
          rw [HB.out.2.2.1] at hy
          rcases List.mem_append.1 hy with h | h
          · exact HB.out.2.1 y h
          · rw [List.mem_singleton.1 h]
            exact HQ.out
        case measure => simp [intOf]; omega
    · have HB := Lib.hid (And.intro hb hall)
      clear hb hall
      go_wp2_with fail
      refine HP.out _ _ ⟨-1, rfl, ?_, HB.out.1⟩
      have h := HB.out.2
      rw [List.take_of_length_le (by omega)] at h
      have h1 : xs.any (fun x => !isPart x.data.toList) = false := by
        rw [List.any_eq_false]
        intro y hy
        simp [h y hy]
      rw [h1]
      rfl

theorem containsFunc_calls (w : World) (b c : Nat) (xs : List ByteArray) (hc : ∀ j x, xs[j]? = some x → w.cell? ⟨b, j, none⟩ = some (.string x)) (hx : ∀ x ∈ xs, x.size ≤ 1000000000) (hl : xs.length ≤ 1000000000) :
    Calls Tryd.prog 69 #[.slice (some ⟨b, 0, none⟩) xs.length c, .func (Fn.func 70) #[] #[]] w fun e w' => e = .returned (.bool (xs.any (fun x => !isPart x.data.toList))) ∧ Below w.heap.size w w' := by
  have HC := Lib.hid (indexFunc_calls w b c xs hc hx hl)
  clear hc hx
  go_enter Tryd.func69, Tryd.ntmps69
  go_wp2_with fail
  refine HC.out.mono ?_
  rintro e w1 ⟨r, rfl, h1, hb⟩
  have HB := Lib.hid (And.intro hb h1)
  clear hb h1
  go_wp2_with fail
  go_ret
  exact ⟨congrArg (fun b => Ending.returned (Value.bool b)) HB.out.2, HB.out.1⟩
end Go.Proofs.YtkgedjaihimafaaDoor
