/- Texts of this claim, put together: Base, TopicPart, Shelf, TopicSplit, TopicGiven. -/
import Derived.Test.YtkgedjaihimafaaDoorWWords
import Derived.Lib.Hide
import Derived.Test.YtkgedjaihimafaaDoorProg
import Derived.WalkKit
import Derived.Below
import Derived.RowKit
import Derived.KernelRfl
import Derived.Deep.DeepCutAuto
import Derived.Deep.RegionHeld3
import Derived.Deep.QuietTactic
import Derived.BigQuiet
import Derived.Outline
import Derived.Deep.LoopGhost
import Derived.WalkSpells
import Derived.Lib.OthersKept
import Derived.Laws.RangeAny
import Derived.Shelf.Small.Bits
import Derived.Shelf.Strconv.Itoa0
import Derived.Shelf.Strings.Search1
import Derived.Shelf.Strings.Search2
import Derived.Shelf.Strings.Search3
import Derived.Shelf.Strings.Count
import Derived.Shelf.LaysM
import Derived.Shelf.Strings.Shaped
import Derived.Shelf.Strings.Split
import Derived.Shelf.Strings.SplitShaped
import Derived.Shelf.Strings.RuneCount
import Derived.Shelf.Strings.Explode
import Derived.Shelf.Strings.SplitCore
import Derived.Lib.SplitLaws
import Derived.Lib.IndexBytes
/- Small words that all texts of this claim use. -/
namespace Go.Proofs.YtkgedjaihimafaaDoor
set_option linter.unusedVariables false
set_option linter.unusedSimpArgs false
open Go.RowKit
/-- The post behind a letter. -/
theorem of_post0 {P : Program} {f : FuncId} {args : Array Value} {w : World} {T : Ending → World → Prop} (h : ∀ R : Ending → World → Prop, (∀ e w', T e w' → R e w') → Calls P f args w R) : Calls P f args w T := h T fun _ _ h => h
/-- As the walk spells it, and as the print does. -/
theorem isEmpty_bne (l : List UInt8) : (!l.isEmpty) = (l != []) := by cases l <;> rfl
end Go.Proofs.YtkgedjaihimafaaDoor

/- topic.part, walked: whether a text is a part of a name. -/
namespace Go.Proofs.YtkgedjaihimafaaDoor
set_option linter.unusedVariables false
set_option linter.unusedSimpArgs false
open Go.RowKit Go.Proofs.YtkgedjaihimafaaDoorW.PrintWords

/-- May a number stand in a part? -/
def chrN (c : Nat) : Bool := (decide (97 ≤ c) && decide (c ≤ 122)) || (decide (48 ≤ c) && decide (c ≤ 57)) || decide (c = 45) || decide (c = 95) || decide (c = 46)
/-- Is a text a part? -/
def isPart (l : List UInt8) : Bool := l.all (fun c => chrN c.toNat) && l != [] && l != [46] && l != [46, 46]

theorem isPart_bad {l : List UInt8} {c : UInt8} (h : c ∈ l) (hc : chrN c.toNat = false) : isPart l = false := by
  unfold isPart
  have : l.all (fun c => chrN c.toNat) = false := by
    rw [List.all_eq_false]
    exact ⟨c, h, by simp [hc]⟩
  rw [this]
  rfl

theorem chrN_high {c : Nat} (h : 128 ≤ c) : chrN c = false := by
  unfold chrN
  simp
  omega

theorem isPart_all {s : ByteArray} (h : ∀ j (h : j < s.size), chrN (s[j]'h).toNat = true) : isPart s.data.toList = (!s.toList.isEmpty && !(s.toList == [46]) && !(s.toList == [46, 46])) := by
  have e : s.data.toList.all (fun c => chrN c.toNat) = true := by
    rw [List.all_eq_true]
    intro c hc
    obtain ⟨j, hj, rfl⟩ := List.getElem_of_mem hc
    have hj' : j < s.size := by simpa using hj
    have := h j hj'
    simpa [ByteArray.getElem_eq_getElem_data] using this
  have hl : s.toList = s.data.toList := ByteArray.toList_eq s
  unfold isPart
  rw [e, hl]
  cases s.data.toList <;> simp [Bool.and_assoc, bne]

theorem chrN_iff {c : Nat} : chrN c = true ↔ ((97 ≤ c ∧ c ≤ 122) ∨ (48 ≤ c ∧ c ≤ 57) ∨ c = 45 ∨ c = 95 ∨ c = 46) := by
  unfold chrN
  simp
  omega

/-- The loop's relation. -/
def PartRel (w : World) (s : ByteArray) (wr : World) : Prop :=
  ∃ pos : Nat, pos ≤ s.size ∧ wr.heap[w.heap.size]? = some (.stringIter s pos) ∧ Below w.heap.size w wr ∧ ∀ j (h : j < s.size), j < pos → chrN (s[j]'h).toNat = true

set_option maxHeartbeats 2000000 in
set_option maxRecDepth 100000 in
theorem part_calls (w : World) (s : ByteArray) (hs : s.size ≤ 1000000000) :
    Calls Tryd.prog 71 #[.string s] w fun ev w' => ev = .returned (.bool (isPart s.data.toList)) ∧ Below w.heap.size w w' := by
  refine of_post0 fun R hRR => ?_
  have HP := Lib.hid hRR
  clear hRR
  go_enter Tryd.func71, Tryd.ntmps71
  go_wp2
  go_loopw [] (fun wr => PartRel w s wr) (fun wr => s.size - wr.iterPos w.heap.size)
  case atStart => exact ⟨0, Nat.zero_le _, World.iter_heap w s 0, (Below.refl _ w).alloc (Nat.le_refl _) _, fun j h hj => absurd hj (Nat.not_lt_zero j)⟩
  case round =>
    obtain ⟨pos, hpl, hit, hbw, hall⟩ := hrel
    have hsz : w.heap.size < wr.heap.size := (Array.getElem?_eq_some_iff.1 hit).1
    by_cases hp : pos < s.size
    · have hnx : ∀ ty, (Instr.next (.pointer (some ⟨w.heap.size, 0, none⟩)) true ty).run Tryd.prog wr = _ := fun ty => Lib.run_next_any_at wr w.heap.size s pos ty hit hp
      have hit2 := Lib.iterAt_heap wr w.heap.size s pos (pos + (Utf8.decode s pos).2) hit
      have hbw2 := Lib.below_iterAt hbw (k := w.heap.size) (Nat.le_refl _) s (pos + (Utf8.decode s pos).2)
      have hmem : s[pos]'hp ∈ s.data.toList := by simp [ByteArray.getElem_eq_getElem_data]
      have hcase : (chrN (Utf8.decode s pos).1 = true ∧ (Utf8.decode s pos).2 = 1 ∧ chrN (s[pos]'hp).toNat = true) ∨ (chrN (Utf8.decode s pos).1 = false ∧ isPart s.data.toList = false) := by
        by_cases ha : (s[pos]'hp).toNat < 128
        · have hd := decode_ascii s pos hp ha
          by_cases hc : chrN (s[pos]'hp).toNat = true
          · exact .inl ⟨by rw [hd]; exact hc, by rw [hd], hc⟩
          · have hc' : chrN (s[pos]'hp).toNat = false := by simpa using hc
            exact .inr ⟨by rw [hd]; exact hc', isPart_bad hmem hc'⟩
        · exact .inr ⟨chrN_high (decode_high s pos hp (by omega)).1, isPart_bad hmem (chrN_high (by omega))⟩
      have hle := decode_le s pos
      generalize (Utf8.decode s pos).1 = c at hnx hcase hle
      generalize (Utf8.decode s pos).2 = m at hnx hcase hit2 hbw2
      have HALL := Lib.hid hall
      have HIT := Lib.hid (And.intro hit (And.intro hit2 hbw2))
      clear hall hit2 hbw2 hit hbw hmem
      rcases hcase with ⟨hc, rfl, hc2⟩ | ⟨hc, hno⟩
      · have HC := Lib.hid (And.intro hc2 (chrN_iff.1 hc))
        clear hc2 hc
        go_wp2_with fail
        all_goals
          first
          | (refine ⟨⟨pos + 1, by omega, HIT.out.2.1, HIT.out.2.2, fun j h hj => ?_⟩, ?_⟩
             · rcases Nat.lt_or_ge j pos with hlt | hge
               · exact HALL.out j h hlt
               · obtain rfl : j = pos := by omega
                 exact HC.out.1
             · simp only [World.iterPos, HIT.out.1, HIT.out.2.1]
               omega)
          | (exfalso
             have hx := HC.out.2
             try simp only [bne_iff_ne, bne_eq_false_iff_eq] at *
             omega)
      · have HC := Lib.hid (And.intro hno (fun h => Bool.false_ne_true (hc.symm.trans (chrN_iff.2 h))))
        clear hno hc
        go_wp2_with fail
        all_goals
          first
          | exact HP.out _ _ ⟨congrArg (fun b => Ending.returned (Value.bool b)) HC.out.1.symm, HIT.out.2.2⟩
          | (exfalso
             refine HC.out.2 ?_
             try simp only [bne_iff_ne, bne_eq_false_iff_eq] at *
             omega)
    · have hnx : ∀ ty, (Instr.next (.pointer (some ⟨w.heap.size, 0, none⟩)) true ty).run Tryd.prog wr = _ := fun ty => Lib.run_next_end_at wr w.heap.size s pos ty hit hp
      have HB := Lib.hid hbw
      have HE := Lib.hid (isPart_all (fun j h => hall j h (by omega)))
      clear hbw hall hit
      go_wp2_with fail
      all_goals
        refine HP.out _ _ ⟨?_, HB.out⟩
        rw [HE.out]
        simp_all
end Go.Proofs.YtkgedjaihimafaaDoor

/- Contracts of Go's library at this program, laid by the kit's shelf in plain words. -/
namespace Go.Proofs
open Go.Shelf
def Tryd.lays143_ren : Go.Shelf.Ren := ⟨fun | 143 => 86 | 219 => 100 | 217 => 107 | 225 => 108 | 224 => 109 | 267 => 110 | 266 => 112 | 314 => 113 | n => n, fun | 9 => 9 | 3 => 3 | 4 => 4 | 5 => 5 | 46 => 37 | 146 => 145 | 51 => 22 | n => n, fun | 1 => 0 | n => n⟩
theorem Tryd.lays143 : Go.Proofs.Lays.n143 Tryd.prog Tryd.lays143_ren := {
  mixed := by kernel_rfl
  f143 := Tryd.func86.trans (congrArg some (by kernel_rfl))
  f217 := Tryd.func107.trans (congrArg some (by kernel_rfl))
  f219 := Tryd.func100.trans (congrArg some (by kernel_rfl))
  f224 := Tryd.func109.trans (congrArg some (by kernel_rfl))
  f225 := Tryd.func108.trans (congrArg some (by kernel_rfl))
  f266 := Tryd.func112.trans (congrArg some (by kernel_rfl))
  f267 := Tryd.func110.trans (congrArg some (by kernel_rfl))
  f314 := Tryd.func113.trans (congrArg some (by kernel_rfl))
  t3 := Tryd.underlying3
  a3 := Tryd.isAgg3
  z3 := Tryd.sizeOf3
  v3 := Tryd.zeroValue3
  t4 := Tryd.underlying4
  a4 := Tryd.isAgg4
  z4 := Tryd.sizeOf4
  v4 := Tryd.zeroValue4
  t5 := Tryd.underlying5
  a5 := Tryd.isAgg5
  z5 := Tryd.sizeOf5
  v5 := Tryd.zeroValue5
  t9 := Tryd.underlying9
  a9 := Tryd.isAgg9
  z9 := Tryd.sizeOf9
  v9 := Tryd.zeroValue9
  t46 := Tryd.underlying37
  a46 := Tryd.isAgg37
  z46 := Tryd.sizeOf37
  v46 := Tryd.zeroValue37
  t51 := Tryd.underlying22
  a51 := Tryd.isAgg22
  z51 := Tryd.sizeOf22
  v51 := Tryd.zeroValue22
  t146 := Tryd.underlying145
  a146 := Tryd.isAgg145
  z146 := Tryd.sizeOf145
  v146 := Tryd.zeroValue145
  g1 := by kernel_rfl }
open Go.RowKit Go.Lib in
/-- strings.Index: "Index returns the index of the first instance of substr in s, or -1 if substr is not present in s.": AT A substr OF ONE BYTE c: IT RETURNS 'Lib.indexByte s c'; the world is as it was. (LAID: no walk: one application.) -/
theorem Tryd.strings_Index_one (s : ByteArray) (c : UInt8) (w : World) :
    Calls Tryd.prog 86 #[.string s, .string ⟨#[c]⟩] w fun e w' => e = .returned (.int .i64 (Lib.indexByte s.data.toList c)) ∧ w' = w := Any.strings_Index_one Tryd.lays143 s c w
def Tryd.lays138_ren : Go.Shelf.Ren := ⟨fun | 138 => 85 | 195 => 97 | 218 => 99 | 143 => 86 | 219 => 100 | 217 => 107 | 225 => 108 | 224 => 109 | 267 => 110 | 266 => 112 | 314 => 113 | n => n, fun | 9 => 9 | 3 => 3 | 4 => 4 | 5 => 5 | 0 => 0 | 46 => 37 | 146 => 145 | 51 => 22 | n => n, fun | 1 => 0 | n => n⟩
theorem Tryd.lays138 : Go.Proofs.Lays.n138 Tryd.prog Tryd.lays138_ren := {
  mixed := by kernel_rfl
  f138 := Tryd.func85.trans (congrArg some (by kernel_rfl))
  f143 := Tryd.func86.trans (congrArg some (by kernel_rfl))
  f195 := Tryd.func97.trans (congrArg some (by kernel_rfl))
  f217 := Tryd.func107.trans (congrArg some (by kernel_rfl))
  f218 := Tryd.func99.trans (congrArg some (by kernel_rfl))
  f219 := Tryd.func100.trans (congrArg some (by kernel_rfl))
  f224 := Tryd.func109.trans (congrArg some (by kernel_rfl))
  f225 := Tryd.func108.trans (congrArg some (by kernel_rfl))
  f266 := Tryd.func112.trans (congrArg some (by kernel_rfl))
  f267 := Tryd.func110.trans (congrArg some (by kernel_rfl))
  f314 := Tryd.func113.trans (congrArg some (by kernel_rfl))
  t0 := Tryd.underlying0
  a0 := Tryd.isAgg0
  z0 := Tryd.sizeOf0
  v0 := Tryd.zeroValue0
  t3 := Tryd.underlying3
  a3 := Tryd.isAgg3
  z3 := Tryd.sizeOf3
  v3 := Tryd.zeroValue3
  t4 := Tryd.underlying4
  a4 := Tryd.isAgg4
  z4 := Tryd.sizeOf4
  v4 := Tryd.zeroValue4
  t5 := Tryd.underlying5
  a5 := Tryd.isAgg5
  z5 := Tryd.sizeOf5
  v5 := Tryd.zeroValue5
  t9 := Tryd.underlying9
  a9 := Tryd.isAgg9
  z9 := Tryd.sizeOf9
  v9 := Tryd.zeroValue9
  t46 := Tryd.underlying37
  a46 := Tryd.isAgg37
  z46 := Tryd.sizeOf37
  v46 := Tryd.zeroValue37
  t51 := Tryd.underlying22
  a51 := Tryd.isAgg22
  z51 := Tryd.sizeOf22
  v51 := Tryd.zeroValue22
  t146 := Tryd.underlying145
  a146 := Tryd.isAgg145
  z146 := Tryd.sizeOf145
  v146 := Tryd.zeroValue145
  g1 := by kernel_rfl }
open Go.RowKit Go.Lib in
/-- strings.Count AT A substr OF ONE BYTE ('hp'): "Count counts the number of non-overlapping instances of substr in s.": IT RETURNS 'Lib.countByte s (that byte)'; the world is as it was. ✋ NO CONTRACT HERE YET at an empty substr (utf8.RuneCountInString) or at a longer one (a loop over strings.Index). (LAID: no walk: one application.) -/
theorem Tryd.strings_Count_one (s : ByteArray) (c : UInt8) (w : World) :
    Calls Tryd.prog 85 #[.string s, .string ⟨#[c]⟩] w fun e w' => e = .returned (.int .i64 (Lib.countByte s.data.toList c)) ∧ w' = w := Any.strings_Count_one Tryd.lays138 s c w
def Tryd.lays221_ren : Go.Shelf.Ren := ⟨fun | 221 => 78 | 268 => 84 | 138 => 85 | 143 => 86 | 195 => 97 | 197 => 98 | 218 => 99 | 219 => 100 | 260 => 106 | 217 => 107 | 225 => 108 | 224 => 109 | 267 => 110 | 266 => 112 | 314 => 113 | n => n, fun | 9 => 9 | 3 => 3 | 31 => 70 | 4 => 4 | 0 => 0 | 105 => 129 | 21 => 21 | 5 => 5 | 46 => 37 | 119 => 141 | 139 => 144 | 138 => 143 | 146 => 145 | 51 => 22 | n => n, fun | 1 => 0 | 3 => 1 | 4 => 2 | n => n⟩
theorem Tryd.lays221 : Go.Proofs.Lays.n221 Tryd.prog Tryd.lays221_ren := {
  mixed := by kernel_rfl
  f138 := Tryd.func85.trans (congrArg some (by kernel_rfl))
  f143 := Tryd.func86.trans (congrArg some (by kernel_rfl))
  f195 := Tryd.func97.trans (congrArg some (by kernel_rfl))
  f197 := Tryd.func98.trans (congrArg some (by kernel_rfl))
  f217 := Tryd.func107.trans (congrArg some (by kernel_rfl))
  f218 := Tryd.func99.trans (congrArg some (by kernel_rfl))
  f219 := Tryd.func100.trans (congrArg some (by kernel_rfl))
  f221 := Tryd.func78.trans (congrArg some (by kernel_rfl))
  f224 := Tryd.func109.trans (congrArg some (by kernel_rfl))
  f225 := Tryd.func108.trans (congrArg some (by kernel_rfl))
  f260 := Tryd.func106.trans (congrArg some (by kernel_rfl))
  f266 := Tryd.func112.trans (congrArg some (by kernel_rfl))
  f267 := Tryd.func110.trans (congrArg some (by kernel_rfl))
  f268 := Tryd.func84.trans (congrArg some (by kernel_rfl))
  f314 := Tryd.func113.trans (congrArg some (by kernel_rfl))
  t0 := Tryd.underlying0
  a0 := Tryd.isAgg0
  z0 := Tryd.sizeOf0
  v0 := Tryd.zeroValue0
  t3 := Tryd.underlying3
  a3 := Tryd.isAgg3
  z3 := Tryd.sizeOf3
  v3 := Tryd.zeroValue3
  t4 := Tryd.underlying4
  a4 := Tryd.isAgg4
  z4 := Tryd.sizeOf4
  v4 := Tryd.zeroValue4
  t5 := Tryd.underlying5
  a5 := Tryd.isAgg5
  z5 := Tryd.sizeOf5
  v5 := Tryd.zeroValue5
  t9 := Tryd.underlying9
  a9 := Tryd.isAgg9
  z9 := Tryd.sizeOf9
  v9 := Tryd.zeroValue9
  t21 := Tryd.underlying21
  a21 := Tryd.isAgg21
  z21 := Tryd.sizeOf21
  v21 := Tryd.zeroValue21
  t31 := Tryd.underlying70
  a31 := Tryd.isAgg70
  z31 := Tryd.sizeOf70
  v31 := Tryd.zeroValue70
  t46 := Tryd.underlying37
  a46 := Tryd.isAgg37
  z46 := Tryd.sizeOf37
  v46 := Tryd.zeroValue37
  t51 := Tryd.underlying22
  a51 := Tryd.isAgg22
  z51 := Tryd.sizeOf22
  v51 := Tryd.zeroValue22
  t105 := Tryd.underlying129
  a105 := Tryd.isAgg129
  z105 := Tryd.sizeOf129
  v105 := Tryd.zeroValue129
  t119 := Tryd.underlying141
  a119 := Tryd.isAgg141
  z119 := Tryd.sizeOf141
  t138 := Tryd.underlying143
  a138 := Tryd.isAgg143
  z138 := Tryd.sizeOf143
  v138 := Tryd.zeroValue143
  t139 := Tryd.underlying144
  a139 := Tryd.isAgg144
  z139 := Tryd.sizeOf144
  v139 := Tryd.zeroValue144
  t146 := Tryd.underlying145
  a146 := Tryd.isAgg145
  z146 := Tryd.sizeOf145
  v146 := Tryd.zeroValue145
  g1 := by kernel_rfl
  g3 := by kernel_rfl
  g4 := by kernel_rfl }
end Go.Proofs

/- strings.Split at a slash; the closure of topic.Parts; slices.IndexFunc and ContainsFunc at it. -/
namespace Go.Proofs.YtkgedjaihimafaaDoor
set_option linter.unusedVariables false
set_option linter.unusedSimpArgs false
open Go.RowKit Go.Proofs.YtkgedjaihimafaaDoorW.PrintWords

theorem genSplit_calls (w : World) (s : ByteArray) (hs : s.size < 4294967281) :
    Calls Tryd.prog 78 #[.string s, .string ⟨#[47]⟩, .int .i64 0, .int .i64 (-1)] w fun e w' =>
      e = .returned (.slice (some ⟨w.heap.size, 0, none⟩) (Lib.splitB ⟨#[47]⟩ 0 (Lib.countB s ⟨#[47]⟩) s).length (Lib.countB s ⟨#[47]⟩ + 1)) ∧ w' = w.alloc (.cells (Lib.cellsOf (Lib.splitB ⟨#[47]⟩ 0 (Lib.countB s ⟨#[47]⟩) s) (Lib.countB s ⟨#[47]⟩ + 1)) 9) := by
  have hle := Lib.countB_le ⟨#[47]⟩ (by decide) s.size s (Nat.le_refl _)
  have h := Any.strings_genSplit_core Tryd.lays221 (by kernel_rfl) s ⟨#[47]⟩ 0 (-1) (Lib.countB s ⟨#[47]⟩ + 1) w hs (by decide) (by decide)
    (fun x c _ => (Tryd.strings_Index_one x 47 _).mono fun e w' ⟨he, hw⟩ => ⟨by rw [he]; show _ = Ending.returned (Value.int .i64 (Lib.index x.data.toList [47])); rw [Lib.index_one], hw⟩)
    ((Tryd.strings_Count_one s 47 w).mono fun e w' ⟨he, hw⟩ => ⟨?_, hw⟩) (by decide) (by decide) (by rw [if_pos (by decide)]; omega)
  · rw [Nat.add_sub_cancel] at h
    exact h
  · rw [he]
    show _ = Ending.returned (Value.int .i64 ((Lib.count s.data.toList [47] : Nat) : Int))
    rw [Lib.count_one]
    rfl

/-- The pieces between slashes. -/
def pieces (s : ByteArray) : List ByteArray := Lib.splitB ⟨#[47]⟩ 0 (Lib.countB s ⟨#[47]⟩) s

theorem split_calls (w : World) (s : ByteArray) (hs : s.size < 4294967281) :
    Calls Tryd.prog 68 #[.string s, .string ⟨#[47]⟩] w fun e w' =>
      e = .returned (.slice (some ⟨w.heap.size, 0, none⟩) (pieces s).length (pieces s).length) ∧ w' = w.alloc (.cells ((pieces s).map Value.string).toArray 9) := by
  have hlen : (pieces s).length = Lib.countB s ⟨#[47]⟩ + 1 := Lib.splitB_all ⟨#[47]⟩ (by decide) 0 _ s rfl
  have c := genSplit_calls w s hs
  have e2 : Lib.cellsOf (Lib.splitB ⟨#[47]⟩ 0 (Lib.countB s ⟨#[47]⟩) s) (Lib.countB s ⟨#[47]⟩ + 1) = ((pieces s).map Value.string).toArray := by rw [← hlen]; exact Lib.cellsOf_full _
  rw [e2, ← hlen] at c
  have HC := Lib.hid c
  clear c hlen e2
  go_enter Tryd.func68, Tryd.ntmps68
  go_wp2_with fail
  refine HC.out.mono ?_
  rintro e w1 ⟨rfl, rfl⟩
  go_wp2_with fail
  go_ret
  exact ⟨rfl, rfl⟩

theorem notPart_calls (w : World) (s : ByteArray) (hs : s.size ≤ 1000000000) :
    Calls Tryd.prog 70 #[.string s] w fun ev w' => ev = .returned (.bool (!isPart s.data.toList)) ∧ Below w.heap.size w w' := by
  have HC := Lib.hid (part_calls w s hs)
  go_enter Tryd.func70, Tryd.ntmps70
  go_wp2_with fail
  refine HC.out.mono ?_
  rintro e w1 ⟨rfl, hb⟩
  have HB := Lib.hid hb
  clear hb
  go_wp2_with fail
  go_ret
  exact ⟨rfl, HB.out⟩

/-- What slices.IndexFunc leaves at that closure. -/
def IdxPost (w : World) (xs : List ByteArray) (e : Ending) (w' : World) : Prop :=
  ∃ r : Int, e = .returned (.int .i64 r) ∧ decide (0 ≤ r) = xs.any (fun x => !isPart x.data.toList) ∧ Below w.heap.size w w'
def IdxRel (w : World) (xs : List ByteArray) (i : Value) (wr : World) : Prop :=
  ∃ k : Nat, k ≤ xs.length ∧ i = .int .i64 k ∧ Below w.heap.size w wr ∧ ∀ x ∈ xs.take k, isPart x.data.toList = true

set_option maxHeartbeats 1000000 in
theorem indexFunc_calls (w : World) (b c : Nat) (xs : List ByteArray) (hc : ∀ j x, xs[j]? = some x → w.cell? ⟨b, j, none⟩ = some (.string x)) (hx : ∀ x ∈ xs, x.size ≤ 1000000000) (hl : xs.length ≤ 1000000000) :
    Calls Tryd.prog 79 #[.slice (some ⟨b, 0, none⟩) xs.length c, .func (Fn.func 70) #[] #[]] w (IdxPost w xs) := by
  refine of_post0 fun R hRR => ?_
  have HP := Lib.hid hRR
  have HC := Lib.hid (And.intro hc hx)
  clear hRR hc hx
  go_enter Tryd.func79, Tryd.ntmps79
  go_wp2_with fail
  go_loopw [8] (fun i wr => IdxRel w xs i wr) (fun i _ => xs.length - (intOf i).toNat)
  case atStart => exact ⟨0, Nat.zero_le _, rfl, Below.refl _ _, fun x hx => by simp at hx⟩
  case round =>
    obtain ⟨k, hk, rfl, hb, hall⟩ := hrel
    by_cases hlt : k < xs.length
    · have hkx : xs[k]? = some (xs[k]'hlt) := List.getElem?_eq_getElem hlt
      have hcell0 := HC.out.1 k _ hkx
      have hcell : wr.cell? ⟨b, k, none⟩ = some (.string (xs[k]'hlt)) := (hb.cell (World.block_lt_of_cell? w _ hcell0)).trans hcell0
      have hnb := notPart_calls wr (xs[k]'hlt) (HC.out.2 _ (List.getElem_mem hlt))
      have htk : xs.take (k + 1) = xs.take k ++ [xs[k]'hlt] := by rw [List.take_succ_eq_append_getElem hlt]
      have hmem := List.getElem_mem hlt
      generalize xs[k]'hlt = x at hcell hnb htk hmem
      have HN := Lib.hid hnb
      have HB := Lib.hid (And.intro hb (And.intro hall (And.intro htk hmem)))
      clear hb hall htk hnb hkx hcell0 hmem
      cases hp : isPart x.data.toList
      · have HQ := Lib.hid hp
        clear hp
        go_wp2_with fail
        refine HN.out.mono ?_
        rintro e w1 ⟨rfl, hb1⟩
        rw [HQ.out]
        have HB1 := Lib.hid hb1
        clear hb1
        go_wp2_with fail
        refine HP.out _ _ ⟨(k : Int), rfl, ?_, HB.out.1.trans (HB1.out.mono HB.out.1.size)⟩
        have h1 : xs.any (fun x => !isPart x.data.toList) = true := List.any_eq_true.2 ⟨x, HB.out.2.2.2, by simp [HQ.out]⟩
        rw [h1, decide_eq_true_iff]
        omega
      · have HQ := Lib.hid hp
        clear hp
        go_wp2_with fail
        refine HN.out.mono ?_
        rintro e w1 ⟨rfl, hb1⟩
        rw [HQ.out]
        have HB1 := Lib.hid hb1
        clear hb1
        go_wp2_with fail
        go_roundw
        case rel =>
          refine ⟨k + 1, by omega, by go_num, HB.out.1.trans (HB1.out.mono HB.out.1.size), fun y hy => ?_⟩
          rw [HB.out.2.2.1] at hy
          rcases List.mem_append.1 hy with h | h
          · exact HB.out.2.1 y h
          · rw [List.mem_singleton.1 h]
            exact HQ.out
        case measure => simp [intOf]; omega
    · have HB := Lib.hid (And.intro hb hall)
      clear hb hall
      go_wp2_with fail
      refine HP.out _ _ ⟨-1, rfl, ?_, HB.out.1⟩
      have h := HB.out.2
      rw [List.take_of_length_le (by omega)] at h
      have h1 : xs.any (fun x => !isPart x.data.toList) = false := by
        rw [List.any_eq_false]
        intro y hy
        simp [h y hy]
      rw [h1]
      rfl

theorem containsFunc_calls (w : World) (b c : Nat) (xs : List ByteArray) (hc : ∀ j x, xs[j]? = some x → w.cell? ⟨b, j, none⟩ = some (.string x)) (hx : ∀ x ∈ xs, x.size ≤ 1000000000) (hl : xs.length ≤ 1000000000) :
    Calls Tryd.prog 69 #[.slice (some ⟨b, 0, none⟩) xs.length c, .func (Fn.func 70) #[] #[]] w fun e w' => e = .returned (.bool (xs.any (fun x => !isPart x.data.toList))) ∧ Below w.heap.size w w' := by
  have HC := Lib.hid (indexFunc_calls w b c xs hc hx hl)
  clear hc hx
  go_enter Tryd.func69, Tryd.ntmps69
  go_wp2_with fail
  refine HC.out.mono ?_
  rintro e w1 ⟨r, rfl, h1, hb⟩
  have HB := Lib.hid (And.intro hb h1)
  clear hb h1
  go_wp2_with fail
  go_ret
  exact ⟨congrArg (fun b => Ending.returned (Value.bool b)) HB.out.2, HB.out.1⟩
end Go.Proofs.YtkgedjaihimafaaDoor

/- topic.Parts, topic.May, strings.Join: their contracts in the printed form. -/
namespace Go.Proofs.YtkgedjaihimafaaDoor
set_option linter.unusedVariables false
set_option linter.unusedSimpArgs false
open Go.RowKit Go.Proofs.YtkgedjaihimafaaDoorW.PrintWords

/-- Is a text a name? -/
def topicOk (s : ByteArray) : Bool := decide (s.size ≤ 64) && (decide ((pieces s).length ≤ 16) && (pieces s).all (fun x => isPart x.data.toList))

theorem pieces_pos (s : ByteArray) : 1 ≤ (pieces s).length := by
  have h : (pieces s).length = Lib.countB s ⟨#[47]⟩ + 1 := Lib.splitB_all ⟨#[47]⟩ (by decide) 0 _ s rfl
  omega

theorem pieces_own (w : World) (xs : List ByteArray) (hm : xs.length ≤ maxLen) : (w.alloc (.cells (xs.map Value.string).toArray 9)).ownsRow w.heap.size 9 1 (.slice (some ⟨w.heap.size, 0, none⟩) xs.length xs.length) xs.length (encs Value.string xs) := by
  have h := World.ownsRow_lit (base := w.heap.size) (e := 9) (size := 1) w (xs.map Value.string).toArray xs.length (Nat.le_refl _) hm (by simp)
  simpa [encs] using h

/-- What Parts leaves. -/
def PartsPost (w : World) (s : ByteArray) (e : Ending) (w' : World) : Prop :=
  if topicOk s = true then e = .returned (.slice (some ⟨w.heap.size, 0, none⟩) (pieces s).length (pieces s).length) ∧ w'.ownsRow w.heap.size 9 1 (.slice (some ⟨w.heap.size, 0, none⟩) (pieces s).length (pieces s).length) (pieces s).length (encs Value.string (pieces s)) ∧ Below w.heap.size w w'
  else e = .returned (.slice none 0 0) ∧ Below w.heap.size w w'

theorem splitB_sizes (sep : ByteArray) : ∀ (k : Nat) (s : ByteArray), ∀ x ∈ Lib.splitB sep 0 k s, x.size ≤ s.size
  | 0, s, x, hx => by rw [Lib.splitB_zero, List.mem_singleton] at hx; rw [hx]; exact Nat.le_refl _
  | k + 1, s, x, hx => by
    rcases Lib.indexB_cases s sep with hix | ⟨i, hix, hroom⟩
    · rw [Lib.splitB_miss sep 0 _ s hix, List.mem_singleton] at hx
      rw [hx]
      exact Nat.le_refl _
    · rw [Lib.splitB_hit sep 0 k s i hix] at hx
      rcases List.mem_cons.1 hx with rfl | h
      · rw [ByteArray.size_extract]; omega
      · have := splitB_sizes sep k _ x h
        rw [ByteArray.size_extract] at this
        omega
theorem pieces_size (s : ByteArray) : ∀ x ∈ pieces s, x.size ≤ s.size := splitB_sizes _ _ s

set_option maxHeartbeats 1000000 in
theorem parts_calls (w : World) (s : ByteArray) (hs : s.size ≤ 1000000000) : Calls Tryd.prog 57 #[.string s] w (PartsPost w s) := by
  refine of_post0 fun R hRR => ?_
  have HP := Lib.hid hRR
  clear hRR
  by_cases h64 : s.size ≤ 64
  · have b1 : decide ((64 : Int) < (s.size : Int)) = false := by rw [decide_eq_false_iff_not]; omega
    have b2 : decide (64 < s.size) = false := by rw [decide_eq_false_iff_not]; omega
    have hnew : ∀ (j : Nat) (x : ByteArray), (pieces s)[j]? = some x → (w.alloc (.cells ((pieces s).map Value.string).toArray 9)).cell? ⟨w.heap.size, j, none⟩ = some (.string x) := by
      intro j x hx
      rw [World.cell?_alloc_at _ _ _ _ rfl]
      simp [hx]
    have hps := pieces_size s
    by_cases h16 : (pieces s).length ≤ 16
    · have b3 : decide ((16 : Int) < ((pieces s).length : Int)) = false := by rw [decide_eq_false_iff_not]; omega
      have b4 : decide (16 < (pieces s).length) = false := by rw [decide_eq_false_iff_not]; omega
      have hcf := containsFunc_calls (w.alloc (.cells ((pieces s).map Value.string).toArray 9)) w.heap.size (pieces s).length (pieces s) hnew (fun x hx => by have := hps x hx; omega) (by omega)
      have hok : topicOk s = (pieces s).all (fun x => isPart x.data.toList) := by simp [topicOk, h64, h16]
      have hsp := split_calls w s (by omega)
      have HO := Lib.hid (pieces_own w (pieces s) (by unfold maxLen; omega))
      generalize hl : pieces s = l at *
      have HC := Lib.hid (And.intro hcf hsp)
      have HL := Lib.hid hl
      clear hcf hsp hnew hps h16 hl
      cases ha : l.all (fun x => isPart x.data.toList)
      · have hany : l.any (fun x => !isPart x.data.toList) = true := by rw [List.any_eq_not_all_not]; simpa using ha
        have HK := Lib.hid (And.intro (hok.trans ha) hany)
        clear hok ha hany
        go_enter Tryd.func57, Tryd.ntmps57
        go_wp2_with fail
        refine HC.out.2.mono ?_
        rintro e w1 ⟨rfl, rfl⟩
        go_wp2_with fail
        refine HC.out.1.mono ?_
        rintro e w1 ⟨rfl, hb⟩
        rw [HK.out.2]
        have HB := Lib.hid hb
        clear hb
        go_wp2_with fail
        refine HP.out _ _ ?_
        unfold PartsPost
        rw [if_neg (by rw [HK.out.1]; decide)]
        exact ⟨rfl, ((Below.refl _ _).alloc (Nat.le_refl _) _).trans (HB.out.mono (by simp))⟩
      · have hany : l.any (fun x => !isPart x.data.toList) = false := by rw [List.any_eq_not_all_not]; simpa using ha
        have HK := Lib.hid (And.intro (hok.trans ha) hany)
        clear hok ha hany
        go_enter Tryd.func57, Tryd.ntmps57
        go_wp2_with fail
        refine HC.out.2.mono ?_
        rintro e w1 ⟨rfl, rfl⟩
        go_wp2_with fail
        refine HC.out.1.mono ?_
        rintro e w1 ⟨rfl, hb⟩
        rw [HK.out.2]
        have HB := Lib.hid hb
        clear hb
        go_wp2_with fail
        refine HP.out _ _ ?_
        unfold PartsPost
        rw [if_pos HK.out.1, HL.out]
        exact ⟨rfl, pw_own_below HO.out HB.out, ((Below.refl _ _).alloc (Nat.le_refl _) _).trans (HB.out.mono (by simp))⟩
    · have hl : (pieces s).length ≤ 65 := by
        have h : (pieces s).length = Lib.countB s ⟨#[47]⟩ + 1 := Lib.splitB_all ⟨#[47]⟩ (by decide) 0 _ s rfl
        have := Lib.countB_le ⟨#[47]⟩ (by decide) s.size s (Nat.le_refl _)
        omega
      have b3 : decide ((16 : Int) < ((pieces s).length : Int)) = true := by rw [decide_eq_true_iff]; omega
      have b4 : decide (16 < (pieces s).length) = true := by rw [decide_eq_true_iff]; omega
      have hok : topicOk s = false := by simp [topicOk, h16]
      have hsp := split_calls w s (by omega)
      generalize pieces s = l at hsp b3 b4 hl
      have HK := Lib.hid (And.intro hok hsp)
      clear hok hsp hnew hps h16
      go_enter Tryd.func57, Tryd.ntmps57
      go_wp2_with fail
      refine HK.out.2.mono ?_
      rintro e w1 ⟨rfl, rfl⟩
      go_wp2_with fail
      refine HP.out _ _ ?_
      unfold PartsPost
      rw [if_neg (by rw [HK.out.1]; decide)]
      exact ⟨rfl, (Below.refl _ _).alloc (Nat.le_refl _) _⟩
  · have b1 : decide ((64 : Int) < (s.size : Int)) = true := by rw [decide_eq_true_iff]; omega
    have b2 : decide (64 < s.size) = true := by rw [decide_eq_true_iff]; omega
    have hok : topicOk s = false := by simp [topicOk, h64]
    have HK := Lib.hid hok
    clear hok h64
    go_enter Tryd.func57, Tryd.ntmps57
    go_wp2_with fail
    refine HP.out _ _ ?_
    unfold PartsPost
    rw [if_neg (by rw [HK.out]; decide)]
    exact ⟨rfl, Below.refl _ _⟩

theorem may_calls (w : World) (s : ByteArray) (hs : s.size ≤ 1000000000) : Calls Tryd.prog 38 #[.string s] w fun e w' => e = .returned (.bool (topicOk s)) ∧ Below w.heap.size w w' := by
  refine of_post0 fun R hRR => ?_
  have HP := Lib.hid hRR
  clear hRR
  have q : ∀ (w : World) (a : Option Addr) (n c n' c' : Nat), (binOp .neq 70 (.slice a n c) (.slice none n' c')).run Tryd.prog w = .ok (.bool (!a.isNone)) w := fun w a n c n' c' => run_neq_slice_nil_any w _ _ a n c n' c' Tryd.underlying70
  have HC := Lib.hid (parts_calls w s hs)
  cases hok : topicOk s
  all_goals
    have HK := Lib.hid hok
    clear hok
    go_enter Tryd.func38, Tryd.ntmps38
    go_wp2_with fail
    refine HC.out.mono ?_
    intro e w1 hp
    unfold PartsPost at hp
    rw [HK.out] at hp
    simp only [Bool.false_eq_true, if_false, if_true] at hp
  · obtain ⟨rfl, hb⟩ := hp
    have HB := Lib.hid hb
    clear hb
    go_wp2_with fail
    exact HP.out _ _ ⟨congrArg (fun b => Ending.returned (Value.bool b)) HK.out.symm, HB.out⟩
  · obtain ⟨rfl, -, hb⟩ := hp
    have HB := Lib.hid hb
    clear hb
    go_wp2_with fail
    exact HP.out _ _ ⟨congrArg (fun b => Ending.returned (Value.bool b)) HK.out.symm, HB.out⟩

namespace Given
def topic_Parts.f (a0 : ByteArray) : Option (List ByteArray) := if a0.size ≤ 1000000000 then some (if topicOk a0 = true then pieces a0 else []) else none
theorem topic_Parts.calls (a0 : ByteArray) (r : List ByteArray) (w : World) (h : topic_Parts.f a0 = some r) :
    Calls Tryd.prog 57 #[.string a0] w fun e w' => ∃ v0_ : Value, e = .returned (v0_) ∧ Kd.R Kd.string 9 w' w.heap.size (fun _ => True) v0_ r ∧ Below w.heap.size w w' := by
  unfold topic_Parts.f at h
  split at h
  · rename_i hs
    refine (parts_calls w a0 hs).mono fun e w' hp => ?_
    unfold PartsPost at hp
    injection h with h
    cases hok : topicOk a0 <;> rw [hok] at hp h <;> simp only [Bool.false_eq_true, if_false, if_true] at hp h <;> subst h
    · exact ⟨_, hp.1, Kd.R_nil _ _ _ _ _, hp.2⟩
    · exact ⟨_, hp.1, Kd.R_of_own hp.2.1 (fun _ _ => trivial), hp.2.2⟩
  · cases h
def topic_May.f (a0 : ByteArray) : Option Bool := if a0.size ≤ 1000000000 then some (topicOk a0) else none
theorem topic_May.calls (a0 : ByteArray) (r : Bool) (w : World) (h : topic_May.f a0 = some r) :
    Calls Tryd.prog 38 #[.string a0] w fun e w' => e = .returned (.bool r) ∧ Below w.heap.size w w' := by
  unfold topic_May.f at h
  split at h
  · rename_i hs
    injection h with h
    subst h
    exact may_calls w a0 hs
  · cases h
end Given
end Go.Proofs.YtkgedjaihimafaaDoor
