/- What (*Gatherer).Take does, in one: against a step over lists. New, Busy, Held. -/
import Derived.Test.YtodfahcmgmleeaaDoorBlockTake
namespace Go.Proofs.YtodfahcmgmleeaaDoor
set_option linter.unusedVariables false
set_option linter.unusedSimpArgs false
open Go.RowKit Go.Proofs.YtodfahcmgmleeaaDoorW.PrintWords

/-- What takes does: does the frame belong to a block, the fault's code, the state. -/
def gtakes (s : GSt) (ty fl st : Int) (data : List Int) : Bool × Int × GSt :=
  match s.busy with
  | false => if ty = 1 then (!decide (8192 < data.length), if 8192 < data.length then 11 else 0, ⟨st, data, bits .and .u8 fl 1 != 0, true, 0, s.bs, s.bc⟩)
    else if ty = 9 then (false, 1, s) else (false, 0, s)
  | true => if ty = 9 ∧ st = s.stream then (!(decide (8192 < s.block.length + data.length) || decide (16 < s.more + 1)), if 8192 < s.block.length + data.length ∨ 16 < s.more + 1 then 11 else 0, ⟨s.stream, s.block ++ data, s.fin, true, s.more + 1, s.bs, s.bc⟩)
    else (false, 1, s)

/-- What Take tells: a whole block or none, and a fault. -/
structure GOut where
  ok : Bool
  stream : Int
  block : List Int
  fin : Bool
  bs : Int
  bc : Int

def gtake (s : GSt) (ty fl st : Int) (data : List Int) : GOut × GSt :=
  if s.bs ≠ 0 then (⟨false, 0, [], false, s.bs, s.bc⟩, s)
  else
    let r := gtakes s ty fl st data
    if r.2.1 ≠ 0 then (⟨false, 0, [], false, 1, r.2.1⟩, ⟨0, [], false, false, r.2.2.more, 1, r.2.1⟩)
    else if r.1 = false ∨ (bits .and .u8 fl 4 == 0) = true then (⟨false, 0, [], false, 0, 0⟩, r.2.2)
    else (⟨true, r.2.2.stream, r.2.2.block, r.2.2.fin, 0, 0⟩, ⟨0, [], false, false, r.2.2.more, 0, 0⟩)

/-- What Take leaves. -/
def TakePost (w : World) (base g : Nat) (v : Value) (r : GOut × GSt) (ev : Ending) (w' : World) : Prop :=
  ∃ v2 v3, ev = .returned (.tuple #[.agg (wholeC r.1.stream v2 r.1.fin), .bool r.1.ok, .agg (faultC r.1.bs r.1.bc)]) ∧ w'.ownsRow base 5 1 v2 r.1.block.length (nums .u8 r.1.block) ∧
    IsG w' base g v3 r.2 ∧ (v2 = .slice none 0 0 ∨ v3 = .slice none 0 0) ∧ KeepBut w w' g v.ownBlock ∧ Below base w w' ∧ Fresh w v v2 ∧ Fresh w v v3

theorem TakeNo.post {w w' : World} {base g : Nat} {v : Value} {bs bc : Int} {s' : GSt} {ev : Ending} (h : TakeNo w base g v bs bc s' ev w') : TakePost w base g v (⟨false, 0, [], false, bs, bc⟩, s') ev w' := by
  obtain ⟨h1, ⟨v', h2, hf⟩, h3, h4⟩ := h
  exact ⟨_, v', h1, own_nil _ _ _ _, h2, .inl rfl, h3, h4, Fresh.nil _ _, hf⟩
theorem TakeWhole.post {w w' : World} {base g : Nat} {v : Value} {s' : GSt} {ev : Ending} (h : TakeWhole w base g v s' ev w') : TakePost w base g v (⟨true, s'.stream, s'.block, s'.fin, 0, 0⟩, ⟨0, [], false, false, s'.more, 0, 0⟩) ev w' := by
  obtain ⟨v2, h1, h2, h3, h4, h5, hf⟩ := h
  exact ⟨v2, _, h1, h2, h3, .inr rfl, h4, h5, hf, Fresh.nil _ _⟩

/-- takes, in one. -/
theorem takes_calls (w : World) (base g : Nat) (v : Value) (s : GSt) (ty fl st pad code oth wgt win : Int) (al : Bool) (A : Option Addr) (S : Value) (n c : Nat) (data : List Int)
    (hG : IsG w base g v s) (hbg : base ≤ g) (hm0 : 0 ≤ s.more) (hm1 : s.more ≤ 1000) (hsl : s.block.length ≤ 100000) (hR : ReadsInt w .u8 A n data) (hE : Elsewhere A n g) (hn : n ≤ 20000) :
    Calls Tryd.prog 38 #[.pointer (some ⟨g, 0, none⟩), frV ty fl st (.slice A n c) pad code oth wgt win al S] w
      (TakesPost w base g v (gtakes s ty fl st data).1 (gtakes s ty fl st data).2.1 (gtakes s ty fl st data).2.2) := by
  unfold gtakes
  cases hb : s.busy
  · by_cases h1 : ty = 1
    · subst h1
      simpa using takes_begin w base g v s fl st pad code oth wgt win al A S n c data hG hbg hb hR hE hn
    · by_cases h9 : ty = 9
      · simp only [h1, if_false, h9, if_true]
        exact takes_bad w base g v s 9 fl st pad code oth wgt win al _ S hG hbg (.inl ⟨hb, rfl⟩)
      · simp only [h1, if_false, h9]
        exact takes_pass w base g v s ty fl st pad code oth wgt win al _ S hG hbg hb h1 h9
  · by_cases h9 : ty = 9
    · by_cases h : st = s.stream
      · subst h9
        simp only [h, and_self, if_true]
        rw [← h]
        exact (takes_more w base g v s fl st pad code oth wgt win al A S n c data hG hbg hb h hm0 hm1 hsl hR hE hn).mono fun _ _ k => by simpa [h] using k
      · simp only [h9, h, and_false, if_false]
        exact takes_bad w base g v s 9 fl st pad code oth wgt win al _ S hG hbg (.inr (.inr ⟨hb, rfl, h⟩))
    · simp only [h9, false_and, if_false]
      exact takes_bad w base g v s ty fl st pad code oth wgt win al _ S hG hbg (.inr (.inl ⟨hb, h9⟩))

theorem gtakes_bs (s : GSt) (ty fl st : Int) (data : List Int) : (gtakes s ty fl st data).2.2.bs = s.bs ∧ (gtakes s ty fl st data).2.2.bc = s.bc := by
  unfold gtakes
  cases s.busy <;> simp only <;> repeat' split
  all_goals exact ⟨rfl, rfl⟩

theorem take_calls (w : World) (base g : Nat) (v : Value) (s : GSt) (ty fl st pad code oth wgt win : Int) (al : Bool) (A : Option Addr) (S : Value) (n c : Nat) (data : List Int)
    (hG : IsG w base g v s) (hbg : base ≤ g) (hbb : base ≤ w.heap.size) (hm0 : 0 ≤ s.more) (hm1 : s.more ≤ 1000) (hsl : s.block.length ≤ 100000) (hbc : s.bs = 0 → s.bc = 0) (hR : ReadsInt w .u8 A n data) (hE : Elsewhere A n g) (hn : n ≤ 20000)
    (hgv : GV w) (hgb : 0 < base) :
    Calls Tryd.prog 17 #[.pointer (some ⟨g, 0, none⟩), frV ty fl st (.slice A n c) pad code oth wgt win al S] w (TakePost w base g v (gtake s ty fl st data)) := by
  have hT : ∀ w2, Below w.heap.size w w2 → Calls Tryd.prog 38 #[.pointer (some ⟨g, 0, none⟩), frV ty fl st (.slice A n c) pad code oth wgt win al S] w2
      (TakesPost w2 base g v (gtakes s ty fl st data).1 (gtakes s ty fl st data).2.1 (gtakes s ty fl st data).2.2) := fun w2 hb =>
    takes_calls w2 base g v s ty fl st pad code oth wgt win al A S n c data ⟨blk_below hG.blk hb, pw_own_below hG.own hb⟩ hbg hm0 hm1 hsl (reads_keep hR (KeepBut.of_below hb g none) hE) hE hn
  unfold gtake
  by_cases h0 : s.bs = 0
  · simp only [h0, ne_eq, not_true_eq_false, if_false]
    by_cases hc : (gtakes s ty fl st data).2.1 = 0
    · rw [hc] at hT
      simp only [hc, not_true_eq_false, if_false]
      by_cases hr : (gtakes s ty fl st data).1 = false ∨ (bits .and .u8 fl 4 == 0) = true
      · rw [if_pos hr]
        exact (take_none w base g v s _ ty fl st pad code oth wgt win al _ S _ hG hbg hbb h0 (hbc h0) hr hT).mono fun _ _ h => h.post
      · rw [if_neg hr]
        have h1 : (gtakes s ty fl st data).1 = true := by cases h : (gtakes s ty fl st data).1; exact absurd (.inl h) hr; rfl
        have h2 : (bits .and .u8 fl 4 == 0) = false := by cases h : (bits .and .u8 fl 4 == 0); rfl; exact absurd (.inr h) hr
        rw [h1] at hT
        have h3 := gtakes_bs s ty fl st data
        exact (take_whole w base g v s _ ty fl st pad code oth wgt win al _ S hG hbg hbb h0 (hbc h0) h2 (h3.1.trans h0) (h3.2.trans (hbc h0)) hT).mono fun _ _ h => h.post
    · simp only [hc, not_false_eq_true, if_true]
      exact (take_bad w base g v s _ ty fl st pad code oth wgt win al _ S _ hG hbg hbb h0 (hbc h0) _ hc hgv hgb hT).mono fun _ _ h => h.post
  · simp only [ne_eq, h0, not_false_eq_true, if_true]
    exact (take_again w base g v s ty fl st pad code oth wgt win al _ S hG hbg h0).mono fun _ _ h => h.post

theorem new_g (w : World) : Calls Tryd.prog 16 #[] w fun ev w' => ∃ g, ev = .returned (.pointer (some ⟨g, 0, none⟩)) ∧ w.heap.size ≤ g ∧ IsG w' w.heap.size g (.slice none 0 0) ⟨0, [], false, false, 0, 0, 0⟩ ∧ Below w.heap.size w w' := by
  go_enter Tryd.func16, Tryd.ntmps16
  go_wp2
  go_ret
  exact ⟨_, rfl, Nat.le_refl _, ⟨blk_new _ _, own_nil _ _ _ _⟩, (Below.refl _ _).alloc (Nat.le_refl _) _⟩
theorem busy_nil (w : World) : Calls Tryd.prog 20 #[.pointer none] w fun ev w' => ev = .returned (.bool false) ∧ w = w' := by
  go_enter Tryd.func20, Tryd.ntmps20
  go_wp2
  go_ret
  exact ⟨rfl, rfl⟩
theorem busy_calls (w : World) (base g : Nat) (v : Value) (s : GSt) (hG : IsG w base g v s) :
    Calls Tryd.prog 20 #[.pointer (some ⟨g, 0, none⟩)] w fun ev w' => ev = .returned (.bool s.busy) ∧ w = w' := by
  have q3 := blk_cell hG.blk 3
  simp at q3
  go_enter Tryd.func20, Tryd.ntmps20
  go_wp2
  go_ret
  exact ⟨rfl, rfl⟩
theorem held_nil (w : World) : Calls Tryd.prog 21 #[.pointer none] w fun ev w' => ev = .returned (.int .i64 0) ∧ w = w' := by
  go_enter Tryd.func21, Tryd.ntmps21
  go_wp2
  go_ret
  exact ⟨rfl, rfl⟩
theorem held_calls (w : World) (base g : Nat) (v : Value) (s : GSt) (hG : IsG w base g v s) :
    Calls Tryd.prog 21 #[.pointer (some ⟨g, 0, none⟩)] w fun ev w' => ev = .returned (.int .i64 s.block.length) ∧ w = w' := by
  obtain ⟨A, c, rfl⟩ := own_slice hG.own
  have q1 := blk_cell hG.blk 1
  simp at q1
  go_enter Tryd.func21, Tryd.ntmps21
  go_wp2
  go_ret
  exact ⟨rfl, rfl⟩
end Go.Proofs.YtodfahcmgmleeaaDoor
