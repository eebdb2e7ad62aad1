/- The laws of package stream on three arguments: walked; each returns true, and old memory is as it was. -/
import Derived.Test.YtodfahcmgmleeaaDoorStreamFix
import Derived.Test.YtodfahcmgmleeaaDoorEq
namespace Go.Proofs.YtodfahcmgmleeaaDoor
open Go.RowKit Go.Proofs.YtodfahcmgmleeaaDoorW.PrintWords
attribute [local go_sem high] eqFault

/-- What a law comes to. -/
def LawOut (w : World) (ev : Ending) (w' : World) : Prop := ev = .returned (.bool true) ∧ Below w.heap.size w w'

theorem streamSend_walk (s k : Int) (e : Bool) (h0 : 0 ≤ s) (hk0 : 0 ≤ k) (w : World) (hg : GV w) :
    Calls Tryd.prog 7 #[.int .u8 s, .int .u8 k, .bool e] w (LawOut w) := by
  generalize hr : sendF s k e = r
  have HR := Lib.hid hr
  have HG := Lib.hid hg
  have H0 := Lib.hid (And.intro h0 hk0)
  clear hr hg h0 hk0
  go_enter Tryd.func7, Tryd.ntmps7
  go_wp2_with (first
    | (go_at_call 25; refine (Send_calls _ _ _ _).mono ?_; rw [HR.out]; rintro e w1 ⟨rfl, rfl⟩)
    | (go_at_call 26; refine (refSend_calls _ _ _ H0.out.1 H0.out.2 _).mono ?_; rw [HR.out]; rintro e w1 ⟨rfl, rfl⟩)
    | (go_at_call 22; refine (fixed11_calls _ HG.out).mono ?_; rintro e w1 ⟨rfl, hb⟩; have HB := Lib.hid hb; clear hb))
  go_ret
  exact ⟨rfl, HB.out⟩

theorem number_yes (n l : Int) (c : Bool) (a : 0 < n) (b : l < n) (d : n ≤ 2147483647) (w : World) :
    Calls Tryd.prog 23 #[.int .u32 n, .int .u32 l, .bool c] w fun ev w' => ev = .returned (.bool ((n % 2 == 1) == c)) ∧ w = w' := by
  have x1 : decide (0 < n) = true := by simpa using a
  have x2 : decide (l < n) = true := by simpa using b
  have x3 : decide (n ≤ 2147483647) = true := by simpa using d
  go_enter Tryd.func23, Tryd.ntmps23
  go_wp2
  go_ret
  exact ⟨rfl, rfl⟩
theorem number_no (n l : Int) (c : Bool) (h : ¬ (0 < n ∧ l < n ∧ n ≤ 2147483647)) (w : World) :
    Calls Tryd.prog 23 #[.int .u32 n, .int .u32 l, .bool c] w fun ev w' => ev = .returned (.bool false) ∧ w = w' := by
  by_cases a : 0 < n
  · by_cases b : l < n
    · have x1 : decide (0 < n) = true := by simpa using a
      have x2 : decide (l < n) = true := by simpa using b
      have x3 : decide (n ≤ 2147483647) = false := by rw [decide_eq_false_iff_not]; omega
      clear h
      go_enter Tryd.func23, Tryd.ntmps23
      go_wp2
      go_ret
      exact ⟨rfl, rfl⟩
    · have x1 : decide (0 < n) = true := by simpa using a
      have x2 : decide (l < n) = false := by simpa using b
      clear h
      go_enter Tryd.func23, Tryd.ntmps23
      go_wp2
      go_ret
      exact ⟨rfl, rfl⟩
  · have x1 : decide (0 < n) = false := by simpa using a
    clear h
    go_enter Tryd.func23, Tryd.ntmps23
    go_wp2
    go_ret
    exact ⟨rfl, rfl⟩

theorem streamNumber_walk (n l : Int) (c : Bool) (h0 : 0 ≤ n) (w : World) (hg : GV w) :
    Calls Tryd.prog 5 #[.int .u32 n, .int .u32 l, .bool c] w (LawOut w) := by
  have HG := Lib.hid hg
  clear hg
  by_cases h : 0 < n ∧ l < n ∧ n ≤ 2147483647
  · obtain ⟨a, b, d⟩ := h
    have x1 : (n != 0) = true := by rw [bne_iff_ne]; omega
    have x2 : decide (l < n) = true := by simpa using b
    have x3 : decide (n < 2147483648) = true := by rw [decide_eq_true_iff]; omega
    have HC := Lib.hid (fun W => number_yes n l c a b d W)
    clear a b d
    go_enter Tryd.func5, Tryd.ntmps5
    go_wp2_with (first
      | (go_at_call 23; refine (HC.out _).mono ?_; rintro e w1 ⟨rfl, rfl⟩)
      | (go_at_call 22; refine (fixed11_calls _ HG.out).mono ?_; rintro e w1 ⟨rfl, hb⟩; have HB := Lib.hid hb; clear hb))
    go_ret
    exact ⟨rfl, HB.out⟩
  · have HC := Lib.hid (fun W => number_no n l c h W)
    by_cases a : 0 < n
    · by_cases b : n ≤ 2147483647
      · have x1 : (n != 0) = true := by rw [bne_iff_ne]; omega
        have x2 : decide (l < n) = false := by rw [decide_eq_false_iff_not]; omega
        have x3 : decide (n < 2147483648) = true := by rw [decide_eq_true_iff]; omega
        clear a b h
        go_enter Tryd.func5, Tryd.ntmps5
        go_wp2_with (first
          | (go_at_call 23; refine (HC.out _).mono ?_; rintro e w1 ⟨rfl, rfl⟩)
          | (go_at_call 22; refine (fixed11_calls _ HG.out).mono ?_; rintro e w1 ⟨rfl, hb⟩; have HB := Lib.hid hb; clear hb))
        go_ret
        exact ⟨rfl, HB.out⟩
      · have x1 : (n != 0) = true := by rw [bne_iff_ne]; omega
        have x3 : decide (n < 2147483648) = false := by rw [decide_eq_false_iff_not]; omega
        clear a b h
        go_enter Tryd.func5, Tryd.ntmps5
        go_wp2_with (first
          | (go_at_call 23; refine (HC.out _).mono ?_; rintro e w1 ⟨rfl, rfl⟩)
          | (go_at_call 22; refine (fixed11_calls _ HG.out).mono ?_; rintro e w1 ⟨rfl, hb⟩; have HB := Lib.hid hb; clear hb))
        go_ret
        exact ⟨rfl, HB.out⟩
    · obtain rfl : n = 0 := by omega
      clear h a
      go_enter Tryd.func5, Tryd.ntmps5
      go_wp2_with (first
        | (go_at_call 23; refine (HC.out _).mono ?_; rintro e w1 ⟨rfl, rfl⟩)
        | (go_at_call 22; refine (fixed11_calls _ HG.out).mono ?_; rintro e w1 ⟨rfl, hb⟩; have HB := Lib.hid hb; clear hb))
      go_ret
      exact ⟨rfl, HB.out⟩

/-! ### StreamIgnored -/
theorem chain3 {w w1 w2 w3 : World} (o1 o2 : Obj) (h1 : Below w.heap.size w w1) (h2 : Below (w1.alloc o1).heap.size (w1.alloc o1) w2) (h3 : Below (w2.alloc o2).heap.size (w2.alloc o2) w3) : Below w.heap.size w w3 := by
  have z1 := h1.size
  have z2 := h2.size
  simp at z2
  exact ((((h1.alloc z1 _).trans (h2.mono (by simp; omega))).alloc (by omega) _)).trans (h3.mono (by simp; omega))

set_option maxHeartbeats 2000000 in
set_option maxRecDepth 100000 in
theorem ignored_core (s k r1 r2 r3 t1 p2 p3 : Int) (e t2 : Bool)
    (hs : s = 0 ∨ s = 1 ∨ ((s == 0) = false ∧ (s == 1) = false ∧ (s != 0) = true ∧ (s != 1) = true ∧ (r1 == 1) = false ∧ (t1 != 1) = true))
    (h6 : (decide (s ≤ 6) = true ∧ p2 = 0 ∧ p3 = 0) ∨ decide (s ≤ 6) = false)
    (hr : (r2 = 0 ∧ r3 = 0) ∨ ((r2 == 0) = false ∧ r1 = s)) (ht : t2 = true ∨ (t2 = false ∧ t1 = s)) (w : World) (hg : GV w)
    (C0 : ∀ W, GV W → Calls Tryd.prog 27 #[.int .u8 s, .int .u8 2, .bool e] W (ComeOut (s, p2, p3) W))
    (C1 : ∀ W, GV W → Calls Tryd.prog 27 #[.int .u8 s, .int .u8 k, .bool e] W (ComeOut (r1, r2, r3) W))
    (C2 : ∀ W, Calls Tryd.prog 25 #[.int .u8 s, .int .u8 k, .bool e] W (SendOut (t1, t2) W)) :
    Calls Tryd.prog 10 #[.int .u8 s, .int .u8 k, .bool e] w (LawOut w) := by
  have HC0 := Lib.hid C0
  have HC1 := Lib.hid C1
  have HC2 := Lib.hid C2
  have HG := Lib.hid hg
  clear C0 C1 C2 hg
  rcases hs with rfl | rfl | ⟨a1, a2, a3, a4, a5, a6⟩ <;> rcases h6 with ⟨a7, rfl, rfl⟩ | a7 <;> rcases hr with ⟨rfl, rfl⟩ | ⟨a8, rfl⟩ <;> rcases ht with rfl | ⟨rfl, rfl⟩ <;> first | exact absurd a7 (by decide) | skip
  all_goals
  (go_enter Tryd.func10, Tryd.ntmps10
   go_wp2_with fail
   refine (HC0.out _ HG.out).mono ?_
   rintro e w1 ⟨rfl, hb1⟩
   have HB1 := Lib.hid hb1
   clear hb1
   go_wp2_with fail
   refine (HC1.out _ ((HG.out.below HB1.out).below ((Below.refl _ _).alloc (Nat.le_refl _) _))).mono ?_
   rintro e w2 ⟨rfl, hb2⟩
   have HB2 := Lib.hid hb2
   clear hb2
   go_wp2_with fail
   all_goals
     (refine (HC2.out _).mono ?_
      rintro e w3 ⟨rfl, rfl⟩
      go_wp2_with fail
      refine (fixed11_calls _ ((((HG.out.below HB1.out).below ((Below.refl _ _).alloc (Nat.le_refl _) _)).below HB2.out).below ((Below.refl _ _).alloc (Nat.le_refl _) _))).mono ?_
      rintro e w4 ⟨rfl, hb3⟩
      have HB3 := Lib.hid hb3
      clear hb3
      go_wp2_with fail
      all_goals
        (go_ret
         exact ⟨rfl, chain3 _ _ HB1.out HB2.out HB3.out⟩)))

theorem streamIgnored_walk (s k : Int) (e : Bool) (h0 : 0 ≤ s) (w : World) (hg : GV w) :
    Calls Tryd.prog 10 #[.int .u8 s, .int .u8 k, .bool e] w (LawOut w) := by
  obtain ⟨r1, r2, r3, hr⟩ : ∃ r1 r2 r3, comeF s k e = (r1, r2, r3) := ⟨_, _, _, rfl⟩
  obtain ⟨t1, t2, ht⟩ : ∃ t1 t2, sendF s k e = (t1, t2) := ⟨_, _, rfl⟩
  have f1 := comeF_fault s k e
  have f2 := comeF_open s k e
  have f3 := sendF_open s k e
  have f4 := sendF_no s k e
  rw [hr] at f1 f2
  rw [ht] at f3 f4
  have C1 := fun W (h : GV W) => Come_calls s k e h0 W h
  rw [hr] at C1
  have C2 := fun W => Send_calls s k e W
  rw [ht] at C2
  have C0 := fun W (h : GV W) => Come_calls s 2 e h0 W h
  refine ignored_core s k r1 r2 r3 t1 (comeF s 2 e).2.1 (comeF s 2 e).2.2 e t2 ?_ ?_ ?_ ?_ w hg ?_ C1 C2
  · by_cases a : s = 0
    · exact .inl a
    by_cases b : s = 1
    · exact .inr (.inl b)
    · refine .inr (.inr ⟨by simpa using a, by simpa using b, by simpa using a, by simpa using b, ?_, ?_⟩)
      · rw [beq_eq_false_iff_ne]; intro h; have := f2 h; omega
      · rw [bne_iff_ne]; intro h; have := f3 h; omega
  · by_cases h : s ≤ 6
    · have : ¬ 6 < s := by omega
      exact .inl ⟨by simpa using h, by simp [comeF, this], by simp [comeF, this]⟩
    · exact .inr (by simpa using h)
  · rcases f1 with ⟨h1, h2⟩ | ⟨h1, h2⟩
    · exact .inl ⟨h1, h2⟩
    · exact .inr ⟨by simpa using h1, h2⟩
  · cases t2
    · exact .inr ⟨rfl, f4 rfl⟩
    · exact .inl rfl
  · intro W h
    have h3 : (comeF s 2 e).1 = s := by
      by_cases h6 : 6 < s <;> simp [comeF, h6]
    have := C0 W h
    generalize comeF s 2 e = p at h3 this ⊢
    obtain ⟨p1, p2, p3⟩ := p
    subst h3
    exact this
end Go.Proofs.YtodfahcmgmleeaaDoor
