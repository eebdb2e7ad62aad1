/- What package fault's functions do: New, Conn, Stream, Wrap make errors; Of finds an error's fault, however often it was wrapped. -/
import Derived.Test.YtodfahcmgmleeaaDoorAs
namespace Go.Proofs.YtodfahcmgmleeaaDoor
set_option linter.unusedVariables false
set_option linter.unusedSimpArgs false
open Go.RowKit Go.Proofs.YtodfahcmgmleeaaDoorW.PrintWords Go.Extern.Stop Go.Stop Go.Extern

theorem of_nil (w : World) : Calls Tryd.prog 39 #[.nilIface] w fun ev w' => ev = .returned (.agg #[.int .u8 0, .int .u32 0]) ∧ Below w.heap.size w w' := by
  go_enter Tryd.func39, Tryd.ntmps39
  go_wp2
  exact bodyPost_ret (v := .agg #[.int .u8 0, .int .u32 0]) (by simp [results, Tryd.results39, go_sem]) rfl ⟨rfl, ((Below.refl _ _).alloc (Nat.le_refl _) _).alloc (by simp) _⟩

set_option maxHeartbeats 1000000 in
theorem of_err (n : Nat) (e : Value) (s c : Int) (w : World) (hg : GV w) (hE : Err w n e s c) :
    Calls Tryd.prog 39 #[e] w fun ev w' => ev = .returned (.agg #[.int .u8 s, .int .u32 c]) ∧ Below w.heap.size w w' := by
  have hb2 : Below w.heap.size w ((w.alloc (.cells #[.int .u8 0, .int .u32 0] 36)).alloc (.cells #[.pointer none] 86)) := ((Below.refl _ _).alloc (Nat.le_refl _) _).alloc (by simp) _
  have HC := Lib.hid (as_calls n e s c ⟨w.heap.size + 1, 0, none⟩ _ (hg.below hb2) (hE.below hb2) (by simp) (by simp))
  have HB2 := Lib.hid hb2
  obtain ⟨T, p, rfl⟩ := hE.form
  clear hE hg hb2
  go_enter Tryd.func39, Tryd.ntmps39
  go_wp2_with (go_at_call 54; refine HC.out.mono ?_; rintro e w1 ⟨rfl, b, h1, h2, h3, hbel⟩; have c0 : w1.cell? ⟨w.heap.size, 0, none⟩ = some (.int .u8 0) := (hbel.cell (by simp)).trans (by simp); have c1 : w1.cell? ⟨w.heap.size, 1, none⟩ = some (.int .u32 0) := (hbel.cell (by simp)).trans (by simp); have f0 : w1.frozen? ⟨w.heap.size, 0, none⟩ = false := (hbel.frozen (by simp)).trans (by simp); have f1 : w1.frozen? ⟨w.heap.size, 1, none⟩ = false := (hbel.frozen (by simp)).trans (by simp); have HX := Lib.hid hbel; clear hbel)
  have hblk : w1.heap[w.heap.size]? = some (.cells #[.int .u8 0, .int .u32 0] 36 (0, 0)) := (HX.out.block _ (Nat.lt_succ_self _)).trans (blk_alloc (blk_new w _) _)
  refine bodyPost_ret (results_cell_row rfl _ _ w.heap.size 36 #[.int .u8 s, .int .u32 c] (0, 0) _ rfl (blk_set (blk_set hblk 0 _) 1 _) Tryd.underlying36 rfl (by kernel_rfl)) rfl ⟨rfl, ?_⟩
  exact ((HB2.out.trans (HX.out.mono (Nat.le_succ _))).setCell (Nat.le_refl _) _).setCell (Nat.le_refl _) _

/-! ### making errors -/
theorem new_calls (s c : Int) (h1 : 0 < s) (h2 : s < 4) (w : World) :
    Calls Tryd.prog 55 #[.agg #[.int .u8 s, .int .u32 c]] w fun ev w' => ∃ v, ev = .returned v ∧ Below w.heap.size w w' ∧ Err w' 0 v s c := by
  have hn : (s == 0) = false := by rw [beq_eq_false_iff_ne]; omega
  have hg : decide (3 < s) = false := by rw [decide_eq_false_iff_not]; omega
  go_enter Tryd.func55, Tryd.ntmps55
  go_wp2
  go_ret
  exact ⟨_, rfl, ((Below.refl _ _).alloc (Nat.le_refl _) _).alloc (by simp) _, _, rfl, by simp, by simp⟩
theorem conn_calls (c : Int) (w : World) :
    Calls Tryd.prog 43 #[.int .u32 c] w fun ev w' => ∃ v, ev = .returned v ∧ Below w.heap.size w w' ∧ Err w' 0 v 1 c := by
  go_enter Tryd.func43, Tryd.ntmps43
  go_wp2_with (go_at_call 55; refine (new_calls 1 c (by decide) (by decide) _).mono ?_; rintro e w1 ⟨v, rfl, hb, hE⟩; have HX := Lib.hid (And.intro hb hE); clear hb hE)
  go_ret
  exact ⟨_, rfl, HX.out⟩
theorem stream_calls (c : Int) (w : World) :
    Calls Tryd.prog 57 #[.int .u32 c] w fun ev w' => ∃ v, ev = .returned v ∧ Below w.heap.size w w' ∧ Err w' 0 v 2 c := by
  go_enter Tryd.func57, Tryd.ntmps57
  go_wp2_with (go_at_call 55; refine (new_calls 2 c (by decide) (by decide) _).mono ?_; rintro e w1 ⟨v, rfl, hb, hE⟩; have HX := Lib.hid (And.intro hb hE); clear hb hE)
  go_ret
  exact ⟨_, rfl, HX.out⟩
theorem wrap_nil (s : ByteArray) (w : World) : Calls Tryd.prog 40 #[.string s, .nilIface] w fun ev w' => ev = .returned .nilIface ∧ w = w' := by
  go_enter Tryd.func40, Tryd.ntmps40
  go_wp2
  go_ret
  exact ⟨rfl, rfl⟩
theorem wrap_err (n : Nat) (s : ByteArray) (e : Value) (sc c : Int) (w : World) (hE : Err w n e sc c) :
    Calls Tryd.prog 40 #[.string s, e] w fun ev w' => ∃ v, ev = .returned v ∧ Below w.heap.size w w' ∧ Err w' (n + 1) v sc c := by
  have HE := Lib.hid hE
  obtain ⟨T, p, rfl⟩ := hE.form
  clear hE
  go_enter Tryd.func40, Tryd.ntmps40
  go_wp2
  go_ret
  have hb := (Below.refl w.heap.size w).alloc (Nat.le_refl _) (.cells #[.string s, .iface T (.pointer (some ⟨p, 0, none⟩))] 93)
  exact ⟨_, rfl, hb, w.heap.size, .string s, .iface T (.pointer (some ⟨p, 0, none⟩)), rfl, by simp, by simp, HE.out.below hb⟩

/-! ### an error or none -/
/-- None (scope and code 0), or an error in memory. -/
def EO (w : World) (v : Value) (s c : Int) : Prop := s = 0 ∧ c = 0 ∧ v = .nilIface ∨ ∃ n, Err w n v s c
theorem EO.none_ (w : World) : EO w .nilIface 0 0 := .inl ⟨rfl, rfl, rfl⟩
theorem EO.some_ {w : World} {n : Nat} {v : Value} {s c : Int} (h : Err w n v s c) : EO w v s c := .inr ⟨n, h⟩
theorem EO.below {w w1 : World} {v : Value} {s c : Int} (h : EO w v s c) (hb : Below w.heap.size w w1) : EO w1 v s c := h.imp id fun ⟨n, hn⟩ => ⟨n, hn.below hb⟩
theorem wrap_eo (x : ByteArray) (v : Value) (s c : Int) (w : World) (h : EO w v s c) :
    Calls Tryd.prog 40 #[.string x, v] w fun ev w' => ∃ v', ev = .returned v' ∧ Below w.heap.size w w' ∧ EO w' v' s c := by
  rcases h with ⟨rfl, rfl, rfl⟩ | ⟨n, h⟩
  · exact (wrap_nil x w).mono fun _ _ ⟨he, hw⟩ => ⟨_, he, hw ▸ Below.refl _ _, .inl ⟨rfl, rfl, rfl⟩⟩
  · exact (wrap_err n x v s c w h).mono fun _ _ ⟨v', he, hb, hE⟩ => ⟨v', he, hb, .inr ⟨_, hE⟩⟩
theorem of_eo (v : Value) (s c : Int) (w : World) (hg : GV w) (h : EO w v s c) :
    Calls Tryd.prog 39 #[v] w fun ev w' => ev = .returned (.agg #[.int .u8 s, .int .u32 c]) ∧ Below w.heap.size w w' := by
  rcases h with ⟨rfl, rfl, rfl⟩ | ⟨n, h⟩
  · exact of_nil w
  · exact of_err n v s c w hg h
theorem blk2 {w : World} {g : Nat} {t : TypeId} {a b : Value} (h : w.heap[g]? = some (.cells #[a, b] t (0, 0))) :
    w.cell? ⟨g, 0, none⟩ = some a ∧ w.cell? ⟨g, 1, none⟩ = some b ∧ w.frozen? ⟨g, 0, none⟩ = false ∧ w.frozen? ⟨g, 1, none⟩ = false :=
  ⟨blk_cell h 0, blk_cell h 1, blk_frozen h 0, blk_frozen h 1⟩
end Go.Proofs.YtodfahcmgmleeaaDoor
