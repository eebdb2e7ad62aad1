/- Errors with the places by which they were wrapped; fault.Where. -/
import Derived.Test.YtjjfkmniffbgkaaDoorFault01
import Derived.Test.YtjjfkmniffbgkaaDoorMem2
namespace Go.Proofs.YtjjfkmniffbgkaaDoor
set_option linter.unusedVariables false
set_option linter.unusedSimpArgs false
open Go.RowKit Go.Proofs.YtjjfkmniffbgkaaDoorW.PrintWords Go.Extern.Stop Go.Stop Go.Extern

/-- An error that lies in memory, with the places by which it was wrapped, the last one first. -/
def ErrT (w : World) : List ByteArray → Value → Int → Int → Prop
  | [], e, s, c => Err w 0 e s c
  | x :: l, e, s, c => ∃ b e', e = .iface 82 (.pointer (some ⟨b, 0, none⟩)) ∧ w.cell? ⟨b, 0, none⟩ = some (.string x) ∧ w.cell? ⟨b, 1, none⟩ = some e' ∧ ErrT w l e' s c
theorem ErrT.err {w : World} : ∀ {l : List ByteArray} {e : Value} {s c : Int}, ErrT w l e s c → Err w l.length e s c
  | [], _, _, _, h => h
  | _ :: _, _, _, _, ⟨b, e', he, h0, h1, h⟩ => ⟨b, _, e', he, h0, h1, h.err⟩
theorem ErrT.below {w w1 : World} (hb : Below w.heap.size w w1) : ∀ {l : List ByteArray} {e : Value} {s c : Int}, ErrT w l e s c → ErrT w1 l e s c
  | [], _, _, _, h => Err.below (n := 0) hb h
  | _ :: _, _, _, _, ⟨b, e', he, h0, h1, h⟩ => ⟨b, e', he, cell_below hb h0, cell_below hb h1, ErrT.below hb h⟩
theorem wrap_errT (x : ByteArray) (l : List ByteArray) (e : Value) (s c : Int) (w : World) (hE : ErrT w l e s c) :
    Calls Tryd.prog 15 #[.string x, e] w fun ev w' => ∃ v, ev = .returned v ∧ Below w.heap.size w w' ∧ ErrT w' (x :: l) v s c := by
  have HE := Lib.hid hE
  obtain ⟨T, p, rfl⟩ := hE.err.form
  clear hE
  go_enter Tryd.func15, Tryd.ntmps15
  go_wp2
  go_ret
  have hb := (Below.refl w.heap.size w).alloc (Nat.le_refl _) (.cells #[.string x, .iface T (.pointer (some ⟨p, 0, none⟩))] 84)
  exact ⟨_, rfl, hb, w.heap.size, .iface T (.pointer (some ⟨p, 0, none⟩)), rfl, by simp, by simp, HE.out.below hb⟩

theorem Tryd.info9 : (Tryd.prog.info? 9).map (fun i => (i.zero, i.size, i.bytes)) = some (some (.string ⟨#[]⟩), 1, 16) := by kernel_rfl

theorem Tryd.taW (v : Value) (xT : TypeId) (w : World) : (Instr.typeAssert (.iface 82 v) xT 82 true).run Tryd.prog w = .ok (.tuple #[v, .bool true]) w := by kernel_rfl
theorem Tryd.taB (v : Value) (xT : TypeId) (w : World) : (Instr.typeAssert (.iface 79 v) xT 82 true).run Tryd.prog w = .ok (.tuple #[.pointer none, .bool false]) w := by kernel_rfl
theorem Tryd.taN (xT : TypeId) (w : World) : (Instr.typeAssert .nilIface xT 82 true).run Tryd.prog w = .ok (.tuple #[.pointer none, .bool false]) w := by kernel_rfl
/-- Where's loop: what is left of the places, what was told. -/
def WhereRel (w : World) (l : List ByteArray) (s c : Int) (k : Nat) (err out : Value) (wr : World) : Prop :=
  ∃ l1 l2, l = l1 ++ l2 ∧ l2.length = k ∧ ErrT w l2 err s c ∧ wr.ownsRow w.heap.size 9 1 out l1.length (encs Value.string l1) ∧ Below w.heap.size w wr
theorem where_nil (w : World) : Calls Tryd.prog 16 #[.nilIface] w fun ev w' => ev = .returned (.slice none 0 0) ∧ w = w' := by
  have tW := Tryd.taW
  have tB := Tryd.taB
  have tN := Tryd.taN
  go_enter Tryd.func16, Tryd.ntmps16
  go_wp2
  refine wp_loop_rounds 1 ?_
  rw [rounds_succ]
  go_wp2
  go_ret
  exact ⟨rfl, rfl⟩
set_option maxHeartbeats 1000000 in
set_option maxRecDepth 100000 in
theorem where_calls (l : List ByteArray) (e : Value) (s c : Int) (w : World) (hE : ErrT w l e s c) (hl : l.length ≤ 100000) :
    Calls Tryd.prog 16 #[e] w fun ev w' => ∃ v, ev = .returned v ∧ w'.ownsRow w.heap.size 9 1 v l.length (encs Value.string l) ∧ Below w.heap.size w w' := by
  refine of_post0 fun R hRR => ?_
  have HP := Lib.hid hRR
  have HE := Lib.hid hE
  clear hRR hE
  have tW := Tryd.taW
  have tB := Tryd.taB
  have tN := Tryd.taN
  go_enter Tryd.func16, Tryd.ntmps16
  go_wp2
  go_loopg [0, 3] l.length (fun k err out wr => WhereRel w l s c k err out wr)
  case atStart => exact ⟨[], l, rfl, rfl, HE.out, own_nil _ _ _ _, Below.refl _ _⟩
  case round =>
    obtain ⟨l1, l2, hll, hk, hE1, hO, hB⟩ := hrel
    cases l2 with
    | nil =>
      obtain ⟨b, rfl, h0, h1⟩ := hE1
      have HX := Lib.hid (And.intro hO hB)
      have HL := Lib.hid hll
      clear hO hB h0 h1 hll hk
      go_wp2_with fail
      have hl1 := HL.out
      rw [List.append_nil] at hl1
      subst hl1
      exact HP.out _ _ ⟨_, rfl, HX.out.1, HX.out.2⟩
    | cons x l2 =>
      obtain ⟨b, e', rfl, h0, h1, hE2⟩ := hE1
      obtain ⟨T, p, rfl⟩ := hE2.err.form
      have hlen : l1.length + l2.length + 1 = l.length := by rw [hll]; simp; omega
      have hb0 : b < w.heap.size := World.block_lt_of_cell? w _ h1
      have c0 := cell_below hB h0
      have c1 := cell_below hB h1
      have HX := Lib.hid (And.intro hO hB)
      have HE2 := Lib.hid (And.intro hE2 (And.intro c1 (And.intro hlen hb0)))
      have HL := Lib.hid hll
      have hk2 : l2.length + 1 = gk := by simpa using hk
      have HK := Lib.hid hk2
      have hbs : w.heap.size ≤ wr.heap.size := hB.size
      clear hO hB hll hk hlen hk2 hE2 h0 h1 hb0
      go_wp2_with (at_builtin; refine print_append_of (w0 := wr) Value.string w.heap.size (by rfl) (.tmp 11) (.tmp 16) 25 9 (.string ⟨#[]⟩) 16 (by rfl) Tryd.underlying25 Tryd.info9 (by rfl) (by decide) u3 l1 x (by rfl) (by rfl) (by rfl) HX.out.1 (Below.refl _ _) hbs (by have := HE2.out.2.2.1; omega) ?_; intro v1 w2 hown hbel hgrow hat; have c2 := (hbel.cell (p := ⟨b, 1, none⟩) HE2.out.2.2.2).trans HE2.out.2.1; have HW := Lib.hid (And.intro hown hbel); clear hown hbel hgrow hat)
      go_roundg l2.length
      case measure => have := HK.out; omega
      case rel => exact ⟨l1 ++ [x], l2, by rw [HL.out]; simp, rfl, HE2.out.1, HW.out.1, HX.out.2.trans HW.out.2⟩
end Go.Proofs.YtjjfkmniffbgkaaDoor
