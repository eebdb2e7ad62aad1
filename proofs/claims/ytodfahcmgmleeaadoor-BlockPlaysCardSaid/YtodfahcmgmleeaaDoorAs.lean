/- What package fault's functions do: New, Conn, Stream, Wrap make errors; Of finds an error's fault through errors.As, however often it was wrapped. No condition but that the error's cells are there. -/
import Derived.Test.YtodfahcmgmleeaaDoorProg
import Derived.WalkKit
import Derived.LaidEql
import Derived.Stop.Asserts
import Derived.RowKitTokens
import Derived.Below
import Derived.WideLaws
import Derived.Deep.LoopGhost
import Derived.Lib.Hide
import Derived.Test.YtodfahcmgmleeaaDoorWWords
namespace Go.Proofs.YtodfahcmgmleeaaDoor
set_option linter.unusedVariables false
set_option linter.unusedSimpArgs false
open Go.RowKit Go.Proofs.YtodfahcmgmleeaaDoorW.PrintWords Go.Extern.Stop Go.Stop Go.Extern

/-! ### closed facts on the model's entries for internal/reflectlite at this program's types -/
abbrev hOf (t : Nat) : Value := .pointer (some ⟨4, t, none⟩)
theorem Tryd.valueOfPP (t : Addr) (w : World) : (ReflectliteValue.unpack (.iface 88 (.pointer (some t)))).run Tryd.prog w
    = .ok (.agg #[hOf 88, .pointer (some ⟨w.heap.size, 0, none⟩), .int .u64 150]) (w.alloc (.cells #[.pointer (some t)] 88)) := by kernel_rfl
theorem Tryd.typePP (a : Addr) (w : World) : (ReflectliteValue.methodAny (ReflectliteValue.valueError "reflectlite.Value.Type" 0) (fun t _ _ _ => ReflectliteType.toType t) #[.agg #[hOf 88, .pointer (some a), .int .u64 150]]).run Tryd.prog w
    = .ok (.iface 121 (.agg #[hOf 88])) w := by kernel_rfl
theorem Tryd.methodKind (h : Value) (w : World) : (Go.method 276 121 (.agg #[h]) "Kind").run Tryd.prog w = .ok (104, h) w := by kernel_rfl
theorem Tryd.kindPP (w : World) : ((ReflectliteType.abiMethod fun t => (fun a : Nat => Value.int IntKind.u8 (a : Int)) <$> Rtype.kind t) #[hOf 88]).run Tryd.prog w = .ok (.int .u8 22) w := by kernel_rfl
theorem Tryd.kindP (w : World) : ((ReflectliteType.abiMethod fun t => (fun a : Nat => Value.int IntKind.u8 (a : Int)) <$> Rtype.kind t) #[hOf 86]).run Tryd.prog w = .ok (.int .u8 22) w := by kernel_rfl

theorem rlm (z : Sem Value) (f : TypeId → Addr → Nat → Nat → Sem Value) (v : Value) :
    ReflectliteValue.method z f #[v] = (do match ← ReflectliteValue.parts v with | none => z | some (t, a, fl) => f t a fl (fl % 32)) := rfl
theorem Tryd.partsPP (a : Addr) (w : World) : (ReflectliteValue.parts (.agg #[hOf 88, .pointer (some a), .int .u64 150])).run Tryd.prog w = .ok (some (88, a, 150)) w := by kernel_rfl
theorem Tryd.isNilPP (a p : Addr) (W : World) (ha : W.cell? a = some (.pointer (some p))) :
    (ReflectliteValue.method (ReflectliteValue.valueError "reflectlite.Value.IsNil" 0) ReflectliteValue.isNil #[.agg #[hOf 88, .pointer (some a), .int .u64 150]]).run Tryd.prog W = .ok (.bool false) W := by
  rw [rlm]
  simp only [Sem.run_bind, Tryd.partsPP, Result.andThen]
  simp [ReflectliteValue.isNil, loadVar, isAgg, underlying, Tryd.underlying88, ha, Result.andThen]

theorem Tryd.methodElem (h : Value) (w : World) : (Go.method 276 121 (.agg #[h]) "Elem").run Tryd.prog w = .ok (117, .agg #[h]) w := by kernel_rfl
theorem Tryd.methodImplements (h : Value) (w : World) : (Go.method 276 121 (.agg #[h]) "Implements").run Tryd.prog w = .ok (118, .agg #[h]) w := by kernel_rfl
theorem Tryd.methodAssignableTo (h : Value) (w : World) : (Go.method 276 121 (.agg #[h]) "AssignableTo").run Tryd.prog w = .ok (115, .agg #[h]) w := by kernel_rfl
theorem Tryd.elemPP (w : World) : (ReflectliteType.method ReflectliteType.elem #[.agg #[hOf 88]]).run Tryd.prog w = .ok (.iface 121 (.agg #[hOf 86])) w := by kernel_rfl
theorem Tryd.implementsP (w : World) : (ReflectliteType.relation "Implements" ReflectliteType.implements_ #[.agg #[hOf 86], .iface 121 (.agg #[hOf 73])]).run Tryd.prog w = .ok (.bool true) w := by kernel_rfl
theorem Tryd.typeOfP (v : Value) (w : World) : (ReflectliteType.typeOf #[.iface 86 v]).run Tryd.prog w = .ok (.iface 121 (.agg #[hOf 86])) w := by kernel_rfl
theorem Tryd.typeOfW (v : Value) (w : World) : (ReflectliteType.typeOf #[.iface 91 v]).run Tryd.prog w = .ok (.iface 121 (.agg #[hOf 91])) w := by kernel_rfl
theorem Tryd.assignableP (w : World) : (ReflectliteType.relation "AssignableTo" ReflectliteType.assignableTo #[.agg #[hOf 86], .iface 121 (.agg #[hOf 86])]).run Tryd.prog w = .ok (.bool true) w := by kernel_rfl
theorem Tryd.assignableW (w : World) : (ReflectliteType.relation "AssignableTo" ReflectliteType.assignableTo #[.agg #[hOf 91], .iface 121 (.agg #[hOf 86])]).run Tryd.prog w = .ok (.bool false) w := by kernel_rfl
theorem Tryd.valueOfP (e : Addr) (w : World) : (ReflectliteValue.unpack (.iface 86 (.pointer (some e)))).run Tryd.prog w
    = .ok (.agg #[hOf 86, .pointer (some ⟨w.heap.size, 0, none⟩), .int .u64 150]) (w.alloc (.cells #[.pointer (some e)] 86)) := by kernel_rfl
theorem Tryd.elemOfPP (w : World) : (Rtype.elem? 88).run Tryd.prog w = .ok (some 86) w := by kernel_rfl
theorem Tryd.mkP (p : Addr) (w : World) : (ReflectliteValue.mk 86 p ReflectliteValue.flagAddr).run Tryd.prog w = .ok (.agg #[hOf 86, .pointer (some p), .int .u64 406]) w := by kernel_rfl
theorem Tryd.elemVPP (a p : Addr) (W : World) (ha : W.cell? a = some (.pointer (some p))) :
    (ReflectliteValue.method (ReflectliteValue.valueError "reflectlite.Value.Elem" 0) ReflectliteValue.elem #[.agg #[hOf 88, .pointer (some a), .int .u64 150]]).run Tryd.prog W
      = .ok (.agg #[hOf 86, .pointer (some p), .int .u64 406]) W := by
  rw [rlm]
  simp only [Sem.run_bind, Tryd.partsPP, Result.andThen]
  simp [ReflectliteValue.elem, loadVar, isAgg, underlying, Tryd.underlying88, ha, Result.andThen, Tryd.elemOfPP, Tryd.mkP]
theorem rls (v x : Value) : ReflectliteValue.set #[v, x] = (do
    let (some (dst, a, fl), some (src, b, _)) := (← ReflectliteValue.parts v, ← ReflectliteValue.parts x)
      | unsupported (.noEntry "extern/(internal/reflectlite.Value).Set.zeroValue")
    if fl / ReflectliteValue.flagAddr % 2 == 0 then unsupported (.noEntry "extern/(internal/reflectlite.Value).Set.unaddressable")
    let val ← loadVar src b
    if ← Rtype.directlyAssignable dst src then storeVar dst a val
    else if ← Rtype.implements dst src then
      if (← Rtype.kind src) == 20 then
        match val with
        | .nilIface => unsupported (.noEntry "extern/reflectlite: a nil value of one interface type handed on as a value of another")
        | _ => storeVar dst a val
      else storeVar dst a (.iface src val)
    else panicString ("reflectlite.Set: value of type " ++ (← Rtype.spelt src) ++ " is not assignable to type " ++ (← Rtype.spelt dst))
    pure (.tuple #[])) := rfl
theorem Tryd.partsPa (a : Addr) (w : World) : (ReflectliteValue.parts (.agg #[hOf 86, .pointer (some a), .int .u64 406])).run Tryd.prog w = .ok (some (86, a, 406)) w := by kernel_rfl
theorem Tryd.partsP (a : Addr) (w : World) : (ReflectliteValue.parts (.agg #[hOf 86, .pointer (some a), .int .u64 150])).run Tryd.prog w = .ok (some (86, a, 150)) w := by kernel_rfl
theorem Tryd.directP (w : World) : (Rtype.directlyAssignable 86 86).run Tryd.prog w = .ok true w := by kernel_rfl
theorem Tryd.setP (ta b e : Addr) (old : Value) (W : World) (hb : W.cell? b = some (.pointer (some e))) (ht : W.cell? ta = some old) (hf : W.frozen? ta = false) :
    (ReflectliteValue.set #[.agg #[hOf 86, .pointer (some ta), .int .u64 406], .agg #[hOf 86, .pointer (some b), .int .u64 150]]).run Tryd.prog W
      = .ok (.tuple #[]) (W.setCell ta (.pointer (some e))) := by
  rw [rls]
  simp only [Sem.run_bind, Tryd.partsPa, Tryd.partsP, Result.andThen]
  simp [ReflectliteValue.flagAddr, loadVar, isAgg, underlying, Tryd.underlying86, hb, Result.andThen, Tryd.directP, storeVar, Value.cells, storeCells, Addr.add]
  rw [run_store Tryd.prog W ta _ _ (by rfl)]
  simp [ht, hf]
theorem Tryd.wNoAs (v : Value) (xT : TypeId) (w : World) : (Instr.typeAssert (.iface 91 v) xT 126 true).run Tryd.prog w = .ok (.tuple #[.nilIface, .bool false]) w :=
  run_typeAssert_lacksB Tryd.underlying126 (by kernel_rfl) (by kernel_rfl) v xT w
theorem Tryd.wUnwraps (v : Value) (xT : TypeId) (w : World) : (Instr.typeAssert (.iface 91 v) xT 129 true).run Tryd.prog w = .ok (.tuple #[.iface 91 v, .bool true]) w :=
  run_typeAssert_hasB Tryd.underlying129 (by kernel_rfl) v xT w
theorem Tryd.methodUnwrap (p : Addr) (w : World) : (Go.method 276 91 (.pointer (some p)) "Unwrap").run Tryd.prog w = .ok (109, .pointer (some p)) w := by kernel_rfl

/-! ### errors in memory -/
/-- An error that lies in memory: a *bad of scope s and code c, wrapped n times. -/
def Err (w : World) : Nat → Value → Int → Int → Prop
  | 0, e, s, c => ∃ b, e = .iface 86 (.pointer (some ⟨b, 0, none⟩)) ∧ w.cell? ⟨b, 0, none⟩ = some (.int .u8 s) ∧ w.cell? ⟨b, 1, none⟩ = some (.int .u32 c)
  | n + 1, e, s, c => ∃ b v e', e = .iface 91 (.pointer (some ⟨b, 0, none⟩)) ∧ w.cell? ⟨b, 0, none⟩ = some v ∧ w.cell? ⟨b, 1, none⟩ = some e' ∧ Err w n e' s c
theorem cell_below {w w1 : World} (h : Below w.heap.size w w1) {a : Addr} {v : Value} (hc : w.cell? a = some v) : w1.cell? a = some v := (h.cell (World.block_lt_of_cell? w a hc)).trans hc
theorem Err.below {w w1 : World} (hb : Below w.heap.size w w1) {n : Nat} : ∀ {e : Value} {s c : Int}, Err w n e s c → Err w1 n e s c := by
  induction n with
  | zero => rintro e s c ⟨b, he, h0, h1⟩; exact ⟨b, he, cell_below hb h0, cell_below hb h1⟩
  | succ n ih => rintro e s c ⟨b, v, e', he, h0, h1, h⟩; exact ⟨b, v, e', he, cell_below hb h0, cell_below hb h1, ih h⟩
theorem Err.form {w : World} {n : Nat} {e : Value} {s c : Int} (h : Err w n e s c) : ∃ T b, e = .iface T (.pointer (some ⟨b, 0, none⟩)) := by
  cases n with
  | zero => obtain ⟨b, he, _⟩ := h; exact ⟨_, b, he⟩
  | succ n => obtain ⟨b, _, _, he, _⟩ := h; exact ⟨_, b, he⟩

theorem unwrap_calls (b : Nat) (e' : Value) (w : World) (h : w.cell? ⟨b, 1, none⟩ = some e') :
    Calls Tryd.prog 109 #[.pointer (some ⟨b, 0, none⟩)] w fun e w' => e = .returned e' ∧ w = w' := by
  go_enter Tryd.func109, Tryd.ntmps109
  go_wp2
  go_ret
  exact ⟨rfl, rfl⟩

/-- The package variable errors.errorType, as the rows list it. -/
def GV (w : World) : Prop := w.cell? ⟨0, 0, none⟩ = some (.iface 121 (.agg #[hOf 73]))
theorem GV.below {w w1 : World} (h : GV w) (hb : Below w.heap.size w w1) : GV w1 := cell_below hb h

/-- What errors.as leaves behind: the target points to the *bad at the end of the chain. -/
def AsPost (t : Addr) (w : World) (s c : Int) (ev : Ending) (w' : World) : Prop :=
  ev = .returned (.bool true) ∧ ∃ b, w'.cell? t = some (.pointer (some ⟨b, 0, none⟩)) ∧ w'.cell? ⟨b, 0, none⟩ = some (.int .u8 s) ∧ w'.cell? ⟨b, 1, none⟩ = some (.int .u32 c) ∧ Below t.block w w'

theorem tip {w : World} {t a : Addr} {x : Value} (o1 o2 : Obj) (ht : w.cell? t = some (.pointer none)) (ha : w.cell? a = some x) (hx : x ≠ .pointer none) (u : Value) :
    (((w.alloc o1).alloc o2).setCell t u).cell? a = some x := by
  have hne : a ≠ t := fun h => hx (by rw [h, ht] at ha; exact (Option.some.inj ha).symm)
  have hal : a.block < w.heap.size := World.block_lt_of_cell? w a ha
  rw [World.cell?_setCell_other _ _ _ _ (Ne.symm hne), World.cell?_alloc_lt _ _ a (by simp; omega), World.cell?_alloc_lt _ _ a hal]; exact ha

set_option maxHeartbeats 4000000 in
theorem as_chain (n : Nat) (e : Value) (s c : Int) (t a : Addr) (w : World) (hE : Err w n e s c) (ha : w.cell? a = some (.pointer (some t))) (ht : w.cell? t = some (.pointer none)) (hf : w.frozen? t = false) :
    Calls Tryd.prog 68 #[e, .iface 88 (.pointer (some t)), .agg #[hOf 88, .pointer (some a), .int .u64 150], .iface 121 (.agg #[hOf 86])] w (AsPost t w s c) := by
  have h6 := @run_callFunc_extern Tryd.prog 65 _ (fun args => ReflectliteValue.unpack (args.getD 0 (.tuple #[]))) Tryd.func65 (by kernel_rfl) (by kernel_rfl) (by kernel_rfl) (by kernel_rfl)
  have h10 := @run_callFunc_extern Tryd.prog 74 _ ReflectliteType.typeOf Tryd.func74 (by kernel_rfl) (by kernel_rfl) (by kernel_rfl) (by kernel_rfl)
  have h35 := @run_callFunc_extern Tryd.prog 115 _ (ReflectliteType.relation "AssignableTo" ReflectliteType.assignableTo) Tryd.func115 (by kernel_rfl) (by kernel_rfl) (by kernel_rfl) (by kernel_rfl)
  have h11 := @run_callFunc_extern Tryd.prog 75 _ (ReflectliteValue.method (ReflectliteValue.valueError "reflectlite.Value.Elem" 0) ReflectliteValue.elem) Tryd.func75 (by kernel_rfl) (by kernel_rfl) (by kernel_rfl) (by kernel_rfl)
  have h12 := @run_callFunc_extern Tryd.prog 76 _ ReflectliteValue.set Tryd.func76 (by kernel_rfl) (by kernel_rfl) (by kernel_rfl) (by kernel_rfl)
  have tOP := Tryd.typeOfP
  have tOW := Tryd.typeOfW
  have mA := Tryd.methodAssignableTo
  have aP := Tryd.assignableP
  have aW := Tryd.assignableW
  have vP := Tryd.valueOfP
  have nA := Tryd.wNoAs
  have uW := Tryd.wUnwraps
  have mU := Tryd.methodUnwrap
  have hal : a.block < w.heap.size := World.block_lt_of_cell? w a ha
  have htl : t.block < w.heap.size := World.block_lt_of_cell? w t ht
  have el := Tryd.elemVPP a t (w.alloc (.cells #[hOf 88, .pointer (some a), .int .u64 150] 108)) (by rw [World.cell?_alloc_lt _ _ a hal]; exact ha)
  go_enter Tryd.func68, Tryd.ntmps68
  go_wp2
  go_loopg [0] n (fun k err wr => Err w k err s c ∧ w.alloc (.cells #[hOf 88, .pointer (some a), .int .u64 150] 108) = wr)
  case atStart => exact ⟨hE, rfl⟩
  case round =>
    obtain ⟨hE1, rfl⟩ := hrel
    cases gk with
    | zero =>
      obtain ⟨b, rfl, h0, h1⟩ := hE1
      have hb : b < w.heap.size := World.block_lt_of_cell? w _ h0
      have st := Tryd.setP t ⟨w.heap.size + 1, 0, none⟩ ⟨b, 0, none⟩ (.pointer none) ((w.alloc (.cells #[hOf 88, .pointer (some a), .int .u64 150] 108)).alloc (.cells #[.pointer (some ⟨b, 0, none⟩)] 86))
        (by rw [World.cell?_alloc_at _ _ _ _ (by simp)]; rfl)
        (by rw [World.cell?_alloc_lt _ _ t (by simp; omega), World.cell?_alloc_lt _ _ t htl]; exact ht)
        (by rw [World.frozen?_alloc_old _ _ t (by simp; omega), World.frozen?_alloc_old _ _ t (Nat.ne_of_lt htl)]; exact hf)
      go_wp2
      go_ret
      refine ⟨rfl, b, ?_, tip _ _ ht h0 (by simp) _, tip _ _ ht h1 (by simp) _, ?_⟩
      · exact World.cell?_setCell_same _ _ _ (u := .pointer none) (by rw [World.cell?_alloc_lt _ _ t (by simp; omega), World.cell?_alloc_lt _ _ t htl]; exact ht)
      · exact (((Below.refl _ _).alloc (by omega) _).alloc (by simp; omega) _).setCell (Nat.le_refl _) _
    | succ k =>
      obtain ⟨b, v, e', rfl, h0, h1, hE2⟩ := hE1
      obtain ⟨T, p, rfl⟩ := hE2.form
      have h1w : (w.alloc (.cells #[hOf 88, .pointer (some a), .int .u64 150] 108)).cell? ⟨b, 1, none⟩ = some (.iface T (.pointer (some ⟨p, 0, none⟩))) := by
        rw [World.cell?_alloc_lt _ _ _ (World.block_lt_of_cell? w _ h1)]; exact h1
      have HE2 := Lib.hid hE2
      clear hE2 hE
      go_wp2_with (go_at_call 109; refine (unwrap_calls _ _ _ h1w).mono ?_; rintro e w' ⟨rfl, rfl⟩)
      go_roundg k
      case measure => omega
      case rel => exact ⟨HE2.out, rfl⟩

set_option maxHeartbeats 4000000 in
theorem as_calls (n : Nat) (e : Value) (s c : Int) (t : Addr) (w : World) (hg : GV w) (hE : Err w n e s c) (ht0 : w.cell? t = some (.pointer none)) (hf0 : w.frozen? t = false) :
    Calls Tryd.prog 54 #[e, .iface 88 (.pointer (some t))] w (AsPost t w s c) := by
  have h6 := @run_callFunc_extern Tryd.prog 65 _ (fun args => ReflectliteValue.unpack (args.getD 0 (.tuple #[]))) Tryd.func65 (by kernel_rfl) (by kernel_rfl) (by kernel_rfl) (by kernel_rfl)
  have h7 := @run_callFunc_extern Tryd.prog 66 _ (ReflectliteValue.methodAny (ReflectliteValue.valueError "reflectlite.Value.Type" 0) (fun t _ _ _ => ReflectliteType.toType t)) Tryd.func66 (by kernel_rfl) (by kernel_rfl) (by kernel_rfl) (by kernel_rfl)
  have h8 := @run_callFunc_extern Tryd.prog 67 _ (ReflectliteValue.method (ReflectliteValue.valueError "reflectlite.Value.IsNil" 0) ReflectliteValue.isNil) Tryd.func67 (by kernel_rfl) (by kernel_rfl) (by kernel_rfl) (by kernel_rfl)
  have h27 := @run_callFunc_extern Tryd.prog 104 _ (ReflectliteType.abiMethod fun t => do pure (.int .u8 (← Rtype.kind t))) Tryd.func104 (by kernel_rfl) (by kernel_rfl) (by kernel_rfl) (by kernel_rfl)
  have h37 := @run_callFunc_extern Tryd.prog 117 _ (ReflectliteType.method ReflectliteType.elem) Tryd.func117 (by kernel_rfl) (by kernel_rfl) (by kernel_rfl) (by kernel_rfl)
  have h38 := @run_callFunc_extern Tryd.prog 118 _ (ReflectliteType.relation "Implements" ReflectliteType.implements_) Tryd.func118 (by kernel_rfl) (by kernel_rfl) (by kernel_rfl) (by kernel_rfl)
  have f6 := Tryd.valueOfPP
  have f7 := Tryd.typePP
  have mK := Tryd.methodKind
  have mE := Tryd.methodElem
  have mI := Tryd.methodImplements
  have k27 := Tryd.kindPP
  have k25 := Tryd.kindP
  have e27 := Tryd.elemPP
  have i25 := Tryd.implementsP
  have n8 := Tryd.isNilPP ⟨w.heap.size, 0, none⟩ t ((w.alloc (.cells #[.pointer (some t)] 88)).alloc (.cells #[hOf 88, .pointer (some ⟨w.heap.size, 0, none⟩), .int .u64 150] 108)) (by simp)
  have hb2 : Below w.heap.size w ((w.alloc (.cells #[.pointer (some t)] 88)).alloc (.cells #[hOf 88, .pointer (some ⟨w.heap.size, 0, none⟩), .int .u64 150] 108)) := ((Below.refl _ _).alloc (Nat.le_refl _) _).alloc (by simp) _
  have hg2 : ((w.alloc (.cells #[.pointer (some t)] 88)).alloc (.cells #[hOf 88, .pointer (some ⟨w.heap.size, 0, none⟩), .int .u64 150] 108)).cell? ⟨0, 0, none⟩ = some (.iface 121 (.agg #[hOf 73])) := GV.below hg hb2
  have htl : t.block < w.heap.size := World.block_lt_of_cell? w t ht0
  have ht2 := cell_below hb2 ht0
  have hf2 := (hb2.frozen htl).trans hf0
  have HC := Lib.hid (as_chain n e s c t ⟨w.heap.size, 0, none⟩ _ (hE.below hb2) (by simp) ht2 hf2)
  obtain ⟨T, p, rfl⟩ := hE.form
  have HB2 := Lib.hid hb2
  clear hE ht0 hf0 ht2 hf2 hb2 hg
  go_enter Tryd.func54, Tryd.ntmps54
  go_wp2_with (go_at_call 68; refine HC.out.mono ?_; rintro e w' ⟨rfl, b, hx⟩; have HX := Lib.hid hx; clear hx)
  go_ret
  obtain ⟨h1, h2, h3, h4⟩ := HX.out
  exact ⟨rfl, b, h1, h2, h3, (HB2.out.mono (Nat.le_of_lt htl)).trans h4⟩
end Go.Proofs.YtodfahcmgmleeaaDoor
