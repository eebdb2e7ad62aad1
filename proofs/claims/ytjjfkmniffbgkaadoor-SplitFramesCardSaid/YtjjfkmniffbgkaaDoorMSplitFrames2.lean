/- Texts of this claim, put together: Base, As, Fault, Mem, Mem2, Frm1, Clone2, Frm2, Frm3, Frm4, Frm5, Frm6, Frm7, Frm8. -/
import Derived.Test.YtjjfkmniffbgkaaDoorMSplitFramesW2
import Derived.Lib.Hide
import Derived.Test.YtjjfkmniffbgkaaDoorProg
import Derived.WalkKit
import Derived.Below
import Derived.RowKit
import Derived.KernelRfl
import Derived.Deep.DeepCutAuto
import Derived.Deep.RegionHeld3
import Derived.Deep.QuietTactic
import Derived.BigQuiet
import Derived.Outline
import Derived.Deep.LoopGhost
import Derived.WalkSpells
import Derived.LaidEql
import Derived.Stop.Asserts
import Derived.RowKitTokens
import Derived.WideLaws
import Derived.Test.YtjjfkmniffbgkaaDoorMSplitFrames1
import Derived.Laws.BitsAllLaws
import Derived.Maps.Own
import Derived.Maps.OwnOps
import Derived.Test.YtjjfkmniffbgkaaDoorMSplitFrames0
/- Small words that all texts of this claim use. -/
namespace Go.Proofs.YtjjfkmniffbgkaaDoor
set_option linter.unusedVariables false
set_option linter.unusedSimpArgs false
open Go.RowKit
theorem of_post0 {P : Program} {f : FuncId} {args : Array Value} {w : World} {T : Ending → World → Prop} (h : ∀ R : Ending → World → Prop, (∀ e w', T e w' → R e w') → Calls P f args w R) : Calls P f args w T := h T fun _ _ h => h
end Go.Proofs.YtjjfkmniffbgkaaDoor

/- What package fault's functions do: New, Conn, Stream, Wrap make errors; Of finds an error's fault through errors.As, however often it was wrapped. No condition but that the error's cells are there. -/
namespace Go.Proofs.YtjjfkmniffbgkaaDoor
set_option linter.unusedVariables false
set_option linter.unusedSimpArgs false
open Go.RowKit Go.Proofs.YtjjfkmniffbgkaaDoorW.PrintWords Go.Extern.Stop Go.Stop Go.Extern
/-! ### closed facts on the model's entries for internal/reflectlite at this program's types -/
abbrev hOf (t : Nat) : Value := .pointer (some ⟨5, t, none⟩)
theorem Tryd.valueOfPP (t : Addr) (w : World) : (ReflectliteValue.unpack (.iface 86 (.pointer (some t)))).run Tryd.prog w
  = .ok (.agg #[hOf 86, .pointer (some ⟨w.heap.size, 0, none⟩), .int .u64 150]) (w.alloc (.cells #[.pointer (some t)] 86)) := by kernel_rfl
theorem Tryd.typePP (a : Addr) (w : World) : (ReflectliteValue.methodAny (ReflectliteValue.valueError "reflectlite.Value.Type" 0) (fun t _ _ _ => ReflectliteType.toType t) #[.agg #[hOf 86, .pointer (some a), .int .u64 150]]).run Tryd.prog w
  = .ok (.iface 130 (.agg #[hOf 86])) w := by kernel_rfl
theorem Tryd.methodKind (h : Value) (w : World) : (Go.method 282 130 (.agg #[h]) "Kind").run Tryd.prog w = .ok (114, h) w := by kernel_rfl
theorem Tryd.kindPP (w : World) : ((ReflectliteType.abiMethod fun t => (fun a : Nat => Value.int IntKind.u8 (a : Int)) <$> Rtype.kind t) #[hOf 86]).run Tryd.prog w = .ok (.int .u8 22) w := by kernel_rfl
theorem Tryd.kindP (w : World) : ((ReflectliteType.abiMethod fun t => (fun a : Nat => Value.int IntKind.u8 (a : Int)) <$> Rtype.kind t) #[hOf 79]).run Tryd.prog w = .ok (.int .u8 22) w := by kernel_rfl
theorem rlm (z : Sem Value) (f : TypeId → Addr → Nat → Nat → Sem Value) (v : Value) :
  ReflectliteValue.method z f #[v] = (do match ← ReflectliteValue.parts v with | none => z | some (t, a, fl) => f t a fl (fl % 32)) := rfl
theorem Tryd.partsPP (a : Addr) (w : World) : (ReflectliteValue.parts (.agg #[hOf 86, .pointer (some a), .int .u64 150])).run Tryd.prog w = .ok (some (86, a, 150)) w := by kernel_rfl
theorem Tryd.isNilPP (a p : Addr) (W : World) (ha : W.cell? a = some (.pointer (some p))) :
  (ReflectliteValue.method (ReflectliteValue.valueError "reflectlite.Value.IsNil" 0) ReflectliteValue.isNil #[.agg #[hOf 86, .pointer (some a), .int .u64 150]]).run Tryd.prog W = .ok (.bool false) W := by
 rw [rlm]
 simp only [Sem.run_bind, Tryd.partsPP, Result.andThen]
 simp [ReflectliteValue.isNil, loadVar, isAgg, underlying, Tryd.underlying86, ha, Result.andThen]
theorem Tryd.methodElem (h : Value) (w : World) : (Go.method 282 130 (.agg #[h]) "Elem").run Tryd.prog w = .ok (126, .agg #[h]) w := by kernel_rfl
theorem Tryd.methodImplements (h : Value) (w : World) : (Go.method 282 130 (.agg #[h]) "Implements").run Tryd.prog w = .ok (127, .agg #[h]) w := by kernel_rfl
theorem Tryd.methodAssignableTo (h : Value) (w : World) : (Go.method 282 130 (.agg #[h]) "AssignableTo").run Tryd.prog w = .ok (124, .agg #[h]) w := by kernel_rfl
theorem Tryd.elemPP (w : World) : (ReflectliteType.method ReflectliteType.elem #[.agg #[hOf 86]]).run Tryd.prog w = .ok (.iface 130 (.agg #[hOf 79])) w := by kernel_rfl
theorem Tryd.implementsP (w : World) : (ReflectliteType.relation "Implements" ReflectliteType.implements_ #[.agg #[hOf 79], .iface 130 (.agg #[hOf 28])]).run Tryd.prog w = .ok (.bool true) w := by kernel_rfl
theorem Tryd.typeOfP (v : Value) (w : World) : (ReflectliteType.typeOf #[.iface 79 v]).run Tryd.prog w = .ok (.iface 130 (.agg #[hOf 79])) w := by kernel_rfl
theorem Tryd.typeOfW (v : Value) (w : World) : (ReflectliteType.typeOf #[.iface 82 v]).run Tryd.prog w = .ok (.iface 130 (.agg #[hOf 82])) w := by kernel_rfl
theorem Tryd.assignableP (w : World) : (ReflectliteType.relation "AssignableTo" ReflectliteType.assignableTo #[.agg #[hOf 79], .iface 130 (.agg #[hOf 79])]).run Tryd.prog w = .ok (.bool true) w := by kernel_rfl
theorem Tryd.assignableW (w : World) : (ReflectliteType.relation "AssignableTo" ReflectliteType.assignableTo #[.agg #[hOf 82], .iface 130 (.agg #[hOf 79])]).run Tryd.prog w = .ok (.bool false) w := by kernel_rfl
theorem Tryd.valueOfP (e : Addr) (w : World) : (ReflectliteValue.unpack (.iface 79 (.pointer (some e)))).run Tryd.prog w
  = .ok (.agg #[hOf 79, .pointer (some ⟨w.heap.size, 0, none⟩), .int .u64 150]) (w.alloc (.cells #[.pointer (some e)] 79)) := by kernel_rfl
theorem Tryd.elemOfPP (w : World) : (Rtype.elem? 86).run Tryd.prog w = .ok (some 79) w := by kernel_rfl
theorem Tryd.mkP (p : Addr) (w : World) : (ReflectliteValue.mk 79 p ReflectliteValue.flagAddr).run Tryd.prog w = .ok (.agg #[hOf 79, .pointer (some p), .int .u64 406]) w := by kernel_rfl
theorem Tryd.elemVPP (a p : Addr) (W : World) (ha : W.cell? a = some (.pointer (some p))) :
  (ReflectliteValue.method (ReflectliteValue.valueError "reflectlite.Value.Elem" 0) ReflectliteValue.elem #[.agg #[hOf 86, .pointer (some a), .int .u64 150]]).run Tryd.prog W
   = .ok (.agg #[hOf 79, .pointer (some p), .int .u64 406]) W := by
 rw [rlm]
 simp only [Sem.run_bind, Tryd.partsPP, Result.andThen]
 simp [ReflectliteValue.elem, loadVar, isAgg, underlying, Tryd.underlying86, ha, Result.andThen, Tryd.elemOfPP, Tryd.mkP]
theorem rls (v x : Value) : ReflectliteValue.set #[v, x] = (do
  let (some (dst, a, fl), some (src, b, _)) := (← ReflectliteValue.parts v, ← ReflectliteValue.parts x)
   | unsupported (.noEntry "extern/(internal/reflectlite.Value).Set.zeroValue")
  if fl / ReflectliteValue.flagAddr % 2 == 0 then unsupported (.noEntry "extern/(internal/reflectlite.Value).Set.unaddressable")
  let val ← loadVar src b
  if ← Rtype.directlyAssignable dst src then storeVar dst a val
  else if ← Rtype.implements dst src then
   if (← Rtype.kind src) == 20 then
    match val with
    | .nilIface => unsupported (.noEntry "extern/reflectlite: a nil value of one interface type handed on as a value of another")
    | _ => storeVar dst a val
   else storeVar dst a (.iface src val)
  else panicString ("reflectlite.Set: value of type " ++ (← Rtype.spelt src) ++ " is not assignable to type " ++ (← Rtype.spelt dst))
  pure (.tuple #[])) := rfl
theorem Tryd.partsPa (a : Addr) (w : World) : (ReflectliteValue.parts (.agg #[hOf 79, .pointer (some a), .int .u64 406])).run Tryd.prog w = .ok (some (79, a, 406)) w := by kernel_rfl
theorem Tryd.partsP (a : Addr) (w : World) : (ReflectliteValue.parts (.agg #[hOf 79, .pointer (some a), .int .u64 150])).run Tryd.prog w = .ok (some (79, a, 150)) w := by kernel_rfl
theorem Tryd.directP (w : World) : (Rtype.directlyAssignable 79 79).run Tryd.prog w = .ok true w := by kernel_rfl
theorem Tryd.setP (ta b e : Addr) (old : Value) (W : World) (hb : W.cell? b = some (.pointer (some e))) (ht : W.cell? ta = some old) (hf : W.frozen? ta = false) :
  (ReflectliteValue.set #[.agg #[hOf 79, .pointer (some ta), .int .u64 406], .agg #[hOf 79, .pointer (some b), .int .u64 150]]).run Tryd.prog W
   = .ok (.tuple #[]) (W.setCell ta (.pointer (some e))) := by
 rw [rls]
 simp only [Sem.run_bind, Tryd.partsPa, Tryd.partsP, Result.andThen]
 simp [ReflectliteValue.flagAddr, loadVar, isAgg, underlying, Tryd.underlying79, hb, Result.andThen, Tryd.directP, storeVar, Value.cells, storeCells, Addr.add]
 rw [run_store Tryd.prog W ta _ _ (by rfl)]
 simp [ht, hf]
theorem Tryd.wNoAs (v : Value) (xT : TypeId) (w : World) : (Instr.typeAssert (.iface 82 v) xT 135 true).run Tryd.prog w = .ok (.tuple #[.nilIface, .bool false]) w :=
 run_typeAssert_lacksB Tryd.underlying135 (by kernel_rfl) (by kernel_rfl) v xT w
theorem Tryd.wUnwraps (v : Value) (xT : TypeId) (w : World) : (Instr.typeAssert (.iface 82 v) xT 138 true).run Tryd.prog w = .ok (.tuple #[.iface 82 v, .bool true]) w :=
 run_typeAssert_hasB Tryd.underlying138 (by kernel_rfl) v xT w
theorem Tryd.methodUnwrap (p : Addr) (w : World) : (Go.method 282 82 (.pointer (some p)) "Unwrap").run Tryd.prog w = .ok (119, .pointer (some p)) w := by kernel_rfl
/-! ### errors in memory -/
def Err (w : World) : Nat → Value → Int → Int → Prop
 | 0, e, s, c => ∃ b, e = .iface 79 (.pointer (some ⟨b, 0, none⟩)) ∧ w.cell? ⟨b, 0, none⟩ = some (.int .u8 s) ∧ w.cell? ⟨b, 1, none⟩ = some (.int .u32 c)
 | n + 1, e, s, c => ∃ b v e', e = .iface 82 (.pointer (some ⟨b, 0, none⟩)) ∧ w.cell? ⟨b, 0, none⟩ = some v ∧ w.cell? ⟨b, 1, none⟩ = some e' ∧ Err w n e' s c
theorem cell_below {w w1 : World} (h : Below w.heap.size w w1) {a : Addr} {v : Value} (hc : w.cell? a = some v) : w1.cell? a = some v := (h.cell (World.block_lt_of_cell? w a hc)).trans hc
theorem Err.below {w w1 : World} (hb : Below w.heap.size w w1) {n : Nat} : ∀ {e : Value} {s c : Int}, Err w n e s c → Err w1 n e s c := by
 induction n with
 | zero => rintro e s c ⟨b, he, h0, h1⟩; exact ⟨b, he, cell_below hb h0, cell_below hb h1⟩
 | succ n ih => rintro e s c ⟨b, v, e', he, h0, h1, h⟩; exact ⟨b, v, e', he, cell_below hb h0, cell_below hb h1, ih h⟩
theorem Err.form {w : World} {n : Nat} {e : Value} {s c : Int} (h : Err w n e s c) : ∃ T b, e = .iface T (.pointer (some ⟨b, 0, none⟩)) := by
 cases n with
 | zero => obtain ⟨b, he, _⟩ := h; exact ⟨_, b, he⟩
 | succ n => obtain ⟨b, _, _, he, _⟩ := h; exact ⟨_, b, he⟩
theorem unwrap_calls (b : Nat) (e' : Value) (w : World) (h : w.cell? ⟨b, 1, none⟩ = some e') :
  Calls Tryd.prog 119 #[.pointer (some ⟨b, 0, none⟩)] w fun e w' => e = .returned e' ∧ w = w' := by
 go_enter Tryd.func119, Tryd.ntmps119
 go_wp2
 go_ret
 exact ⟨rfl, rfl⟩
def GV (w : World) : Prop := w.cell? ⟨1, 0, none⟩ = some (.iface 130 (.agg #[hOf 28]))
theorem GV.below {w w1 : World} (h : GV w) (hb : Below w.heap.size w w1) : GV w1 := cell_below hb h
def AsPost (t : Addr) (w : World) (s c : Int) (ev : Ending) (w' : World) : Prop :=
 ev = .returned (.bool true) ∧ ∃ b, w'.cell? t = some (.pointer (some ⟨b, 0, none⟩)) ∧ w'.cell? ⟨b, 0, none⟩ = some (.int .u8 s) ∧ w'.cell? ⟨b, 1, none⟩ = some (.int .u32 c) ∧ Below t.block w w'
theorem tip {w : World} {t a : Addr} {x : Value} (o1 o2 : Obj) (ht : w.cell? t = some (.pointer none)) (ha : w.cell? a = some x) (hx : x ≠ .pointer none) (u : Value) :
  (((w.alloc o1).alloc o2).setCell t u).cell? a = some x := by
 have hne : a ≠ t := fun h => hx (by rw [h, ht] at ha; exact (Option.some.inj ha).symm)
 have hal : a.block < w.heap.size := World.block_lt_of_cell? w a ha
 rw [World.cell?_setCell_other _ _ _ _ (Ne.symm hne), World.cell?_alloc_lt _ _ a (by simp; omega), World.cell?_alloc_lt _ _ a hal]; exact ha
set_option maxHeartbeats 4000000 in
theorem as_chain (n : Nat) (e : Value) (s c : Int) (t a : Addr) (w : World) (hE : Err w n e s c) (ha : w.cell? a = some (.pointer (some t))) (ht : w.cell? t = some (.pointer none)) (hf : w.frozen? t = false) :
  Calls Tryd.prog 73 #[e, .iface 86 (.pointer (some t)), .agg #[hOf 86, .pointer (some a), .int .u64 150], .iface 130 (.agg #[hOf 79])] w (AsPost t w s c) := by
 have h6 := @run_callFunc_extern Tryd.prog 70 _ (fun args => ReflectliteValue.unpack (args.getD 0 (.tuple #[]))) Tryd.func70 (by kernel_rfl) (by kernel_rfl) (by kernel_rfl) (by kernel_rfl)
 have h10 := @run_callFunc_extern Tryd.prog 86 _ ReflectliteType.typeOf Tryd.func86 (by kernel_rfl) (by kernel_rfl) (by kernel_rfl) (by kernel_rfl)
 have h35 := @run_callFunc_extern Tryd.prog 124 _ (ReflectliteType.relation "AssignableTo" ReflectliteType.assignableTo) Tryd.func124 (by kernel_rfl) (by kernel_rfl) (by kernel_rfl) (by kernel_rfl)
 have h11 := @run_callFunc_extern Tryd.prog 87 _ (ReflectliteValue.method (ReflectliteValue.valueError "reflectlite.Value.Elem" 0) ReflectliteValue.elem) Tryd.func87 (by kernel_rfl) (by kernel_rfl) (by kernel_rfl) (by kernel_rfl)
 have h12 := @run_callFunc_extern Tryd.prog 88 _ ReflectliteValue.set Tryd.func88 (by kernel_rfl) (by kernel_rfl) (by kernel_rfl) (by kernel_rfl)
 have tOP := Tryd.typeOfP
 have tOW := Tryd.typeOfW
 have mA := Tryd.methodAssignableTo
 have aP := Tryd.assignableP
 have aW := Tryd.assignableW
 have vP := Tryd.valueOfP
 have nA := Tryd.wNoAs
 have uW := Tryd.wUnwraps
 have mU := Tryd.methodUnwrap
 have hal : a.block < w.heap.size := World.block_lt_of_cell? w a ha
 have htl : t.block < w.heap.size := World.block_lt_of_cell? w t ht
 have el := Tryd.elemVPP a t (w.alloc (.cells #[hOf 86, .pointer (some a), .int .u64 150] 111)) (by rw [World.cell?_alloc_lt _ _ a hal]; exact ha)
 go_enter Tryd.func73, Tryd.ntmps73
 go_wp2
 go_loopg [0] n (fun k err wr => Err w k err s c ∧ w.alloc (.cells #[hOf 86, .pointer (some a), .int .u64 150] 111) = wr)
 case atStart => exact ⟨hE, rfl⟩
 case round =>
  obtain ⟨hE1, rfl⟩ := hrel
  cases gk with
  | zero =>
   obtain ⟨b, rfl, h0, h1⟩ := hE1
   have hb : b < w.heap.size := World.block_lt_of_cell? w _ h0
   have st := Tryd.setP t ⟨w.heap.size + 1, 0, none⟩ ⟨b, 0, none⟩ (.pointer none) ((w.alloc (.cells #[hOf 86, .pointer (some a), .int .u64 150] 111)).alloc (.cells #[.pointer (some ⟨b, 0, none⟩)] 79))
    (by rw [World.cell?_alloc_at _ _ _ _ (by simp)]; rfl)
    (by rw [World.cell?_alloc_lt _ _ t (by simp; omega), World.cell?_alloc_lt _ _ t htl]; exact ht)
    (by rw [World.frozen?_alloc_old _ _ t (by simp; omega), World.frozen?_alloc_old _ _ t (Nat.ne_of_lt htl)]; exact hf)
   go_wp2
   go_ret
   refine ⟨rfl, b, ?_, tip _ _ ht h0 (by simp) _, tip _ _ ht h1 (by simp) _, ?_⟩
   ·exact World.cell?_setCell_same _ _ _ (u := .pointer none) (by rw [World.cell?_alloc_lt _ _ t (by simp; omega), World.cell?_alloc_lt _ _ t htl]; exact ht)
   ·exact (((Below.refl _ _).alloc (by omega) _).alloc (by simp; omega) _).setCell (Nat.le_refl _) _
  | succ k =>
   obtain ⟨b, v, e', rfl, h0, h1, hE2⟩ := hE1
   obtain ⟨T, p, rfl⟩ := hE2.form
   have h1w : (w.alloc (.cells #[hOf 86, .pointer (some a), .int .u64 150] 111)).cell? ⟨b, 1, none⟩ = some (.iface T (.pointer (some ⟨p, 0, none⟩))) := by
    rw [World.cell?_alloc_lt _ _ _ (World.block_lt_of_cell? w _ h1)]; exact h1
   have HE2 := Lib.hid hE2
   clear hE2 hE
   go_wp2_with (go_at_call 119; refine (unwrap_calls _ _ _ h1w).mono ?_; rintro e w' ⟨rfl, rfl⟩)
   go_roundg k
   case measure => omega
   case rel => exact ⟨HE2.out, rfl⟩
set_option maxHeartbeats 4000000 in
theorem as_calls (n : Nat) (e : Value) (s c : Int) (t : Addr) (w : World) (hg : GV w) (hE : Err w n e s c) (ht0 : w.cell? t = some (.pointer none)) (hf0 : w.frozen? t = false) :
  Calls Tryd.prog 45 #[e, .iface 86 (.pointer (some t))] w (AsPost t w s c) := by
 have h6 := @run_callFunc_extern Tryd.prog 70 _ (fun args => ReflectliteValue.unpack (args.getD 0 (.tuple #[]))) Tryd.func70 (by kernel_rfl) (by kernel_rfl) (by kernel_rfl) (by kernel_rfl)
 have h7 := @run_callFunc_extern Tryd.prog 71 _ (ReflectliteValue.methodAny (ReflectliteValue.valueError "reflectlite.Value.Type" 0) (fun t _ _ _ => ReflectliteType.toType t)) Tryd.func71 (by kernel_rfl) (by kernel_rfl) (by kernel_rfl) (by kernel_rfl)
 have h8 := @run_callFunc_extern Tryd.prog 72 _ (ReflectliteValue.method (ReflectliteValue.valueError "reflectlite.Value.IsNil" 0) ReflectliteValue.isNil) Tryd.func72 (by kernel_rfl) (by kernel_rfl) (by kernel_rfl) (by kernel_rfl)
 have h27 := @run_callFunc_extern Tryd.prog 114 _ (ReflectliteType.abiMethod fun t => do pure (.int .u8 (← Rtype.kind t))) Tryd.func114 (by kernel_rfl) (by kernel_rfl) (by kernel_rfl) (by kernel_rfl)
 have h37 := @run_callFunc_extern Tryd.prog 126 _ (ReflectliteType.method ReflectliteType.elem) Tryd.func126 (by kernel_rfl) (by kernel_rfl) (by kernel_rfl) (by kernel_rfl)
 have h38 := @run_callFunc_extern Tryd.prog 127 _ (ReflectliteType.relation "Implements" ReflectliteType.implements_) Tryd.func127 (by kernel_rfl) (by kernel_rfl) (by kernel_rfl) (by kernel_rfl)
 have f6 := Tryd.valueOfPP
 have f7 := Tryd.typePP
 have mK := Tryd.methodKind
 have mE := Tryd.methodElem
 have mI := Tryd.methodImplements
 have k27 := Tryd.kindPP
 have k25 := Tryd.kindP
 have e27 := Tryd.elemPP
 have i25 := Tryd.implementsP
 have n8 := Tryd.isNilPP ⟨w.heap.size, 0, none⟩ t ((w.alloc (.cells #[.pointer (some t)] 86)).alloc (.cells #[hOf 86, .pointer (some ⟨w.heap.size, 0, none⟩), .int .u64 150] 111)) (by simp)
 have hb2 : Below w.heap.size w ((w.alloc (.cells #[.pointer (some t)] 86)).alloc (.cells #[hOf 86, .pointer (some ⟨w.heap.size, 0, none⟩), .int .u64 150] 111)) := ((Below.refl _ _).alloc (Nat.le_refl _) _).alloc (by simp) _
 have hg2 : ((w.alloc (.cells #[.pointer (some t)] 86)).alloc (.cells #[hOf 86, .pointer (some ⟨w.heap.size, 0, none⟩), .int .u64 150] 111)).cell? ⟨1, 0, none⟩ = some (.iface 130 (.agg #[hOf 28])) := GV.below hg hb2
 have htl : t.block < w.heap.size := World.block_lt_of_cell? w t ht0
 have ht2 := cell_below hb2 ht0
 have hf2 := (hb2.frozen htl).trans hf0
 have HC := Lib.hid (as_chain n e s c t ⟨w.heap.size, 0, none⟩ _ (hE.below hb2) (by simp) ht2 hf2)
 obtain ⟨T, p, rfl⟩ := hE.form
 have HB2 := Lib.hid hb2
 clear hE ht0 hf0 ht2 hf2 hb2 hg
 go_enter Tryd.func45, Tryd.ntmps45
 go_wp2_with (go_at_call 73; refine HC.out.mono ?_; rintro e w' ⟨rfl, b, hx⟩; have HX := Lib.hid hx; clear hx)
 go_ret
 obtain ⟨h1, h2, h3, h4⟩ := HX.out
 exact ⟨rfl, b, h1, h2, h3, (HB2.out.mono (Nat.le_of_lt htl)).trans h4⟩

set_option maxHeartbeats 1000000 in
theorem of_err (n : Nat) (e : Value) (s c : Int) (w : World) (hg : GV w) (hE : Err w n e s c) :
  Calls Tryd.prog 18 #[e] w fun ev w' => ev = .returned (.agg #[.int .u8 s, .int .u32 c]) ∧ Below w.heap.size w w' := by
 have hb2 : Below w.heap.size w ((w.alloc (.cells #[.int .u8 0, .int .u32 0] 24)).alloc (.cells #[.pointer none] 79)) := ((Below.refl _ _).alloc (Nat.le_refl _) _).alloc (by simp) _
 have HC := Lib.hid (as_calls n e s c ⟨w.heap.size + 1, 0, none⟩ _ (hg.below hb2) (hE.below hb2) (by simp) (by simp))
 have HB2 := Lib.hid hb2
 obtain ⟨T, p, rfl⟩ := hE.form
 clear hE hg hb2
 go_enter Tryd.func18, Tryd.ntmps18
 go_wp2_with (go_at_call 45; refine HC.out.mono ?_; rintro e w1 ⟨rfl, b, h1, h2, h3, hbel⟩; have c0 : w1.cell? ⟨w.heap.size, 0, none⟩ = some (.int .u8 0) := (hbel.cell (by simp)).trans (by simp); have c1 : w1.cell? ⟨w.heap.size, 1, none⟩ = some (.int .u32 0) := (hbel.cell (by simp)).trans (by simp); have f0 : w1.frozen? ⟨w.heap.size, 0, none⟩ = false := (hbel.frozen (by simp)).trans (by simp); have f1 : w1.frozen? ⟨w.heap.size, 1, none⟩ = false := (hbel.frozen (by simp)).trans (by simp); have HX := Lib.hid hbel; clear hbel)
 have hblk : w1.heap[w.heap.size]? = some (.cells #[.int .u8 0, .int .u32 0] 24 (0, 0)) := (HX.out.block _ (Nat.lt_succ_self _)).trans (blk_alloc (blk_new w _) _)
 refine bodyPost_ret (results_cell_row rfl _ _ w.heap.size 24 #[.int .u8 s, .int .u32 c] (0, 0) _ rfl (blk_set (blk_set hblk 0 _) 1 _) Tryd.underlying24 rfl (by kernel_rfl)) rfl ⟨rfl, ?_⟩
 exact ((HB2.out.trans (HX.out.mono (Nat.le_succ _))).setCell (Nat.le_refl _) _).setCell (Nat.le_refl _) _
/-! ### making errors -/
theorem new_calls (s c : Int) (h1 : 0 < s) (h2 : s < 4) (w : World) :
  Calls Tryd.prog 14 #[.agg #[.int .u8 s, .int .u32 c]] w fun ev w' => ∃ v, ev = .returned v ∧ Below w.heap.size w w' ∧ Err w' 0 v s c := by
 have hn : (s == 0) = false := by rw [beq_eq_false_iff_ne]; omega
 have hg : decide (3 < s) = false := by rw [decide_eq_false_iff_not]; omega
 go_enter Tryd.func14, Tryd.ntmps14
 go_wp2
 go_ret
 exact ⟨_, rfl, ((Below.refl _ _).alloc (Nat.le_refl _) _).alloc (by simp) _, _, rfl, by simp, by simp⟩
theorem conn_calls (c : Int) (w : World) :
  Calls Tryd.prog 43 #[.int .u32 c] w fun ev w' => ∃ v, ev = .returned v ∧ Below w.heap.size w w' ∧ Err w' 0 v 1 c := by
 go_enter Tryd.func43, Tryd.ntmps43
 go_wp2_with (go_at_call 14; refine (new_calls 1 c (by decide) (by decide) _).mono ?_; rintro e w1 ⟨v, rfl, hb, hE⟩; have HX := Lib.hid (And.intro hb hE); clear hb hE)
 go_ret
 exact ⟨_, rfl, HX.out⟩
theorem stream_calls (c : Int) (w : World) :
  Calls Tryd.prog 79 #[.int .u32 c] w fun ev w' => ∃ v, ev = .returned v ∧ Below w.heap.size w w' ∧ Err w' 0 v 2 c := by
 go_enter Tryd.func79, Tryd.ntmps79
 go_wp2_with (go_at_call 14; refine (new_calls 2 c (by decide) (by decide) _).mono ?_; rintro e w1 ⟨v, rfl, hb, hE⟩; have HX := Lib.hid (And.intro hb hE); clear hb hE)
 go_ret
 exact ⟨_, rfl, HX.out⟩
theorem wrap_err (n : Nat) (s : ByteArray) (e : Value) (sc c : Int) (w : World) (hE : Err w n e sc c) :
  Calls Tryd.prog 15 #[.string s, e] w fun ev w' => ∃ v, ev = .returned v ∧ Below w.heap.size w w' ∧ Err w' (n + 1) v sc c := by
 have HE := Lib.hid hE
 obtain ⟨T, p, rfl⟩ := hE.form
 clear hE
 go_enter Tryd.func15, Tryd.ntmps15
 go_wp2
 go_ret
 have hb := (Below.refl w.heap.size w).alloc (Nat.le_refl _) (.cells #[.string s, .iface T (.pointer (some ⟨p, 0, none⟩))] 84)
 exact ⟨_, rfl, hb, w.heap.size, .string s, .iface T (.pointer (some ⟨p, 0, none⟩)), rfl, by simp, by simp, HE.out.below hb⟩
/-! ### an error or none -/
def EO (w : World) (v : Value) (s c : Int) : Prop := s = 0 ∧ c = 0 ∧ v = .nilIface ∨ ∃ n, Err w n v s c
theorem EO.none_ (w : World) : EO w .nilIface 0 0 := .inl ⟨rfl, rfl, rfl⟩
theorem EO.some_ {w : World} {n : Nat} {v : Value} {s c : Int} (h : Err w n v s c) : EO w v s c := .inr ⟨n, h⟩
theorem EO.below {w w1 : World} {v : Value} {s c : Int} (h : EO w v s c) (hb : Below w.heap.size w w1) : EO w1 v s c := h.imp id fun ⟨n, hn⟩ => ⟨n, hn.below hb⟩
end Go.Proofs.YtjjfkmniffbgkaaDoor

/- Small laws on memory: append of a row that is read, as a run and as a step of a region that draws its order; blocks kept. No program. -/
namespace Go.Proofs.YtjjfkmniffbgkaaDoor
set_option linter.unusedVariables false
set_option linter.unusedSimpArgs false
open Go.RowKit Go.Proofs.YtjjfkmniffbgkaaDoorW.PrintWords
section
variable {P : Program}
theorem run_append_row (W : World) (base : Nat) (t ty e : TypeId) (k : IntKind) (bytes : Nat) (ht : P.underlying t = some (.slice e))
  (hinfo : (P.info? e).map (fun i => (i.zero, i.size, i.bytes)) = some (some (.int k 0), 1, bytes)) (hb0 : 0 < bytes)
  (v : Value) (xs ys : List Int) (A : Option Addr) (m c : Nat) (HO : W.ownsRow base e 1 v xs.length (nums k xs)) (HR : ReadsInt W k A m ys) (hbase : base ≤ W.heap.size)
  (hl : (xs.length + m) * bytes ≤ 140737488355328) :
  ∃ v1 w1, (Builtin.append_ #[t, t] ty #[v, .slice A m c]).run P W = .ok v1 w1 ∧ w1.ownsRow base e 1 v1 (xs ++ ys).length (nums k (xs ++ ys)) ∧ W.grownBy w1 v.ownBlock ∧
   (v1.ownBlock = v.ownBlock ∨ v1.ownBlock = some W.heap.size) := by
 obtain ⟨i0, hi, hq⟩ := Option.map_eq_some_iff.1 hinfo
 simp only [Prod.mk.injEq] at hq
 have hn : xs.length + m ≤ 140737488355328 := Nat.le_trans (Nat.le_mul_of_pos_right _ hb0) hl
 cases A with
 | none =>
  have hm0 : m = 0 := Nat.eq_zero_of_not_pos fun h => by obtain ⟨_, h1, _⟩ := HR.2.2 h; cases h1
  have hy : ys = [] := List.eq_nil_of_length_eq_zero (by have := HR.1; omega)
  subst hm0 hy
  refine ⟨v, W, ?_, by simpa using HO, World.grownBy.refl W _, .inl rfl⟩
  rcases HO.2 with ⟨hv, _⟩ | ⟨g, cap, cur, hv, _, _, hcap, _⟩ <;> subst hv <;>
   simp [Builtin.append_, run_underlying ht, sizeOf, typeInfo, hi, Builtin.lenOf, Builtin.firstCells, storeCells] <;> omega
 | some ad =>
  have hlen : ys.length = m := HR.1
  have hcell : ∀ j u, (nums k ys)[j]? = some u → W.cell? (ad.add j) = some u := fun j u hu => by
   have hj : j < ys.length := by
    have := (List.getElem?_eq_some_iff.1 hu).1
    rwa [nums_length] at this
   obtain ⟨a2, e2, hc⟩ := HR.2.2 (by omega)
   obtain rfl := Option.some.inj e2
   rw [hc j (by omega), ← hu]
   simp [nums, List.getD_eq_getElem?_getD, List.getElem?_eq_getElem hj]
  obtain ⟨v1, w1, h1, h2, h3, _, h5⟩ := run_append_own_at (P := P) W base t ty e i0 (.int k 0) 1 bytes ht hi hq.1 hq.2.1 hq.2.2 rfl (by decide) v xs.length (nums k xs) HO ad m c (nums k ys)
   (by rw [nums_length, hlen, Nat.mul_one]) hcell (fun u hu => by obtain ⟨q, _, rfl⟩ := List.mem_map.1 hu; rfl) (by unfold maxLen; omega) hl hbase
  refine ⟨v1, w1, h1, ?_, h3, h5⟩
  rw [nums_append, List.length_append, hlen]
  exact h2
variable {ops : Array Oper} {o : Oper} {a : Act} {K : Act → World → Prop} {Q : Exit → Act → World → Prop} {E : Prop}
theorem step_append_row (W : World) (hgd : o.guard = none) (s x : Operand) (t : TypeId) (ho : o.op = .call { callee := .builtin .append, args := #[s, x], argTypes := #[t, t] })
  (base : Nat) (e : TypeId) (k : IntKind) (bytes : Nat) (ht : P.underlying t = some (.slice e))
  (hinfo : (P.info? e).map (fun i => (i.zero, i.size, i.bytes)) = some (some (.int k 0), 1, bytes)) (hb0 : 0 < bytes)
  (v : Value) (xs ys : List Int) (A : Option Addr) (m c : Nat) (hs : a.eval s = v) (hx : a.eval x = .slice A m c)
  (HO : W.ownsRow base e 1 v xs.length (nums k xs)) (HR : ReadsInt W k A m ys) (hbase : base ≤ W.heap.size) (hl : (xs.length + m) * bytes ≤ 140737488355328)
  (h : ∀ v1 w1, w1.ownsRow base e 1 v1 (xs ++ ys).length (nums k (xs ++ ys)) → W.grownBy w1 v.ownBlock → (v1.ownBlock = v.ownBlock ∨ v1.ownBlock = some W.heap.size) → K (a.put o.dst v1) w1) :
  if Region.wanted o (yielded ops a.tmps) = true then Oper.wp P o a W K Q else E := by
 rw [if_pos (by simp [Region.wanted, hgd])]
 obtain ⟨v1, w1, hr, h1, h2, h3⟩ := run_append_row W base t o.type e k bytes ht hinfo hb0 v xs ys A m c HO HR hbase hl
 unfold Oper.wp execOp
 simp only [ho, resolve, invoke, builtin, Sem.run_bind, Sem.run_pure, Result.andThen_ok, List.map_toArray, List.map_cons, List.map_nil, hs, hx, hr]
 exact h v1 w1 h1 h2 h3
end
def Elsewhere (A : Option Addr) (n g : Nat) : Prop := ∀ ad, A = some ad → 0 < n → ad.block ≠ g
theorem add_block (a : Addr) (j : Nat) : (a.add j).block = a.block := by unfold Addr.add; split <;> rfl
theorem reads_keep {w W : World} {g : Nat} {k : IntKind} {A : Option Addr} {n : Nat} {xs : List Int} (h : ReadsInt w k A n xs) (hK : KeepBut w W g none) (hE : Elsewhere A n g) : ReadsInt W k A n xs :=
 ⟨h.1, h.2.1, fun hn => by
  obtain ⟨ad, e, hc⟩ := h.2.2 hn
  refine ⟨ad, e, fun j hj => ?_⟩
  have hcell := hc j hj
  have hb := World.block_lt_of_cell? w _ hcell
  rw [add_block] at hb
  rw [← hcell]
  exact World.cell?_of_block (by rw [add_block]; exact hK.2 _ hb (hE ad e hn) (by simp))⟩

section
variable {P : Program} {ops : Array Oper} {rest : List Oper} {o : Oper} {a : Act} {Q : Exit → Act → World → Prop}
theorem list_append_row (W : World) (hgd : o.guard = none) (s x : Operand) (t : TypeId) (ho : o.op = .call { callee := .builtin .append, args := #[s, x], argTypes := #[t, t] })
  (base : Nat) (e : TypeId) (k : IntKind) (bytes : Nat) (ht : P.underlying t = some (.slice e))
  (hinfo : (P.info? e).map (fun i => (i.zero, i.size, i.bytes)) = some (some (.int k 0), 1, bytes)) (hb0 : 0 < bytes)
  (v : Value) (xs ys : List Int) (A : Option Addr) (m c : Nat) (hs : a.eval s = v) (hx : a.eval x = .slice A m c)
  (HO : W.ownsRow base e 1 v xs.length (nums k xs)) (HR : ReadsInt W k A m ys) (hbase : base ≤ W.heap.size) (hl : (xs.length + m) * bytes ≤ 140737488355328)
  (h : ∀ v1 w1, w1.ownsRow base e 1 v1 (xs ++ ys).length (nums k (xs ++ ys)) → W.grownBy w1 v.ownBlock → (v1.ownBlock = v.ownBlock ∨ v1.ownBlock = some W.heap.size) → wpList P ops Q rest (a.put o.dst v1) w1) :
  wpList P ops Q (o :: rest) a W :=
 wpList_plain hgd fun _ hK => by
  obtain ⟨v1, w1, hr, h1, h2, h3⟩ := run_append_row W base t o.type e k bytes ht hinfo hb0 v xs ys A m c HO HR hbase hl
  unfold Oper.wp execOp
  simp only [ho, resolve, invoke, builtin, Sem.run_bind, Sem.run_pure, Result.andThen_ok, List.map_toArray, List.map_cons, List.map_nil, hs, hx, hr]
  exact hK _ _ (h v1 w1 h1 h2 h3)
theorem own_empty (W : World) (base : Nat) (e : TypeId) (hb : base ≤ W.heap.size) : (W.alloc (.cells #[] e)).ownsRow base e 1 (.slice (some ⟨W.heap.size, 0, none⟩) 0 0) 0 (nums .u8 []) :=
 World.ownsRow_lit (base := base) (e := e) (size := 1) W #[] 0 hb (by decide) (by simp)
end
end Go.Proofs.YtjjfkmniffbgkaaDoor

/- Package frame's small functions: numbers, the head, faults of streams and of windows. -/
namespace Go.Proofs.YtjjfkmniffbgkaaDoor
set_option linter.unusedVariables false
set_option linter.unusedSimpArgs false
open Go.RowKit Go.Proofs.YtjjfkmniffbgkaaDoorW.PrintWords Go.Proofs.YtjjfkmniffbgkaaDoorW.PrintMore Go.Proofs.YtjjfkmniffbgkaaDoor.QFrmA Go.Extern.Stop Go.Stop Go.Extern
def Byte8 (l : List Int) : Prop := ∀ x ∈ l, 0 ≤ x ∧ x ≤ 255
def valFrom : Int → List Int → Int
 | n, [] => n
 | n, c :: l => valFrom (n * 256 + c) l
def valL (l : List Int) : Int := valFrom 0 l
theorem pow256_succ (n : Nat) : (256 : Int) ^ (n + 1) = 256 ^ n * 256 := by rw [Int.pow_succ]
theorem wrap_okF {x : Int} (h0 : -9223372036854775808 ≤ x) (h1 : x ≤ 9223372036854775807) : wrap64 x = x := by
 unfold wrap64
 omega
theorem valFrom_bound : ∀ (l : List Int) (n : Int), Byte8 l → 0 ≤ n → 0 ≤ valFrom n l ∧ valFrom n l < (n + 1) * 256 ^ l.length
 | [], n, _, hn => by simp [valFrom]; omega
 | c :: l, n, h, hn => by
  have hc := h c (by simp)
  have ih := valFrom_bound l (n * 256 + c) (fun x hx => h x (by simp [hx])) (by omega)
  refine ⟨ih.1, Int.lt_of_lt_of_le ih.2 ?_⟩
  rw [List.length_cons, pow256_succ, Int.mul_comm ((256 : Int) ^ l.length) 256, ← Int.mul_assoc]
  exact Int.mul_le_mul_of_nonneg_right (by omega) (Int.le_of_lt (Int.pow_pos (by decide)))
theorem valL_bound {l : List Int} (h : Byte8 l) : 0 ≤ valL l ∧ valL l < 256 ^ l.length := by
 have := valFrom_bound l 0 h (Int.le_refl 0)
 simpa [valL] using this
theorem or_byte32 (a c : Int) (h0 : 0 ≤ a) (h1 : a * 256 + c < 4294967296) (hc : 0 ≤ c ∧ c ≤ 255) : Go.bits .or .u32 ((a * 256) % 4294967296) (c % 4294967296) = a * 256 + c := by
 rw [Int.emod_eq_of_lt (by omega) (by omega), Int.emod_eq_of_lt hc.1 (by omega)]
 obtain ⟨m, rfl⟩ := Int.eq_ofNat_of_zero_le h0
 obtain ⟨d, rfl⟩ := Int.eq_ofNat_of_zero_le hc.1
 have := u32_or_nat (m * 256) d (by omega) (by omega)
 rw [show ((m : Int) * 256) = ((m * 256 : Nat) : Int) by omega, this]
 have h2 : m * 256 ||| d = m * 256 + d := by
  have := Nat.shiftLeft_add_eq_or_of_lt (show d < 2 ^ 8 by omega) m
  rw [Nat.shiftLeft_eq] at this
  exact this.symm
 rw [h2]
 omega
theorem ev_number_loop (l : List Int) (hl : l.length ≤ 4) (hb : Byte8 l) : ∀ (m i : Nat) (n : Int), m + i = l.length → 0 ≤ n → n < 256 ^ i → Ev (fun k => frame_number.l0 k n l (l.length : Int) (i : Int)) (valFrom n (l.drop i))
 | 0, i, n, hi, h0, h1 => by
  refine Ev.step (f := fun _ => some n) (fun k => ?_) ?_
  ·simp only [frame_number.l0]
   rw [if_neg (by omega)]
  ·rw [List.drop_eq_nil_of_le (by omega)]
   exact Ev.now n
 | m + 1, i, n, hi, h0, h1 => by
  have hlt : i < l.length := by omega
  have hx := hb _ (List.getElem_mem hlt)
  have hrd : rd l (i : Int) = l[i] := by
   unfold rd
   rw [List.getD_eq_getElem?_getD, Int.toNat_natCast, List.getElem?_eq_getElem hlt]
   rfl
  have hpw : (256 : Int) ^ i ≤ 256 ^ 3 := by
   have : (256 : Nat) ^ i ≤ 256 ^ 3 := Nat.pow_le_pow_right (by decide) (by omega)
   have h := Int.ofNat_le.2 this
   rw [Int.natCast_pow, Int.natCast_pow] at h
   exact h
  have h7 : (256 : Int) ^ 3 = 16777216 := rfl
  have ih := ev_number_loop l hl hb m (i + 1) (n * 256 + l[i]) (by omega) (by omega) (by rw [pow256_succ]; omega)
  refine Ev.step (f := fun k => frame_number.l0 k (n * 256 + l[i]) l (l.length : Int) ((i + 1 : Nat) : Int)) (fun k => ?_) ?_
  ·simp only [frame_number.l0]
   rw [if_pos (by omega), if_pos (by omega), if_pos (by omega), hrd, or_byte32 n l[i] h0 (by omega) hx, wrap_okF (by omega) (by omega)]
   rfl
  ·rw [List.drop_eq_getElem_cons hlt]
   exact ih
theorem ev_number (l : List Int) (hl : l.length ≤ 4) (hb : Byte8 l) : Ev (fun k => frame_number.f k l) (valL l) := by
 unfold frame_number.f valL
 exact ev_number_loop l hl hb l.length 0 0 (by omega) (by omega) (by decide)
theorem number_calls (w : World) (A : Option Addr) (c : Nat) (l : List Int) (hl : l.length ≤ 4) (hb : Byte8 l) (hR : ReadsInt w .u8 A l.length l) (hc : l.length ≤ c) :
  Calls Tryd.prog 53 #[.slice A l.length c] w fun e w' => e = .returned (.int .u32 (valL l)) ∧ Drawn0 w w' := by
 obtain ⟨k, hk⟩ := (ev_number l hl hb).rounds
 exact frame_number.calls k A c l (valL l) w (Kd.C_of_reads (d := (0 : Int)) (h1 := fun _ => rfl) hR) hc hk
def headN (l : List Int) : Int := if l.length < 9 then 0 else 9 + valL (l.take 3)
theorem head_calls (w : World) (A : Option Addr) (c : Nat) (l : List Int) (hb : Byte8 l) (hR : ReadsInt w .u8 A l.length l) (hc : l.length ≤ c) :
  Calls Tryd.prog 25 #[.slice A l.length c] w fun e w' => e = .returned (.tuple #[.int .i64 (headN l), .bool (decide (9 ≤ l.length))]) ∧ Drawn0 w w' := by
 have hE : Ev (fun k => frame_Head.f k l) (headN l, decide (9 ≤ l.length)) := by
  unfold frame_Head.f headN
  by_cases h9 : l.length < 9
  ·simp only [show (l.length : Int) < 9 by omega, if_true, if_pos h9, decide_eq_false (show ¬ 9 ≤ l.length by omega)]
   exact Ev.now _
  ·have h3 : (l.take 3).length = 3 := by rw [List.length_take]; omega
   have hb3 : Byte8 (l.take 3) := fun x hx => hb x (List.mem_of_mem_take hx)
   have hv := valL_bound hb3
   rw [h3] at hv
   simp only [show ¬ (l.length : Int) < 9 by omega, if_false, if_neg h9, decide_eq_true (show 9 ≤ l.length by omega), show (3 : Int) ≤ (l.length : Int) by omega, if_true]
   refine Ev.bind (ev_number (l.take 3) (by omega) hb3) ?_
   have h16 : (256 : Int) ^ 3 = 16777216 := rfl
   rw [wrap_okF (x := valL (l.take 3)) (by omega) (by omega), wrap_okF (by omega) (by omega)]
   exact Ev.now _
 obtain ⟨k, hk⟩ := hE.rounds
 exact frame_Head.calls k A c l _ _ w (Kd.C_of_reads (d := (0 : Int)) (h1 := fun _ => rfl) hR) hc hk
structure Fr where
 ty : Int
 fl : Int
 st : Int
 data : List Int
 pad : Int
 code : Int
 oth : Int
 wgt : Int
 al : Bool
 win : Int
 sets : List S99
abbrev frC (F : Fr) (D S : Value) : Array Value := #[.int .u8 F.ty, .int .u8 F.fl, .int .u32 F.st, D, .int .i64 F.pad, .int .u32 F.code, .int .u32 F.oth, .int .u8 F.wgt, .bool F.al, .int .u32 F.win, S]
theorem size_calls (w : World) : Calls Tryd.prog 59 #[] w fun ev w' => ∃ v, ev = .returned v ∧ Below w.heap.size w w' ∧ Err w' 0 v 1 6 := by
 go_enter Tryd.func59, Tryd.ntmps59
 go_wp2_with (go_at_call 43; refine (conn_calls 6 _).mono ?_; rintro e w1 ⟨v, rfl, hb, hE⟩; have HX := Lib.hid (And.intro hb hE); clear hb hE)
 go_ret
 exact ⟨_, rfl, HX.out⟩
theorem protocol_calls (w : World) : Calls Tryd.prog 77 #[] w fun ev w' => ∃ v, ev = .returned v ∧ Below w.heap.size w w' ∧ Err w' 0 v 1 1 := by
 go_enter Tryd.func77, Tryd.ntmps77
 go_wp2_with (go_at_call 43; refine (conn_calls 1 _).mono ?_; rintro e w1 ⟨v, rfl, hb, hE⟩; have HX := Lib.hid (And.intro hb hE); clear hb hE)
 go_ret
 exact ⟨_, rfl, HX.out⟩
def winS (F : Fr) : Int := if F.win > 0 then 0 else if F.st > 0 then 2 else 1
def winC (F : Fr) : Int := if F.win > 0 then 0 else 1
theorem window_calls (w : World) (F : Fr) (D S : Value) : Calls Tryd.prog 81 #[.agg (frC F D S)] w fun ev w' => ∃ v, ev = .returned v ∧ Below w.heap.size w w' ∧ EO w' v (winS F) (winC F) := by
 refine of_post0 fun R hRR => ?_
 have HP := Lib.hid hRR
 clear hRR
 by_cases h1 : F.win > 0
 ·have e1 : winS F = 0 := if_pos h1
  have e2 : winC F = 0 := if_pos h1
  have b1 : decide (0 < F.win) = true := by rw [decide_eq_true_iff]; exact h1
  have HE := Lib.hid (And.intro e1 e2)
  clear e1 e2 h1
  go_enter Tryd.func81, Tryd.ntmps81
  go_wp2_with fail
  refine HP.out _ _ ⟨_, rfl, below_alloc (Below.refl _ _) _, ?_⟩
  rw [HE.out.1, HE.out.2]
  exact EO.none_ _
 ·by_cases h2 : F.st > 0
  ·have e1 : winS F = 2 := by unfold winS; rw [if_neg h1, if_pos h2]
   have e2 : winC F = 1 := if_neg h1
   have b1 : decide (0 < F.win) = false := by rw [decide_eq_false_iff_not]; exact h1
   have b2 : decide (0 < F.st) = true := by rw [decide_eq_true_iff]; exact h2
   have HE := Lib.hid (And.intro e1 e2)
   clear e1 e2 h1 h2
   go_enter Tryd.func81, Tryd.ntmps81
   go_wp2_with fail
   refine (stream_calls 1 _).mono ?_
   rintro e w1 ⟨v, rfl, hb, hE⟩
   have HX := Lib.hid (And.intro ((below_alloc (Below.refl w.heap.size w) (.cells (frC F D S) 38)).trans (hb.mono (by simp))) hE)
   clear hb hE
   go_wp2_with fail
   refine HP.out _ _ ⟨_, rfl, HX.out.1, ?_⟩
   rw [HE.out.1, HE.out.2]
   exact EO.some_ HX.out.2
  ·have e1 : winS F = 1 := by unfold winS; rw [if_neg h1, if_neg h2]
   have e2 : winC F = 1 := if_neg h1
   have b1 : decide (0 < F.win) = false := by rw [decide_eq_false_iff_not]; exact h1
   have b2 : decide (0 < F.st) = false := by rw [decide_eq_false_iff_not]; exact h2
   have HE := Lib.hid (And.intro e1 e2)
   clear e1 e2 h1 h2
   go_enter Tryd.func81, Tryd.ntmps81
   go_wp2_with fail
   refine (protocol_calls _).mono ?_
   rintro e w1 ⟨v, rfl, hb, hE⟩
   have HX := Lib.hid (And.intro ((below_alloc (Below.refl w.heap.size w) (.cells (frC F D S) 38)).trans (hb.mono (by simp))) hE)
   clear hb hE
   go_wp2_with fail
   refine HP.out _ _ ⟨_, rfl, HX.out.1, ?_⟩
   rw [HE.out.1, HE.out.2]
   exact EO.some_ HX.out.2
end Go.Proofs.YtjjfkmniffbgkaaDoor

/- What bytes.Clone gives. -/
namespace Go.Proofs.YtjjfkmniffbgkaaDoor
set_option linter.unusedVariables false
set_option linter.unusedSimpArgs false
open Go.RowKit Go.Proofs.YtjjfkmniffbgkaaDoorW.PrintWords
theorem Tryd.infoB8 : (Tryd.prog.info? 5).map (fun i => (i.zero, i.size, i.bytes)) = some (some (.int .u8 0), 1, 1) := by kernel_rfl
theorem clone_calls (w : World) (A : Option Addr) (n c : Nat) (data : List Int) (hR : ReadsInt w .u8 A n data) (hn : n ≤ 100000) :
  Calls Tryd.prog 68 #[.slice A n c] w fun ev w' => ∃ v, ev = .returned v ∧ w'.ownsRow w.heap.size 5 1 v data.length (nums .u8 data) ∧ Below w.heap.size w w' := by
 refine of_post0 fun R hRR => ?_
 have HP := Lib.hid hRR
 clear hRR
 have q : ∀ (w : World) (a : Option Addr) (n c n' c' : Nat), (binOp .eql 35 (.slice a n c) (.slice none n' c')).run Tryd.prog w = .ok (.bool a.isNone) w := fun w a n c n' c' => Lib.run_eql_slice_nil w _ _ a n c n' c' Tryd.underlying35
 cases A with
 | none =>
  have hm0 : n = 0 := Nat.eq_zero_of_not_pos fun h => by obtain ⟨_, h1, _⟩ := hR.2.2 h; cases h1
  have hy : data = [] := List.eq_nil_of_length_eq_zero (by have := hR.1; omega)
  subst hm0 hy
  clear hR
  go_enter Tryd.func68, Tryd.ntmps68
  go_wp2
  exact HP.out _ _ ⟨_, rfl, own_nil _ _ _ _, Below.refl _ _⟩
 | some ad =>
  have hR1 : ReadsInt (w.alloc (.cells #[] 5)) .u8 (some ad) n data := hR.below ((Below.refl w.heap.size w).alloc (Nat.le_refl _) _)
  have hO := own_empty w w.heap.size 5 (Nat.le_refl _)
  have hl : data.length = n := hR.1
  have HL := Lib.hid hl
  clear hR hl
  go_enter Tryd.func68, Tryd.ntmps68
  go_wp2_with (at_builtin; refine list_append_row _ (by rfl) (.tmp 5) (.tmp 6) 35 (by rfl) w.heap.size 5 .u8 1 Tryd.underlying35 Tryd.infoB8 (by decide) (.slice (some ⟨w.heap.size, 0, none⟩) 0 0) [] data (some ad) n c (by rfl) (by rfl) hO hR1 (by simp) (by simp; omega) ?_; intro v1 w2 hown hgrow hat; have H7 := Lib.hid (And.intro hown hgrow); clear hown hgrow hat)
  refine HP.out _ _ ⟨v1, rfl, H7.out.1, ?_⟩
  exact ((Below.refl w.heap.size w).alloc (Nat.le_refl _) _).grown H7.out.2 (by simp) (fun k hk => by simp [Value.ownBlock] at hk; omega)
end Go.Proofs.YtjjfkmniffbgkaaDoor

/- frame.streams, frame.unpad, frame.leaned, walked. -/
namespace Go.Proofs.YtjjfkmniffbgkaaDoor
set_option linter.unusedVariables false
set_option linter.unusedSimpArgs false
open Go.RowKit Go.Proofs.YtjjfkmniffbgkaaDoorW.PrintWords Go.Proofs.YtjjfkmniffbgkaaDoorW.PrintLast Go.Proofs.YtjjfkmniffbgkaaDoorW.PrintMore Go.Proofs.YtjjfkmniffbgkaaDoor.QFrmA Go.Extern.Stop Go.Stop Go.Extern
def stBad (ty st : Int) : Bool := if ty = 0 ∨ ty = 1 ∨ ty = 2 ∨ ty = 3 ∨ ty = 5 ∨ ty = 9 then st == 0 else if ty = 4 ∨ ty = 6 ∨ ty = 7 then st != 0 else false
theorem stBad_a {ty st : Int} (h : ty = 0 ∨ ty = 1 ∨ ty = 2 ∨ ty = 3 ∨ ty = 5 ∨ ty = 9) : stBad ty st = (st == 0) := if_pos h
theorem stBad_b {ty st : Int} (h : ty = 4 ∨ ty = 6 ∨ ty = 7) : stBad ty st = (st != 0) := by
 unfold stBad
 rw [if_neg (by omega), if_pos h]
theorem pads_calls (w : World) (ty : Int) : Calls Tryd.prog 48 #[.int .u8 ty] w fun e w' => e = .returned (.bool (decide (ty = 0 ∨ ty = 1 ∨ ty = 5))) ∧ Drawn0 w w' := by
 refine frame_pads.calls ty _ w ?_
 unfold frame_pads.f
 by_cases h0 : ty = 0
 ·simp [h0]
 ·by_cases h1 : ty = 1
  ·simp [h1]
  ·rw [if_neg h0, if_neg h1]
   congr 1
   rw [Bool.eq_iff_iff, beq_iff_eq, decide_eq_true_iff]
   omega
structure IsFr (w : World) (g : Nat) (F : Fr) (D S : Value) : Prop where
 blk : w.heap[g]? = some (.cells (frC F D S) 38 (0, 0))
inductive Unp where
 | bad (code : Int)
 | ok (from_ len : Nat) (pad : Int)
def unpadR (ty fl pad : Int) (l : List Int) : Unp :=
 if (ty = 0 ∨ ty = 1 ∨ ty = 5) ∧ Go.bits .and .u8 fl 8 ≠ 0 then
  if l.length = 0 then .bad 6 else if (l.length : Int) - 1 < l.getD 0 0 then .bad 1 else .ok 1 (l.length - 1 - (l.getD 0 0).toNat) (l.getD 0 0)
 else .ok 0 l.length pad
def KReads (w : World) (g : Nat) (A : Option Addr) (l : List Int) : Prop := ∀ W, KeepBut w W g none → ReadsInt W .u8 A l.length l
theorem KReads.of {w : World} {g : Nat} {A : Option Addr} {l : List Int} (hR : ReadsInt w .u8 A l.length l) (hE : Elsewhere A l.length g) : KReads w g A l := fun _ hK => reads_keep hR hK hE
theorem KReads.now {w : World} {g : Nat} {A : Option Addr} {l : List Int} (h : KReads w g A l) : ReadsInt w .u8 A l.length l := h w (KeepBut.refl _ _ _)
theorem KReads.keep {w W : World} {g : Nat} {A : Option Addr} {l : List Int} (h : KReads w g A l) (hK : KeepBut w W g none) : KReads W g A l := fun W' hK' => h W' (hK.trans hK' (.inl rfl))
def UnpadPost (w : World) (base g : Nat) (F : Fr) (D S : Value) (l : List Int) (r : Unp) (e : Ending) (w' : World) : Prop :=
 (KeepBut w w' g none ∧ Below base w w') ∧ match r with
 | .bad code => ∃ v, e = .returned (.tuple #[.slice none 0 0, v]) ∧ Err w' 0 v 1 code ∧ IsFr w' g F D S
 | .ok from_ n p => ∃ A' c', e = .returned (.tuple #[.slice A' n c', .nilIface]) ∧ ((l.drop from_).take n).length = n ∧ KReads w g A' ((l.drop from_).take n) ∧ n ≤ c' ∧ IsFr w' g { F with pad := p } D S
set_option maxHeartbeats 2000000 in
theorem unpad_plain (w : World) (base g : Nat) (F : Fr) (D S : Value) (A : Option Addr) (c : Nat) (l : List Int) (hF : IsFr w g F D S) (hR : KReads w g A l) (hc : l.length ≤ c)
  (hn : ¬ ((F.ty = 0 ∨ F.ty = 1 ∨ F.ty = 5) ∧ Go.bits .and .u8 F.fl 8 ≠ 0)) :
  Calls Tryd.prog 78 #[.pointer (some ⟨g, 0, none⟩), .slice A l.length c] w (UnpadPost w base g F D S l (.ok 0 l.length F.pad)) := by
 refine of_post0 fun R hRR => ?_
 have HP := Lib.hid hRR
 have HF := Lib.hid hF
 have HR := Lib.hid (And.intro hR hc)
 have q0 := blk_cell hF.blk 0
 have q1 := blk_cell hF.blk 1
 simp at q0 q1
 have HQ : ∀ n, UnpadPost w base g F D S l (.ok 0 l.length F.pad) (.returned (.tuple #[.slice A l.length c, .nilIface])) (w.drewN n) := fun n =>
  ⟨⟨KeepBut.refl w g none, by apply pw_below_drewN; exact Below.refl _ _⟩, A, c, rfl, by rw [List.drop_zero, List.take_length], by rw [List.drop_zero, List.take_length]; exact HR.out.1, HR.out.2, ⟨HF.out.blk⟩⟩
 have HQQ := Lib.hid HQ
 by_cases hp : F.ty = 0 ∨ F.ty = 1 ∨ F.ty = 5
 ·have b1 : (Go.bits .and .u8 F.fl 8 == 0) = true := by
   rw [beq_iff_eq]
   exact Classical.byContradiction fun h => hn ⟨hp, h⟩
  have HD := Lib.hid (decide_eq_true hp)
  clear hRR hF hR hn hp HQ
  go_enter Tryd.func78, Tryd.ntmps78
  go_wp2_with fail
  refine (pads_calls _ F.ty).mono ?_
  rintro e w1 ⟨rfl, n, rfl⟩
  rw [HD.out]
  go_wp2_with fail
  exact HP.out _ _ (HQQ.out n)
 ·have HD := Lib.hid (decide_eq_false hp)
  clear hRR hF hR hn hp HQ
  go_enter Tryd.func78, Tryd.ntmps78
  go_wp2_with fail
  refine (pads_calls _ F.ty).mono ?_
  rintro e w1 ⟨rfl, n, rfl⟩
  rw [HD.out]
  go_wp2_with fail
  exact HP.out _ _ (HQQ.out n)
set_option maxHeartbeats 2000000 in
theorem unpad_bad (w : World) (base g : Nat) (hbw : base ≤ w.heap.size) (F : Fr) (D S : Value) (A : Option Addr) (c : Nat) (l : List Int) (hF : IsFr w g F D S) (hR : KReads w g A l) (hc : l.length ≤ c) (hby : Byte8 l) (hl : l.length ≤ 100000)
  (hp : (F.ty = 0 ∨ F.ty = 1 ∨ F.ty = 5) ∧ Go.bits .and .u8 F.fl 8 ≠ 0) (hb : l.length = 0 ∨ (l.length : Int) - 1 < l.getD 0 0) :
  Calls Tryd.prog 78 #[.pointer (some ⟨g, 0, none⟩), .slice A l.length c] w (UnpadPost w base g F D S l (.bad (if l.length = 0 then 6 else 1))) := by
 refine of_post0 fun R hRR => ?_
 have HP := Lib.hid hRR
 have HF := Lib.hid hF
 have q0 := blk_cell hF.blk 0
 have q1 := blk_cell hF.blk 1
 simp at q0 q1
 have b1 : (Go.bits .and .u8 F.fl 8 == 0) = false := by rw [beq_eq_false_iff_ne]; exact hp.2
 have HD := Lib.hid (decide_eq_true hp.1)
 by_cases h0 : l.length = 0
 ·have b2 : (l.length == 0) = true := by rw [beq_iff_eq]; exact h0
  have b3 : ((l.length : Int) == 0) = true := by rw [beq_iff_eq]; omega
  have H0 := Lib.hid h0
  clear hRR hF hR hb hp h0
  go_enter Tryd.func78, Tryd.ntmps78
  go_wp2_with fail
  refine (pads_calls _ F.ty).mono ?_
  rintro e w1 ⟨rfl, n, rfl⟩
  rw [HD.out]
  go_wp2_with fail
  refine (size_calls _).mono ?_
  rintro e w2 ⟨v, rfl, hb2, hE2⟩
  have H2 := Lib.hid (And.intro ((show Below w.heap.size w (w.drewN n) from by apply pw_below_drewN; exact Below.refl _ _).trans (hb2.mono (Nat.le_refl _))) hE2)
  obtain ⟨T, p, rfl⟩ := hE2.form
  clear hb2 hE2
  go_wp2_with fail
  refine HP.out _ _ ?_
  rw [if_pos H0.out]
  exact ⟨⟨KeepBut.of_below H2.out.1 g none, H2.out.1.mono hbw⟩, _, rfl, H2.out.2, ⟨blk_below HF.out.blk H2.out.1⟩⟩
 ·have b2 : (l.length == 0) = false := by rw [beq_eq_false_iff_ne]; exact h0
  have b3 : ((l.length : Int) == 0) = false := by rw [beq_eq_false_iff_ne]; omega
  have hx := hby (l.getD 0 0) (by cases l with | nil => simp at h0 | cons a l => simp)
  have hb' : (l.length : Int) - 1 < l.getD 0 0 := hb.resolve_left h0
  obtain ⟨ad, rfl, hcc⟩ := hR.now.2.2 (by omega)
  have hc0 := hcc 0 (by omega)
  have ha : ad.add 0 = ad := by unfold Addr.add; rfl
  rw [ha] at hc0
  obtain ⟨i0, hi, _, hsz, _⟩ := info_parts Tryd.infoB8
  obtain ⟨A1, hcut1, hr1, hm1⟩ := print_drop_of (P := Tryd.prog) (Value.int .u8) (0 : Int) 35 5 .i64 Tryd.underlying35 hi hsz (some ad) c l 1 (by decide) (by omega) hc
  rw [show (1 : Int).toNat = 1 from rfl] at hcut1
  have hL1 : ((l.drop 1).length : Int) = (l.length : Int) - 1 := by rw [List.length_drop]; omega
  generalize l.getD 0 0 = x at *
  generalize l.drop 1 = L1 at *
  have hl1 : L1.length ≤ 100000 := by omega
  have b4 : decide ((L1.length : Int) < x) = true := by rw [decide_eq_true_iff]; omega
  have b5 : (0 : Int) < (l.length : Int) := by omega
  have b6 : 0 < l.length := by omega
  have b7 : (1 : Int) ≤ (l.length : Int) := by omega
  have H0 := Lib.hid h0
  clear hRR hF hR hb hp h0 hcc ha hi hsz hr1 hm1 hL1 hb' hby
  go_enter Tryd.func78, Tryd.ntmps78
  go_wp2_with fail
  refine (pads_calls _ F.ty).mono ?_
  rintro e w1 ⟨rfl, n, rfl⟩
  rw [HD.out]
  go_wp2_with fail
  refine (protocol_calls _).mono ?_
  rintro e w2 ⟨v, rfl, hb2, hE2⟩
  have H2 := Lib.hid (And.intro ((show Below w.heap.size w (w.drewN n) from by apply pw_below_drewN; exact Below.refl _ _).trans (hb2.mono (Nat.le_refl _))) hE2)
  obtain ⟨T, p, rfl⟩ := hE2.form
  clear hb2 hE2
  go_wp2_with fail
  refine HP.out _ _ ?_
  rw [if_neg H0.out]
  exact ⟨⟨KeepBut.of_below H2.out.1 g none, H2.out.1.mono hbw⟩, _, rfl, H2.out.2, ⟨blk_below HF.out.blk H2.out.1⟩⟩
set_option maxHeartbeats 2000000 in
theorem unpad_ok (w : World) (base g : Nat) (hbg : base ≤ g) (F : Fr) (D S : Value) (A : Option Addr) (c : Nat) (l : List Int) (hF : IsFr w g F D S) (hR : KReads w g A l) (hc : l.length ≤ c) (hby : Byte8 l) (hl : l.length ≤ 100000)
  (hp : (F.ty = 0 ∨ F.ty = 1 ∨ F.ty = 5) ∧ Go.bits .and .u8 F.fl 8 ≠ 0) (h0 : ¬ l.length = 0) (hb : ¬ (l.length : Int) - 1 < l.getD 0 0) :
  Calls Tryd.prog 78 #[.pointer (some ⟨g, 0, none⟩), .slice A l.length c] w (UnpadPost w base g F D S l (.ok 1 (l.length - 1 - (l.getD 0 0).toNat) (l.getD 0 0))) := by
 refine of_post0 fun R hRR => ?_
 have HP := Lib.hid hRR
 have HF := Lib.hid hF
 have q0 := blk_cell hF.blk 0
 have q1 := blk_cell hF.blk 1
 have q4 := blk_cell hF.blk 4
 have f4 := blk_frozen hF.blk 4
 simp at q0 q1 q4
 have b1 : (Go.bits .and .u8 F.fl 8 == 0) = false := by rw [beq_eq_false_iff_ne]; exact hp.2
 have HD := Lib.hid (decide_eq_true hp.1)
 have b2 : (l.length == 0) = false := by rw [beq_eq_false_iff_ne]; exact h0
 have b3 : ((l.length : Int) == 0) = false := by rw [beq_eq_false_iff_ne]; omega
 have hx := hby (l.getD 0 0) (by cases l with | nil => simp at h0 | cons a l => simp)
 obtain ⟨i0, hi, _, hsz, _⟩ := info_parts Tryd.infoB8
 obtain ⟨A1, hcut1, hr1, hm1⟩ := print_drop_of (P := Tryd.prog) (Value.int .u8) (0 : Int) 35 5 .i64 Tryd.underlying35 hi hsz A c l 1 (by decide) (by omega) hc
 rw [show (1 : Int).toNat = 1 from rfl] at hcut1 hr1 hm1
 have hL1 : (l.drop 1).length = l.length - 1 := List.length_drop
 have hK1 : KReads w g A1 (l.drop 1) := fun W hW => hr1 W (hR W hW)
 obtain ⟨ad, rfl, hcc⟩ := hR.now.2.2 (by omega)
 have hc0 := hcc 0 (by omega)
 have ha : ad.add 0 = ad := by unfold Addr.add; rfl
 rw [ha] at hc0
 generalize l.getD 0 0 = x at *
 obtain ⟨hcut2, hr2, hm2⟩ := print_take_int (P := Tryd.prog) (k := .u8) 35 5 Tryd.underlying35 hi hsz A1 (c - 1) (l.drop 1) (((l.drop 1).length : Int) - x) (by omega) (by omega) hm1
 have hn : (((l.drop 1).length : Int) - x).toNat = l.length - 1 - x.toNat := by omega
 have hnl : ((l.drop 1).take (l.length - 1 - x.toNat)).length = l.length - 1 - x.toNat := by rw [List.length_take]; omega
 have hK2 : KReads w g A1 ((l.drop 1).take (l.length - 1 - x.toNat)) := fun W hW => by
  have := hr2 W (hK1 W hW)
  rw [hn] at this
  exact this
 rw [hn, hnl] at hcut2
 have HK2 := Lib.hid (And.intro hnl (And.intro hK2 (show l.length - 1 - x.toNat ≤ c - 1 by omega)))
 obtain ⟨n2, hn2⟩ : ∃ n2, l.length - 1 - x.toNat = n2 := ⟨_, rfl⟩
 rw [hn2] at hcut2 HK2 HP
 obtain ⟨L1, hL⟩ : ∃ L1, l.drop 1 = L1 := ⟨_, rfl⟩
 rw [hL] at hcut1 hcut2 hL1
 have hl1 : L1.length ≤ 100000 := by omega
 have b4 : decide ((L1.length : Int) < x) = false := by rw [decide_eq_false_iff_not]; omega
 have b5 : (0 : Int) < (l.length : Int) := by omega
 have b6 : 0 < l.length := by omega
 have b7 : (1 : Int) ≤ (l.length : Int) := by omega
 have b8 : x ≤ (L1.length : Int) := by omega
 have b9 : (0 : Int) ≤ (L1.length : Int) - x := by omega
 clear hRR hF hR hb hp h0 hcc ha hi hsz hr1 hm1 hL1 hby hr2 hm2 hn hnl hK1 hK2 hL hn2
 go_enter Tryd.func78, Tryd.ntmps78
 go_wp2_with fail
 refine (pads_calls _ F.ty).mono ?_
 rintro e w1 ⟨rfl, n, rfl⟩
 rw [HD.out]
 go_wp2_with fail
 exact HP.out _ _ ⟨⟨(show KeepBut w (w.drewN n) g none from KeepBut.refl w g none).set_ 4 _, (show Below base w (w.drewN n) from by apply pw_below_drewN; exact Below.refl _ _).setCell (p := ⟨g, 4, none⟩) hbg _⟩, A1, c - 1, rfl, HK2.out.1, HK2.out.2.1, HK2.out.2.2, ⟨blk_set (blk_drewN HF.out.blk n) 4 _⟩⟩
theorem unpad_calls (w : World) (base g : Nat) (hbg : base ≤ g) (hbw : base ≤ w.heap.size) (F : Fr) (D S : Value) (A : Option Addr) (c : Nat) (l : List Int) (hF : IsFr w g F D S) (hR : KReads w g A l) (hc : l.length ≤ c) (hby : Byte8 l) (hl : l.length ≤ 100000) :
  Calls Tryd.prog 78 #[.pointer (some ⟨g, 0, none⟩), .slice A l.length c] w (UnpadPost w base g F D S l (unpadR F.ty F.fl F.pad l)) := by
 unfold unpadR
 by_cases hp : (F.ty = 0 ∨ F.ty = 1 ∨ F.ty = 5) ∧ Go.bits .and .u8 F.fl 8 ≠ 0
 ·rw [if_pos hp]
  by_cases h0 : l.length = 0
  ·rw [if_pos h0]
   have := unpad_bad w base g hbw F D S A c l hF hR hc hby hl hp (.inl h0)
   rw [if_pos h0] at this
   exact this
  ·rw [if_neg h0]
   by_cases hb : (l.length : Int) - 1 < l.getD 0 0
   ·rw [if_pos hb]
    have := unpad_bad w base g hbw F D S A c l hF hR hc hby hl hp (.inr hb)
    rw [if_neg h0] at this
    exact this
   ·rw [if_neg hb]
    exact unpad_ok w base g hbg F D S A c l hF hR hc hby hl hp h0 hb
 ·rw [if_neg hp]
  exact unpad_plain w base g F D S A c l hF hR hc hp

theorem low31 {v : Int} (h0 : 0 ≤ v) (h1 : v < 4294967296) : bits .andNot .u32 v 2147483648 = v % 2147483648 := by
 rw [u32_andNot v 2147483648 h0 h1 (by decide) (by decide)]
 rw [show 4294967295 - (2147483648 : Int).toNat = 2 ^ 31 - 1 from rfl, Nat.and_two_pow_sub_one_eq_mod]
 omega
def leanF (F : Fr) (l : List Int) : Fr := { F with al := decide (2147483648 ≤ valL (l.take 4)), oth := valL (l.take 4) % 2147483648, wgt := l.getD 4 0 }
set_option maxHeartbeats 2000000 in
set_option maxRecDepth 100000 in
theorem leaned_calls (w : World) (base g : Nat) (hbg : base ≤ g) (F : Fr) (D S : Value) (A : Option Addr) (c : Nat) (l : List Int) (hF : IsFr w g F D S) (hR : KReads w g A l) (hc : l.length ≤ c) (hby : Byte8 l) (hl : l.length ≤ 100000) (h5 : 5 ≤ l.length) :
  Calls Tryd.prog 82 #[.pointer (some ⟨g, 0, none⟩), .slice A l.length c] w fun e w' => ∃ A' c', e = .returned (.slice A' (l.drop 5).length c') ∧ KReads w g A' (l.drop 5) ∧ (l.drop 5).length ≤ c' ∧ IsFr w' g (leanF F l) D S ∧ KeepBut w w' g none ∧ Below base w w' := by
 refine of_post0 fun R hRR => ?_
 have HP := Lib.hid hRR
 have HF := Lib.hid hF
 have q6 := blk_cell hF.blk 6
 have q7 := blk_cell hF.blk 7
 have q8 := blk_cell hF.blk 8
 have f6 := blk_frozen hF.blk 6
 have f7 := blk_frozen hF.blk 7
 have f8 := blk_frozen hF.blk 8
 simp at q6 q7 q8
 obtain ⟨i0, hi, _, hsz, _⟩ := info_parts Tryd.infoB8
 obtain ⟨hcut1, hr1, hm1⟩ := print_take_int (P := Tryd.prog) (k := .u8) 35 5 Tryd.underlying35 hi hsz A c l 4 (by decide) (by omega) hc
 obtain ⟨A2, hcut2, hr2, hm2⟩ := print_drop_of (P := Tryd.prog) (Value.int .u8) (0 : Int) 35 5 .i64 Tryd.underlying35 hi hsz A c l 5 (by decide) (by omega) hc
 rw [show (4 : Int).toNat = 4 from rfl] at hcut1 hr1 hm1
 rw [show (5 : Int).toNat = 5 from rfl] at hcut2 hr2 hm2
 have hK2 : KReads w g A2 (l.drop 5) := fun W hW => hr2 W (hR W hW)
 have h4 : (l.take 4).length = 4 := by rw [List.length_take]; omega
 have hb4 : Byte8 (l.take 4) := fun x hx => hby x (List.mem_of_mem_take hx)
 have hv := valL_bound hb4
 rw [h4] at hv
 have h256 : (256 : Int) ^ 4 = 4294967296 := rfl
 have hV := number_calls w A c (l.take 4) (by omega) hb4 (hr1 w hR.now) hm1
 have hlow := low31 hv.1 (by omega : valL (l.take 4) < 4294967296)
 have hge : ∃ d : Bool, decide (2147483648 ≤ valL (l.take 4)) = d := ⟨_, rfl⟩
 obtain ⟨d, hd⟩ := hge
 have HLF := Lib.hid (show leanF F l = { F with al := d, oth := valL (l.take 4) % 2147483648, wgt := l.getD 4 0 } by unfold leanF; rw [hd])
 obtain ⟨ad, rfl, hcc⟩ := hR.now.2.2 (by omega)
 have hc4 := hcc 4 (by omega)
 have ha : ad.add 4 = ⟨ad.block, ad.off + 4, none⟩ := by unfold Addr.add; rfl
 rw [ha] at hc4
 generalize l.getD 4 0 = x at hc4 HLF
 generalize valL (l.take 4) = v at hV hlow hd HLF
 generalize l.take 4 = L1 at hV hcut1
 have HV := Lib.hid hV
 have HK2 := Lib.hid (And.intro hK2 hm2)
 obtain ⟨n2, hn2⟩ : ∃ n2, (l.drop 5).length = n2 := ⟨_, rfl⟩
 rw [hn2] at hcut2
 have HN := Lib.hid hn2
 have b5 : (4 : Int) < (l.length : Int) := by omega
 have b6 : 4 < l.length := by omega
 have b7 : (4 : Int) ≤ (l.length : Int) := by omega
 have b8 : (5 : Int) ≤ (l.length : Int) := by omega
 clear hRR hF hR hcc ha hi hsz hr1 hm1 hby hr2 hm2 hK2 h4 hb4 hv h256 hV hn2
 go_enter Tryd.func82, Tryd.ntmps82
 go_wp2_with fail
 refine HV.out.mono ?_
 rintro e w1 ⟨rfl, n, rfl⟩
 go_wp2_with fail
 refine HP.out _ _ ⟨A2, c - 5, by rw [HN.out]; rfl, HK2.out.1, HK2.out.2, ?_, (((show KeepBut w (w.drewN n) g none from KeepBut.refl w g none).set_ 8 _).set_ 6 _).set_ 7 _, (((show Below base w (w.drewN n) from by apply pw_below_drewN; exact Below.refl _ _).setCell (p := ⟨g, 8, none⟩) hbg _).setCell (p := ⟨g, 6, none⟩) hbg _).setCell (p := ⟨g, 7, none⟩) hbg _⟩
 rw [HLF.out]
 exact ⟨blk_set (blk_set (blk_set (blk_drewN HF.out.blk n) 8 _) 6 _) 7 _⟩

def parseS : Nat → List Int → List S99
 | 0, _ => []
 | m + 1, l => ⟨valL (l.take 2), valL ((l.take 6).drop 2)⟩ :: parseS m (l.drop 6)
structure SetW (w : World) (g : Nat) (F : Fr) (D S : Value) (A : Option Addr) (L : List Int) (xs : List S99) (wr : World) : Prop where
 rd : KReads w g A L
 fr : IsFr wr g { F with sets := xs } D S
 row : k99.R 99 wr w.heap.size (fun k => k ≠ g) S xs
 keep : KeepBut w wr g none
 below : Below g w wr
theorem Tryd.infoS : (Tryd.prog.info? 99).map (fun i => (i.zero, i.size, i.bytes)) = some (some (.agg #[.int .u16 0, .int .u32 0]), 2, 8) := by kernel_rfl
theorem SetW.now {w : World} {g : Nat} {F : Fr} {D S : Value} {A : Option Addr} {L : List Int} {xs : List S99} {wr : World} (h : SetW w g F D S A L xs wr) : ReadsInt wr .u8 A L.length L := h.rd wr h.keep
theorem SetW.sz {w : World} {g : Nat} {F : Fr} {D S : Value} {A : Option Addr} {L : List Int} {xs : List S99} {wr : World} (h : SetW w g F D S A L xs wr) : w.heap.size ≤ wr.heap.size := h.keep.1
theorem SetW.step {w : World} {g : Nat} {F : Fr} {D S : Value} {A : Option Addr} {L : List Int} {xs : List S99} {wr wn : World} (h : SetW w g F D S A L xs wr) (hb : Below wr.heap.size wr wn) : SetW w g F D S A L xs wn :=
 ⟨h.rd, ⟨blk_below h.fr.blk hb⟩, Kd.R_below h.row hb, h.keep.trans (KeepBut.of_below hb g none) (.inl rfl), h.below.trans (hb.mono (Nat.le_of_lt (blk_lt h.fr.blk)))⟩
theorem SetW.drewN {w : World} {g : Nat} {F : Fr} {D S : Value} {A : Option Addr} {L : List Int} {xs : List S99} {wr : World} (h : SetW w g F D S A L xs wr) (n : Nat) : SetW w g F D S A L xs (wr.drewN n) := h.step (pw_below_drewN (Below.refl wr.heap.size wr) n)
theorem SetW.more {w : World} {g : Nat} {F : Fr} {D S : Value} {A A' : Option Addr} {L L' : List Int} {xs : List S99} {wx w1 : World} {v1 : Value} {x : S99} (h : SetW w g F D S A L xs wx) (hg : g < w.heap.size) (hK : KReads w g A L → KReads w g A' L')
  (hrow : k99.R 99 w1 w.heap.size (fun k => k ≠ g) v1 (xs ++ [x])) (hbel : Below w.heap.size wx w1) (hgrow : wx.grownBy w1 S.ownBlock) : SetW w g F D v1 A' L' (xs ++ [x]) (w1.setCell ⟨g, 10, none⟩ v1) := by
 have hne : some g ≠ S.ownBlock := Kd.R_away h.row (fun k hk => hk)
 have hb := (hgrow.block g (blk_lt h.fr.blk) hne).trans h.fr.blk
 have hk : KeepBut w w1 g none := ⟨Nat.le_trans h.keep.1 hbel.size, fun k hk hn hr => (hbel.block k hk).trans (h.keep.2 k hk hn hr)⟩
 exact ⟨hK h.rd, ⟨blk_set hb 10 v1⟩, Kd.R_far hrow (fun k hk => hk) v1, hk.set_ 10 v1, (h.below.trans (hbel.mono (Nat.le_of_lt hg))).setCell (p := ⟨g, 10, none⟩) (Nat.le_refl g) v1⟩
def SetRel (w : World) (g n : Nat) (F : Fr) (D : Value) (l : List Int) (m : Nat) (bv : Value) (wr : World) : Prop :=
 ∃ A c L S xs, bv = .slice A L.length c ∧ L.length = 6 * m ∧ L.length ≤ c ∧ Byte8 L ∧ xs ++ parseS m L = parseS n l ∧ xs.length + m = n ∧ SetW w g F D S A L xs wr
set_option maxHeartbeats 2000000 in
set_option maxRecDepth 100000 in
theorem settings_go (w : World) (g : Nat) (hg : g < w.heap.size) (F : Fr) (D : Value) (A : Option Addr) (c n : Nat) (l : List Int) (hF : IsFr w g F D (.slice none 0 0)) (hs : F.sets = []) (hR : KReads w g A l) (hc : l.length ≤ c) (hby : Byte8 l) (hl : l.length ≤ 100000) (hn : l.length = 6 * n) (hack : Go.bits .and .u8 F.fl 1 = 0) :
  Calls Tryd.prog 80 #[.pointer (some ⟨g, 0, none⟩), .slice A l.length c] w fun e w' => e = .returned .nilIface ∧ ∃ S A L, SetW w g F D S A L (parseS n l) w' := by
 refine of_post0 fun R hRR => ?_
 have HP := Lib.hid hRR
 have HF := Lib.hid hF
 have q1 := blk_cell hF.blk 1
 simp at q1
 have b1 : (l.length : Int) % 6 = 0 := by omega
 have b2 : (Go.bits .and .u8 F.fl 1 != 0) = false := by rw [bne_eq_false_iff_eq]; exact hack
 have HR := Lib.hid (And.intro hR (And.intro hc (And.intro hby (And.intro hl (And.intro hn (And.intro hs hg))))))
 clear hRR hF hR hc hby hn hs hg
 go_enter Tryd.func80, Tryd.ntmps80
 go_wp2_with fail
 go_loopg [1] n (fun m bv wr => SetRel w g n F D l m bv wr)
 case atStart => exact ⟨A, c, l, .slice none 0 0, [], rfl, HR.out.2.2.2.2.1, HR.out.2.1, HR.out.2.2.1, rfl, by simp, HR.out.1, by rw [← HR.out.2.2.2.2.2.1]; exact HF.out, Kd.R_nil _ _ _ _ _, KeepBut.refl _ _ _, Below.refl _ _⟩
 case round =>
  obtain ⟨A1, c1, L, S, xs, rfl, hL6, hLc, hbL, hps, hxm, hW⟩ := hrel
  cases gk with
  | zero =>
   have d0 : decide (0 < L.length) = false := by rw [decide_eq_false_iff_not]; omega
   have HX := Lib.hid (And.intro hW hps)
   have hxs := hps
   clear hW hps hxs hL6 hLc hbL hxm
   go_wp2_with fail
   refine HP.out _ _ ⟨rfl, S, A1, L, ?_⟩
   have h := HX.out.2
   simp only [parseS, List.append_nil] at h
   rw [← h]
   exact HX.out.1
  | succ m =>
   have d0 : decide (0 < L.length) = true := by rw [decide_eq_true_iff]; omega
   have d1 : 0 < L.length := by omega
   have hgw := HR.out.2.2.2.2.2.2
   obtain ⟨i0, hi, _, hsz, _⟩ := info_parts Tryd.infoB8
   obtain ⟨hcut2, hr2, hm2⟩ := print_take_int (P := Tryd.prog) (k := .u8) 35 5 Tryd.underlying35 hi hsz A1 c1 L 2 (by decide) (by omega) hLc
   obtain ⟨A4, hcut4, hr4, hm4⟩ := print_mid_int (P := Tryd.prog) (k := .u8) 35 5 Tryd.underlying35 hi hsz A1 c1 L 2 6 (by decide) (by decide) (by omega) hLc
   obtain ⟨A6, hcut6, hr6, hm6⟩ := print_drop_of (P := Tryd.prog) (Value.int .u8) (0 : Int) 35 5 .i64 Tryd.underlying35 hi hsz A1 c1 L 6 (by decide) (by omega) hLc
   rw [show (2 : Int).toNat = 2 from rfl] at hcut2 hr2 hm2
   rw [show (2 : Int).toNat = 2 from rfl, show (6 : Int).toNat = 6 from rfl] at hcut4 hr4 hm4
   rw [show (6 : Int).toNat = 6 from rfl] at hcut6 hr6 hm6
   have hl2 : (L.take 2).length = 2 := by rw [List.length_take]; omega
   have hl4 : ((L.take 6).drop 2).length = 4 := by rw [List.length_drop, List.length_take]; omega
   have hl6 : (L.drop 6).length = 6 * m := by rw [List.length_drop]; omega
   have hb2 : Byte8 (L.take 2) := fun x hx => hbL x (List.mem_of_mem_take hx)
   have hb4 : Byte8 ((L.take 6).drop 2) := fun x hx => hbL x (List.mem_of_mem_take (List.mem_of_mem_drop hx))
   have hb6 : Byte8 (L.drop 6) := fun x hx => hbL x (List.mem_of_mem_drop hx)
   have hps' : xs ++ (⟨valL (L.take 2), valL ((L.take 6).drop 2)⟩ :: parseS m (L.drop 6)) = parseS n l := hps
   have hv2 := valL_bound hb2
   rw [hl2, show (256 : Int) ^ 2 = 65536 from rfl] at hv2
   have hN2 : ∀ W, ReadsInt W .u8 A1 L.length L → Calls Tryd.prog 53 #[.slice A1 (L.take 2).length c1] W fun e w' => e = .returned (.int .u32 (valL (L.take 2))) ∧ Drawn0 W w' := fun W hK => number_calls W A1 c1 (L.take 2) (by omega) hb2 (hr2 W hK) hm2
   have hN4 : ∀ W, ReadsInt W .u8 A1 L.length L → Calls Tryd.prog 53 #[.slice A4 ((L.take 6).drop 2).length (c1 - 2)] W fun e w' => e = .returned (.int .u32 (valL ((L.take 6).drop 2))) ∧ Drawn0 W w' := fun W hK => number_calls W A4 (c1 - 2) ((L.take 6).drop 2) (by omega) hb4 (hr4 W hK) hm4
   have hK6 : KReads w g A1 L → KReads w g A6 (L.drop 6) := fun h W' hK' => hr6 W' (h W' hK')
   have hmod : IntKind.u16.wrap (valL (L.take 2)) = valL (L.take 2) := Int.emod_eq_of_lt hv2.1 hv2.2
   generalize valL (L.take 2) = a at hps' hN2 hmod
   generalize valL ((L.take 6).drop 2) = b at hps' hN4
   generalize L.take 2 = L2 at hcut2 hN2
   generalize (L.take 6).drop 2 = L4 at hcut4 hN4
   obtain ⟨L6, hL6e⟩ : ∃ L6, L.drop 6 = L6 := ⟨_, rfl⟩
   rw [hL6e] at hps' hcut6 hm6 hl6 hb6 hK6
   have HW := Lib.hid hW
   have HN2 := Lib.hid hN2
   have HN4 := Lib.hid hN4
   have HX := Lib.hid (And.intro hK6 (And.intro hps' (And.intro hxm (And.intro hl6 (And.intro hb6 (And.intro hm6 hgw))))))
   have hd2 : (2 : Int) ≤ (L.length : Int) := by omega
   have hd6 : (6 : Int) ≤ (L.length : Int) := by omega
   clear hW hps hps' hL6 hLc hbL hxm hi hsz hr2 hr4 hr6 hm2 hm4 hm6 hl2 hl4 hl6 hb2 hb4 hb6 hv2 hN2 hN4 hK6 hL6e hgw
   go_wp2_with fail
   have HY := Lib.hid (HW.out.step (below_drew (Below.refl _ _)))
   have q10 := blk_cell HY.out.fr.blk 10
   simp at q10
   refine start_ (n := 18) (S := fun w' => w'.cell? ⟨g, 10, none⟩ = some S) (ds := [17]) #[false, false, false, false, false, false, false, false, false, false, false, false, false, false, false, false, false, false] (by kernel_rfl) rfl rfl q10 (fun hHeld => ?_)
   generalize wr.drew = wy at HY hHeld ⊢
   refine pure_ (i := 0) (N := some 28) (v := ?_) (a' := ?_) #[true, false, false, false, false, false, false, false, false, false, false, false, false, false, false, false, false, false] rfl rfl (by kernel_rfl) (fun _ _ _ h => h) (Or.inl ⟨by rfl, ?_⟩) ?_ ?_
   rotate_left
   ·intro w'
    go_simp
    with_reducible rfl
   rotate_left
   ·simp only [Act.put, putA, putB, putC]
    rfl
   refine pure_ (i := 1) (N := some 29) (v := ?_) (a' := ?_) #[true, true, false, false, false, false, false, false, false, false, false, false, false, false, false, false, false, false] rfl rfl (by kernel_rfl) (fun _ _ _ h => h) (Or.inl ⟨by rfl, ?_⟩) ?_ ?_
   rotate_left
   ·intro w'
    go_simp
    with_reducible rfl
   rotate_left
   ·simp only [Act.put, putA, putB, putC]
    rfl
   refine pure_ (i := 2) (N := some 30) (v := ?_) (a' := ?_) #[true, true, true, false, false, false, false, false, false, false, false, false, false, false, false, false, false, false] rfl rfl (by kernel_rfl) (fun _ _ _ h => h) (Or.inl ⟨by rfl, ?_⟩) ?_ ?_
   rotate_left
   ·intro w'
    go_simp
    with_reducible rfl
   rotate_left
   ·simp only [Act.put, putA, putB, putC]
    rfl
   refine pure_ (i := 3) (N := some 31) (v := ?_) (a' := ?_) #[true, true, true, true, false, false, false, false, false, false, false, false, false, false, false, false, false, false] rfl rfl (by kernel_rfl) (fun _ _ _ h => h) (Or.inl ⟨by rfl, ?_⟩) ?_ ?_
   rotate_left
   ·intro w'
    go_simp
    with_reducible rfl
   rotate_left
   ·simp only [Act.put, putA, putB, putC]
    rfl
   refine take_ (i := 4) (N := some 32) (v := ?_) (a' := ?_) #[true, true, true, true, true, false, false, false, false, false, false, false, false, false, false, false, false, false] rfl rfl (by kernel_rfl) (fun _ _ _ h => h) (Or.inl ⟨by rfl, ?_⟩) hHeld ?_ ?_
   rotate_left
   ·intro w' s0
    go_simp
    with_reducible rfl
   rotate_left
   ·simp only [Act.put, putA, putB, putC]
    rfl
   refine pure_ (i := 5) (N := some 33) (v := ?_) (a' := ?_) #[true, true, true, true, true, true, false, false, false, false, false, false, false, false, false, false, false, false] rfl rfl (by kernel_rfl) (fun _ _ _ h => h) (Or.inl ⟨by rfl, ?_⟩) ?_ ?_
   rotate_left
   ·intro w'
    go_simp
    with_reducible rfl
   rotate_left
   ·simp only [Act.put, putA, putB, putC]
    rfl
   refine pure_ (i := 6) (N := some 34) (v := ?_) (a' := ?_) #[true, true, true, true, true, true, true, false, false, false, false, false, false, false, false, false, false, false] rfl rfl (by kernel_rfl) (fun _ _ _ h => h) (Or.inl ⟨by rfl, ?_⟩) ?_ ?_
   rotate_left
   ·intro w'
    go_simp
    with_reducible rfl
   rotate_left
   ·simp only [Act.put, putA, putB, putC]
    rfl
   refine pure_ (i := 9) (N := some 37) (v := ?_) (a' := ?_) #[true, true, true, true, true, true, true, false, false, true, false, false, false, false, false, false, false, false] rfl rfl (by kernel_rfl) (fun _ _ _ h => h) (Or.inl ⟨by rfl, ?_⟩) ?_ ?_
   rotate_left
   ·intro w'
    go_simp
    with_reducible rfl
   rotate_left
   ·simp only [Act.put, putA, putB, putC]
    rfl
   refine pure_ (i := 10) (N := some 38) (v := ?_) (a' := ?_) #[true, true, true, true, true, true, true, false, false, true, true, false, false, false, false, false, false, false] rfl rfl (by kernel_rfl) (fun _ _ _ h => h) (Or.inl ⟨by rfl, ?_⟩) ?_ ?_
   rotate_left
   ·intro w'
    go_simp
    with_reducible rfl
   rotate_left
   ·simp only [Act.put, putA, putB, putC]
    rfl
   refine one_ (i := 7) (N := some 35) #[true, true, true, true, true, true, true, true, false, true, true, false, false, false, false, false, false, false] rfl rfl (by kernel_rfl) (by decide) (fun K hK => ?_)
   refine goes_ Tryd.func53 (by kernel_rfl) rfl #[.slice A1 L2.length c1] (by rfl) rfl rfl (by (try simp only [List.map_toArray, List.map_cons, List.map_nil]); first | done | rfl) ?_
   refine (HN2.out _ HY.out.now).mono ?_
   rintro e w9 ⟨rfl, n9, rfl⟩
   have q10b := blk_cell (HY.out.drewN n9).fr.blk 10
   simp at q10b
   refine ⟨_, rfl, ?_⟩
   refine hK.out _ _ q10b (fun hHeld => ?_)
   clear hK K
   refine norm_ (a' := ?_) ?_ ?_
   rotate_left
   ·show Act.put _ (some 35) _ = _
    simp only [Act.put, putA, putB, putC]
    rfl
   refine pure_ (i := 8) (N := some 36) (v := ?_) (a' := ?_) #[true, true, true, true, true, true, true, true, true, true, true, false, false, false, false, false, false, false] rfl rfl (by kernel_rfl) (fun _ _ _ h => h) (Or.inl ⟨by rfl, ?_⟩) ?_ ?_
   rotate_left
   ·intro w'
    go_simp
    with_reducible rfl
   rotate_left
   ·simp only [Act.put, putA, putB, putC]
    rfl
   refine one_ (i := 11) (N := some 39) #[true, true, true, true, true, true, true, true, true, true, true, true, false, false, false, false, false, false] rfl rfl (by kernel_rfl) (by decide) (fun K hK => ?_)
   refine goes_ Tryd.func53 (by kernel_rfl) rfl #[.slice A4 L4.length (c1 - 2)] (by rfl) rfl rfl (by (try simp only [List.map_toArray, List.map_cons, List.map_nil]); first | done | rfl) ?_
   refine (HN4.out _ (HY.out.drewN n9).now).mono ?_
   rintro e w10 ⟨rfl, n10, rfl⟩
   have H10 := Lib.hid ((HY.out.drewN n9).drewN n10)
   generalize hwX : (wy.drewN n9).drewN n10 = wx at H10 ⊢
   have q10c := blk_cell H10.out.fr.blk 10
   simp at q10c
   clear hwX
   refine ⟨_, rfl, ?_⟩
   refine hK.out _ _ q10c (fun hHeld => ?_)
   clear hK K
   refine norm_ (a' := ?_) ?_ ?_
   rotate_left
   ·show Act.put _ (some 39) _ = _
    simp only [Act.put, putA, putB, putC]
    rfl
   refine pure_ (i := 12) (N := some 40) (v := ?_) (a' := ?_) #[true, true, true, true, true, true, true, true, true, true, true, true, true, false, false, false, false, false] rfl rfl (by kernel_rfl) (fun _ _ _ h => h) (Or.inl ⟨by rfl, ?_⟩) ?_ ?_
   rotate_left
   ·intro w'
    go_simp
    with_reducible rfl
   rotate_left
   ·simp only [Act.put, putA, putB, putC]
    rfl
   refine one_ (i := 13) (N := some 41) #[true, true, true, true, true, true, true, true, true, true, true, true, true, true, false, false, false, false] rfl rfl (by kernel_rfl) (by decide) (fun K hK => ?_)
   refine event_step (w1 := wx.alloc (.cells #[.int .u16 a, .int .u32 b] 99)) (v := .slice (some ⟨wx.heap.size, 0, none⟩) 1 1) (by rfl) (by go_simp) ?_
   have q10d := blk_cell (H10.out.step (below_alloc (Below.refl wx.heap.size wx) (.cells #[.int .u16 a, .int .u32 b] 99))).fr.blk 10
   simp at q10d
   refine hK.out _ _ q10d (fun hHeld => ?_)
   clear hK K
   refine norm_ (a' := ?_) ?_ ?_
   rotate_left
   ·show Act.put _ (some 41) _ = _
    simp only [Act.put, putA, putB, putC]
    rfl
   refine one_ (i := 14) (N := some 42) #[true, true, true, true, true, true, true, true, true, true, true, true, true, true, true, false, false, false] rfl rfl (by kernel_rfl) (by decide) (fun K hK => ?_)
   refine Kd.R_append_step (w0 := wx) k99 w.heap.size (by rfl) (.tmp 32) (.tmp 41) 36 99 (.agg #[.int .u16 0, .int .u32 0]) 8 (by rfl) Tryd.underlying36 Tryd.infoS (by rfl) (by decide) (by decide) S xs ⟨a, b⟩ [.int .u16 a, .int .u32 b] (fun k => k ≠ g) (fun _ => False) (by rfl) (by rfl) (k99_mkM _ _ _ _) (fun _ h => h.elim) (fun k hk => by have := blk_lt H10.out.fr.blk; omega) H10.out.row (Below.refl wx.heap.size wx |>.mono H10.out.sz) H10.out.sz (by have := HX.out.2.2.1; have := HR.out.2.2.2.1; have := HR.out.2.2.2.2.1; omega) ?_
   intro v1 w1 hrow hbel hgrow hat
   obtain ⟨Av, cv, rfl⟩ := Kd.R_slice hrow
   have hln : (xs ++ [(⟨a, b⟩ : S99)]).length = xs.length + 1 := by simp
   rw [hln] at hrow hat ⊢
   have H1 := Lib.hid (H10.out.more HX.out.2.2.2.2.2.2 HX.out.1 hrow hbel hgrow)
   have HB1 := Lib.hid ((hgrow.block g (blk_lt H10.out.fr.blk) (Kd.R_away H10.out.row (fun k hk => hk))).trans H10.out.fr.blk)
   clear hrow hbel hgrow hat
   have q10e := blk_cell HB1.out 10
   have f10e := blk_frozen HB1.out 10
   simp at q10e
   refine hK.out _ _ q10e (fun hHeld => ?_)
   clear hK K
   refine norm_ (a' := ?_) ?_ ?_
   rotate_left
   ·show Act.put _ (some 42) _ = _
    simp only [Act.put, putA, putB, putC]
    rfl
   refine pure_ (i := 15) (N := some 43) (v := ?_) (a' := ?_) #[true, true, true, true, true, true, true, true, true, true, true, true, true, true, true, true, false, false] rfl rfl (by kernel_rfl) (fun _ _ _ h => h) (Or.inl ⟨by rfl, ?_⟩) ?_ ?_
   rotate_left
   ·intro w'
    go_simp
    with_reducible rfl
   rotate_left
   ·simp only [Act.put, putA, putB, putC]
    rfl
   refine pure_ (i := 16) (N := some 44) (v := ?_) (a' := ?_) #[true, true, true, true, true, true, true, true, true, true, true, true, true, true, true, true, true, false] rfl rfl (by kernel_rfl) (fun _ _ _ h => h) (Or.inl ⟨by rfl, ?_⟩) ?_ ?_
   rotate_left
   ·intro w'
    go_simp
    with_reducible rfl
   rotate_left
   ·simp only [Act.put, putA, putB, putC]
    rfl
   refine last_ (i := 17) (N := none) #[true, true, true, true, true, true, true, true, true, true, true, true, true, true, true, true, true, true] rfl rfl (by kernel_rfl) (by decide) (fun K hK => ?_)
   refine skip_ (w1 := ?_) (by rfl) rfl ?_ ?_
   rotate_left
   ·go_simp
    rfl
   refine hK.out _ _ ?_
   clear hK K
   refine done_ (by kernel_rfl) ?_
   clear q10e f10e hHeld
   generalize w1.setCell ⟨g, 10, none⟩ (.slice Av (xs.length + 1) cv) = w2 at H1 ⊢
   go_wp2_with fail
   go_roundg m
   case measure => omega
   case rel => exact ⟨A6, c1 - 6, L6, _, xs ++ [⟨a, b⟩], rfl, HX.out.2.2.2.1, HX.out.2.2.2.2.2.1, HX.out.2.2.2.2.1, by rw [List.append_assoc]; exact HX.out.2.1, by have := HX.out.2.2.1; simp; omega, H1.out⟩

abbrev nilS : Value := .slice none 0 0
def leansB (ty fl : Int) : Bool := if ty = 2 then true else if ty = 1 then Go.bits .and .u8 fl 32 != 0 else false
theorem leans_calls (w : World) (F : Fr) : Calls Tryd.prog 74 #[.agg (frC F nilS nilS)] w fun e w' => e = .returned (.bool (leansB F.ty F.fl)) ∧ Below w.heap.size w w' :=
 frame_leans.calls F.ty F.fl F.st none 0 [] F.pad F.code F.oth F.wgt F.al F.win none 0 [] _ w (Kd.C_nil _ _) (Nat.le_refl _) (Kd.C_nil _ _) (Nat.le_refl _) (by
  unfold frame_leans.f leansB
  by_cases h2 : F.ty = 2
  ·rw [if_pos h2, if_pos h2]
  ·rw [if_neg h2, if_neg h2]
   by_cases h1 : F.ty = 1
   ·rw [if_pos h1, if_pos h1]
   ·rw [if_neg h1, if_neg h1])
inductive Frd where
 | bad (scope code : Int)
 | ok (F : Fr)
def RdPost (w : World) (g : Nat) (r : Frd) (e : Ending) (w' : World) : Prop :=
 (KeepBut w w' g none ∧ Below g w w') ∧ match r with
 | .bad s c => ∃ v n, e = .returned v ∧ Err w' n v s c
 | .ok F => e = .returned .nilIface ∧ ∃ D S, IsFr w' g F D S ∧ (Kd.int .u8).R 5 w' w.heap.size (fun k => k ≠ g) D F.data ∧ k99.R 99 w' w.heap.size (fun k => k ≠ g) S F.sets
def setsR (F : Fr) (l : List Int) : Frd := if l.length % 6 ≠ 0 ∨ (Go.bits .and .u8 F.fl 1 ≠ 0 ∧ 0 < l.length) then .bad 1 6 else .ok { F with sets := parseS (l.length / 6) l }
set_option maxHeartbeats 2000000 in
set_option maxRecDepth 100000 in
theorem settings_size (w : World) (g : Nat) (hg : g < w.heap.size) (F : Fr) (A : Option Addr) (c : Nat) (l : List Int) (hF : IsFr w g F nilS nilS) (hl : l.length ≤ 100000) (hb : l.length % 6 ≠ 0 ∨ (Go.bits .and .u8 F.fl 1 ≠ 0 ∧ 0 < l.length)) :
  Calls Tryd.prog 80 #[.pointer (some ⟨g, 0, none⟩), .slice A l.length c] w (RdPost w g (.bad 1 6)) := by
 refine of_post0 fun R hRR => ?_
 have HP := Lib.hid hRR
 have q1 := blk_cell hF.blk 1
 simp at q1
 have HG := Lib.hid hg
 by_cases h6 : l.length % 6 = 0
 ·obtain ⟨h1, h0⟩ := hb.resolve_left (fun h => h h6)
  have b1 : (l.length : Int) % 6 = 0 := by omega
  have b2 : (Go.bits .and .u8 F.fl 1 != 0) = true := by rw [bne_iff_ne]; exact h1
  have b3 : (0 : Int) < (l.length : Int) := by omega
  clear hRR hF hb hg h6
  go_enter Tryd.func80, Tryd.ntmps80
  go_wp2_with fail
  refine (size_calls _).mono ?_
  rintro e w2 ⟨v, rfl, hb2, hE2⟩
  have H2 := Lib.hid (And.intro hb2 hE2)
  clear hb2 hE2
  go_wp2_with fail
  exact HP.out _ _ ⟨⟨KeepBut.of_below H2.out.1 g none, H2.out.1.mono (Nat.le_of_lt HG.out)⟩, _, _, rfl, H2.out.2⟩
 ·have b1 : ¬ (l.length : Int) % 6 = 0 := by omega
  clear hRR hF hb hg h6
  go_enter Tryd.func80, Tryd.ntmps80
  go_wp2_with fail
  refine (size_calls _).mono ?_
  rintro e w2 ⟨v, rfl, hb2, hE2⟩
  have H2 := Lib.hid (And.intro hb2 hE2)
  clear hb2 hE2
  go_wp2_with fail
  exact HP.out _ _ ⟨⟨KeepBut.of_below H2.out.1 g none, H2.out.1.mono (Nat.le_of_lt HG.out)⟩, _, _, rfl, H2.out.2⟩
set_option maxHeartbeats 2000000 in
set_option maxRecDepth 100000 in
theorem settings_none (w : World) (g : Nat) (hg : g < w.heap.size) (F : Fr) (A : Option Addr) (c : Nat) (hF : IsFr w g F nilS nilS) (hs : F.sets = []) (hd : F.data = []) (hb : Go.bits .and .u8 F.fl 1 ≠ 0) :
  Calls Tryd.prog 80 #[.pointer (some ⟨g, 0, none⟩), .slice A 0 c] w (RdPost w g (.ok F)) := by
 refine of_post0 fun R hRR => ?_
 have HP := Lib.hid hRR
 have q1 := blk_cell hF.blk 1
 simp at q1
 have HG := Lib.hid (And.intro hF (And.intro hs hd))
 have b2 : (Go.bits .and .u8 F.fl 1 != 0) = true := by rw [bne_iff_ne]; exact hb
 clear hRR hF hg
 go_enter Tryd.func80, Tryd.ntmps80
 go_wp2_with fail
 refine wp_loop_rounds 1 ?_
 rw [rounds_succ]
 go_wp2_with fail
 refine HP.out _ _ ⟨⟨KeepBut.refl _ _ _, Below.refl _ _⟩, rfl, nilS, nilS, HG.out.1, ?_, ?_⟩
 ·rw [HG.out.2.2]; exact Kd.R_nil _ _ _ _ _
 ·rw [HG.out.2.1]; exact Kd.R_nil _ _ _ _ _
theorem settings_calls (w : World) (g : Nat) (hg : g < w.heap.size) (F : Fr) (A : Option Addr) (c : Nat) (l : List Int) (hF : IsFr w g F nilS nilS) (hs : F.sets = []) (hd : F.data = []) (hR : KReads w g A l) (hc : l.length ≤ c) (hby : Byte8 l) (hl : l.length ≤ 100000) :
  Calls Tryd.prog 80 #[.pointer (some ⟨g, 0, none⟩), .slice A l.length c] w (RdPost w g (setsR F l)) := by
 unfold setsR
 by_cases hb : l.length % 6 ≠ 0 ∨ (Go.bits .and .u8 F.fl 1 ≠ 0 ∧ 0 < l.length)
 ·rw [if_pos hb]
  exact settings_size w g hg F A c l hF hl hb
 ·rw [if_neg hb]
  by_cases h1 : Go.bits .and .u8 F.fl 1 = 0
  ·have h6 : l.length = 6 * (l.length / 6) := by omega
   refine (settings_go w g hg F nilS A c (l.length / 6) l hF hs hR hc hby hl h6 h1).mono ?_
   rintro e w' ⟨rfl, S, A', L, hW⟩
   refine ⟨⟨hW.keep, hW.below⟩, rfl, nilS, S, hW.fr, ?_, hW.row⟩
   show Kd.R _ _ _ _ _ _ F.data
   rw [hd]
   exact Kd.R_nil _ _ _ _ _
  ·have h0 : l = [] := List.eq_nil_of_length_eq_zero (by omega)
   subst h0
   have := settings_none w g hg F A c hF hs hd h1
   have hF2 : ({ F with sets := parseS (([] : List Int).length / 6) [] } : Fr) = F := by
    cases F
    simp only at hs
    subst hs
    rfl
   rw [hF2]
   exact this
end Go.Proofs.YtjjfkmniffbgkaaDoor

/- frame.read: what it answers; its faults. -/
namespace Go.Proofs.YtjjfkmniffbgkaaDoor
set_option linter.unusedVariables false
set_option linter.unusedSimpArgs false
open Go.RowKit Go.Proofs.YtjjfkmniffbgkaaDoorW.PrintWords Go.Proofs.YtjjfkmniffbgkaaDoorW.PrintLast Go.Proofs.YtjjfkmniffbgkaaDoorW.PrintMore Go.Proofs.YtjjfkmniffbgkaaDoor.QFrmA Go.Extern.Stop Go.Stop Go.Extern Go.Maps
def leastR (ty : Int) : Nat := if ty = 3 ∨ ty = 5 ∨ ty = 8 then 4 else if ty = 6 ∨ ty = 7 then 8 else 0
def shortR (F : Fr) (b : List Int) : Prop := (leansB F.ty F.fl = true ∧ b.length < 5) ∨ b.length < leastR F.ty ∨ (0 < leastR F.ty ∧ F.ty ≠ 5 ∧ F.ty ≠ 7 ∧ leastR F.ty < b.length)
instance (F : Fr) (b : List Int) : Decidable (shortR F b) := by unfold shortR; infer_instance
def bodyR (F : Fr) (b : List Int) : Frd :=
 if F.ty = 2 ∧ b.length ≠ 5 then .bad 2 6
 else if shortR F b then .bad 1 6
 else if F.ty = 4 then setsR F b
 else if F.ty = 3 then .ok { F with code := valL b }
 else if F.ty = 8 then (if 0 < valL b % 2147483648 then .ok { F with win := valL b % 2147483648 } else .bad (if F.st > 0 then 2 else 1) 1)
 else if F.ty = 7 then .ok { F with code := valL ((b.drop 4).take 4), oth := valL (b.take 4) % 2147483648, data := b.drop 8 }
 else if F.ty = 5 then .ok { F with oth := valL (b.take 4) % 2147483648, data := b.drop 4 }
 else if leansB F.ty F.fl = true then .ok { leanF F b with data := b.drop 5 }
 else .ok { F with data := b }
structure Un (w w1 : World) (g : Nat) (F : Fr) (A : Option Addr) (c : Nat) (b : List Int) : Prop where
 keep : KeepBut w w1 g none
 below : Below g w w1
 fr : IsFr w1 g F nilS nilS
 rd : KReads w1 g A b
 hc : b.length ≤ c
 hby : Byte8 b
 hl : b.length ≤ 100000
 lt : g < w.heap.size
 hs : F.sets = []
 hd : F.data = []
theorem Un.step {w w1 w2 : World} {g : Nat} {F : Fr} {A : Option Addr} {c : Nat} {b : List Int} (h : Un w w1 g F A c b) (hb : Below w1.heap.size w1 w2) : Un w w2 g F A c b :=
 ⟨h.keep.trans (KeepBut.of_below hb g none) (.inl rfl), h.below.trans (hb.mono (Nat.le_of_lt (blk_lt h.fr.blk))), ⟨blk_below h.fr.blk hb⟩, h.rd.keep (KeepBut.of_below hb g none), h.hc, h.hby, h.hl, h.lt, h.hs, h.hd⟩
theorem Un.bad {w w1 w2 : World} {g : Nat} {F : Fr} {A : Option Addr} {c : Nat} {b : List Int} (h : Un w w1 g F A c b) (hb : Below w1.heap.size w1 w2) {v : Value} {n : Nat} {s cd : Int} (hE : Err w2 n v s cd) : RdPost w g (.bad s cd) (.returned v) w2 :=
 ⟨⟨(h.step hb).keep, (h.step hb).below⟩, v, n, rfl, hE⟩
def UnCalls (w : World) (g : Nat) (A : Option Addr) (n c : Nat) (F : Fr) (b : List Int) : Prop :=
 Calls Tryd.prog 78 #[.pointer (some ⟨g, 0, none⟩), .slice A n c] w fun e w' => ∃ A' c', e = .returned (.tuple #[.slice A' b.length c', .nilIface]) ∧ Un w w' g F A' c' b
theorem Tryd.law8 : Keyed Tryd.prog 5 := int_keyed Tryd.underlying5
theorem Tryd.zeroI (w : World) : (zeroValue 3).run Tryd.prog w = .ok (.int .i64 0) w := by kernel_rfl
theorem insert_own {H : Type} {P : Program} (w : World) {ops : Array Oper} {rest : List Oper} {o : Oper} {a : Act} {Q : Exit → Act → World → Prop}
  (hg : o.guard = none) (m x v : Operand) (t : TypeId) (hop : o.op = Op.insert t m x v)
  (k e : TypeId) (K : Keyed P k) (ht : P.underlying t = some (.map k e)) (R : Value → Option (DataW H × List MemPlace)) (b n : Nat) (D : DataW H)
  (hm : a.eval m = .map (some b)) (hown : w.ownsMap P k R b n D) (hn : n < maxLen) (key val : Value) (kl : Lit) (hx : a.eval x = key) (hv : a.eval v = val) (hkey : keyOf P k key = some kl)
  (d : DataW H) (ps : List MemPlace) (hval : R val = some (d, ps))
  (hK : ∀ w', w'.ownsMap P k R b (n + 1) (D.put kl d) → w.grownBy w' (some b) → wpList P ops Q rest (a.put o.dst undef) w') :
  wpList P ops Q (o :: rest) a w := by
 refine wpList_plain hg fun K' hK' => ?_
 obtain ⟨w', hrun, r1, r2⟩ := hown.update K ht hn hkey hval
 unfold Oper.wp
 simp [execOp, hop, hm, hx, hv, hrun, Result.andThen]
 exact hK' _ _ (hK w' r1 r2)
structure UnM (w w1 m : World) (g : Nat) (F : Fr) (A : Option Addr) (c : Nat) (b : List Int) : Prop where
 un : Un w m g F A c b
 bel : Below w1.heap.size w1 m
theorem UnM.made {w w1 : World} {g : Nat} {F : Fr} {A : Option Addr} {c : Nat} {b : List Int} (h : Un w w1 g F A c b) : UnM w w1 (w1.alloc (.map #[] 0)) g F A c b :=
 ⟨h.step (below_alloc (Below.refl _ _) _), below_alloc (Below.refl _ _) _⟩
theorem UnM.grow {w w1 m m' : World} {g : Nat} {F : Fr} {A : Option Addr} {c : Nat} {b : List Int} (h0 : Un w w1 g F A c b) (h : UnM w w1 m g F A c b) (hg : m.grownBy m' (some w1.heap.size)) : UnM w w1 m' g F A c b := by
 have hb : Below w1.heap.size w1 m' := h.bel.grown hg h.bel.size (fun j hj => by cases hj; exact Nat.le_refl _)
 exact ⟨h0.step hb, hb⟩
theorem least_at (ty cl : Int) (h : (((((((DataW.map (H := Unit) []).put (Lit.int .u8 3) (.lit (.int .i64 4))).put (.int .u8 5) (.lit (.int .i64 4))).put (.int .u8 6) (.lit (.int .i64 8))).put (.int .u8 7) (.lit (.int .i64 8))).put (.int .u8 8) (.lit (.int .i64 4))).atKey (.int .u8 ty) (.lit (.int .i64 0)) = .lit (.int .i64 cl))) : cl = (leastR ty : Int) := by
 by_cases h3 : ty = 3
 ·subst h3; have h' := h.symm; injection h' with h'; injection h' with _ h'
 ·by_cases h5 : ty = 5
  ·subst h5; have h' := h.symm; injection h' with h'; injection h' with _ h'
  ·by_cases h6 : ty = 6
   ·subst h6; have h' := h.symm; injection h' with h'; injection h' with _ h'
   ·by_cases h7 : ty = 7
    ·subst h7; have h' := h.symm; injection h' with h'; injection h' with _ h'
    ·by_cases h8 : ty = 8
     ·subst h8; have h' := h.symm; injection h' with h'; injection h' with _ h'
     ·rw [atKey_put_other (by simp; omega), atKey_put_other (by simp; omega), atKey_put_other (by simp; omega), atKey_put_other (by simp; omega), atKey_put_other (by simp; omega)] at h
      have h' := h.symm
      have hl : leastR ty = 0 := by unfold leastR; rw [if_neg (by omega), if_neg (by omega)]
      rw [hl]
      injection h' with h'
      injection h' with _ h'
set_option maxHeartbeats 4000000 in
set_option maxRecDepth 100000 in
theorem read_pri (w : World) (g : Nat) (A : Option Addr) (c n : Nat) (F : Fr) (b : List Int) (hU : UnCalls w g A n c F b) (h2 : F.ty = 2) (h5 : b.length ≠ 5) :
  Calls Tryd.prog 61 #[.pointer (some ⟨g, 0, none⟩), .slice A n c] w (RdPost w g (.bad 2 6)) := by
 refine of_post0 fun R hRR => ?_
 have HP := Lib.hid hRR
 obtain ⟨ty, fl, st, data, pad, code, oth, wgt, al, win, sets⟩ := F
 simp only at h2
 subst h2
 have b1 : ((b.length : Int) != 5) = true := by rw [bne_iff_ne]; omega
 have HLst := Lib.hid (show (leastR 2 : Int) = 0 from rfl)
 clear hRR h5
 have HU := Lib.hid hU
 have hmm := @run_makeMap Tryd.prog
 clear hU
 go_enter Tryd.func61, Tryd.ntmps61
 go_wp2_with fail
 refine (Hid.out HU).mono ?_
 rintro e w1 ⟨A1, c1, rfl, hX⟩
 have HX := Lib.hid hX
 clear hX
 have q0 := blk_cell (Un.fr (Hid.out HX)).blk 0
 have q1 := blk_cell (Un.fr (Hid.out HX)).blk 1
 have q2 := blk_cell (Un.fr (Hid.out HX)).blk 2
 have q3 := blk_cell (Un.fr (Hid.out HX)).blk 3
 have q4 := blk_cell (Un.fr (Hid.out HX)).blk 4
 have q5 := blk_cell (Un.fr (Hid.out HX)).blk 5
 have q6 := blk_cell (Un.fr (Hid.out HX)).blk 6
 have q7 := blk_cell (Un.fr (Hid.out HX)).blk 7
 have q8 := blk_cell (Un.fr (Hid.out HX)).blk 8
 have q9 := blk_cell (Un.fr (Hid.out HX)).blk 9
 have q10 := blk_cell (Un.fr (Hid.out HX)).blk 10
 simp at q0 q1 q2 q3 q4 q5 q6 q7 q8 q9 q10
 have hown : World.ownsMap (H := Unit) (w1.alloc (.map #[] 0)) Tryd.prog 5 (plainElem Tryd.prog 3) w1.heap.size 0 (.map []) := World.ownsMap_made _ _ _ _
 have HM := Lib.hid (UnM.made (Hid.out HX))
 go_wp2_with (first
  | (at_lookup; refine wpList_lookup_own_int _ rfl _ _ 124 rfl 5 3 .i64 Tryd.law8 Tryd.underlying124 Tryd.underlying3 (Tryd.zeroI _) _ _ _ rfl (by assumption) _ _ rfl (keyOf_int_mk Tryd.underlying5 (by first | decide | assumption)) ?_; intro cl hat hwc; obtain rfl := (least_at _ _ hat).trans (Hid.out HLst); clear hat hwc; have q0 := blk_cell (Un.fr (UnM.un (Hid.out HM))).blk 0; have q1 := blk_cell (Un.fr (UnM.un (Hid.out HM))).blk 1; have q2 := blk_cell (Un.fr (UnM.un (Hid.out HM))).blk 2; have q3 := blk_cell (Un.fr (UnM.un (Hid.out HM))).blk 3; have q4 := blk_cell (Un.fr (UnM.un (Hid.out HM))).blk 4; have q5 := blk_cell (Un.fr (UnM.un (Hid.out HM))).blk 5; have q6 := blk_cell (Un.fr (UnM.un (Hid.out HM))).blk 6; have q7 := blk_cell (Un.fr (UnM.un (Hid.out HM))).blk 7; have q8 := blk_cell (Un.fr (UnM.un (Hid.out HM))).blk 8; have q9 := blk_cell (Un.fr (UnM.un (Hid.out HM))).blk 9; have q10 := blk_cell (Un.fr (UnM.un (Hid.out HM))).blk 10; simp at q0 q1 q2 q3 q4 q5 q6 q7 q8 q9 q10)
  | (refine insert_own _ rfl _ _ _ 124 rfl 5 3 Tryd.law8 Tryd.underlying124 _ _ _ _ rfl (by assumption) (by unfold maxLen; omega) _ _ _ rfl rfl (keyOf_int_mk Tryd.underlying5 (by decide)) _ [] (plainElem_int Tryd.underlying3 (by decide)) ?_; intro m1 hown hgrow; have HM := Lib.hid (UnM.grow HX.out HM.out hgrow); clear hgrow; have q0 := blk_cell (UnM.un HM.out).fr.blk 0; simp at q0))
 refine (stream_calls 6 _).mono ?_
 rintro e w2 ⟨v, rfl, hb2, hE2⟩
 have H2 := Lib.hid (And.intro hb2 hE2)
 clear hb2 hE2
 go_wp2_with fail
 exact HP.out _ _ (HM.out.un.bad H2.out.1 H2.out.2)

set_option maxHeartbeats 1000000 in
set_option maxRecDepth 100000 in
theorem read_lean (w : World) (g : Nat) (A : Option Addr) (c n : Nat) (F : Fr) (b : List Int) (hU : UnCalls w g A n c F b) (h1 : F.ty = 1) (hlb : leansB F.ty F.fl = true) (h5 : b.length < 5) :
  Calls Tryd.prog 61 #[.pointer (some ⟨g, 0, none⟩), .slice A n c] w (RdPost w g (.bad 1 6)) := by
 refine of_post0 fun R hRR => ?_
 have HP := Lib.hid hRR
 obtain ⟨ty, fl, st, data, pad, code, oth, wgt, al, win, sets⟩ := F
 simp only at h1 hlb
 subst h1
 have HLn := Lib.hid hlb
 have b1 : decide ((b.length : Int) < 5) = true := by rw [decide_eq_true_iff]; omega
 have b2 : decide (b.length < 5) = true := by rw [decide_eq_true_iff]; omega
 have HLst := Lib.hid (show (leastR 1 : Int) = 0 from rfl)
 clear hRR hlb h5
 have HU := Lib.hid hU
 have hmm := @run_makeMap Tryd.prog
 clear hU
 go_enter Tryd.func61, Tryd.ntmps61
 go_wp2_with fail
 refine (Hid.out HU).mono ?_
 rintro e w1 ⟨A1, c1, rfl, hX⟩
 have HX := Lib.hid hX
 clear hX
 have q0 := blk_cell (Un.fr (Hid.out HX)).blk 0
 have q1 := blk_cell (Un.fr (Hid.out HX)).blk 1
 have q2 := blk_cell (Un.fr (Hid.out HX)).blk 2
 have q3 := blk_cell (Un.fr (Hid.out HX)).blk 3
 have q4 := blk_cell (Un.fr (Hid.out HX)).blk 4
 have q5 := blk_cell (Un.fr (Hid.out HX)).blk 5
 have q6 := blk_cell (Un.fr (Hid.out HX)).blk 6
 have q7 := blk_cell (Un.fr (Hid.out HX)).blk 7
 have q8 := blk_cell (Un.fr (Hid.out HX)).blk 8
 have q9 := blk_cell (Un.fr (Hid.out HX)).blk 9
 have q10 := blk_cell (Un.fr (Hid.out HX)).blk 10
 simp at q0 q1 q2 q3 q4 q5 q6 q7 q8 q9 q10
 have hown : World.ownsMap (H := Unit) (w1.alloc (.map #[] 0)) Tryd.prog 5 (plainElem Tryd.prog 3) w1.heap.size 0 (.map []) := World.ownsMap_made _ _ _ _
 have HM := Lib.hid (UnM.made (Hid.out HX))
 go_wp2_with (first
  | (at_lookup; refine wpList_lookup_own_int _ rfl _ _ 124 rfl 5 3 .i64 Tryd.law8 Tryd.underlying124 Tryd.underlying3 (Tryd.zeroI _) _ _ _ rfl (by assumption) _ _ rfl (keyOf_int_mk Tryd.underlying5 (by first | decide | assumption)) ?_; intro cl hat hwc; obtain rfl := (least_at _ _ hat).trans (Hid.out HLst); clear hat hwc; have q0 := blk_cell (Un.fr (UnM.un (Hid.out HM))).blk 0; have q1 := blk_cell (Un.fr (UnM.un (Hid.out HM))).blk 1; have q2 := blk_cell (Un.fr (UnM.un (Hid.out HM))).blk 2; have q3 := blk_cell (Un.fr (UnM.un (Hid.out HM))).blk 3; have q4 := blk_cell (Un.fr (UnM.un (Hid.out HM))).blk 4; have q5 := blk_cell (Un.fr (UnM.un (Hid.out HM))).blk 5; have q6 := blk_cell (Un.fr (UnM.un (Hid.out HM))).blk 6; have q7 := blk_cell (Un.fr (UnM.un (Hid.out HM))).blk 7; have q8 := blk_cell (Un.fr (UnM.un (Hid.out HM))).blk 8; have q9 := blk_cell (Un.fr (UnM.un (Hid.out HM))).blk 9; have q10 := blk_cell (Un.fr (UnM.un (Hid.out HM))).blk 10; simp at q0 q1 q2 q3 q4 q5 q6 q7 q8 q9 q10)
  | (refine insert_own _ rfl _ _ _ 124 rfl 5 3 Tryd.law8 Tryd.underlying124 _ _ _ _ rfl (by assumption) (by unfold maxLen; omega) _ _ _ rfl rfl (keyOf_int_mk Tryd.underlying5 (by decide)) _ [] (plainElem_int Tryd.underlying3 (by decide)) ?_; intro m1 hown hgrow; have HM := Lib.hid (UnM.grow HX.out HM.out hgrow); clear hgrow; have q0 := blk_cell (UnM.un HM.out).fr.blk 0; simp at q0))
 refine (leans_calls _ (⟨1, fl, st, data, pad, code, oth, wgt, al, win, sets⟩ : Fr)).mono ?_
 rintro e w2 ⟨rfl, hb2⟩
 have H2 := Lib.hid (And.intro ((UnM.un (Hid.out HM)).step hb2) hb2)
 clear hb2
 try rw [Hid.out HLn]
 go_wp2_with fail
 refine (size_calls _).mono ?_
 rintro e w3 ⟨v, rfl, hb3, hE3⟩
 have H3 := Lib.hid (And.intro hb3 hE3)
 clear hb3 hE3
 go_wp2_with fail
 exact (Hid.out HP) _ _ (Un.bad (Hid.out H2).1 (Hid.out H3).1 (Hid.out H3).2)
set_option maxHeartbeats 1000000 in
set_option maxRecDepth 100000 in
theorem read_less (w : World) (g : Nat) (A : Option Addr) (c n : Nat) (F : Fr) (b : List Int) (hU : UnCalls w g A n c F b) (ht : F.ty = 3 ∨ F.ty = 5 ∨ F.ty = 8 ∨ F.ty = 6 ∨ F.ty = 7) (hl : b.length < leastR F.ty) :
  Calls Tryd.prog 61 #[.pointer (some ⟨g, 0, none⟩), .slice A n c] w (RdPost w g (.bad 1 6)) := by
 refine of_post0 fun R hRR => ?_
 have HP := Lib.hid hRR
 obtain ⟨ty, fl, st, data, pad, code, oth, wgt, al, win, sets⟩ := F
 simp only at ht hl
 rcases ht with ht | ht | ht | ht | ht
 ·subst ht
  have HLn := Lib.hid (show leansB 3 fl = false from rfl)
  have HLst := Lib.hid (show (leastR 3 : Int) = 4 from rfl)
  have b0 : b.length < 4 := hl
  have b1 : decide ((b.length : Int) < 4) = true := by rw [decide_eq_true_iff]; omega
  have b2 : decide (b.length < 4) = true := by rw [decide_eq_true_iff]; omega
  clear hRR hl
  have HU := Lib.hid hU
  have hmm := @run_makeMap Tryd.prog
  clear hU
  go_enter Tryd.func61, Tryd.ntmps61
  go_wp2_with fail
  refine (Hid.out HU).mono ?_
  rintro e w1 ⟨A1, c1, rfl, hX⟩
  have HX := Lib.hid hX
  clear hX
  have q0 := blk_cell (Un.fr (Hid.out HX)).blk 0
  have q1 := blk_cell (Un.fr (Hid.out HX)).blk 1
  have q2 := blk_cell (Un.fr (Hid.out HX)).blk 2
  have q3 := blk_cell (Un.fr (Hid.out HX)).blk 3
  have q4 := blk_cell (Un.fr (Hid.out HX)).blk 4
  have q5 := blk_cell (Un.fr (Hid.out HX)).blk 5
  have q6 := blk_cell (Un.fr (Hid.out HX)).blk 6
  have q7 := blk_cell (Un.fr (Hid.out HX)).blk 7
  have q8 := blk_cell (Un.fr (Hid.out HX)).blk 8
  have q9 := blk_cell (Un.fr (Hid.out HX)).blk 9
  have q10 := blk_cell (Un.fr (Hid.out HX)).blk 10
  simp at q0 q1 q2 q3 q4 q5 q6 q7 q8 q9 q10
  have hown : World.ownsMap (H := Unit) (w1.alloc (.map #[] 0)) Tryd.prog 5 (plainElem Tryd.prog 3) w1.heap.size 0 (.map []) := World.ownsMap_made _ _ _ _
  have HM := Lib.hid (UnM.made (Hid.out HX))
  go_wp2_with (first
   | (at_lookup; refine wpList_lookup_own_int _ rfl _ _ 124 rfl 5 3 .i64 Tryd.law8 Tryd.underlying124 Tryd.underlying3 (Tryd.zeroI _) _ _ _ rfl (by assumption) _ _ rfl (keyOf_int_mk Tryd.underlying5 (by first | decide | assumption)) ?_; intro cl hat hwc; obtain rfl := (least_at _ _ hat).trans (Hid.out HLst); clear hat hwc; have q0 := blk_cell (Un.fr (UnM.un (Hid.out HM))).blk 0; have q1 := blk_cell (Un.fr (UnM.un (Hid.out HM))).blk 1; have q2 := blk_cell (Un.fr (UnM.un (Hid.out HM))).blk 2; have q3 := blk_cell (Un.fr (UnM.un (Hid.out HM))).blk 3; have q4 := blk_cell (Un.fr (UnM.un (Hid.out HM))).blk 4; have q5 := blk_cell (Un.fr (UnM.un (Hid.out HM))).blk 5; have q6 := blk_cell (Un.fr (UnM.un (Hid.out HM))).blk 6; have q7 := blk_cell (Un.fr (UnM.un (Hid.out HM))).blk 7; have q8 := blk_cell (Un.fr (UnM.un (Hid.out HM))).blk 8; have q9 := blk_cell (Un.fr (UnM.un (Hid.out HM))).blk 9; have q10 := blk_cell (Un.fr (UnM.un (Hid.out HM))).blk 10; simp at q0 q1 q2 q3 q4 q5 q6 q7 q8 q9 q10)
   | (refine insert_own _ rfl _ _ _ 124 rfl 5 3 Tryd.law8 Tryd.underlying124 _ _ _ _ rfl (by assumption) (by unfold maxLen; omega) _ _ _ rfl rfl (keyOf_int_mk Tryd.underlying5 (by decide)) _ [] (plainElem_int Tryd.underlying3 (by decide)) ?_; intro m1 hown hgrow; have HM := Lib.hid (UnM.grow HX.out HM.out hgrow); clear hgrow; have q0 := blk_cell (UnM.un HM.out).fr.blk 0; simp at q0))
  refine (leans_calls _ (⟨3, fl, st, data, pad, code, oth, wgt, al, win, sets⟩ : Fr)).mono ?_
  rintro e w2 ⟨rfl, hb2⟩
  have H2 := Lib.hid (And.intro ((UnM.un (Hid.out HM)).step hb2) hb2)
  clear hb2
  try rw [Hid.out HLn]
  go_wp2_with fail
  refine (size_calls _).mono ?_
  rintro e w3 ⟨v, rfl, hb3, hE3⟩
  have H3 := Lib.hid (And.intro hb3 hE3)
  clear hb3 hE3
  go_wp2_with fail
  exact (Hid.out HP) _ _ (Un.bad (Hid.out H2).1 (Hid.out H3).1 (Hid.out H3).2)
 ·subst ht
  have HLn := Lib.hid (show leansB 5 fl = false from rfl)
  have HLst := Lib.hid (show (leastR 5 : Int) = 4 from rfl)
  have b0 : b.length < 4 := hl
  have b1 : decide ((b.length : Int) < 4) = true := by rw [decide_eq_true_iff]; omega
  have b2 : decide (b.length < 4) = true := by rw [decide_eq_true_iff]; omega
  clear hRR hl
  have HU := Lib.hid hU
  have hmm := @run_makeMap Tryd.prog
  clear hU
  go_enter Tryd.func61, Tryd.ntmps61
  go_wp2_with fail
  refine (Hid.out HU).mono ?_
  rintro e w1 ⟨A1, c1, rfl, hX⟩
  have HX := Lib.hid hX
  clear hX
  have q0 := blk_cell (Un.fr (Hid.out HX)).blk 0
  have q1 := blk_cell (Un.fr (Hid.out HX)).blk 1
  have q2 := blk_cell (Un.fr (Hid.out HX)).blk 2
  have q3 := blk_cell (Un.fr (Hid.out HX)).blk 3
  have q4 := blk_cell (Un.fr (Hid.out HX)).blk 4
  have q5 := blk_cell (Un.fr (Hid.out HX)).blk 5
  have q6 := blk_cell (Un.fr (Hid.out HX)).blk 6
  have q7 := blk_cell (Un.fr (Hid.out HX)).blk 7
  have q8 := blk_cell (Un.fr (Hid.out HX)).blk 8
  have q9 := blk_cell (Un.fr (Hid.out HX)).blk 9
  have q10 := blk_cell (Un.fr (Hid.out HX)).blk 10
  simp at q0 q1 q2 q3 q4 q5 q6 q7 q8 q9 q10
  have hown : World.ownsMap (H := Unit) (w1.alloc (.map #[] 0)) Tryd.prog 5 (plainElem Tryd.prog 3) w1.heap.size 0 (.map []) := World.ownsMap_made _ _ _ _
  have HM := Lib.hid (UnM.made (Hid.out HX))
  go_wp2_with (first
   | (at_lookup; refine wpList_lookup_own_int _ rfl _ _ 124 rfl 5 3 .i64 Tryd.law8 Tryd.underlying124 Tryd.underlying3 (Tryd.zeroI _) _ _ _ rfl (by assumption) _ _ rfl (keyOf_int_mk Tryd.underlying5 (by first | decide | assumption)) ?_; intro cl hat hwc; obtain rfl := (least_at _ _ hat).trans (Hid.out HLst); clear hat hwc; have q0 := blk_cell (Un.fr (UnM.un (Hid.out HM))).blk 0; have q1 := blk_cell (Un.fr (UnM.un (Hid.out HM))).blk 1; have q2 := blk_cell (Un.fr (UnM.un (Hid.out HM))).blk 2; have q3 := blk_cell (Un.fr (UnM.un (Hid.out HM))).blk 3; have q4 := blk_cell (Un.fr (UnM.un (Hid.out HM))).blk 4; have q5 := blk_cell (Un.fr (UnM.un (Hid.out HM))).blk 5; have q6 := blk_cell (Un.fr (UnM.un (Hid.out HM))).blk 6; have q7 := blk_cell (Un.fr (UnM.un (Hid.out HM))).blk 7; have q8 := blk_cell (Un.fr (UnM.un (Hid.out HM))).blk 8; have q9 := blk_cell (Un.fr (UnM.un (Hid.out HM))).blk 9; have q10 := blk_cell (Un.fr (UnM.un (Hid.out HM))).blk 10; simp at q0 q1 q2 q3 q4 q5 q6 q7 q8 q9 q10)
   | (refine insert_own _ rfl _ _ _ 124 rfl 5 3 Tryd.law8 Tryd.underlying124 _ _ _ _ rfl (by assumption) (by unfold maxLen; omega) _ _ _ rfl rfl (keyOf_int_mk Tryd.underlying5 (by decide)) _ [] (plainElem_int Tryd.underlying3 (by decide)) ?_; intro m1 hown hgrow; have HM := Lib.hid (UnM.grow HX.out HM.out hgrow); clear hgrow; have q0 := blk_cell (UnM.un HM.out).fr.blk 0; simp at q0))
  refine (leans_calls _ (⟨5, fl, st, data, pad, code, oth, wgt, al, win, sets⟩ : Fr)).mono ?_
  rintro e w2 ⟨rfl, hb2⟩
  have H2 := Lib.hid (And.intro ((UnM.un (Hid.out HM)).step hb2) hb2)
  clear hb2
  try rw [Hid.out HLn]
  go_wp2_with fail
  refine (size_calls _).mono ?_
  rintro e w3 ⟨v, rfl, hb3, hE3⟩
  have H3 := Lib.hid (And.intro hb3 hE3)
  clear hb3 hE3
  go_wp2_with fail
  exact (Hid.out HP) _ _ (Un.bad (Hid.out H2).1 (Hid.out H3).1 (Hid.out H3).2)
 ·subst ht
  have HLn := Lib.hid (show leansB 8 fl = false from rfl)
  have HLst := Lib.hid (show (leastR 8 : Int) = 4 from rfl)
  have b0 : b.length < 4 := hl
  have b1 : decide ((b.length : Int) < 4) = true := by rw [decide_eq_true_iff]; omega
  have b2 : decide (b.length < 4) = true := by rw [decide_eq_true_iff]; omega
  clear hRR hl
  have HU := Lib.hid hU
  have hmm := @run_makeMap Tryd.prog
  clear hU
  go_enter Tryd.func61, Tryd.ntmps61
  go_wp2_with fail
  refine (Hid.out HU).mono ?_
  rintro e w1 ⟨A1, c1, rfl, hX⟩
  have HX := Lib.hid hX
  clear hX
  have q0 := blk_cell (Un.fr (Hid.out HX)).blk 0
  have q1 := blk_cell (Un.fr (Hid.out HX)).blk 1
  have q2 := blk_cell (Un.fr (Hid.out HX)).blk 2
  have q3 := blk_cell (Un.fr (Hid.out HX)).blk 3
  have q4 := blk_cell (Un.fr (Hid.out HX)).blk 4
  have q5 := blk_cell (Un.fr (Hid.out HX)).blk 5
  have q6 := blk_cell (Un.fr (Hid.out HX)).blk 6
  have q7 := blk_cell (Un.fr (Hid.out HX)).blk 7
  have q8 := blk_cell (Un.fr (Hid.out HX)).blk 8
  have q9 := blk_cell (Un.fr (Hid.out HX)).blk 9
  have q10 := blk_cell (Un.fr (Hid.out HX)).blk 10
  simp at q0 q1 q2 q3 q4 q5 q6 q7 q8 q9 q10
  have hown : World.ownsMap (H := Unit) (w1.alloc (.map #[] 0)) Tryd.prog 5 (plainElem Tryd.prog 3) w1.heap.size 0 (.map []) := World.ownsMap_made _ _ _ _
  have HM := Lib.hid (UnM.made (Hid.out HX))
  go_wp2_with (first
   | (at_lookup; refine wpList_lookup_own_int _ rfl _ _ 124 rfl 5 3 .i64 Tryd.law8 Tryd.underlying124 Tryd.underlying3 (Tryd.zeroI _) _ _ _ rfl (by assumption) _ _ rfl (keyOf_int_mk Tryd.underlying5 (by first | decide | assumption)) ?_; intro cl hat hwc; obtain rfl := (least_at _ _ hat).trans (Hid.out HLst); clear hat hwc; have q0 := blk_cell (Un.fr (UnM.un (Hid.out HM))).blk 0; have q1 := blk_cell (Un.fr (UnM.un (Hid.out HM))).blk 1; have q2 := blk_cell (Un.fr (UnM.un (Hid.out HM))).blk 2; have q3 := blk_cell (Un.fr (UnM.un (Hid.out HM))).blk 3; have q4 := blk_cell (Un.fr (UnM.un (Hid.out HM))).blk 4; have q5 := blk_cell (Un.fr (UnM.un (Hid.out HM))).blk 5; have q6 := blk_cell (Un.fr (UnM.un (Hid.out HM))).blk 6; have q7 := blk_cell (Un.fr (UnM.un (Hid.out HM))).blk 7; have q8 := blk_cell (Un.fr (UnM.un (Hid.out HM))).blk 8; have q9 := blk_cell (Un.fr (UnM.un (Hid.out HM))).blk 9; have q10 := blk_cell (Un.fr (UnM.un (Hid.out HM))).blk 10; simp at q0 q1 q2 q3 q4 q5 q6 q7 q8 q9 q10)
   | (refine insert_own _ rfl _ _ _ 124 rfl 5 3 Tryd.law8 Tryd.underlying124 _ _ _ _ rfl (by assumption) (by unfold maxLen; omega) _ _ _ rfl rfl (keyOf_int_mk Tryd.underlying5 (by decide)) _ [] (plainElem_int Tryd.underlying3 (by decide)) ?_; intro m1 hown hgrow; have HM := Lib.hid (UnM.grow HX.out HM.out hgrow); clear hgrow; have q0 := blk_cell (UnM.un HM.out).fr.blk 0; simp at q0))
  refine (leans_calls _ (⟨8, fl, st, data, pad, code, oth, wgt, al, win, sets⟩ : Fr)).mono ?_
  rintro e w2 ⟨rfl, hb2⟩
  have H2 := Lib.hid (And.intro ((UnM.un (Hid.out HM)).step hb2) hb2)
  clear hb2
  try rw [Hid.out HLn]
  go_wp2_with fail
  refine (size_calls _).mono ?_
  rintro e w3 ⟨v, rfl, hb3, hE3⟩
  have H3 := Lib.hid (And.intro hb3 hE3)
  clear hb3 hE3
  go_wp2_with fail
  exact (Hid.out HP) _ _ (Un.bad (Hid.out H2).1 (Hid.out H3).1 (Hid.out H3).2)
 ·subst ht
  have HLn := Lib.hid (show leansB 6 fl = false from rfl)
  have HLst := Lib.hid (show (leastR 6 : Int) = 8 from rfl)
  have b0 : b.length < 8 := hl
  have b1 : decide ((b.length : Int) < 8) = true := by rw [decide_eq_true_iff]; omega
  have b2 : decide (b.length < 8) = true := by rw [decide_eq_true_iff]; omega
  clear hRR hl
  have HU := Lib.hid hU
  have hmm := @run_makeMap Tryd.prog
  clear hU
  go_enter Tryd.func61, Tryd.ntmps61
  go_wp2_with fail
  refine (Hid.out HU).mono ?_
  rintro e w1 ⟨A1, c1, rfl, hX⟩
  have HX := Lib.hid hX
  clear hX
  have q0 := blk_cell (Un.fr (Hid.out HX)).blk 0
  have q1 := blk_cell (Un.fr (Hid.out HX)).blk 1
  have q2 := blk_cell (Un.fr (Hid.out HX)).blk 2
  have q3 := blk_cell (Un.fr (Hid.out HX)).blk 3
  have q4 := blk_cell (Un.fr (Hid.out HX)).blk 4
  have q5 := blk_cell (Un.fr (Hid.out HX)).blk 5
  have q6 := blk_cell (Un.fr (Hid.out HX)).blk 6
  have q7 := blk_cell (Un.fr (Hid.out HX)).blk 7
  have q8 := blk_cell (Un.fr (Hid.out HX)).blk 8
  have q9 := blk_cell (Un.fr (Hid.out HX)).blk 9
  have q10 := blk_cell (Un.fr (Hid.out HX)).blk 10
  simp at q0 q1 q2 q3 q4 q5 q6 q7 q8 q9 q10
  have hown : World.ownsMap (H := Unit) (w1.alloc (.map #[] 0)) Tryd.prog 5 (plainElem Tryd.prog 3) w1.heap.size 0 (.map []) := World.ownsMap_made _ _ _ _
  have HM := Lib.hid (UnM.made (Hid.out HX))
  go_wp2_with (first
   | (at_lookup; refine wpList_lookup_own_int _ rfl _ _ 124 rfl 5 3 .i64 Tryd.law8 Tryd.underlying124 Tryd.underlying3 (Tryd.zeroI _) _ _ _ rfl (by assumption) _ _ rfl (keyOf_int_mk Tryd.underlying5 (by first | decide | assumption)) ?_; intro cl hat hwc; obtain rfl := (least_at _ _ hat).trans (Hid.out HLst); clear hat hwc; have q0 := blk_cell (Un.fr (UnM.un (Hid.out HM))).blk 0; have q1 := blk_cell (Un.fr (UnM.un (Hid.out HM))).blk 1; have q2 := blk_cell (Un.fr (UnM.un (Hid.out HM))).blk 2; have q3 := blk_cell (Un.fr (UnM.un (Hid.out HM))).blk 3; have q4 := blk_cell (Un.fr (UnM.un (Hid.out HM))).blk 4; have q5 := blk_cell (Un.fr (UnM.un (Hid.out HM))).blk 5; have q6 := blk_cell (Un.fr (UnM.un (Hid.out HM))).blk 6; have q7 := blk_cell (Un.fr (UnM.un (Hid.out HM))).blk 7; have q8 := blk_cell (Un.fr (UnM.un (Hid.out HM))).blk 8; have q9 := blk_cell (Un.fr (UnM.un (Hid.out HM))).blk 9; have q10 := blk_cell (Un.fr (UnM.un (Hid.out HM))).blk 10; simp at q0 q1 q2 q3 q4 q5 q6 q7 q8 q9 q10)
   | (refine insert_own _ rfl _ _ _ 124 rfl 5 3 Tryd.law8 Tryd.underlying124 _ _ _ _ rfl (by assumption) (by unfold maxLen; omega) _ _ _ rfl rfl (keyOf_int_mk Tryd.underlying5 (by decide)) _ [] (plainElem_int Tryd.underlying3 (by decide)) ?_; intro m1 hown hgrow; have HM := Lib.hid (UnM.grow HX.out HM.out hgrow); clear hgrow; have q0 := blk_cell (UnM.un HM.out).fr.blk 0; simp at q0))
  refine (leans_calls _ (⟨6, fl, st, data, pad, code, oth, wgt, al, win, sets⟩ : Fr)).mono ?_
  rintro e w2 ⟨rfl, hb2⟩
  have H2 := Lib.hid (And.intro ((UnM.un (Hid.out HM)).step hb2) hb2)
  clear hb2
  try rw [Hid.out HLn]
  go_wp2_with fail
  refine (size_calls _).mono ?_
  rintro e w3 ⟨v, rfl, hb3, hE3⟩
  have H3 := Lib.hid (And.intro hb3 hE3)
  clear hb3 hE3
  go_wp2_with fail
  exact (Hid.out HP) _ _ (Un.bad (Hid.out H2).1 (Hid.out H3).1 (Hid.out H3).2)
 ·subst ht
  have HLn := Lib.hid (show leansB 7 fl = false from rfl)
  have HLst := Lib.hid (show (leastR 7 : Int) = 8 from rfl)
  have b0 : b.length < 8 := hl
  have b1 : decide ((b.length : Int) < 8) = true := by rw [decide_eq_true_iff]; omega
  have b2 : decide (b.length < 8) = true := by rw [decide_eq_true_iff]; omega
  clear hRR hl
  have HU := Lib.hid hU
  have hmm := @run_makeMap Tryd.prog
  clear hU
  go_enter Tryd.func61, Tryd.ntmps61
  go_wp2_with fail
  refine (Hid.out HU).mono ?_
  rintro e w1 ⟨A1, c1, rfl, hX⟩
  have HX := Lib.hid hX
  clear hX
  have q0 := blk_cell (Un.fr (Hid.out HX)).blk 0
  have q1 := blk_cell (Un.fr (Hid.out HX)).blk 1
  have q2 := blk_cell (Un.fr (Hid.out HX)).blk 2
  have q3 := blk_cell (Un.fr (Hid.out HX)).blk 3
  have q4 := blk_cell (Un.fr (Hid.out HX)).blk 4
  have q5 := blk_cell (Un.fr (Hid.out HX)).blk 5
  have q6 := blk_cell (Un.fr (Hid.out HX)).blk 6
  have q7 := blk_cell (Un.fr (Hid.out HX)).blk 7
  have q8 := blk_cell (Un.fr (Hid.out HX)).blk 8
  have q9 := blk_cell (Un.fr (Hid.out HX)).blk 9
  have q10 := blk_cell (Un.fr (Hid.out HX)).blk 10
  simp at q0 q1 q2 q3 q4 q5 q6 q7 q8 q9 q10
  have hown : World.ownsMap (H := Unit) (w1.alloc (.map #[] 0)) Tryd.prog 5 (plainElem Tryd.prog 3) w1.heap.size 0 (.map []) := World.ownsMap_made _ _ _ _
  have HM := Lib.hid (UnM.made (Hid.out HX))
  go_wp2_with (first
   | (at_lookup; refine wpList_lookup_own_int _ rfl _ _ 124 rfl 5 3 .i64 Tryd.law8 Tryd.underlying124 Tryd.underlying3 (Tryd.zeroI _) _ _ _ rfl (by assumption) _ _ rfl (keyOf_int_mk Tryd.underlying5 (by first | decide | assumption)) ?_; intro cl hat hwc; obtain rfl := (least_at _ _ hat).trans (Hid.out HLst); clear hat hwc; have q0 := blk_cell (Un.fr (UnM.un (Hid.out HM))).blk 0; have q1 := blk_cell (Un.fr (UnM.un (Hid.out HM))).blk 1; have q2 := blk_cell (Un.fr (UnM.un (Hid.out HM))).blk 2; have q3 := blk_cell (Un.fr (UnM.un (Hid.out HM))).blk 3; have q4 := blk_cell (Un.fr (UnM.un (Hid.out HM))).blk 4; have q5 := blk_cell (Un.fr (UnM.un (Hid.out HM))).blk 5; have q6 := blk_cell (Un.fr (UnM.un (Hid.out HM))).blk 6; have q7 := blk_cell (Un.fr (UnM.un (Hid.out HM))).blk 7; have q8 := blk_cell (Un.fr (UnM.un (Hid.out HM))).blk 8; have q9 := blk_cell (Un.fr (UnM.un (Hid.out HM))).blk 9; have q10 := blk_cell (Un.fr (UnM.un (Hid.out HM))).blk 10; simp at q0 q1 q2 q3 q4 q5 q6 q7 q8 q9 q10)
   | (refine insert_own _ rfl _ _ _ 124 rfl 5 3 Tryd.law8 Tryd.underlying124 _ _ _ _ rfl (by assumption) (by unfold maxLen; omega) _ _ _ rfl rfl (keyOf_int_mk Tryd.underlying5 (by decide)) _ [] (plainElem_int Tryd.underlying3 (by decide)) ?_; intro m1 hown hgrow; have HM := Lib.hid (UnM.grow HX.out HM.out hgrow); clear hgrow; have q0 := blk_cell (UnM.un HM.out).fr.blk 0; simp at q0))
  refine (leans_calls _ (⟨7, fl, st, data, pad, code, oth, wgt, al, win, sets⟩ : Fr)).mono ?_
  rintro e w2 ⟨rfl, hb2⟩
  have H2 := Lib.hid (And.intro ((UnM.un (Hid.out HM)).step hb2) hb2)
  clear hb2
  try rw [Hid.out HLn]
  go_wp2_with fail
  refine (size_calls _).mono ?_
  rintro e w3 ⟨v, rfl, hb3, hE3⟩
  have H3 := Lib.hid (And.intro hb3 hE3)
  clear hb3 hE3
  go_wp2_with fail
  exact (Hid.out HP) _ _ (Un.bad (Hid.out H2).1 (Hid.out H3).1 (Hid.out H3).2)
set_option maxHeartbeats 1000000 in
set_option maxRecDepth 100000 in
theorem read_more (w : World) (g : Nat) (A : Option Addr) (c n : Nat) (F : Fr) (b : List Int) (hU : UnCalls w g A n c F b) (ht : F.ty = 3 ∨ F.ty = 8 ∨ F.ty = 6) (hl : leastR F.ty < b.length) :
  Calls Tryd.prog 61 #[.pointer (some ⟨g, 0, none⟩), .slice A n c] w (RdPost w g (.bad 1 6)) := by
 refine of_post0 fun R hRR => ?_
 have HP := Lib.hid hRR
 obtain ⟨ty, fl, st, data, pad, code, oth, wgt, al, win, sets⟩ := F
 simp only at ht hl
 rcases ht with ht | ht | ht
 ·subst ht
  have HLn := Lib.hid (show leansB 3 fl = false from rfl)
  have HLst := Lib.hid (show (leastR 3 : Int) = 4 from rfl)
  have b0 : 4 < b.length := hl
  have b1 : decide ((b.length : Int) < 4) = false := by rw [decide_eq_false_iff_not]; omega
  have b2 : decide (b.length < 4) = false := by rw [decide_eq_false_iff_not]; omega
  have b3 : decide (4 < (b.length : Int)) = true := by rw [decide_eq_true_iff]; omega
  have b4 : decide (4 < b.length) = true := by rw [decide_eq_true_iff]; omega
  clear hRR hl
  have HU := Lib.hid hU
  have hmm := @run_makeMap Tryd.prog
  clear hU
  go_enter Tryd.func61, Tryd.ntmps61
  go_wp2_with fail
  refine (Hid.out HU).mono ?_
  rintro e w1 ⟨A1, c1, rfl, hX⟩
  have HX := Lib.hid hX
  clear hX
  have q0 := blk_cell (Un.fr (Hid.out HX)).blk 0
  have q1 := blk_cell (Un.fr (Hid.out HX)).blk 1
  have q2 := blk_cell (Un.fr (Hid.out HX)).blk 2
  have q3 := blk_cell (Un.fr (Hid.out HX)).blk 3
  have q4 := blk_cell (Un.fr (Hid.out HX)).blk 4
  have q5 := blk_cell (Un.fr (Hid.out HX)).blk 5
  have q6 := blk_cell (Un.fr (Hid.out HX)).blk 6
  have q7 := blk_cell (Un.fr (Hid.out HX)).blk 7
  have q8 := blk_cell (Un.fr (Hid.out HX)).blk 8
  have q9 := blk_cell (Un.fr (Hid.out HX)).blk 9
  have q10 := blk_cell (Un.fr (Hid.out HX)).blk 10
  simp at q0 q1 q2 q3 q4 q5 q6 q7 q8 q9 q10
  have hown : World.ownsMap (H := Unit) (w1.alloc (.map #[] 0)) Tryd.prog 5 (plainElem Tryd.prog 3) w1.heap.size 0 (.map []) := World.ownsMap_made _ _ _ _
  have HM := Lib.hid (UnM.made (Hid.out HX))
  go_wp2_with (first
   | (at_lookup; refine wpList_lookup_own_int _ rfl _ _ 124 rfl 5 3 .i64 Tryd.law8 Tryd.underlying124 Tryd.underlying3 (Tryd.zeroI _) _ _ _ rfl (by assumption) _ _ rfl (keyOf_int_mk Tryd.underlying5 (by first | decide | assumption)) ?_; intro cl hat hwc; obtain rfl := (least_at _ _ hat).trans (Hid.out HLst); clear hat hwc; have q0 := blk_cell (Un.fr (UnM.un (Hid.out HM))).blk 0; have q1 := blk_cell (Un.fr (UnM.un (Hid.out HM))).blk 1; have q2 := blk_cell (Un.fr (UnM.un (Hid.out HM))).blk 2; have q3 := blk_cell (Un.fr (UnM.un (Hid.out HM))).blk 3; have q4 := blk_cell (Un.fr (UnM.un (Hid.out HM))).blk 4; have q5 := blk_cell (Un.fr (UnM.un (Hid.out HM))).blk 5; have q6 := blk_cell (Un.fr (UnM.un (Hid.out HM))).blk 6; have q7 := blk_cell (Un.fr (UnM.un (Hid.out HM))).blk 7; have q8 := blk_cell (Un.fr (UnM.un (Hid.out HM))).blk 8; have q9 := blk_cell (Un.fr (UnM.un (Hid.out HM))).blk 9; have q10 := blk_cell (Un.fr (UnM.un (Hid.out HM))).blk 10; simp at q0 q1 q2 q3 q4 q5 q6 q7 q8 q9 q10)
   | (refine insert_own _ rfl _ _ _ 124 rfl 5 3 Tryd.law8 Tryd.underlying124 _ _ _ _ rfl (by assumption) (by unfold maxLen; omega) _ _ _ rfl rfl (keyOf_int_mk Tryd.underlying5 (by decide)) _ [] (plainElem_int Tryd.underlying3 (by decide)) ?_; intro m1 hown hgrow; have HM := Lib.hid (UnM.grow HX.out HM.out hgrow); clear hgrow; have q0 := blk_cell (UnM.un HM.out).fr.blk 0; simp at q0))
  refine (leans_calls _ (⟨3, fl, st, data, pad, code, oth, wgt, al, win, sets⟩ : Fr)).mono ?_
  rintro e w2 ⟨rfl, hb2⟩
  have H2 := Lib.hid (And.intro ((UnM.un (Hid.out HM)).step hb2) hb2)
  clear hb2
  try rw [Hid.out HLn]
  go_wp2_with fail
  refine (size_calls _).mono ?_
  rintro e w3 ⟨v, rfl, hb3, hE3⟩
  have H3 := Lib.hid (And.intro hb3 hE3)
  clear hb3 hE3
  go_wp2_with fail
  exact (Hid.out HP) _ _ (Un.bad (Hid.out H2).1 (Hid.out H3).1 (Hid.out H3).2)
 ·subst ht
  have HLn := Lib.hid (show leansB 8 fl = false from rfl)
  have HLst := Lib.hid (show (leastR 8 : Int) = 4 from rfl)
  have b0 : 4 < b.length := hl
  have b1 : decide ((b.length : Int) < 4) = false := by rw [decide_eq_false_iff_not]; omega
  have b2 : decide (b.length < 4) = false := by rw [decide_eq_false_iff_not]; omega
  have b3 : decide (4 < (b.length : Int)) = true := by rw [decide_eq_true_iff]; omega
  have b4 : decide (4 < b.length) = true := by rw [decide_eq_true_iff]; omega
  clear hRR hl
  have HU := Lib.hid hU
  have hmm := @run_makeMap Tryd.prog
  clear hU
  go_enter Tryd.func61, Tryd.ntmps61
  go_wp2_with fail
  refine (Hid.out HU).mono ?_
  rintro e w1 ⟨A1, c1, rfl, hX⟩
  have HX := Lib.hid hX
  clear hX
  have q0 := blk_cell (Un.fr (Hid.out HX)).blk 0
  have q1 := blk_cell (Un.fr (Hid.out HX)).blk 1
  have q2 := blk_cell (Un.fr (Hid.out HX)).blk 2
  have q3 := blk_cell (Un.fr (Hid.out HX)).blk 3
  have q4 := blk_cell (Un.fr (Hid.out HX)).blk 4
  have q5 := blk_cell (Un.fr (Hid.out HX)).blk 5
  have q6 := blk_cell (Un.fr (Hid.out HX)).blk 6
  have q7 := blk_cell (Un.fr (Hid.out HX)).blk 7
  have q8 := blk_cell (Un.fr (Hid.out HX)).blk 8
  have q9 := blk_cell (Un.fr (Hid.out HX)).blk 9
  have q10 := blk_cell (Un.fr (Hid.out HX)).blk 10
  simp at q0 q1 q2 q3 q4 q5 q6 q7 q8 q9 q10
  have hown : World.ownsMap (H := Unit) (w1.alloc (.map #[] 0)) Tryd.prog 5 (plainElem Tryd.prog 3) w1.heap.size 0 (.map []) := World.ownsMap_made _ _ _ _
  have HM := Lib.hid (UnM.made (Hid.out HX))
  go_wp2_with (first
   | (at_lookup; refine wpList_lookup_own_int _ rfl _ _ 124 rfl 5 3 .i64 Tryd.law8 Tryd.underlying124 Tryd.underlying3 (Tryd.zeroI _) _ _ _ rfl (by assumption) _ _ rfl (keyOf_int_mk Tryd.underlying5 (by first | decide | assumption)) ?_; intro cl hat hwc; obtain rfl := (least_at _ _ hat).trans (Hid.out HLst); clear hat hwc; have q0 := blk_cell (Un.fr (UnM.un (Hid.out HM))).blk 0; have q1 := blk_cell (Un.fr (UnM.un (Hid.out HM))).blk 1; have q2 := blk_cell (Un.fr (UnM.un (Hid.out HM))).blk 2; have q3 := blk_cell (Un.fr (UnM.un (Hid.out HM))).blk 3; have q4 := blk_cell (Un.fr (UnM.un (Hid.out HM))).blk 4; have q5 := blk_cell (Un.fr (UnM.un (Hid.out HM))).blk 5; have q6 := blk_cell (Un.fr (UnM.un (Hid.out HM))).blk 6; have q7 := blk_cell (Un.fr (UnM.un (Hid.out HM))).blk 7; have q8 := blk_cell (Un.fr (UnM.un (Hid.out HM))).blk 8; have q9 := blk_cell (Un.fr (UnM.un (Hid.out HM))).blk 9; have q10 := blk_cell (Un.fr (UnM.un (Hid.out HM))).blk 10; simp at q0 q1 q2 q3 q4 q5 q6 q7 q8 q9 q10)
   | (refine insert_own _ rfl _ _ _ 124 rfl 5 3 Tryd.law8 Tryd.underlying124 _ _ _ _ rfl (by assumption) (by unfold maxLen; omega) _ _ _ rfl rfl (keyOf_int_mk Tryd.underlying5 (by decide)) _ [] (plainElem_int Tryd.underlying3 (by decide)) ?_; intro m1 hown hgrow; have HM := Lib.hid (UnM.grow HX.out HM.out hgrow); clear hgrow; have q0 := blk_cell (UnM.un HM.out).fr.blk 0; simp at q0))
  refine (leans_calls _ (⟨8, fl, st, data, pad, code, oth, wgt, al, win, sets⟩ : Fr)).mono ?_
  rintro e w2 ⟨rfl, hb2⟩
  have H2 := Lib.hid (And.intro ((UnM.un (Hid.out HM)).step hb2) hb2)
  clear hb2
  try rw [Hid.out HLn]
  go_wp2_with fail
  refine (size_calls _).mono ?_
  rintro e w3 ⟨v, rfl, hb3, hE3⟩
  have H3 := Lib.hid (And.intro hb3 hE3)
  clear hb3 hE3
  go_wp2_with fail
  exact (Hid.out HP) _ _ (Un.bad (Hid.out H2).1 (Hid.out H3).1 (Hid.out H3).2)
 ·subst ht
  have HLn := Lib.hid (show leansB 6 fl = false from rfl)
  have HLst := Lib.hid (show (leastR 6 : Int) = 8 from rfl)
  have b0 : 8 < b.length := hl
  have b1 : decide ((b.length : Int) < 8) = false := by rw [decide_eq_false_iff_not]; omega
  have b2 : decide (b.length < 8) = false := by rw [decide_eq_false_iff_not]; omega
  have b3 : decide (8 < (b.length : Int)) = true := by rw [decide_eq_true_iff]; omega
  have b4 : decide (8 < b.length) = true := by rw [decide_eq_true_iff]; omega
  clear hRR hl
  have HU := Lib.hid hU
  have hmm := @run_makeMap Tryd.prog
  clear hU
  go_enter Tryd.func61, Tryd.ntmps61
  go_wp2_with fail
  refine (Hid.out HU).mono ?_
  rintro e w1 ⟨A1, c1, rfl, hX⟩
  have HX := Lib.hid hX
  clear hX
  have q0 := blk_cell (Un.fr (Hid.out HX)).blk 0
  have q1 := blk_cell (Un.fr (Hid.out HX)).blk 1
  have q2 := blk_cell (Un.fr (Hid.out HX)).blk 2
  have q3 := blk_cell (Un.fr (Hid.out HX)).blk 3
  have q4 := blk_cell (Un.fr (Hid.out HX)).blk 4
  have q5 := blk_cell (Un.fr (Hid.out HX)).blk 5
  have q6 := blk_cell (Un.fr (Hid.out HX)).blk 6
  have q7 := blk_cell (Un.fr (Hid.out HX)).blk 7
  have q8 := blk_cell (Un.fr (Hid.out HX)).blk 8
  have q9 := blk_cell (Un.fr (Hid.out HX)).blk 9
  have q10 := blk_cell (Un.fr (Hid.out HX)).blk 10
  simp at q0 q1 q2 q3 q4 q5 q6 q7 q8 q9 q10
  have hown : World.ownsMap (H := Unit) (w1.alloc (.map #[] 0)) Tryd.prog 5 (plainElem Tryd.prog 3) w1.heap.size 0 (.map []) := World.ownsMap_made _ _ _ _
  have HM := Lib.hid (UnM.made (Hid.out HX))
  go_wp2_with (first
   | (at_lookup; refine wpList_lookup_own_int _ rfl _ _ 124 rfl 5 3 .i64 Tryd.law8 Tryd.underlying124 Tryd.underlying3 (Tryd.zeroI _) _ _ _ rfl (by assumption) _ _ rfl (keyOf_int_mk Tryd.underlying5 (by first | decide | assumption)) ?_; intro cl hat hwc; obtain rfl := (least_at _ _ hat).trans (Hid.out HLst); clear hat hwc; have q0 := blk_cell (Un.fr (UnM.un (Hid.out HM))).blk 0; have q1 := blk_cell (Un.fr (UnM.un (Hid.out HM))).blk 1; have q2 := blk_cell (Un.fr (UnM.un (Hid.out HM))).blk 2; have q3 := blk_cell (Un.fr (UnM.un (Hid.out HM))).blk 3; have q4 := blk_cell (Un.fr (UnM.un (Hid.out HM))).blk 4; have q5 := blk_cell (Un.fr (UnM.un (Hid.out HM))).blk 5; have q6 := blk_cell (Un.fr (UnM.un (Hid.out HM))).blk 6; have q7 := blk_cell (Un.fr (UnM.un (Hid.out HM))).blk 7; have q8 := blk_cell (Un.fr (UnM.un (Hid.out HM))).blk 8; have q9 := blk_cell (Un.fr (UnM.un (Hid.out HM))).blk 9; have q10 := blk_cell (Un.fr (UnM.un (Hid.out HM))).blk 10; simp at q0 q1 q2 q3 q4 q5 q6 q7 q8 q9 q10)
   | (refine insert_own _ rfl _ _ _ 124 rfl 5 3 Tryd.law8 Tryd.underlying124 _ _ _ _ rfl (by assumption) (by unfold maxLen; omega) _ _ _ rfl rfl (keyOf_int_mk Tryd.underlying5 (by decide)) _ [] (plainElem_int Tryd.underlying3 (by decide)) ?_; intro m1 hown hgrow; have HM := Lib.hid (UnM.grow HX.out HM.out hgrow); clear hgrow; have q0 := blk_cell (UnM.un HM.out).fr.blk 0; simp at q0))
  refine (leans_calls _ (⟨6, fl, st, data, pad, code, oth, wgt, al, win, sets⟩ : Fr)).mono ?_
  rintro e w2 ⟨rfl, hb2⟩
  have H2 := Lib.hid (And.intro ((UnM.un (Hid.out HM)).step hb2) hb2)
  clear hb2
  try rw [Hid.out HLn]
  go_wp2_with fail
  refine (size_calls _).mono ?_
  rintro e w3 ⟨v, rfl, hb3, hE3⟩
  have H3 := Lib.hid (And.intro hb3 hE3)
  clear hb3 hE3
  go_wp2_with fail
  exact (Hid.out HP) _ _ (Un.bad (Hid.out H2).1 (Hid.out H3).1 (Hid.out H3).2)

theorem RdPost.form {w : World} {g : Nat} {r : Frd} {e : Ending} {w' : World} (h : RdPost w g r e w') : ∃ v, e = .returned v := by
 cases r with
 | bad s c => obtain ⟨_, v, n, he, _⟩ := h; exact ⟨v, he⟩
 | ok F => exact ⟨_, h.2.1⟩
theorem RdPost.up {w w1 : World} {g : Nat} {F : Fr} {A : Option Addr} {c : Nat} {b : List Int} {r : Frd} {e : Ending} {w' : World} (h : RdPost w1 g r e w') (hU : Un w w1 g F A c b) : RdPost w g r e w' := by
 refine ⟨⟨hU.keep.trans h.1.1 (.inl rfl), hU.below.trans h.1.2⟩, ?_⟩
 cases r with
 | bad s c => exact h.2
 | ok F' =>
  obtain ⟨_, he, D, S, hI, hD, hS⟩ := h
  exact ⟨he, D, S, hI, Kd.R_lower hD hU.keep.1, Kd.R_lower hS hU.keep.1⟩
theorem Un.done {w w1 w2 : World} {g : Nat} {F F' : Fr} {A : Option Addr} {c : Nat} {b : List Int} (hU : Un w w1 g F A c b) (hk : KeepBut w1 w2 g none) (hb : Below g w1 w2) {D : Value} (hI : IsFr w2 g F' D nilS)
  (hD : (Kd.int .u8).R 5 w2 w1.heap.size (fun k => k ≠ g) D F'.data) (hs : F'.sets = []) : RdPost w g (.ok F') (.returned .nilIface) w2 :=
 ⟨⟨hU.keep.trans hk (.inl rfl), hU.below.trans hb⟩, rfl, D, nilS, hI, Kd.R_lower hD hU.keep.1, by rw [hs]; exact Kd.R_nil _ _ _ _ _⟩
set_option maxHeartbeats 1000000 in
set_option maxRecDepth 100000 in
theorem read_sets (w : World) (g : Nat) (A : Option Addr) (c n : Nat) (F : Fr) (b : List Int) (hU : UnCalls w g A n c F b) (ht : F.ty = 4) :
  Calls Tryd.prog 61 #[.pointer (some ⟨g, 0, none⟩), .slice A n c] w (RdPost w g (setsR F b)) := by
 refine of_post0 fun R hRR => ?_
 have HP := Lib.hid hRR
 obtain ⟨ty, fl, st, data, pad, code, oth, wgt, al, win, sets⟩ := F
 simp only at ht
 subst ht
 have HLn := Lib.hid (show leansB 4 fl = false from rfl)
 have HLst := Lib.hid (show (leastR 4 : Int) = 0 from rfl)
 have b1 : decide ((b.length : Int) < 0) = false := by rw [decide_eq_false_iff_not]; omega
 clear hRR
 have HU := Lib.hid hU
 have hmm := @run_makeMap Tryd.prog
 clear hU
 go_enter Tryd.func61, Tryd.ntmps61
 go_wp2_with fail
 refine (Hid.out HU).mono ?_
 rintro e w1 ⟨A1, c1, rfl, hX⟩
 have HX := Lib.hid hX
 clear hX
 have q0 := blk_cell (Un.fr (Hid.out HX)).blk 0
 have q1 := blk_cell (Un.fr (Hid.out HX)).blk 1
 have q2 := blk_cell (Un.fr (Hid.out HX)).blk 2
 have q3 := blk_cell (Un.fr (Hid.out HX)).blk 3
 have q4 := blk_cell (Un.fr (Hid.out HX)).blk 4
 have q5 := blk_cell (Un.fr (Hid.out HX)).blk 5
 have q6 := blk_cell (Un.fr (Hid.out HX)).blk 6
 have q7 := blk_cell (Un.fr (Hid.out HX)).blk 7
 have q8 := blk_cell (Un.fr (Hid.out HX)).blk 8
 have q9 := blk_cell (Un.fr (Hid.out HX)).blk 9
 have q10 := blk_cell (Un.fr (Hid.out HX)).blk 10
 simp at q0 q1 q2 q3 q4 q5 q6 q7 q8 q9 q10
 have hown : World.ownsMap (H := Unit) (w1.alloc (.map #[] 0)) Tryd.prog 5 (plainElem Tryd.prog 3) w1.heap.size 0 (.map []) := World.ownsMap_made _ _ _ _
 have HM := Lib.hid (UnM.made (Hid.out HX))
 go_wp2_with (first
  | (at_lookup; refine wpList_lookup_own_int _ rfl _ _ 124 rfl 5 3 .i64 Tryd.law8 Tryd.underlying124 Tryd.underlying3 (Tryd.zeroI _) _ _ _ rfl (by assumption) _ _ rfl (keyOf_int_mk Tryd.underlying5 (by first | decide | assumption)) ?_; intro cl hat hwc; obtain rfl := (least_at _ _ hat).trans (Hid.out HLst); clear hat hwc; have q0 := blk_cell (Un.fr (UnM.un (Hid.out HM))).blk 0; have q1 := blk_cell (Un.fr (UnM.un (Hid.out HM))).blk 1; have q2 := blk_cell (Un.fr (UnM.un (Hid.out HM))).blk 2; have q3 := blk_cell (Un.fr (UnM.un (Hid.out HM))).blk 3; have q4 := blk_cell (Un.fr (UnM.un (Hid.out HM))).blk 4; have q5 := blk_cell (Un.fr (UnM.un (Hid.out HM))).blk 5; have q6 := blk_cell (Un.fr (UnM.un (Hid.out HM))).blk 6; have q7 := blk_cell (Un.fr (UnM.un (Hid.out HM))).blk 7; have q8 := blk_cell (Un.fr (UnM.un (Hid.out HM))).blk 8; have q9 := blk_cell (Un.fr (UnM.un (Hid.out HM))).blk 9; have q10 := blk_cell (Un.fr (UnM.un (Hid.out HM))).blk 10; simp at q0 q1 q2 q3 q4 q5 q6 q7 q8 q9 q10)
  | (refine insert_own _ rfl _ _ _ 124 rfl 5 3 Tryd.law8 Tryd.underlying124 _ _ _ _ rfl (by assumption) (by unfold maxLen; omega) _ _ _ rfl rfl (keyOf_int_mk Tryd.underlying5 (by decide)) _ [] (plainElem_int Tryd.underlying3 (by decide)) ?_; intro m1 hown hgrow; have HM := Lib.hid (UnM.grow HX.out HM.out hgrow); clear hgrow; have q0 := blk_cell (UnM.un HM.out).fr.blk 0; simp at q0))
 refine (leans_calls _ (⟨4, fl, st, data, pad, code, oth, wgt, al, win, sets⟩ : Fr)).mono ?_
 rintro e w2 ⟨rfl, hb2⟩
 have H2 := Lib.hid ((UnM.un (Hid.out HM)).step hb2)
 clear hb2
 try rw [Hid.out HLn]
 have q0 := blk_cell (Un.fr (Hid.out H2)).blk 0
 have q1 := blk_cell (Un.fr (Hid.out H2)).blk 1
 have q2 := blk_cell (Un.fr (Hid.out H2)).blk 2
 have q3 := blk_cell (Un.fr (Hid.out H2)).blk 3
 have q4 := blk_cell (Un.fr (Hid.out H2)).blk 4
 have q5 := blk_cell (Un.fr (Hid.out H2)).blk 5
 have q6 := blk_cell (Un.fr (Hid.out H2)).blk 6
 have q7 := blk_cell (Un.fr (Hid.out H2)).blk 7
 have q8 := blk_cell (Un.fr (Hid.out H2)).blk 8
 have q9 := blk_cell (Un.fr (Hid.out H2)).blk 9
 have q10 := blk_cell (Un.fr (Hid.out H2)).blk 10
 simp at q0 q1 q2 q3 q4 q5 q6 q7 q8 q9 q10
 have f3 := blk_frozen (Un.fr (Hid.out H2)).blk 3
 have f5 := blk_frozen (Un.fr (Hid.out H2)).blk 5
 have f6 := blk_frozen (Un.fr (Hid.out H2)).blk 6
 have f9 := blk_frozen (Un.fr (Hid.out H2)).blk 9
 go_wp2_with fail
 have h2 := H2.out
 refine (settings_calls _ g (blk_lt h2.fr.blk) _ A1 c1 b h2.fr h2.hs h2.hd h2.rd h2.hc h2.hby h2.hl).mono ?_
 rintro e w3 hS
 obtain ⟨v, rfl⟩ := hS.form
 have HS := Lib.hid (hS.up h2)
 clear hS h2
 go_wp2_with fail
 exact HP.out _ _ HS.out
set_option maxHeartbeats 1000000 in
set_option maxRecDepth 100000 in
theorem read_reset (w : World) (g : Nat) (A : Option Addr) (c n : Nat) (F : Fr) (b : List Int) (hU : UnCalls w g A n c F b) (ht : F.ty = 3) (h4 : b.length = 4) :
  Calls Tryd.prog 61 #[.pointer (some ⟨g, 0, none⟩), .slice A n c] w (RdPost w g (.ok { F with code := valL b })) := by
 refine of_post0 fun R hRR => ?_
 have HP := Lib.hid hRR
 obtain ⟨ty, fl, st, data, pad, code, oth, wgt, al, win, sets⟩ := F
 simp only at ht
 subst ht
 have HLn := Lib.hid (show leansB 3 fl = false from rfl)
 have HLst := Lib.hid (show (leastR 3 : Int) = 4 from rfl)
 have b1 : decide ((b.length : Int) < 4) = false := by rw [decide_eq_false_iff_not]; omega
 have b2 : decide (b.length < 4) = false := by rw [decide_eq_false_iff_not]; omega
 have b3 : decide (4 < (b.length : Int)) = false := by rw [decide_eq_false_iff_not]; omega
 have b4 : decide (4 < b.length) = false := by rw [decide_eq_false_iff_not]; omega
 have H4 := Lib.hid h4
 clear hRR h4
 have HU := Lib.hid hU
 have hmm := @run_makeMap Tryd.prog
 clear hU
 go_enter Tryd.func61, Tryd.ntmps61
 go_wp2_with fail
 refine (Hid.out HU).mono ?_
 rintro e w1 ⟨A1, c1, rfl, hX⟩
 have HX := Lib.hid hX
 clear hX
 have q0 := blk_cell (Un.fr (Hid.out HX)).blk 0
 have q1 := blk_cell (Un.fr (Hid.out HX)).blk 1
 have q2 := blk_cell (Un.fr (Hid.out HX)).blk 2
 have q3 := blk_cell (Un.fr (Hid.out HX)).blk 3
 have q4 := blk_cell (Un.fr (Hid.out HX)).blk 4
 have q5 := blk_cell (Un.fr (Hid.out HX)).blk 5
 have q6 := blk_cell (Un.fr (Hid.out HX)).blk 6
 have q7 := blk_cell (Un.fr (Hid.out HX)).blk 7
 have q8 := blk_cell (Un.fr (Hid.out HX)).blk 8
 have q9 := blk_cell (Un.fr (Hid.out HX)).blk 9
 have q10 := blk_cell (Un.fr (Hid.out HX)).blk 10
 simp at q0 q1 q2 q3 q4 q5 q6 q7 q8 q9 q10
 have hown : World.ownsMap (H := Unit) (w1.alloc (.map #[] 0)) Tryd.prog 5 (plainElem Tryd.prog 3) w1.heap.size 0 (.map []) := World.ownsMap_made _ _ _ _
 have HM := Lib.hid (UnM.made (Hid.out HX))
 go_wp2_with (first
  | (at_lookup; refine wpList_lookup_own_int _ rfl _ _ 124 rfl 5 3 .i64 Tryd.law8 Tryd.underlying124 Tryd.underlying3 (Tryd.zeroI _) _ _ _ rfl (by assumption) _ _ rfl (keyOf_int_mk Tryd.underlying5 (by first | decide | assumption)) ?_; intro cl hat hwc; obtain rfl := (least_at _ _ hat).trans (Hid.out HLst); clear hat hwc; have q0 := blk_cell (Un.fr (UnM.un (Hid.out HM))).blk 0; have q1 := blk_cell (Un.fr (UnM.un (Hid.out HM))).blk 1; have q2 := blk_cell (Un.fr (UnM.un (Hid.out HM))).blk 2; have q3 := blk_cell (Un.fr (UnM.un (Hid.out HM))).blk 3; have q4 := blk_cell (Un.fr (UnM.un (Hid.out HM))).blk 4; have q5 := blk_cell (Un.fr (UnM.un (Hid.out HM))).blk 5; have q6 := blk_cell (Un.fr (UnM.un (Hid.out HM))).blk 6; have q7 := blk_cell (Un.fr (UnM.un (Hid.out HM))).blk 7; have q8 := blk_cell (Un.fr (UnM.un (Hid.out HM))).blk 8; have q9 := blk_cell (Un.fr (UnM.un (Hid.out HM))).blk 9; have q10 := blk_cell (Un.fr (UnM.un (Hid.out HM))).blk 10; simp at q0 q1 q2 q3 q4 q5 q6 q7 q8 q9 q10)
  | (refine insert_own _ rfl _ _ _ 124 rfl 5 3 Tryd.law8 Tryd.underlying124 _ _ _ _ rfl (by assumption) (by unfold maxLen; omega) _ _ _ rfl rfl (keyOf_int_mk Tryd.underlying5 (by decide)) _ [] (plainElem_int Tryd.underlying3 (by decide)) ?_; intro m1 hown hgrow; have HM := Lib.hid (UnM.grow HX.out HM.out hgrow); clear hgrow; have q0 := blk_cell (UnM.un HM.out).fr.blk 0; simp at q0))
 refine (leans_calls _ (⟨3, fl, st, data, pad, code, oth, wgt, al, win, sets⟩ : Fr)).mono ?_
 rintro e w2 ⟨rfl, hb2⟩
 have H2 := Lib.hid ((UnM.un (Hid.out HM)).step hb2)
 clear hb2
 try rw [Hid.out HLn]
 have q0 := blk_cell (Un.fr (Hid.out H2)).blk 0
 have q1 := blk_cell (Un.fr (Hid.out H2)).blk 1
 have q2 := blk_cell (Un.fr (Hid.out H2)).blk 2
 have q3 := blk_cell (Un.fr (Hid.out H2)).blk 3
 have q4 := blk_cell (Un.fr (Hid.out H2)).blk 4
 have q5 := blk_cell (Un.fr (Hid.out H2)).blk 5
 have q6 := blk_cell (Un.fr (Hid.out H2)).blk 6
 have q7 := blk_cell (Un.fr (Hid.out H2)).blk 7
 have q8 := blk_cell (Un.fr (Hid.out H2)).blk 8
 have q9 := blk_cell (Un.fr (Hid.out H2)).blk 9
 have q10 := blk_cell (Un.fr (Hid.out H2)).blk 10
 simp at q0 q1 q2 q3 q4 q5 q6 q7 q8 q9 q10
 have f3 := blk_frozen (Un.fr (Hid.out H2)).blk 3
 have f5 := blk_frozen (Un.fr (Hid.out H2)).blk 5
 have f6 := blk_frozen (Un.fr (Hid.out H2)).blk 6
 have f9 := blk_frozen (Un.fr (Hid.out H2)).blk 9
 go_wp2_with fail
 refine (number_calls _ A1 c1 b (by have := H4.out; omega) H2.out.hby H2.out.rd.now H2.out.hc).mono ?_
 rintro e w3 ⟨rfl, n3, rfl⟩
 go_wp2_with fail
 have hN : Below w2.heap.size w2 (w2.drewN n3) := pw_below_drewN (Below.refl _ _) _
 refine HP.out _ _ ((H2.out.step hN).done (F' := ⟨3, fl, st, data, pad, valL b, oth, wgt, al, win, sets⟩) ((KeepBut.refl _ _ _).set_ 5 _) ((Below.refl _ _).setCell (p := ⟨g, 5, none⟩) (Nat.le_refl g) _) (D := nilS) ⟨blk_set (blk_drewN H2.out.fr.blk n3) 5 _⟩ ?_ H2.out.hs)
 rw [show (⟨3, fl, st, data, pad, valL b, oth, wgt, al, win, sets⟩ : Fr).data = [] from H2.out.hd]
 exact Kd.R_nil _ _ _ _ _
end Go.Proofs.YtjjfkmniffbgkaaDoor
