/- Texts of this claim, put together: As, Fault, Mem, BlockTakes, Eq, BlockTake, BlockGo, GoesL, Mem2, Ev, Ev2, Hold, Hold2, Hold3, Hold4, Hold5, Clone, Base, OpenBytes, OpenRows. -/
import Derived.Test.YtodfahcmgmleeaaDoorProg
import Derived.WalkKit
import Derived.LaidEql
import Derived.Stop.Asserts
import Derived.RowKitTokens
import Derived.Below
import Derived.WideLaws
import Derived.Deep.LoopGhost
import Derived.Lib.Hide
import Derived.Test.YtodfahcmgmleeaaDoorMBlockGoesW1
import Derived.Deep.RegionHeld3
import Derived.Deep.DeepCutAuto
import Derived.BigQuiet
import Derived.Deep.RegionLaw
import Derived.Deep.QuietTactic
import Derived.Deep.MidRow
import Derived.Lib.ConvBytes
import Derived.Laws.AppendOwn
import Derived.Laws.CopyOwn
import Derived.Maps.AppendAt
import Derived.WalkSpells
import Derived.RowKit
import Derived.KernelRfl
import Derived.Outline
import Derived.ChangeSlices
import Derived.Deep.Slices
import Derived.ChangeArms
import Derived.ChangeSame
import Derived.OpenShut
import Derived.Lib.SmallJoins
import Derived.WideShapes
import Derived.ChangeShapes
import Derived.Test.YtodfahcmgmleeaaDoorMBlockGoes0
/- What package fault's functions do: New, Conn, Stream, Wrap make errors; Of finds an error's fault through errors.As, however often it was wrapped. No condition but that the error's cells are there. -/
namespace Go.Proofs.YtodfahcmgmleeaaDoor
set_option linter.unusedVariables false
set_option linter.unusedSimpArgs false
open Go.RowKit Go.Proofs.YtodfahcmgmleeaaDoorW.PrintWords Go.Extern.Stop Go.Stop Go.Extern
/-! ### closed facts on the model's entries for internal/reflectlite at this program's types -/
abbrev hOf (t : Nat) : Value := .pointer (some ⟨4, t, none⟩)
theorem Tryd.valueOfPP (t : Addr) (w : World) : (ReflectliteValue.unpack (.iface 88 (.pointer (some t)))).run Tryd.prog w
  = .ok (.agg #[hOf 88, .pointer (some ⟨w.heap.size, 0, none⟩), .int .u64 150]) (w.alloc (.cells #[.pointer (some t)] 88)) := by kernel_rfl
theorem Tryd.typePP (a : Addr) (w : World) : (ReflectliteValue.methodAny (ReflectliteValue.valueError "reflectlite.Value.Type" 0) (fun t _ _ _ => ReflectliteType.toType t) #[.agg #[hOf 88, .pointer (some a), .int .u64 150]]).run Tryd.prog w
  = .ok (.iface 121 (.agg #[hOf 88])) w := by kernel_rfl
theorem Tryd.methodKind (h : Value) (w : World) : (Go.method 276 121 (.agg #[h]) "Kind").run Tryd.prog w = .ok (104, h) w := by kernel_rfl
theorem Tryd.kindPP (w : World) : ((ReflectliteType.abiMethod fun t => (fun a : Nat => Value.int IntKind.u8 (a : Int)) <$> Rtype.kind t) #[hOf 88]).run Tryd.prog w = .ok (.int .u8 22) w := by kernel_rfl
theorem Tryd.kindP (w : World) : ((ReflectliteType.abiMethod fun t => (fun a : Nat => Value.int IntKind.u8 (a : Int)) <$> Rtype.kind t) #[hOf 86]).run Tryd.prog w = .ok (.int .u8 22) w := by kernel_rfl
theorem rlm (z : Sem Value) (f : TypeId → Addr → Nat → Nat → Sem Value) (v : Value) :
  ReflectliteValue.method z f #[v] = (do match ← ReflectliteValue.parts v with | none => z | some (t, a, fl) => f t a fl (fl % 32)) := rfl
theorem Tryd.partsPP (a : Addr) (w : World) : (ReflectliteValue.parts (.agg #[hOf 88, .pointer (some a), .int .u64 150])).run Tryd.prog w = .ok (some (88, a, 150)) w := by kernel_rfl
theorem Tryd.isNilPP (a p : Addr) (W : World) (ha : W.cell? a = some (.pointer (some p))) :
  (ReflectliteValue.method (ReflectliteValue.valueError "reflectlite.Value.IsNil" 0) ReflectliteValue.isNil #[.agg #[hOf 88, .pointer (some a), .int .u64 150]]).run Tryd.prog W = .ok (.bool false) W := by
 rw [rlm]
 simp only [Sem.run_bind, Tryd.partsPP, Result.andThen]
 simp [ReflectliteValue.isNil, loadVar, isAgg, underlying, Tryd.underlying88, ha, Result.andThen]
theorem Tryd.methodElem (h : Value) (w : World) : (Go.method 276 121 (.agg #[h]) "Elem").run Tryd.prog w = .ok (117, .agg #[h]) w := by kernel_rfl
theorem Tryd.methodImplements (h : Value) (w : World) : (Go.method 276 121 (.agg #[h]) "Implements").run Tryd.prog w = .ok (118, .agg #[h]) w := by kernel_rfl
theorem Tryd.methodAssignableTo (h : Value) (w : World) : (Go.method 276 121 (.agg #[h]) "AssignableTo").run Tryd.prog w = .ok (115, .agg #[h]) w := by kernel_rfl
theorem Tryd.elemPP (w : World) : (ReflectliteType.method ReflectliteType.elem #[.agg #[hOf 88]]).run Tryd.prog w = .ok (.iface 121 (.agg #[hOf 86])) w := by kernel_rfl
theorem Tryd.implementsP (w : World) : (ReflectliteType.relation "Implements" ReflectliteType.implements_ #[.agg #[hOf 86], .iface 121 (.agg #[hOf 73])]).run Tryd.prog w = .ok (.bool true) w := by kernel_rfl
theorem Tryd.typeOfP (v : Value) (w : World) : (ReflectliteType.typeOf #[.iface 86 v]).run Tryd.prog w = .ok (.iface 121 (.agg #[hOf 86])) w := by kernel_rfl
theorem Tryd.typeOfW (v : Value) (w : World) : (ReflectliteType.typeOf #[.iface 91 v]).run Tryd.prog w = .ok (.iface 121 (.agg #[hOf 91])) w := by kernel_rfl
theorem Tryd.assignableP (w : World) : (ReflectliteType.relation "AssignableTo" ReflectliteType.assignableTo #[.agg #[hOf 86], .iface 121 (.agg #[hOf 86])]).run Tryd.prog w = .ok (.bool true) w := by kernel_rfl
theorem Tryd.assignableW (w : World) : (ReflectliteType.relation "AssignableTo" ReflectliteType.assignableTo #[.agg #[hOf 91], .iface 121 (.agg #[hOf 86])]).run Tryd.prog w = .ok (.bool false) w := by kernel_rfl
theorem Tryd.valueOfP (e : Addr) (w : World) : (ReflectliteValue.unpack (.iface 86 (.pointer (some e)))).run Tryd.prog w
  = .ok (.agg #[hOf 86, .pointer (some ⟨w.heap.size, 0, none⟩), .int .u64 150]) (w.alloc (.cells #[.pointer (some e)] 86)) := by kernel_rfl
theorem Tryd.elemOfPP (w : World) : (Rtype.elem? 88).run Tryd.prog w = .ok (some 86) w := by kernel_rfl
theorem Tryd.mkP (p : Addr) (w : World) : (ReflectliteValue.mk 86 p ReflectliteValue.flagAddr).run Tryd.prog w = .ok (.agg #[hOf 86, .pointer (some p), .int .u64 406]) w := by kernel_rfl
theorem Tryd.elemVPP (a p : Addr) (W : World) (ha : W.cell? a = some (.pointer (some p))) :
  (ReflectliteValue.method (ReflectliteValue.valueError "reflectlite.Value.Elem" 0) ReflectliteValue.elem #[.agg #[hOf 88, .pointer (some a), .int .u64 150]]).run Tryd.prog W
   = .ok (.agg #[hOf 86, .pointer (some p), .int .u64 406]) W := by
 rw [rlm]
 simp only [Sem.run_bind, Tryd.partsPP, Result.andThen]
 simp [ReflectliteValue.elem, loadVar, isAgg, underlying, Tryd.underlying88, ha, Result.andThen, Tryd.elemOfPP, Tryd.mkP]
theorem rls (v x : Value) : ReflectliteValue.set #[v, x] = (do
  let (some (dst, a, fl), some (src, b, _)) := (← ReflectliteValue.parts v, ← ReflectliteValue.parts x)
   | unsupported (.noEntry "extern/(internal/reflectlite.Value).Set.zeroValue")
  if fl / ReflectliteValue.flagAddr % 2 == 0 then unsupported (.noEntry "extern/(internal/reflectlite.Value).Set.unaddressable")
  let val ← loadVar src b
  if ← Rtype.directlyAssignable dst src then storeVar dst a val
  else if ← Rtype.implements dst src then
   if (← Rtype.kind src) == 20 then
    match val with
    | .nilIface => unsupported (.noEntry "extern/reflectlite: a nil value of one interface type handed on as a value of another")
    | _ => storeVar dst a val
   else storeVar dst a (.iface src val)
  else panicString ("reflectlite.Set: value of type " ++ (← Rtype.spelt src) ++ " is not assignable to type " ++ (← Rtype.spelt dst))
  pure (.tuple #[])) := rfl
theorem Tryd.partsPa (a : Addr) (w : World) : (ReflectliteValue.parts (.agg #[hOf 86, .pointer (some a), .int .u64 406])).run Tryd.prog w = .ok (some (86, a, 406)) w := by kernel_rfl
theorem Tryd.partsP (a : Addr) (w : World) : (ReflectliteValue.parts (.agg #[hOf 86, .pointer (some a), .int .u64 150])).run Tryd.prog w = .ok (some (86, a, 150)) w := by kernel_rfl
theorem Tryd.directP (w : World) : (Rtype.directlyAssignable 86 86).run Tryd.prog w = .ok true w := by kernel_rfl
theorem Tryd.setP (ta b e : Addr) (old : Value) (W : World) (hb : W.cell? b = some (.pointer (some e))) (ht : W.cell? ta = some old) (hf : W.frozen? ta = false) :
  (ReflectliteValue.set #[.agg #[hOf 86, .pointer (some ta), .int .u64 406], .agg #[hOf 86, .pointer (some b), .int .u64 150]]).run Tryd.prog W
   = .ok (.tuple #[]) (W.setCell ta (.pointer (some e))) := by
 rw [rls]
 simp only [Sem.run_bind, Tryd.partsPa, Tryd.partsP, Result.andThen]
 simp [ReflectliteValue.flagAddr, loadVar, isAgg, underlying, Tryd.underlying86, hb, Result.andThen, Tryd.directP, storeVar, Value.cells, storeCells, Addr.add]
 rw [run_store Tryd.prog W ta _ _ (by rfl)]
 simp [ht, hf]
theorem Tryd.wNoAs (v : Value) (xT : TypeId) (w : World) : (Instr.typeAssert (.iface 91 v) xT 126 true).run Tryd.prog w = .ok (.tuple #[.nilIface, .bool false]) w :=
 run_typeAssert_lacksB Tryd.underlying126 (by kernel_rfl) (by kernel_rfl) v xT w
theorem Tryd.wUnwraps (v : Value) (xT : TypeId) (w : World) : (Instr.typeAssert (.iface 91 v) xT 129 true).run Tryd.prog w = .ok (.tuple #[.iface 91 v, .bool true]) w :=
 run_typeAssert_hasB Tryd.underlying129 (by kernel_rfl) v xT w
theorem Tryd.methodUnwrap (p : Addr) (w : World) : (Go.method 276 91 (.pointer (some p)) "Unwrap").run Tryd.prog w = .ok (109, .pointer (some p)) w := by kernel_rfl
/-! ### errors in memory -/
def Err (w : World) : Nat → Value → Int → Int → Prop
 | 0, e, s, c => ∃ b, e = .iface 86 (.pointer (some ⟨b, 0, none⟩)) ∧ w.cell? ⟨b, 0, none⟩ = some (.int .u8 s) ∧ w.cell? ⟨b, 1, none⟩ = some (.int .u32 c)
 | n + 1, e, s, c => ∃ b v e', e = .iface 91 (.pointer (some ⟨b, 0, none⟩)) ∧ w.cell? ⟨b, 0, none⟩ = some v ∧ w.cell? ⟨b, 1, none⟩ = some e' ∧ Err w n e' s c
theorem cell_below {w w1 : World} (h : Below w.heap.size w w1) {a : Addr} {v : Value} (hc : w.cell? a = some v) : w1.cell? a = some v := (h.cell (World.block_lt_of_cell? w a hc)).trans hc
theorem Err.below {w w1 : World} (hb : Below w.heap.size w w1) {n : Nat} : ∀ {e : Value} {s c : Int}, Err w n e s c → Err w1 n e s c := by
 induction n with
 | zero => rintro e s c ⟨b, he, h0, h1⟩; exact ⟨b, he, cell_below hb h0, cell_below hb h1⟩
 | succ n ih => rintro e s c ⟨b, v, e', he, h0, h1, h⟩; exact ⟨b, v, e', he, cell_below hb h0, cell_below hb h1, ih h⟩
theorem Err.form {w : World} {n : Nat} {e : Value} {s c : Int} (h : Err w n e s c) : ∃ T b, e = .iface T (.pointer (some ⟨b, 0, none⟩)) := by
 cases n with
 | zero => obtain ⟨b, he, _⟩ := h; exact ⟨_, b, he⟩
 | succ n => obtain ⟨b, _, _, he, _⟩ := h; exact ⟨_, b, he⟩
theorem unwrap_calls (b : Nat) (e' : Value) (w : World) (h : w.cell? ⟨b, 1, none⟩ = some e') :
  Calls Tryd.prog 109 #[.pointer (some ⟨b, 0, none⟩)] w fun e w' => e = .returned e' ∧ w = w' := by
 go_enter Tryd.func109, Tryd.ntmps109
 go_wp2
 go_ret
 exact ⟨rfl, rfl⟩
def GV (w : World) : Prop := w.cell? ⟨0, 0, none⟩ = some (.iface 121 (.agg #[hOf 73]))
theorem GV.below {w w1 : World} (h : GV w) (hb : Below w.heap.size w w1) : GV w1 := cell_below hb h
def AsPost (t : Addr) (w : World) (s c : Int) (ev : Ending) (w' : World) : Prop :=
 ev = .returned (.bool true) ∧ ∃ b, w'.cell? t = some (.pointer (some ⟨b, 0, none⟩)) ∧ w'.cell? ⟨b, 0, none⟩ = some (.int .u8 s) ∧ w'.cell? ⟨b, 1, none⟩ = some (.int .u32 c) ∧ Below t.block w w'
theorem tip {w : World} {t a : Addr} {x : Value} (o1 o2 : Obj) (ht : w.cell? t = some (.pointer none)) (ha : w.cell? a = some x) (hx : x ≠ .pointer none) (u : Value) :
  (((w.alloc o1).alloc o2).setCell t u).cell? a = some x := by
 have hne : a ≠ t := fun h => hx (by rw [h, ht] at ha; exact (Option.some.inj ha).symm)
 have hal : a.block < w.heap.size := World.block_lt_of_cell? w a ha
 rw [World.cell?_setCell_other _ _ _ _ (Ne.symm hne), World.cell?_alloc_lt _ _ a (by simp; omega), World.cell?_alloc_lt _ _ a hal]; exact ha
set_option maxHeartbeats 4000000 in
theorem as_chain (n : Nat) (e : Value) (s c : Int) (t a : Addr) (w : World) (hE : Err w n e s c) (ha : w.cell? a = some (.pointer (some t))) (ht : w.cell? t = some (.pointer none)) (hf : w.frozen? t = false) :
  Calls Tryd.prog 68 #[e, .iface 88 (.pointer (some t)), .agg #[hOf 88, .pointer (some a), .int .u64 150], .iface 121 (.agg #[hOf 86])] w (AsPost t w s c) := by
 have h6 := @run_callFunc_extern Tryd.prog 65 _ (fun args => ReflectliteValue.unpack (args.getD 0 (.tuple #[]))) Tryd.func65 (by kernel_rfl) (by kernel_rfl) (by kernel_rfl) (by kernel_rfl)
 have h10 := @run_callFunc_extern Tryd.prog 74 _ ReflectliteType.typeOf Tryd.func74 (by kernel_rfl) (by kernel_rfl) (by kernel_rfl) (by kernel_rfl)
 have h35 := @run_callFunc_extern Tryd.prog 115 _ (ReflectliteType.relation "AssignableTo" ReflectliteType.assignableTo) Tryd.func115 (by kernel_rfl) (by kernel_rfl) (by kernel_rfl) (by kernel_rfl)
 have h11 := @run_callFunc_extern Tryd.prog 75 _ (ReflectliteValue.method (ReflectliteValue.valueError "reflectlite.Value.Elem" 0) ReflectliteValue.elem) Tryd.func75 (by kernel_rfl) (by kernel_rfl) (by kernel_rfl) (by kernel_rfl)
 have h12 := @run_callFunc_extern Tryd.prog 76 _ ReflectliteValue.set Tryd.func76 (by kernel_rfl) (by kernel_rfl) (by kernel_rfl) (by kernel_rfl)
 have tOP := Tryd.typeOfP
 have tOW := Tryd.typeOfW
 have mA := Tryd.methodAssignableTo
 have aP := Tryd.assignableP
 have aW := Tryd.assignableW
 have vP := Tryd.valueOfP
 have nA := Tryd.wNoAs
 have uW := Tryd.wUnwraps
 have mU := Tryd.methodUnwrap
 have hal : a.block < w.heap.size := World.block_lt_of_cell? w a ha
 have htl : t.block < w.heap.size := World.block_lt_of_cell? w t ht
 have el := Tryd.elemVPP a t (w.alloc (.cells #[hOf 88, .pointer (some a), .int .u64 150] 108)) (by rw [World.cell?_alloc_lt _ _ a hal]; exact ha)
 go_enter Tryd.func68, Tryd.ntmps68
 go_wp2
 go_loopg [0] n (fun k err wr => Err w k err s c ∧ w.alloc (.cells #[hOf 88, .pointer (some a), .int .u64 150] 108) = wr)
 case atStart => exact ⟨hE, rfl⟩
 case round =>
  obtain ⟨hE1, rfl⟩ := hrel
  cases gk with
  | zero =>
   obtain ⟨b, rfl, h0, h1⟩ := hE1
   have hb : b < w.heap.size := World.block_lt_of_cell? w _ h0
   have st := Tryd.setP t ⟨w.heap.size + 1, 0, none⟩ ⟨b, 0, none⟩ (.pointer none) ((w.alloc (.cells #[hOf 88, .pointer (some a), .int .u64 150] 108)).alloc (.cells #[.pointer (some ⟨b, 0, none⟩)] 86))
    (by rw [World.cell?_alloc_at _ _ _ _ (by simp)]; rfl)
    (by rw [World.cell?_alloc_lt _ _ t (by simp; omega), World.cell?_alloc_lt _ _ t htl]; exact ht)
    (by rw [World.frozen?_alloc_old _ _ t (by simp; omega), World.frozen?_alloc_old _ _ t (Nat.ne_of_lt htl)]; exact hf)
   go_wp2
   go_ret
   refine ⟨rfl, b, ?_, tip _ _ ht h0 (by simp) _, tip _ _ ht h1 (by simp) _, ?_⟩
   ·exact World.cell?_setCell_same _ _ _ (u := .pointer none) (by rw [World.cell?_alloc_lt _ _ t (by simp; omega), World.cell?_alloc_lt _ _ t htl]; exact ht)
   ·exact (((Below.refl _ _).alloc (by omega) _).alloc (by simp; omega) _).setCell (Nat.le_refl _) _
  | succ k =>
   obtain ⟨b, v, e', rfl, h0, h1, hE2⟩ := hE1
   obtain ⟨T, p, rfl⟩ := hE2.form
   have h1w : (w.alloc (.cells #[hOf 88, .pointer (some a), .int .u64 150] 108)).cell? ⟨b, 1, none⟩ = some (.iface T (.pointer (some ⟨p, 0, none⟩))) := by
    rw [World.cell?_alloc_lt _ _ _ (World.block_lt_of_cell? w _ h1)]; exact h1
   have HE2 := Lib.hid hE2
   clear hE2 hE
   go_wp2_with (go_at_call 109; refine (unwrap_calls _ _ _ h1w).mono ?_; rintro e w' ⟨rfl, rfl⟩)
   go_roundg k
   case measure => omega
   case rel => exact ⟨HE2.out, rfl⟩
set_option maxHeartbeats 4000000 in
theorem as_calls (n : Nat) (e : Value) (s c : Int) (t : Addr) (w : World) (hg : GV w) (hE : Err w n e s c) (ht0 : w.cell? t = some (.pointer none)) (hf0 : w.frozen? t = false) :
  Calls Tryd.prog 54 #[e, .iface 88 (.pointer (some t))] w (AsPost t w s c) := by
 have h6 := @run_callFunc_extern Tryd.prog 65 _ (fun args => ReflectliteValue.unpack (args.getD 0 (.tuple #[]))) Tryd.func65 (by kernel_rfl) (by kernel_rfl) (by kernel_rfl) (by kernel_rfl)
 have h7 := @run_callFunc_extern Tryd.prog 66 _ (ReflectliteValue.methodAny (ReflectliteValue.valueError "reflectlite.Value.Type" 0) (fun t _ _ _ => ReflectliteType.toType t)) Tryd.func66 (by kernel_rfl) (by kernel_rfl) (by kernel_rfl) (by kernel_rfl)
 have h8 := @run_callFunc_extern Tryd.prog 67 _ (ReflectliteValue.method (ReflectliteValue.valueError "reflectlite.Value.IsNil" 0) ReflectliteValue.isNil) Tryd.func67 (by kernel_rfl) (by kernel_rfl) (by kernel_rfl) (by kernel_rfl)
 have h27 := @run_callFunc_extern Tryd.prog 104 _ (ReflectliteType.abiMethod fun t => do pure (.int .u8 (← Rtype.kind t))) Tryd.func104 (by kernel_rfl) (by kernel_rfl) (by kernel_rfl) (by kernel_rfl)
 have h37 := @run_callFunc_extern Tryd.prog 117 _ (ReflectliteType.method ReflectliteType.elem) Tryd.func117 (by kernel_rfl) (by kernel_rfl) (by kernel_rfl) (by kernel_rfl)
 have h38 := @run_callFunc_extern Tryd.prog 118 _ (ReflectliteType.relation "Implements" ReflectliteType.implements_) Tryd.func118 (by kernel_rfl) (by kernel_rfl) (by kernel_rfl) (by kernel_rfl)
 have f6 := Tryd.valueOfPP
 have f7 := Tryd.typePP
 have mK := Tryd.methodKind
 have mE := Tryd.methodElem
 have mI := Tryd.methodImplements
 have k27 := Tryd.kindPP
 have k25 := Tryd.kindP
 have e27 := Tryd.elemPP
 have i25 := Tryd.implementsP
 have n8 := Tryd.isNilPP ⟨w.heap.size, 0, none⟩ t ((w.alloc (.cells #[.pointer (some t)] 88)).alloc (.cells #[hOf 88, .pointer (some ⟨w.heap.size, 0, none⟩), .int .u64 150] 108)) (by simp)
 have hb2 : Below w.heap.size w ((w.alloc (.cells #[.pointer (some t)] 88)).alloc (.cells #[hOf 88, .pointer (some ⟨w.heap.size, 0, none⟩), .int .u64 150] 108)) := ((Below.refl _ _).alloc (Nat.le_refl _) _).alloc (by simp) _
 have hg2 : ((w.alloc (.cells #[.pointer (some t)] 88)).alloc (.cells #[hOf 88, .pointer (some ⟨w.heap.size, 0, none⟩), .int .u64 150] 108)).cell? ⟨0, 0, none⟩ = some (.iface 121 (.agg #[hOf 73])) := GV.below hg hb2
 have htl : t.block < w.heap.size := World.block_lt_of_cell? w t ht0
 have ht2 := cell_below hb2 ht0
 have hf2 := (hb2.frozen htl).trans hf0
 have HC := Lib.hid (as_chain n e s c t ⟨w.heap.size, 0, none⟩ _ (hE.below hb2) (by simp) ht2 hf2)
 obtain ⟨T, p, rfl⟩ := hE.form
 have HB2 := Lib.hid hb2
 clear hE ht0 hf0 ht2 hf2 hb2 hg
 go_enter Tryd.func54, Tryd.ntmps54
 go_wp2_with (go_at_call 68; refine HC.out.mono ?_; rintro e w' ⟨rfl, b, hx⟩; have HX := Lib.hid hx; clear hx)
 go_ret
 obtain ⟨h1, h2, h3, h4⟩ := HX.out
 exact ⟨rfl, b, h1, h2, h3, (HB2.out.mono (Nat.le_of_lt htl)).trans h4⟩

set_option maxHeartbeats 1000000 in
theorem of_err (n : Nat) (e : Value) (s c : Int) (w : World) (hg : GV w) (hE : Err w n e s c) :
  Calls Tryd.prog 39 #[e] w fun ev w' => ev = .returned (.agg #[.int .u8 s, .int .u32 c]) ∧ Below w.heap.size w w' := by
 have hb2 : Below w.heap.size w ((w.alloc (.cells #[.int .u8 0, .int .u32 0] 36)).alloc (.cells #[.pointer none] 86)) := ((Below.refl _ _).alloc (Nat.le_refl _) _).alloc (by simp) _
 have HC := Lib.hid (as_calls n e s c ⟨w.heap.size + 1, 0, none⟩ _ (hg.below hb2) (hE.below hb2) (by simp) (by simp))
 have HB2 := Lib.hid hb2
 obtain ⟨T, p, rfl⟩ := hE.form
 clear hE hg hb2
 go_enter Tryd.func39, Tryd.ntmps39
 go_wp2_with (go_at_call 54; refine HC.out.mono ?_; rintro e w1 ⟨rfl, b, h1, h2, h3, hbel⟩; have c0 : w1.cell? ⟨w.heap.size, 0, none⟩ = some (.int .u8 0) := (hbel.cell (by simp)).trans (by simp); have c1 : w1.cell? ⟨w.heap.size, 1, none⟩ = some (.int .u32 0) := (hbel.cell (by simp)).trans (by simp); have f0 : w1.frozen? ⟨w.heap.size, 0, none⟩ = false := (hbel.frozen (by simp)).trans (by simp); have f1 : w1.frozen? ⟨w.heap.size, 1, none⟩ = false := (hbel.frozen (by simp)).trans (by simp); have HX := Lib.hid hbel; clear hbel)
 have hblk : w1.heap[w.heap.size]? = some (.cells #[.int .u8 0, .int .u32 0] 36 (0, 0)) := (HX.out.block _ (Nat.lt_succ_self _)).trans (blk_alloc (blk_new w _) _)
 refine bodyPost_ret (results_cell_row rfl _ _ w.heap.size 36 #[.int .u8 s, .int .u32 c] (0, 0) _ rfl (blk_set (blk_set hblk 0 _) 1 _) Tryd.underlying36 rfl (by kernel_rfl)) rfl ⟨rfl, ?_⟩
 exact ((HB2.out.trans (HX.out.mono (Nat.le_succ _))).setCell (Nat.le_refl _) _).setCell (Nat.le_refl _) _
/-! ### making errors -/
theorem new_calls (s c : Int) (h1 : 0 < s) (h2 : s < 4) (w : World) :
  Calls Tryd.prog 55 #[.agg #[.int .u8 s, .int .u32 c]] w fun ev w' => ∃ v, ev = .returned v ∧ Below w.heap.size w w' ∧ Err w' 0 v s c := by
 have hn : (s == 0) = false := by rw [beq_eq_false_iff_ne]; omega
 have hg : decide (3 < s) = false := by rw [decide_eq_false_iff_not]; omega
 go_enter Tryd.func55, Tryd.ntmps55
 go_wp2
 go_ret
 exact ⟨_, rfl, ((Below.refl _ _).alloc (Nat.le_refl _) _).alloc (by simp) _, _, rfl, by simp, by simp⟩
theorem conn_calls (c : Int) (w : World) :
  Calls Tryd.prog 43 #[.int .u32 c] w fun ev w' => ∃ v, ev = .returned v ∧ Below w.heap.size w w' ∧ Err w' 0 v 1 c := by
 go_enter Tryd.func43, Tryd.ntmps43
 go_wp2_with (go_at_call 55; refine (new_calls 1 c (by decide) (by decide) _).mono ?_; rintro e w1 ⟨v, rfl, hb, hE⟩; have HX := Lib.hid (And.intro hb hE); clear hb hE)
 go_ret
 exact ⟨_, rfl, HX.out⟩
theorem wrap_err (n : Nat) (s : ByteArray) (e : Value) (sc c : Int) (w : World) (hE : Err w n e sc c) :
  Calls Tryd.prog 40 #[.string s, e] w fun ev w' => ∃ v, ev = .returned v ∧ Below w.heap.size w w' ∧ Err w' (n + 1) v sc c := by
 have HE := Lib.hid hE
 obtain ⟨T, p, rfl⟩ := hE.form
 clear hE
 go_enter Tryd.func40, Tryd.ntmps40
 go_wp2
 go_ret
 have hb := (Below.refl w.heap.size w).alloc (Nat.le_refl _) (.cells #[.string s, .iface T (.pointer (some ⟨p, 0, none⟩))] 93)
 exact ⟨_, rfl, hb, w.heap.size, .string s, .iface T (.pointer (some ⟨p, 0, none⟩)), rfl, by simp, by simp, HE.out.below hb⟩
/-! ### an error or none -/
def EO (w : World) (v : Value) (s c : Int) : Prop := s = 0 ∧ c = 0 ∧ v = .nilIface ∨ ∃ n, Err w n v s c
theorem EO.below {w w1 : World} {v : Value} {s c : Int} (h : EO w v s c) (hb : Below w.heap.size w w1) : EO w1 v s c := h.imp id fun ⟨n, hn⟩ => ⟨n, hn.below hb⟩
theorem blk2 {w : World} {g : Nat} {t : TypeId} {a b : Value} (h : w.heap[g]? = some (.cells #[a, b] t (0, 0))) :
  w.cell? ⟨g, 0, none⟩ = some a ∧ w.cell? ⟨g, 1, none⟩ = some b ∧ w.frozen? ⟨g, 0, none⟩ = false ∧ w.frozen? ⟨g, 1, none⟩ = false :=
 ⟨blk_cell h 0, blk_cell h 1, blk_frozen h 0, blk_frozen h 1⟩
end Go.Proofs.YtodfahcmgmleeaaDoor

/- Small laws on memory: append of a row that is read, as a run and as a step of a region that draws its order; blocks kept. No program. -/
namespace Go.Proofs.YtodfahcmgmleeaaDoor
set_option linter.unusedVariables false
set_option linter.unusedSimpArgs false
open Go.RowKit Go.Proofs.YtodfahcmgmleeaaDoorW.PrintWords
section
variable {P : Program}
theorem run_append_row (W : World) (base : Nat) (t ty e : TypeId) (k : IntKind) (bytes : Nat) (ht : P.underlying t = some (.slice e))
  (hinfo : (P.info? e).map (fun i => (i.zero, i.size, i.bytes)) = some (some (.int k 0), 1, bytes)) (hb0 : 0 < bytes)
  (v : Value) (xs ys : List Int) (A : Option Addr) (m c : Nat) (HO : W.ownsRow base e 1 v xs.length (nums k xs)) (HR : ReadsInt W k A m ys) (hbase : base ≤ W.heap.size)
  (hl : (xs.length + m) * bytes ≤ 140737488355328) :
  ∃ v1 w1, (Builtin.append_ #[t, t] ty #[v, .slice A m c]).run P W = .ok v1 w1 ∧ w1.ownsRow base e 1 v1 (xs ++ ys).length (nums k (xs ++ ys)) ∧ W.grownBy w1 v.ownBlock ∧
   (v1.ownBlock = v.ownBlock ∨ v1.ownBlock = some W.heap.size) := by
 obtain ⟨i0, hi, hq⟩ := Option.map_eq_some_iff.1 hinfo
 simp only [Prod.mk.injEq] at hq
 have hn : xs.length + m ≤ 140737488355328 := Nat.le_trans (Nat.le_mul_of_pos_right _ hb0) hl
 cases A with
 | none =>
  have hm0 : m = 0 := Nat.eq_zero_of_not_pos fun h => by obtain ⟨_, h1, _⟩ := HR.2.2 h; cases h1
  have hy : ys = [] := List.eq_nil_of_length_eq_zero (by have := HR.1; omega)
  subst hm0 hy
  refine ⟨v, W, ?_, by simpa using HO, World.grownBy.refl W _, .inl rfl⟩
  rcases HO.2 with ⟨hv, _⟩ | ⟨g, cap, cur, hv, _, _, hcap, _⟩ <;> subst hv <;>
   simp [Builtin.append_, run_underlying ht, sizeOf, typeInfo, hi, Builtin.lenOf, Builtin.firstCells, storeCells] <;> omega
 | some ad =>
  have hlen : ys.length = m := HR.1
  have hcell : ∀ j u, (nums k ys)[j]? = some u → W.cell? (ad.add j) = some u := fun j u hu => by
   have hj : j < ys.length := by
    have := (List.getElem?_eq_some_iff.1 hu).1
    rwa [nums_length] at this
   obtain ⟨a2, e2, hc⟩ := HR.2.2 (by omega)
   obtain rfl := Option.some.inj e2
   rw [hc j (by omega), ← hu]
   simp [nums, List.getD_eq_getElem?_getD, List.getElem?_eq_getElem hj]
  obtain ⟨v1, w1, h1, h2, h3, _, h5⟩ := run_append_own_at (P := P) W base t ty e i0 (.int k 0) 1 bytes ht hi hq.1 hq.2.1 hq.2.2 rfl (by decide) v xs.length (nums k xs) HO ad m c (nums k ys)
   (by rw [nums_length, hlen, Nat.mul_one]) hcell (fun u hu => by obtain ⟨q, _, rfl⟩ := List.mem_map.1 hu; rfl) (by unfold maxLen; omega) hl hbase
  refine ⟨v1, w1, h1, ?_, h3, h5⟩
  rw [nums_append, List.length_append, hlen]
  exact h2
variable {ops : Array Oper} {o : Oper} {a : Act} {K : Act → World → Prop} {Q : Exit → Act → World → Prop} {E : Prop}
theorem step_append_row (W : World) (hgd : o.guard = none) (s x : Operand) (t : TypeId) (ho : o.op = .call { callee := .builtin .append, args := #[s, x], argTypes := #[t, t] })
  (base : Nat) (e : TypeId) (k : IntKind) (bytes : Nat) (ht : P.underlying t = some (.slice e))
  (hinfo : (P.info? e).map (fun i => (i.zero, i.size, i.bytes)) = some (some (.int k 0), 1, bytes)) (hb0 : 0 < bytes)
  (v : Value) (xs ys : List Int) (A : Option Addr) (m c : Nat) (hs : a.eval s = v) (hx : a.eval x = .slice A m c)
  (HO : W.ownsRow base e 1 v xs.length (nums k xs)) (HR : ReadsInt W k A m ys) (hbase : base ≤ W.heap.size) (hl : (xs.length + m) * bytes ≤ 140737488355328)
  (h : ∀ v1 w1, w1.ownsRow base e 1 v1 (xs ++ ys).length (nums k (xs ++ ys)) → W.grownBy w1 v.ownBlock → (v1.ownBlock = v.ownBlock ∨ v1.ownBlock = some W.heap.size) → K (a.put o.dst v1) w1) :
  if Region.wanted o (yielded ops a.tmps) = true then Oper.wp P o a W K Q else E := by
 rw [if_pos (by simp [Region.wanted, hgd])]
 obtain ⟨v1, w1, hr, h1, h2, h3⟩ := run_append_row W base t o.type e k bytes ht hinfo hb0 v xs ys A m c HO HR hbase hl
 unfold Oper.wp execOp
 simp only [ho, resolve, invoke, builtin, Sem.run_bind, Sem.run_pure, Result.andThen_ok, List.map_toArray, List.map_cons, List.map_nil, hs, hx, hr]
 exact h v1 w1 h1 h2 h3
end
theorem keepBut_alloc {w W : World} {g : Nat} {row : Option Nat} (h : KeepBut w W g row) (o : Obj) : KeepBut w (W.alloc o) g row :=
 ⟨by have := h.1; simp; omega, fun i hi hg hr => (Below.heap_alloc W o i (by have := h.1; omega)).trans (h.2 i hi hg hr)⟩
theorem keepBut_row {w W : World} {g : Nat} {row : Option Nat} (h : KeepBut w W g none) : KeepBut w W g row := ⟨h.1, fun i hi hg _ => h.2 i hi hg (by simp)⟩
theorem keepBut_grown {w W W1 : World} {g : Nat} {row : Option Nat} (h : KeepBut w W g row) (hg : W.grownBy W1 row) : KeepBut w W1 g row :=
 ⟨Nat.le_trans h.1 hg.size, fun i hi hne hr => (hg.block i (by have := h.1; omega) hr).trans (h.2 i hi hne hr)⟩
def Elsewhere (A : Option Addr) (n g : Nat) : Prop := ∀ ad, A = some ad → 0 < n → ad.block ≠ g
theorem add_block (a : Addr) (j : Nat) : (a.add j).block = a.block := by unfold Addr.add; split <;> rfl
theorem reads_keep {w W : World} {g : Nat} {k : IntKind} {A : Option Addr} {n : Nat} {xs : List Int} (h : ReadsInt w k A n xs) (hK : KeepBut w W g none) (hE : Elsewhere A n g) : ReadsInt W k A n xs :=
 ⟨h.1, h.2.1, fun hn => by
  obtain ⟨ad, e, hc⟩ := h.2.2 hn
  refine ⟨ad, e, fun j hj => ?_⟩
  have hcell := hc j hj
  have hb := World.block_lt_of_cell? w _ hcell
  rw [add_block] at hb
  rw [← hcell]
  exact World.cell?_of_block (by rw [add_block]; exact hK.2 _ hb (hE ad e hn) (by simp))⟩
theorem grown_drew {w w1 : World} {row : Option Nat} (h : w.drew.grownBy w1 row) : w.grownBy w1 row := ⟨h.os, h.tape, h.output, h.size, h.block⟩
theorem keepBut_drewN {w W : World} {g : Nat} {row : Option Nat} (h : KeepBut w W g row) (n : Nat) : KeepBut w (W.drewN n) g row := h
theorem own_drewN {w : World} {base n size : Nat} {e : TypeId} {v : Value} {xs : List Value} (h : w.ownsRow base e size v n xs) (k : Nat) : (w.drewN k).ownsRow base e size v n xs := h
theorem blk_at {w : World} {n : Nat} (o : Obj) (hn : n = w.heap.size) : (w.alloc o).heap[n]? = some o := by subst hn; exact blk_new w o
theorem blk_new1 (w : World) (o1 o2 : Obj) : ((w.alloc o1).alloc o2).heap[w.heap.size + 1]? = some o2 := blk_at o2 (by simp)
theorem blk_new2 (w : World) (o1 o2 o3 : Obj) : (((w.alloc o1).alloc o2).alloc o3).heap[w.heap.size + 1 + 1]? = some o3 := blk_at o3 (by simp)

structure GSt where
 stream : Int
 block : List Int
 fin : Bool
 busy : Bool
 more : Int
 bs : Int
 bc : Int
abbrev gCells (s : GSt) (v : Value) : Array Value := #[.int .u32 s.stream, v, .bool s.fin, .bool s.busy, .int .i64 s.more, .int .u8 s.bs, .int .u32 s.bc]
structure IsG (w : World) (base g : Nat) (v : Value) (s : GSt) : Prop where
 blk : w.heap[g]? = some (.cells (gCells s v) 71 (0, 0))
 own : w.ownsRow base 5 1 v s.block.length (nums .u8 s.block)
theorem Tryd.info8 : (Tryd.prog.info? 5).map (fun i => (i.zero, i.size, i.bytes)) = some (some (.int .u8 0), 1, 1) := by kernel_rfl
abbrev frV (ty fl st : Int) (D : Value) (pad code oth wgt win : Int) (al : Bool) (S : Value) : Value :=
 .agg #[.int .u8 ty, .int .u8 fl, .int .u32 st, D, .int .i64 pad, .int .u32 code, .int .u32 oth, .int .u8 wgt, .bool al, .int .u32 win, S]
def Fresh (w : World) (v v' : Value) : Prop := v'.ownBlock = v.ownBlock ∨ v'.ownBlock = none ∨ ∃ b, v'.ownBlock = some b ∧ w.heap.size ≤ b
theorem Fresh.refl (w : World) (v : Value) : Fresh w v v := .inl rfl
theorem Fresh.nil (w : World) (v : Value) : Fresh w v (.slice none 0 0) := .inr (.inl rfl)
theorem Fresh.of_at {w W : World} {v v0 v1 : Value} (h0 : v0.ownBlock = v.ownBlock ∨ v0.ownBlock = none) (h : v1.ownBlock = v0.ownBlock ∨ v1.ownBlock = some W.heap.size) (hs : w.heap.size ≤ W.heap.size) : Fresh w v v1 := by
 rcases h with h | h
 ·rw [← h] at h0
  exact h0.imp id .inl
 ·exact .inr (.inr ⟨_, h, hs⟩)
theorem Fresh.mono {w W : World} {v v' : Value} (h : Fresh W v v') (hs : w.heap.size ≤ W.heap.size) : Fresh w v v' := h.imp id fun h => h.imp id fun ⟨b, h1, h2⟩ => ⟨b, h1, Nat.le_trans hs h2⟩
def TakesPost (w : World) (base g : Nat) (v : Value) (ret : Bool) (code : Int) (s' : GSt) (ev : Ending) (w' : World) : Prop :=
 ∃ e v', ev = .returned (.tuple #[.bool ret, e]) ∧ (code = 0 ∧ e = .nilIface ∨ code ≠ 0 ∧ Err w' 0 e 1 code) ∧ IsG w' base g v' s' ∧ KeepBut w w' g v.ownBlock ∧ Below base w w' ∧ Fresh w v v'
theorem of_post {P : Program} {f : FuncId} {args : Array Value} {w : World} {T : Ending → World → Prop} (h : ∀ R : Ending → World → Prop, (∀ e w', T e w' → R e w') → Calls P f args w R) : Calls P f args w T := h T fun _ _ h => h
set_option maxHeartbeats 2000000 in
set_option maxRecDepth 100000 in
theorem takes_begin (w : World) (base g : Nat) (v : Value) (s : GSt) (fl st pad code oth wgt win : Int) (al : Bool) (A : Option Addr) (S : Value) (n c : Nat) (data : List Int)
  (hG : IsG w base g v s) (hbg : base ≤ g) (hbusy : s.busy = false) (hR : ReadsInt w .u8 A n data) (hE : Elsewhere A n g) (hn : n ≤ 20000) :
  Calls Tryd.prog 38 #[.pointer (some ⟨g, 0, none⟩), frV 1 fl st (.slice A n c) pad code oth wgt win al S] w
   (TakesPost w base g v (!decide (8192 < data.length)) (if 8192 < data.length then 11 else 0) ⟨st, data, bits .and .u8 fl 1 != 0, true, 0, s.bs, s.bc⟩) := by
 obtain ⟨s1, s2, s3, s4, s5, s6, s7⟩ := s
 simp only at hbusy
 subst hbusy
 refine of_post fun R hRR => ?_
 have HP := Lib.hid hRR
 clear hRR
 have hg := hG.blk
 have hgl := blk_lt hg
 have q0 := blk_cell hg 0
 have q1 := blk_cell hg 1
 have q2 := blk_cell hg 2
 have q3 := blk_cell hg 3
 have q4 := blk_cell hg 4
 have f0 := blk_frozen hg 0
 have f1 := blk_frozen hg 1
 have f2 := blk_frozen hg 2
 have f3 := blk_frozen hg 3
 have f4 := blk_frozen hg 4
 simp at q0 q1 q2 q3 q4
 have HG := Lib.hid hg
 have HR := Lib.hid hR
 have HN := Lib.hid hR.1
 have HE := Lib.hid hE
 clear hg hG hR hE
 go_enter Tryd.func38, Tryd.ntmps38
 go_wp2
 generalize hW : World.alloc (((((w.setCell ⟨g, 0, none⟩ (.int .u32 st)).setCell ⟨g, 1, none⟩ (.slice none 0 0)).setCell ⟨g, 2, none⟩ (.bool (bits .and .u8 fl 1 != 0))).setCell ⟨g, 3, none⟩ (.bool true)).setCell ⟨g, 4, none⟩ (.int .i64 0)) _ = W9
 have hg9 : W9.heap[g]? = some (.cells (gCells ⟨st, [], bits .and .u8 fl 1 != 0, true, 0, s6, s7⟩ (.slice none 0 0)) 71 (0, 0)) := by
  rw [← hW]
  exact blk_alloc (blk_set (blk_set (blk_set (blk_set (blk_set HG.out 0 _) 1 _) 2 _) 3 _) 4 _) _
 have hsz : w.heap.size < W9.heap.size := by rw [← hW]; simp [World.setCell]
 have e1 := blk_cell hg9 1
 have e2 := blk_frozen hg9 1
 simp at e1
 have b3 : W9.cell? ⟨w.heap.size, 3, none⟩ = some (.slice A n c) := by rw [← hW]; rw [World.cell?_alloc_at _ _ _ _ (by simp [World.setCell])]; rfl
 have hK9 : KeepBut w W9 g none := by
  rw [← hW]
  exact keepBut_alloc (((((((KeepBut.refl w g none).set_ 0 _).set_ 1 _).set_ 2 _).set_ 3 _).set_ 4 _)) _
 have hB9 : Below base w W9 := by
  rw [← hW]
  exact (((((((Below.refl base w).setCell (p := ⟨g, 0, none⟩) hbg _).setCell (p := ⟨g, 1, none⟩) hbg _).setCell (p := ⟨g, 2, none⟩) hbg _).setCell (p := ⟨g, 3, none⟩) hbg _).setCell (p := ⟨g, 4, none⟩) hbg _)).alloc (by simp [World.setCell]; omega) _
 have HO := own_nil W9.drew base 5 1
 have HR9 : ReadsInt W9.drew .u8 A n data := reads_keep HR.out hK9 HE.out
 have hbase : base ≤ W9.drew.heap.size := by show base ≤ W9.heap.size; omega
 have HK9 := Lib.hid (And.intro hK9 hB9)
 clear hW hK9 hB9
 go_region_law
  ((refine step_append_row W9.drew (by rfl) _ _ 29 (by rfl) base 5 .u8 1 Tryd.underlying29 Tryd.info8 (by decide) (.slice none 0 0) [] data A n c (by rfl) (by rfl) HO HR9 hbase (by simp; omega) ?_; intro v1 w1 hown hgrow hat; obtain ⟨A1, cc1, rfl⟩ := own_slice hown; have hgA := blk_grown (row := none) (show W9.drew.heap[g]? = _ from hg9) hgrow (by simp); have e3 := blk_cell hgA 1; have e4 := blk_frozen hgA 1; have e5 := blk_cell hgA 4; simp at e3 e5; have HX := Lib.hid (And.intro hown (And.intro hgrow hgA)); have HT := Lib.hid hat; clear hown hgrow hat hgA))
 all_goals
  by_cases hov : 8192 < data.length
  ·have z1 : decide ((8192 : Int) < (data.length : Int)) = true := by rw [decide_eq_true_iff]; omega
   have z2 : decide (8192 < data.length) = true := by rw [decide_eq_true_iff]; omega
   go_wp2_with fail
   refine (conn_calls _ _).mono ?_
   rintro e w2 ⟨e2, rfl, hb2, hE2⟩
   have HY := Lib.hid (And.intro hb2 hE2)
   clear hb2 hE2
   go_wp2_with fail
   refine HP.out _ _ ?_
   obtain ⟨hown, hgrow, hgA⟩ := HX.out
   obtain ⟨hb2, hE2⟩ := HY.out
   have hB := blk_set hgA 1 (.slice A1 data.length cc1)
   refine ⟨e2, _, by simp [hov], .inr ⟨by simp [hov], by simpa [hov] using hE2⟩, ⟨blk_below hB hb2, pw_own_below (own_setCell hown (own_ne hown hgA (by decide)) _) hb2⟩, ?_, ?_, Fresh.of_at (W := W9.drew) (.inr rfl) HT.out (Nat.le_of_lt hsz)⟩
   ·exact keepBut_row ((keepBut_grown HK9.out.1 (grown_drew (row := none) hgrow)).set_ 1 _ |>.trans (KeepBut.of_below hb2 g none) (.inl rfl))
   ·exact ((HK9.out.2.grown (grown_drew (row := none) hgrow) hbase (by simp)).setCell (p := ⟨g, 1, none⟩) hbg _).trans (hb2.mono (by have := hgrow.size; simp [World.setCell] at this ⊢; omega))
  ·have z1 : decide ((8192 : Int) < (data.length : Int)) = false := by rw [decide_eq_false_iff_not]; omega
   have z2 : decide (8192 < data.length) = false := by rw [decide_eq_false_iff_not]; omega
   go_wp2_with fail
   refine HP.out _ _ ?_
   obtain ⟨hown, hgrow, hgA⟩ := HX.out
   have hB := blk_set hgA 1 (.slice A1 data.length cc1)
   refine ⟨.nilIface, _, by simp [hov], .inl ⟨by simp [hov], rfl⟩, ⟨hB, own_setCell hown (own_ne hown hgA (by decide)) _⟩, ?_, ?_, Fresh.of_at (W := W9.drew) (.inr rfl) HT.out (Nat.le_of_lt hsz)⟩
   ·exact keepBut_row ((keepBut_grown HK9.out.1 (grown_drew (row := none) hgrow)).set_ 1 _)
   ·exact (HK9.out.2.grown (grown_drew (row := none) hgrow) hbase (by simp)).setCell (p := ⟨g, 1, none⟩) hbg _
theorem takes_pass (w : World) (base g : Nat) (v : Value) (s : GSt) (ty fl st pad code oth wgt win : Int) (al : Bool) (D S : Value)
  (hG : IsG w base g v s) (hbg : base ≤ g) (hbusy : s.busy = false) (h1 : ty ≠ 1) (h9 : ty ≠ 9) :
  Calls Tryd.prog 38 #[.pointer (some ⟨g, 0, none⟩), frV ty fl st D pad code oth wgt win al S] w (TakesPost w base g v false 0 s) := by
 obtain ⟨s1, s2, s3, s4, s5, s6, s7⟩ := s
 simp only at hbusy
 subst hbusy
 refine of_post fun R hRR => ?_
 have HP := Lib.hid hRR
 clear hRR
 have hg := hG.blk
 have hgl := blk_lt hg
 have q0 := blk_cell hg 0
 have q3 := blk_cell hg 3
 have q4 := blk_cell hg 4
 simp at q0 q3 q4
 have HG := Lib.hid hG
 have a1 : (ty == 1) = false := by simpa using h1
 have a9 : (ty == 9) = false := by simpa using h9
 have b9 : (ty != 9) = true := by simpa using h9
 clear hg hG
 go_enter Tryd.func38, Tryd.ntmps38
 go_wp2
 refine HP.out _ _ ?_
 have hB := (Below.refl w.heap.size w).alloc (Nat.le_refl _) (.cells #[.int .u8 ty, .int .u8 fl, .int .u32 st, D, .int .i64 pad, .int .u32 code, .int .u32 oth, .int .u8 wgt, .bool al, .int .u32 win, S] 32)
 exact ⟨.nilIface, v, rfl, .inl ⟨rfl, rfl⟩, ⟨blk_below HG.out.blk hB, pw_own_below HG.out.own hB⟩, KeepBut.of_below hB _ _, hB.mono (by omega), Fresh.refl _ _⟩
theorem takes_bad (w : World) (base g : Nat) (v : Value) (s : GSt) (ty fl st pad code oth wgt win : Int) (al : Bool) (D S : Value)
  (hG : IsG w base g v s) (hbg : base ≤ g) (hbad : (s.busy = false ∧ ty = 9) ∨ (s.busy = true ∧ ty ≠ 9) ∨ (s.busy = true ∧ ty = 9 ∧ st ≠ s.stream)) :
  Calls Tryd.prog 38 #[.pointer (some ⟨g, 0, none⟩), frV ty fl st D pad code oth wgt win al S] w (TakesPost w base g v false 1 s) := by
 obtain ⟨s1, s2, s3, s4, s5, s6, s7⟩ := s
 simp only at hbad
 refine of_post fun R hRR => ?_
 have HP := Lib.hid hRR
 clear hRR
 have hg := hG.blk
 have hgl := blk_lt hg
 have q0 := blk_cell hg 0
 have q3 := blk_cell hg 3
 have q4 := blk_cell hg 4
 simp at q0 q3 q4
 have HG := Lib.hid hG
 clear hg hG
 have hB := (Below.refl w.heap.size w).alloc (Nat.le_refl _) (.cells #[.int .u8 ty, .int .u8 fl, .int .u32 st, D, .int .i64 pad, .int .u32 code, .int .u32 oth, .int .u8 wgt, .bool al, .int .u32 win, S] 32)
 have HB := Lib.hid hB
 clear hB
 rcases hbad with ⟨rfl, rfl⟩ | ⟨rfl, h9⟩ | ⟨rfl, rfl, hst⟩
 ·go_enter Tryd.func38, Tryd.ntmps38
  go_wp2
  go_quiet (fail)
  go_wp2_with fail
  refine (conn_calls _ _).mono ?_
  rintro e w2 ⟨e2, rfl, hb2, hE2⟩
  have HY := Lib.hid (And.intro hb2 hE2)
  clear hb2 hE2
  go_wp2_with fail
  refine HP.out _ _ ?_
  have hB2 := (pw_below_drewN HB.out nq).trans (HY.out.1.mono (by simp))
  exact ⟨e2, v, rfl, .inr ⟨by decide, HY.out.2⟩, ⟨blk_below HG.out.blk hB2, pw_own_below HG.out.own hB2⟩, KeepBut.of_below hB2 _ _, hB2.mono (by omega), Fresh.refl _ _⟩
 ·have a9 : (ty == 9) = false := by simpa using h9
  have b9 : (ty != 9) = true := by simpa using h9
  clear h9
  go_enter Tryd.func38, Tryd.ntmps38
  go_wp2
  go_quiet (fail)
  go_wp2_with fail
  refine (conn_calls _ _).mono ?_
  rintro e w2 ⟨e2, rfl, hb2, hE2⟩
  have HY := Lib.hid (And.intro hb2 hE2)
  clear hb2 hE2
  go_wp2_with fail
  refine HP.out _ _ ?_
  have hB2 := (pw_below_drewN HB.out nq).trans (HY.out.1.mono (by simp))
  exact ⟨e2, v, rfl, .inr ⟨by decide, HY.out.2⟩, ⟨blk_below HG.out.blk hB2, pw_own_below HG.out.own hB2⟩, KeepBut.of_below hB2 _ _, hB2.mono (by omega), Fresh.refl _ _⟩
 ·have a9 : (st == s1) = false := by simpa using hst
  have b9 : (st != s1) = true := by simpa using hst
  clear hst
  go_enter Tryd.func38, Tryd.ntmps38
  go_wp2
  go_quiet (fail)
  go_wp2_with fail
  refine (conn_calls _ _).mono ?_
  rintro e w2 ⟨e2, rfl, hb2, hE2⟩
  have HY := Lib.hid (And.intro hb2 hE2)
  clear hb2 hE2
  go_wp2_with fail
  refine HP.out _ _ ?_
  have hB2 := (pw_below_drewN HB.out nq).trans (HY.out.1.mono (by simp))
  exact ⟨e2, v, rfl, .inr ⟨by decide, HY.out.2⟩, ⟨blk_below HG.out.blk hB2, pw_own_below HG.out.own hB2⟩, KeepBut.of_below hB2 _ _, hB2.mono (by omega), Fresh.refl _ _⟩
set_option maxHeartbeats 2000000 in
set_option maxRecDepth 100000 in
theorem takes_more (w : World) (base g : Nat) (v : Value) (s : GSt) (fl st pad code oth wgt win : Int) (al : Bool) (A : Option Addr) (S : Value) (n c : Nat) (data : List Int)
  (hG : IsG w base g v s) (hbg : base ≤ g) (hbusy : s.busy = true) (hst : st = s.stream) (hm0 : 0 ≤ s.more) (hm1 : s.more ≤ 1000) (hsl : s.block.length ≤ 100000) (hR : ReadsInt w .u8 A n data) (hE : Elsewhere A n g) (hn : n ≤ 20000) :
  Calls Tryd.prog 38 #[.pointer (some ⟨g, 0, none⟩), frV 9 fl st (.slice A n c) pad code oth wgt win al S] w
   (TakesPost w base g v (!(decide (8192 < s.block.length + data.length) || decide (16 < s.more + 1))) (if 8192 < s.block.length + data.length ∨ 16 < s.more + 1 then 11 else 0) ⟨s.stream, s.block ++ data, s.fin, true, s.more + 1, s.bs, s.bc⟩) := by
 subst hst
 obtain ⟨s1, s2, s3, s4, s5, s6, s7⟩ := s
 simp only at hbusy hm0 hm1 hsl
 subst hbusy
 refine of_post fun R hRR => ?_
 have HP := Lib.hid hRR
 clear hRR
 have hg := hG.blk
 have hgl := blk_lt hg
 obtain ⟨A1, c1, hv⟩ := own_slice hG.own
 subst hv
 have q0 := blk_cell hg 0
 have q1 := blk_cell hg 1
 have q3 := blk_cell hg 3
 have q4 := blk_cell hg 4
 have f4 := blk_frozen hg 4
 simp at q0 q1 q3 q4
 have HG := Lib.hid hG
 have HR := Lib.hid hR
 have HN := Lib.hid hR.1
 have HE := Lib.hid hE
 clear hg hG hR hE
 go_enter Tryd.func38, Tryd.ntmps38
 go_wp2
 go_quiet (fail)
 go_wp2
 generalize hW : World.setCell ((w.alloc _).drewN nq) ⟨g, 4, none⟩ (.int .i64 (s5 + 1)) = W9
 have hg9 : W9.heap[g]? = some (.cells (gCells ⟨s1, s2, s3, true, s5 + 1, s6, s7⟩ (.slice A1 s2.length c1)) 71 (0, 0)) := by
  rw [← hW]
  exact blk_set (blk_drewN (blk_alloc HG.out.blk _) nq) 4 _
 have hsz : w.heap.size < W9.heap.size := by rw [← hW]; simp [World.setCell]
 have e1 := blk_cell hg9 1
 have e2 := blk_frozen hg9 1
 simp at e1
 have b3 : W9.cell? ⟨w.heap.size, 3, none⟩ = some (.slice A n c) := by
  rw [← hW, World.cell?_setCell_other _ _ _ _ (by intro h; injection h; omega)]
  exact cell_of_row _ _ _ _ _ _ (blk_drewN (blk_new w _) nq)
 have hK9 : KeepBut w W9 g none := by
  rw [← hW]
  exact (keepBut_drewN (keepBut_alloc (KeepBut.refl w g none) _) nq).set_ 4 _
 have hB9 : Below base w W9 := by
  rw [← hW]
  exact (pw_below_drewN ((Below.refl base w).alloc (by omega) _) nq).setCell (p := ⟨g, 4, none⟩) hbg _
 have HO : W9.drew.ownsRow base 5 1 (.slice A1 s2.length c1) s2.length (nums .u8 s2) := by
  have hne := own_ne HG.out.own HG.out.blk (by decide)
  refine World.ownsRow.drew ?_
  rw [← hW]
  exact own_setCell (own_drewN ((HG.out.own).alloc _) nq) hne _
 have HR9 : ReadsInt W9.drew .u8 A n data := reads_keep HR.out hK9 HE.out
 have hbase : base ≤ W9.drew.heap.size := by show base ≤ W9.heap.size; omega
 have HK9 := Lib.hid (And.intro hK9 hB9)
 clear hW hK9 hB9
 go_region_law
  ((refine step_append_row W9.drew (by rfl) _ _ 29 (by rfl) base 5 .u8 1 Tryd.underlying29 Tryd.info8 (by decide) (.slice A1 s2.length c1) s2 data A n c (by rfl) (by rfl) HO HR9 hbase (by omega) ?_; intro v1 w1 hown hgrow hat; obtain ⟨A3, cc1, rfl⟩ := own_slice hown; have hgA := blk_grown (show W9.drew.heap[g]? = _ from hg9) hgrow (own_ne HO (show W9.drew.heap[g]? = _ from hg9) (by decide)); have e3 := blk_cell hgA 1; have e4 := blk_frozen hgA 1; have e5 := blk_cell hgA 4; simp at e3 e5; have HX := Lib.hid (And.intro hown (And.intro hgrow hgA)); have HT := Lib.hid hat; clear hown hgrow hat hgA))
 all_goals
  by_cases hov : 8192 < s2.length + data.length ∨ 16 < s5 + 1
  ·have HOV := Lib.hid hov
   rcases (show (8192 < s2.length + data.length) ∨ (¬ 8192 < s2.length + data.length ∧ 16 < s5 + 1) by omega) with ha | ⟨ha, hb⟩
   ·have z1 : decide ((8192 : Int) < ((s2 ++ data).length : Int)) = true := by rw [decide_eq_true_iff, List.length_append]; omega
    have z2 : decide (8192 < (s2 ++ data).length) = true := by rw [decide_eq_true_iff, List.length_append]; omega
    have z3 : decide (8192 < s2.length + data.length) = true := by rw [decide_eq_true_iff]; omega
    have z4 : decide ((8192 : Int) < (s2.length : Int) + (data.length : Int)) = true := by rw [decide_eq_true_iff]; omega
    clear ha hov
    go_wp2_with fail
    refine (conn_calls _ _).mono ?_
    rintro e w2 ⟨e6, rfl, hb2, hE2⟩
    have HY := Lib.hid (And.intro hb2 hE2)
    clear hb2 hE2
    go_wp2_with fail
    refine HP.out _ _ ?_
    obtain ⟨hown0, hgrow, hgA⟩ := HX.out
    have hown : w1.ownsRow base 5 1 (.slice A3 (s2.length + data.length) cc1) (s2 ++ data).length (nums .u8 (s2 ++ data)) := by have h := hown0; rw [List.length_append] at h ⊢; exact h
    obtain ⟨hb2, hE2⟩ := HY.out
    have hB := blk_set hgA 1 (.slice A3 (s2.length + data.length) cc1)
    refine ⟨e6, _, by simp [z3], .inr ⟨by simp [HOV.out], by simpa [HOV.out] using hE2⟩, ⟨blk_below hB hb2, pw_own_below (own_setCell hown (own_ne hown hgA (by decide)) _) hb2⟩, ?_, ?_, Fresh.of_at (W := W9.drew) (.inl rfl) (by have h := HT.out; rw [List.length_append] at h; exact h) (Nat.le_of_lt hsz)⟩
    ·exact ((keepBut_grown (keepBut_row HK9.out.1) (grown_drew hgrow)).set_ 1 _).trans (KeepBut.of_below hb2 g _) (.inl rfl)
    ·exact ((HK9.out.2.grown (grown_drew hgrow) hbase (own_base HG.out.own)).setCell (p := ⟨g, 1, none⟩) hbg _).trans (hb2.mono (by have := hgrow.size; simp [World.setCell] at this ⊢; omega))
   ·have z1 : decide ((8192 : Int) < ((s2 ++ data).length : Int)) = false := by rw [decide_eq_false_iff_not, List.length_append]; omega
    have z2 : decide (8192 < (s2 ++ data).length) = false := by rw [decide_eq_false_iff_not, List.length_append]; omega
    have z3 : decide (8192 < s2.length + data.length) = false := by rw [decide_eq_false_iff_not]; omega
    have z5 : decide ((8192 : Int) < (s2.length : Int) + (data.length : Int)) = false := by rw [decide_eq_false_iff_not]; omega
    have z4 : decide (16 < s5 + 1) = true := by rw [decide_eq_true_iff]; omega
    clear hov
    go_wp2_with fail
    refine (conn_calls _ _).mono ?_
    rintro e w2 ⟨e6, rfl, hb2, hE2⟩
    have HY := Lib.hid (And.intro hb2 hE2)
    clear hb2 hE2
    go_wp2_with fail
    refine HP.out _ _ ?_
    obtain ⟨hown0, hgrow, hgA⟩ := HX.out
    have hown : w1.ownsRow base 5 1 (.slice A3 (s2.length + data.length) cc1) (s2 ++ data).length (nums .u8 (s2 ++ data)) := by have h := hown0; rw [List.length_append] at h ⊢; exact h
    obtain ⟨hb2, hE2⟩ := HY.out
    have hB := blk_set hgA 1 (.slice A3 (s2.length + data.length) cc1)
    refine ⟨e6, _, by simp [z3, z4], .inr ⟨by simp [HOV.out], by simpa [HOV.out] using hE2⟩, ⟨blk_below hB hb2, pw_own_below (own_setCell hown (own_ne hown hgA (by decide)) _) hb2⟩, ?_, ?_, Fresh.of_at (W := W9.drew) (.inl rfl) (by have h := HT.out; rw [List.length_append] at h; exact h) (Nat.le_of_lt hsz)⟩
    ·exact ((keepBut_grown (keepBut_row HK9.out.1) (grown_drew hgrow)).set_ 1 _).trans (KeepBut.of_below hb2 g _) (.inl rfl)
    ·exact ((HK9.out.2.grown (grown_drew hgrow) hbase (own_base HG.out.own)).setCell (p := ⟨g, 1, none⟩) hbg _).trans (hb2.mono (by have := hgrow.size; simp [World.setCell] at this ⊢; omega))
  ·have z1 : decide ((8192 : Int) < ((s2 ++ data).length : Int)) = false := by rw [decide_eq_false_iff_not, List.length_append]; omega
   have z2 : decide (8192 < (s2 ++ data).length) = false := by rw [decide_eq_false_iff_not, List.length_append]; omega
   have z3 : decide (8192 < s2.length + data.length) = false := by rw [decide_eq_false_iff_not]; omega
   have z5 : decide ((8192 : Int) < (s2.length : Int) + (data.length : Int)) = false := by rw [decide_eq_false_iff_not]; omega
   have z4 : decide (16 < s5 + 1) = false := by rw [decide_eq_false_iff_not]; omega
   have HOV := Lib.hid hov
   clear hov
   go_wp2_with fail
   refine HP.out _ _ ?_
   obtain ⟨hown0, hgrow, hgA⟩ := HX.out
   have hown : w1.ownsRow base 5 1 (.slice A3 (s2.length + data.length) cc1) (s2 ++ data).length (nums .u8 (s2 ++ data)) := by have h := hown0; rw [List.length_append] at h ⊢; exact h
   have hB := blk_set hgA 1 (.slice A3 (s2.length + data.length) cc1)
   refine ⟨.nilIface, _, by simp [z3, z4], .inl ⟨by simp [HOV.out], rfl⟩, ⟨hB, own_setCell hown (own_ne hown hgA (by decide)) _⟩, ?_, ?_, Fresh.of_at (W := W9.drew) (.inl rfl) (by have h := HT.out; rw [List.length_append] at h; exact h) (Nat.le_of_lt hsz)⟩
   ·exact (keepBut_grown (keepBut_row HK9.out.1) (grown_drew hgrow)).set_ 1 _
   ·exact (HK9.out.2.grown (grown_drew hgrow) hbase (own_base HG.out.own)).setCell (p := ⟨g, 1, none⟩) hbg _

theorem eqFault (d : Nat) (w : World) (x0 y0 : Int) (x1 y1 : Int) :
  (Op.equalIn (d + 2) 36 (.agg #[.int .u8 x0, .int .u32 x1]) (.agg #[.int .u8 y0, .int .u32 y1])).run Tryd.prog w = .ok (x0 == y0 && (x1 == y1)) w := by
 refine eqA_of Tryd.underlying36 (by kernel_rfl) ?_
 refine eqf_cons (by rfl) (by go_simp; rfl) (by go_simp; rfl) (by go_simp) ?_
 exact eqf_last (by rfl) (by go_simp; rfl) (by go_simp; rfl) (by go_simp)
end Go.Proofs.YtodfahcmgmleeaaDoor

/- What (*Gatherer).Take does. -/
namespace Go.Proofs.YtodfahcmgmleeaaDoor
set_option linter.unusedVariables false
set_option linter.unusedSimpArgs false
open Go.RowKit Go.Proofs.YtodfahcmgmleeaaDoorW.PrintWords
attribute [local go_sem high] eqFault
abbrev wholeC (st : Int) (v : Value) (fin : Bool) : Array Value := #[.int .u32 st, v, .bool fin]
abbrev faultC (s c : Int) : Array Value := #[.int .u8 s, .int .u32 c]
abbrev frO (ty fl st : Int) (D : Value) (pad code oth wgt win : Int) (al : Bool) (S : Value) : Obj := .cells #[.int .u8 ty, .int .u8 fl, .int .u32 st, D, .int .i64 pad, .int .u32 code, .int .u32 oth, .int .u8 wgt, .bool al, .int .u32 win, S] 32
abbrev whO : Obj := .cells (wholeC 0 (.slice none 0 0) false) 34
abbrev faO (s c : Int) : Obj := .cells (faultC s c) 36
theorem set5 {w2 : World} {a b : Nat} {t1 t2 : TypeId} {c0 c1 c2 d0 d1 : Value} (hab : a ≠ b) (p1 : w2.heap[a]? = some (.cells #[c0, c1, c2] t1 (0, 0))) (p2 : w2.heap[b]? = some (.cells #[d0, d1] t2 (0, 0))) (x0 x1 x2 y0 y1 : Value) {W : World}
  (hW : W = ((((w2.setCell ⟨a, 0, none⟩ x0).setCell ⟨a, 1, none⟩ x1).setCell ⟨a, 2, none⟩ x2).setCell ⟨b, 0, none⟩ y0).setCell ⟨b, 1, none⟩ y1) :
  W.heap[a]? = some (.cells #[x0, x1, x2] t1 (0, 0)) ∧ W.heap[b]? = some (.cells #[y0, y1] t2 (0, 0)) ∧ (∀ B, B ≤ a → B ≤ b → Below B w2 W) ∧
   (∀ base e n v xs, e ≠ t1 → e ≠ t2 → w2.ownsRow base e 1 v n xs → W.ownsRow base e 1 v n xs) := by
 subst hW
 refine ⟨?_, ?_, ?_, ?_⟩
 ·exact blk_far (blk_far (blk_set (blk_set (blk_set p1 0 x0) 1 x1) 2 x2) hab _) hab _
 ·exact blk_set (blk_set (blk_far (blk_far (blk_far p2 (fun h => hab h.symm) _) (fun h => hab h.symm) _) (fun h => hab h.symm) _) 0 y0) 1 y1
 ·intro B h1 h2
  exact (((((Below.refl B w2).setCell (p := ⟨a, 0, none⟩) h1 _).setCell (p := ⟨a, 1, none⟩) h1 _).setCell (p := ⟨a, 2, none⟩) h1 _).setCell (p := ⟨b, 0, none⟩) h2 _).setCell (p := ⟨b, 1, none⟩) h2 _
 ·intro base e n v xs h1 h2 h
  exact own_setCell (own_setCell (own_setCell (own_setCell (own_setCell h (own_ne h p1 h1) _) (own_ne h p1 h1) _) (own_ne h p1 h1) _) (own_ne h p2 h2) _) (own_ne h p2 h2) _
def TakeNo (w : World) (base g : Nat) (v : Value) (bs bc : Int) (s' : GSt) (ev : Ending) (w' : World) : Prop :=
 ev = .returned (.tuple #[.agg (wholeC 0 (.slice none 0 0) false), .bool false, .agg (faultC bs bc)]) ∧ (∃ v', IsG w' base g v' s' ∧ Fresh w v v') ∧ KeepBut w w' g v.ownBlock ∧ Below base w w'
set_option maxHeartbeats 2000000 in
set_option maxRecDepth 100000 in
theorem take_again (w : World) (base g : Nat) (v : Value) (s : GSt) (ty fl st pad code oth wgt win : Int) (al : Bool) (D S : Value) (hG : IsG w base g v s) (hbg : base ≤ g) (hbad : s.bs ≠ 0) :
  Calls Tryd.prog 17 #[.pointer (some ⟨g, 0, none⟩), frV ty fl st D pad code oth wgt win al S] w (TakeNo w base g v s.bs s.bc s) := by
 obtain ⟨s1, s2, s3, s4, s5, s6, s7⟩ := s
 simp only at hbad
 refine of_post fun R hRR => ?_
 have HP := Lib.hid hRR
 clear hRR
 have hg := hG.blk
 have hgl := blk_lt hg
 have hgl1 : g < w.heap.size + 1 := by omega
 have hgl2 : g < w.heap.size + 1 + 1 := by omega
 have q5 := blk_cell hg 5
 have q6 := blk_cell hg 6
 simp at q5 q6
 have HG := Lib.hid hG
 have z1 : (s6 == 0) = false := by simpa using hbad
 clear hg hG hbad
 go_enter Tryd.func17, Tryd.ntmps17
 go_wp2
 go_region
 go_wp2
 have hB := ((((Below.refl w.heap.size w).alloc (Nat.le_refl _) (.cells #[.int .u8 ty, .int .u8 fl, .int .u32 st, D, .int .i64 pad, .int .u32 code, .int .u32 oth, .int .u8 wgt, .bool al, .int .u32 win, S] 32)).alloc (by simp) (.cells (wholeC 0 (.slice none 0 0) false) 34)).alloc (by simp; omega) (.cells (faultC s6 s7) 36)).drew
 refine bodyPost_ret (results_list (rs := [.cell 4 34, .tmp 5, .cell 6 36]) rfl (by simp) (.cell (w.heap.size + 1) 34 (wholeC 0 (.slice none 0 0) false) (0, 0) _ rfl (blk_drew (blk_alloc (blk_new1 w _ _) _)) Tryd.underlying34 rfl (by kernel_rfl) (.tmp (.cell (w.heap.size + 1 + 1) 36 (faultC s6 s7) (0, 0) _ rfl (blk_drew (blk_new2 w _ _ _)) Tryd.underlying36 rfl (by kernel_rfl) .nil)))) rfl ?_
 refine HP.out _ _ ⟨rfl, ⟨v, ⟨blk_below HG.out.blk hB, pw_own_below HG.out.own hB⟩, Fresh.refl _ _⟩, KeepBut.of_below hB _ _, hB.mono (by omega)⟩
theorem take_none_end {w w4 w2 W : World} {base g : Nat} {v v2 : Value} {s s' : GSt} {x y : Prop} (hgl : g < w.heap.size) (hbb : base ≤ w.heap.size) (hF : Fresh w4 v v2)
  (HB : Below w.heap.size w w4 ∧ IsG w2 base g v2 s' ∧ KeepBut w4 w2 g v.ownBlock ∧ Below base w4 w2 ∧ x ∧ y)
  (HS : W.heap[w.heap.size + 1]? = some (.cells (wholeC 0 (.slice none 0 0) false) 34 (0, 0)) ∧ W.heap[w.heap.size + 1 + 1]? = some (.cells (faultC s.bs s.bc) 36 (0, 0)) ∧ (∀ B, B ≤ w.heap.size + 1 → B ≤ w.heap.size + 1 + 1 → Below B w2 W) ∧
   (∀ base e n v xs, e ≠ 34 → e ≠ 36 → w2.ownsRow base e 1 v n xs → W.ownsRow base e 1 v n xs)) :
  TakeNo w base g v s.bs s.bc s' (.returned (.tuple #[.agg (wholeC 0 (.slice none 0 0) false), .bool false, .agg (faultC s.bs s.bc)])) W := by
 obtain ⟨h1, hG, hK, hB, -, -⟩ := HB
 obtain ⟨-, -, k3, k4⟩ := HS
 have hb := k3 w.heap.size (by omega) (by omega)
 refine ⟨rfl, ⟨v2, ⟨(hb.block g hgl).trans hG.blk, k4 _ _ _ _ _ (by decide) (by decide) hG.own⟩, hF.mono h1.size⟩, ?_, ?_⟩
 ·exact ⟨Nat.le_trans h1.size (Nat.le_trans hK.1 hb.size), fun i hi hne hr => (hb.block i hi).trans ((hK.2 i (Nat.lt_of_lt_of_le hi h1.size) hne hr).trans (h1.block i hi))⟩
 ·exact ((h1.mono hbb).trans hB).trans (hb.mono hbb)
set_option maxHeartbeats 2000000 in
set_option maxRecDepth 100000 in
theorem take_none (w : World) (base g : Nat) (v : Value) (s s' : GSt) (ty fl st pad code oth wgt win : Int) (al : Bool) (D S : Value) (ret : Bool) (hG : IsG w base g v s) (hbg : base ≤ g) (hbb : base ≤ w.heap.size) (hb0 : s.bs = 0) (hc0 : s.bc = 0)
  (hr : ret = false ∨ (bits .and .u8 fl 4 == 0) = true)
  (hT : ∀ w2, Below w.heap.size w w2 → Calls Tryd.prog 38 #[.pointer (some ⟨g, 0, none⟩), frV ty fl st D pad code oth wgt win al S] w2 (TakesPost w2 base g v ret 0 s')) :
  Calls Tryd.prog 17 #[.pointer (some ⟨g, 0, none⟩), frV ty fl st D pad code oth wgt win al S] w (TakeNo w base g v 0 0 s') := by
 obtain ⟨s1, s2, s3, s4, s5, s6, s7⟩ := s
 simp only at hb0 hc0
 subst hb0 hc0
 refine of_post fun R hRR => ?_
 have HP := Lib.hid hRR
 clear hRR
 have hg := hG.blk
 have hgl := blk_lt hg
 have hgl1 : g < w.heap.size + 1 := by omega
 have hgl2 : g < w.heap.size + 1 + 1 := by omega
 have q5 := blk_cell hg 5
 have q6 := blk_cell hg 6
 simp at q5 q6
 have HG := Lib.hid hG
 have HT := Lib.hid hT
 have HR := Lib.hid hr
 clear hg hG hT hr
 go_enter Tryd.func17, Tryd.ntmps17
 go_wp2_with fail
 have hB := (((Below.refl w.heap.size w).alloc (Nat.le_refl _) (frO ty fl st D pad code oth wgt win al S)).alloc (by simp) whO).alloc (by simp; omega) (faO 0 0)
 refine (HT.out _ hB).mono ?_
 rintro e w2 ⟨e2, v2, rfl, hc, hG2, hK2, hB2, hF2⟩
 have HF := Lib.hid hF2
 obtain rfl : e2 = .nilIface := by rcases hc with ⟨_, h⟩ | ⟨h, _⟩; exact h; exact absurd rfl h
 have hsz2 := hB2.size
 simp at hsz2
 have p0 := (hK2.2 w.heap.size (by simp; omega) (by omega) (own_ne_new HG.out.own 0)).trans (blk_alloc (blk_alloc (blk_new w (frO ty fl st D pad code oth wgt win al S)) whO) (faO 0 0))
 have p1 := (hK2.2 (w.heap.size + 1) (by simp) (by omega) (own_ne_new HG.out.own 1)).trans (blk_alloc (blk_new1 w (frO ty fl st D pad code oth wgt win al S) whO) (faO 0 0))
 have p2 := (hK2.2 (w.heap.size + 1 + 1) (by simp) (by omega) (own_ne_new HG.out.own 2)).trans (blk_new2 w (frO ty fl st D pad code oth wgt win al S) whO (faO 0 0))
 have hz0 : w.heap.size < w2.heap.size := by omega
 have hz1 : w.heap.size + 1 < w2.heap.size := by omega
 have hz2 : w.heap.size + 1 + 1 < w2.heap.size := by omega
 have q01 := blk_cell p0 1
 have r10 := blk_cell p1 0
 have r11 := blk_cell p1 1
 have r12 := blk_cell p1 2
 have r20 := blk_cell p2 0
 have r21 := blk_cell p2 1
 have g10 := blk_frozen p1 0
 have g11 := blk_frozen p1 1
 have g12 := blk_frozen p1 2
 have g20 := blk_frozen p2 0
 have g21 := blk_frozen p2 1
 simp at q01 r10 r11 r12 r20 r21
 have HB := Lib.hid (And.intro hB (And.intro hG2 (And.intro hK2 (And.intro hB2 (And.intro p1 p2)))))
 clear hF2 hB hG2 hK2 hB2 hc p0 p1 p2
 have HS := Lib.hid (set5 (by omega) HB.out.2.2.2.2.1 HB.out.2.2.2.2.2 (.int .u32 0) (.slice none 0 0) (.bool false) (.int .u8 0) (.int .u32 0) rfl)
 have hrr := HR.out
 rcases hrr with rfl | z4
 ·go_wp2_with fail
  refine bodyPost_ret (results_list (rs := [.cell 4 34, .tmp 5, .cell 6 36]) rfl (by simp) (.cell (w.heap.size + 1) 34 (wholeC 0 (.slice none 0 0) false) (0, 0) _ rfl HS.out.1 Tryd.underlying34 rfl (by kernel_rfl) (.tmp (.cell (w.heap.size + 1 + 1) 36 (faultC 0 0) (0, 0) _ rfl HS.out.2.1 Tryd.underlying36 rfl (by kernel_rfl) .nil)))) rfl ?_
  refine HP.out _ _ (take_none_end (s := ⟨0, [], false, false, 0, 0, 0⟩) hgl hbb HF.out HB.out HS.out)
 ·cases ret
  ·go_wp2_with fail
   refine bodyPost_ret (results_list (rs := [.cell 4 34, .tmp 5, .cell 6 36]) rfl (by simp) (.cell (w.heap.size + 1) 34 (wholeC 0 (.slice none 0 0) false) (0, 0) _ rfl HS.out.1 Tryd.underlying34 rfl (by kernel_rfl) (.tmp (.cell (w.heap.size + 1 + 1) 36 (faultC 0 0) (0, 0) _ rfl HS.out.2.1 Tryd.underlying36 rfl (by kernel_rfl) .nil)))) rfl ?_
   refine HP.out _ _ (take_none_end (s := ⟨0, [], false, false, 0, 0, 0⟩) hgl hbb HF.out HB.out HS.out)
  ·go_wp2_with fail
   refine bodyPost_ret (results_list (rs := [.cell 4 34, .tmp 5, .cell 6 36]) rfl (by simp) (.cell (w.heap.size + 1) 34 (wholeC 0 (.slice none 0 0) false) (0, 0) _ rfl HS.out.1 Tryd.underlying34 rfl (by kernel_rfl) (.tmp (.cell (w.heap.size + 1 + 1) 36 (faultC 0 0) (0, 0) _ rfl HS.out.2.1 Tryd.underlying36 rfl (by kernel_rfl) .nil)))) rfl ?_
   refine HP.out _ _ (take_none_end (s := ⟨0, [], false, false, 0, 0, 0⟩) hgl hbb HF.out HB.out HS.out)
def TakeWhole (w : World) (base g : Nat) (v : Value) (s' : GSt) (ev : Ending) (w' : World) : Prop :=
 ∃ v2, ev = .returned (.tuple #[.agg (wholeC s'.stream v2 s'.fin), .bool true, .agg (faultC 0 0)]) ∧ w'.ownsRow base 5 1 v2 s'.block.length (nums .u8 s'.block) ∧
  IsG w' base g (.slice none 0 0) ⟨0, [], false, false, s'.more, 0, 0⟩ ∧ KeepBut w w' g v.ownBlock ∧ Below base w w' ∧ Fresh w v v2
theorem take_whole_end {w w4 w2 W : World} {base g : Nat} {v v2 : Value} {s' : GSt} (o : Obj) {x y p q : Prop} (hgl : g < w.heap.size) (hbb : base ≤ w.heap.size) (hbg : base ≤ g) (hF : Fresh w4 v v2)
  (HB : Below w.heap.size w w4 ∧ IsG w2 base g v2 ⟨s'.stream, s'.block, s'.fin, s'.busy, s'.more, 0, 0⟩ ∧ KeepBut w4 w2 g v.ownBlock ∧ Below base w4 w2 ∧ x ∧ y)
  (HS : p ∧ q ∧ (∀ B, B ≤ w.heap.size + 1 → B ≤ w.heap.size + 1 + 1 → Below B ((((w2.setCell ⟨g, 0, none⟩ (.int .u32 0)).setCell ⟨g, 1, none⟩ (.slice none 0 0)).setCell ⟨g, 2, none⟩ (.bool false)).setCell ⟨g, 3, none⟩ (.bool false)) W) ∧
   (∀ base e n v xs, e ≠ 34 → e ≠ 36 → ((((w2.setCell ⟨g, 0, none⟩ (.int .u32 0)).setCell ⟨g, 1, none⟩ (.slice none 0 0)).setCell ⟨g, 2, none⟩ (.bool false)).setCell ⟨g, 3, none⟩ (.bool false)).ownsRow base e 1 v n xs → W.ownsRow base e 1 v n xs)) :
  TakeWhole w base g v s' (.returned (.tuple #[.agg (wholeC s'.stream v2 s'.fin), .bool true, .agg (faultC 0 0)])) (W.alloc o) := by
 obtain ⟨h1, hG, hK, hB, -, -⟩ := HB
 obtain ⟨-, -, k3, k4⟩ := HS
 have hb := k3 w.heap.size (by omega) (by omega)
 have hne := own_ne hG.own hG.blk (by decide)
 have hKW := (((((KeepBut.refl w2 g none).set_ 0 (.int .u32 0)).set_ 1 (.slice none 0 0)).set_ 2 (.bool false)).set_ 3 (.bool false))
 have hBW := ((((Below.refl base w2).setCell (p := ⟨g, 0, none⟩) hbg (.int .u32 0)).setCell (p := ⟨g, 1, none⟩) hbg (.slice none 0 0)).setCell (p := ⟨g, 2, none⟩) hbg (.bool false)).setCell (p := ⟨g, 3, none⟩) hbg (.bool false)
 have hgs := blk_set (blk_set (blk_set (blk_set hG.blk 0 (.int .u32 0)) 1 (.slice none 0 0)) 2 (.bool false)) 3 (.bool false)
 have hos := own_setCell (own_setCell (own_setCell (own_setCell hG.own (p := ⟨g, 0, none⟩) hne (.int .u32 0)) (p := ⟨g, 1, none⟩) hne (.slice none 0 0)) (p := ⟨g, 2, none⟩) hne (.bool false)) (p := ⟨g, 3, none⟩) hne (.bool false)
 have hsz : w.heap.size ≤ w2.heap.size := Nat.le_trans h1.size hK.1
 have hsW : base ≤ W.heap.size := Nat.le_trans hbb (Nat.le_trans (by simpa [World.setCell] using hsz) hb.size)
 refine ⟨v2, rfl, (k4 _ _ _ _ _ (by decide) (by decide) hos).alloc _, ⟨blk_alloc ((hb.block g hgl).trans hgs) _, own_nil _ _ _ _⟩, ?_, ?_, hF.mono h1.size⟩
 ·refine keepBut_alloc ⟨Nat.le_trans h1.size (Nat.le_trans hK.1 (Nat.le_trans hKW.1 hb.size)), fun i hi hn hr => (hb.block i hi).trans ((hKW.2 i (by omega) hn (by simp)).trans ((hK.2 i (Nat.lt_of_lt_of_le hi h1.size) hn hr).trans (h1.block i hi)))⟩ _
 ·exact ((((h1.mono hbb).trans hB).trans hBW).trans (hb.mono hbb)).alloc hsW _
set_option maxHeartbeats 2000000 in
set_option maxRecDepth 100000 in
theorem take_whole (w : World) (base g : Nat) (v : Value) (s s' : GSt) (ty fl st pad code oth wgt win : Int) (al : Bool) (D S : Value) (hG : IsG w base g v s) (hbg : base ≤ g) (hbb : base ≤ w.heap.size) (hb0 : s.bs = 0) (hc0 : s.bc = 0)
  (hr : (bits .and .u8 fl 4 == 0) = false) (hb' : s'.bs = 0) (hc' : s'.bc = 0)
  (hT : ∀ w2, Below w.heap.size w w2 → Calls Tryd.prog 38 #[.pointer (some ⟨g, 0, none⟩), frV ty fl st D pad code oth wgt win al S] w2 (TakesPost w2 base g v true 0 s')) :
  Calls Tryd.prog 17 #[.pointer (some ⟨g, 0, none⟩), frV ty fl st D pad code oth wgt win al S] w (TakeWhole w base g v s') := by
 obtain ⟨s1, s2, s3, s4, s5, s6, s7⟩ := s
 obtain ⟨t1, t2, t3, t4, t5, t6, t7⟩ := s'
 simp only at hb' hc'
 subst hb' hc'
 simp only at hb0 hc0
 subst hb0 hc0
 refine of_post fun R hRR => ?_
 have HP := Lib.hid hRR
 clear hRR
 have hg := hG.blk
 have hgl := blk_lt hg
 have hgl1 : g < w.heap.size + 1 := by omega
 have hgl2 : g < w.heap.size + 1 + 1 := by omega
 have q5 := blk_cell hg 5
 have q6 := blk_cell hg 6
 simp at q5 q6
 have HG := Lib.hid hG
 have HT := Lib.hid hT
 have HR := Lib.hid hr
 clear hg hG hT hr
 go_enter Tryd.func17, Tryd.ntmps17
 go_wp2_with fail
 have hB := (((Below.refl w.heap.size w).alloc (Nat.le_refl _) (frO ty fl st D pad code oth wgt win al S)).alloc (by simp) whO).alloc (by simp; omega) (faO 0 0)
 refine (HT.out _ hB).mono ?_
 rintro e w2 ⟨e2, v2, rfl, hc, hG2, hK2, hB2, hF2⟩
 have HF := Lib.hid hF2
 obtain rfl : e2 = .nilIface := by rcases hc with ⟨_, h⟩ | ⟨h, _⟩; exact h; exact absurd rfl h
 have hsz2 := hB2.size
 simp at hsz2
 have p0 := (hK2.2 w.heap.size (by simp; omega) (by omega) (own_ne_new HG.out.own 0)).trans (blk_alloc (blk_alloc (blk_new w (frO ty fl st D pad code oth wgt win al S)) whO) (faO 0 0))
 have p1 := (hK2.2 (w.heap.size + 1) (by simp) (by omega) (own_ne_new HG.out.own 1)).trans (blk_alloc (blk_new1 w (frO ty fl st D pad code oth wgt win al S) whO) (faO 0 0))
 have p2 := (hK2.2 (w.heap.size + 1 + 1) (by simp) (by omega) (own_ne_new HG.out.own 2)).trans (blk_new2 w (frO ty fl st D pad code oth wgt win al S) whO (faO 0 0))
 have hz0 : w.heap.size < w2.heap.size := by omega
 have hz1 : w.heap.size + 1 < w2.heap.size := by omega
 have hz2 : w.heap.size + 1 + 1 < w2.heap.size := by omega
 have q01 := blk_cell p0 1
 have r10 := blk_cell p1 0
 have r11 := blk_cell p1 1
 have r12 := blk_cell p1 2
 have r20 := blk_cell p2 0
 have r21 := blk_cell p2 1
 have g10 := blk_frozen p1 0
 have g11 := blk_frozen p1 1
 have g12 := blk_frozen p1 2
 have g20 := blk_frozen p2 0
 have g21 := blk_frozen p2 1
 simp at q01 r10 r11 r12 r20 r21
 have HB := Lib.hid (And.intro hB (And.intro hG2 (And.intro hK2 (And.intro hB2 (And.intro p1 p2)))))
 clear hF2 hB hG2 hK2 hB2 hc p0 p1 p2
 have z4 := HR.out
 obtain ⟨A1, cc1, rfl⟩ := own_slice HB.out.2.1.own
 have gg := HB.out.2.1.blk
 have k0 := blk_cell gg 0
 have k1 := blk_cell gg 1
 have k2 := blk_cell gg 2
 have k3 := blk_cell gg 3
 have m0 := blk_frozen gg 0
 have m1 := blk_frozen gg 1
 have m2 := blk_frozen gg 2
 have m3 := blk_frozen gg 3
 have hgz : g < w2.heap.size := blk_lt gg
 have hgz1 : g < w2.heap.size + 1 := by omega
 simp at k0 k1 k2 k3
 clear gg
 go_wp2_with fail
 have HS := Lib.hid (set5 (by omega) (blk_far (blk_far (blk_far (blk_far HB.out.2.2.2.2.1 (p := ⟨g, 0, none⟩) (by simp; omega) (.int .u32 0)) (p := ⟨g, 1, none⟩) (by simp; omega) (.slice none 0 0)) (p := ⟨g, 2, none⟩) (by simp; omega) (.bool false)) (p := ⟨g, 3, none⟩) (by simp; omega) (.bool false))
  (blk_far (blk_far (blk_far (blk_far HB.out.2.2.2.2.2 (p := ⟨g, 0, none⟩) (by simp; omega) (.int .u32 0)) (p := ⟨g, 1, none⟩) (by simp; omega) (.slice none 0 0)) (p := ⟨g, 2, none⟩) (by simp; omega) (.bool false)) (p := ⟨g, 3, none⟩) (by simp; omega) (.bool false))
  (.int .u32 t1) (.slice A1 t2.length cc1) (.bool t3) (.int .u8 0) (.int .u32 0) rfl)
 refine bodyPost_ret (results_list (rs := [.cell 4 34, .tmp 5, .cell 6 36]) rfl (by simp) (.cell (w.heap.size + 1) 34 (wholeC t1 (.slice A1 t2.length cc1) t3) (0, 0) _ rfl (blk_alloc HS.out.1 _) Tryd.underlying34 rfl (by kernel_rfl) (.tmp (.cell (w.heap.size + 1 + 1) 36 (faultC 0 0) (0, 0) _ rfl (blk_alloc HS.out.2.1 _) Tryd.underlying36 rfl (by kernel_rfl) .nil)))) rfl ?_
 refine HP.out _ _ (take_whole_end _ hgl hbb hbg HF.out HB.out HS.out)
theorem GV.below' {w w1 : World} {base : Nat} (h : GV w) (hl : 0 < base) (hb : Below base w w1) : GV w1 := (hb.cell hl).trans h
theorem take_bad_mid {w w2 w4 w5 W : World} {base g a b : Nat} {v v2 : Value} {s' : GSt} {fc : Int} {x y : Prop}
  (HB : Below w.heap.size w w5 ∧ IsG w2 base g v2 s' ∧ KeepBut w5 w2 g v.ownBlock ∧ Below base w5 w2 ∧ x ∧ y)
  (H4 : Below w2.heap.size w2 w4 ∧ w4.heap[g]? = some (.cells (gCells s' v2) 71 (0, 0)) ∧ w4.heap[a]? = some (.cells #[.int .u32 0, .slice none 0 0, .bool false] 34 (0, 0)) ∧ w4.heap[b]? = some (.cells #[.int .u8 0, .int .u32 0] 36 (0, 0)))
  (hgl : g < w.heap.size) (hbg : base ≤ g)
  (hW : ((((((w4.setCell ⟨g, 5, none⟩ (.int .u8 1)).setCell ⟨g, 6, none⟩ (.int .u32 fc)).setCell ⟨g, 0, none⟩ (.int .u32 0)).setCell ⟨g, 1, none⟩ (.slice none 0 0)).setCell ⟨g, 2, none⟩ (.bool false)).setCell ⟨g, 3, none⟩ (.bool false)) = W) :
  W.heap[g]? = some (.cells (gCells ⟨0, [], false, false, s'.more, 1, fc⟩ (.slice none 0 0)) 71 (0, 0)) ∧
   W.heap[a]? = some (.cells #[.int .u32 0, .slice none 0 0, .bool false] 34 (0, 0)) ∧ W.heap[b]? = some (.cells #[.int .u8 0, .int .u32 0] 36 (0, 0)) ∧
   KeepBut w W g v.ownBlock ∧ Below base w5 W := by
 obtain ⟨h1, hG, hK, hB, -, -⟩ := HB
 obtain ⟨b4, gg, p1, p2⟩ := H4
 have hne : ∀ {i : Nat} {t : TypeId} {cs : Array Value}, t ≠ 71 → w4.heap[i]? = some (.cells cs t (0, 0)) → i ≠ g := by
  rintro i t cs ht h rfl
  rw [gg] at h
  injection h with h
  injection h with _ h
  exact ht h.symm
 have ha := hne (by decide) p1
 have hb := hne (by decide) p2
 subst hW
 refine ⟨?_, ?_, ?_, ?_, ?_⟩
 ·exact blk_set (blk_set (blk_set (blk_set (blk_set (blk_set gg 5 (.int .u8 1)) 6 (.int .u32 fc)) 0 (.int .u32 0)) 1 (.slice none 0 0)) 2 (.bool false)) 3 (.bool false)
 ·exact blk_far (blk_far (blk_far (blk_far (blk_far (blk_far p1 ha _) ha _) ha _) ha _) ha _) ha _
 ·exact blk_far (blk_far (blk_far (blk_far (blk_far (blk_far p2 hb _) hb _) hb _) hb _) hb _) hb _
 ·have hK4 := ((((((KeepBut.refl w4 g none).set_ 5 (.int .u8 1)).set_ 6 (.int .u32 fc)).set_ 0 (.int .u32 0)).set_ 1 (.slice none 0 0)).set_ 2 (.bool false)).set_ 3 (.bool false)
  exact ⟨Nat.le_trans h1.size (Nat.le_trans hK.1 (Nat.le_trans b4.size hK4.1)), fun i hi hn hr => (hK4.2 i (by have := h1.size; have := hK.1; have := b4.size; omega) hn (by simp)).trans ((b4.block i (by have := h1.size; have := hK.1; omega)).trans ((hK.2 i (Nat.lt_of_lt_of_le hi h1.size) hn hr).trans (h1.block i hi)))⟩
 ·have hgz := blk_lt hG.blk
  exact ((((((hB.trans (b4.mono (by omega))).setCell (p := ⟨g, 5, none⟩) hbg _).setCell (p := ⟨g, 6, none⟩) hbg _).setCell (p := ⟨g, 0, none⟩) hbg _).setCell (p := ⟨g, 1, none⟩) hbg _).setCell (p := ⟨g, 2, none⟩) hbg _).setCell (p := ⟨g, 3, none⟩) hbg _
set_option maxHeartbeats 2000000 in
set_option maxRecDepth 100000 in
theorem take_bad (w : World) (base g : Nat) (v : Value) (s s' : GSt) (ty fl st pad code oth wgt win : Int) (al : Bool) (D S : Value) (ret : Bool) (hG : IsG w base g v s) (hbg : base ≤ g) (hbb : base ≤ w.heap.size) (hb0 : s.bs = 0) (hc0 : s.bc = 0)
  (fc : Int) (hcode : fc ≠ 0) (hgv : GV w) (hgb : 0 < base)
  (hT : ∀ w2, Below w.heap.size w w2 → Calls Tryd.prog 38 #[.pointer (some ⟨g, 0, none⟩), frV ty fl st D pad code oth wgt win al S] w2 (TakesPost w2 base g v ret fc s')) :
  Calls Tryd.prog 17 #[.pointer (some ⟨g, 0, none⟩), frV ty fl st D pad code oth wgt win al S] w (TakeNo w base g v 1 fc ⟨0, [], false, false, s'.more, 1, fc⟩) := by
 obtain ⟨s1, s2, s3, s4, s5, s6, s7⟩ := s
 simp only at hb0 hc0
 subst hb0 hc0
 refine of_post fun R hRR => ?_
 have HP := Lib.hid hRR
 clear hRR
 have hg := hG.blk
 have hgl := blk_lt hg
 have hgl1 : g < w.heap.size + 1 := by omega
 have hgl2 : g < w.heap.size + 1 + 1 := by omega
 have q5 := blk_cell hg 5
 have q6 := blk_cell hg 6
 simp at q5 q6
 have HG := Lib.hid hG
 have HT := Lib.hid hT
 have HR := Lib.hid (And.intro hgv hgb)
 clear hg hG hT hgv
 go_enter Tryd.func17, Tryd.ntmps17
 go_wp2_with fail
 have hB := (((Below.refl w.heap.size w).alloc (Nat.le_refl _) (frO ty fl st D pad code oth wgt win al S)).alloc (by simp) whO).alloc (by simp; omega) (faO 0 0)
 refine (HT.out _ hB).mono ?_
 rintro e w2 ⟨e2, v2, rfl, hc, hG2, hK2, hB2, hF2⟩
 have HF := Lib.hid hF2
 have hE : Err w2 0 e2 1 fc := by rcases hc with ⟨h, _⟩ | ⟨_, h⟩; exact absurd h hcode; exact h
 obtain ⟨T, eb, rfl⟩ := hE.form
 have hgv2 := (((HR.out.1.below hB).below' HR.out.2 hB2))
 have HE := Lib.hid (And.intro hE hgv2)
 have hsz2 := hB2.size
 simp at hsz2
 have p0 := (hK2.2 w.heap.size (by simp; omega) (by omega) (own_ne_new HG.out.own 0)).trans (blk_alloc (blk_alloc (blk_new w (frO ty fl st D pad code oth wgt win al S)) whO) (faO 0 0))
 have p1 := (hK2.2 (w.heap.size + 1) (by simp) (by omega) (own_ne_new HG.out.own 1)).trans (blk_alloc (blk_new1 w (frO ty fl st D pad code oth wgt win al S) whO) (faO 0 0))
 have p2 := (hK2.2 (w.heap.size + 1 + 1) (by simp) (by omega) (own_ne_new HG.out.own 2)).trans (blk_new2 w (frO ty fl st D pad code oth wgt win al S) whO (faO 0 0))
 have hz0 : w.heap.size < w2.heap.size := by omega
 have hz1 : w.heap.size + 1 < w2.heap.size := by omega
 have hz2 : w.heap.size + 1 + 1 < w2.heap.size := by omega
 have q01 := blk_cell p0 1
 have r10 := blk_cell p1 0
 have r11 := blk_cell p1 1
 have r12 := blk_cell p1 2
 have r20 := blk_cell p2 0
 have r21 := blk_cell p2 1
 have g10 := blk_frozen p1 0
 have g11 := blk_frozen p1 1
 have g12 := blk_frozen p1 2
 have g20 := blk_frozen p2 0
 have g21 := blk_frozen p2 1
 simp at q01 r10 r11 r12 r20 r21
 have HB := Lib.hid (And.intro hB (And.intro hG2 (And.intro hK2 (And.intro hB2 (And.intro p1 p2)))))
 clear hF2 hB hG2 hK2 hB2 hc p0 p1 p2 hE hgv2
 go_wp2_with fail
 refine (wrap_err 0 _ _ 1 fc _ HE.out.1).mono ?_
 rintro e w3 ⟨e3, rfl, hb3, hE3⟩
 have HE3 := Lib.hid (And.intro hE3 (And.intro (HE.out.2.below hb3) hb3))
 clear hb3 hE3
 go_wp2_with fail
 refine (of_err 1 _ 1 fc _ HE3.out.2.1 HE3.out.1).mono ?_
 rintro e w4 ⟨rfl, hb4⟩
 have hB4 := HE3.out.2.2.trans (hb4.mono HE3.out.2.2.size)
 have hsz4 := hB4.size
 have gg := blk_below HB.out.2.1.blk hB4
 have k0 := blk_cell gg 0
 have k1 := blk_cell gg 1
 have k2 := blk_cell gg 2
 have k3 := blk_cell gg 3
 have k5 := blk_cell gg 5
 have k6 := blk_cell gg 6
 have m0 := blk_frozen gg 0
 have m1 := blk_frozen gg 1
 have m2 := blk_frozen gg 2
 have m3 := blk_frozen gg 3
 have m5 := blk_frozen gg 5
 have m6 := blk_frozen gg 6
 have hgz : g < w4.heap.size := blk_lt gg
 simp at k0 k1 k2 k3 k5 k6
 have p1 := blk_below HB.out.2.2.2.2.1 hB4
 have p2 := blk_below HB.out.2.2.2.2.2 hB4
 have r10 := blk_cell p1 0
 have r11 := blk_cell p1 1
 have r12 := blk_cell p1 2
 have r20 := blk_cell p2 0
 have r21 := blk_cell p2 1
 have g10 := blk_frozen p1 0
 have g11 := blk_frozen p1 1
 have g12 := blk_frozen p1 2
 have g20 := blk_frozen p2 0
 have g21 := blk_frozen p2 1
 have hz0 : w.heap.size < w4.heap.size := by omega
 have hz1 : w.heap.size + 1 < w4.heap.size := by omega
 have hz2 : w.heap.size + 1 + 1 < w4.heap.size := by omega
 simp at r10 r11 r12 r20 r21
 have H4 := Lib.hid (And.intro hB4 (And.intro gg (And.intro p1 p2)))
 clear hB4 gg p1 p2 hb4
 go_wp2_with fail
 generalize hW : ((((((w4.setCell ⟨g, 5, none⟩ (.int .u8 1)).setCell ⟨g, 6, none⟩ (.int .u32 fc)).setCell ⟨g, 0, none⟩ (.int .u32 0)).setCell ⟨g, 1, none⟩ (.slice none 0 0)).setCell ⟨g, 2, none⟩ (.bool false)).setCell ⟨g, 3, none⟩ (.bool false)) = W9
 have H9 := Lib.hid (take_bad_mid HB.out H4.out hgl hbg hW)
 have p1 := H9.out.2.1
 have p2 := H9.out.2.2.1
 have k5 := blk_cell H9.out.1 5
 have k6 := blk_cell H9.out.1 6
 have r10 := blk_cell p1 0
 have r11 := blk_cell p1 1
 have r12 := blk_cell p1 2
 have r20 := blk_cell p2 0
 have r21 := blk_cell p2 1
 have g10 := blk_frozen p1 0
 have g11 := blk_frozen p1 1
 have g12 := blk_frozen p1 2
 have g20 := blk_frozen p2 0
 have g21 := blk_frozen p2 1
 simp at k5 k6 r10 r11 r12 r20 r21
 clear hW p1 p2
 go_region
 go_wp2
 have HS := Lib.hid (set5 (by omega) H9.out.2.1 H9.out.2.2.1 (.int .u32 0) (.slice none 0 0) (.bool false) (.int .u8 1) (.int .u32 fc) rfl)
 refine bodyPost_ret (results_list (rs := [.cell 4 34, .tmp 5, .cell 6 36]) rfl (by simp) (.cell (w.heap.size + 1) 34 (wholeC 0 (.slice none 0 0) false) (0, 0) _ rfl (blk_drew HS.out.1) Tryd.underlying34 rfl (by kernel_rfl) (.tmp (.cell (w.heap.size + 1 + 1) 36 (faultC 1 fc) (0, 0) _ rfl (blk_drew HS.out.2.1) Tryd.underlying36 rfl (by kernel_rfl) .nil)))) rfl ?_
 have hb := (HS.out.2.2.1 w.heap.size (by omega) (by omega)).drew
 obtain ⟨i1, -, -, i4, i5⟩ := H9.out
 refine HP.out _ _ ⟨rfl, ⟨_, ⟨(hb.block g hgl).trans i1, own_nil _ _ _ _⟩, Fresh.nil _ _⟩, ?_, ?_⟩
 ·exact ⟨Nat.le_trans i4.1 hb.size, fun i hi hn hr => (hb.block i hi).trans (i4.2 i hi hn hr)⟩
 ·exact ((HB.out.1.mono hbb).trans i5).trans (hb.mono hbb)
end Go.Proofs.YtodfahcmgmleeaaDoor

/- What (*Gatherer).Take does, in one: against a step over lists. New, Busy, Held. -/
namespace Go.Proofs.YtodfahcmgmleeaaDoor
set_option linter.unusedVariables false
set_option linter.unusedSimpArgs false
open Go.RowKit Go.Proofs.YtodfahcmgmleeaaDoorW.PrintWords
def gtakes (s : GSt) (ty fl st : Int) (data : List Int) : Bool × Int × GSt :=
 match s.busy with
 | false => if ty = 1 then (!decide (8192 < data.length), if 8192 < data.length then 11 else 0, ⟨st, data, bits .and .u8 fl 1 != 0, true, 0, s.bs, s.bc⟩)
  else if ty = 9 then (false, 1, s) else (false, 0, s)
 | true => if ty = 9 ∧ st = s.stream then (!(decide (8192 < s.block.length + data.length) || decide (16 < s.more + 1)), if 8192 < s.block.length + data.length ∨ 16 < s.more + 1 then 11 else 0, ⟨s.stream, s.block ++ data, s.fin, true, s.more + 1, s.bs, s.bc⟩)
  else (false, 1, s)
structure GOut where
 ok : Bool
 stream : Int
 block : List Int
 fin : Bool
 bs : Int
 bc : Int
def gtake (s : GSt) (ty fl st : Int) (data : List Int) : GOut × GSt :=
 if s.bs ≠ 0 then (⟨false, 0, [], false, s.bs, s.bc⟩, s)
 else
  let r := gtakes s ty fl st data
  if r.2.1 ≠ 0 then (⟨false, 0, [], false, 1, r.2.1⟩, ⟨0, [], false, false, r.2.2.more, 1, r.2.1⟩)
  else if r.1 = false ∨ (bits .and .u8 fl 4 == 0) = true then (⟨false, 0, [], false, 0, 0⟩, r.2.2)
  else (⟨true, r.2.2.stream, r.2.2.block, r.2.2.fin, 0, 0⟩, ⟨0, [], false, false, r.2.2.more, 0, 0⟩)
def TakePost (w : World) (base g : Nat) (v : Value) (r : GOut × GSt) (ev : Ending) (w' : World) : Prop :=
 ∃ v2 v3, ev = .returned (.tuple #[.agg (wholeC r.1.stream v2 r.1.fin), .bool r.1.ok, .agg (faultC r.1.bs r.1.bc)]) ∧ w'.ownsRow base 5 1 v2 r.1.block.length (nums .u8 r.1.block) ∧
  IsG w' base g v3 r.2 ∧ (v2 = .slice none 0 0 ∨ v3 = .slice none 0 0) ∧ KeepBut w w' g v.ownBlock ∧ Below base w w' ∧ Fresh w v v2 ∧ Fresh w v v3
theorem TakeNo.post {w w' : World} {base g : Nat} {v : Value} {bs bc : Int} {s' : GSt} {ev : Ending} (h : TakeNo w base g v bs bc s' ev w') : TakePost w base g v (⟨false, 0, [], false, bs, bc⟩, s') ev w' := by
 obtain ⟨h1, ⟨v', h2, hf⟩, h3, h4⟩ := h
 exact ⟨_, v', h1, own_nil _ _ _ _, h2, .inl rfl, h3, h4, Fresh.nil _ _, hf⟩
theorem TakeWhole.post {w w' : World} {base g : Nat} {v : Value} {s' : GSt} {ev : Ending} (h : TakeWhole w base g v s' ev w') : TakePost w base g v (⟨true, s'.stream, s'.block, s'.fin, 0, 0⟩, ⟨0, [], false, false, s'.more, 0, 0⟩) ev w' := by
 obtain ⟨v2, h1, h2, h3, h4, h5, hf⟩ := h
 exact ⟨v2, _, h1, h2, h3, .inr rfl, h4, h5, hf, Fresh.nil _ _⟩
theorem takes_calls (w : World) (base g : Nat) (v : Value) (s : GSt) (ty fl st pad code oth wgt win : Int) (al : Bool) (A : Option Addr) (S : Value) (n c : Nat) (data : List Int)
  (hG : IsG w base g v s) (hbg : base ≤ g) (hm0 : 0 ≤ s.more) (hm1 : s.more ≤ 1000) (hsl : s.block.length ≤ 100000) (hR : ReadsInt w .u8 A n data) (hE : Elsewhere A n g) (hn : n ≤ 20000) :
  Calls Tryd.prog 38 #[.pointer (some ⟨g, 0, none⟩), frV ty fl st (.slice A n c) pad code oth wgt win al S] w
   (TakesPost w base g v (gtakes s ty fl st data).1 (gtakes s ty fl st data).2.1 (gtakes s ty fl st data).2.2) := by
 unfold gtakes
 cases hb : s.busy
 ·by_cases h1 : ty = 1
  ·subst h1
   simpa using takes_begin w base g v s fl st pad code oth wgt win al A S n c data hG hbg hb hR hE hn
  ·by_cases h9 : ty = 9
   ·simp only [h1, if_false, h9, if_true]
    exact takes_bad w base g v s 9 fl st pad code oth wgt win al _ S hG hbg (.inl ⟨hb, rfl⟩)
   ·simp only [h1, if_false, h9]
    exact takes_pass w base g v s ty fl st pad code oth wgt win al _ S hG hbg hb h1 h9
 ·by_cases h9 : ty = 9
  ·by_cases h : st = s.stream
   ·subst h9
    simp only [h, and_self, if_true]
    rw [← h]
    exact (takes_more w base g v s fl st pad code oth wgt win al A S n c data hG hbg hb h hm0 hm1 hsl hR hE hn).mono fun _ _ k => by simpa [h] using k
   ·simp only [h9, h, and_false, if_false]
    exact takes_bad w base g v s 9 fl st pad code oth wgt win al _ S hG hbg (.inr (.inr ⟨hb, rfl, h⟩))
  ·simp only [h9, false_and, if_false]
   exact takes_bad w base g v s ty fl st pad code oth wgt win al _ S hG hbg (.inr (.inl ⟨hb, h9⟩))
theorem gtakes_bs (s : GSt) (ty fl st : Int) (data : List Int) : (gtakes s ty fl st data).2.2.bs = s.bs ∧ (gtakes s ty fl st data).2.2.bc = s.bc := by
 unfold gtakes
 cases s.busy <;> simp only <;> repeat' split
 all_goals exact ⟨rfl, rfl⟩
theorem take_calls (w : World) (base g : Nat) (v : Value) (s : GSt) (ty fl st pad code oth wgt win : Int) (al : Bool) (A : Option Addr) (S : Value) (n c : Nat) (data : List Int)
  (hG : IsG w base g v s) (hbg : base ≤ g) (hbb : base ≤ w.heap.size) (hm0 : 0 ≤ s.more) (hm1 : s.more ≤ 1000) (hsl : s.block.length ≤ 100000) (hbc : s.bs = 0 → s.bc = 0) (hR : ReadsInt w .u8 A n data) (hE : Elsewhere A n g) (hn : n ≤ 20000)
  (hgv : GV w) (hgb : 0 < base) :
  Calls Tryd.prog 17 #[.pointer (some ⟨g, 0, none⟩), frV ty fl st (.slice A n c) pad code oth wgt win al S] w (TakePost w base g v (gtake s ty fl st data)) := by
 have hT : ∀ w2, Below w.heap.size w w2 → Calls Tryd.prog 38 #[.pointer (some ⟨g, 0, none⟩), frV ty fl st (.slice A n c) pad code oth wgt win al S] w2
   (TakesPost w2 base g v (gtakes s ty fl st data).1 (gtakes s ty fl st data).2.1 (gtakes s ty fl st data).2.2) := fun w2 hb =>
  takes_calls w2 base g v s ty fl st pad code oth wgt win al A S n c data ⟨blk_below hG.blk hb, pw_own_below hG.own hb⟩ hbg hm0 hm1 hsl (reads_keep hR (KeepBut.of_below hb g none) hE) hE hn
 unfold gtake
 by_cases h0 : s.bs = 0
 ·simp only [h0, ne_eq, not_true_eq_false, if_false]
  by_cases hc : (gtakes s ty fl st data).2.1 = 0
  ·rw [hc] at hT
   simp only [hc, not_true_eq_false, if_false]
   by_cases hr : (gtakes s ty fl st data).1 = false ∨ (bits .and .u8 fl 4 == 0) = true
   ·rw [if_pos hr]
    exact (take_none w base g v s _ ty fl st pad code oth wgt win al _ S _ hG hbg hbb h0 (hbc h0) hr hT).mono fun _ _ h => h.post
   ·rw [if_neg hr]
    have h1 : (gtakes s ty fl st data).1 = true := by cases h : (gtakes s ty fl st data).1; exact absurd (.inl h) hr; rfl
    have h2 : (bits .and .u8 fl 4 == 0) = false := by cases h : (bits .and .u8 fl 4 == 0); rfl; exact absurd (.inr h) hr
    rw [h1] at hT
    have h3 := gtakes_bs s ty fl st data
    exact (take_whole w base g v s _ ty fl st pad code oth wgt win al _ S hG hbg hbb h0 (hbc h0) h2 (h3.1.trans h0) (h3.2.trans (hbc h0)) hT).mono fun _ _ h => h.post
  ·simp only [hc, not_false_eq_true, if_true]
   exact (take_bad w base g v s _ ty fl st pad code oth wgt win al _ S _ hG hbg hbb h0 (hbc h0) _ hc hgv hgb hT).mono fun _ _ h => h.post
 ·simp only [ne_eq, h0, not_false_eq_true, if_true]
  exact (take_again w base g v s ty fl st pad code oth wgt win al _ S hG hbg h0).mono fun _ _ h => h.post
theorem new_g (w : World) : Calls Tryd.prog 16 #[] w fun ev w' => ∃ g, ev = .returned (.pointer (some ⟨g, 0, none⟩)) ∧ w.heap.size ≤ g ∧ IsG w' w.heap.size g (.slice none 0 0) ⟨0, [], false, false, 0, 0, 0⟩ ∧ Below w.heap.size w w' := by
 go_enter Tryd.func16, Tryd.ntmps16
 go_wp2
 go_ret
 exact ⟨_, rfl, Nat.le_refl _, ⟨blk_new _ _, own_nil _ _ _ _⟩, (Below.refl _ _).alloc (Nat.le_refl _) _⟩
theorem busy_calls (w : World) (base g : Nat) (v : Value) (s : GSt) (hG : IsG w base g v s) :
  Calls Tryd.prog 20 #[.pointer (some ⟨g, 0, none⟩)] w fun ev w' => ev = .returned (.bool s.busy) ∧ w = w' := by
 have q3 := blk_cell hG.blk 3
 simp at q3
 go_enter Tryd.func20, Tryd.ntmps20
 go_wp2
 go_ret
 exact ⟨rfl, rfl⟩
theorem held_calls (w : World) (base g : Nat) (v : Value) (s : GSt) (hG : IsG w base g v s) :
  Calls Tryd.prog 21 #[.pointer (some ⟨g, 0, none⟩)] w fun ev w' => ev = .returned (.int .i64 s.block.length) ∧ w = w' := by
 obtain ⟨A, c, rfl⟩ := own_slice hG.own
 have q1 := blk_cell hG.blk 1
 simp at q1
 go_enter Tryd.func21, Tryd.ntmps21
 go_wp2
 go_ret
 exact ⟨rfl, rfl⟩
end Go.Proofs.YtodfahcmgmleeaaDoor

/- The law of Cut and Take, in plain lists: a block's frames, gathered, are the block. No program. -/
namespace Go.Proofs.YtodfahcmgmleeaaDoor
set_option linter.unusedVariables false
set_option linter.unusedSimpArgs false
open Go.RowKit
def cutT (j : Nat) : Int := if j = 0 then 1 else 9
def cutE (len most j : Nat) : Bool := decide (len ≤ (j + 1) * most)
def cutF (fin : Bool) (len most j : Nat) : Int := (if j = 0 ∧ fin = true then 1 else 0) + (if cutE len most j = true then 4 else 0)
def cutD (b : List Int) (most j : Nat) : List Int := (b.drop (j * most)).take most
def GS (st : Int) (b : List Int) (fin : Bool) (most j : Nat) (s : GSt) : Prop :=
 if j = 0 then s.busy = false ∧ s.bs = 0 ∧ s.bc = 0 else s = ⟨st, b.take (j * most), fin, true, (j : Int) - 1, 0, 0⟩
theorem cutF_fin (fin : Bool) (len most : Nat) : (bits .and .u8 (cutF fin len most 0) 1 != 0) = fin := by
 unfold cutF
 cases fin <;> cases cutE len most 0 <;> decide
theorem cutF_end (fin : Bool) (len most j : Nat) : (bits .and .u8 (cutF fin len most j) 4 == 0) = !cutE len most j := by
 unfold cutF
 by_cases h : j = 0
 ·subst h
  cases fin <;> cases cutE len most 0 <;> decide
 ·cases fin <;> cases cutE len most j <;> simp [h] <;> decide
theorem cut_take (b : List Int) (most j : Nat) : b.take (j * most) ++ cutD b most j = b.take ((j + 1) * most) := by
 unfold cutD
 rw [Nat.add_mul, Nat.one_mul, List.take_add]
theorem gtake_cut {st : Int} {b : List Int} {fin : Bool} {most j : Nat} {s : GSt} (hm : 20 ≤ most) (hb : b.length ≤ 300) (hj : j = 0 ∨ j * most < b.length) (hs : GS st b fin most j s) :
  gtake s (cutT j) (cutF fin b.length most j) st (cutD b most j) = if cutE b.length most j = true then (⟨true, st, b, fin, 0, 0⟩, ⟨0, [], false, false, (j : Int), 0, 0⟩) else (⟨false, 0, [], false, 0, 0⟩, ⟨st, b.take ((j + 1) * most), fin, true, (j : Int), 0, 0⟩) := by
 have hdl : (cutD b most j).length ≤ 300 := by unfold cutD; rw [List.length_take, List.length_drop]; omega
 have hlast : cutE b.length most j = true → b.take ((j + 1) * most) = b := fun h => List.take_of_length_le (of_decide_eq_true h)
 by_cases h0 : j = 0
 ·subst h0
  have hs' : s.busy = false ∧ s.bs = 0 ∧ s.bc = 0 := by simpa [GS] using hs
  obtain ⟨sst, sb, sf, sy, sm, s1, s2⟩ := s
  obtain ⟨rfl, rfl, rfl⟩ := hs'
  have hc := cut_take b most 0
  rw [Nat.zero_mul, List.take_zero, List.nil_append] at hc
  unfold gtake gtakes
  simp only [cutT, if_true, ne_eq, not_true_eq_false, if_false, cutF_fin, cutF_end]
  rw [if_neg (show ¬ 8192 < (cutD b most 0).length by omega), decide_eq_false (show ¬ 8192 < (cutD b most 0).length by omega)]
  cases he : cutE b.length most 0 with
  | true =>
   have h := hc.trans (hlast he)
   simp [h]
  | false => simp [hc]
 ·have hs' : s = ⟨st, b.take (j * most), fin, true, (j : Int) - 1, 0, 0⟩ := by simpa [GS, h0] using hs
  subst hs'
  have hlt : j * most < b.length := by rcases hj with h | h; exact absurd h h0; exact h
  have hj14 : j ≤ 14 := by
   rcases Nat.lt_or_ge 14 j with h | h
   ·have : 15 * 20 ≤ j * most := Nat.mul_le_mul h hm
    omega
   ·exact h
  have hc := cut_take b most j
  have hl1 : (b.take (j * most)).length ≤ 300 := by rw [List.length_take]; omega
  unfold gtake gtakes
  simp only [cutT, h0, if_true, ne_eq, not_true_eq_false, if_false, cutF_end, and_self]
  have e1 : ¬ 8192 < (b.take (j * most)).length + (cutD b most j).length := by omega
  have e2 : ¬ (16 : Int) < (j : Int) - 1 + 1 := by omega
  rw [if_neg (show ¬ (8192 < (b.take (j * most)).length + (cutD b most j).length ∨ (16 : Int) < (j : Int) - 1 + 1) by omega), decide_eq_false e1, decide_eq_false e2]
  cases he : cutE b.length most j with
  | true => simp [hc, hlast he]
  | false => simp [hc]
theorem GS.next {st : Int} {b : List Int} {fin : Bool} {most j : Nat} (s : GSt) (h : s = ⟨st, b.take ((j + 1) * most), fin, true, (j : Int), 0, 0⟩) : GS st b fin most (j + 1) s := by
 unfold GS
 rw [if_neg (by omega), h]
 simp
end Go.Proofs.YtodfahcmgmleeaaDoor

/- append of a row that is read, as a step of a list. No program. -/
namespace Go.Proofs.YtodfahcmgmleeaaDoor
set_option linter.unusedVariables false
set_option linter.unusedSimpArgs false
open Go.RowKit Go.Proofs.YtodfahcmgmleeaaDoorW.PrintWords
section
variable {P : Program} {ops : Array Oper} {rest : List Oper} {o : Oper} {a : Act} {Q : Exit → Act → World → Prop}
theorem list_append_row (W : World) (hgd : o.guard = none) (s x : Operand) (t : TypeId) (ho : o.op = .call { callee := .builtin .append, args := #[s, x], argTypes := #[t, t] })
  (base : Nat) (e : TypeId) (k : IntKind) (bytes : Nat) (ht : P.underlying t = some (.slice e))
  (hinfo : (P.info? e).map (fun i => (i.zero, i.size, i.bytes)) = some (some (.int k 0), 1, bytes)) (hb0 : 0 < bytes)
  (v : Value) (xs ys : List Int) (A : Option Addr) (m c : Nat) (hs : a.eval s = v) (hx : a.eval x = .slice A m c)
  (HO : W.ownsRow base e 1 v xs.length (nums k xs)) (HR : ReadsInt W k A m ys) (hbase : base ≤ W.heap.size) (hl : (xs.length + m) * bytes ≤ 140737488355328)
  (h : ∀ v1 w1, w1.ownsRow base e 1 v1 (xs ++ ys).length (nums k (xs ++ ys)) → W.grownBy w1 v.ownBlock → (v1.ownBlock = v.ownBlock ∨ v1.ownBlock = some W.heap.size) → wpList P ops Q rest (a.put o.dst v1) w1) :
  wpList P ops Q (o :: rest) a W :=
 wpList_plain hgd fun _ hK => by
  obtain ⟨v1, w1, hr, h1, h2, h3⟩ := run_append_row W base t o.type e k bytes ht hinfo hb0 v xs ys A m c HO HR hbase hl
  unfold Oper.wp execOp
  simp only [ho, resolve, invoke, builtin, Sem.run_bind, Sem.run_pure, Result.andThen_ok, List.map_toArray, List.map_cons, List.map_nil, hs, hx, hr]
  exact hK _ _ (h v1 w1 h1 h2 h3)
theorem own_empty (W : World) (base : Nat) (e : TypeId) (hb : base ≤ W.heap.size) : (W.alloc (.cells #[] e)).ownsRow base e 1 (.slice (some ⟨W.heap.size, 0, none⟩) 0 0) 0 (nums .u8 []) :=
 World.ownsRow_lit (base := base) (e := e) (size := 1) W #[] 0 hb (by decide) (by simp)
end

structure Only (g : Nat) (W w1 : World) : Prop where
 os : w1.os = W.os
 tape : w1.tape = W.tape
 output : w1.output = W.output
 size : w1.heap.size = W.heap.size
 block : ∀ k, k ≠ g → w1.heap[k]? = W.heap[k]?
theorem Only.below {g base : Nat} {w0 W w1 : World} (h : Only g W w1) (hb : Below base w0 W) (hg : base ≤ g) : Below base w0 w1 :=
 ⟨h.os.trans hb.os, h.tape.trans hb.tape, h.output.trans hb.output, by rw [h.size]; exact hb.size, fun k hk => (h.block k (by omega)).trans (hb.block k hk)⟩
theorem Only.blk {g k : Nat} {W w1 : World} {o : Obj} (h : Only g W w1) (hk : W.heap[k]? = some o) (hne : k ≠ g) : w1.heap[k]? = some o := (h.block k hne).trans hk
theorem Only.reads {g : Nat} {W w1 : World} {k : IntKind} {A : Option Addr} {n : Nat} {xs : List Int} (h : Only g W w1) (hR : ReadsInt W k A n xs) (hne : ∀ a, A = some a → a.block ≠ g) : ReadsInt w1 k A n xs := by
 refine ⟨hR.1, hR.2.1, fun hn => ?_⟩
 obtain ⟨ad, e, hc⟩ := hR.2.2 hn
 refine ⟨ad, e, fun j hj => ?_⟩
 rw [← hc j hj]
 have := h.block (ad.add j).block (by rw [add_block]; exact hne ad e)
 simp [World.cell?, this]
section
variable {P : Program} {ops : Array Oper} {rest : List Oper} {o : Oper} {a : Act} {Q : Exit → Act → World → Prop}
theorem load_ev {W : World} (hgd : o.guard = none) {t : TypeId} {x : Operand} (ho : o.op = .load t x) {g : Nat} {cs : Array Value} {ty : TypeId} {d : TypeDesc}
  (hx : a.eval x = .pointer (some ⟨g, 0, none⟩)) (hb : W.heap[g]? = some (.cells cs ty (0, 0))) (hu : P.underlying t = some d) (hd : d.isRow = true) (hi : (P.info? t).map (·.size) = some cs.size)
  (h : wpList P ops Q rest (a.put o.dst (.agg cs)) W) : wpList P ops Q (o :: rest) a W := by
 refine wpList_load_mid hgd t x ho g 0 hx cs.toList d (fun j v hv => ?_) hu hd (by simpa using hi) (by simpa using h)
 rw [Nat.zero_add, blk_cell hb]
 simpa using hv
theorem store_ev {W : World} (hgd : o.guard = none) (hN : o.dst = none) {t : TypeId} {p x : Operand} (ho : o.op = .store t p x) {g k : Nat} {cs cs' : Array Value} {ty : TypeId} {u : Value}
  (hp : a.eval p = .pointer (some ⟨g, k, none⟩)) (hx : a.eval x = u) (hb : W.heap[g]? = some (.cells cs ty (0, 0))) (ht : (P.info? t).map (·.size) = some u.cells.toList.length)
  (hk : k + u.cells.toList.length ≤ cs.size) (h1 : u.cells.toList.all (·.oneCell') = true) (e : cs.toList.take k ++ u.cells.toList ++ cs.toList.drop (k + u.cells.toList.length) = cs'.toList)
  (h : ∀ w1, w1.heap[g]? = some (.cells cs' ty (0, 0)) → Only g W w1 → wpList P ops Q rest a w1) : wpList P ops Q (o :: rest) a W := by
 refine wpList_plain hgd fun K hK => ?_
 have hrun := run_store_run (P := P) t u u.cells.toList hb rfl ht hk (List.all_eq_true.1 h1)
 unfold Oper.wp execOp
 simp only [ho, hp, hx, Sem.run_bind, Sem.run_pure, Result.andThen_ok, hrun]
 show K (a.put o.dst undef) _
 rw [hN]
 obtain ⟨s1, s2, s3, s4⟩ := setCells_same g u.cells.toList k W
 refine hK _ _ (h _ ?_ ⟨s1, s2, s3, s4, fun i hi => setCells_far _ _ i hi⟩)
 obtain ⟨cur, q1, _, q3⟩ := setCells_row u.cells.toList k W cs hb hk
 rw [q1, Array.toList_inj.1 (q3.trans e)]
theorem make_ev {W : World} (hgd : o.guard = none) {cs : Array Value} {t : TypeId}
  (hrun : (execOp a.eval o).run P W = .ok (.value (.pointer (some ⟨W.heap.size, 0, none⟩))) (W.alloc (.cells cs t (0, 0))))
  (h : ∀ g, g = W.heap.size → ∀ w1, w1.heap[g]? = some (.cells cs t (0, 0)) → w1.heap.size = W.heap.size + 1 → Below W.heap.size W w1 → wpList P ops Q rest (a.put o.dst (.pointer (some ⟨g, 0, none⟩))) w1) : wpList P ops Q (o :: rest) a W := by
 refine wpList_plain hgd fun K hK => ?_
 unfold Oper.wp
 rw [hrun]
 exact hK _ _ (h _ rfl _ (blk_new W _) (by simp) (below_alloc (Below.refl _ _) _))
theorem make_ord {Kc : Act → World → Prop} {W : World} (hw : Region.wanted o (yielded ops a.tmps) = true) {cs : Array Value} {t : TypeId}
  (hrun : (execOp a.eval o).run P W = .ok (.value (.pointer (some ⟨W.heap.size, 0, none⟩))) (W.alloc (.cells cs t (0, 0))))
  (h : ∀ g, g = W.heap.size → ∀ w1, w1.heap[g]? = some (.cells cs t (0, 0)) → w1.heap.size = W.heap.size + 1 → Below W.heap.size W w1 → Kc (a.put o.dst (.pointer (some ⟨g, 0, none⟩))) w1) :
  if Region.wanted o (yielded ops a.tmps) = true then Oper.wp P o a W Kc Q else Kc (a.put o.dst undef) W := by
 rw [if_pos hw]
 unfold Oper.wp
 rw [hrun]
 exact h _ rfl _ (blk_new W _) (by simp) (below_alloc (Below.refl _ _) _)
theorem store_ord {Kc : Act → World → Prop} {W : World} (hw : Region.wanted o (yielded ops a.tmps) = true) (hN : o.dst = none) {t : TypeId} {p x : Operand} (ho : o.op = .store t p x) {g k : Nat} {cs cs' : Array Value} {ty : TypeId} {u : Value}
  (hp : a.eval p = .pointer (some ⟨g, k, none⟩)) (hx : a.eval x = u) (hb : W.heap[g]? = some (.cells cs ty (0, 0))) (ht : (P.info? t).map (·.size) = some u.cells.toList.length)
  (hk : k + u.cells.toList.length ≤ cs.size) (h1 : u.cells.toList.all (·.oneCell') = true) (e : cs.toList.take k ++ u.cells.toList ++ cs.toList.drop (k + u.cells.toList.length) = cs'.toList)
  (h : ∀ w1, w1.heap[g]? = some (.cells cs' ty (0, 0)) → Only g W w1 → Kc a w1) : if Region.wanted o (yielded ops a.tmps) = true then Oper.wp P o a W Kc Q else Kc (a.put o.dst undef) W := by
 rw [if_pos hw]
 have hrun := run_store_run (P := P) t u u.cells.toList hb rfl ht hk (List.all_eq_true.1 h1)
 unfold Oper.wp execOp
 simp only [ho, hp, hx, Sem.run_bind, Sem.run_pure, Result.andThen_ok, hrun]
 show Kc (a.put o.dst undef) _
 rw [hN]
 obtain ⟨s1, s2, s3, s4⟩ := setCells_same g u.cells.toList k W
 refine h _ ?_ ⟨s1, s2, s3, s4, fun i hi => setCells_far _ _ i hi⟩
 obtain ⟨cur, q1, _, q3⟩ := setCells_row u.cells.toList k W cs hb hk
 rw [q1, Array.toList_inj.1 (q3.trans e)]
theorem loadf_ev {W : World} (hgd : o.guard = none) {t : TypeId} {x : Operand} (ho : o.op = .load t x) {g k : Nat} {cs : Array Value} {ty : TypeId} {d : TypeDesc} {v : Value}
  (hx : a.eval x = .pointer (some ⟨g, k, none⟩)) (hb : W.heap[g]? = some (.cells cs ty (0, 0))) (hv : cs[k]? = some v) (hu : P.underlying t = some d) (hd : d.isRow = false)
  (h : wpList P ops Q rest (a.put o.dst v) W) : wpList P ops Q (o :: rest) a W := by
 refine wpList_plain hgd fun K hK => ?_
 have hc : W.cell? ⟨g, k, none⟩ = some v := (blk_cell hb k).trans hv
 have hagg : (isAgg t).run P W = .ok false W := by
  unfold isAgg
  rw [Sem.run_bind, run_underlying hu W]
  cases d <;> simp_all
 unfold Oper.wp execOp
 simp [ho, hx, Instr.loadAt, Instr.sureAddr, loadVar, Sem.run_bind, hagg, hc]
 exact hK _ _ h
end

inductive Own where
 | obj (g : Nat) (o : Obj)
 | row (e : TypeId) (size : Nat) (v : Value) (n : Nat) (xs : List Value)
 | rd (k : IntKind) (A : Option Addr) (n : Nat) (xs : List Int)
 | thing (bs : List Nat) (p : World → Prop) (st : ∀ W W1 : World, p W → (∀ k ∈ bs, W1.heap[k]? = W.heap[k]?) → p W1) (lt : ∀ (W : World) (k : Nat), p W → k ∈ bs → k < W.heap.size)
abbrev cl (g : Nat) (cs : List Value) (ty : TypeId) : Own := .obj g (.cells cs.toArray ty (0, 0))
abbrev nrow (e : TypeId) (v : Value) (k : IntKind) (xs : List Int) : Own := .row e 1 v xs.length (nums k xs)
def Own.at_ : Own → List Nat
 | .obj g _ => [g]
 | .row _ _ v _ _ => v.ownBlock.toList
 | .rd _ A n _ => if n = 0 then [] else (A.map (·.block)).toList
 | .thing bs _ _ _ => bs
def Own.ok (W : World) : Own → Prop
 | .obj g o => W.heap[g]? = some o
 | .row e size v n xs => W.ownsRow 0 e size v n xs
 | .rd k A n xs => ReadsInt W k A n xs
 | .thing _ p _ _ => p W
def ats (l : List Own) : List Nat := l.flatMap Own.at_
structure Kept (W W1 : World) (ts : List Nat) : Prop where
 os : W1.os = W.os
 tape : W1.tape = W.tape
 output : W1.output = W.output
 size : W.heap.size ≤ W1.heap.size
 block : ∀ k, k < W.heap.size → k ∉ ts → W1.heap[k]? = W.heap[k]?
structure Hold (w W : World) (t : List Nat) (l : List Own) : Prop where
 kept : Kept w W t
 ok : ∀ o ∈ l, o.ok W
 apart : l.Pairwise fun a b => ∀ k ∈ a.at_, k ∉ b.at_
 mine : ∀ o ∈ l, ∀ k ∈ o.at_, w.heap.size ≤ k ∨ k ∈ t
theorem Kept.refl (W : World) (ts : List Nat) : Kept W W ts := ⟨rfl, rfl, rfl, Nat.le_refl _, fun _ _ _ => rfl⟩
theorem Kept.below {W W1 : World} (h : Kept W W1 []) : Below W.heap.size W W1 := ⟨h.os, h.tape, h.output, h.size, fun k hk => h.block k hk (by simp)⟩
theorem Kept.of_below {W W1 : World} (h : Below W.heap.size W W1) : Kept W W1 [] := ⟨h.os, h.tape, h.output, h.size, fun k hk _ => h.block k hk⟩
theorem Own.ok.lt {W : World} {o : Own} (h : o.ok W) {k : Nat} (hk : k ∈ o.at_) : k < W.heap.size := by
 cases o with
 | obj g o => obtain rfl := List.mem_singleton.1 hk; exact (Array.getElem?_eq_some_iff.1 h).1
 | row e size v n xs => exact own_lt h k (Option.mem_toList.1 hk)
 | rd kk A n xs =>
  have hk' : k ∈ (if n = 0 then [] else (A.map (·.block)).toList) := hk
  split at hk'
  ·cases hk'
  ·obtain ⟨ad, rfl, hc⟩ := h.2.2 (by omega)
   simp only [Option.map_some, Option.mem_toList, Option.mem_def, Option.some.injEq] at hk'
   have := World.block_lt_of_cell? W _ (hc 0 (by omega))
   rw [add_block] at this
   omega
 | thing b p st lt => exact lt W k h hk
theorem Own.ok.kept {W W1 : World} {o : Own} (h : o.ok W) (hb : ∀ k ∈ o.at_, W1.heap[k]? = W.heap[k]?) : o.ok W1 := by
 cases o with
 | obj g o => exact (hb g (List.mem_singleton.2 rfl)).trans h
 | row e size v n xs =>
  refine ⟨h.1, ?_⟩
  rcases h.2 with h2 | ⟨g, cap, cur, rfl, h3, h4, h5⟩
  ·exact .inl h2
  ·exact .inr ⟨g, cap, cur, rfl, h3, (hb g (Option.mem_toList.2 rfl)).trans h4, h5⟩
 | rd kk A n xs =>
  refine ⟨h.1, h.2.1, fun hn => ?_⟩
  obtain ⟨ad, rfl, hc⟩ := h.2.2 hn
  refine ⟨ad, rfl, fun j hj => ?_⟩
  rw [← hc j hj]
  refine World.cell?_of_block ?_
  rw [add_block]
  refine hb _ ?_
  show ad.block ∈ (if n = 0 then [] else ((some ad).map (·.block)).toList)
  rw [if_neg (by omega)]
  exact Option.mem_toList.2 rfl
 | thing b p st lt => exact st W W1 h hb
theorem Hold.start {W : World} {l : List Own} (ok : ∀ o ∈ l, o.ok W) (ap : l.Pairwise fun a b => ∀ k ∈ a.at_, k ∉ b.at_) : Hold W W (ats l) l :=
 ⟨Kept.refl _ _, ok, ap, fun o ho k hk => .inr (List.mem_flatMap.2 ⟨o, ho, hk⟩)⟩
theorem no_own {p : Own → Prop} : ∀ o ∈ ([] : List Own), p o := fun _ h => by cases h
theorem Hold.nothing {W W1 : World} (h : Kept W W1 []) : Hold W W1 [] [] := ⟨h, no_own, List.Pairwise.nil, no_own⟩
theorem Hold.call {w W W1 : World} {t : List Nat} {l0 l1 r : List Own} (H : Hold w W t (l0 ++ r)) (C : Hold W W1 (ats l0) l1) : Hold w W1 t (l1 ++ r) := by
 have hr : ∀ o ∈ r, ∀ k ∈ o.at_, k ∉ ats l0 ∧ k < W.heap.size := fun o ho k hk => by
  refine ⟨fun hm => ?_, (H.ok o (List.mem_append_right _ ho)).lt hk⟩
  obtain ⟨o0, h0, hk0⟩ := List.mem_flatMap.1 hm
  exact (List.pairwise_append.1 H.apart).2.2 o0 h0 o ho k hk0 hk
 refine ⟨⟨C.kept.os.trans H.kept.os, C.kept.tape.trans H.kept.tape, C.kept.output.trans H.kept.output, Nat.le_trans H.kept.size C.kept.size, fun k hk hn => ?_⟩, fun o ho => ?_, List.pairwise_append.2 ⟨C.apart, (List.pairwise_append.1 H.apart).2.1, fun a ha b hb k hka hkb => ?_⟩, fun o ho k hk => ?_⟩
 ·refine (C.kept.block k (Nat.lt_of_lt_of_le hk H.kept.size) fun hm => ?_).trans (H.kept.block k hk hn)
  obtain ⟨o0, h0, hk0⟩ := List.mem_flatMap.1 hm
  rcases H.mine o0 (List.mem_append_left _ h0) k hk0 with h | h
  ·omega
  ·exact hn h
 ·rcases List.mem_append.1 ho with h | h
  ·exact C.ok o h
  ·exact (H.ok o (List.mem_append_right _ h)).kept fun k hk => C.kept.block k (hr o h k hk).2 (hr o h k hk).1
 ·have := hr b hb k hkb
  rcases C.mine a ha k hka with h | h
  ·omega
  ·exact this.1 h
 ·rcases List.mem_append.1 ho with h | h
  ·rcases C.mine o h k hk with h' | h'
   ·exact .inl (Nat.le_trans H.kept.size h')
   ·obtain ⟨o0, h0, hk0⟩ := List.mem_flatMap.1 h'
    exact H.mine o0 (List.mem_append_left _ h0) k hk0
  ·exact H.mine o (List.mem_append_right _ h) k hk
theorem Hold.below {w W W1 : World} {t : List Nat} {l : List Own} (H : Hold w W t l) (h : Below W.heap.size W W1) : Hold w W1 t l :=
 Hold.call (l0 := []) (l1 := []) H (Hold.nothing (Kept.of_below h))
theorem Hold.perm {w W : World} {t : List Nat} {l l' : List Own} (H : Hold w W t l) (h : l.Perm l') : Hold w W t l' :=
 ⟨H.kept, fun o ho => H.ok o (h.mem_iff.2 ho), (h.pairwise_iff (R := fun a b : Own => ∀ k ∈ a.at_, k ∉ b.at_) fun hab k hb ha => hab k ha hb).1 H.apart, fun o ho => H.mine o (h.mem_iff.2 ho)⟩
theorem Hold.sub {w W : World} {t : List Nat} {l l' : List Own} (H : Hold w W t l) (h : l'.Sublist l) : Hold w W t l' :=
 ⟨H.kept, fun o ho => H.ok o (h.subset ho), H.apart.sublist h, fun o ho => H.mine o (h.subset ho)⟩
inductive Put : List Own → Own → Own → List Own → Prop
 | head {x y : Own} {r : List Own} : Put (x :: r) x y (y :: r)
 | tail {x y z : Own} {r r' : List Own} (h : Put r x y r') : Put (z :: r) x y (z :: r')
theorem Put.perm {l l' : List Own} {x y : Own} (h : Put l x y l') : ∃ r, l.Perm (x :: r) ∧ l'.Perm (y :: r) := by
 induction h with
 | head => exact ⟨_, List.Perm.refl _, List.Perm.refl _⟩
 | tail _ ih =>
  obtain ⟨r, h1, h2⟩ := ih
  exact ⟨_, (h1.cons _).trans (List.Perm.swap _ _ _), (h2.cons _).trans (List.Perm.swap _ _ _)⟩
theorem Hold.put {w W W1 : World} {t : List Nat} {l l' : List Own} {x y : Own} (H : Hold w W t l) (hp : Put l x y l') (C : Hold W W1 (ats [x]) [y]) : Hold w W1 t l' := by
 obtain ⟨r, h1, h2⟩ := hp.perm
 exact (Hold.call (l0 := [x]) (l1 := [y]) (H.perm h1) C).perm h2.symm
theorem Hold.push {w W W1 : World} {t : List Nat} {l l1 : List Own} (H : Hold w W t l) (C : Hold W W1 [] l1) : Hold w W1 t (l1 ++ l) := Hold.call (l0 := []) H C
theorem Hold.at_ {w W : World} {t : List Nat} {l : List Own} (H : Hold w W t l) {x : Own} (h : x ∈ l) : x.ok W := H.ok x h
theorem Hold.blk {w W : World} {t : List Nat} {l : List Own} (H : Hold w W t l) {g : Nat} {cs : List Value} {ty : TypeId} (h : cl g cs ty ∈ l) : W.heap[g]? = some (.cells cs.toArray ty (0, 0)) := H.ok _ h
theorem Hold.cell {w W : World} {t : List Nat} {l : List Own} (H : Hold w W t l) {g : Nat} {cs : List Value} {ty : TypeId} (h : cl g cs ty ∈ l) (k : Nat) : W.cell? ⟨g, k, Option.none⟩ = cs[k]? := by
 rw [blk_cell (H.blk h) k, List.getElem?_toArray]
theorem Hold.row {w W : World} {t : List Nat} {l : List Own} (H : Hold w W t l) {e : TypeId} {v : Value} {k : IntKind} {xs : List Int} (h : nrow e v k xs ∈ l) : W.ownsRow 0 e 1 v xs.length (nums k xs) := H.ok _ h
theorem Hold.rd {w W : World} {t : List Nat} {l : List Own} (H : Hold w W t l) {k : IntKind} {A : Option Addr} {n : Nat} {xs : List Int} (h : Own.rd k A n xs ∈ l) : ReadsInt W k A n xs := H.ok _ h
theorem Hold.all {w W : World} {l : List Own} (H : Hold w W [] l) : Below w.heap.size w W := H.kept.below
theorem Hold.reads {w W : World} {t : List Nat} {l : List Own} (H : Hold w W t l) {k : IntKind} {A : Option Addr} {n : Nat} {xs : List Int} (h : ReadsInt w k A n xs) (hn : ∀ a, A = some a → a.block ∉ t) : ReadsInt W k A n xs := by
 refine ⟨h.1, h.2.1, fun h0 => ?_⟩
 obtain ⟨ad, rfl, hc⟩ := h.2.2 h0
 refine ⟨ad, rfl, fun j hj => ?_⟩
 have hcell := hc j hj
 have hb := World.block_lt_of_cell? w _ hcell
 rw [add_block] at hb
 rw [← hcell]
 exact World.cell?_of_block (by rw [add_block]; exact H.kept.block _ hb (hn ad rfl))
theorem pair1 {R : Own → Own → Prop} (x : Own) : [x].Pairwise R := List.pairwise_singleton _ _
theorem ok1 {W : World} {x : Own} (h : x.ok W) : ∀ o ∈ [x], o.ok W := fun o ho => by rw [List.mem_singleton.1 ho]; exact h
theorem Hold.got {W W1 : World} {k : IntKind} {A : Option Addr} {n : Nat} {xs : List Int} (h : Below W.heap.size W W1) (hR : ReadsInt W1 k A n xs) (hn : ∀ a, A = some a → W.heap.size ≤ a.block) : Hold W W1 [] [.rd k A n xs] :=
 ⟨Kept.of_below h, fun o ho => by rw [List.mem_singleton.1 ho]; exact hR, List.pairwise_singleton _ _, fun o ho k hk => by
  rw [List.mem_singleton.1 ho] at hk
  have hk' : k ∈ (if n = 0 then [] else (A.map (·.block)).toList) := hk
  split at hk'
  ·cases hk'
  ·obtain ⟨ad, rfl, e⟩ := Option.map_eq_some_iff.1 (Option.mem_toList.1 hk')
   have := hn ad rfl
   exact .inl (by omega)⟩
theorem Hold.made {W W1 : World} {y : Own} (h : Below W.heap.size W W1) (ok : y.ok W1) (hn : ∀ k ∈ y.at_, W.heap.size ≤ k) : Hold W W1 [] [y] :=
 ⟨Kept.of_below h, ok1 ok, pair1 _, fun o ho k hk => .inl (hn k (by rw [List.mem_singleton.1 ho] at hk; exact hk))⟩
theorem Hold.turned {W W1 : World} {x y : Own} (os : W1.os = W.os) (tape : W1.tape = W.tape) (output : W1.output = W.output) (size : W.heap.size ≤ W1.heap.size) (block : ∀ k, k < W.heap.size → k ∉ x.at_ → W1.heap[k]? = W.heap[k]?)
  (ok : y.ok W1) (hn : ∀ k ∈ y.at_, W.heap.size ≤ k ∨ k ∈ x.at_) : Hold W W1 (ats [x]) [y] := by
 have hm : ∀ k, k ∈ ats [x] ↔ k ∈ x.at_ := fun k => by
  unfold ats
  rw [List.mem_flatMap]
  exact ⟨fun ⟨a, ha, hk⟩ => by rw [List.mem_singleton.1 ha] at hk; exact hk, fun h => ⟨x, by simp, h⟩⟩
 refine ⟨⟨os, tape, output, size, fun k hk hn => block k hk fun h => hn ((hm k).2 h)⟩, ok1 ok, pair1 _, fun o ho k hk => ?_⟩
 rw [List.mem_singleton.1 ho] at hk
 rcases hn k hk with h | h
 ·exact .inl h
 ·exact .inr ((hm k).2 h)
def setC : List Value → Nat → List Value → List Value
 | cs, _, [] => cs
 | [], _, _ :: _ => []
 | _ :: cs, 0, u :: us => u :: setC cs 0 us
 | c :: cs, k + 1, u :: us => c :: setC cs k (u :: us)
theorem setC_eq : ∀ (cs : List Value) (k : Nat) (us : List Value), k + us.length ≤ cs.length → setC cs k us = cs.take k ++ us ++ cs.drop (k + us.length)
 | cs, k, [], _ => by cases cs <;> simp [setC]
 | [], k, u :: us, h => by simp at h
 | c :: cs, 0, u :: us, h => by
  have := setC_eq cs 0 us (by simpa using h)
  simp only [setC, this]
  simp
 | c :: cs, k + 1, u :: us, h => by
  have := setC_eq cs k (u :: us) (by simp at h ⊢; omega)
  simp only [setC, this]
  simp only [List.take_succ_cons, List.cons_append]
  congr 2
  rw [show k + 1 + (u :: us).length = (k + (u :: us).length) + 1 by omega, List.drop_succ_cons]
section
variable {P : Program} {ops : Array Oper} {rest : List Oper} {o : Oper} {a : Act} {Q : Exit → Act → World → Prop} {w W : World} {t : List Nat} {l : List Own}
theorem load_h (H : Hold w W t l) (hgd : o.guard = none) {ty : TypeId} {x : Operand} (ho : o.op = .load ty x) {g : Nat} {cs : List Value} {bt : TypeId} (hx : a.eval x = .pointer (some ⟨g, 0, none⟩)) (hm : cl g cs bt ∈ l)
  (hd : (P.underlying ty).map (·.isRow) = some true) (hi : (P.info? ty).map (·.size) = some cs.length) (h : wpList P ops Q rest (a.put o.dst (.agg cs.toArray)) W) : wpList P ops Q (o :: rest) a W := by
 obtain ⟨d, hu, hr⟩ := Option.map_eq_some_iff.1 hd
 exact load_ev hgd ho hx (H.blk hm) hu hr (by simpa using hi) h
theorem loadf_h (H : Hold w W t l) (hgd : o.guard = none) {ty : TypeId} {x : Operand} (ho : o.op = .load ty x) {g k : Nat} {cs : List Value} {bt : TypeId} {v : Value} (hx : a.eval x = .pointer (some ⟨g, k, none⟩)) (hm : cl g cs bt ∈ l)
  (hv : cs[k]? = some v) (hd : (P.underlying ty).map (·.isRow) = some false) (h : wpList P ops Q rest (a.put o.dst v) W) : wpList P ops Q (o :: rest) a W := by
 obtain ⟨d, hu, hr⟩ := Option.map_eq_some_iff.1 hd
 exact loadf_ev hgd ho hx (H.blk hm) (by simpa using hv) hu hr h
theorem Hold.store {W w1 : World} {g : Nat} {cs cs' : List Value} {bt : TypeId} (o : Only g W w1) (h : w1.heap[g]? = some (.cells cs'.toArray bt (0, 0))) : Hold W w1 (ats [cl g cs bt]) [cl g cs' bt] :=
 Hold.turned o.os o.tape o.output (by rw [o.size]; exact Nat.le_refl _) (fun k _ hne => o.block k fun e => hne (by rw [e]; exact List.mem_singleton.2 rfl)) h fun k hk => .inr hk
theorem store_h (H : Hold w W t l) (hgd : o.guard = none) (hN : o.dst = none) {ty : TypeId} {p x : Operand} (ho : o.op = .store ty p x) {g k : Nat} {cs : List Value} {bt : TypeId} {u : Value} {l' : List Own}
  (hp : a.eval p = .pointer (some ⟨g, k, none⟩)) (hx : a.eval x = u) (hm : Put l (cl g cs bt) (cl g (setC cs k u.cells.toList) bt) l') (ht : (P.info? ty).map (·.size) = some u.cells.toList.length)
  (hk : k + u.cells.toList.length ≤ cs.length) (h1 : u.cells.toList.all (·.oneCell') = true)
  (h : ∀ w1, Hold w w1 t l' → wpList P ops Q rest a w1) : wpList P ops Q (o :: rest) a W := by
 obtain ⟨r, hp1, _⟩ := hm.perm
 refine store_ev hgd hN ho hp hx (H.blk (cs := cs) (hp1.mem_iff.2 (List.Mem.head _))) ht (by simpa using hk) h1 (cs' := (setC cs k u.cells.toList).toArray) (by rw [setC_eq _ _ _ hk]) fun w1 hb ho1 => h w1 (H.put hm (Hold.store ho1 hb))
theorem alloc_h (H : Hold w W t l) (hgd : o.guard = none) {ty : TypeId} (_ho : o.op = .alloc ty) {cs : List Value}
  (hrun : (execOp a.eval o).run P W = .ok (.value (.pointer (some ⟨W.heap.size, 0, none⟩))) (W.alloc (.cells cs.toArray ty (0, 0))))
  (h : ∀ g w1, Hold w w1 t (cl g cs ty :: l) → wpList P ops Q rest (a.put o.dst (.pointer (some ⟨g, 0, none⟩))) w1) : wpList P ops Q (o :: rest) a W :=
 make_ev hgd hrun fun g hg w1 hb hz hbel => h g w1 (Hold.push (l1 := [cl g cs ty]) H (Hold.made hbel hb fun k hk => by have : k = g := List.mem_singleton.1 hk; omega))
theorem box_h (H : Hold w W t l) (hgd : o.guard = none) {ty : TypeId} {x : Operand} (ho : o.op = .box ty x) {u : Value} {cs : List Value} (hx : a.eval x = u) (hu : u.cells = cs.toArray)
  (h : ∀ g w1, Hold w w1 t (cl g cs ty :: l) → wpList P ops Q rest (a.put o.dst (.pointer (some ⟨g, 0, none⟩))) w1) : wpList P ops Q (o :: rest) a W := by
 refine make_ev hgd (cs := cs.toArray) (t := ty) ?_ fun g hg w1 hb hz hbel => h g w1 (Hold.push (l1 := [cl g cs ty]) H (Hold.made hbel hb fun k hk => by have : k = g := List.mem_singleton.1 hk; omega))
 unfold execOp
 simp only [ho, hx]
 simp [Instr.box, newVar, newRow, Sem.run_bind, hu]
end

section
variable {P : Program} {ops : Array Oper} {rest : List Oper} {o : Oper} {a : Act} {Q : Exit → Act → World → Prop} {w W : World} {t : List Nat} {l : List Own}
theorem conv_h (H : Hold w W t l) (hgd : o.guard = none) {src dst e e' : TypeId} {x : Operand} (ho : o.op = .convert src dst x) {v : Value} {xs : List Int} (hx : a.eval x = v) (hm : nrow e' v .u8 xs ∈ l)
  (hs : P.underlying src = some (.slice e)) (he : P.underlying e = some (.int .u8)) (hd : P.underlying dst = some .string) (h : wpList P ops Q rest (a.put o.dst (.string (strOfNums xs))) W) : wpList P ops Q (o :: rest) a W := by
 refine wpList_plain hgd fun K hK => ?_
 unfold Oper.wp execOp
 simp only [ho, hx, Sem.run_bind, Sem.run_pure, Result.andThen_ok, own_string hs he hd (H.row hm)]
 exact hK _ _ h
theorem convr_h (hgd : o.guard = none) {src dst e : TypeId} {x : Operand} (ho : o.op = .convert src dst x) {A : Option Addr} {n c : Nat} {xs : List Int} (hx : a.eval x = .slice A n c) (hR : ReadsInt W .u8 A n xs)
  (hs : P.underlying src = some (.slice e)) (he : P.underlying e = some (.int .u8)) (hd : P.underlying dst = some .string) (h : wpList P ops Q rest (a.put o.dst (.string (strOfNums xs))) W) : wpList P ops Q (o :: rest) a W := by
 refine wpList_plain hgd fun K hK => ?_
 unfold Oper.wp execOp
 simp only [ho, hx, Sem.run_bind, Sem.run_pure, Result.andThen_ok, string_of_reads (c := c) hs he hd hR]
 exact hK _ _ h
variable {Kc : Act → World → Prop}
theorem alloc_o (H : Hold w W t l) (hw : Region.wanted o (yielded ops a.tmps) = true) {cs : List Value} {ty : TypeId}
  (hrun : (execOp a.eval o).run P W = .ok (.value (.pointer (some ⟨W.heap.size, 0, none⟩))) (W.alloc (.cells cs.toArray ty (0, 0))))
  (h : ∀ g w1, Hold w w1 t (cl g cs ty :: l) → Below W.heap.size W w1 → Kc (a.put o.dst (.pointer (some ⟨g, 0, none⟩))) w1) : if Region.wanted o (yielded ops a.tmps) = true then Oper.wp P o a W Kc Q else Kc (a.put o.dst undef) W :=
 make_ord hw hrun fun g hg w1 hb hz hbel => h g w1 (Hold.push (l1 := [cl g cs ty]) H (Hold.made hbel hb fun k hk => by have : k = g := List.mem_singleton.1 hk; omega)) hbel
theorem store_o (H : Hold w W t l) (hw : Region.wanted o (yielded ops a.tmps) = true) (hN : o.dst = none) {ty : TypeId} {p x : Operand} (ho : o.op = .store ty p x) {g k : Nat} {cs : List Value} {bt : TypeId} {u : Value} {l' : List Own}
  (hp : a.eval p = .pointer (some ⟨g, k, none⟩)) (hx : a.eval x = u) (hm : Put l (cl g cs bt) (cl g (setC cs k u.cells.toList) bt) l') (ht : (P.info? ty).map (·.size) = some u.cells.toList.length)
  (hk : k + u.cells.toList.length ≤ cs.length) (h1 : u.cells.toList.all (·.oneCell') = true)
  (h : ∀ w1, Hold w w1 t l' → Only g W w1 → Kc a w1) : if Region.wanted o (yielded ops a.tmps) = true then Oper.wp P o a W Kc Q else Kc (a.put o.dst undef) W := by
 obtain ⟨r, hp1, _⟩ := hm.perm
 refine store_ord hw hN ho hp hx (H.blk (cs := cs) (hp1.mem_iff.2 (List.Mem.head _))) ht (by simpa using hk) h1 (cs' := (setC cs k u.cells.toList).toArray) (by rw [setC_eq _ _ _ hk]) fun w1 hb ho1 => h w1 (H.put hm (Hold.store ho1 hb)) ho1
end

section
variable {P : Program} {ops : Array Oper} {rest : List Oper} {o : Oper} {a : Act} {Q : Exit → Act → World → Prop} {w W : World} {t : List Nat} {l : List Own}
theorem is_alloc {ty : TypeId} (_ho : o.op = .alloc ty) (h : wpList P ops Q (o :: rest) a W) : wpList P ops Q (o :: rest) a W := h
theorem is_box {ty : TypeId} {x : Operand} (_ho : o.op = .box ty x) (h : wpList P ops Q (o :: rest) a W) : wpList P ops Q (o :: rest) a W := h
theorem is_load {ty : TypeId} {x : Operand} (_ho : o.op = .load ty x) (h : wpList P ops Q (o :: rest) a W) : wpList P ops Q (o :: rest) a W := h
theorem is_store {ty : TypeId} {p x : Operand} (_ho : o.op = .store ty p x) (h : wpList P ops Q (o :: rest) a W) : wpList P ops Q (o :: rest) a W := h
theorem is_conv {s d : TypeId} {x : Operand} (_ho : o.op = .convert s d x) (h : wpList P ops Q (o :: rest) a W) : wpList P ops Q (o :: rest) a W := h
theorem loadf_g (H : Hold w W t l) {ty : TypeId} {x : Operand} (ho : o.op = .load ty x) {g k : Nat} {cs : List Value} {bt : TypeId} {v : Value} (hx : a.eval x = .pointer (some ⟨g, k, none⟩)) (hm : cl g cs bt ∈ l)
  (hv : cs[k]? = some v) (hd : (P.underlying ty).map (·.isRow) = some false) (hw : Region.wanted o (yielded ops a.tmps) = true) (h : wpList P ops Q rest (a.put o.dst v) W) : wpList P ops Q (o :: rest) a W :=
 gate_guard hw (loadf_h H rfl ho hx hm hv hd h)
theorem load_g (H : Hold w W t l) {ty : TypeId} {x : Operand} (ho : o.op = .load ty x) {g : Nat} {cs : List Value} {bt : TypeId} (hx : a.eval x = .pointer (some ⟨g, 0, none⟩)) (hm : cl g cs bt ∈ l)
  (hd : (P.underlying ty).map (·.isRow) = some true) (hi : (P.info? ty).map (·.size) = some cs.length) (hw : Region.wanted o (yielded ops a.tmps) = true) (h : wpList P ops Q rest (a.put o.dst (.agg cs.toArray)) W) : wpList P ops Q (o :: rest) a W :=
 gate_guard hw (load_h H rfl ho hx hm hd hi h)
end

inductive Pull : List Own → Own → List Own → Prop
 | head {x : Own} {r : List Own} : Pull (x :: r) x r
 | tail {x z : Own} {r r' : List Own} (h : Pull r x r') : Pull (z :: r) x (z :: r')
theorem Pull.perm {l r : List Own} {x : Own} (h : Pull l x r) : l.Perm (x :: r) := by
 induction h with
 | head => exact List.Perm.refl _
 | tail _ ih => exact (ih.cons _).trans (List.Perm.swap _ _ _)
theorem Hold.pull2 {w W : World} {t : List Nat} {l l1 r : List Own} {x y : Own} (H : Hold w W t l) (h1 : Pull l x l1) (h2 : Pull l1 y r) : Hold w W t ([x, y] ++ r) := H.perm (h1.perm.trans (h2.perm.cons _))
inductive Suf : List Own → List Own → Prop
 | refl {l : List Own} : Suf l l
 | cons {x : Own} {l s : List Own} (h : Suf l s) : Suf (x :: l) s
theorem Suf.sub {l s : List Own} (h : Suf l s) : s.Sublist l := by
 induction h with
 | refl => exact List.Sublist.refl _
 | cons _ ih => exact ih.cons _
inductive Want : List Own → List Own → Prop
 | done {l s : List Own} (h : Suf l s) : Want l s
 | take {x : Own} {l r l' : List Own} (h : Pull l x r) (h' : Want r l') : Want l (x :: l')
theorem Hold.want {w W : World} {t : List Nat} {l l' : List Own} (H : Hold w W t l) (h : Want l l') : Hold w W t l' := by
 induction h generalizing w W t with
 | done h => exact H.sub h.sub
 | take h h' ih =>
  have H2 := H.perm h.perm
  have H3 := H2.sub (List.Sublist.cons _ (List.Sublist.refl _))
  have H4 := ih H3
  refine ⟨H4.kept, fun o ho => ?_, List.Pairwise.cons (fun b hb => ?_) H4.apart, fun o ho => ?_⟩
  ·rcases List.mem_cons.1 ho with rfl | ho
   ·exact H2.ok _ (List.Mem.head _)
   ·exact H4.ok o ho
  ·exact (List.pairwise_cons.1 H2.apart).1 b (Want.mem h' b hb)
  ·rcases List.mem_cons.1 ho with rfl | ho
   ·exact H2.mine _ (List.Mem.head _)
   ·exact H4.mine o ho
where
 Want.mem {l l' : List Own} (h : Want l l') : ∀ b ∈ l', b ∈ l := by
  induction h with
  | done h => exact fun b hb => h.sub.subset hb
  | take h _ ih =>
   intro b hb
   rcases List.mem_cons.1 hb with rfl | hb
   ·exact h.perm.mem_iff.2 (List.Mem.head _)
   ·exact h.perm.mem_iff.2 (List.Mem.tail _ (ih b hb))
section
variable {P : Program} {ops : Array Oper} {rest : List Oper} {o : Oper} {a : Act} {Q : Exit → Act → World → Prop} {w W : World} {t : List Nat} {l : List Own}
theorem is_lit {ty : TypeId} {n : Nat} {ps : Array (Nat × Operand)} (_ho : o.op = .buildSlice ty n ps) (h : wpList P ops Q (o :: rest) a W) : wpList P ops Q (o :: rest) a W := h
theorem onerow_h (H : Hold w W t l) (hgd : o.guard = none) {e : TypeId} {cs : List Value}
  (hrun : (execOp a.eval o).run P W = .ok (.value (.slice (some ⟨W.heap.size, 0, none⟩) 1 1)) (W.alloc (.cells cs.toArray e (0, 0))))
  (h : ∀ g w1, Hold w w1 t (cl g cs e :: l) → wpList P ops Q rest (a.put o.dst (.slice (some ⟨g, 0, none⟩) 1 1)) w1) : wpList P ops Q (o :: rest) a W := by
 refine wpList_plain hgd fun K hK => ?_
 unfold Oper.wp
 rw [hrun]
 exact hK _ _ (h _ _ (Hold.push (l1 := [cl W.heap.size cs e]) H (Hold.made (below_alloc (Below.refl _ _) _) (blk_new W _) fun k hk => Nat.le_of_eq (List.mem_singleton.1 hk).symm)))
theorem appends_h (H : Hold w W t l) (hgd : o.guard = none) {s x : Operand} {st : TypeId} (ho : o.op = .call { callee := .builtin .append, args := #[s, x], argTypes := #[st, st] })
  {e : TypeId} {size bytes : Nat} {z : Value} (ht : P.underlying st = some (.slice e)) (hinfo : (P.info? e).map (fun i => (i.zero, i.size, i.bytes)) = some (some z, size, bytes)) (hzs : z.cells.size = size) (hsz : 0 < size)
  {v : Value} {n : Nat} {xs : List Value} {g c : Nat} {cs : List Value} {e' : TypeId} (hs : a.eval s = v) (hx : a.eval x = .slice (some ⟨g, 0, none⟩) 1 c) (hmem : cl g cs e' ∈ l) (hcs : cs.length = size) (h1 : cs.all (·.oneCell') = true)
  {f : Own → List Own} (hm : ∀ y, Put l (.row e size v n xs) y (f y)) (hn : n + 1 ≤ 100000000) (hb : (n + 1) * bytes ≤ 140737488355328)
  (h : ∀ v1 w1, Hold w w1 t (f (.row e size v1 (n + 1) (xs ++ cs))) → wpList P ops Q rest (a.put o.dst v1) w1) : wpList P ops Q (o :: rest) a W := by
 obtain ⟨r, hp1, _⟩ := (hm (.row e size v n xs)).perm
 have hrow : W.ownsRow 0 e size v n xs := H.ok _ (hp1.mem_iff.2 (List.Mem.head _))
 obtain ⟨i0, hi, hq⟩ := Option.map_eq_some_iff.1 hinfo
 simp only [Prod.mk.injEq] at hq
 obtain ⟨v1, w1, hrun, h2, h3, _, h5⟩ := run_append_own_at (P := P) W 0 st o.type e i0 z size bytes ht hi hq.1 hq.2.1 hq.2.2 hzs hsz v n xs hrow ⟨g, 0, none⟩ 1 c cs (by omega)
  (fun j u hu => by rw [show (⟨g, 0, none⟩ : Addr).add j = ⟨g, j, none⟩ by simp [Addr.add, eq_comm]]; exact (H.cell hmem j).trans hu) (List.all_eq_true.1 h1) (by unfold maxLen; omega) hb (Nat.zero_le _)
 refine wpList_plain hgd fun K hK => ?_
 unfold Oper.wp execOp
 simp only [ho, resolve, invoke, builtin, Sem.run_bind, Sem.run_pure, Result.andThen_ok, List.map_toArray, List.map_cons, List.map_nil, hs, hx, hrun]
 refine hK _ _ (h v1 w1 (H.put (hm _) (Hold.turned h3.os h3.tape h3.output h3.size (fun k hk hne => h3.block k hk fun e => hne (Option.mem_toList.2 e.symm)) h2 fun k hk => ?_)))
 have hk' : v1.ownBlock = some k := Option.mem_toList.1 hk
 rcases h5 with h' | h'
 ·exact .inr (Option.mem_toList.2 (h'.symm.trans hk'))
 ·rw [h'] at hk'
  exact .inl (Nat.le_of_eq (Option.some.inj hk'))
end

theorem clone_calls (w : World) (A : Option Addr) (n c : Nat) (data : List Int) (hR : ReadsInt w .u8 A n data) (hn : n ≤ 100000) :
  Calls Tryd.prog 42 #[.slice A n c] w fun ev w' => ∃ v, ev = .returned v ∧ w'.ownsRow w.heap.size 5 1 v data.length (nums .u8 data) ∧ Below w.heap.size w w' := by
 refine of_post fun R hRR => ?_
 have HP := Lib.hid hRR
 clear hRR
 have q : ∀ (w : World) (a : Option Addr) (n c n' c' : Nat), (binOp .eql 29 (.slice a n c) (.slice none n' c')).run Tryd.prog w = .ok (.bool a.isNone) w := fun w a n c n' c' => Lib.run_eql_slice_nil w _ _ a n c n' c' Tryd.underlying29
 cases A with
 | none =>
  have hm0 : n = 0 := Nat.eq_zero_of_not_pos fun h => by obtain ⟨_, h1, _⟩ := hR.2.2 h; cases h1
  have hy : data = [] := List.eq_nil_of_length_eq_zero (by have := hR.1; omega)
  subst hm0 hy
  clear hR
  go_enter Tryd.func42, Tryd.ntmps42
  go_wp2
  exact HP.out _ _ ⟨_, rfl, own_nil _ _ _ _, Below.refl _ _⟩
 | some ad =>
  have hR1 : ReadsInt (w.alloc (.cells #[] 5)) .u8 (some ad) n data := hR.below ((Below.refl w.heap.size w).alloc (Nat.le_refl _) _)
  have hO := own_empty w w.heap.size 5 (Nat.le_refl _)
  have hl : data.length = n := hR.1
  have HL := Lib.hid hl
  clear hR hl
  go_enter Tryd.func42, Tryd.ntmps42
  go_wp2_with (at_builtin; refine list_append_row _ (by rfl) (.tmp 5) (.tmp 6) 29 (by rfl) w.heap.size 5 .u8 1 Tryd.underlying29 Tryd.info8 (by decide) (.slice (some ⟨w.heap.size, 0, none⟩) 0 0) [] data (some ad) n c (by rfl) (by rfl) hO hR1 (by simp) (by simp; omega) ?_; intro v1 w2 hown hgrow hat; have H7 := Lib.hid (And.intro hown hgrow); clear hown hgrow hat)
  refine HP.out _ _ ⟨v1, rfl, H7.out.1, ?_⟩
  exact ((Below.refl w.heap.size w).alloc (Nat.le_refl _) _).grown H7.out.2 (by simp) (fun k hk => by simp [Value.ownBlock] at hk; omega)
end Go.Proofs.YtodfahcmgmleeaaDoor

/- Small words that all texts of this claim use. -/
namespace Go.Proofs.YtodfahcmgmleeaaDoor
set_option linter.unusedVariables false
set_option linter.unusedSimpArgs false
open Go.RowKit
theorem of_post0 {P : Program} {f : FuncId} {args : Array Value} {w : World} {T : Ending → World → Prop} (h : ∀ R : Ending → World → Prop, (∀ e w', T e w' → R e w') → Calls P f args w R) : Calls P f args w T := h T fun _ _ h => h
end Go.Proofs.YtodfahcmgmleeaaDoor

/- A row of bytes that came in, opened. -/
namespace Go.Proofs.YtodfahcmgmleeaaDoor
set_option linter.unusedVariables false
set_option linter.unusedSimpArgs false
open Go.RowKit Go.ChangeShapes Go.WideShapes Go.Deep Go.Joins Go.Proofs.YtodfahcmgmleeaaDoorW.PrintWords

set_option maxRecDepth 100000 in
theorem open_bytes_cell {H : Type} {enc : TypeId × Value → H} {W : World} {fuel : Nat} {A : Option Addr} {n cap : Nat} {x : DataW H × List MemPlace} (hf : DataW.trod enc Tryd.prog W 0 (fun _ => true) true fuel 29 [.slice A n cap] = some x) :
  ∃ l : List Int, l.length = n ∧ ReadsInt W .u8 A l.length l ∧ l.length ≤ cap ∧ ∀ x ∈ l, 0 ≤ x ∧ x ≤ 255 := by
 have e1 : Tryd.prog.cellsOf 5 = 1 := by kernel_rfl
 have wf8 : ∀ {n : Int}, (Lit.int .u8 n).wf = true → 0 ≤ n ∧ n ≤ 255 := fun h => by simp [Lit.wf, IntKind.min, IntKind.max, IntKind.signed, IntKind.bits] at h; omega
 rcases open_ints Tryd.underlying29 Tryd.underlying5 e1 hf with ⟨hc, _⟩ | ⟨a, len, cap', zs, hc, _, g1, g2, g3, _, g4, g5⟩
 ·simp at hc
  obtain ⟨rfl, rfl, rfl⟩ := hc
  obtain ⟨l, hl1, hr, hm, hw, hcc⟩ := ReadsInt.ofRowC (w := W) (k := .u8) (a := none) (len := 0) (cap := 0) (zs := []) (.inl ⟨rfl, rfl, rfl, rfl⟩)
  exact ⟨l, hl1.symm, hr, hcc, fun x hx => wf8 (hw x hx)⟩
 ·simp at hc
  obtain ⟨rfl, rfl, rfl⟩ := hc
  obtain ⟨l, hl1, hr, hm, hw, hcc⟩ := ReadsInt.ofRowC (.inr ⟨a, rfl, g1, g2, by simpa using g3, g4, g5⟩)
  exact ⟨l, hl1.symm, hr, hcc, fun x hx => wf8 (hw x hx)⟩
structure BE where
 x : List Int
 A : Option Addr
 c : Nat
def BsIn (w : World) (A : Option Addr) (l : List BE) : Prop := ∀ (i : Nat) (e : BE), l[i]? = some e → ∃ a, A = some a ∧ w.cell? (a.add i) = some (.slice e.A e.x.length e.c) ∧ ReadsInt w .u8 e.A e.x.length e.x ∧ e.x.length ≤ e.c ∧ ∀ x ∈ e.x, 0 ≤ x ∧ x ≤ 255
set_option maxRecDepth 100000 in
theorem open_rows {H : Type} {enc : TypeId × Value → H} {W : World} {b0 : Nat} {v : Value} {d : DataW H} {p : List MemPlace} (hv : Value.okWide Tryd.prog W .any b0 46 v)
  (h : DataW.Trod enc Tryd.prog W 0 (fun _ => true) true 46 v d p) : ∃ (A : Option Addr) (l : List BE) (c : Nat), v = .slice A l.length c ∧ l.length ≤ 9223372036854775807 ∧ BsIn W A l := by
 obtain ⟨A, n, cap, rfl⟩ := okWide_slice Tryd.underlying46 hv
 obtain ⟨fuel, hf⟩ := h
 rcases open_slice Tryd.underlying46 hf with ⟨hcs, _⟩ | ⟨a, len, cap', m, k, D, Pl, hcs, hb, hl, hm, hmm, hx, hi⟩
 ·simp [Value.cells] at hcs
  obtain ⟨rfl, rfl, rfl⟩ := hcs
  exact ⟨none, [], 0, rfl, Nat.zero_le _, fun i e he => by simp at he⟩
 ·simp [Value.cells] at hcs
  obtain ⟨rfl, rfl, rfl⟩ := hcs
  unfold maxLen at hm
  have hC : Tryd.prog.cellsOf 29 = 1 := by kernel_rfl
  have hat : ∀ i, i < n → ∃ e : BE, W.cell? (a.add i) = some (.slice e.A e.x.length e.c) ∧ ReadsInt W .u8 e.A e.x.length e.x ∧ e.x.length ≤ e.c ∧ ∀ x ∈ e.x, 0 ≤ x ∧ x ≤ 255 := by
   intro i hin
   obtain ⟨cs', hc, ht⟩ := hi i (by simp at hmm; omega)
   rw [hC] at hc
   obtain ⟨_, hcl, hat⟩ := World.cells?_some hc
   obtain ⟨A1, n1, c1, rfl⟩ := slice_form Tryd.underlying29 ht
   obtain ⟨x, rfl, r1, r2, r3⟩ := open_bytes_cell ht
   have e0 : ∀ y : Addr, y.add 0 = y := fun y => by unfold Addr.add; simp
   have z0 := hat 0 (by decide)
   rw [e0] at z0
   exact ⟨⟨x, A1, c1⟩, by simpa using z0, r1, r2, r3⟩
  have hex : ∃ l : List BE, l.length = n ∧ ∀ i e, l[i]? = some e → W.cell? (a.add i) = some (.slice e.A e.x.length e.c) ∧ ReadsInt W .u8 e.A e.x.length e.x ∧ e.x.length ≤ e.c ∧ ∀ x ∈ e.x, 0 ≤ x ∧ x ≤ 255 := by
   clear hf hi hl hm hmm hx hb hv
   induction n with
   | zero => exact ⟨[], rfl, fun i e h => by simp at h⟩
   | succ n ih =>
    obtain ⟨l, hl, hc⟩ := ih (fun i h => hat i (by omega))
    obtain ⟨e, he⟩ := hat n (by omega)
    refine ⟨l ++ [e], by simp [hl], fun i e' h => ?_⟩
    by_cases hlt : i < l.length
    ·rw [List.getElem?_append_left hlt] at h
     exact hc i e' h
    ·have hi : i < (l ++ [e]).length := (List.getElem?_eq_some_iff.1 h).1
     have e1 : i = n := by simp at hi; omega
     subst e1
     rw [List.getElem?_append_right (by omega), hl, Nat.sub_self] at h
     obtain rfl : e = e' := by simpa using h
     exact he
  obtain ⟨l, rfl, hc⟩ := hex
  exact ⟨some a, l, cap, rfl, by omega, fun i e he => ⟨a, rfl, hc i e he⟩⟩
end Go.Proofs.YtodfahcmgmleeaaDoor
