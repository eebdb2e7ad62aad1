/- Texts of this claim, put together: OpenBytes, FrmPure, FrmPure2, FrmPure3, FrmPure4, FrmPure5, FrmPure6, FrmPure7, FrmPure8, FrmPure9, Rf1, Ev, Rf2, Rf3, Rf4, RfP, Rf5. -/
import Derived.Test.YtjjfkmniffbgkaaDoorMSplitFrames2
import Derived.ChangeSlices
import Derived.Deep.Slices
import Derived.ChangeArms
import Derived.ChangeSame
import Derived.WideLaws
import Derived.OpenShut
import Derived.Lib.SmallJoins
import Derived.WideShapes
import Derived.ChangeShapes
import Derived.Test.YtjjfkmniffbgkaaDoorMSplitFrames5
import Derived.Deep.MidRow
import Derived.Lib.ConvBytes
import Derived.Laws.AppendOwn
import Derived.Test.YtjjfkmniffbgkaaDoorMSplitFrames0
/- A row of bytes that came in, opened. -/
namespace Go.Proofs.YtjjfkmniffbgkaaDoor
set_option linter.unusedVariables false
set_option linter.unusedSimpArgs false
open Go.RowKit Go.ChangeShapes Go.WideShapes Go.Deep Go.Joins Go.Proofs.YtjjfkmniffbgkaaDoorW.PrintWords
set_option maxRecDepth 100000 in
theorem open_bytes_arg {H : Type} {enc : TypeId × Value → H} {W : World} {b0 : Nat} {v : Value} {d : DataW H} {p : List MemPlace} (hv : Value.okWide Tryd.prog W .any b0 35 v)
  (h : DataW.Trod enc Tryd.prog W 0 (fun _ => true) true 35 v d p) : ∃ (A : Option Addr) (l : List Int) (c : Nat), v = .slice A l.length c ∧ ReadsInt W .u8 A l.length l ∧ l.length ≤ c ∧ ∀ x ∈ l, 0 ≤ x ∧ x ≤ 255 := by
 obtain ⟨A, n, cap, rfl⟩ := okWide_slice Tryd.underlying35 hv
 obtain ⟨fuel, hf⟩ := h
 have e1 : Tryd.prog.cellsOf 5 = 1 := by kernel_rfl
 have wf8 : ∀ {n : Int}, (Lit.int .u8 n).wf = true → 0 ≤ n ∧ n ≤ 255 := fun h => by simp [Lit.wf, IntKind.min, IntKind.max, IntKind.signed, IntKind.bits] at h; omega
 rcases open_ints Tryd.underlying35 Tryd.underlying5 e1 hf with ⟨hc, _⟩ | ⟨a, len, cap', zs, hc, _, g1, g2, g3, _, g4, g5⟩
 ·simp [Value.cells] at hc
  obtain ⟨rfl, rfl, rfl⟩ := hc
  obtain ⟨l, hl1, hr, hm, hw, hcc⟩ := ReadsInt.ofRowC (w := W) (k := .u8) (a := none) (len := 0) (cap := 0) (zs := []) (.inl ⟨rfl, rfl, rfl, rfl⟩)
  exact ⟨none, l, 0, by rw [← hl1], hr, hcc, fun x hx => wf8 (hw x hx)⟩
 ·simp [Value.cells] at hc
  obtain ⟨rfl, rfl, rfl⟩ := hc
  obtain ⟨l, hl1, hr, hm, hw, hcc⟩ := ReadsInt.ofRowC (.inr ⟨a, rfl, g1, g2, by simpa using g3, g4, g5⟩)
  exact ⟨some a, l, cap, by rw [← hl1], hr, hcc, fun x hx => wf8 (hw x hx)⟩
end Go.Proofs.YtjjfkmniffbgkaaDoor

/- FrameBack's pure part: how numbers are put. -/
namespace Go.Proofs.YtjjfkmniffbgkaaDoor
set_option linter.unusedVariables false
set_option linter.unusedSimpArgs false
open Go.RowKit Go.Proofs.YtjjfkmniffbgkaaDoorW.PrintWords Go.Proofs.YtjjfkmniffbgkaaDoorW.PrintLast Go.Proofs.YtjjfkmniffbgkaaDoorW.PrintMore Go.Proofs.YtjjfkmniffbgkaaDoor.QFrmA Go.Proofs.YtjjfkmniffbgkaaDoor.QFrmB Go.Proofs.YtjjfkmniffbgkaaDoor.Given
theorem shr24 (n : Int) : shr .u32 n 24 = n / 16777216 := rfl
theorem shr16 (n : Int) : shr .u32 n 16 = n / 65536 := rfl
theorem shr8 (n : Int) : shr .u32 n 8 = n / 256 := rfl
theorem shr0 (n : Int) : shr .u32 n 0 = n := by show n / 1 = n; omega
end Go.Proofs.YtjjfkmniffbgkaaDoor

/- FrameBack's pure part: the payload. -/
namespace Go.Proofs.YtjjfkmniffbgkaaDoor
set_option linter.unusedVariables false
set_option linter.unusedSimpArgs false
open Go.RowKit Go.Proofs.YtjjfkmniffbgkaaDoorW.PrintWords Go.Proofs.YtjjfkmniffbgkaaDoorW.PrintLast Go.Proofs.YtjjfkmniffbgkaaDoorW.PrintMore Go.Proofs.YtjjfkmniffbgkaaDoor.QFrmA Go.Proofs.YtjjfkmniffbgkaaDoor.Given
def be4 (n : Int) : List Int := [(shr .u32 n 24) % 256, (shr .u32 n 16) % 256, (shr .u32 n 8) % 256, (shr .u32 n 0) % 256]
def leanL (F : Fr) : List Int := be4 (if F.al = true then Go.bits .or .u32 F.oth 2147483648 else F.oth) ++ [F.wgt]
def tailL (F : Fr) : List Int := (if leansB F.ty F.fl = true then leanL F else []) ++ F.data ++ List.replicate (mx F.pad 0).toNat 0

def be2 (n : Int) : List Int := [(shr .u32 n 8) % 256, (shr .u32 n 0) % 256]
def setL (s : S99) : List Int := be2 (s.f0 % 4294967296) ++ be4 s.f1
theorem setL_len (s : S99) : (setL s).length = 6 := rfl
def midL (F : Fr) : List Int :=
 if F.ty = 3 then be4 F.code else if F.ty = 4 then F.sets.flatMap setL else if F.ty = 7 then be4 F.oth ++ be4 F.code else if F.ty = 5 then be4 F.oth else if F.ty = 8 then be4 F.win else []
def payL (F : Fr) : List Int := (if 0 ≤ F.pad then [F.pad % 256] else []) ++ (midL F ++ tailL F)

def be3 (n : Int) : List Int := [(shr .u32 n 16) % 256, (shr .u32 n 8) % 256, (shr .u32 n 0) % 256]
def putL (F : Fr) : List Int := be3 ((payL F).length % 4294967296) ++ [F.ty, F.fl] ++ be4 F.st ++ payL F

structure FieldsOk (F : Fr) : Prop where
 lean : leansB F.ty F.fl = true ∨ (F.wgt = 0 ∧ F.al = false)
 oth : (leansB F.ty F.fl = true ∨ F.ty = 5 ∨ F.ty = 7) ∨ F.oth = 0
 code : (F.ty = 3 ∨ F.ty = 7) ∨ F.code = 0
 win : F.ty = 8 ∨ F.win = 0
 sets : F.ty = 4 ∨ F.sets = []
 data : (F.ty ≠ 2 ∧ F.ty ≠ 3 ∧ F.ty ≠ 4 ∧ F.ty ≠ 8) ∨ F.data = []

structure MayOk (F : Fr) : Prop where
 fields : FieldsOk F
 st : F.st ≤ 2147483647
 oth : F.oth ≤ 2147483647
 win : F.win ≤ 2147483647
 pad : if (F.ty = 0 ∨ F.ty = 1 ∨ F.ty = 5) ∧ Go.bits .and .u8 F.fl 8 ≠ 0 then 0 ≤ F.pad ∧ F.pad ≤ 255 else F.pad = -1
 ping : F.ty = 6 → F.data.length = 8
 data : F.data.length ≤ 16384
 sets : F.sets.length ≤ 2730
 pay : (payL F).length ≤ 16384
theorem MayOk.pad255 {F : Fr} (h : MayOk F) : F.pad ≤ 255 := by
 have := h.pad
 split at this <;> omega
end Go.Proofs.YtjjfkmniffbgkaaDoor

/- The reference of frames: bytes and texts; its small functions, walked. -/
namespace Go.Proofs.YtjjfkmniffbgkaaDoor
set_option linter.unusedVariables false
set_option linter.unusedSimpArgs false
open Go.RowKit Go.Proofs.YtjjfkmniffbgkaaDoorW.PrintWords Go.Proofs.YtjjfkmniffbgkaaDoorW.PrintLast Go.Proofs.YtjjfkmniffbgkaaDoorW.PrintMore Go.Proofs.YtjjfkmniffbgkaaDoor.QFrmA Go.Proofs.YtjjfkmniffbgkaaDoor.Given Go.Extern.Stop Go.Stop Go.Extern Go.Maps
theorem bytes_ext {a b : ByteArray} (h : a.data.toList = b.data.toList) : a = b := by
 cases a; cases b
 simp only [ByteArray.mk.injEq]
 exact Array.toList_inj.1 h
theorem str_list (l : List Int) : (strOfNums l).toList = l.map fun n => UInt8.ofNat n.toNat := by
 rw [ByteArray.toList_eq]
 simp [strOfNums]
theorem back_list : ∀ (l : List Int), Byte8 l → (l.map fun n => UInt8.ofNat n.toNat).map (fun c => (c.toNat : Int)) = l
 | [], _ => rfl
 | x :: l, h => by
  have h1 := h x (by simp)
  have h2 := back_list l (fun y hy => h y (by simp [hy]))
  simp only [List.map_cons]
  rw [h2]
  congr 1
  rw [UInt8.toNat_ofNat']
  omega
theorem bytes_byte (s : ByteArray) : Byte8 (bytesOf s) := by
 intro x hx
 obtain ⟨c, -, rfl⟩ := List.mem_map.1 hx
 have := c.toNat_lt
 omega
theorem bytes_str {l : List Int} (h : Byte8 l) : bytesOf (strOfNums l) = l := by
 have e := back_list l h
 unfold bytesOf
 rw [← ByteArray.toList_eq, str_list]
 exact e
theorem str_size (l : List Int) : (strOfNums l).size = l.length := by
 have := bytesOf_length (strOfNums l)
 unfold bytesOf at this
 rw [← ByteArray.toList_eq, str_list] at this
 simpa using this.symm
theorem str_cut (l : List Int) (lo hi : Nat) : (strOfNums l).extract lo hi = strOfNums ((l.take hi).drop lo) := by
 refine bytes_ext ?_
 rw [ByteArray.data_extract, Array.toList_extract]
 simp only [strOfNums, List.extract, List.map_drop, List.map_take, List.drop_take]
theorem str_drop (l : List Int) (lo : Nat) : (strOfNums l).extract lo (strOfNums l).size = strOfNums (l.drop lo) := by
 rw [str_cut, str_size, List.take_length]
theorem ev_value_ref_loop (s : ByteArray) (hs : s.size ≤ 4) : ∀ (d i : Nat) (n : Int), d + i = s.size → 0 ≤ n → n < 256 ^ i → Ev (fun k => QFrmN.louverref07_Value.l0 k s n (i : Int)) (valFrom n ((bytesOf s).drop i))
 | 0, i, n, hi, h0, h1 => by
  refine Ev.step (f := fun _ => some n) (fun k => ?_) ?_
  ·simp only [QFrmN.louverref07_Value.l0]
   rw [if_neg (by omega)]
  ·rw [List.drop_eq_nil_of_le (by rw [bytesOf_length]; omega)]
   exact Ev.now n
 | d + 1, i, n, hi, h0, h1 => by
  have hlt : i < (bytesOf s).length := by rw [bytesOf_length]; omega
  have hx := bytes_byte s _ (List.getElem_mem hlt)
  have hrd : bt s (i : Int) = (bytesOf s)[i] := by
   rw [← rd_bytesOf]
   unfold rd
   rw [List.getD_eq_getElem?_getD, Int.toNat_natCast, List.getElem?_eq_getElem hlt]
   rfl
  have hpw : (256 : Int) ^ i ≤ 256 ^ 3 := by
   have : (256 : Nat) ^ i ≤ 256 ^ 3 := Nat.pow_le_pow_right (by decide) (by omega)
   have h := Int.ofNat_le.2 this
   rw [Int.natCast_pow, Int.natCast_pow] at h
   exact h
  have h3 : (256 : Int) ^ 3 = 16777216 := rfl
  have ih := ev_value_ref_loop s hs d (i + 1) (n * 256 + (bytesOf s)[i]) (by omega) (by omega) (by rw [pow256_succ]; omega)
  have e : ((256 * n) % 4294967296 + (bytesOf s)[i] % 4294967296) % 4294967296 = n * 256 + (bytesOf s)[i] := by omega
  refine Ev.step (f := fun k => QFrmN.louverref07_Value.l0 k s (n * 256 + (bytesOf s)[i]) ((i + 1 : Nat) : Int)) (fun k => ?_) ?_
  ·simp only [QFrmN.louverref07_Value.l0]
   rw [if_pos (by omega), if_pos (by omega), hrd, e, wrap_okF (by omega) (by omega)]
   rfl
  ·rw [List.drop_eq_getElem_cons hlt]
   exact ih
theorem ev_value_ref (s : ByteArray) (hs : s.size ≤ 4) : Ev (fun k => QFrmN.louverref07_Value.f k s) (valL (bytesOf s)) := by
 unfold QFrmN.louverref07_Value.f valL
 exact ev_value_ref_loop s hs s.size 0 0 (by omega) (by omega) (by decide)
theorem value_ref_calls (w : World) (l : List Int) (hl : l.length ≤ 4) (hb : Byte8 l) : Calls Tryd.prog 29 #[.string (strOfNums l)] w fun e w' => e = .returned (.int .u32 (valL l)) ∧ Drawn0 w w' := by
 obtain ⟨k, hk⟩ := (ev_value_ref (strOfNums l) (by rw [str_size]; exact hl)).rounds
 rw [bytes_str hb] at hk
 exact QFrmN.louverref07_Value.calls k (strOfNums l) _ w hk
theorem rlow_calls (w : World) (n : Int) (h0 : 0 ≤ n) : Calls Tryd.prog 55 #[.int .u32 n] w fun e w' => e = .returned (.int .u32 (n % 2147483648)) ∧ Drawn0 w w' := by
 refine QFrmN.louverref07_low.calls n _ w ?_
 unfold QFrmN.louverref07_low.f
 rw [Int.tmod_eq_emod_of_nonneg h0]
theorem rpads_calls (w : World) (ty : Int) : Calls Tryd.prog 50 #[.int .u8 ty] w fun e w' => e = .returned (.bool (decide (ty = 0 ∨ ty = 1 ∨ ty = 5))) ∧ Drawn0 w w' := by
 refine QFrmN.louverref07_pads.calls ty _ w ?_
 unfold QFrmN.louverref07_pads.f
 by_cases h0 : ty = 0
 ·simp [h0]
 ·by_cases h1 : ty = 1
  ·simp [h1]
  ·rw [if_neg h0, if_neg h1]
   congr 1
   rw [Bool.eq_iff_iff, beq_iff_eq, decide_eq_true_iff]
   omega
set_option maxHeartbeats 1000000 in
theorem bit32 (n : Fin 256) : ((n.val : Int).tdiv 32 % 2 == 1) = (Go.bits .and .u8 (n.val : Int) 32 != 0) := by
 revert n
 decide +kernel
set_option maxHeartbeats 1000000 in
theorem bit8 (n : Fin 256) : ((n.val : Int).tdiv 8 % 2 == 1) = (Go.bits .and .u8 (n.val : Int) 8 != 0) := by
 revert n
 decide +kernel
theorem bit32' {n : Int} (h0 : 0 ≤ n) (h1 : n ≤ 255) : (n.tdiv 32 % 2 == 1) = (Go.bits .and .u8 n 32 != 0) := by
 have := bit32 ⟨n.toNat, by omega⟩
 rwa [show ((n.toNat : Nat) : Int) = n by omega] at this
theorem bit8' {n : Int} (h0 : 0 ≤ n) (h1 : n ≤ 255) : (n.tdiv 8 % 2 == 1) = (Go.bits .and .u8 n 8 != 0) := by
 have := bit8 ⟨n.toNat, by omega⟩
 rwa [show ((n.toNat : Nat) : Int) = n by omega] at this
theorem rleans_calls (w : World) (F : Fr) (D S : Value) (h0 : 0 ≤ F.fl) (h1 : F.fl ≤ 255) : Calls Tryd.prog 51 #[.agg (frC F D S)] w fun e w' => e = .returned (.bool (leansB F.ty F.fl)) ∧ Below w.heap.size w w' := by
 obtain ⟨ty, fl, st, data, pad, code, oth, wgt, al, win, sets⟩ := F
 refine of_post0 fun R hRR => ?_
 have HP := Lib.hid hRR
 clear hRR
 by_cases h2 : ty = 2
 ·subst h2
  go_enter Tryd.func51, Tryd.ntmps51
  go_wp2_with fail
  exact HP.out _ _ ⟨rfl, below_alloc (Below.refl _ _) _⟩
 ·have g2 : (ty == 2) = false := by rw [beq_eq_false_iff_ne]; exact h2
  by_cases h3 : ty = 1
  ·subst h3
   have e := bit32' h0 h1
   dsimp only at e h0 h1
   have HE := Lib.hid (show leansB 1 fl = (fl / 32 % 2 == 1) from (by rw [← Int.tdiv_eq_ediv_of_nonneg h0, e]; rfl))
   clear e
   go_enter Tryd.func51, Tryd.ntmps51
   go_wp2_with fail
   refine HP.out _ _ ⟨?_, below_alloc (Below.refl _ _) _⟩
   rw [HE.out]
  ·have g3 : (ty == 1) = false := by rw [beq_eq_false_iff_ne]; exact h3
   have HE := Lib.hid (show leansB ty fl = false by unfold leansB; rw [if_neg h2, if_neg h3])
   clear h2 h3
   go_enter Tryd.func51, Tryd.ntmps51
   go_wp2_with fail
   refine HP.out _ _ ⟨?_, below_alloc (Below.refl _ _) _⟩
   rw [HE.out]
end Go.Proofs.YtjjfkmniffbgkaaDoor

/- Steps of a walk over structs in blocks: each leaves a world of which only the blocks are told. No program. -/
namespace Go.Proofs.YtjjfkmniffbgkaaDoor
set_option linter.unusedVariables false
set_option linter.unusedSimpArgs false
open Go.RowKit Go.Proofs.YtjjfkmniffbgkaaDoorW.PrintWords
structure Only (g : Nat) (W w1 : World) : Prop where
 os : w1.os = W.os
 tape : w1.tape = W.tape
 output : w1.output = W.output
 size : w1.heap.size = W.heap.size
 block : ∀ k, k ≠ g → w1.heap[k]? = W.heap[k]?
theorem Only.below {g base : Nat} {w0 W w1 : World} (h : Only g W w1) (hb : Below base w0 W) (hg : base ≤ g) : Below base w0 w1 :=
 ⟨h.os.trans hb.os, h.tape.trans hb.tape, h.output.trans hb.output, by rw [h.size]; exact hb.size, fun k hk => (h.block k (by omega)).trans (hb.block k hk)⟩
theorem Only.blk {g k : Nat} {W w1 : World} {o : Obj} (h : Only g W w1) (hk : W.heap[k]? = some o) (hne : k ≠ g) : w1.heap[k]? = some o := (h.block k hne).trans hk
theorem Only.keep {g : Nat} {w W w1 : World} {row : Option Nat} (h : Only g W w1) (hk : KeepBut w W g row) : KeepBut w w1 g row :=
 ⟨by rw [h.size]; exact hk.1, fun i hi hg hr => (h.block i hg).trans (hk.2 i hi hg hr)⟩
theorem Only.far {g g' : Nat} {w W w1 : World} {row : Option Nat} (h : Only g W w1) (hk : KeepBut w W g' row) (hg : w.heap.size ≤ g) : KeepBut w w1 g' row :=
 ⟨by rw [h.size]; exact hk.1, fun i hi hg' hr => (h.block i (by omega)).trans (hk.2 i hi hg' hr)⟩
theorem Only.reads {g : Nat} {W w1 : World} {k : IntKind} {A : Option Addr} {n : Nat} {xs : List Int} (h : Only g W w1) (hR : ReadsInt W k A n xs) (hne : ∀ a, A = some a → a.block ≠ g) : ReadsInt w1 k A n xs := by
 refine ⟨hR.1, hR.2.1, fun hn => ?_⟩
 obtain ⟨ad, e, hc⟩ := hR.2.2 hn
 refine ⟨ad, e, fun j hj => ?_⟩
 rw [← hc j hj]
 have := h.block (ad.add j).block (by rw [add_block]; exact hne ad e)
 simp [World.cell?, this]
theorem at_only {gd g : Nat} (h : gd ≠ g) : ∀ a, some (⟨gd, 0, none⟩ : Addr) = some a → a.block ≠ g := fun a e => by obtain rfl := Option.some.inj e; exact h
section
variable {P : Program} {ops : Array Oper} {rest : List Oper} {o : Oper} {a : Act} {Q : Exit → Act → World → Prop}
theorem load_ev {W : World} (hgd : o.guard = none) {t : TypeId} {x : Operand} (ho : o.op = .load t x) {g : Nat} {cs : Array Value} {ty : TypeId} {d : TypeDesc}
  (hx : a.eval x = .pointer (some ⟨g, 0, none⟩)) (hb : W.heap[g]? = some (.cells cs ty (0, 0))) (hu : P.underlying t = some d) (hd : d.isRow = true) (hi : (P.info? t).map (·.size) = some cs.size)
  (h : wpList P ops Q rest (a.put o.dst (.agg cs)) W) : wpList P ops Q (o :: rest) a W := by
 refine wpList_load_mid hgd t x ho g 0 hx cs.toList d (fun j v hv => ?_) hu hd (by simpa using hi) (by simpa using h)
 rw [Nat.zero_add, blk_cell hb]
 simpa using hv
theorem store_ev {W : World} (hgd : o.guard = none) (hN : o.dst = none) {t : TypeId} {p x : Operand} (ho : o.op = .store t p x) {g k : Nat} {cs cs' : Array Value} {ty : TypeId} {u : Value}
  (hp : a.eval p = .pointer (some ⟨g, k, none⟩)) (hx : a.eval x = u) (hb : W.heap[g]? = some (.cells cs ty (0, 0))) (ht : (P.info? t).map (·.size) = some u.cells.toList.length)
  (hk : k + u.cells.toList.length ≤ cs.size) (h1 : u.cells.toList.all (·.oneCell') = true) (e : cs.toList.take k ++ u.cells.toList ++ cs.toList.drop (k + u.cells.toList.length) = cs'.toList)
  (h : ∀ w1, w1.heap[g]? = some (.cells cs' ty (0, 0)) → Only g W w1 → wpList P ops Q rest a w1) : wpList P ops Q (o :: rest) a W := by
 refine wpList_plain hgd fun K hK => ?_
 have hrun := run_store_run (P := P) t u u.cells.toList hb rfl ht hk (List.all_eq_true.1 h1)
 unfold Oper.wp execOp
 simp only [ho, hp, hx, Sem.run_bind, Sem.run_pure, Result.andThen_ok, hrun]
 show K (a.put o.dst undef) _
 rw [hN]
 obtain ⟨s1, s2, s3, s4⟩ := setCells_same g u.cells.toList k W
 refine hK _ _ (h _ ?_ ⟨s1, s2, s3, s4, fun i hi => setCells_far _ _ i hi⟩)
 obtain ⟨cur, q1, _, q3⟩ := setCells_row u.cells.toList k W cs hb hk
 rw [q1, Array.toList_inj.1 (q3.trans e)]
theorem make_ev {W : World} (hgd : o.guard = none) {cs : Array Value} {t : TypeId}
  (hrun : (execOp a.eval o).run P W = .ok (.value (.pointer (some ⟨W.heap.size, 0, none⟩))) (W.alloc (.cells cs t (0, 0))))
  (h : ∀ g, g = W.heap.size → ∀ w1, w1.heap[g]? = some (.cells cs t (0, 0)) → w1.heap.size = W.heap.size + 1 → Below W.heap.size W w1 → wpList P ops Q rest (a.put o.dst (.pointer (some ⟨g, 0, none⟩))) w1) : wpList P ops Q (o :: rest) a W := by
 refine wpList_plain hgd fun K hK => ?_
 unfold Oper.wp
 rw [hrun]
 exact hK _ _ (h _ rfl _ (blk_new W _) (by simp) (below_alloc (Below.refl _ _) _))
theorem make_ord {Kc : Act → World → Prop} {W : World} (hw : Region.wanted o (yielded ops a.tmps) = true) {cs : Array Value} {t : TypeId}
  (hrun : (execOp a.eval o).run P W = .ok (.value (.pointer (some ⟨W.heap.size, 0, none⟩))) (W.alloc (.cells cs t (0, 0))))
  (h : ∀ g, g = W.heap.size → ∀ w1, w1.heap[g]? = some (.cells cs t (0, 0)) → w1.heap.size = W.heap.size + 1 → Below W.heap.size W w1 → Kc (a.put o.dst (.pointer (some ⟨g, 0, none⟩))) w1) :
  if Region.wanted o (yielded ops a.tmps) = true then Oper.wp P o a W Kc Q else Kc (a.put o.dst undef) W := by
 rw [if_pos hw]
 unfold Oper.wp
 rw [hrun]
 exact h _ rfl _ (blk_new W _) (by simp) (below_alloc (Below.refl _ _) _)
theorem store_ord {Kc : Act → World → Prop} {W : World} (hw : Region.wanted o (yielded ops a.tmps) = true) (hN : o.dst = none) {t : TypeId} {p x : Operand} (ho : o.op = .store t p x) {g k : Nat} {cs cs' : Array Value} {ty : TypeId} {u : Value}
  (hp : a.eval p = .pointer (some ⟨g, k, none⟩)) (hx : a.eval x = u) (hb : W.heap[g]? = some (.cells cs ty (0, 0))) (ht : (P.info? t).map (·.size) = some u.cells.toList.length)
  (hk : k + u.cells.toList.length ≤ cs.size) (h1 : u.cells.toList.all (·.oneCell') = true) (e : cs.toList.take k ++ u.cells.toList ++ cs.toList.drop (k + u.cells.toList.length) = cs'.toList)
  (h : ∀ w1, w1.heap[g]? = some (.cells cs' ty (0, 0)) → Only g W w1 → Kc a w1) : if Region.wanted o (yielded ops a.tmps) = true then Oper.wp P o a W Kc Q else Kc (a.put o.dst undef) W := by
 rw [if_pos hw]
 have hrun := run_store_run (P := P) t u u.cells.toList hb rfl ht hk (List.all_eq_true.1 h1)
 unfold Oper.wp execOp
 simp only [ho, hp, hx, Sem.run_bind, Sem.run_pure, Result.andThen_ok, hrun]
 show Kc (a.put o.dst undef) _
 rw [hN]
 obtain ⟨s1, s2, s3, s4⟩ := setCells_same g u.cells.toList k W
 refine h _ ?_ ⟨s1, s2, s3, s4, fun i hi => setCells_far _ _ i hi⟩
 obtain ⟨cur, q1, _, q3⟩ := setCells_row u.cells.toList k W cs hb hk
 rw [q1, Array.toList_inj.1 (q3.trans e)]
theorem gate_load {t : TypeId} {p : Operand} (N : Tmp) (_ho : o.op = .load t p) (_hN : o.dst = some N) {W : World} (h : wpList P ops Q (o :: rest) a W) : wpList P ops Q (o :: rest) a W := h
theorem gate_stored {t : TypeId} {p x : Operand} (_ho : o.op = .store t p x) {W : World} (h : wpList P ops Q (o :: rest) a W) : wpList P ops Q (o :: rest) a W := h
theorem gate_alloc {t : TypeId} (N : Tmp) (_ho : o.op = .alloc t) (_hN : o.dst = some N) {W : World} (h : wpList P ops Q (o :: rest) a W) : wpList P ops Q (o :: rest) a W := h
theorem gate_box {t : TypeId} {x : Operand} (N : Tmp) (_ho : o.op = .box t x) (_hN : o.dst = some N) {W : World} (h : wpList P ops Q (o :: rest) a W) : wpList P ops Q (o :: rest) a W := h
theorem gate_conv {src dst : TypeId} {x : Operand} (N : Tmp) (_ho : o.op = .convert src dst x) (_hN : o.dst = some N) {W : World} (h : wpList P ops Q (o :: rest) a W) : wpList P ops Q (o :: rest) a W := h
theorem loadf_ev {W : World} (hgd : o.guard = none) {t : TypeId} {x : Operand} (ho : o.op = .load t x) {g k : Nat} {cs : Array Value} {ty : TypeId} {d : TypeDesc} {v : Value}
  (hx : a.eval x = .pointer (some ⟨g, k, none⟩)) (hb : W.heap[g]? = some (.cells cs ty (0, 0))) (hv : cs[k]? = some v) (hu : P.underlying t = some d) (hd : d.isRow = false)
  (h : wpList P ops Q rest (a.put o.dst v) W) : wpList P ops Q (o :: rest) a W := by
 refine wpList_plain hgd fun K hK => ?_
 have hc : W.cell? ⟨g, k, none⟩ = some v := (blk_cell hb k).trans hv
 have hagg : (isAgg t).run P W = .ok false W := by
  unfold isAgg
  rw [Sem.run_bind, run_underlying hu W]
  cases d <;> simp_all
 unfold Oper.wp execOp
 simp [ho, hx, Instr.loadAt, Instr.sureAddr, loadVar, Sem.run_bind, hagg, hc]
 exact hK _ _ h
theorem bytes_ev {W : World} (hgd : o.guard = none) {src dst e : TypeId} {x : Operand} (ho : o.op = .convert src dst x) {s : ByteArray} (l : List Int) (hx : a.eval x = .string s) {u : TypeDesc}
  (hs : P.underlying src = some u) (hd : P.underlying dst = some (.slice e)) (he : P.underlying e = some (.int .u8)) (hl : s.size = l.length) (hb : bytesOf s = l) (hm : l.length ≤ 9223372036854775807)
  (h : ∀ g c, g = W.heap.size → l.length ≤ c → ∀ w1, ReadsInt w1 .u8 (some ⟨g, 0, none⟩) l.length l → g < w1.heap.size → Below W.heap.size W w1 → wpList P ops Q rest (a.put o.dst (.slice (some ⟨g, 0, none⟩) l.length c)) w1) : wpList P ops Q (o :: rest) a W := by
 refine wpList_plain hgd fun K hK => ?_
 have hrun := print_bytes (P := P) src dst e hs hd he s W
 have hr := bytes_reads W e s (by omega)
 rw [hl, hb] at hr
 rw [hl] at hrun
 unfold Oper.wp execOp
 simp only [ho, hx, Sem.run_bind, Sem.run_pure, Result.andThen_ok, hrun]
 exact hK _ _ (h _ _ rfl (grownCap_ge _ _ _ _) _ hr (by rw [Lib.bytesWorld_size]; omega) (bytes_below (Below.refl _ _) (Nat.le_refl _) e s))
end
end Go.Proofs.YtjjfkmniffbgkaaDoor

/- The reference of frames: wrongStream, short, fails, walked. -/
namespace Go.Proofs.YtjjfkmniffbgkaaDoor
set_option linter.unusedVariables false
set_option linter.unusedSimpArgs false
open Go.RowKit Go.Proofs.YtjjfkmniffbgkaaDoorW.PrintWords Go.Proofs.YtjjfkmniffbgkaaDoorW.PrintLast Go.Proofs.YtjjfkmniffbgkaaDoorW.PrintMore Go.Proofs.YtjjfkmniffbgkaaDoor.QFrmA Go.Proofs.YtjjfkmniffbgkaaDoor.Given Go.Extern.Stop Go.Stop Go.Extern Go.Maps
set_option maxHeartbeats 2000000 in
theorem rwrong_calls (w : World) (F : Fr) (D S : Value) : Calls Tryd.prog 56 #[.agg (frC F D S)] w fun e w' => e = .returned (.bool (stBad F.ty F.st)) ∧ Below w.heap.size w w' := by
 obtain ⟨ty, fl, st, data, pad, code, oth, wgt, al, win, sets⟩ := F
 refine of_post0 fun R hRR => ?_
 have HP := Lib.hid hRR
 clear hRR
 by_cases hA : ty = 0 ∨ ty = 1 ∨ ty = 2 ∨ ty = 3 ∨ ty = 5 ∨ ty = 9
 ·have HE := Lib.hid (stBad_a (st := st) hA)
  rcases hA with h | h | h | h | h | h
  all_goals
   subst h
   go_enter Tryd.func56, Tryd.ntmps56
   go_wp2_with fail
   refine HP.out _ _ ⟨?_, below_alloc (Below.refl _ _) _⟩
   rw [HE.out]
 ·by_cases hB : ty = 4 ∨ ty = 6 ∨ ty = 7
  ·have HE := Lib.hid (stBad_b (st := st) hB)
   clear hA
   rcases hB with h | h | h
   all_goals
    subst h
    go_enter Tryd.func56, Tryd.ntmps56
    go_wp2_with fail
    refine HP.out _ _ ⟨?_, below_alloc (Below.refl _ _) _⟩
    rw [HE.out]
  ·have HE := Lib.hid (show stBad ty st = false by unfold stBad; rw [if_neg hA, if_neg hB])
   have g0 : (ty == 0) = false := by rw [beq_eq_false_iff_ne]; omega
   have g1 : (ty == 1) = false := by rw [beq_eq_false_iff_ne]; omega
   have g2 : (ty == 2) = false := by rw [beq_eq_false_iff_ne]; omega
   have g3 : (ty == 3) = false := by rw [beq_eq_false_iff_ne]; omega
   have g4 : (ty == 4) = false := by rw [beq_eq_false_iff_ne]; omega
   have g5 : (ty == 5) = false := by rw [beq_eq_false_iff_ne]; omega
   have g6 : (ty == 6) = false := by rw [beq_eq_false_iff_ne]; omega
   have g7 : (ty == 7) = false := by rw [beq_eq_false_iff_ne]; omega
   have g9 : (ty == 9) = false := by rw [beq_eq_false_iff_ne]; omega
   clear hA hB
   go_enter Tryd.func56, Tryd.ntmps56
   go_wp2_with fail
   refine HP.out _ _ ⟨?_, below_alloc (Below.refl _ _) _⟩
   rw [HE.out]
def shortT (ty fl : Int) (n : Nat) : Bool :=
 if ty = 1 then (leansB 1 fl && decide (n < 5)) else if ty = 2 then decide (n ≠ 5) else if ty = 3 ∨ ty = 8 then decide (n ≠ 4)
 else if ty = 4 then (decide (n % 6 ≠ 0) || (decide (fl % 2 = 1) && decide (0 < n))) else if ty = 5 then decide (n < 4) else if ty = 6 then decide (n ≠ 8)
 else if ty = 7 then decide (n < 8) else false
theorem shortT_none {ty fl : Int} {n : Nat} (h1 : ty ≠ 1) (h2 : ty ≠ 2) (h3 : ty ≠ 3) (h4 : ty ≠ 4) (h5 : ty ≠ 5) (h6 : ty ≠ 6) (h7 : ty ≠ 7) (h8 : ty ≠ 8) : shortT ty fl n = false := by
 unfold shortT
 rw [if_neg h1, if_neg h2, if_neg (by omega), if_neg h4, if_neg h5, if_neg h6, if_neg h7]
theorem ne_nat (n k : Nat) : ((n : Int) != (k : Int)) = decide (n ≠ k) := by
 rw [Bool.eq_iff_iff, bne_iff_ne, decide_eq_true_iff]
 omega
set_option maxHeartbeats 4000000 in
theorem rshort_calls (w : World) (F : Fr) (D S : Value) (n : Nat) (h0 : 0 ≤ F.fl) (h1 : F.fl ≤ 255) : Calls Tryd.prog 57 #[.agg (frC F D S), .int .i64 n] w fun e w' => e = .returned (.bool (shortT F.ty F.fl n)) ∧ Below w.heap.size w w' := by
 obtain ⟨ty, fl, st, data, pad, code, oth, wgt, al, win, sets⟩ := F
 refine of_post0 fun R hRR => ?_
 have HP := Lib.hid hRR
 clear hRR
 dsimp only at h0 h1
 by_cases t1 : ty = 1
 ·subst t1
  have HL := Lib.hid (And.intro h0 h1)
  clear h0 h1
  cases hb : leansB 1 fl
  ·have HE := Lib.hid (show shortT 1 fl n = false by unfold shortT; rw [if_pos rfl, hb]; rfl)
   have HB := Lib.hid hb
   clear hb
   go_enter Tryd.func57, Tryd.ntmps57
   go_wp2_with fail
   refine (rleans_calls _ ⟨1, fl, st, data, pad, code, oth, wgt, al, win, sets⟩ D S HL.out.1 HL.out.2).mono ?_
   rintro e w1 ⟨rfl, hb1⟩
   dsimp only
   rw [HB.out]
   have HX := Lib.hid ((below_alloc (Below.refl w.heap.size w) _).trans (hb1.mono (by simp)))
   clear hb1
   go_wp2_with fail
   refine HP.out _ _ ⟨?_, HX.out⟩
   rw [HE.out]
   rfl
  ·have HE := Lib.hid (show shortT 1 fl n = decide ((n : Int) < 5) by unfold shortT; rw [if_pos rfl, hb]; simp only [Bool.true_and]; congr 1; exact propext ⟨fun h => by omega, fun h => by omega⟩)
   have HB := Lib.hid hb
   clear hb
   go_enter Tryd.func57, Tryd.ntmps57
   go_wp2_with fail
   refine (rleans_calls _ ⟨1, fl, st, data, pad, code, oth, wgt, al, win, sets⟩ D S HL.out.1 HL.out.2).mono ?_
   rintro e w1 ⟨rfl, hb1⟩
   dsimp only
   rw [HB.out]
   have HX := Lib.hid ((below_alloc (Below.refl w.heap.size w) _).trans (hb1.mono (by simp)))
   clear hb1
   go_wp2_with fail
   refine HP.out _ _ ⟨?_, HX.out⟩
   rw [HE.out]
   rfl
 by_cases t4 : ty = 4
 ·subst t4
  have e1 : ∀ b, decide (n % 6 ≠ 0) = b → ((n : Int).tmod 6 != 0) = b ∧ ((n : Int) % 6 != 0) = b := by
   intro b hb
   rw [Int.tmod_eq_emod_of_nonneg (by omega)]
   have : ((n : Int) % 6 != 0) = decide (n % 6 ≠ 0) := by rw [Bool.eq_iff_iff, bne_iff_ne, decide_eq_true_iff]; omega
   rw [this]
   exact ⟨hb, hb⟩
  have e2 : ∀ b, decide (fl % 2 = 1) = b → (fl.tmod 2 == 1) = b ∧ (fl % 2 == 1) = b := by
   intro b hb
   rw [Int.tmod_eq_emod_of_nonneg h0]
   have : (fl % 2 == 1) = decide (fl % 2 = 1) := by rw [Bool.eq_iff_iff, beq_iff_eq, decide_eq_true_iff]
   rw [this]
   exact ⟨hb, hb⟩
  have e3 : ∀ b, decide (0 < n) = b → decide ((0 : Int) < (n : Int)) = b := by
   intro b hb
   rw [← hb]
   congr 1
   exact propext ⟨fun h => by omega, fun h => by omega⟩
  cases hx : decide (n % 6 ≠ 0)
  ·obtain ⟨x1, x2⟩ := e1 _ hx
   cases hy : decide (fl % 2 = 1)
   ·obtain ⟨y1, y2⟩ := e2 _ hy
    have HE := Lib.hid (show shortT 4 fl n = false by unfold shortT; rw [if_neg (by decide), if_neg (by decide), if_neg (by decide), if_pos rfl, hx, hy]; rfl)
    clear e1 e2 e3 hx hy t1 h0 h1
    go_enter Tryd.func57, Tryd.ntmps57
    go_wp2_with fail
    refine HP.out _ _ ⟨?_, below_alloc (Below.refl _ _) _⟩
    rw [HE.out]
   ·obtain ⟨y1, y2⟩ := e2 _ hy
    cases hz : decide (0 < n)
    all_goals
     have z1 := e3 _ hz
     have HE := Lib.hid (show shortT 4 fl n = decide (0 < n) by unfold shortT; rw [if_neg (by decide), if_neg (by decide), if_neg (by decide), if_pos rfl, hx, hy]; rfl)
     have HZ := Lib.hid hz
     clear e1 e2 e3 hx hy t1 h0 h1 hz
     go_enter Tryd.func57, Tryd.ntmps57
     go_wp2_with fail
     refine HP.out _ _ ⟨?_, below_alloc (Below.refl _ _) _⟩
     rw [HE.out, HZ.out]
  ·obtain ⟨x1, x2⟩ := e1 _ hx
   have HE := Lib.hid (show shortT 4 fl n = true by unfold shortT; rw [if_neg (by decide), if_neg (by decide), if_neg (by decide), if_pos rfl, hx]; rfl)
   clear e1 e2 e3 hx t1 h0 h1
   go_enter Tryd.func57, Tryd.ntmps57
   go_wp2_with fail
   refine HP.out _ _ ⟨?_, below_alloc (Below.refl _ _) _⟩
   rw [HE.out]
 clear h0 h1
 by_cases hA : ty = 2 ∨ ty = 3 ∨ ty = 5 ∨ ty = 6 ∨ ty = 7 ∨ ty = 8
 ·clear t1 t4
  have l4 : decide (n < 4) = decide ((n : Int) < 4) := by congr 1; exact propext ⟨fun h => by omega, fun h => by omega⟩
  have l8 : decide (n < 8) = decide ((n : Int) < 8) := by congr 1; exact propext ⟨fun h => by omega, fun h => by omega⟩
  have LL := Lib.hid (And.intro l4 l8)
  clear l4 l8
  rcases hA with h | h | h | h | h | h
  all_goals
   subst h
   go_enter Tryd.func57, Tryd.ntmps57
   go_wp2_with fail
   refine HP.out _ _ ⟨?_, below_alloc (Below.refl _ _) _⟩
   unfold shortT
   simp only [show ¬ ((2 : Int) = 1) by decide, show ¬ ((3 : Int) = 1) by decide, show ¬ ((5 : Int) = 1) by decide, show ¬ ((6 : Int) = 1) by decide, show ¬ ((7 : Int) = 1) by decide, show ¬ ((8 : Int) = 1) by decide, show ¬ ((3 : Int) = 2) by decide, show ¬ ((5 : Int) = 2) by decide, show ¬ ((6 : Int) = 2) by decide, show ¬ ((7 : Int) = 2) by decide, show ¬ ((8 : Int) = 2) by decide, if_false, if_true, ← ne_nat, LL.out.1, LL.out.2]
   first | rfl | (simp; done)
 ·have HE := Lib.hid (shortT_none (fl := fl) (n := n) t1 (by omega) (by omega) t4 (by omega) (by omega) (by omega) (by omega) : shortT ty fl n = false)
  have g1 : (ty == 1) = false := by rw [beq_eq_false_iff_ne]; omega
  have g2 : (ty == 2) = false := by rw [beq_eq_false_iff_ne]; omega
  have g3 : (ty == 3) = false := by rw [beq_eq_false_iff_ne]; omega
  have g4 : (ty == 4) = false := by rw [beq_eq_false_iff_ne]; omega
  have g5 : (ty == 5) = false := by rw [beq_eq_false_iff_ne]; omega
  have g6 : (ty == 6) = false := by rw [beq_eq_false_iff_ne]; omega
  have g7 : (ty == 7) = false := by rw [beq_eq_false_iff_ne]; omega
  have g8 : (ty == 8) = false := by rw [beq_eq_false_iff_ne]; omega
  clear hA t1 t4
  go_enter Tryd.func57, Tryd.ntmps57
  go_wp2_with fail
  refine HP.out _ _ ⟨?_, below_alloc (Below.refl _ _) _⟩
  rw [HE.out]
abbrev fC (F : Fr) (D S : Value) (a b : Int) : Array Value := #[.int .u8 F.ty, .int .u8 F.fl, .int .u32 F.st, D, .int .i64 F.pad, .int .u32 F.code, .int .u32 F.oth, .int .u8 F.wgt, .bool F.al, .int .u32 F.win, S, .int .u8 a, .int .u32 b]
theorem fails_calls (w : World) (F : Fr) (A : Option Addr) (n m : Nat) (B : Option Addr) (p q : Nat) (a b s c : Int) : Calls Tryd.prog 54 #[.agg (fC F (.slice A n m) (.slice B p q) a b), .int .u8 s, .int .u32 c] w fun e w' => e = .returned (.agg (fC F (.slice A n m) (.slice B p q) s c)) ∧ Below w.heap.size w w' := by
 obtain ⟨ty, fl, st, data, pad, code, oth, wgt, al, win, sets⟩ := F
 refine of_post0 fun R hRR => ?_
 have HP := Lib.hid hRR
 clear hRR
 go_enter Tryd.func54, Tryd.ntmps54
 go_wp2_with (first
  | (refine gate_box 3 rfl rfl ?_; refine make_ev rfl (cs := fC ⟨ty, fl, st, data, pad, code, oth, wgt, al, win, sets⟩ (.slice A n m) (.slice B p q) a b) (t := 45) (by first | (go_simp; done) | (go_simp; rfl)) ?_; intro g3 hg3 w1 B3 z3 b3; have G3 := Aside0.mk hg3; have V3 := Aside0.mk b3; have K3 := Aside0.mk B3; have Z3 := Aside0.mk z3; clear hg3 b3 B3 z3)
  | (refine gate_alloc 6 rfl rfl ?_; refine make_ev rfl (cs := fC ⟨0, 0, 0, [], 0, 0, 0, 0, false, 0, []⟩ nilS nilS 0 0) (t := 45) (by first | (go_simp; done) | (go_simp; rfl)) ?_; intro g6 hg6 w2 B6 z6 b6; have L3 := Aside0.mk (blk_below K3.out b6); have V6 := Aside0.mk (V3.out.trans (b6.mono (by have := Z3.out; omega))); have N6 := Aside0.mk (show g3 ≠ g6 by have := G3.out; have := Z3.out; omega); have M6 := Aside0.mk (show w.heap.size ≤ g6 by have := Z3.out; omega); have K6 := Aside0.mk B6; clear hg6 b6 B6 z6)
  | (refine gate_stored (t := 5) rfl ?_; refine store_ev rfl rfl rfl (g := g3) (k := 11) (u := .int .u8 s) (cs' := fC ⟨ty, fl, st, data, pad, code, oth, wgt, al, win, sets⟩ (.slice A n m) (.slice B p q) s b) rfl rfl L3.out (by kernel_rfl) (Nat.le_of_ble_eq_true rfl) rfl rfl ?_; intro w3 b3' o3; have J3 := Aside0.mk b3'; have J6 := Aside0.mk (o3.blk K6.out N6.out.symm); have V7 := Aside0.mk (o3.below V6.out (by have := G3.out; omega)); clear b3' o3)
  | (refine gate_stored (t := 22) rfl ?_; refine store_ev rfl rfl rfl (g := g3) (k := 12) (u := .int .u32 c) (cs' := fC ⟨ty, fl, st, data, pad, code, oth, wgt, al, win, sets⟩ (.slice A n m) (.slice B p q) s c) rfl rfl J3.out (by kernel_rfl) (Nat.le_of_ble_eq_true rfl) rfl rfl ?_; intro w4 b4' o4; have Q3 := Aside0.mk b4'; have Q6 := Aside0.mk (o4.blk J6.out N6.out.symm); have V8 := Aside0.mk (o4.below V7.out (by have := G3.out; omega)); clear b4' o4)
  | (refine gate_load (t := 45) 11 rfl rfl ?_; refine load_ev rfl rfl rfl Q3.out Tryd.underlying45 rfl (by kernel_rfl) ?_)
  | (refine gate_stored (t := 45) rfl ?_; refine store_ev rfl rfl rfl (g := g6) (k := 0) (u := .agg (fC ⟨ty, fl, st, data, pad, code, oth, wgt, al, win, sets⟩ (.slice A n m) (.slice B p q) s c)) (cs' := fC ⟨ty, fl, st, data, pad, code, oth, wgt, al, win, sets⟩ (.slice A n m) (.slice B p q) s c) rfl rfl Q6.out ?a1 ?a2 ?a3 ?a4 ?_; (case a1 => kernel_rfl); (case a2 => exact Nat.le_of_ble_eq_true rfl); (case a3 => rfl); (case a4 => rfl); intro w5 b6' o5; have R6 := Aside0.mk b6'; have V9 := Aside0.mk (o5.below V8.out M6.out); clear b6' o5))
 refine bodyPost_ret (results_cell_row rfl _ _ g6 45 _ (0, 0) _ rfl R6.out Tryd.underlying45 rfl (by kernel_rfl)) rfl (HP.out _ _ ⟨rfl, V9.out⟩)

theorem run_index_str {l : List Int} (hb : Byte8 l) (i : Int) (h0 : 0 ≤ i) (h1 : i < (l.length : Int)) (W : World) :
  (Instr.index 9 (.string (strOfNums l)) (.int .i64 i)).run Tryd.prog W = .ok (.int .u8 (l.getD i.toNat 0)) W := by
 have hz := str_size l
 have hi : 0 ≤ i ∧ i < ((strOfNums l).size : Int) := by omega
 rw [run_index_string W 9 (strOfNums l) .i64 i Tryd.underlying9, dif_pos hi, Go.Proofs.YtjjfkmniffbgkaaDoorW.PrintWords.bt_at (strOfNums l) i, ← rd_bytesOf, bytes_str hb]
 rfl
theorem run_cut_str (l : List Int) (lo hi : Int) (h0 : 0 ≤ lo) (h1 : lo ≤ hi) (h2 : hi ≤ (l.length : Int)) (W : World) :
  (Instr.slice 9 (.string (strOfNums l)) (some (.int .i64 lo)) (some (.int .i64 hi)) none).run Tryd.prog W = .ok (.string (strOfNums ((l.take hi.toNat).drop lo.toNat))) W := by
 have hz := str_size l
 rw [run_slice_string W 9 (strOfNums l) .i64 .i64 lo hi Tryd.underlying9 h0 h1 (by omega), str_cut]
theorem run_from_str (l : List Int) (lo : Int) (h0 : 0 ≤ lo) (h1 : lo ≤ (l.length : Int)) (W : World) :
  (Instr.slice 9 (.string (strOfNums l)) (some (.int .i64 lo)) none none).run Tryd.prog W = .ok (.string (strOfNums (l.drop lo.toNat))) W := by
 have hz := str_size l
 rw [run_slice_string_from_if W 9 (strOfNums l) .i64 lo Tryd.underlying9, if_pos (by omega), str_drop]
theorem run_to_str (l : List Int) (hi : Int) (h0 : 0 ≤ hi) (h1 : hi ≤ (l.length : Int)) (W : World) :
  (Instr.slice 9 (.string (strOfNums l)) none (some (.int .i64 hi)) none).run Tryd.prog W = .ok (.string (strOfNums (l.take hi.toNat))) W := by
 have hz := str_size l
 rw [run_slice_string_to_if W 9 (strOfNums l) .i64 hi Tryd.underlying9, if_pos (by omega), str_cut, List.drop_zero]
def partsF (F : Fr) (b : List Int) : Fr :=
 if F.ty = 4 then { F with sets := parseS (b.length / 6) b } else if F.ty = 3 then { F with code := valL b } else if F.ty = 8 then { F with win := valL b % 2147483648 }
 else if F.ty = 7 then { F with code := valL ((b.drop 4).take 4), oth := valL (b.take 4) % 2147483648, data := b.drop 8 }
 else if F.ty = 5 then { F with oth := valL (b.take 4) % 2147483648, data := b.drop 4 }
 else if leansB F.ty F.fl = true then { leanF F b with data := b.drop 5 } else { F with data := b }
def FrCame (w : World) (F2 : Fr) (v : Array Value) (w' : World) : Prop :=
 ∃ A c B m, v = frC F2 (.slice A F2.data.length c) (.slice B F2.sets.length m) ∧ (ReadsInt w' .u8 A F2.data.length F2.data ∧ F2.data.length ≤ c ∧ ∀ a, A = some a → w.heap.size ≤ a.block) ∧
  (k99.C w' B F2.sets.length F2.sets ∧ F2.sets.length ≤ m ∧ ∀ a, B = some a → w.heap.size ≤ a.block)
def PartsPost (w : World) (F2 : Fr) (e : Ending) (w' : World) : Prop := (∃ v, e = .returned (.agg v) ∧ FrCame w F2 v w') ∧ Below w.heap.size w w'
abbrev fr0 (ty fl st pad : Int) : Fr := ⟨ty, fl, st, [], pad, 0, 0, 0, false, 0, []⟩
theorem no_sets (w : World) : k99.C w none 0 ([] : List S99) := ⟨rfl, by decide, fun h => absurd h (Nat.lt_irrefl 0)⟩
set_option maxHeartbeats 4000000 in
set_option maxRecDepth 100000 in
theorem parts_plain (w : World) (ty fl st pad : Int) (l : List Int) (h0 : 0 ≤ fl) (h1 : fl ≤ 255) (hby : Byte8 l) (hl : l.length ≤ 100000) (hb : leansB ty fl = false) (g3 : ty ≠ 3) (g4 : ty ≠ 4) (g5 : ty ≠ 5) (g7 : ty ≠ 7) (g8 : ty ≠ 8) :
  Calls Tryd.prog 58 #[.agg (frC (fr0 ty fl st pad) nilS nilS), .string (strOfNums l)] w (PartsPost w (partsF (fr0 ty fl st pad) l)) := by
 refine of_post0 fun R hRR => ?_
 have HP := Lib.hid hRR
 have HL := Lib.hid (And.intro h0 h1)
 clear hRR h0 h1
 have HE := Lib.hid (show partsF (fr0 ty fl st pad) l = ⟨ty, fl, st, l, pad, 0, 0, 0, false, 0, []⟩ by
  unfold partsF
  rw [if_neg g4, if_neg g3, if_neg g8, if_neg g7, if_neg g5, if_neg (by rw [hb]; decide)])
 have HB := Lib.hid hb
 have HS := Lib.hid (And.intro (str_size l) (And.intro (bytes_str hby) (show l.length ≤ 9223372036854775807 by omega)))
 have b3 : (ty == 3) = false := by rw [beq_eq_false_iff_ne]; exact g3
 have b4 : (ty == 4) = false := by rw [beq_eq_false_iff_ne]; exact g4
 have b5 : (ty == 5) = false := by rw [beq_eq_false_iff_ne]; exact g5
 have b7 : (ty == 7) = false := by rw [beq_eq_false_iff_ne]; exact g7
 have b8 : (ty == 8) = false := by rw [beq_eq_false_iff_ne]; exact g8
 clear hby hl hb g3 g4 g5 g7 g8
 generalize strOfNums l = s at HS ⊢
 have V := Aside0.mk (Below.refl w.heap.size w)
 go_enter Tryd.func58, Tryd.ntmps58
 go_wp2_with (first
  | (refine gate_box 2 rfl rfl ?_; refine make_ev rfl (cs := frC ⟨ty, fl, st, [], pad, 0, 0, 0, false, 0, []⟩ nilS nilS) (t := 38) (by first | (go_simp; done) | (go_simp; rfl)) ?_; intro gf hg_ w0_ k_ z_ b_; have Mf := Aside0.mk (show w.heap.size ≤ gf by rw [hg_]; exact V.out.size); have q0_ := Aside0.mk (V.out.trans (b_.mono V.out.size)); clear V; have V := q0_; clear q0_; have Kf := Aside0.mk k_; clear hg_ k_ z_ b_)
  | (refine gate_alloc 4 rfl rfl ?_; refine make_ev rfl (cs := frC ⟨0, 0, 0, [], 0, 0, 0, 0, false, 0, []⟩ nilS nilS) (t := 38) (by first | (go_simp; done) | (go_simp; rfl)) ?_; intro gr hg_ w1_ k_ z_ b_; have Nf_r := Aside0.mk (show gf ≠ gr by rw [hg_]; exact Nat.ne_of_lt (blk_lt Kf.out)); have Mr := Aside0.mk (show w.heap.size ≤ gr by rw [hg_]; exact V.out.size); have q0_ := Aside0.mk (blk_below Kf.out b_); have q1_ := Aside0.mk (V.out.trans (b_.mono V.out.size)); clear Kf; clear V; have Kf := q0_; have V := q1_; clear q0_ q1_; have Kr := Aside0.mk k_; clear hg_ k_ z_ b_)
  | (refine gate_load (t := 38) 7 rfl rfl ?_; refine load_ev rfl rfl rfl Kf.out Tryd.underlying38 rfl (by kernel_rfl) ?_)
  | (go_at_call 51; (with_reducible refine (rleans_calls _ ⟨ty, fl, st, [], pad, 0, 0, 0, false, 0, []⟩ nilS nilS HL.out.1 HL.out.2).mono ?_); rintro e_ w2_ ⟨rfl, h_⟩; have b_ := h_; have q0_ := Aside0.mk (blk_below Kf.out b_); have q1_ := Aside0.mk (blk_below Kr.out b_); have q2_ := Aside0.mk (V.out.trans (b_.mono V.out.size)); clear Kf; clear Kr; clear V; have Kf := q0_; have Kr := q1_; have V := q2_; clear q0_ q1_ q2_; clear b_ h_; dsimp only; rw [HB.out])
  | (refine gate_load (t := 5) 24 rfl rfl ?_; refine loadf_ev rfl rfl rfl Kf.out rfl Tryd.underlying5 rfl ?_)
  | (refine gate_conv 87 rfl rfl ?_; refine bytes_ev rfl rfl (l) rfl Tryd.underlying9 Tryd.underlying35 Tryd.underlying5 HS.out.1 HS.out.2.1 HS.out.2.2 ?_; intro gd cd hg_ hc_ w3_ r_ z_ b_; have Yd_f := Aside0.mk (show gd ≠ gf by rw [hg_]; exact (Nat.ne_of_lt (blk_lt Kf.out)).symm); have Yd_r := Aside0.mk (show gd ≠ gr by rw [hg_]; exact (Nat.ne_of_lt (blk_lt Kr.out)).symm); have Md := Aside0.mk (show w.heap.size ≤ gd by rw [hg_]; exact V.out.size); have Cd := Aside0.mk hc_; have q0_ := Aside0.mk (blk_below Kf.out b_); have q1_ := Aside0.mk (blk_below Kr.out b_); have q2_ := Aside0.mk (V.out.trans (b_.mono V.out.size)); clear Kf; clear Kr; clear V; have Kf := q0_; have Kr := q1_; have V := q2_; clear q0_ q1_ q2_; have Rd := Aside0.mk r_; clear hg_ hc_ r_ z_ b_)
  | (refine gate_stored (t := 35) (p := .tmp 88) rfl ?_; refine store_ev rfl rfl rfl (g := gf) (k := 3) (u := (.slice (some ⟨gd, 0, none⟩) (l).length cd)) (cs' := frC ⟨ty, fl, st, l, pad, 0, 0, 0, false, 0, []⟩ (.slice (some ⟨gd, 0, none⟩) (l).length cd) nilS) rfl rfl Kf.out (by kernel_rfl) (Nat.le_of_ble_eq_true rfl) rfl rfl ?_; intro w4_ k_ o_; have q0_ := Aside0.mk (o_.blk Kr.out Nf_r.out.symm); have q1_ := Aside0.mk (k_); have q2_ := Aside0.mk (o_.reads Rd.out (at_only Yd_f.out)); have q3_ := Aside0.mk (o_.below V.out Mf.out); clear Kr; clear Kf; clear Rd; clear V; have Kr := q0_; have Kf := q1_; have Rd := q2_; have V := q3_; clear q0_ q1_ q2_ q3_; clear k_ o_)
  | (refine gate_load (t := 38) 89 rfl rfl ?_; refine load_ev rfl rfl rfl Kf.out Tryd.underlying38 rfl (by kernel_rfl) ?_)
  | (refine gate_stored (t := 38) (p := .tmp 4) rfl ?_; refine store_ev rfl rfl rfl (g := gr) (k := 0) (u := (.agg (frC ⟨ty, fl, st, l, pad, 0, 0, 0, false, 0, []⟩ (.slice (some ⟨gd, 0, none⟩) (l).length cd) nilS))) (cs' := frC ⟨ty, fl, st, l, pad, 0, 0, 0, false, 0, []⟩ (.slice (some ⟨gd, 0, none⟩) (l).length cd) nilS) rfl rfl Kr.out (by kernel_rfl) (Nat.le_of_ble_eq_true rfl) rfl rfl ?_; intro w5_ k_ o_; have q0_ := Aside0.mk (o_.blk Kf.out Nf_r.out); have q1_ := Aside0.mk (k_); have q2_ := Aside0.mk (o_.reads Rd.out (at_only Yd_r.out)); have q3_ := Aside0.mk (o_.below V.out Mr.out); clear Kf; clear Kr; clear Rd; clear V; have Kf := q0_; have Kr := q1_; have Rd := q2_; have V := q3_; clear q0_ q1_ q2_ q3_; clear k_ o_))
 refine bodyPost_ret (results_cell_row rfl _ _ gr 38 _ (0, 0) _ rfl Kr.out Tryd.underlying38 rfl (by kernel_rfl)) rfl (HP.out _ _ ?_)
 rw [HE.out]
 exact ⟨⟨_, rfl, some ⟨gd, 0, none⟩, cd, none, 0, rfl, ⟨Rd.out, Cd.out, fun a h => by obtain rfl := Option.some.inj h; exact Md.out⟩, no_sets _, Nat.le_refl _, fun a h => by cases h⟩, V.out⟩
set_option maxHeartbeats 4000000 in
set_option maxRecDepth 100000 in
theorem parts_lean (w : World) (ty fl st pad : Int) (l : List Int) (h0 : 0 ≤ fl) (h1 : fl ≤ 255) (hby : Byte8 l) (hl : l.length ≤ 100000) (hb : leansB ty fl = true) (h5 : 5 ≤ l.length) :
  Calls Tryd.prog 58 #[.agg (frC (fr0 ty fl st pad) nilS nilS), .string (strOfNums l)] w (PartsPost w (partsF (fr0 ty fl st pad) l)) := by
 refine of_post0 fun R hRR => ?_
 have HP := Lib.hid hRR
 have HL := Lib.hid (And.intro h0 h1)
 clear hRR h0 h1
 have ht : ty = 1 ∨ ty = 2 := by
  unfold leansB at hb
  by_cases t2 : ty = 2
  ·exact .inr t2
  ·by_cases t1 : ty = 1
   ·exact .inl t1
   ·rw [if_neg t2, if_neg t1] at hb; cases hb
 have HE := Lib.hid (show partsF (fr0 ty fl st pad) l = ⟨ty, fl, st, l.drop 5, pad, 0, valL (l.take 4) % 2147483648, l.getD 4 0, decide (2147483648 ≤ valL (l.take 4)), 0, []⟩ by
  unfold partsF
  rw [if_neg (by show ¬ ty = 4; omega), if_neg (by show ¬ ty = 3; omega), if_neg (by show ¬ ty = 8; omega), if_neg (by show ¬ ty = 7; omega), if_neg (by show ¬ ty = 5; omega), if_pos (by exact hb)]
  rfl)
 have HB := Lib.hid hb
 have hl4 : (l.take 4).length = 4 := by rw [List.length_take]; omega
 have hb4 : Byte8 (l.take 4) := fun x hx => hby x (List.mem_of_mem_take hx)
 have hb5 : Byte8 (l.drop 5) := fun x hx => hby x (List.mem_of_mem_drop hx)
 have HS := Lib.hid (And.intro (str_size (l.drop 5)) (And.intro (bytes_str hb5) (show (l.drop 5).length ≤ 9223372036854775807 by rw [List.length_drop]; omega)))
 have f4 := fun W => run_to_str l 4 (by decide) (by omega) W
 have f5 := fun W => run_from_str l 5 (by decide) (by omega) W
 have i4 := fun W => run_index_str hby 4 (by decide) (by omega) W
 have HV := Lib.hid (fun W => value_ref_calls W (l.take 4) (by omega) hb4)
 have HV0 := Lib.hid (valL_bound hb4).1
 rw [show (4 : Int).toNat = 4 from rfl] at f4 i4
 rw [show (5 : Int).toNat = 5 from rfl] at f5
 clear hby hl hb hl4 hb4 hb5 h5
 generalize strOfNums l = s at f4 f5 i4 ⊢
 generalize valL (l.take 4) = v at HE HV HV0
 generalize strOfNums (l.take 4) = s4 at f4 HV
 generalize l.getD 4 0 = wt at HE i4
 generalize l.drop 5 = l5 at HE HS f5
 generalize strOfNums l5 = s5 at HS f5
 have V := Aside0.mk (Below.refl w.heap.size w)
 rcases ht with rfl | rfl
 ·go_enter Tryd.func58, Tryd.ntmps58
  go_wp2_with (first
   | (refine gate_box 2 rfl rfl ?_; refine make_ev rfl (cs := frC ⟨1, fl, st, [], pad, 0, 0, 0, false, 0, []⟩ nilS nilS) (t := 38) (by first | (go_simp; done) | (go_simp; rfl)) ?_; intro gf hg_ w0_ k_ z_ b_; have Mf := Aside0.mk (show w.heap.size ≤ gf by rw [hg_]; exact V.out.size); have q0_ := Aside0.mk (V.out.trans (b_.mono V.out.size)); clear V; have V := q0_; clear q0_; have Kf := Aside0.mk k_; clear hg_ k_ z_ b_)
   | (refine gate_alloc 4 rfl rfl ?_; refine make_ev rfl (cs := frC ⟨0, 0, 0, [], 0, 0, 0, 0, false, 0, []⟩ nilS nilS) (t := 38) (by first | (go_simp; done) | (go_simp; rfl)) ?_; intro gr hg_ w1_ k_ z_ b_; have Nf_r := Aside0.mk (show gf ≠ gr by rw [hg_]; exact Nat.ne_of_lt (blk_lt Kf.out)); have Mr := Aside0.mk (show w.heap.size ≤ gr by rw [hg_]; exact V.out.size); have q0_ := Aside0.mk (blk_below Kf.out b_); have q1_ := Aside0.mk (V.out.trans (b_.mono V.out.size)); clear Kf; clear V; have Kf := q0_; have V := q1_; clear q0_ q1_; have Kr := Aside0.mk k_; clear hg_ k_ z_ b_)
   | (refine gate_load (t := 38) 7 rfl rfl ?_; refine load_ev rfl rfl rfl Kf.out Tryd.underlying38 rfl (by kernel_rfl) ?_)
   | (go_at_call 51; (with_reducible refine (rleans_calls _ ⟨1, fl, st, [], pad, 0, 0, 0, false, 0, []⟩ nilS nilS HL.out.1 HL.out.2).mono ?_); rintro e_ w2_ ⟨rfl, h_⟩; have b_ := h_; have q0_ := Aside0.mk (blk_below Kf.out b_); have q1_ := Aside0.mk (blk_below Kr.out b_); have q2_ := Aside0.mk (V.out.trans (b_.mono V.out.size)); clear Kf; clear Kr; clear V; have Kf := q0_; have Kr := q1_; have V := q2_; clear q0_ q1_ q2_; clear b_ h_; dsimp only; rw [HB.out])
   | (refine gate_load (t := 5) 24 rfl rfl ?_; refine loadf_ev rfl rfl rfl Kf.out rfl Tryd.underlying5 rfl ?_)
   | (go_at_call 29; (with_reducible refine (HV.out _).mono ?_); rintro e_ w3_ ⟨rfl, h_⟩; have b_ := h_.below; have q0_ := Aside0.mk (blk_below Kf.out b_); have q1_ := Aside0.mk (blk_below Kr.out b_); have q2_ := Aside0.mk (V.out.trans (b_.mono V.out.size)); clear Kf; clear Kr; clear V; have Kf := q0_; have Kr := q1_; have V := q2_; clear q0_ q1_ q2_; clear b_ h_)
   | (refine gate_stored (t := 4) (p := .tmp 14) rfl ?_; refine store_ev rfl rfl rfl (g := gf) (k := 8) (u := (.bool (decide (2147483648 ≤ v)))) (cs' := frC ⟨1, fl, st, [], pad, 0, 0, 0, (decide (2147483648 ≤ v)), 0, []⟩ nilS nilS) rfl rfl Kf.out (by kernel_rfl) (Nat.le_of_ble_eq_true rfl) rfl rfl ?_; intro w4_ k_ o_; have q0_ := Aside0.mk (o_.blk Kr.out Nf_r.out.symm); have q1_ := Aside0.mk (k_); have q2_ := Aside0.mk (o_.below V.out Mf.out); clear Kr; clear Kf; clear V; have Kr := q0_; have Kf := q1_; have V := q2_; clear q0_ q1_ q2_; clear k_ o_)
   | (go_at_call 55; (with_reducible refine (rlow_calls _ v HV0.out).mono ?_); rintro e_ w5_ ⟨rfl, h_⟩; have b_ := h_.below; have q0_ := Aside0.mk (blk_below Kf.out b_); have q1_ := Aside0.mk (blk_below Kr.out b_); have q2_ := Aside0.mk (V.out.trans (b_.mono V.out.size)); clear Kf; clear Kr; clear V; have Kf := q0_; have Kr := q1_; have V := q2_; clear q0_ q1_ q2_; clear b_ h_)
   | (refine gate_stored (t := 22) (p := .tmp 17) rfl ?_; refine store_ev rfl rfl rfl (g := gf) (k := 6) (u := (.int .u32 (v % 2147483648))) (cs' := frC ⟨1, fl, st, [], pad, 0, (v % 2147483648), 0, (decide (2147483648 ≤ v)), 0, []⟩ nilS nilS) rfl rfl Kf.out (by kernel_rfl) (Nat.le_of_ble_eq_true rfl) rfl rfl ?_; intro w6_ k_ o_; have q0_ := Aside0.mk (o_.blk Kr.out Nf_r.out.symm); have q1_ := Aside0.mk (k_); have q2_ := Aside0.mk (o_.below V.out Mf.out); clear Kr; clear Kf; clear V; have Kr := q0_; have Kf := q1_; have V := q2_; clear q0_ q1_ q2_; clear k_ o_)
   | (refine gate_stored (t := 5) (p := .tmp 20) rfl ?_; refine store_ev rfl rfl rfl (g := gf) (k := 7) (u := (.int .u8 wt)) (cs' := frC ⟨1, fl, st, [], pad, 0, (v % 2147483648), wt, (decide (2147483648 ≤ v)), 0, []⟩ nilS nilS) rfl rfl Kf.out (by kernel_rfl) (Nat.le_of_ble_eq_true rfl) rfl rfl ?_; intro w7_ k_ o_; have q0_ := Aside0.mk (o_.blk Kr.out Nf_r.out.symm); have q1_ := Aside0.mk (k_); have q2_ := Aside0.mk (o_.below V.out Mf.out); clear Kr; clear Kf; clear V; have Kr := q0_; have Kf := q1_; have V := q2_; clear q0_ q1_ q2_; clear k_ o_)
   | (refine gate_conv 87 rfl rfl ?_; refine bytes_ev rfl rfl (l5) rfl Tryd.underlying9 Tryd.underlying35 Tryd.underlying5 HS.out.1 HS.out.2.1 HS.out.2.2 ?_; intro gd cd hg_ hc_ w8_ r_ z_ b_; have Yd_f := Aside0.mk (show gd ≠ gf by rw [hg_]; exact (Nat.ne_of_lt (blk_lt Kf.out)).symm); have Yd_r := Aside0.mk (show gd ≠ gr by rw [hg_]; exact (Nat.ne_of_lt (blk_lt Kr.out)).symm); have Md := Aside0.mk (show w.heap.size ≤ gd by rw [hg_]; exact V.out.size); have Cd := Aside0.mk hc_; have q0_ := Aside0.mk (blk_below Kf.out b_); have q1_ := Aside0.mk (blk_below Kr.out b_); have q2_ := Aside0.mk (V.out.trans (b_.mono V.out.size)); clear Kf; clear Kr; clear V; have Kf := q0_; have Kr := q1_; have V := q2_; clear q0_ q1_ q2_; have Rd := Aside0.mk r_; clear hg_ hc_ r_ z_ b_)
   | (refine gate_stored (t := 35) (p := .tmp 88) rfl ?_; refine store_ev rfl rfl rfl (g := gf) (k := 3) (u := (.slice (some ⟨gd, 0, none⟩) (l5).length cd)) (cs' := frC ⟨1, fl, st, l5, pad, 0, (v % 2147483648), wt, (decide (2147483648 ≤ v)), 0, []⟩ (.slice (some ⟨gd, 0, none⟩) (l5).length cd) nilS) rfl rfl Kf.out (by kernel_rfl) (Nat.le_of_ble_eq_true rfl) rfl rfl ?_; intro w9_ k_ o_; have q0_ := Aside0.mk (o_.blk Kr.out Nf_r.out.symm); have q1_ := Aside0.mk (k_); have q2_ := Aside0.mk (o_.reads Rd.out (at_only Yd_f.out)); have q3_ := Aside0.mk (o_.below V.out Mf.out); clear Kr; clear Kf; clear Rd; clear V; have Kr := q0_; have Kf := q1_; have Rd := q2_; have V := q3_; clear q0_ q1_ q2_ q3_; clear k_ o_)
   | (refine gate_load (t := 38) 89 rfl rfl ?_; refine load_ev rfl rfl rfl Kf.out Tryd.underlying38 rfl (by kernel_rfl) ?_)
   | (refine gate_stored (t := 38) (p := .tmp 4) rfl ?_; refine store_ev rfl rfl rfl (g := gr) (k := 0) (u := (.agg (frC ⟨1, fl, st, l5, pad, 0, (v % 2147483648), wt, (decide (2147483648 ≤ v)), 0, []⟩ (.slice (some ⟨gd, 0, none⟩) (l5).length cd) nilS))) (cs' := frC ⟨1, fl, st, l5, pad, 0, (v % 2147483648), wt, (decide (2147483648 ≤ v)), 0, []⟩ (.slice (some ⟨gd, 0, none⟩) (l5).length cd) nilS) rfl rfl Kr.out (by kernel_rfl) (Nat.le_of_ble_eq_true rfl) rfl rfl ?_; intro w10_ k_ o_; have q0_ := Aside0.mk (o_.blk Kf.out Nf_r.out); have q1_ := Aside0.mk (k_); have q2_ := Aside0.mk (o_.reads Rd.out (at_only Yd_r.out)); have q3_ := Aside0.mk (o_.below V.out Mr.out); clear Kf; clear Kr; clear Rd; clear V; have Kf := q0_; have Kr := q1_; have Rd := q2_; have V := q3_; clear q0_ q1_ q2_ q3_; clear k_ o_))
  refine bodyPost_ret (results_cell_row rfl _ _ gr 38 _ (0, 0) _ rfl Kr.out Tryd.underlying38 rfl (by kernel_rfl)) rfl (HP.out _ _ ?_)
  rw [HE.out]
  exact ⟨⟨_, rfl, some ⟨gd, 0, none⟩, cd, none, 0, rfl, ⟨Rd.out, Cd.out, fun a h => by obtain rfl := Option.some.inj h; exact Md.out⟩, no_sets _, Nat.le_refl _, fun a h => by cases h⟩, V.out⟩
 ·go_enter Tryd.func58, Tryd.ntmps58
  go_wp2_with (first
   | (refine gate_box 2 rfl rfl ?_; refine make_ev rfl (cs := frC ⟨2, fl, st, [], pad, 0, 0, 0, false, 0, []⟩ nilS nilS) (t := 38) (by first | (go_simp; done) | (go_simp; rfl)) ?_; intro gf hg_ w0_ k_ z_ b_; have Mf := Aside0.mk (show w.heap.size ≤ gf by rw [hg_]; exact V.out.size); have q0_ := Aside0.mk (V.out.trans (b_.mono V.out.size)); clear V; have V := q0_; clear q0_; have Kf := Aside0.mk k_; clear hg_ k_ z_ b_)
   | (refine gate_alloc 4 rfl rfl ?_; refine make_ev rfl (cs := frC ⟨0, 0, 0, [], 0, 0, 0, 0, false, 0, []⟩ nilS nilS) (t := 38) (by first | (go_simp; done) | (go_simp; rfl)) ?_; intro gr hg_ w1_ k_ z_ b_; have Nf_r := Aside0.mk (show gf ≠ gr by rw [hg_]; exact Nat.ne_of_lt (blk_lt Kf.out)); have Mr := Aside0.mk (show w.heap.size ≤ gr by rw [hg_]; exact V.out.size); have q0_ := Aside0.mk (blk_below Kf.out b_); have q1_ := Aside0.mk (V.out.trans (b_.mono V.out.size)); clear Kf; clear V; have Kf := q0_; have V := q1_; clear q0_ q1_; have Kr := Aside0.mk k_; clear hg_ k_ z_ b_)
   | (refine gate_load (t := 38) 7 rfl rfl ?_; refine load_ev rfl rfl rfl Kf.out Tryd.underlying38 rfl (by kernel_rfl) ?_)
   | (go_at_call 51; (with_reducible refine (rleans_calls _ ⟨2, fl, st, [], pad, 0, 0, 0, false, 0, []⟩ nilS nilS HL.out.1 HL.out.2).mono ?_); rintro e_ w2_ ⟨rfl, h_⟩; have b_ := h_; have q0_ := Aside0.mk (blk_below Kf.out b_); have q1_ := Aside0.mk (blk_below Kr.out b_); have q2_ := Aside0.mk (V.out.trans (b_.mono V.out.size)); clear Kf; clear Kr; clear V; have Kf := q0_; have Kr := q1_; have V := q2_; clear q0_ q1_ q2_; clear b_ h_; dsimp only; rw [HB.out])
   | (refine gate_load (t := 5) 24 rfl rfl ?_; refine loadf_ev rfl rfl rfl Kf.out rfl Tryd.underlying5 rfl ?_)
   | (go_at_call 29; (with_reducible refine (HV.out _).mono ?_); rintro e_ w3_ ⟨rfl, h_⟩; have b_ := h_.below; have q0_ := Aside0.mk (blk_below Kf.out b_); have q1_ := Aside0.mk (blk_below Kr.out b_); have q2_ := Aside0.mk (V.out.trans (b_.mono V.out.size)); clear Kf; clear Kr; clear V; have Kf := q0_; have Kr := q1_; have V := q2_; clear q0_ q1_ q2_; clear b_ h_)
   | (refine gate_stored (t := 4) (p := .tmp 14) rfl ?_; refine store_ev rfl rfl rfl (g := gf) (k := 8) (u := (.bool (decide (2147483648 ≤ v)))) (cs' := frC ⟨2, fl, st, [], pad, 0, 0, 0, (decide (2147483648 ≤ v)), 0, []⟩ nilS nilS) rfl rfl Kf.out (by kernel_rfl) (Nat.le_of_ble_eq_true rfl) rfl rfl ?_; intro w4_ k_ o_; have q0_ := Aside0.mk (o_.blk Kr.out Nf_r.out.symm); have q1_ := Aside0.mk (k_); have q2_ := Aside0.mk (o_.below V.out Mf.out); clear Kr; clear Kf; clear V; have Kr := q0_; have Kf := q1_; have V := q2_; clear q0_ q1_ q2_; clear k_ o_)
   | (go_at_call 55; (with_reducible refine (rlow_calls _ v HV0.out).mono ?_); rintro e_ w5_ ⟨rfl, h_⟩; have b_ := h_.below; have q0_ := Aside0.mk (blk_below Kf.out b_); have q1_ := Aside0.mk (blk_below Kr.out b_); have q2_ := Aside0.mk (V.out.trans (b_.mono V.out.size)); clear Kf; clear Kr; clear V; have Kf := q0_; have Kr := q1_; have V := q2_; clear q0_ q1_ q2_; clear b_ h_)
   | (refine gate_stored (t := 22) (p := .tmp 17) rfl ?_; refine store_ev rfl rfl rfl (g := gf) (k := 6) (u := (.int .u32 (v % 2147483648))) (cs' := frC ⟨2, fl, st, [], pad, 0, (v % 2147483648), 0, (decide (2147483648 ≤ v)), 0, []⟩ nilS nilS) rfl rfl Kf.out (by kernel_rfl) (Nat.le_of_ble_eq_true rfl) rfl rfl ?_; intro w6_ k_ o_; have q0_ := Aside0.mk (o_.blk Kr.out Nf_r.out.symm); have q1_ := Aside0.mk (k_); have q2_ := Aside0.mk (o_.below V.out Mf.out); clear Kr; clear Kf; clear V; have Kr := q0_; have Kf := q1_; have V := q2_; clear q0_ q1_ q2_; clear k_ o_)
   | (refine gate_stored (t := 5) (p := .tmp 20) rfl ?_; refine store_ev rfl rfl rfl (g := gf) (k := 7) (u := (.int .u8 wt)) (cs' := frC ⟨2, fl, st, [], pad, 0, (v % 2147483648), wt, (decide (2147483648 ≤ v)), 0, []⟩ nilS nilS) rfl rfl Kf.out (by kernel_rfl) (Nat.le_of_ble_eq_true rfl) rfl rfl ?_; intro w7_ k_ o_; have q0_ := Aside0.mk (o_.blk Kr.out Nf_r.out.symm); have q1_ := Aside0.mk (k_); have q2_ := Aside0.mk (o_.below V.out Mf.out); clear Kr; clear Kf; clear V; have Kr := q0_; have Kf := q1_; have V := q2_; clear q0_ q1_ q2_; clear k_ o_)
   | (refine gate_conv 87 rfl rfl ?_; refine bytes_ev rfl rfl (l5) rfl Tryd.underlying9 Tryd.underlying35 Tryd.underlying5 HS.out.1 HS.out.2.1 HS.out.2.2 ?_; intro gd cd hg_ hc_ w8_ r_ z_ b_; have Yd_f := Aside0.mk (show gd ≠ gf by rw [hg_]; exact (Nat.ne_of_lt (blk_lt Kf.out)).symm); have Yd_r := Aside0.mk (show gd ≠ gr by rw [hg_]; exact (Nat.ne_of_lt (blk_lt Kr.out)).symm); have Md := Aside0.mk (show w.heap.size ≤ gd by rw [hg_]; exact V.out.size); have Cd := Aside0.mk hc_; have q0_ := Aside0.mk (blk_below Kf.out b_); have q1_ := Aside0.mk (blk_below Kr.out b_); have q2_ := Aside0.mk (V.out.trans (b_.mono V.out.size)); clear Kf; clear Kr; clear V; have Kf := q0_; have Kr := q1_; have V := q2_; clear q0_ q1_ q2_; have Rd := Aside0.mk r_; clear hg_ hc_ r_ z_ b_)
   | (refine gate_stored (t := 35) (p := .tmp 88) rfl ?_; refine store_ev rfl rfl rfl (g := gf) (k := 3) (u := (.slice (some ⟨gd, 0, none⟩) (l5).length cd)) (cs' := frC ⟨2, fl, st, l5, pad, 0, (v % 2147483648), wt, (decide (2147483648 ≤ v)), 0, []⟩ (.slice (some ⟨gd, 0, none⟩) (l5).length cd) nilS) rfl rfl Kf.out (by kernel_rfl) (Nat.le_of_ble_eq_true rfl) rfl rfl ?_; intro w9_ k_ o_; have q0_ := Aside0.mk (o_.blk Kr.out Nf_r.out.symm); have q1_ := Aside0.mk (k_); have q2_ := Aside0.mk (o_.reads Rd.out (at_only Yd_f.out)); have q3_ := Aside0.mk (o_.below V.out Mf.out); clear Kr; clear Kf; clear Rd; clear V; have Kr := q0_; have Kf := q1_; have Rd := q2_; have V := q3_; clear q0_ q1_ q2_ q3_; clear k_ o_)
   | (refine gate_load (t := 38) 89 rfl rfl ?_; refine load_ev rfl rfl rfl Kf.out Tryd.underlying38 rfl (by kernel_rfl) ?_)
   | (refine gate_stored (t := 38) (p := .tmp 4) rfl ?_; refine store_ev rfl rfl rfl (g := gr) (k := 0) (u := (.agg (frC ⟨2, fl, st, l5, pad, 0, (v % 2147483648), wt, (decide (2147483648 ≤ v)), 0, []⟩ (.slice (some ⟨gd, 0, none⟩) (l5).length cd) nilS))) (cs' := frC ⟨2, fl, st, l5, pad, 0, (v % 2147483648), wt, (decide (2147483648 ≤ v)), 0, []⟩ (.slice (some ⟨gd, 0, none⟩) (l5).length cd) nilS) rfl rfl Kr.out (by kernel_rfl) (Nat.le_of_ble_eq_true rfl) rfl rfl ?_; intro w10_ k_ o_; have q0_ := Aside0.mk (o_.blk Kf.out Nf_r.out); have q1_ := Aside0.mk (k_); have q2_ := Aside0.mk (o_.reads Rd.out (at_only Yd_r.out)); have q3_ := Aside0.mk (o_.below V.out Mr.out); clear Kf; clear Kr; clear Rd; clear V; have Kf := q0_; have Kr := q1_; have Rd := q2_; have V := q3_; clear q0_ q1_ q2_ q3_; clear k_ o_))
  refine bodyPost_ret (results_cell_row rfl _ _ gr 38 _ (0, 0) _ rfl Kr.out Tryd.underlying38 rfl (by kernel_rfl)) rfl (HP.out _ _ ?_)
  rw [HE.out]
  exact ⟨⟨_, rfl, some ⟨gd, 0, none⟩, cd, none, 0, rfl, ⟨Rd.out, Cd.out, fun a h => by obtain rfl := Option.some.inj h; exact Md.out⟩, no_sets _, Nat.le_refl _, fun a h => by cases h⟩, V.out⟩
set_option maxHeartbeats 4000000 in
set_option maxRecDepth 100000 in
theorem parts_3 (w : World) (fl st pad : Int) (l : List Int) (h0 : 0 ≤ fl) (h1 : fl ≤ 255) (hby : Byte8 l) (hl : l.length ≤ 100000) (hn : l.length = 4) :
  Calls Tryd.prog 58 #[.agg (frC (fr0 3 fl st pad) nilS nilS), .string (strOfNums l)] w (PartsPost w (partsF (fr0 3 fl st pad) l)) := by
 refine of_post0 fun R hRR => ?_
 have HP := Lib.hid hRR
 have HL := Lib.hid (And.intro h0 h1)
 clear hRR h0 h1
 have HE := Lib.hid (show partsF (fr0 3 fl st pad) l = ⟨3, fl, st, [], pad, valL l, 0, 0, false, 0, []⟩ from rfl)
 have HB := Lib.hid (show leansB 3 fl = false from rfl)
 have HS := Lib.hid (And.intro (show (⟨#[]⟩ : ByteArray).size = ([] : List Int).length from rfl) (And.intro (show bytesOf (⟨#[]⟩ : ByteArray) = [] from rfl) (show ([] : List Int).length ≤ 9223372036854775807 by decide)))
 have HV := Lib.hid (fun W => value_ref_calls W l (by omega) hby)
 have HV0 := Lib.hid (valL_bound hby).1
 clear hby hl hn
 generalize strOfNums l = s at HV ⊢
 generalize valL l = v at HE HV HV0
 have V := Aside0.mk (Below.refl w.heap.size w)
 go_enter Tryd.func58, Tryd.ntmps58
 go_wp2_with (first
  | (refine gate_box 2 rfl rfl ?_; refine make_ev rfl (cs := frC ⟨3, fl, st, [], pad, 0, 0, 0, false, 0, []⟩ nilS nilS) (t := 38) (by first | (go_simp; done) | (go_simp; rfl)) ?_; intro gf hg_ w0_ k_ z_ b_; have Mf := Aside0.mk (show w.heap.size ≤ gf by rw [hg_]; exact V.out.size); have q0_ := Aside0.mk (V.out.trans (b_.mono V.out.size)); clear V; have V := q0_; clear q0_; have Kf := Aside0.mk k_; clear hg_ k_ z_ b_)
  | (refine gate_alloc 4 rfl rfl ?_; refine make_ev rfl (cs := frC ⟨0, 0, 0, [], 0, 0, 0, 0, false, 0, []⟩ nilS nilS) (t := 38) (by first | (go_simp; done) | (go_simp; rfl)) ?_; intro gr hg_ w1_ k_ z_ b_; have Nf_r := Aside0.mk (show gf ≠ gr by rw [hg_]; exact Nat.ne_of_lt (blk_lt Kf.out)); have Mr := Aside0.mk (show w.heap.size ≤ gr by rw [hg_]; exact V.out.size); have q0_ := Aside0.mk (blk_below Kf.out b_); have q1_ := Aside0.mk (V.out.trans (b_.mono V.out.size)); clear Kf; clear V; have Kf := q0_; have V := q1_; clear q0_ q1_; have Kr := Aside0.mk k_; clear hg_ k_ z_ b_)
  | (refine gate_load (t := 38) 7 rfl rfl ?_; refine load_ev rfl rfl rfl Kf.out Tryd.underlying38 rfl (by kernel_rfl) ?_)
  | (go_at_call 51; (with_reducible refine (rleans_calls _ ⟨3, fl, st, [], pad, 0, 0, 0, false, 0, []⟩ nilS nilS HL.out.1 HL.out.2).mono ?_); rintro e_ w2_ ⟨rfl, h_⟩; have b_ := h_; have q0_ := Aside0.mk (blk_below Kf.out b_); have q1_ := Aside0.mk (blk_below Kr.out b_); have q2_ := Aside0.mk (V.out.trans (b_.mono V.out.size)); clear Kf; clear Kr; clear V; have Kf := q0_; have Kr := q1_; have V := q2_; clear q0_ q1_ q2_; clear b_ h_; dsimp only; rw [HB.out])
  | (refine gate_load (t := 5) 24 rfl rfl ?_; refine loadf_ev rfl rfl rfl Kf.out rfl Tryd.underlying5 rfl ?_)
  | (go_at_call 29; (with_reducible refine (HV.out _).mono ?_); rintro e_ w3_ ⟨rfl, h_⟩; have b_ := h_.below; have q0_ := Aside0.mk (blk_below Kf.out b_); have q1_ := Aside0.mk (blk_below Kr.out b_); have q2_ := Aside0.mk (V.out.trans (b_.mono V.out.size)); clear Kf; clear Kr; clear V; have Kf := q0_; have Kr := q1_; have V := q2_; clear q0_ q1_ q2_; clear b_ h_)
  | (refine gate_stored (t := 22) (p := .tmp 29) rfl ?_; refine store_ev rfl rfl rfl (g := gf) (k := 5) (u := (.int .u32 v)) (cs' := frC ⟨3, fl, st, [], pad, v, 0, 0, false, 0, []⟩ nilS nilS) rfl rfl Kf.out (by kernel_rfl) (Nat.le_of_ble_eq_true rfl) rfl rfl ?_; intro w4_ k_ o_; have q0_ := Aside0.mk (o_.blk Kr.out Nf_r.out.symm); have q1_ := Aside0.mk (k_); have q2_ := Aside0.mk (o_.below V.out Mf.out); clear Kr; clear Kf; clear V; have Kr := q0_; have Kf := q1_; have V := q2_; clear q0_ q1_ q2_; clear k_ o_)
  | (refine gate_conv 87 rfl rfl ?_; refine bytes_ev rfl rfl (([] : List Int)) rfl Tryd.underlying9 Tryd.underlying35 Tryd.underlying5 HS.out.1 HS.out.2.1 HS.out.2.2 ?_; intro gd cd hg_ hc_ w5_ r_ z_ b_; have Yd_f := Aside0.mk (show gd ≠ gf by rw [hg_]; exact (Nat.ne_of_lt (blk_lt Kf.out)).symm); have Yd_r := Aside0.mk (show gd ≠ gr by rw [hg_]; exact (Nat.ne_of_lt (blk_lt Kr.out)).symm); have Md := Aside0.mk (show w.heap.size ≤ gd by rw [hg_]; exact V.out.size); have Cd := Aside0.mk hc_; have q0_ := Aside0.mk (blk_below Kf.out b_); have q1_ := Aside0.mk (blk_below Kr.out b_); have q2_ := Aside0.mk (V.out.trans (b_.mono V.out.size)); clear Kf; clear Kr; clear V; have Kf := q0_; have Kr := q1_; have V := q2_; clear q0_ q1_ q2_; have Rd := Aside0.mk r_; clear hg_ hc_ r_ z_ b_)
  | (refine gate_stored (t := 35) (p := .tmp 88) rfl ?_; refine store_ev rfl rfl rfl (g := gf) (k := 3) (u := (.slice (some ⟨gd, 0, none⟩) (([] : List Int)).length cd)) (cs' := frC ⟨3, fl, st, ([] : List Int), pad, v, 0, 0, false, 0, []⟩ (.slice (some ⟨gd, 0, none⟩) (([] : List Int)).length cd) nilS) rfl rfl Kf.out (by kernel_rfl) (Nat.le_of_ble_eq_true rfl) rfl rfl ?_; intro w6_ k_ o_; have q0_ := Aside0.mk (o_.blk Kr.out Nf_r.out.symm); have q1_ := Aside0.mk (k_); have q2_ := Aside0.mk (o_.reads Rd.out (at_only Yd_f.out)); have q3_ := Aside0.mk (o_.below V.out Mf.out); clear Kr; clear Kf; clear Rd; clear V; have Kr := q0_; have Kf := q1_; have Rd := q2_; have V := q3_; clear q0_ q1_ q2_ q3_; clear k_ o_)
  | (refine gate_load (t := 38) 89 rfl rfl ?_; refine load_ev rfl rfl rfl Kf.out Tryd.underlying38 rfl (by kernel_rfl) ?_)
  | (refine gate_stored (t := 38) (p := .tmp 4) rfl ?_; refine store_ev rfl rfl rfl (g := gr) (k := 0) (u := (.agg (frC ⟨3, fl, st, ([] : List Int), pad, v, 0, 0, false, 0, []⟩ (.slice (some ⟨gd, 0, none⟩) (([] : List Int)).length cd) nilS))) (cs' := frC ⟨3, fl, st, ([] : List Int), pad, v, 0, 0, false, 0, []⟩ (.slice (some ⟨gd, 0, none⟩) (([] : List Int)).length cd) nilS) rfl rfl Kr.out (by kernel_rfl) (Nat.le_of_ble_eq_true rfl) rfl rfl ?_; intro w7_ k_ o_; have q0_ := Aside0.mk (o_.blk Kf.out Nf_r.out); have q1_ := Aside0.mk (k_); have q2_ := Aside0.mk (o_.reads Rd.out (at_only Yd_r.out)); have q3_ := Aside0.mk (o_.below V.out Mr.out); clear Kf; clear Kr; clear Rd; clear V; have Kf := q0_; have Kr := q1_; have Rd := q2_; have V := q3_; clear q0_ q1_ q2_ q3_; clear k_ o_))
 refine bodyPost_ret (results_cell_row rfl _ _ gr 38 _ (0, 0) _ rfl Kr.out Tryd.underlying38 rfl (by kernel_rfl)) rfl (HP.out _ _ ?_)
 rw [HE.out]
 exact ⟨⟨_, rfl, some ⟨gd, 0, none⟩, cd, none, 0, rfl, ⟨Rd.out, Cd.out, fun a h => by obtain rfl := Option.some.inj h; exact Md.out⟩, no_sets _, Nat.le_refl _, fun a h => by cases h⟩, V.out⟩
set_option maxHeartbeats 4000000 in
set_option maxRecDepth 100000 in
theorem parts_8 (w : World) (fl st pad : Int) (l : List Int) (h0 : 0 ≤ fl) (h1 : fl ≤ 255) (hby : Byte8 l) (hl : l.length ≤ 100000) (hn : l.length = 4) :
  Calls Tryd.prog 58 #[.agg (frC (fr0 8 fl st pad) nilS nilS), .string (strOfNums l)] w (PartsPost w (partsF (fr0 8 fl st pad) l)) := by
 refine of_post0 fun R hRR => ?_
 have HP := Lib.hid hRR
 have HL := Lib.hid (And.intro h0 h1)
 clear hRR h0 h1
 have HE := Lib.hid (show partsF (fr0 8 fl st pad) l = ⟨8, fl, st, [], pad, 0, 0, 0, false, valL l % 2147483648, []⟩ from rfl)
 have HB := Lib.hid (show leansB 8 fl = false from rfl)
 have HS := Lib.hid (And.intro (show (⟨#[]⟩ : ByteArray).size = ([] : List Int).length from rfl) (And.intro (show bytesOf (⟨#[]⟩ : ByteArray) = [] from rfl) (show ([] : List Int).length ≤ 9223372036854775807 by decide)))
 have HV := Lib.hid (fun W => value_ref_calls W l (by omega) hby)
 have HV0 := Lib.hid (valL_bound hby).1
 clear hby hl hn
 generalize strOfNums l = s at HV ⊢
 generalize valL l = v at HE HV HV0
 have V := Aside0.mk (Below.refl w.heap.size w)
 go_enter Tryd.func58, Tryd.ntmps58
 go_wp2_with (first
  | (refine gate_box 2 rfl rfl ?_; refine make_ev rfl (cs := frC ⟨8, fl, st, [], pad, 0, 0, 0, false, 0, []⟩ nilS nilS) (t := 38) (by first | (go_simp; done) | (go_simp; rfl)) ?_; intro gf hg_ w0_ k_ z_ b_; have Mf := Aside0.mk (show w.heap.size ≤ gf by rw [hg_]; exact V.out.size); have q0_ := Aside0.mk (V.out.trans (b_.mono V.out.size)); clear V; have V := q0_; clear q0_; have Kf := Aside0.mk k_; clear hg_ k_ z_ b_)
  | (refine gate_alloc 4 rfl rfl ?_; refine make_ev rfl (cs := frC ⟨0, 0, 0, [], 0, 0, 0, 0, false, 0, []⟩ nilS nilS) (t := 38) (by first | (go_simp; done) | (go_simp; rfl)) ?_; intro gr hg_ w1_ k_ z_ b_; have Nf_r := Aside0.mk (show gf ≠ gr by rw [hg_]; exact Nat.ne_of_lt (blk_lt Kf.out)); have Mr := Aside0.mk (show w.heap.size ≤ gr by rw [hg_]; exact V.out.size); have q0_ := Aside0.mk (blk_below Kf.out b_); have q1_ := Aside0.mk (V.out.trans (b_.mono V.out.size)); clear Kf; clear V; have Kf := q0_; have V := q1_; clear q0_ q1_; have Kr := Aside0.mk k_; clear hg_ k_ z_ b_)
  | (refine gate_load (t := 38) 7 rfl rfl ?_; refine load_ev rfl rfl rfl Kf.out Tryd.underlying38 rfl (by kernel_rfl) ?_)
  | (go_at_call 51; (with_reducible refine (rleans_calls _ ⟨8, fl, st, [], pad, 0, 0, 0, false, 0, []⟩ nilS nilS HL.out.1 HL.out.2).mono ?_); rintro e_ w2_ ⟨rfl, h_⟩; have b_ := h_; have q0_ := Aside0.mk (blk_below Kf.out b_); have q1_ := Aside0.mk (blk_below Kr.out b_); have q2_ := Aside0.mk (V.out.trans (b_.mono V.out.size)); clear Kf; clear Kr; clear V; have Kf := q0_; have Kr := q1_; have V := q2_; clear q0_ q1_ q2_; clear b_ h_; dsimp only; rw [HB.out])
  | (refine gate_load (t := 5) 24 rfl rfl ?_; refine loadf_ev rfl rfl rfl Kf.out rfl Tryd.underlying5 rfl ?_)
  | (go_at_call 29; (with_reducible refine (HV.out _).mono ?_); rintro e_ w3_ ⟨rfl, h_⟩; have b_ := h_.below; have q0_ := Aside0.mk (blk_below Kf.out b_); have q1_ := Aside0.mk (blk_below Kr.out b_); have q2_ := Aside0.mk (V.out.trans (b_.mono V.out.size)); clear Kf; clear Kr; clear V; have Kf := q0_; have Kr := q1_; have V := q2_; clear q0_ q1_ q2_; clear b_ h_)
  | (go_at_call 55; (with_reducible refine (rlow_calls _ v HV0.out).mono ?_); rintro e_ w4_ ⟨rfl, h_⟩; have b_ := h_.below; have q0_ := Aside0.mk (blk_below Kf.out b_); have q1_ := Aside0.mk (blk_below Kr.out b_); have q2_ := Aside0.mk (V.out.trans (b_.mono V.out.size)); clear Kf; clear Kr; clear V; have Kf := q0_; have Kr := q1_; have V := q2_; clear q0_ q1_ q2_; clear b_ h_)
  | (refine gate_stored (t := 22) (p := .tmp 85) rfl ?_; refine store_ev rfl rfl rfl (g := gf) (k := 9) (u := (.int .u32 (v % 2147483648))) (cs' := frC ⟨8, fl, st, [], pad, 0, 0, 0, false, (v % 2147483648), []⟩ nilS nilS) rfl rfl Kf.out (by kernel_rfl) (Nat.le_of_ble_eq_true rfl) rfl rfl ?_; intro w5_ k_ o_; have q0_ := Aside0.mk (o_.blk Kr.out Nf_r.out.symm); have q1_ := Aside0.mk (k_); have q2_ := Aside0.mk (o_.below V.out Mf.out); clear Kr; clear Kf; clear V; have Kr := q0_; have Kf := q1_; have V := q2_; clear q0_ q1_ q2_; clear k_ o_)
  | (refine gate_conv 87 rfl rfl ?_; refine bytes_ev rfl rfl (([] : List Int)) rfl Tryd.underlying9 Tryd.underlying35 Tryd.underlying5 HS.out.1 HS.out.2.1 HS.out.2.2 ?_; intro gd cd hg_ hc_ w6_ r_ z_ b_; have Yd_f := Aside0.mk (show gd ≠ gf by rw [hg_]; exact (Nat.ne_of_lt (blk_lt Kf.out)).symm); have Yd_r := Aside0.mk (show gd ≠ gr by rw [hg_]; exact (Nat.ne_of_lt (blk_lt Kr.out)).symm); have Md := Aside0.mk (show w.heap.size ≤ gd by rw [hg_]; exact V.out.size); have Cd := Aside0.mk hc_; have q0_ := Aside0.mk (blk_below Kf.out b_); have q1_ := Aside0.mk (blk_below Kr.out b_); have q2_ := Aside0.mk (V.out.trans (b_.mono V.out.size)); clear Kf; clear Kr; clear V; have Kf := q0_; have Kr := q1_; have V := q2_; clear q0_ q1_ q2_; have Rd := Aside0.mk r_; clear hg_ hc_ r_ z_ b_)
  | (refine gate_stored (t := 35) (p := .tmp 88) rfl ?_; refine store_ev rfl rfl rfl (g := gf) (k := 3) (u := (.slice (some ⟨gd, 0, none⟩) (([] : List Int)).length cd)) (cs' := frC ⟨8, fl, st, ([] : List Int), pad, 0, 0, 0, false, (v % 2147483648), []⟩ (.slice (some ⟨gd, 0, none⟩) (([] : List Int)).length cd) nilS) rfl rfl Kf.out (by kernel_rfl) (Nat.le_of_ble_eq_true rfl) rfl rfl ?_; intro w7_ k_ o_; have q0_ := Aside0.mk (o_.blk Kr.out Nf_r.out.symm); have q1_ := Aside0.mk (k_); have q2_ := Aside0.mk (o_.reads Rd.out (at_only Yd_f.out)); have q3_ := Aside0.mk (o_.below V.out Mf.out); clear Kr; clear Kf; clear Rd; clear V; have Kr := q0_; have Kf := q1_; have Rd := q2_; have V := q3_; clear q0_ q1_ q2_ q3_; clear k_ o_)
  | (refine gate_load (t := 38) 89 rfl rfl ?_; refine load_ev rfl rfl rfl Kf.out Tryd.underlying38 rfl (by kernel_rfl) ?_)
  | (refine gate_stored (t := 38) (p := .tmp 4) rfl ?_; refine store_ev rfl rfl rfl (g := gr) (k := 0) (u := (.agg (frC ⟨8, fl, st, ([] : List Int), pad, 0, 0, 0, false, (v % 2147483648), []⟩ (.slice (some ⟨gd, 0, none⟩) (([] : List Int)).length cd) nilS))) (cs' := frC ⟨8, fl, st, ([] : List Int), pad, 0, 0, 0, false, (v % 2147483648), []⟩ (.slice (some ⟨gd, 0, none⟩) (([] : List Int)).length cd) nilS) rfl rfl Kr.out (by kernel_rfl) (Nat.le_of_ble_eq_true rfl) rfl rfl ?_; intro w8_ k_ o_; have q0_ := Aside0.mk (o_.blk Kf.out Nf_r.out); have q1_ := Aside0.mk (k_); have q2_ := Aside0.mk (o_.reads Rd.out (at_only Yd_r.out)); have q3_ := Aside0.mk (o_.below V.out Mr.out); clear Kf; clear Kr; clear Rd; clear V; have Kf := q0_; have Kr := q1_; have Rd := q2_; have V := q3_; clear q0_ q1_ q2_ q3_; clear k_ o_))
 refine bodyPost_ret (results_cell_row rfl _ _ gr 38 _ (0, 0) _ rfl Kr.out Tryd.underlying38 rfl (by kernel_rfl)) rfl (HP.out _ _ ?_)
 rw [HE.out]
 exact ⟨⟨_, rfl, some ⟨gd, 0, none⟩, cd, none, 0, rfl, ⟨Rd.out, Cd.out, fun a h => by obtain rfl := Option.some.inj h; exact Md.out⟩, no_sets _, Nat.le_refl _, fun a h => by cases h⟩, V.out⟩
set_option maxHeartbeats 4000000 in
set_option maxRecDepth 100000 in
theorem parts_5 (w : World) (fl st pad : Int) (l : List Int) (h0 : 0 ≤ fl) (h1 : fl ≤ 255) (hby : Byte8 l) (hl : l.length ≤ 100000) (hn : 4 ≤ l.length) :
  Calls Tryd.prog 58 #[.agg (frC (fr0 5 fl st pad) nilS nilS), .string (strOfNums l)] w (PartsPost w (partsF (fr0 5 fl st pad) l)) := by
 refine of_post0 fun R hRR => ?_
 have HP := Lib.hid hRR
 have HL := Lib.hid (And.intro h0 h1)
 clear hRR h0 h1
 have HE := Lib.hid (show partsF (fr0 5 fl st pad) l = ⟨5, fl, st, l.drop 4, pad, 0, valL (l.take 4) % 2147483648, 0, false, 0, []⟩ from rfl)
 have HB := Lib.hid (show leansB 5 fl = false from rfl)
 have hl4 : (l.take 4).length = 4 := by rw [List.length_take]; omega
 have hb4 : Byte8 (l.take 4) := fun x hx => hby x (List.mem_of_mem_take hx)
 have hb5 : Byte8 (l.drop 4) := fun x hx => hby x (List.mem_of_mem_drop hx)
 have HS := Lib.hid (And.intro (str_size (l.drop 4)) (And.intro (bytes_str hb5) (show (l.drop 4).length ≤ 9223372036854775807 by rw [List.length_drop]; omega)))
 have f4 := fun W => run_to_str l 4 (by decide) (by omega) W
 have f5 := fun W => run_from_str l 4 (by decide) (by omega) W
 have HV := Lib.hid (fun W => value_ref_calls W (l.take 4) (by omega) hb4)
 have HV0 := Lib.hid (valL_bound hb4).1
 rw [show (4 : Int).toNat = 4 from rfl] at f4 f5
 clear hby hl hn hl4 hb4 hb5
 generalize strOfNums l = s at f4 f5 ⊢
 generalize valL (l.take 4) = v at HE HV HV0
 generalize strOfNums (l.take 4) = s4 at f4 HV
 generalize l.drop 4 = l5 at HE HS f5
 generalize strOfNums l5 = s5 at HS f5
 have V := Aside0.mk (Below.refl w.heap.size w)
 go_enter Tryd.func58, Tryd.ntmps58
 go_wp2_with (first
  | (refine gate_box 2 rfl rfl ?_; refine make_ev rfl (cs := frC ⟨5, fl, st, [], pad, 0, 0, 0, false, 0, []⟩ nilS nilS) (t := 38) (by first | (go_simp; done) | (go_simp; rfl)) ?_; intro gf hg_ w0_ k_ z_ b_; have Mf := Aside0.mk (show w.heap.size ≤ gf by rw [hg_]; exact V.out.size); have q0_ := Aside0.mk (V.out.trans (b_.mono V.out.size)); clear V; have V := q0_; clear q0_; have Kf := Aside0.mk k_; clear hg_ k_ z_ b_)
  | (refine gate_alloc 4 rfl rfl ?_; refine make_ev rfl (cs := frC ⟨0, 0, 0, [], 0, 0, 0, 0, false, 0, []⟩ nilS nilS) (t := 38) (by first | (go_simp; done) | (go_simp; rfl)) ?_; intro gr hg_ w1_ k_ z_ b_; have Nf_r := Aside0.mk (show gf ≠ gr by rw [hg_]; exact Nat.ne_of_lt (blk_lt Kf.out)); have Mr := Aside0.mk (show w.heap.size ≤ gr by rw [hg_]; exact V.out.size); have q0_ := Aside0.mk (blk_below Kf.out b_); have q1_ := Aside0.mk (V.out.trans (b_.mono V.out.size)); clear Kf; clear V; have Kf := q0_; have V := q1_; clear q0_ q1_; have Kr := Aside0.mk k_; clear hg_ k_ z_ b_)
  | (refine gate_load (t := 38) 7 rfl rfl ?_; refine load_ev rfl rfl rfl Kf.out Tryd.underlying38 rfl (by kernel_rfl) ?_)
  | (go_at_call 51; (with_reducible refine (rleans_calls _ ⟨5, fl, st, [], pad, 0, 0, 0, false, 0, []⟩ nilS nilS HL.out.1 HL.out.2).mono ?_); rintro e_ w2_ ⟨rfl, h_⟩; have b_ := h_; have q0_ := Aside0.mk (blk_below Kf.out b_); have q1_ := Aside0.mk (blk_below Kr.out b_); have q2_ := Aside0.mk (V.out.trans (b_.mono V.out.size)); clear Kf; clear Kr; clear V; have Kf := q0_; have Kr := q1_; have V := q2_; clear q0_ q1_ q2_; clear b_ h_; dsimp only; rw [HB.out])
  | (refine gate_load (t := 5) 24 rfl rfl ?_; refine loadf_ev rfl rfl rfl Kf.out rfl Tryd.underlying5 rfl ?_)
  | (go_at_call 29; (with_reducible refine (HV.out _).mono ?_); rintro e_ w3_ ⟨rfl, h_⟩; have b_ := h_.below; have q0_ := Aside0.mk (blk_below Kf.out b_); have q1_ := Aside0.mk (blk_below Kr.out b_); have q2_ := Aside0.mk (V.out.trans (b_.mono V.out.size)); clear Kf; clear Kr; clear V; have Kf := q0_; have Kr := q1_; have V := q2_; clear q0_ q1_ q2_; clear b_ h_)
  | (go_at_call 55; (with_reducible refine (rlow_calls _ v HV0.out).mono ?_); rintro e_ w4_ ⟨rfl, h_⟩; have b_ := h_.below; have q0_ := Aside0.mk (blk_below Kf.out b_); have q1_ := Aside0.mk (blk_below Kr.out b_); have q2_ := Aside0.mk (V.out.trans (b_.mono V.out.size)); clear Kf; clear Kr; clear V; have Kf := q0_; have Kr := q1_; have V := q2_; clear q0_ q1_ q2_; clear b_ h_)
  | (refine gate_stored (t := 22) (p := .tmp 64) rfl ?_; refine store_ev rfl rfl rfl (g := gf) (k := 6) (u := (.int .u32 (v % 2147483648))) (cs' := frC ⟨5, fl, st, [], pad, 0, (v % 2147483648), 0, false, 0, []⟩ nilS nilS) rfl rfl Kf.out (by kernel_rfl) (Nat.le_of_ble_eq_true rfl) rfl rfl ?_; intro w5_ k_ o_; have q0_ := Aside0.mk (o_.blk Kr.out Nf_r.out.symm); have q1_ := Aside0.mk (k_); have q2_ := Aside0.mk (o_.below V.out Mf.out); clear Kr; clear Kf; clear V; have Kr := q0_; have Kf := q1_; have V := q2_; clear q0_ q1_ q2_; clear k_ o_)
  | (refine gate_conv 87 rfl rfl ?_; refine bytes_ev rfl rfl (l5) rfl Tryd.underlying9 Tryd.underlying35 Tryd.underlying5 HS.out.1 HS.out.2.1 HS.out.2.2 ?_; intro gd cd hg_ hc_ w6_ r_ z_ b_; have Yd_f := Aside0.mk (show gd ≠ gf by rw [hg_]; exact (Nat.ne_of_lt (blk_lt Kf.out)).symm); have Yd_r := Aside0.mk (show gd ≠ gr by rw [hg_]; exact (Nat.ne_of_lt (blk_lt Kr.out)).symm); have Md := Aside0.mk (show w.heap.size ≤ gd by rw [hg_]; exact V.out.size); have Cd := Aside0.mk hc_; have q0_ := Aside0.mk (blk_below Kf.out b_); have q1_ := Aside0.mk (blk_below Kr.out b_); have q2_ := Aside0.mk (V.out.trans (b_.mono V.out.size)); clear Kf; clear Kr; clear V; have Kf := q0_; have Kr := q1_; have V := q2_; clear q0_ q1_ q2_; have Rd := Aside0.mk r_; clear hg_ hc_ r_ z_ b_)
  | (refine gate_stored (t := 35) (p := .tmp 88) rfl ?_; refine store_ev rfl rfl rfl (g := gf) (k := 3) (u := (.slice (some ⟨gd, 0, none⟩) (l5).length cd)) (cs' := frC ⟨5, fl, st, l5, pad, 0, (v % 2147483648), 0, false, 0, []⟩ (.slice (some ⟨gd, 0, none⟩) (l5).length cd) nilS) rfl rfl Kf.out (by kernel_rfl) (Nat.le_of_ble_eq_true rfl) rfl rfl ?_; intro w7_ k_ o_; have q0_ := Aside0.mk (o_.blk Kr.out Nf_r.out.symm); have q1_ := Aside0.mk (k_); have q2_ := Aside0.mk (o_.reads Rd.out (at_only Yd_f.out)); have q3_ := Aside0.mk (o_.below V.out Mf.out); clear Kr; clear Kf; clear Rd; clear V; have Kr := q0_; have Kf := q1_; have Rd := q2_; have V := q3_; clear q0_ q1_ q2_ q3_; clear k_ o_)
  | (refine gate_load (t := 38) 89 rfl rfl ?_; refine load_ev rfl rfl rfl Kf.out Tryd.underlying38 rfl (by kernel_rfl) ?_)
  | (refine gate_stored (t := 38) (p := .tmp 4) rfl ?_; refine store_ev rfl rfl rfl (g := gr) (k := 0) (u := (.agg (frC ⟨5, fl, st, l5, pad, 0, (v % 2147483648), 0, false, 0, []⟩ (.slice (some ⟨gd, 0, none⟩) (l5).length cd) nilS))) (cs' := frC ⟨5, fl, st, l5, pad, 0, (v % 2147483648), 0, false, 0, []⟩ (.slice (some ⟨gd, 0, none⟩) (l5).length cd) nilS) rfl rfl Kr.out (by kernel_rfl) (Nat.le_of_ble_eq_true rfl) rfl rfl ?_; intro w8_ k_ o_; have q0_ := Aside0.mk (o_.blk Kf.out Nf_r.out); have q1_ := Aside0.mk (k_); have q2_ := Aside0.mk (o_.reads Rd.out (at_only Yd_r.out)); have q3_ := Aside0.mk (o_.below V.out Mr.out); clear Kf; clear Kr; clear Rd; clear V; have Kf := q0_; have Kr := q1_; have Rd := q2_; have V := q3_; clear q0_ q1_ q2_ q3_; clear k_ o_))
 refine bodyPost_ret (results_cell_row rfl _ _ gr 38 _ (0, 0) _ rfl Kr.out Tryd.underlying38 rfl (by kernel_rfl)) rfl (HP.out _ _ ?_)
 rw [HE.out]
 exact ⟨⟨_, rfl, some ⟨gd, 0, none⟩, cd, none, 0, rfl, ⟨Rd.out, Cd.out, fun a h => by obtain rfl := Option.some.inj h; exact Md.out⟩, no_sets _, Nat.le_refl _, fun a h => by cases h⟩, V.out⟩
set_option maxHeartbeats 4000000 in
set_option maxRecDepth 100000 in
theorem parts_7 (w : World) (fl st pad : Int) (l : List Int) (h0 : 0 ≤ fl) (h1 : fl ≤ 255) (hby : Byte8 l) (hl : l.length ≤ 100000) (hn : 8 ≤ l.length) :
  Calls Tryd.prog 58 #[.agg (frC (fr0 7 fl st pad) nilS nilS), .string (strOfNums l)] w (PartsPost w (partsF (fr0 7 fl st pad) l)) := by
 refine of_post0 fun R hRR => ?_
 have HP := Lib.hid hRR
 have HL := Lib.hid (And.intro h0 h1)
 clear hRR h0 h1
 have HE := Lib.hid (show partsF (fr0 7 fl st pad) l = ⟨7, fl, st, l.drop 8, pad, valL ((l.drop 4).take 4), valL (l.take 4) % 2147483648, 0, false, 0, []⟩ from rfl)
 have HB := Lib.hid (show leansB 7 fl = false from rfl)
 have hl4 : (l.take 4).length = 4 := by rw [List.length_take]; omega
 have hb4 : Byte8 (l.take 4) := fun x hx => hby x (List.mem_of_mem_take hx)
 have hl8 : ((l.take 8).drop 4).length = 4 := by rw [List.length_drop, List.length_take]; omega
 have hb8 : Byte8 ((l.take 8).drop 4) := fun x hx => hby x (List.mem_of_mem_take (List.mem_of_mem_drop hx))
 have hb5 : Byte8 (l.drop 8) := fun x hx => hby x (List.mem_of_mem_drop hx)
 have HS := Lib.hid (And.intro (str_size (l.drop 8)) (And.intro (bytes_str hb5) (show (l.drop 8).length ≤ 9223372036854775807 by rw [List.length_drop]; omega)))
 have f4 := fun W => run_to_str l 4 (by decide) (by omega) W
 have f8 := fun W => run_cut_str l 4 8 (by decide) (by decide) (by omega) W
 have f5 := fun W => run_from_str l 8 (by decide) (by omega) W
 have HV := Lib.hid (fun W => value_ref_calls W (l.take 4) (by omega) hb4)
 have HV8 := Lib.hid (fun W => value_ref_calls W ((l.take 8).drop 4) (by omega) hb8)
 have HV0 := Lib.hid (valL_bound hb4).1
 have e84 : (l.drop 4).take 4 = (l.take 8).drop 4 := by rw [List.drop_take]
 rw [e84] at HE
 rw [show (4 : Int).toNat = 4 from rfl] at f4 f8
 rw [show (8 : Int).toNat = 8 from rfl] at f5 f8
 clear hby hl hn hl4 hb4 hb5 hl8 hb8 e84
 generalize strOfNums l = s at f4 f5 f8 ⊢
 generalize valL (l.take 4) = v at HE HV HV0
 generalize valL ((l.take 8).drop 4) = cd0 at HE HV8
 generalize strOfNums (l.take 4) = s4 at f4 HV
 generalize strOfNums ((l.take 8).drop 4) = s8 at f8 HV8
 generalize l.drop 8 = l5 at HE HS f5
 generalize strOfNums l5 = s5 at HS f5
 have V := Aside0.mk (Below.refl w.heap.size w)
 go_enter Tryd.func58, Tryd.ntmps58
 go_wp2_with (first
  | (refine gate_box 2 rfl rfl ?_; refine make_ev rfl (cs := frC ⟨7, fl, st, [], pad, 0, 0, 0, false, 0, []⟩ nilS nilS) (t := 38) (by first | (go_simp; done) | (go_simp; rfl)) ?_; intro gf hg_ w0_ k_ z_ b_; have Mf := Aside0.mk (show w.heap.size ≤ gf by rw [hg_]; exact V.out.size); have q0_ := Aside0.mk (V.out.trans (b_.mono V.out.size)); clear V; have V := q0_; clear q0_; have Kf := Aside0.mk k_; clear hg_ k_ z_ b_)
  | (refine gate_alloc 4 rfl rfl ?_; refine make_ev rfl (cs := frC ⟨0, 0, 0, [], 0, 0, 0, 0, false, 0, []⟩ nilS nilS) (t := 38) (by first | (go_simp; done) | (go_simp; rfl)) ?_; intro gr hg_ w1_ k_ z_ b_; have Nf_r := Aside0.mk (show gf ≠ gr by rw [hg_]; exact Nat.ne_of_lt (blk_lt Kf.out)); have Mr := Aside0.mk (show w.heap.size ≤ gr by rw [hg_]; exact V.out.size); have q0_ := Aside0.mk (blk_below Kf.out b_); have q1_ := Aside0.mk (V.out.trans (b_.mono V.out.size)); clear Kf; clear V; have Kf := q0_; have V := q1_; clear q0_ q1_; have Kr := Aside0.mk k_; clear hg_ k_ z_ b_)
  | (refine gate_load (t := 38) 7 rfl rfl ?_; refine load_ev rfl rfl rfl Kf.out Tryd.underlying38 rfl (by kernel_rfl) ?_)
  | (go_at_call 51; (with_reducible refine (rleans_calls _ ⟨7, fl, st, [], pad, 0, 0, 0, false, 0, []⟩ nilS nilS HL.out.1 HL.out.2).mono ?_); rintro e_ w2_ ⟨rfl, h_⟩; have b_ := h_; have q0_ := Aside0.mk (blk_below Kf.out b_); have q1_ := Aside0.mk (blk_below Kr.out b_); have q2_ := Aside0.mk (V.out.trans (b_.mono V.out.size)); clear Kf; clear Kr; clear V; have Kf := q0_; have Kr := q1_; have V := q2_; clear q0_ q1_ q2_; clear b_ h_; dsimp only; rw [HB.out])
  | (refine gate_load (t := 5) 24 rfl rfl ?_; refine loadf_ev rfl rfl rfl Kf.out rfl Tryd.underlying5 rfl ?_)
  | (go_at_call 29; (with_reducible refine (HV.out _).mono ?_); rintro e_ w3_ ⟨rfl, h_⟩; have b_ := h_.below; have q0_ := Aside0.mk (blk_below Kf.out b_); have q1_ := Aside0.mk (blk_below Kr.out b_); have q2_ := Aside0.mk (V.out.trans (b_.mono V.out.size)); clear Kf; clear Kr; clear V; have Kf := q0_; have Kr := q1_; have V := q2_; clear q0_ q1_ q2_; clear b_ h_)
  | (go_at_call 55; (with_reducible refine (rlow_calls _ v HV0.out).mono ?_); rintro e_ w4_ ⟨rfl, h_⟩; have b_ := h_.below; have q0_ := Aside0.mk (blk_below Kf.out b_); have q1_ := Aside0.mk (blk_below Kr.out b_); have q2_ := Aside0.mk (V.out.trans (b_.mono V.out.size)); clear Kf; clear Kr; clear V; have Kf := q0_; have Kr := q1_; have V := q2_; clear q0_ q1_ q2_; clear b_ h_)
  | (refine gate_stored (t := 22) (p := .tmp 73) rfl ?_; refine store_ev rfl rfl rfl (g := gf) (k := 6) (u := (.int .u32 (v % 2147483648))) (cs' := frC ⟨7, fl, st, [], pad, 0, (v % 2147483648), 0, false, 0, []⟩ nilS nilS) rfl rfl Kf.out (by kernel_rfl) (Nat.le_of_ble_eq_true rfl) rfl rfl ?_; intro w5_ k_ o_; have q0_ := Aside0.mk (o_.blk Kr.out Nf_r.out.symm); have q1_ := Aside0.mk (k_); have q2_ := Aside0.mk (o_.below V.out Mf.out); clear Kr; clear Kf; clear V; have Kr := q0_; have Kf := q1_; have V := q2_; clear q0_ q1_ q2_; clear k_ o_)
  | (go_at_call 29; (with_reducible refine (HV8.out _).mono ?_); rintro e_ w6_ ⟨rfl, h_⟩; have b_ := h_.below; have q0_ := Aside0.mk (blk_below Kf.out b_); have q1_ := Aside0.mk (blk_below Kr.out b_); have q2_ := Aside0.mk (V.out.trans (b_.mono V.out.size)); clear Kf; clear Kr; clear V; have Kf := q0_; have Kr := q1_; have V := q2_; clear q0_ q1_ q2_; clear b_ h_)
  | (refine gate_stored (t := 22) (p := .tmp 77) rfl ?_; refine store_ev rfl rfl rfl (g := gf) (k := 5) (u := (.int .u32 cd0)) (cs' := frC ⟨7, fl, st, [], pad, cd0, (v % 2147483648), 0, false, 0, []⟩ nilS nilS) rfl rfl Kf.out (by kernel_rfl) (Nat.le_of_ble_eq_true rfl) rfl rfl ?_; intro w7_ k_ o_; have q0_ := Aside0.mk (o_.blk Kr.out Nf_r.out.symm); have q1_ := Aside0.mk (k_); have q2_ := Aside0.mk (o_.below V.out Mf.out); clear Kr; clear Kf; clear V; have Kr := q0_; have Kf := q1_; have V := q2_; clear q0_ q1_ q2_; clear k_ o_)
  | (refine gate_conv 87 rfl rfl ?_; refine bytes_ev rfl rfl (l5) rfl Tryd.underlying9 Tryd.underlying35 Tryd.underlying5 HS.out.1 HS.out.2.1 HS.out.2.2 ?_; intro gd cd hg_ hc_ w8_ r_ z_ b_; have Yd_f := Aside0.mk (show gd ≠ gf by rw [hg_]; exact (Nat.ne_of_lt (blk_lt Kf.out)).symm); have Yd_r := Aside0.mk (show gd ≠ gr by rw [hg_]; exact (Nat.ne_of_lt (blk_lt Kr.out)).symm); have Md := Aside0.mk (show w.heap.size ≤ gd by rw [hg_]; exact V.out.size); have Cd := Aside0.mk hc_; have q0_ := Aside0.mk (blk_below Kf.out b_); have q1_ := Aside0.mk (blk_below Kr.out b_); have q2_ := Aside0.mk (V.out.trans (b_.mono V.out.size)); clear Kf; clear Kr; clear V; have Kf := q0_; have Kr := q1_; have V := q2_; clear q0_ q1_ q2_; have Rd := Aside0.mk r_; clear hg_ hc_ r_ z_ b_)
  | (refine gate_stored (t := 35) (p := .tmp 88) rfl ?_; refine store_ev rfl rfl rfl (g := gf) (k := 3) (u := (.slice (some ⟨gd, 0, none⟩) (l5).length cd)) (cs' := frC ⟨7, fl, st, l5, pad, cd0, (v % 2147483648), 0, false, 0, []⟩ (.slice (some ⟨gd, 0, none⟩) (l5).length cd) nilS) rfl rfl Kf.out (by kernel_rfl) (Nat.le_of_ble_eq_true rfl) rfl rfl ?_; intro w9_ k_ o_; have q0_ := Aside0.mk (o_.blk Kr.out Nf_r.out.symm); have q1_ := Aside0.mk (k_); have q2_ := Aside0.mk (o_.reads Rd.out (at_only Yd_f.out)); have q3_ := Aside0.mk (o_.below V.out Mf.out); clear Kr; clear Kf; clear Rd; clear V; have Kr := q0_; have Kf := q1_; have Rd := q2_; have V := q3_; clear q0_ q1_ q2_ q3_; clear k_ o_)
  | (refine gate_load (t := 38) 89 rfl rfl ?_; refine load_ev rfl rfl rfl Kf.out Tryd.underlying38 rfl (by kernel_rfl) ?_)
  | (refine gate_stored (t := 38) (p := .tmp 4) rfl ?_; refine store_ev rfl rfl rfl (g := gr) (k := 0) (u := (.agg (frC ⟨7, fl, st, l5, pad, cd0, (v % 2147483648), 0, false, 0, []⟩ (.slice (some ⟨gd, 0, none⟩) (l5).length cd) nilS))) (cs' := frC ⟨7, fl, st, l5, pad, cd0, (v % 2147483648), 0, false, 0, []⟩ (.slice (some ⟨gd, 0, none⟩) (l5).length cd) nilS) rfl rfl Kr.out (by kernel_rfl) (Nat.le_of_ble_eq_true rfl) rfl rfl ?_; intro w10_ k_ o_; have q0_ := Aside0.mk (o_.blk Kf.out Nf_r.out); have q1_ := Aside0.mk (k_); have q2_ := Aside0.mk (o_.reads Rd.out (at_only Yd_r.out)); have q3_ := Aside0.mk (o_.below V.out Mr.out); clear Kf; clear Kr; clear Rd; clear V; have Kf := q0_; have Kr := q1_; have Rd := q2_; have V := q3_; clear q0_ q1_ q2_ q3_; clear k_ o_))
 refine bodyPost_ret (results_cell_row rfl _ _ gr 38 _ (0, 0) _ rfl Kr.out Tryd.underlying38 rfl (by kernel_rfl)) rfl (HP.out _ _ ?_)
 rw [HE.out]
 exact ⟨⟨_, rfl, some ⟨gd, 0, none⟩, cd, none, 0, rfl, ⟨Rd.out, Cd.out, fun a h => by obtain rfl := Option.some.inj h; exact Md.out⟩, no_sets _, Nat.le_refl _, fun a h => by cases h⟩, V.out⟩

theorem Only.R {α : Type} {d : Kd α} {e g base : Nat} {W w1 : World} {ok : Nat → Prop} {v : Value} {xs : List α} (h : Only g W w1) (hR : d.R e W base ok v xs) (hok : ∀ k, ok k → k ≠ g) : d.R e w1 base ok v xs :=
 Kd.R_step hR (fun k ho _ => h.block k (hok k ho))
structure StW (w : World) (gf gr : Nat) (fl st pad : Int) (S : Value) (xs : List S99) (wr : World) : Prop where
 f : wr.heap[gf]? = some (.cells (frC ⟨4, fl, st, [], pad, 0, 0, 0, false, 0, []⟩ nilS S) 38 (0, 0))
 r : wr.heap[gr]? = some (.cells (frC ⟨0, 0, 0, [], 0, 0, 0, 0, false, 0, []⟩ nilS nilS) 38 (0, 0))
 row : k99.R 99 wr w.heap.size (fun k => k ≠ gf ∧ k ≠ gr) S xs
 below : Below w.heap.size w wr
theorem StW.step {w : World} {gf gr : Nat} {fl st pad : Int} {S : Value} {xs : List S99} {wr wn : World} (h : StW w gf gr fl st pad S xs wr) (hb : Below wr.heap.size wr wn) : StW w gf gr fl st pad S xs wn :=
 ⟨blk_below h.f hb, blk_below h.r hb, Kd.R_below h.row hb, h.below.trans (hb.mono h.below.size)⟩
theorem StW.drewN {w : World} {gf gr : Nat} {fl st pad : Int} {S : Value} {xs : List S99} {wr : World} (h : StW w gf gr fl st pad S xs wr) (n : Nat) : StW w gf gr fl st pad S xs (wr.drewN n) := h.step (pw_below_drewN (Below.refl wr.heap.size wr) n)
theorem StW.more {w : World} {gf gr : Nat} {fl st pad : Int} {S v1 : Value} {xs : List S99} {x : S99} {wx w1 : World} (h : StW w gf gr fl st pad S xs wx) (hg : w.heap.size ≤ gf) (hne : gr ≠ gf)
  (hrow : k99.R 99 w1 w.heap.size (fun k => k ≠ gf ∧ k ≠ gr) v1 (xs ++ [x])) (hbel : Below w.heap.size wx w1) (hgrow : wx.grownBy w1 S.ownBlock) : StW w gf gr fl st pad v1 (xs ++ [x]) (w1.setCell ⟨gf, 10, none⟩ v1) := by
 have n1 : some gf ≠ S.ownBlock := Kd.R_away h.row (fun k hk => hk.1)
 have n2 : some gr ≠ S.ownBlock := Kd.R_away h.row (fun k hk => hk.2)
 have hb := (hgrow.block gf (blk_lt h.f) n1).trans h.f
 have hr := (hgrow.block gr (blk_lt h.r) n2).trans h.r
 exact ⟨blk_set hb 10 v1, blk_far hr hne _, Kd.R_far hrow (fun k hk => hk.1) v1, (h.below.trans hbel).setCell (p := ⟨gf, 10, none⟩) hg v1⟩
def StRel (w : World) (gf gr n : Nat) (fl st pad : Int) (l : List Int) (m : Nat) (iv : Value) (wr : World) : Prop :=
 ∃ j S xs, iv = .int .i64 ((6 * j : Nat) : Int) ∧ j + m = n ∧ xs ++ parseS m (l.drop (6 * j)) = parseS n l ∧ xs.length = j ∧ StW w gf gr fl st pad S xs wr
set_option maxHeartbeats 8000000 in
set_option maxRecDepth 100000 in
theorem parts_4 (w : World) (fl st pad : Int) (l : List Int) (n : Nat) (h0 : 0 ≤ fl) (h1 : fl ≤ 255) (hby : Byte8 l) (hl : l.length ≤ 100000) (hn : l.length = 6 * n) :
  Calls Tryd.prog 58 #[.agg (frC (fr0 4 fl st pad) nilS nilS), .string (strOfNums l)] w (PartsPost w (partsF (fr0 4 fl st pad) l)) := by
 refine of_post0 fun R hRR => ?_
 have HP := Lib.hid hRR
 have HL := Lib.hid (And.intro h0 h1)
 clear hRR h0 h1
 have HE := Lib.hid (show partsF (fr0 4 fl st pad) l = ⟨4, fl, st, [], pad, 0, 0, 0, false, 0, parseS n l⟩ by
  unfold partsF
  rw [if_pos rfl, hn, Nat.mul_div_cancel_left n (by decide)])
 have HB := Lib.hid (show leansB 4 fl = false from rfl)
 have HS := Lib.hid (And.intro (show (⟨#[]⟩ : ByteArray).size = ([] : List Int).length from rfl) (And.intro (show bytesOf (⟨#[]⟩ : ByteArray) = [] from rfl) (show ([] : List Int).length ≤ 9223372036854775807 by decide)))
 have hsz := str_size l
 have HX := Lib.hid (And.intro hby (And.intro hl hn))
 have HC := Lib.hid (fun (lo hi : Int) (a : 0 ≤ lo) (b : lo ≤ hi) (c : hi ≤ (l.length : Int)) (W : World) => run_cut_str l lo hi a b c W)
 clear hby hl hn
 generalize strOfNums l = s at hsz HC ⊢
 have V := Aside0.mk (Below.refl w.heap.size w)
 go_enter Tryd.func58, Tryd.ntmps58
 go_wp2_with (first
  | (refine gate_box 2 rfl rfl ?_; refine make_ev rfl (cs := frC ⟨4, fl, st, [], pad, 0, 0, 0, false, 0, []⟩ nilS nilS) (t := 38) (by first | (go_simp; done) | (go_simp; rfl)) ?_; intro gf hg_ w0_ k_ z_ b_; have Mf := Aside0.mk (show w.heap.size ≤ gf by rw [hg_]; exact V.out.size); have q0_ := Aside0.mk (V.out.trans (b_.mono V.out.size)); clear V; have V := q0_; clear q0_; have Kf := Aside0.mk k_; clear hg_ k_ z_ b_)
  | (refine gate_alloc 4 rfl rfl ?_; refine make_ev rfl (cs := frC ⟨0, 0, 0, [], 0, 0, 0, 0, false, 0, []⟩ nilS nilS) (t := 38) (by first | (go_simp; done) | (go_simp; rfl)) ?_; intro gr hg_ w1_ k_ z_ b_; have Nf_r := Aside0.mk (show gf ≠ gr by rw [hg_]; exact Nat.ne_of_lt (blk_lt Kf.out)); have Mr := Aside0.mk (show w.heap.size ≤ gr by rw [hg_]; exact V.out.size); have q0_ := Aside0.mk (blk_below Kf.out b_); have q1_ := Aside0.mk (V.out.trans (b_.mono V.out.size)); clear Kf; clear V; have Kf := q0_; have V := q1_; clear q0_ q1_; have Kr := Aside0.mk k_; clear hg_ k_ z_ b_)
  | (refine gate_load (t := 38) 7 rfl rfl ?_; refine load_ev rfl rfl rfl Kf.out Tryd.underlying38 rfl (by kernel_rfl) ?_)
  | (go_at_call 51; (with_reducible refine (rleans_calls _ ⟨4, fl, st, [], pad, 0, 0, 0, false, 0, []⟩ nilS nilS HL.out.1 HL.out.2).mono ?_); rintro e_ w2_ ⟨rfl, h_⟩; have b_ := h_; have q0_ := Aside0.mk (blk_below Kf.out b_); have q1_ := Aside0.mk (blk_below Kr.out b_); have q2_ := Aside0.mk (V.out.trans (b_.mono V.out.size)); clear Kf; clear Kr; clear V; have Kf := q0_; have Kr := q1_; have V := q2_; clear q0_ q1_ q2_; clear b_ h_; dsimp only; rw [HB.out])
  | (refine gate_load (t := 5) 24 rfl rfl ?_; refine loadf_ev rfl rfl rfl Kf.out rfl Tryd.underlying5 rfl ?_))
 go_loopg [6] n (fun m iv wr => StRel w gf gr n fl st pad l m iv wr)
 case atStart => exact ⟨0, nilS, [], rfl, by omega, rfl, rfl, Kf.out, Kr.out, Kd.R_nil _ _ _ _ _, V.out⟩
 case round =>
  obtain ⟨j, S, xs, rfl, hjm, hps, hxj, hW⟩ := hrel
  clear Kf Kr V
  obtain ⟨As, cs, rfl⟩ := Kd.R_slice hW.row
  cases gk with
  | zero =>
   have hX := HX.out
   have d0 : decide (((6 * j : Nat) : Int) < (l.length : Int)) = false := by rw [decide_eq_false_iff_not]; omega
   have d1 : decide (6 * (j : Int) < (l.length : Int)) = false := by rw [decide_eq_false_iff_not]; omega
   have HY := Lib.hid (And.intro hW hps)
   clear hW hps hxj hX hjm
   have V := Aside0.mk HY.out.1.below
   have Kf := Aside0.mk HY.out.1.f
   have Kr := Aside0.mk HY.out.1.r
   have HRW := Aside0.mk HY.out.1.row
   go_wp2_with (first
    | (refine gate_conv 87 rfl rfl ?_; refine bytes_ev rfl rfl ([]) rfl Tryd.underlying9 Tryd.underlying35 Tryd.underlying5 HS.out.1 HS.out.2.1 HS.out.2.2 ?_; intro gd cd hg_ hc_ w0_ r_ z_ b_; have Yd_f := Aside0.mk (show gd ≠ gf by rw [hg_]; exact (Nat.ne_of_lt (blk_lt Kf.out)).symm); have Yd_r := Aside0.mk (show gd ≠ gr by rw [hg_]; exact (Nat.ne_of_lt (blk_lt Kr.out)).symm); have Md := Aside0.mk (show w.heap.size ≤ gd by rw [hg_]; exact V.out.size); have Cd := Aside0.mk hc_; have q0_ := Aside0.mk (blk_below Kf.out b_); have q1_ := Aside0.mk (blk_below Kr.out b_); have q2_ := Aside0.mk (Kd.R_below HRW.out b_); have q3_ := Aside0.mk (V.out.trans (b_.mono V.out.size)); clear Kf; clear Kr; clear HRW; clear V; have Kf := q0_; have Kr := q1_; have HRW := q2_; have V := q3_; clear q0_ q1_ q2_ q3_; have Rd := Aside0.mk r_; clear hg_ hc_ r_ z_ b_)
    | (refine gate_stored (t := 35) (p := .tmp 88) rfl ?_; refine store_ev rfl rfl rfl (g := gf) (k := 3) (u := (.slice (some ⟨gd, 0, none⟩) ([] : List Int).length cd)) (cs' := frC ⟨4, fl, st, [], pad, 0, 0, 0, false, 0, []⟩ (.slice (some ⟨gd, 0, none⟩) ([] : List Int).length cd) (.slice As xs.length cs)) rfl rfl Kf.out (by kernel_rfl) (Nat.le_of_ble_eq_true rfl) rfl rfl ?_; intro w1_ k_ o_; have q0_ := Aside0.mk (o_.blk Kr.out Nf_r.out.symm); have q1_ := Aside0.mk (k_); have q2_ := Aside0.mk (o_.reads Rd.out (at_only Yd_f.out)); have q3_ := Aside0.mk (o_.R HRW.out (fun k hk => hk.1)); have q4_ := Aside0.mk (o_.below V.out Mf.out); clear Kr; clear Kf; clear Rd; clear HRW; clear V; have Kr := q0_; have Kf := q1_; have Rd := q2_; have HRW := q3_; have V := q4_; clear q0_ q1_ q2_ q3_ q4_; clear k_ o_)
    | (refine gate_load (t := 38) 89 rfl rfl ?_; refine load_ev rfl rfl rfl Kf.out Tryd.underlying38 rfl (by kernel_rfl) ?_)
    | (refine gate_stored (t := 38) (p := .tmp 4) rfl ?_; refine store_ev rfl rfl rfl (g := gr) (k := 0) (u := (.agg (frC ⟨4, fl, st, [], pad, 0, 0, 0, false, 0, []⟩ (.slice (some ⟨gd, 0, none⟩) ([] : List Int).length cd) (.slice As xs.length cs)))) (cs' := frC ⟨4, fl, st, [], pad, 0, 0, 0, false, 0, []⟩ (.slice (some ⟨gd, 0, none⟩) ([] : List Int).length cd) (.slice As xs.length cs)) rfl rfl Kr.out (by kernel_rfl) (Nat.le_of_ble_eq_true rfl) rfl rfl ?_; intro w2_ k_ o_; have q0_ := Aside0.mk (o_.blk Kf.out Nf_r.out); have q1_ := Aside0.mk (k_); have q2_ := Aside0.mk (o_.reads Rd.out (at_only Yd_r.out)); have q3_ := Aside0.mk (o_.R HRW.out (fun k hk => hk.2)); have q4_ := Aside0.mk (o_.below V.out Mr.out); clear Kf; clear Kr; clear Rd; clear HRW; clear V; have Kf := q0_; have Kr := q1_; have Rd := q2_; have HRW := q3_; have V := q4_; clear q0_ q1_ q2_ q3_ q4_; clear k_ o_))
   refine bodyPost_ret (results_cell_row rfl _ _ gr 38 _ (0, 0) _ rfl Kr.out Tryd.underlying38 rfl (by kernel_rfl)) rfl (HP.out _ _ ?_)
   have hxs := HY.out.2
   simp only [parseS, List.append_nil] at hxs
   rw [HE.out, ← hxs]
   have hr := Kd.R_reads' HRW.out
   exact ⟨⟨_, rfl, some ⟨gd, 0, none⟩, cd, As, cs, rfl, ⟨Rd.out, Cd.out, fun a h => by obtain rfl := Option.some.inj h; exact Md.out⟩, hr.2.2, hr.2.1, fun a h => by subst h; exact Kd.R_base HRW.out a.block (by simp [Value.ownBlock])⟩, V.out⟩
  | succ m =>
   have hX := HX.out
   have hlt : 6 * j + 6 ≤ l.length := by omega
   have d0 : decide (((6 * j : Nat) : Int) < (l.length : Int)) = true := by rw [decide_eq_true_iff]; omega
   obtain ⟨i0, hi0⟩ : ∃ i0 : Int, ((6 * j : Nat) : Int) = i0 := ⟨_, rfl⟩
   obtain ⟨i2, hi2⟩ : ∃ i2 : Int, i0 + 2 = i2 := ⟨_, rfl⟩
   obtain ⟨i6, hi6⟩ : ∃ i6 : Int, i0 + 6 = i6 := ⟨_, rfl⟩
   have e2 : IntKind.i64.wrap (i0 + 2) = i2 := by rw [← hi2]; simp [IntKind.wrap, IntKind.bits, IntKind.signed]; omega
   have e6 : IntKind.i64.wrap (i0 + 6) = i6 := by rw [← hi6]; simp [IntKind.wrap, IntKind.bits, IntKind.signed]; omega
   have f2 := fun W => HC.out i0 i2 (by omega) (by omega) (by omega) W
   have f6 := fun W => HC.out i2 i6 (by omega) (by omega) (by omega) W
   rw [show i2.toNat = 6 * j + 2 by omega, show i0.toNat = 6 * j by omega, List.drop_take, show 6 * j + 2 - 6 * j = 2 by omega] at f2
   rw [show i6.toNat = 6 * j + 6 by omega, show i2.toNat = 6 * j + 2 by omega, show (l.take (6 * j + 6)).drop (6 * j + 2) = ((l.drop (6 * j)).take 6).drop 2 by rw [List.drop_take, List.drop_take, List.drop_drop]; congr 1; omega] at f6
   have hL : (l.drop (6 * j)).length = l.length - 6 * j := List.length_drop
   have hbL : Byte8 (l.drop (6 * j)) := fun x hx => hX.1 x (List.mem_of_mem_drop hx)
   have hd6 : l.drop (6 * (j + 1)) = (l.drop (6 * j)).drop 6 := by rw [List.drop_drop]; congr 1
   have hps' : xs ++ (⟨valL ((l.drop (6 * j)).take 2), valL (((l.drop (6 * j)).take 6).drop 2)⟩ :: parseS m (l.drop (6 * (j + 1)))) = parseS n l := by rw [hd6]; exact hps
   have hb2 : Byte8 ((l.drop (6 * j)).take 2) := fun x hx => hbL x (List.mem_of_mem_take hx)
   have hb4 : Byte8 (((l.drop (6 * j)).take 6).drop 2) := fun x hx => hbL x (List.mem_of_mem_take (List.mem_of_mem_drop hx))
   have hl2 : ((l.drop (6 * j)).take 2).length = 2 := by rw [List.length_take]; omega
   have hl4 : (((l.drop (6 * j)).take 6).drop 2).length = 4 := by rw [List.length_drop, List.length_take]; omega
   have hv2 := valL_bound hb2
   rw [hl2, show (256 : Int) ^ 2 = 65536 from rfl] at hv2
   have HN2 := Lib.hid (fun W => value_ref_calls W ((l.drop (6 * j)).take 2) (by omega) hb2)
   have HN4 := Lib.hid (fun W => value_ref_calls W (((l.drop (6 * j)).take 6).drop 2) (by omega) hb4)
   have hmod : IntKind.u16.wrap (valL ((l.drop (6 * j)).take 2)) = valL ((l.drop (6 * j)).take 2) := Int.emod_eq_of_lt hv2.1 hv2.2
   have hj1 : i6 = ((6 * (j + 1) : Nat) : Int) := by omega
   clear hv2 hl2 hl4 hb2 hb4 hL hbL hd6 hps
   generalize valL ((l.drop (6 * j)).take 2) = a at hps' HN2 hmod
   generalize valL (((l.drop (6 * j)).take 6).drop 2) = b at hps' HN4
   generalize strOfNums ((l.drop (6 * j)).take 2) = s2 at f2 HN2
   generalize strOfNums (((l.drop (6 * j)).take 6).drop 2) = s4 at f6 HN4
   rw [hi0] at d0 ⊢
   have HW := Lib.hid hW
   have HZ := Lib.hid (And.intro hps' (And.intro hxj (And.intro hj1 (And.intro hjm hX))))
   clear hW hps' hxj hjm hX hlt hi0 hi2 hi6 hj1
   go_wp2_with fail
   have HY := Lib.hid (HW.out.step (below_drew (Below.refl _ _)))
   have q10 := blk_cell HY.out.f 10
   simp at q10
   refine start_ (n := 21) (S := fun w' => w'.cell? ⟨gf, 10, none⟩ = some (.slice As xs.length cs)) (ds := [20]) #[false, false, false, false, false, false, false, false, false, false, false, false, false, false, false, false, false, false, false, false, false] (by kernel_rfl) rfl rfl q10 (fun hHeld => ?_)
   generalize wr.drew = wy at HY hHeld ⊢
   refine pure_ (i := 0) (N := some 38) (v := ?_) (a' := ?_) #[true, false, false, false, false, false, false, false, false, false, false, false, false, false, false, false, false, false, false, false, false] rfl rfl (by kernel_rfl) (fun _ _ _ h => h) (Or.inl ⟨by rfl, ?_⟩) ?_ ?_
   rotate_left
   ·intro w'
    go_simp
    with_reducible rfl
   rotate_left
   ·simp only [Act.put, putA, putB, putC]
    rfl
   refine take_ (i := 1) (N := some 39) (v := ?_) (a' := ?_) #[true, true, false, false, false, false, false, false, false, false, false, false, false, false, false, false, false, false, false, false, false] rfl rfl (by kernel_rfl) (fun _ _ _ h => h) (Or.inl ⟨by rfl, ?_⟩) hHeld ?_ ?_
   rotate_left
   ·intro w' s0
    go_simp
    with_reducible rfl
   rotate_left
   ·simp only [Act.put, putA, putB, putC]
    rfl
   refine pure_ (i := 2) (N := some 40) (v := ?_) (a' := ?_) #[true, true, true, false, false, false, false, false, false, false, false, false, false, false, false, false, false, false, false, false, false] rfl rfl (by kernel_rfl) (fun _ _ _ h => h) (Or.inl ⟨by rfl, ?_⟩) ?_ ?_
   rotate_left
   ·intro w'
    go_simp
    with_reducible rfl
   rotate_left
   ·simp only [Act.put, putA, putB, putC]
    rfl
   refine pure_ (i := 3) (N := some 41) (v := ?_) (a' := ?_) #[true, true, true, true, false, false, false, false, false, false, false, false, false, false, false, false, false, false, false, false, false] rfl rfl (by kernel_rfl) (fun _ _ _ h => h) (Or.inl ⟨by rfl, ?_⟩) ?_ ?_
   rotate_left
   ·intro w'
    go_simp
    with_reducible rfl
   rotate_left
   ·simp only [Act.put, putA, putB, putC]
    rfl
   refine pure_ (i := 4) (N := some 42) (v := ?_) (a' := ?_) #[true, true, true, true, true, false, false, false, false, false, false, false, false, false, false, false, false, false, false, false, false] rfl rfl (by kernel_rfl) (fun _ _ _ h => h) (Or.inl ⟨by rfl, ?_⟩) ?_ ?_
   rotate_left
   ·intro w'
    go_simp
    with_reducible rfl
   rotate_left
   ·simp only [Act.put, putA, putB, putC]
    rfl
   refine pure_ (i := 5) (N := some 43) (v := ?_) (a' := ?_) #[true, true, true, true, true, true, false, false, false, false, false, false, false, false, false, false, false, false, false, false, false] rfl rfl (by kernel_rfl) (fun _ _ _ h => h) (Or.inl ⟨by rfl, ?_⟩) ?_ ?_
   rotate_left
   ·intro w'
    go_simp
    with_reducible rfl
   rotate_left
   ·simp only [Act.put, putA, putB, putC]
    rfl
   refine pure_ (i := 6) (N := some 44) (v := ?_) (a' := ?_) #[true, true, true, true, true, true, true, false, false, false, false, false, false, false, false, false, false, false, false, false, false] rfl rfl (by kernel_rfl) (fun _ _ _ h => h) (Or.inl ⟨by rfl, ?_⟩) ?_ ?_
   rotate_left
   ·intro w'
    go_simp
    with_reducible rfl
   rotate_left
   ·simp only [Act.put, putA, putB, putC]
    rfl
   refine pure_ (i := 9) (N := some 47) (v := ?_) (a' := ?_) #[true, true, true, true, true, true, true, false, false, true, false, false, false, false, false, false, false, false, false, false, false] rfl rfl (by kernel_rfl) (fun _ _ _ h => h) (Or.inl ⟨by rfl, ?_⟩) ?_ ?_
   rotate_left
   ·intro w'
    go_simp
    with_reducible rfl
   rotate_left
   ·simp only [Act.put, putA, putB, putC]
    rfl
   refine pure_ (i := 10) (N := some 48) (v := ?_) (a' := ?_) #[true, true, true, true, true, true, true, false, false, true, true, false, false, false, false, false, false, false, false, false, false] rfl rfl (by kernel_rfl) (fun _ _ _ h => h) (Or.inl ⟨by rfl, ?_⟩) ?_ ?_
   rotate_left
   ·intro w'
    go_simp
    with_reducible rfl
   rotate_left
   ·simp only [Act.put, putA, putB, putC]
    rfl
   refine pure_ (i := 11) (N := some 49) (v := ?_) (a' := ?_) #[true, true, true, true, true, true, true, false, false, true, true, true, false, false, false, false, false, false, false, false, false] rfl rfl (by kernel_rfl) (fun _ _ _ h => h) (Or.inl ⟨by rfl, ?_⟩) ?_ ?_
   rotate_left
   ·intro w'
    go_simp
    with_reducible rfl
   rotate_left
   ·simp only [Act.put, putA, putB, putC]
    rfl
   refine pure_ (i := 12) (N := some 50) (v := ?_) (a' := ?_) #[true, true, true, true, true, true, true, false, false, true, true, true, true, false, false, false, false, false, false, false, false] rfl rfl (by kernel_rfl) (fun _ _ _ h => h) (Or.inl ⟨by rfl, ?_⟩) ?_ ?_
   rotate_left
   ·intro w'
    go_simp
    with_reducible rfl
   rotate_left
   ·simp only [Act.put, putA, putB, putC]
    rfl
   refine pure_ (i := 13) (N := some 51) (v := ?_) (a' := ?_) #[true, true, true, true, true, true, true, false, false, true, true, true, true, true, false, false, false, false, false, false, false] rfl rfl (by kernel_rfl) (fun _ _ _ h => h) (Or.inl ⟨by rfl, ?_⟩) ?_ ?_
   rotate_left
   ·intro w'
    go_simp
    with_reducible rfl
   rotate_left
   ·simp only [Act.put, putA, putB, putC]
    rfl
   refine pure_ (i := 14) (N := some 52) (v := ?_) (a' := ?_) #[true, true, true, true, true, true, true, false, false, true, true, true, true, true, true, false, false, false, false, false, false] rfl rfl (by kernel_rfl) (fun _ _ _ h => h) (Or.inl ⟨by rfl, ?_⟩) ?_ ?_
   rotate_left
   ·intro w'
    go_simp
    with_reducible rfl
   rotate_left
   ·simp only [Act.put, putA, putB, putC]
    rfl
   refine one_ (i := 7) (N := some 45) #[true, true, true, true, true, true, true, true, false, true, true, true, true, true, true, false, false, false, false, false, false] rfl rfl (by kernel_rfl) (by decide) (fun K hK => ?_)
   refine goes_ Tryd.func29 (by kernel_rfl) rfl #[.string s2] (by rfl) rfl rfl (by (try simp only [List.map_toArray, List.map_cons, List.map_nil]); first | done | rfl) ?_
   refine (HN2.out _).mono ?_
   rintro e w9 ⟨rfl, n9, rfl⟩
   have q10b := blk_cell (HY.out.drewN n9).f 10
   simp at q10b
   refine ⟨_, rfl, ?_⟩
   refine hK.out _ _ q10b (fun hHeld => ?_)
   clear hK K
   refine norm_ (a' := ?_) ?_ ?_
   rotate_left
   ·show Act.put _ (some 45) _ = _
    simp only [Act.put, putA, putB, putC]
    rfl
   refine pure_ (i := 8) (N := some 46) (v := ?_) (a' := ?_) #[true, true, true, true, true, true, true, true, true, true, true, true, true, true, true, false, false, false, false, false, false] rfl rfl (by kernel_rfl) (fun _ _ _ h => h) (Or.inl ⟨by rfl, ?_⟩) ?_ ?_
   rotate_left
   ·intro w'
    go_simp
    with_reducible rfl
   rotate_left
   ·simp only [Act.put, putA, putB, putC]
    rfl
   refine one_ (i := 15) (N := some 53) #[true, true, true, true, true, true, true, true, true, true, true, true, true, true, true, true, false, false, false, false, false] rfl rfl (by kernel_rfl) (by decide) (fun K hK => ?_)
   refine goes_ Tryd.func29 (by kernel_rfl) rfl #[.string s4] (by rfl) rfl rfl (by (try simp only [List.map_toArray, List.map_cons, List.map_nil]); first | done | rfl) ?_
   refine (HN4.out _).mono ?_
   rintro e w10 ⟨rfl, n10, rfl⟩
   have H10 := Lib.hid ((HY.out.drewN n9).drewN n10)
   generalize hwX : (wy.drewN n9).drewN n10 = wx at H10 ⊢
   have q10c := blk_cell H10.out.f 10
   simp at q10c
   clear hwX
   refine ⟨_, rfl, ?_⟩
   refine hK.out _ _ q10c (fun hHeld => ?_)
   clear hK K
   refine norm_ (a' := ?_) ?_ ?_
   rotate_left
   ·show Act.put _ (some 53) _ = _
    simp only [Act.put, putA, putB, putC]
    rfl
   refine pure_ (i := 16) (N := some 54) (v := ?_) (a' := ?_) #[true, true, true, true, true, true, true, true, true, true, true, true, true, true, true, true, true, false, false, false, false] rfl rfl (by kernel_rfl) (fun _ _ _ h => h) (Or.inl ⟨by rfl, ?_⟩) ?_ ?_
   rotate_left
   ·intro w'
    go_simp
    with_reducible rfl
   rotate_left
   ·simp only [Act.put, putA, putB, putC]
    rfl
   refine one_ (i := 17) (N := some 55) #[true, true, true, true, true, true, true, true, true, true, true, true, true, true, true, true, true, true, false, false, false] rfl rfl (by kernel_rfl) (by decide) (fun K hK => ?_)
   refine event_step (w1 := wx.alloc (.cells #[.int .u16 a, .int .u32 b] 99)) (v := .slice (some ⟨wx.heap.size, 0, none⟩) 1 1) (by rfl) (by go_simp) ?_
   have q10d := blk_cell (H10.out.step (below_alloc (Below.refl wx.heap.size wx) (.cells #[.int .u16 a, .int .u32 b] 99))).f 10
   simp at q10d
   refine hK.out _ _ q10d (fun hHeld => ?_)
   clear hK K
   refine norm_ (a' := ?_) ?_ ?_
   rotate_left
   ·show Act.put _ (some 55) _ = _
    simp only [Act.put, putA, putB, putC]
    rfl
   refine one_ (i := 18) (N := some 56) #[true, true, true, true, true, true, true, true, true, true, true, true, true, true, true, true, true, true, true, false, false] rfl rfl (by kernel_rfl) (by decide) (fun K hK => ?_)
   refine Kd.R_append_step (w0 := wx) k99 w.heap.size (by rfl) (.tmp 39) (.tmp 55) 36 99 (.agg #[.int .u16 0, .int .u32 0]) 8 (by rfl) Tryd.underlying36 Tryd.infoS (by rfl) (by decide) (by decide) (.slice As xs.length cs) xs ⟨a, b⟩ [.int .u16 a, .int .u32 b] (fun k => k ≠ gf ∧ k ≠ gr) (fun _ => False) (by rfl) (by rfl) (k99_mkM _ _ _ _) (fun _ h => h.elim) (fun k hk => ⟨by have := blk_lt H10.out.f; omega, by have := blk_lt H10.out.r; omega⟩) H10.out.row (Below.refl wx.heap.size wx |>.mono H10.out.below.size) H10.out.below.size (by have := HZ.out; omega) ?_
   intro v1 w1 hrow hbel hgrow hat
   obtain ⟨Av, cv, rfl⟩ := Kd.R_slice hrow
   have hln : (xs ++ [(⟨a, b⟩ : S99)]).length = xs.length + 1 := by simp
   rw [hln] at hrow hat ⊢
   have H1 := Lib.hid (H10.out.more Mf.out Nf_r.out.symm hrow hbel hgrow)
   have HB1 := Lib.hid ((hgrow.block gf (blk_lt H10.out.f) (Kd.R_away H10.out.row (fun k hk => hk.1))).trans H10.out.f)
   clear hrow hbel hgrow hat
   have q10e := blk_cell HB1.out 10
   have f10e := blk_frozen HB1.out 10
   simp at q10e
   refine hK.out _ _ q10e (fun hHeld => ?_)
   clear hK K
   refine norm_ (a' := ?_) ?_ ?_
   rotate_left
   ·show Act.put _ (some 56) _ = _
    simp only [Act.put, putA, putB, putC]
    rfl
   refine pure_ (i := 19) (N := some 57) (v := ?_) (a' := ?_) #[true, true, true, true, true, true, true, true, true, true, true, true, true, true, true, true, true, true, true, true, false] rfl rfl (by kernel_rfl) (fun _ _ _ h => h) (Or.inl ⟨by rfl, ?_⟩) ?_ ?_
   rotate_left
   ·intro w'
    go_simp
    with_reducible rfl
   rotate_left
   ·simp only [Act.put, putA, putB, putC]
    rfl
   refine last_ (i := 20) (N := none) #[true, true, true, true, true, true, true, true, true, true, true, true, true, true, true, true, true, true, true, true, true] rfl rfl (by kernel_rfl) (by decide) (fun K hK => ?_)
   refine skip_ (w1 := ?_) (by rfl) rfl ?_ ?_
   rotate_left
   ·go_simp
    rfl
   refine hK.out _ _ ?_
   clear hK K
   refine done_ (by kernel_rfl) ?_
   clear q10e f10e hHeld
   generalize w1.setCell ⟨gf, 10, none⟩ (.slice Av (xs.length + 1) cv) = w2 at H1 ⊢
   go_wp2_with fail
   go_roundg m
   case measure => omega
   case rel => exact ⟨j + 1, _, xs ++ [⟨a, b⟩], by rw [HZ.out.2.2.1], by have := HZ.out.2.2.2.1; omega, by rw [List.append_assoc]; exact HZ.out.1, by have := HZ.out.2.1; simp; omega, H1.out⟩

theorem leansB_other {ty fl : Int} (h1 : ty ≠ 1) (h2 : ty ≠ 2) : leansB ty fl = false := by
 unfold leansB
 rw [if_neg h2, if_neg h1]
theorem shortT_4 {fl : Int} {n : Nat} (h : shortT 4 fl n = false) : n % 6 = 0 ∧ ¬ (fl % 2 = 1 ∧ 0 < n) := by
 unfold shortT at h
 simp at h
 omega
theorem rparts_calls (w : World) (ty fl st pad : Int) (l : List Int) (h0 : 0 ≤ fl) (h1 : fl ≤ 255) (hby : Byte8 l) (hl : l.length ≤ 100000) (hs : shortT ty fl l.length = false) :
  Calls Tryd.prog 58 #[.agg (frC (fr0 ty fl st pad) nilS nilS), .string (strOfNums l)] w (PartsPost w (partsF (fr0 ty fl st pad) l)) := by
 by_cases t3 : ty = 3
 ·subst t3
  exact parts_3 w fl st pad l h0 h1 hby hl (by unfold shortT at hs; simp at hs; omega)
 by_cases t4 : ty = 4
 ·subst t4
  have := (shortT_4 hs).1
  exact parts_4 w fl st pad l (l.length / 6) h0 h1 hby hl (by omega)
 by_cases t5 : ty = 5
 ·subst t5
  exact parts_5 w fl st pad l h0 h1 hby hl (by unfold shortT at hs; simp at hs; omega)
 by_cases t7 : ty = 7
 ·subst t7
  exact parts_7 w fl st pad l h0 h1 hby hl (by unfold shortT at hs; simp at hs; omega)
 by_cases t8 : ty = 8
 ·subst t8
  exact parts_8 w fl st pad l h0 h1 hby hl (by unfold shortT at hs; simp at hs; omega)
 cases hb : leansB ty fl
 ·exact parts_plain w ty fl st pad l h0 h1 hby hl hb t3 t4 t5 t7 t8
 ·refine parts_lean w ty fl st pad l h0 h1 hby hl hb ?_
  have ht : ty = 1 ∨ ty = 2 := by
   by_cases t1 : ty = 1
   ·exact .inl t1
   ·by_cases t2 : ty = 2
    ·exact .inr t2
    ·rw [leansB_other t1 t2] at hb; cases hb
  rcases ht with rfl | rfl
  ·unfold shortT at hs
   rw [if_pos rfl, hb] at hs
   simp at hs
   omega
  ·unfold shortT at hs
   simp at hs
   omega
set_option maxHeartbeats 1000000 in
theorem bit1 (n : Fin 256) : (Go.bits .and .u8 (n.val : Int) 1 ≠ 0) ↔ (n.val : Int) % 2 = 1 := by
 revert n
 decide +kernel
theorem bit1' {n : Int} (h0 : 0 ≤ n) (h1 : n ≤ 255) : (Go.bits .and .u8 n 1 ≠ 0) ↔ n % 2 = 1 := by
 have := bit1 ⟨n.toNat, by omega⟩
 rwa [show ((n.toNat : Nat) : Int) = n by omega] at this
theorem body_short {F : Fr} {b : List Int} (h0 : 0 ≤ F.fl) (h1 : F.fl ≤ 255) (hs : shortT F.ty F.fl b.length = true) : bodyR F b = .bad (if F.ty = 2 then 2 else 1) 6 := by
 have hb1 := bit1' h0 h1
 unfold bodyR
 by_cases t2 : F.ty = 2
 ·rw [t2] at hs
  unfold shortT at hs
  simp at hs
  rw [if_pos ⟨t2, hs⟩, if_pos t2]
 rw [if_neg (fun h => t2 h.1), if_neg t2]
 by_cases t4 : F.ty = 4
 ·rw [t4] at hs
  unfold shortT at hs
  simp at hs
  have hn : ¬ shortR F b := by
   unfold shortR leastR
   rw [t4, leansB_other (by decide) (by decide)]
   simp
  rw [if_neg hn, if_pos t4]
  unfold setsR
  rw [if_pos (by rw [hb1]; omega)]
 ·refine if_pos ?_
  unfold shortR leastR
  by_cases t1 : F.ty = 1
  ·rw [t1] at hs ⊢
   unfold shortT at hs
   simp at hs
   exact .inl hs
  by_cases t3 : F.ty = 3
  ·rw [t3] at hs ⊢
   unfold shortT at hs
   simp at hs ⊢
   omega
  by_cases t5 : F.ty = 5
  ·rw [t5] at hs ⊢
   unfold shortT at hs
   simp at hs ⊢
   omega
  by_cases t6 : F.ty = 6
  ·rw [t6] at hs ⊢
   unfold shortT at hs
   simp at hs ⊢
   omega
  by_cases t7 : F.ty = 7
  ·rw [t7] at hs ⊢
   unfold shortT at hs
   simp at hs ⊢
   omega
  by_cases t8 : F.ty = 8
  ·rw [t8] at hs ⊢
   unfold shortT at hs
   simp at hs ⊢
   omega
  rw [shortT_none t1 t2 t3 t4 t5 t6 t7 t8] at hs
  cases hs
theorem body_parts {F : Fr} {b : List Int} (h0 : 0 ≤ F.fl) (h1 : F.fl ≤ 255) (hby : Byte8 b) (hs : shortT F.ty F.fl b.length = false) :
  bodyR F b = if F.ty = 8 ∧ (partsF F b).win = 0 then .bad (if F.st > 0 then 2 else 1) 1 else .ok (partsF F b) := by
 have hb1 := bit1' h0 h1
 have hv := valL_bound hby
 unfold bodyR partsF
 by_cases t2 : F.ty = 2
 ·have hl : b.length = 5 := by
   rw [t2] at hs
   unfold shortT at hs
   simp at hs
   exact hs
  have hn : ¬ shortR F b := by
   unfold shortR leastR
   rw [t2]
   simp
   omega
  have hl2 : leansB F.ty F.fl = true := by rw [t2]; rfl
  rw [if_neg (fun h => h.2 hl), if_neg hn]
  simp [t2, hl2]
  have : leansB 2 F.fl = true := rfl
  simp [this]
 rw [if_neg (fun h => t2 h.1)]
 by_cases t4 : F.ty = 4
 ·have hx := hs
  rw [t4] at hx
  have hx := shortT_4 hx
  have hn : ¬ shortR F b := by
   unfold shortR leastR
   rw [t4, leansB_other (by decide) (by decide)]
   simp
  rw [if_neg hn, if_pos t4]
  unfold setsR
  rw [if_neg (by rw [hb1]; omega)]
  simp [t4]
 have hn : ¬ shortR F b := by
  unfold shortR leastR
  by_cases t1 : F.ty = 1
  ·rw [t1] at hs ⊢
   unfold shortT at hs
   simp at hs ⊢
   intro h
   have := hs h
   omega
  rw [leansB_other t1 t2]
  by_cases t3 : F.ty = 3
  ·rw [t3] at hs ⊢
   unfold shortT at hs
   simp at hs ⊢
   omega
  by_cases t5 : F.ty = 5
  ·rw [t5] at hs ⊢
   unfold shortT at hs
   simp at hs ⊢
   omega
  by_cases t6 : F.ty = 6
  ·rw [t6] at hs ⊢
   unfold shortT at hs
   simp at hs ⊢
   omega
  by_cases t7 : F.ty = 7
  ·rw [t7] at hs ⊢
   unfold shortT at hs
   simp at hs ⊢
   omega
  by_cases t8 : F.ty = 8
  ·rw [t8] at hs ⊢
   unfold shortT at hs
   simp at hs ⊢
   omega
  simp [t3, t5, t6, t7, t8]
 rw [if_neg hn, if_neg t4]
 by_cases t3 : F.ty = 3
 ·simp [t3]
 by_cases t8 : F.ty = 8
 ·simp only [t8, if_true, true_and, show ¬ ((8 : Int) = 4) by decide, show ¬ ((8 : Int) = 3) by decide, if_false]
  by_cases hw : valL b % 2147483648 = 0
  ·rw [if_neg (by omega), if_pos hw]
  ·rw [if_pos (by omega), if_neg hw]
 by_cases t7 : F.ty = 7
 ·simp [t7]
 by_cases t5 : F.ty = 5
 ·simp [t5]
 cases hl : leansB F.ty F.fl <;> simp [t3, t4, t5, t7, t8]

def RGetPost (w : World) (r : Fr × Int × Int) (e : Ending) (w' : World) : Prop := (∃ v, e = .returned (.agg (v ++ #[.int .u8 r.2.1, .int .u32 r.2.2])) ∧ FrCame w r.1 v w') ∧ Below w.heap.size w w'
theorem frCame_nil (w w' : World) (F : Fr) (hd : F.data = []) (hs : F.sets = []) : FrCame w F (frC F nilS nilS) w' := by
 refine ⟨none, 0, none, 0, ?_, ⟨⟨?_, ?_, ?_⟩, ?_, fun a h => by cases h⟩, ⟨?_, ?_, fun a h => by cases h⟩⟩
 ·rw [hd, hs]; rfl
 ·rfl
 ·rw [hd]; decide
 ·rw [hd]; intro h; exact absurd h (Nat.lt_irrefl 0)
 ·rw [hd]; exact Nat.le_refl _
 ·rw [hs]; exact no_sets _
 ·rw [hs]; exact Nat.le_refl _
theorem Only.C99 {g : Nat} {W w1 : World} {A : Option Addr} {n : Nat} {xs : List S99} (h : Only g W w1) (hC : k99.C W A n xs) (hne : ∀ a, A = some a → a.block ≠ g) : k99.C w1 A n xs :=
 ⟨hC.1, hC.2.1, fun hn => by
  obtain ⟨ad, e, hc⟩ := hC.2.2 hn
  refine ⟨ad, e, fun j p hj => ?_⟩
  obtain ⟨c, hs, hr, hcell⟩ := hc j p hj
  refine ⟨c, hs, hr, fun i u hu => ?_⟩
  have hx := hcell i u hu
  have hk : (ad.add (j * (k99).sz + i)).block ≠ g := by rw [add_block]; exact hne ad e
  rw [← hx]
  simp [World.cell?, h.block _ hk]⟩
theorem FrCame.only {w W w1 : World} {F : Fr} {v : Array Value} {g : Nat} (h : FrCame w F v W) (o : Only g W w1) (hg : g < w.heap.size) : FrCame w F v w1 := by
 obtain ⟨A, c, B, m, e, ⟨r1, r2, r3⟩, ⟨s1, s2, s3⟩⟩ := h
 exact ⟨A, c, B, m, e, ⟨o.reads r1 (fun a ha => by have := r3 a ha; omega), r2, r3⟩, ⟨o.C99 s1 (fun a ha => by have := s3 a ha; omega), s2, s3⟩⟩
theorem FrCame.below {w W w1 : World} {F : Fr} {v : Array Value} (h : FrCame w F v W) (hb : Below W.heap.size W w1) : FrCame w F v w1 := by
 obtain ⟨A, c, B, m, e, ⟨r1, r2, r3⟩, ⟨s1, s2, s3⟩⟩ := h
 exact ⟨A, c, B, m, e, ⟨r1.below hb, r2, r3⟩, ⟨Kd.C_below s1 hb, s2, s3⟩⟩
theorem FrCame.mono {w w0 W : World} {F : Fr} {v : Array Value} (h : FrCame w0 F v W) (hw : w.heap.size ≤ w0.heap.size) : FrCame w F v W := by
 obtain ⟨A, c, B, m, e, ⟨r1, r2, r3⟩, ⟨s1, s2, s3⟩⟩ := h
 exact ⟨A, c, B, m, e, ⟨r1, r2, fun a ha => Nat.le_trans hw (r3 a ha)⟩, ⟨s1, s2, fun a ha => Nat.le_trans hw (s3 a ha)⟩⟩
theorem readR_plain {ty fl st : Int} {b : List Int} (h : ¬ ((ty = 0 ∨ ty = 1 ∨ ty = 5) ∧ Go.bits .and .u8 fl 8 ≠ 0)) : readR (fr0 ty fl st (-1)) b = bodyR (fr0 ty fl st (-1)) b := by
 unfold readR unpadR
 rw [if_neg h]
 simp
theorem readR_empty {ty fl st : Int} (h : (ty = 0 ∨ ty = 1 ∨ ty = 5) ∧ Go.bits .and .u8 fl 8 ≠ 0) : readR (fr0 ty fl st (-1)) [] = .bad 1 6 := by
 unfold readR unpadR
 rw [if_pos h]
 rfl
theorem readR_big {ty fl st : Int} {b : List Int} (h : (ty = 0 ∨ ty = 1 ∨ ty = 5) ∧ Go.bits .and .u8 fl 8 ≠ 0) (h0 : b.length ≠ 0) (hx : (b.length : Int) - 1 < b.getD 0 0) : readR (fr0 ty fl st (-1)) b = .bad 1 1 := by
 unfold readR unpadR
 rw [if_pos h, if_neg h0, if_pos hx]
theorem readR_pad {ty fl st : Int} {b : List Int} (h : (ty = 0 ∨ ty = 1 ∨ ty = 5) ∧ Go.bits .and .u8 fl 8 ≠ 0) (h0 : b.length ≠ 0) (hx : ¬ (b.length : Int) - 1 < b.getD 0 0) (h1 : 0 ≤ b.getD 0 0) :
  readR (fr0 ty fl st (-1)) b = bodyR (fr0 ty fl st (b.getD 0 0)) ((b.take ((b.length : Int) - b.getD 0 0).toNat).drop 1) := by
 unfold readR unpadR
 rw [if_pos h, if_neg h0, if_neg hx]
 have e : (b.drop 1).take (b.length - 1 - (b.getD 0 0).toNat) = (b.take ((b.length : Int) - b.getD 0 0).toNat).drop 1 := by
  rw [List.drop_take]
  congr 1
  omega
 simp only [e]
theorem partsF_head (F : Fr) (b : List Int) : (partsF F b).ty = F.ty ∧ (partsF F b).st = F.st := by
 unfold partsF leanF
 repeat' split
 all_goals exact ⟨rfl, rfl⟩
set_option maxHeartbeats 8000000 in
set_option maxRecDepth 100000 in
theorem rget_short (w : World) (l : List Int) (h9 : l.length < 9) : Calls Tryd.prog 26 #[.string (strOfNums l)] w (RGetPost w (getFr l)) := by
 refine of_post0 fun R hRR => ?_
 have HP := Lib.hid hRR
 have HE := Lib.hid (show getFr l = (noneF, 1, 6) by unfold getFr; rw [if_pos (by omega)])
 have hsz := str_size l
 have c1 : decide (((strOfNums l).size : Int) < 9) = true := by rw [decide_eq_true_iff]; omega
 have c2 : decide ((strOfNums l).size < 9) = true := by rw [decide_eq_true_iff]; omega
 clear hRR hsz h9
 generalize strOfNums l = s at c1 c2 ⊢
 have V := Aside0.mk (Below.refl w.heap.size w)
 go_enter Tryd.func26, Tryd.ntmps26
 go_wp2_with (first
  | (refine gate_alloc 2 rfl rfl ?_; refine make_ev rfl (cs := fC ⟨0, 0, 0, [], 0, 0, 0, 0, false, 0, []⟩ nilS nilS 0 0) (t := 45) (by first | (go_simp; done) | (go_simp; rfl)) ?_; intro gr hg_ w0_ k_ z_ b_; have Mr := Aside0.mk (show w.heap.size ≤ gr by rw [hg_]; exact V.out.size); have q0_ := Aside0.mk (V.out.trans (b_.mono V.out.size)); clear V; have V := q0_; clear q0_; have Kr := Aside0.mk k_; clear hg_ k_ z_ b_)
  | (refine gate_alloc 3 rfl rfl ?_; refine make_ev rfl (cs := fC ⟨0, 0, 0, [], 0, 0, 0, 0, false, 0, []⟩ nilS nilS 0 0) (t := 45) (by first | (go_simp; done) | (go_simp; rfl)) ?_; intro gn hg_ w1_ k_ z_ b_; have Nr_n := Aside0.mk (show gr ≠ gn by rw [hg_]; exact Nat.ne_of_lt (blk_lt Kr.out)); have Mn := Aside0.mk (show w.heap.size ≤ gn by rw [hg_]; exact V.out.size); have q0_ := Aside0.mk (blk_below Kr.out b_); have q1_ := Aside0.mk (V.out.trans (b_.mono V.out.size)); clear Kr; clear V; have Kr := q0_; have V := q1_; clear q0_ q1_; have Kn := Aside0.mk k_; clear hg_ k_ z_ b_)
  | (refine gate_stored (t := 45) (p := .tmp 3) rfl ?_; refine store_ev rfl rfl rfl (g := gn) (k := 0) (u := (.agg (fC noneF nilS nilS 0 0))) (cs' := fC noneF nilS nilS 0 0) rfl rfl Kn.out (by kernel_rfl) (Nat.le_of_ble_eq_true rfl) rfl rfl ?_; intro w2_ k_ o_; have q0_ := Aside0.mk (o_.blk Kr.out Nr_n.out); have q1_ := Aside0.mk (k_); have q2_ := Aside0.mk (o_.below V.out Mn.out); clear Kr; clear Kn; clear V; have Kr := q0_; have Kn := q1_; have V := q2_; clear q0_ q1_ q2_; clear k_ o_)
  | (refine gate_load (t := 45) 22 rfl rfl ?_; refine load_ev rfl rfl rfl Kn.out Tryd.underlying45 rfl (by kernel_rfl) ?_)
  | (go_at_call 54; (with_reducible refine (fails_calls _ noneF none 0 0 none 0 0 0 0 1 6).mono ?_); rintro e_ w3_ ⟨rfl, h_⟩; have b_ := h_; have q0_ := Aside0.mk (blk_below Kr.out b_); have q1_ := Aside0.mk (blk_below Kn.out b_); have q2_ := Aside0.mk (V.out.trans (b_.mono V.out.size)); clear Kr; clear Kn; clear V; have Kr := q0_; have Kn := q1_; have V := q2_; clear q0_ q1_ q2_; clear b_ h_)
  | (refine gate_stored (t := 45) (p := .tmp 2) rfl ?_; refine store_ev rfl rfl rfl (g := gr) (k := 0) (u := (.agg (fC noneF nilS nilS 1 6))) (cs' := fC noneF nilS nilS 1 6) rfl rfl Kr.out (by kernel_rfl) (Nat.le_of_ble_eq_true rfl) rfl rfl ?_; intro w4_ k_ o_; have q0_ := Aside0.mk (o_.blk Kn.out Nr_n.out.symm); have q1_ := Aside0.mk (k_); have q2_ := Aside0.mk (o_.below V.out Mr.out); clear Kn; clear Kr; clear V; have Kn := q0_; have Kr := q1_; have V := q2_; clear q0_ q1_ q2_; clear k_ o_))
 refine bodyPost_ret (results_cell_row rfl _ _ gr 45 _ (0, 0) _ rfl Kr.out Tryd.underlying45 rfl (by kernel_rfl)) rfl (HP.out _ _ ?_)
 rw [HE.out]
 exact ⟨⟨frC noneF nilS nilS, rfl, frCame_nil _ _ _ rfl rfl⟩, V.out⟩
set_option maxHeartbeats 8000000 in
set_option maxRecDepth 100000 in
theorem rget_length (w : World) (l : List Int) (hby : Byte8 l) (h9 : 9 ≤ l.length) (hl : l.length ≤ 20000000) (hn : headN l ≠ (l.length : Int)) : Calls Tryd.prog 26 #[.string (strOfNums l)] w (RGetPost w (getFr l)) := by
 refine of_post0 fun R hRR => ?_
 have HP := Lib.hid hRR
 have HE := Lib.hid (show getFr l = (noneF, 1, 6) by unfold getFr; rw [if_pos (by omega)])
 have hsz := str_size l
 have c1 : decide (((strOfNums l).size : Int) < 9) = false := by rw [decide_eq_false_iff_not]; omega
 have c2 : decide ((strOfNums l).size < 9) = false := by rw [decide_eq_false_iff_not]; omega
 have hl3 : (l.take 3).length = 3 := by rw [List.length_take]; omega
 have hb3 : Byte8 (l.take 3) := fun x hx => hby x (List.mem_of_mem_take hx)
 have f3 := fun W => run_to_str l 3 (by decide) (by omega) W
 rw [show (3 : Int).toNat = 3 from rfl] at f3
 have HV := Lib.hid (fun W => value_ref_calls W (l.take 3) (by omega) hb3)
 have hv3 := valL_bound hb3
 rw [hl3, show (256 : Int) ^ 3 = 16777216 from rfl] at hv3
 have hw3 : IntKind.i64.wrap (valL (l.take 3)) = valL (l.take 3) := by simp [IntKind.wrap, IntKind.bits, IntKind.signed]; omega
 have hne : ((l.length : Int) - 9 != valL (l.take 3)) = true := by
  rw [bne_iff_ne]
  unfold headN at hn
  rw [if_neg (by omega)] at hn
  omega
 have hw9 : wrap64 ((l.length : Int) - 9) = (l.length : Int) - 9 := wrap_okF (by omega) (by omega)
 clear hRR h9 hn hl hl3 hb3 hby hv3
 generalize strOfNums l = s at c1 c2 hsz f3 ⊢
 generalize valL (l.take 3) = v3 at HV hw3 hne
 generalize strOfNums (l.take 3) = s3 at f3 HV
 generalize l.length = n at hsz hne hw9
 subst hsz
 have V := Aside0.mk (Below.refl w.heap.size w)
 go_enter Tryd.func26, Tryd.ntmps26
 go_wp2_with (first
  | (refine gate_alloc 2 rfl rfl ?_; refine make_ev rfl (cs := fC ⟨0, 0, 0, [], 0, 0, 0, 0, false, 0, []⟩ nilS nilS 0 0) (t := 45) (by first | (go_simp; done) | (go_simp; rfl)) ?_; intro gr hg_ w0_ k_ z_ b_; have Mr := Aside0.mk (show w.heap.size ≤ gr by rw [hg_]; exact V.out.size); have q0_ := Aside0.mk (V.out.trans (b_.mono V.out.size)); clear V; have V := q0_; clear q0_; have Kr := Aside0.mk k_; clear hg_ k_ z_ b_)
  | (refine gate_alloc 3 rfl rfl ?_; refine make_ev rfl (cs := fC ⟨0, 0, 0, [], 0, 0, 0, 0, false, 0, []⟩ nilS nilS 0 0) (t := 45) (by first | (go_simp; done) | (go_simp; rfl)) ?_; intro gn hg_ w1_ k_ z_ b_; have Nr_n := Aside0.mk (show gr ≠ gn by rw [hg_]; exact Nat.ne_of_lt (blk_lt Kr.out)); have Mn := Aside0.mk (show w.heap.size ≤ gn by rw [hg_]; exact V.out.size); have q0_ := Aside0.mk (blk_below Kr.out b_); have q1_ := Aside0.mk (V.out.trans (b_.mono V.out.size)); clear Kr; clear V; have Kr := q0_; have V := q1_; clear q0_ q1_; have Kn := Aside0.mk k_; clear hg_ k_ z_ b_)
  | (refine gate_stored (t := 45) (p := .tmp 3) rfl ?_; refine store_ev rfl rfl rfl (g := gn) (k := 0) (u := (.agg (fC noneF nilS nilS 0 0))) (cs' := fC noneF nilS nilS 0 0) rfl rfl Kn.out (by kernel_rfl) (Nat.le_of_ble_eq_true rfl) rfl rfl ?_; intro w2_ k_ o_; have q0_ := Aside0.mk (o_.blk Kr.out Nr_n.out); have q1_ := Aside0.mk (k_); have q2_ := Aside0.mk (o_.below V.out Mn.out); clear Kr; clear Kn; clear V; have Kr := q0_; have Kn := q1_; have V := q2_; clear q0_ q1_ q2_; clear k_ o_)
  | (go_at_call 29; (with_reducible refine (HV.out _).mono ?_); rintro e_ w3_ ⟨rfl, h_⟩; have b_ := h_.below; have q0_ := Aside0.mk (blk_below Kr.out b_); have q1_ := Aside0.mk (blk_below Kn.out b_); have q2_ := Aside0.mk (V.out.trans (b_.mono V.out.size)); clear Kr; clear Kn; clear V; have Kr := q0_; have Kn := q1_; have V := q2_; clear q0_ q1_ q2_; clear b_ h_)
  | (refine gate_load (t := 45) 22 rfl rfl ?_; refine load_ev rfl rfl rfl Kn.out Tryd.underlying45 rfl (by kernel_rfl) ?_)
  | (go_at_call 54; (with_reducible refine (fails_calls _ noneF none 0 0 none 0 0 0 0 1 6).mono ?_); rintro e_ w4_ ⟨rfl, h_⟩; have b_ := h_; have q0_ := Aside0.mk (blk_below Kr.out b_); have q1_ := Aside0.mk (blk_below Kn.out b_); have q2_ := Aside0.mk (V.out.trans (b_.mono V.out.size)); clear Kr; clear Kn; clear V; have Kr := q0_; have Kn := q1_; have V := q2_; clear q0_ q1_ q2_; clear b_ h_)
  | (refine gate_stored (t := 45) (p := .tmp 2) rfl ?_; refine store_ev rfl rfl rfl (g := gr) (k := 0) (u := (.agg (fC noneF nilS nilS 1 6))) (cs' := fC noneF nilS nilS 1 6) rfl rfl Kr.out (by kernel_rfl) (Nat.le_of_ble_eq_true rfl) rfl rfl ?_; intro w5_ k_ o_; have q0_ := Aside0.mk (o_.blk Kn.out Nr_n.out.symm); have q1_ := Aside0.mk (k_); have q2_ := Aside0.mk (o_.below V.out Mr.out); clear Kn; clear Kr; clear V; have Kn := q0_; have Kr := q1_; have V := q2_; clear q0_ q1_ q2_; clear k_ o_))
 refine bodyPost_ret (results_cell_row rfl _ _ gr 45 _ (0, 0) _ rfl Kr.out Tryd.underlying45 rfl (by kernel_rfl)) rfl (HP.out _ _ ?_)
 rw [HE.out]
 exact ⟨⟨frC noneF nilS nilS, rfl, frCame_nil _ _ _ rfl rfl⟩, V.out⟩
end Go.Proofs.YtjjfkmniffbgkaaDoor
