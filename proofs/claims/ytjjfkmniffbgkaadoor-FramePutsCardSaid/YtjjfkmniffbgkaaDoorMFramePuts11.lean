/- Texts of this claim, put together: Hold2, RfPay, FPure1, FrmPure10, FrmPure11, FrmPure12, FrmPure13, FrmPure14, FrmPure15, FrmPure16, FrmPure17, FrmPure18, FPure2, RfMayD. -/
import Derived.Test.YtjjfkmniffbgkaaDoorMFramePuts10
import Derived.Test.YtjjfkmniffbgkaaDoorMFramePuts8
import Derived.Test.YtjjfkmniffbgkaaDoorMFramePuts9
import Derived.Deep.CutRange
import Derived.Test.YtjjfkmniffbgkaaDoorMFramePuts0
/- What a walk holds: more steps; the same as steps of a region that draws its order. No program. -/
namespace Go.Proofs.YtjjfkmniffbgkaaDoor
set_option linter.unusedVariables false
set_option linter.unusedSimpArgs false
open Go.RowKit Go.Proofs.YtjjfkmniffbgkaaDoorW.PrintWords
theorem madeHold {W W1 : World} {e : TypeId} {m : Nat} {xs : List Int} {k : IntKind} (hb : Below W.heap.size W W1) (ho : W1.ownsRow 0 e 1 (.slice (some ⟨W.heap.size, 0, none⟩) m m) xs.length (nums k xs)) : Hold W W1 [] [nrow e (.slice (some ⟨W.heap.size, 0, none⟩) m m) k xs] :=
 Hold.made hb ho fun k hk => Nat.le_of_eq (Option.some.inj (Option.mem_toList.1 hk))
section
variable {P : Program} {ops : Array Oper} {rest : List Oper} {o : Oper} {a : Act} {Q : Exit → Act → World → Prop} {w W : World} {t : List Nat} {l : List Own}
theorem run_makeb {W : World} {st e : TypeId} (m : Nat) (ht : P.underlying st = some (.slice e)) (hinfo : (P.info? e).map (fun i => (i.zero, i.size, i.bytes)) = some (some (.int .u8 0), 1, 1)) (hm : m ≤ 281474976710656) :
  (Instr.makeSlice st (.int .i64 (m : Int)) (.int .i64 (m : Int))).run P W = .ok (.slice (some ⟨W.heap.size, 0, none⟩) m m) (W.alloc (.cells (madeCells #[.int .u8 0] m) e)) := print_make st e .u8 1 ht hinfo (by decide) m (by omega) W
theorem convr_h (hgd : o.guard = none) {src dst e : TypeId} {x : Operand} (ho : o.op = .convert src dst x) {A : Option Addr} {n c : Nat} {xs : List Int} (hx : a.eval x = .slice A n c) (hR : ReadsInt W .u8 A n xs)
  (hs : P.underlying src = some (.slice e)) (he : P.underlying e = some (.int .u8)) (hd : P.underlying dst = some .string) (h : wpList P ops Q rest (a.put o.dst (.string (strOfNums xs))) W) : wpList P ops Q (o :: rest) a W := by
 refine wpList_plain hgd fun K hK => ?_
 unfold Oper.wp execOp
 simp only [ho, hx, Sem.run_bind, Sem.run_pure, Result.andThen_ok, string_of_reads (c := c) hs he hd hR]
 exact hK _ _ h
variable {Kc : Act → World → Prop}
theorem lit_o (H : Hold w W t l) (hw : Region.wanted o (yielded ops a.tmps) = true) {e : TypeId} {k : IntKind} (ls : List Int)
  (hrun : (execOp a.eval o).run P W = .ok (.value (.slice (some ⟨W.heap.size, 0, none⟩) ls.length ls.length)) (W.alloc (.cells (nums k ls).toArray e (0, 0)))) (hl : ls.length ≤ 9223372036854775807)
  (h : ∀ g w1, Hold w w1 t (nrow e (.slice (some ⟨g, 0, none⟩) ls.length ls.length) k ls :: l) → Below W.heap.size W w1 → Kc (a.put o.dst (.slice (some ⟨g, 0, none⟩) ls.length ls.length)) w1) :
  if Region.wanted o (yielded ops a.tmps) = true then Oper.wp P o a W Kc Q else Kc (a.put o.dst undef) W :=
 event_step hw hrun (h _ _ (Hold.push (l1 := [_]) H (madeHold (below_alloc (Below.refl _ _) _) (own_lit W 0 e k ls (Nat.zero_le _) hl))) (below_alloc (Below.refl _ _) _))
theorem makeb_o (H : Hold w W t l) (hw : Region.wanted o (yielded ops a.tmps) = true) {st e : TypeId} {x y : Operand} (ho : o.op = .makeSlice st x y) (m : Nat) (hx : a.eval x = .int .i64 (m : Int)) (hy : a.eval y = .int .i64 (m : Int)) (ht : P.underlying st = some (.slice e))
  (hinfo : (P.info? e).map (fun i => (i.zero, i.size, i.bytes)) = some (some (.int .u8 0), 1, 1)) (hm : m ≤ 281474976710656)
  (h : ∀ g w1, Hold w w1 t (nrow e (.slice (some ⟨g, 0, none⟩) m m) .u8 (List.replicate m 0) :: l) → Below W.heap.size W w1 → Kc (a.put o.dst (.slice (some ⟨g, 0, none⟩) m m)) w1) :
  if Region.wanted o (yielded ops a.tmps) = true then Oper.wp P o a W Kc Q else Kc (a.put o.dst undef) W := by
 rw [if_pos hw]
 unfold Oper.wp execOp
 simp only [ho, hx, hy, Sem.run_bind, Sem.run_pure, Result.andThen_ok, run_makeb m ht hinfo hm]
 refine h _ _ (Hold.push (l1 := [_]) H (madeHold (below_alloc (Below.refl _ _) _) ?_)) (below_alloc (Below.refl _ _) _)
 rw [List.length_replicate]
 exact own_made W 0 e .u8 m (Nat.zero_le _) (by omega)
theorem conv_o (H : Hold w W t l) (hw : Region.wanted o (yielded ops a.tmps) = true) {src dst e e' : TypeId} {x : Operand} (ho : o.op = .convert src dst x) {v : Value} {xs : List Int} (hx : a.eval x = v) (hm : nrow e' v .u8 xs ∈ l)
  (hs : P.underlying src = some (.slice e)) (he : P.underlying e = some (.int .u8)) (hd : P.underlying dst = some .string) (h : Kc (a.put o.dst (.string (strOfNums xs))) W) :
  if Region.wanted o (yielded ops a.tmps) = true then Oper.wp P o a W Kc Q else Kc (a.put o.dst undef) W := by
 rw [if_pos hw]
 unfold Oper.wp execOp
 simp only [ho, hx, Sem.run_bind, Sem.run_pure, Result.andThen_ok, own_string hs he hd (H.row hm)]
 exact h
end
end Go.Proofs.YtjjfkmniffbgkaaDoor

/- The reference of frames: payload, walked. (This text is printed by wip/gen/rfpay.py.) -/
namespace Go.Proofs.YtjjfkmniffbgkaaDoor
set_option linter.unusedVariables false
set_option linter.unusedSimpArgs false
open Go.RowKit Go.Proofs.YtjjfkmniffbgkaaDoorW.PrintWords Go.Proofs.YtjjfkmniffbgkaaDoorW.PrintLast Go.Proofs.YtjjfkmniffbgkaaDoorW.PrintMore Go.Proofs.YtjjfkmniffbgkaaDoor.QFrmA Go.Proofs.YtjjfkmniffbgkaaDoor.Given Go.Extern.Stop Go.Stop Go.Extern Go.Maps
def rleanL (F : Fr) : List Int := beL (if F.al = true then F.oth + 2147483648 else F.oth) 4 ++ [F.wgt]
def rsetL (s : S99) : List Int := beL s.f0 2 ++ beL s.f1 4
def rmidL (F : Fr) : List Int :=
 if F.ty = 3 then beL F.code 4 else if F.ty = 4 then F.sets.flatMap rsetL else if F.ty = 5 then beL F.oth 4 else if F.ty = 7 then beL F.oth 4 ++ beL F.code 4 else if F.ty = 8 then beL F.win 4 else []
def rheadL (F : Fr) : List Int := if leansB F.ty F.fl = true then rleanL F else rmidL F
def rpayL (F : Fr) : List Int := if 0 ≤ F.pad then [F.pad % 256] ++ (rheadL F ++ F.data) ++ List.replicate F.pad.toNat 0 else rheadL F ++ F.data
structure FrOk (F : Fr) : Prop where
 fl0 : 0 ≤ F.fl
 fl1 : F.fl ≤ 255
 code0 : 0 ≤ F.code
 code1 : F.code ≤ 4294967295
 oth0 : 0 ≤ F.oth
 oth1 : F.oth ≤ 4294967295
 win0 : 0 ≤ F.win
 win1 : F.win ≤ 4294967295
 sets : ∀ s ∈ F.sets, 0 ≤ s.f0 ∧ s.f0 ≤ 65535 ∧ 0 ≤ s.f1 ∧ s.f1 ≤ 4294967295
theorem u64_wrap {n : Int} (h0 : 0 ≤ n) (h1 : n ≤ 18446744073709551615) : IntKind.u64.wrap n = n := by
 simp [IntKind.wrap, IntKind.bits, IntKind.signed]
 omega
theorem rsetL_len (s : S99) : (rsetL s).length = 6 := by simp [rsetL, beL_length]
theorem sets_len : ∀ (l : List S99), (l.flatMap rsetL).length = 6 * l.length
 | [] => rfl
 | x :: l => by rw [List.flatMap_cons, List.length_append, sets_len l, rsetL_len, List.length_cons]; omega
theorem rmid_len (F : Fr) (h : F.sets.length ≤ 10000) : (rmidL F).length ≤ 60000 := by
 unfold rmidL
 split
 ·simp [beL_length]
 split
 ·rw [sets_len]; omega
 split
 ·simp [beL_length]
 split
 ·simp [beL_length]
 split
 ·simp [beL_length]
 ·simp
theorem rlean_calls (w : World) (F : Fr) (A B : Option Addr) (c m : Nat) (hA : Kd.C (Kd.int .u8) w A F.data.length F.data) (hc : F.data.length ≤ c) (hB : Kd.C k99 w B F.sets.length F.sets) (hm : F.sets.length ≤ m) (h : FrOk F) :
  Calls Tryd.prog 76 #[.agg (frC F (.slice A F.data.length c) (.slice B F.sets.length m))] w fun e w' => e = .returned (.string (strOfNums (rleanL F))) ∧ Below w.heap.size w w' := by
 have hn : ∀ n : Int, 0 ≤ n → n ≤ 18446744073709551615 → ∃ k, QFrmN.louverref07_Number.f k n 4 = some (strOfNums (beL n 4)) := fun n h0 h1 => by
  have e := ev_number_ref_loop 4 4 0 n ⟨#[]⟩ (by omega) (by decide) h0 h1 (by decide)
  have e2 : strOfNums (beL n 4) ++ (⟨#[]⟩ : ByteArray) = strOfNums (beL n 4) := by
   refine bytes_ext ?_
   simp
  rw [e2] at e
  obtain ⟨k, hk⟩ := e.rounds
  exact ⟨k, hk⟩
 have ho : ∃ k, QFrmL.louverref07_lean.f k F.ty F.fl F.st F.data F.pad F.code F.oth F.wgt F.al F.win F.sets = some (strOfNums (rleanL F)) := by
  unfold QFrmL.louverref07_lean.f rleanL
  have ew : IntKind.u64.wrap F.oth = F.oth := u64_wrap h.oth0 (by have := h.oth1; omega)
  have ew2 : IntKind.u64.wrap (F.oth + 2147483648) = F.oth + 2147483648 := u64_wrap (by have := h.oth0; omega) (by have := h.oth1; omega)
  rw [ew, ew2]
  cases F.al
  ·obtain ⟨k, hk⟩ := hn F.oth h.oth0 (by have := h.oth1; omega)
   refine ⟨k, ?_⟩
   simp only [Bool.false_eq_true, if_false]
   rw [hk]
   simp only [Option.bind_some]
   rw [if_pos (by rw [str_size, str_size, beL_length]; exact Nat.le_of_ble_eq_true rfl), strs_append]
  ·obtain ⟨k, hk⟩ := hn (F.oth + 2147483648) (by have := h.oth0; omega) (by have := h.oth1; omega)
   refine ⟨k, ?_⟩
   simp only [if_true]
   rw [hk]
   simp only [Option.bind_some]
   rw [if_pos (by rw [str_size, str_size, beL_length]; exact Nat.le_of_ble_eq_true rfl), strs_append]
 obtain ⟨k, hk⟩ := ho
 exact QFrmL.louverref07_lean.calls k F.ty F.fl F.st A c F.data F.pad F.code F.oth F.wgt F.al F.win B m F.sets _ w hA hc hB hm hk
theorem fits_cat {a b : List Int} (h : a.length + b.length ≤ 1000000) : (strOfNums a).size + (strOfNums b).size ≤ 9223372036854775807 := by rw [str_size, str_size]; omega
set_option maxHeartbeats 8000000 in
set_option maxRecDepth 100000 in
theorem rpay_calls (w : World) (F : Fr) (A B : Option Addr) (c m : Nat) (hA : Kd.C (Kd.int .u8) w A F.data.length F.data) (hc : F.data.length ≤ c) (hB : Kd.C k99 w B F.sets.length F.sets) (hm : F.sets.length ≤ m) (h : FrOk F)
  (hp0 : -1 ≤ F.pad) (hp1 : F.pad ≤ 255) (hd : F.data.length ≤ 100000) (hs : F.sets.length ≤ 10000) :
  Calls Tryd.prog 52 #[.agg (frC F (.slice A F.data.length c) (.slice B F.sets.length m))] w fun e w' => e = .returned (.string (strOfNums (rpayL F))) ∧ Below w.heap.size w w' := by
 refine of_post0 fun R hRR => ?_
 have HP := Lib.hid hRR
 have HK := Lib.hid h
 have HA := Lib.hid (And.intro hA (And.intro hc (And.intro hB hm)))
 have HZ := Lib.hid (And.intro hp0 (And.intro hp1 (And.intro hd hs)))
 have uc : IntKind.u64.wrap F.code = F.code := u64_wrap h.code0 (by have := h.code1; omega)
 have uo : IntKind.u64.wrap F.oth = F.oth := u64_wrap h.oth0 (by have := h.oth1; omega)
 have uw : IntKind.u64.wrap F.win = F.win := u64_wrap h.win0 (by have := h.win1; omega)
 have NC := Lib.hid (fun W => rnumber_calls W F.code 4 (by decide) h.code0 (by have := h.code1; omega))
 have NO := Lib.hid (fun W => rnumber_calls W F.oth 4 (by decide) h.oth0 (by have := h.oth1; omega))
 have NW := Lib.hid (fun W => rnumber_calls W F.win 4 (by decide) h.win0 (by have := h.win1; omega))
 have HF := Lib.hid (show ((strOfNums (beL F.oth 4)).size + (strOfNums (beL F.code 4)).size ≤ 9223372036854775807) from fits_cat (by rw [beL_length, beL_length]; decide))
 have hcat := eq_false (Nat.not_lt.2 HF.out)
 clear hRR h hA hc hB hm hp0 hp1 hd hs
 have H : Hold w w [] [] := Hold.nothing (Kept.refl _ _)
 go_enter Tryd.func52, Tryd.ntmps52
 go_upto_block 0 with (first
  | (refine box_h H rfl rfl rfl rfl ?_; clear H; intro g w_ H)
  | (refine loadf_h H rfl rfl rfl (by repeat (first | exact List.Mem.head _ | apply List.Mem.tail)) rfl (by kernel_rfl) ?_))
 (try simp only [Act.put, putA, putB, putC])
 go_cut [3] (fun v3 wc => v3 = .string (strOfNums (rmidL F)) ∧ Hold w wc [] [cl g (frC F (.slice A F.data.length c) (.slice B F.sets.length m)).toList 38])
 case first =>
  by_cases t3 : F.ty = 3
  ·have b_ : (F.ty == 3) = true := by rw [beq_iff_eq]; exact t3
   have E := Lib.hid (show rmidL F = beL F.code 4 by unfold rmidL; rw [if_pos t3])
   clear t3
   go_wp2_with (first
    | (refine loadf_h H rfl rfl rfl (by repeat (first | exact List.Mem.head _ | apply List.Mem.tail)) rfl (by kernel_rfl) ?_)
    | (go_at_call 30; refine (NC.out _).mono ?_; rintro e_ w_ ⟨rfl, h_⟩; replace H := H.below h_; clear h_))
   go_meet
   exact ⟨by rw [E.out], H⟩
  have b3 : (F.ty == 3) = false := by rw [beq_eq_false_iff_ne]; exact t3
  by_cases t4 : F.ty = 4
  ·have b_ : (F.ty == 4) = true := by rw [beq_iff_eq]; exact t4
   have E := Lib.hid (show rmidL F = F.sets.flatMap rsetL by unfold rmidL; rw [if_neg t3]; rw [if_pos t4])
   clear t3 t4
   go_wp2_with (first | (refine loadf_h H rfl rfl rfl (by repeat (first | exact List.Mem.head _ | apply List.Mem.tail)) rfl (by kernel_rfl) ?_))
   go_loopg [3, 18] F.sets.length (fun k v3 v18 wr => ∃ j : Nat, v18 = .int .i64 (j : Int) ∧ j + k = F.sets.length ∧ v3 = .string (strOfNums ((F.sets.take j).flatMap rsetL)) ∧ Hold w wr [] [cl g (frC F (.slice A F.data.length c) (.slice B F.sets.length m)).toList 38])
   case atStart => exact ⟨0, rfl, by omega, rfl, H⟩
   case round =>
    clear H
    obtain ⟨j, rfl, hj, rfl, H⟩ := hrel
    cases gk with
    | zero =>
     have d0 : decide ((j : Int) < (F.sets.length : Int)) = false := by rw [decide_eq_false_iff_not]; omega
     have d1 : decide (j < F.sets.length) = false := by rw [decide_eq_false_iff_not]; omega
     have HJ := Lib.hid hj
     clear hj
     go_wp2_with fail
     go_meet
     exact ⟨by rw [E.out, List.take_of_length_le (by have := HJ.out; omega)], H⟩
    | succ k =>
     have hlm := HZ.out.2.2.2
     have p0_ : (0 : Int) ≤ (j : Int) := by omega
     have q0_ : (j : Int) < (F.sets.length : Int) := by omega
     have d0 : decide ((j : Int) < (F.sets.length : Int)) = true := decide_eq_true q0_
     have d1 : decide (j < F.sets.length) = true := decide_eq_true (by omega)
     have d2 : j < F.sets.length := by omega
     obtain ⟨ad, e1, ha0, ha1⟩ := at_T99 (Kd.C_below HA.out.2.2.1 H.all) (j : Int) p0_ q0_
     subst e1
     have x10 := (H.cell (by repeat (first | exact List.Mem.head _ | apply List.Mem.tail)) 10).trans (show _ = some (Value.slice (some ad) F.sets.length m) from rfl)
     have hsv := HK.out.sets (rd_T99 F.sets (j : Int)) (by unfold rd_T99; rw [List.getD_eq_getElem?_getD, Int.toNat_natCast, List.getElem?_eq_getElem d2]; exact List.getElem_mem d2)
     have htk : (F.sets.take (j + 1)).flatMap rsetL = (F.sets.take j).flatMap rsetL ++ rsetL (rd_T99 F.sets (j : Int)) := by
      unfold rd_T99
      rw [List.getD_eq_getElem?_getD, Int.toNat_natCast, List.getElem?_eq_getElem d2, List.take_succ_eq_append_getElem d2, List.flatMap_append]
      simp
     have hlt := sets_len (F.sets.take j)
     rw [List.length_take] at hlt
     have hlt2 : ((F.sets.take j).flatMap rsetL).length ≤ 60000 := by rw [hlt]; omega
     have HT := Lib.hid (And.intro htk (And.intro hlt2 hj))
     generalize rd_T99 F.sets (j : Int) = sv at ha0 ha1 hsv HT
     have s0 : IntKind.u64.wrap sv.f0 = sv.f0 := u64_wrap hsv.1 (by omega)
     have s1 : IntKind.u64.wrap sv.f1 = sv.f1 := u64_wrap hsv.2.2.1 (by omega)
     have N0 := Lib.hid (fun W => rnumber_calls W sv.f0 2 (by decide) hsv.1 (by omega))
     have N1 := Lib.hid (fun W => rnumber_calls W sv.f1 4 (by decide) hsv.2.2.1 (by omega))
     have c0 := eq_false (Nat.not_lt.2 (fits_cat (a := (F.sets.take j).flatMap rsetL) (b := beL sv.f0 2) (by rw [beL_length]; omega)))
     have c1 := eq_false (Nat.not_lt.2 (show ((strOfNums ((F.sets.take j).flatMap rsetL)).size + (strOfNums (beL sv.f0 2)).size + (strOfNums (beL sv.f1 4)).size ≤ 9223372036854775807) from (by rw [str_size, str_size, str_size, beL_length, beL_length]; omega)))
     clear hsv htk hlt hlt2 hj
     simp only [Int.toNat_natCast] at ha0 ha1
     go_wp2_with fail
     replace H := H.below (below_drew (Below.refl _ _))
     refine start_ (n := 20) (S := fun w' => w'.cell? ⟨g, 10, none⟩ = some (.slice (some ad) F.sets.length m) ∧ w'.cell? (ad.add (j * 2)) = some (.int .u16 sv.f0) ∧ w'.cell? ⟨(ad.add (j * 2)).block, (ad.add (j * 2)).off + 1, none⟩ = some (.int .u32 sv.f1)) (ds := []) #[false, false, false, false, false, false, false, false, false, false, false, false, false, false, false, false, false, false, false, false] (by kernel_rfl) rfl rfl ⟨x10, ha0, ha1⟩ (fun hHeld => ?_)
     generalize World.drew _ = wy at H hHeld ⊢
     refine pure_ (i := 0) (N := some 21) (v := ?_) (a' := ?_) #[true, false, false, false, false, false, false, false, false, false, false, false, false, false, false, false, false, false, false, false] rfl rfl (by kernel_rfl) (fun _ _ _ h => h) (Or.inl ⟨by rfl, ?_⟩) ?_ ?_
     rotate_left
     ·intro w'
      go_simp
      with_reducible rfl
     rotate_left
     ·simp only [Act.put, putA, putB, putC]
      rfl
     refine pure_ (i := 1) (N := some 22) (v := ?_) (a' := ?_) #[true, true, false, false, false, false, false, false, false, false, false, false, false, false, false, false, false, false, false, false] rfl rfl (by kernel_rfl) (fun _ _ _ h => h) (Or.inl ⟨by rfl, ?_⟩) ?_ ?_
     rotate_left
     ·intro w'
      go_simp
      with_reducible rfl
     rotate_left
     ·simp only [Act.put, putA, putB, putC]
      rfl
     refine take_ (i := 2) (N := some 23) (v := ?_) (a' := ?_) #[true, true, true, false, false, false, false, false, false, false, false, false, false, false, false, false, false, false, false, false] rfl rfl (by kernel_rfl) (fun _ _ _ h => h) (Or.inl ⟨by rfl, ?_⟩) hHeld ?_ ?_
     rotate_left
     ·rintro w' ⟨s0, s1, s2⟩
      go_simp
      with_reducible rfl
     rotate_left
     ·simp only [Act.put, putA, putB, putC]
      rfl
     refine pure_ (i := 3) (N := some 24) (v := ?_) (a' := ?_) #[true, true, true, true, false, false, false, false, false, false, false, false, false, false, false, false, false, false, false, false] rfl rfl (by kernel_rfl) (fun _ _ _ h => h) (Or.inl ⟨by rfl, ?_⟩) ?_ ?_
     rotate_left
     ·intro w'
      go_simp
      with_reducible rfl
     rotate_left
     ·simp only [Act.put, putA, putB, putC]
      rfl
     refine pure_ (i := 4) (N := some 25) (v := ?_) (a' := ?_) #[true, true, true, true, true, false, false, false, false, false, false, false, false, false, false, false, false, false, false, false] rfl rfl (by kernel_rfl) (fun _ _ _ h => h) (Or.inl ⟨by rfl, ?_⟩) ?_ ?_
     rotate_left
     ·intro w'
      go_simp
      with_reducible rfl
     rotate_left
     ·simp only [Act.put, putA, putB, putC]
      rfl
     refine pure_ (i := 5) (N := some 26) (v := ?_) (a' := ?_) #[true, true, true, true, true, true, false, false, false, false, false, false, false, false, false, false, false, false, false, false] rfl rfl (by kernel_rfl) (fun _ _ _ h => h) (Or.inl ⟨by rfl, ?_⟩) ?_ ?_
     rotate_left
     ·intro w'
      go_simp
      with_reducible rfl
     rotate_left
     ·simp only [Act.put, putA, putB, putC]
      rfl
     refine take_ (i := 6) (N := some 27) (v := ?_) (a' := ?_) #[true, true, true, true, true, true, true, false, false, false, false, false, false, false, false, false, false, false, false, false] rfl rfl (by kernel_rfl) (fun _ _ _ h => h) (Or.inl ⟨by rfl, ?_⟩) hHeld ?_ ?_
     rotate_left
     ·rintro w' ⟨s0, s1, s2⟩
      go_simp
      with_reducible rfl
     rotate_left
     ·simp only [Act.put, putA, putB, putC]
      rfl
     refine pure_ (i := 7) (N := some 28) (v := ?_) (a' := ?_) #[true, true, true, true, true, true, true, true, false, false, false, false, false, false, false, false, false, false, false, false] rfl rfl (by kernel_rfl) (fun _ _ _ h => h) (Or.inl ⟨by rfl, ?_⟩) ?_ ?_
     rotate_left
     ·intro w'
      go_simp
      with_reducible rfl
     rotate_left
     ·simp only [Act.put, putA, putB, putC]
      rfl
     refine pure_ (i := 10) (N := some 31) (v := ?_) (a' := ?_) #[true, true, true, true, true, true, true, true, false, false, true, false, false, false, false, false, false, false, false, false] rfl rfl (by kernel_rfl) (fun _ _ _ h => h) (Or.inl ⟨by rfl, ?_⟩) ?_ ?_
     rotate_left
     ·intro w'
      go_simp
      with_reducible rfl
     rotate_left
     ·simp only [Act.put, putA, putB, putC]
      rfl
     refine take_ (i := 11) (N := some 32) (v := ?_) (a' := ?_) #[true, true, true, true, true, true, true, true, false, false, true, true, false, false, false, false, false, false, false, false] rfl rfl (by kernel_rfl) (fun _ _ _ h => h) (Or.inl ⟨by rfl, ?_⟩) hHeld ?_ ?_
     rotate_left
     ·rintro w' ⟨s0, s1, s2⟩
      go_simp
      with_reducible rfl
     rotate_left
     ·simp only [Act.put, putA, putB, putC]
      rfl
     refine pure_ (i := 12) (N := some 33) (v := ?_) (a' := ?_) #[true, true, true, true, true, true, true, true, false, false, true, true, true, false, false, false, false, false, false, false] rfl rfl (by kernel_rfl) (fun _ _ _ h => h) (Or.inl ⟨by rfl, ?_⟩) ?_ ?_
     rotate_left
     ·intro w'
      go_simp
      with_reducible rfl
     rotate_left
     ·simp only [Act.put, putA, putB, putC]
      rfl
     refine pure_ (i := 13) (N := some 34) (v := ?_) (a' := ?_) #[true, true, true, true, true, true, true, true, false, false, true, true, true, true, false, false, false, false, false, false] rfl rfl (by kernel_rfl) (fun _ _ _ h => h) (Or.inl ⟨by rfl, ?_⟩) ?_ ?_
     rotate_left
     ·intro w'
      go_simp
      with_reducible rfl
     rotate_left
     ·simp only [Act.put, putA, putB, putC]
      rfl
     refine pure_ (i := 14) (N := some 35) (v := ?_) (a' := ?_) #[true, true, true, true, true, true, true, true, false, false, true, true, true, true, true, false, false, false, false, false] rfl rfl (by kernel_rfl) (fun _ _ _ h => h) (Or.inl ⟨by rfl, ?_⟩) ?_ ?_
     rotate_left
     ·intro w'
      go_simp
      with_reducible rfl
     rotate_left
     ·simp only [Act.put, putA, putB, putC]
      rfl
     refine take_ (i := 15) (N := some 36) (v := ?_) (a' := ?_) #[true, true, true, true, true, true, true, true, false, false, true, true, true, true, true, true, false, false, false, false] rfl rfl (by kernel_rfl) (fun _ _ _ h => h) (Or.inl ⟨by rfl, ?_⟩) hHeld ?_ ?_
     rotate_left
     ·rintro w' ⟨s0, s1, s2⟩
      go_simp
      with_reducible rfl
     rotate_left
     ·simp only [Act.put, putA, putB, putC]
      rfl
     refine pure_ (i := 16) (N := some 37) (v := ?_) (a' := ?_) #[true, true, true, true, true, true, true, true, false, false, true, true, true, true, true, true, true, false, false, false] rfl rfl (by kernel_rfl) (fun _ _ _ h => h) (Or.inl ⟨by rfl, ?_⟩) ?_ ?_
     rotate_left
     ·intro w'
      go_simp
      with_reducible rfl
     rotate_left
     ·simp only [Act.put, putA, putB, putC]
      rfl
     refine one_ (i := 8) (N := some 29) #[true, true, true, true, true, true, true, true, true, false, true, true, true, true, true, true, true, false, false, false] rfl rfl (by kernel_rfl) (by decide) (fun K hK => ?_)
     refine goes_ Tryd.func30 (by kernel_rfl) rfl #[.int .u64 sv.f0, .int .i64 2] (by rfl) rfl rfl (by (try simp only [List.map_toArray, List.map_cons, List.map_nil]); first | done | rfl) ?_
     refine (N0.out _).mono ?_
     rintro e w9 ⟨rfl, h_⟩
     have hS := Lib.hid (show (fun w' : World => w'.cell? ⟨g, 10, none⟩ = some (.slice (some ad) F.sets.length m) ∧ w'.cell? (ad.add (j * 2)) = some (.int .u16 sv.f0) ∧ w'.cell? ⟨(ad.add (j * 2)).block, (ad.add (j * 2)).off + 1, none⟩ = some (.int .u32 sv.f1)) _ from ⟨pw_cell_below h_ hHeld.1, pw_cell_below h_ hHeld.2.1, pw_cell_below h_ hHeld.2.2⟩)
     replace H := H.below h_
     clear h_
     refine ⟨_, rfl, ?_⟩
     refine hK.out _ _ hS.out (fun hHeld => ?_)
     clear hK K
     refine norm_ (a' := ?_) ?_ ?_
     rotate_left
     ·show Act.put _ (some 29) _ = _
      simp only [Act.put, putA, putB, putC]
      rfl
     clear hS
     refine pure_ (i := 9) (N := some 30) (v := ?_) (a' := ?_) #[true, true, true, true, true, true, true, true, true, true, true, true, true, true, true, true, true, false, false, false] rfl rfl (by kernel_rfl) (fun _ _ _ h => h) (Or.inl ⟨by rfl, ?_⟩) ?_ ?_
     rotate_left
     ·intro w'
      go_simp
      with_reducible rfl
     rotate_left
     ·simp only [Act.put, putA, putB, putC]
      rfl
     refine one_ (i := 17) (N := some 38) #[true, true, true, true, true, true, true, true, true, true, true, true, true, true, true, true, true, true, false, false] rfl rfl (by kernel_rfl) (by decide) (fun K hK => ?_)
     refine goes_ Tryd.func30 (by kernel_rfl) rfl #[.int .u64 sv.f1, .int .i64 4] (by rfl) rfl rfl (by (try simp only [List.map_toArray, List.map_cons, List.map_nil]); first | done | rfl) ?_
     refine (N1.out _).mono ?_
     rintro e w9 ⟨rfl, h_⟩
     have hS := Lib.hid (show (fun w' : World => w'.cell? ⟨g, 10, none⟩ = some (.slice (some ad) F.sets.length m) ∧ w'.cell? (ad.add (j * 2)) = some (.int .u16 sv.f0) ∧ w'.cell? ⟨(ad.add (j * 2)).block, (ad.add (j * 2)).off + 1, none⟩ = some (.int .u32 sv.f1)) _ from ⟨pw_cell_below h_ hHeld.1, pw_cell_below h_ hHeld.2.1, pw_cell_below h_ hHeld.2.2⟩)
     replace H := H.below h_
     clear h_
     refine ⟨_, rfl, ?_⟩
     refine hK.out _ _ hS.out (fun hHeld => ?_)
     clear hK K
     refine norm_ (a' := ?_) ?_ ?_
     rotate_left
     ·show Act.put _ (some 38) _ = _
      simp only [Act.put, putA, putB, putC]
      rfl
     clear hS
     refine pure_ (i := 18) (N := some 39) (v := ?_) (a' := ?_) #[true, true, true, true, true, true, true, true, true, true, true, true, true, true, true, true, true, true, true, false] rfl rfl (by kernel_rfl) (fun _ _ _ h => h) (Or.inl ⟨by rfl, ?_⟩) ?_ ?_
     rotate_left
     ·intro w'
      go_simp
      with_reducible rfl
     rotate_left
     ·simp only [Act.put, putA, putB, putC]
      rfl
     refine pure_ (i := 19) (N := some 3) (v := ?_) (a' := ?_) #[true, true, true, true, true, true, true, true, true, true, true, true, true, true, true, true, true, true, true, true] rfl rfl (by kernel_rfl) (fun _ _ _ h => h) (Or.inl ⟨by rfl, ?_⟩) ?_ ?_
     rotate_left
     ·intro w'
      go_simp
      with_reducible rfl
     rotate_left
     ·simp only [Act.put, putA, putB, putC]
      rfl
     refine done_ (by kernel_rfl) ?_
     go_wp2_with fail
     go_roundg k
     case measure => omega
     case rel => exact ⟨j + 1, by first | rfl | (simp; done), by have := HT.out.2.2; omega, by rw [HT.out.1, rsetL, ← strs_append, ← strs_append, ByteArray.append_assoc], H⟩
  have b4 : (F.ty == 4) = false := by rw [beq_eq_false_iff_ne]; exact t4
  by_cases t5 : F.ty = 5
  ·have b_ : (F.ty == 5) = true := by rw [beq_iff_eq]; exact t5
   have E := Lib.hid (show rmidL F = beL F.oth 4 by unfold rmidL; rw [if_neg t3]; rw [if_neg t4]; rw [if_pos t5])
   clear t3 t4 t5
   go_wp2_with (first
    | (refine loadf_h H rfl rfl rfl (by repeat (first | exact List.Mem.head _ | apply List.Mem.tail)) rfl (by kernel_rfl) ?_)
    | (go_at_call 30; refine (NO.out _).mono ?_; rintro e_ w_ ⟨rfl, h_⟩; replace H := H.below h_; clear h_))
   go_meet
   exact ⟨by rw [E.out], H⟩
  have b5 : (F.ty == 5) = false := by rw [beq_eq_false_iff_ne]; exact t5
  by_cases t7 : F.ty = 7
  ·have b_ : (F.ty == 7) = true := by rw [beq_iff_eq]; exact t7
   have E := Lib.hid (show rmidL F = beL F.oth 4 ++ beL F.code 4 by unfold rmidL; rw [if_neg t3]; rw [if_neg t4]; rw [if_neg t5]; rw [if_pos t7])
   clear t3 t4 t5 t7
   go_wp2_with (first
    | (refine loadf_h H rfl rfl rfl (by repeat (first | exact List.Mem.head _ | apply List.Mem.tail)) rfl (by kernel_rfl) ?_))
   replace H := H.below (below_drew (Below.refl _ _))
   refine start_ (n := 10) (S := fun w' => w'.cell? ⟨g, 6, none⟩ = some (.int .u32 F.oth) ∧ w'.cell? ⟨g, 5, none⟩ = some (.int .u32 F.code)) (ds := []) #[false, false, false, false, false, false, false, false, false, false] (by kernel_rfl) rfl rfl ⟨((H.cell (by repeat (first | exact List.Mem.head _ | apply List.Mem.tail)) 6).trans rfl), ((H.cell (by repeat (first | exact List.Mem.head _ | apply List.Mem.tail)) 5).trans rfl)⟩ (fun hHeld => ?_)
   generalize World.drew _ = wy at H hHeld ⊢
   refine pure_ (i := 0) (N := some 49) (v := ?_) (a' := ?_) #[true, false, false, false, false, false, false, false, false, false] rfl rfl (by kernel_rfl) (fun _ _ _ h => h) (Or.inl ⟨by rfl, ?_⟩) ?_ ?_
   rotate_left
   ·intro w'
    go_simp
    with_reducible rfl
   rotate_left
   ·simp only [Act.put, putA, putB, putC]
    rfl
   refine take_ (i := 1) (N := some 50) (v := ?_) (a' := ?_) #[true, true, false, false, false, false, false, false, false, false] rfl rfl (by kernel_rfl) (fun _ _ _ h => h) (Or.inl ⟨by rfl, ?_⟩) hHeld ?_ ?_
   rotate_left
   ·rintro w' ⟨s0, s1⟩
    go_simp
    with_reducible rfl
   rotate_left
   ·simp only [Act.put, putA, putB, putC]
    rfl
   refine pure_ (i := 2) (N := some 51) (v := ?_) (a' := ?_) #[true, true, true, false, false, false, false, false, false, false] rfl rfl (by kernel_rfl) (fun _ _ _ h => h) (Or.inl ⟨by rfl, ?_⟩) ?_ ?_
   rotate_left
   ·intro w'
    go_simp
    with_reducible rfl
   rotate_left
   ·simp only [Act.put, putA, putB, putC]
    rfl
   refine pure_ (i := 4) (N := some 53) (v := ?_) (a' := ?_) #[true, true, true, false, true, false, false, false, false, false] rfl rfl (by kernel_rfl) (fun _ _ _ h => h) (Or.inl ⟨by rfl, ?_⟩) ?_ ?_
   rotate_left
   ·intro w'
    go_simp
    with_reducible rfl
   rotate_left
   ·simp only [Act.put, putA, putB, putC]
    rfl
   refine take_ (i := 5) (N := some 54) (v := ?_) (a' := ?_) #[true, true, true, false, true, true, false, false, false, false] rfl rfl (by kernel_rfl) (fun _ _ _ h => h) (Or.inl ⟨by rfl, ?_⟩) hHeld ?_ ?_
   rotate_left
   ·rintro w' ⟨s0, s1⟩
    go_simp
    with_reducible rfl
   rotate_left
   ·simp only [Act.put, putA, putB, putC]
    rfl
   refine pure_ (i := 6) (N := some 55) (v := ?_) (a' := ?_) #[true, true, true, false, true, true, true, false, false, false] rfl rfl (by kernel_rfl) (fun _ _ _ h => h) (Or.inl ⟨by rfl, ?_⟩) ?_ ?_
   rotate_left
   ·intro w'
    go_simp
    with_reducible rfl
   rotate_left
   ·simp only [Act.put, putA, putB, putC]
    rfl
   refine one_ (i := 3) (N := some 52) #[true, true, true, true, true, true, true, false, false, false] rfl rfl (by kernel_rfl) (by decide) (fun K hK => ?_)
   refine goes_ Tryd.func30 (by kernel_rfl) rfl #[.int .u64 F.oth, .int .i64 4] (by rfl) rfl rfl (by (try simp only [List.map_toArray, List.map_cons, List.map_nil]); first | done | rfl) ?_
   refine (NO.out _).mono ?_
   rintro e w9 ⟨rfl, h_⟩
   have hS := Lib.hid (show (fun w' : World => w'.cell? ⟨g, 6, none⟩ = some (.int .u32 F.oth) ∧ w'.cell? ⟨g, 5, none⟩ = some (.int .u32 F.code)) _ from ⟨pw_cell_below h_ hHeld.1, pw_cell_below h_ hHeld.2⟩)
   replace H := H.below h_
   clear h_
   refine ⟨_, rfl, ?_⟩
   refine hK.out _ _ hS.out (fun hHeld => ?_)
   clear hK K
   refine norm_ (a' := ?_) ?_ ?_
   rotate_left
   ·show Act.put _ (some 52) _ = _
    simp only [Act.put, putA, putB, putC]
    rfl
   clear hS
   refine one_ (i := 7) (N := some 56) #[true, true, true, true, true, true, true, true, false, false] rfl rfl (by kernel_rfl) (by decide) (fun K hK => ?_)
   refine goes_ Tryd.func30 (by kernel_rfl) rfl #[.int .u64 F.code, .int .i64 4] (by rfl) rfl rfl (by (try simp only [List.map_toArray, List.map_cons, List.map_nil]); first | done | rfl) ?_
   refine (NC.out _).mono ?_
   rintro e w9 ⟨rfl, h_⟩
   have hS := Lib.hid (show (fun w' : World => w'.cell? ⟨g, 6, none⟩ = some (.int .u32 F.oth) ∧ w'.cell? ⟨g, 5, none⟩ = some (.int .u32 F.code)) _ from ⟨pw_cell_below h_ hHeld.1, pw_cell_below h_ hHeld.2⟩)
   replace H := H.below h_
   clear h_
   refine ⟨_, rfl, ?_⟩
   refine hK.out _ _ hS.out (fun hHeld => ?_)
   clear hK K
   refine norm_ (a' := ?_) ?_ ?_
   rotate_left
   ·show Act.put _ (some 56) _ = _
    simp only [Act.put, putA, putB, putC]
    rfl
   clear hS
   refine pure_ (i := 8) (N := some 57) (v := ?_) (a' := ?_) #[true, true, true, true, true, true, true, true, true, false] rfl rfl (by kernel_rfl) (fun _ _ _ h => h) (Or.inl ⟨by rfl, ?_⟩) ?_ ?_
   rotate_left
   ·intro w'
    go_simp
    with_reducible rfl
   rotate_left
   ·simp only [Act.put, putA, putB, putC]
    rfl
   refine pure_ (i := 9) (N := some 3) (v := ?_) (a' := ?_) #[true, true, true, true, true, true, true, true, true, true] rfl rfl (by kernel_rfl) (fun _ _ _ h => h) (Or.inl ⟨by rfl, ?_⟩) ?_ ?_
   rotate_left
   ·intro w'
    go_simp
    with_reducible rfl
   rotate_left
   ·simp only [Act.put, putA, putB, putC]
    rfl
   refine done_ (by kernel_rfl) ?_
   go_wp2_with fail
   go_meet
   exact ⟨by rw [E.out, strs_append], H⟩
  have b7 : (F.ty == 7) = false := by rw [beq_eq_false_iff_ne]; exact t7
  by_cases t8 : F.ty = 8
  ·have b_ : (F.ty == 8) = true := by rw [beq_iff_eq]; exact t8
   have E := Lib.hid (show rmidL F = beL F.win 4 by unfold rmidL; rw [if_neg t3]; rw [if_neg t4]; rw [if_neg t5]; rw [if_neg t7]; rw [if_pos t8])
   clear t3 t4 t5 t7 t8
   go_wp2_with (first
    | (refine loadf_h H rfl rfl rfl (by repeat (first | exact List.Mem.head _ | apply List.Mem.tail)) rfl (by kernel_rfl) ?_)
    | (go_at_call 30; refine (NW.out _).mono ?_; rintro e_ w_ ⟨rfl, h_⟩; replace H := H.below h_; clear h_))
   go_meet
   exact ⟨by rw [E.out], H⟩
  have b8 : (F.ty == 8) = false := by rw [beq_eq_false_iff_ne]; exact t8
  have E := Lib.hid (show rmidL F = [] by unfold rmidL; rw [if_neg t3, if_neg t4, if_neg t5, if_neg t7, if_neg t8])
  clear t3 t4 t5 t7 t8
  go_wp2_with (first
   | (refine loadf_h H rfl rfl rfl (by repeat (first | exact List.Mem.head _ | apply List.Mem.tail)) rfl (by kernel_rfl) ?_))
  go_meet
  exact ⟨by rw [E.out]; rfl, H⟩
 case rest =>
  obtain ⟨rfl, H⟩ := hcut
  cases hl : leansB F.ty F.fl
  ·have HL := Lib.hid hl
   have HE := Lib.hid (show rheadL F = rmidL F by unfold rheadL; rw [hl]; rfl)
   have hz1 : (rmidL F).length ≤ 60000 := by exact rmid_len F HZ.out.2.2.2
   have hz2 := HZ.out.2.2.1
   have cc := eq_false (Nat.not_lt.2 (fits_cat (a := rmidL F) (b := F.data) (by omega)))
   have HZ1 := Lib.hid hz1
   clear hl hz1 hz2
   go_upto_region 19 with (first
    | (refine load_h H rfl rfl rfl (by repeat (first | exact List.Mem.head _ | apply List.Mem.tail)) (by kernel_rfl) (by kernel_rfl) ?_)
    | (go_at_call 51; refine (rleans_calls _ F _ _ HK.out.fl0 HK.out.fl1).mono ?_; rintro e_ w_ ⟨rfl, h_⟩; rw [HL.out]; replace H := H.below h_; clear h_))
   have cv := string_of_reads (c := c) Tryd.underlying35 Tryd.underlying5 Tryd.underlying9 (H.reads0 (Kd_reads HA.out.1))
   go_upto_region 20 with (first | (refine loadf_h H rfl rfl rfl (by repeat (first | exact List.Mem.head _ | apply List.Mem.tail)) rfl (by kernel_rfl) ?_))
   clear cv
   by_cases hp : 0 ≤ F.pad
   ·have bp : decide (0 ≤ F.pad) = true := decide_eq_true hp
    obtain ⟨m1, hm1⟩ := Int.eq_ofNat_of_zero_le hp
    have hp1 := HZ.out.2.1
    have hm2 : m1 ≤ 255 := by omega
    have zd := HZ.out.2.2.1
    have zh := HZ1.out
    have c1 := eq_false (Nat.not_lt.2 (show (strOfNums [(m1 : Int) % 256]).size + ((strOfNums (rmidL F)).size + (strOfNums F.data).size) ≤ 9223372036854775807 from (by rw [str_size, str_size, str_size]; simp only [List.length_cons, List.length_nil]; omega)))
    have c2 := eq_false (Nat.not_lt.2 (show (strOfNums [(m1 : Int) % 256]).size + ((strOfNums (rmidL F)).size + (strOfNums F.data).size) + (strOfNums (List.replicate m1 0)).size ≤ 9223372036854775807 from (by rw [str_size, str_size, str_size, str_size, List.length_replicate]; simp only [List.length_cons, List.length_nil]; omega)))
    have EP := Lib.hid (show rpayL F = [(m1 : Int) % 256] ++ (rheadL F ++ F.data) ++ List.replicate m1 0 by unfold rpayL; rw [if_pos hp, hm1]; rfl)
    clear hp1 zd zh
    go_upto_region 21 with (first | (refine loadf_h H rfl rfl rfl (by repeat (first | exact List.Mem.head _ | apply List.Mem.tail)) rfl (by kernel_rfl) ?_))
    replace H := H.below (below_drew (Below.refl _ _))
    refine start_ (n := 13) (S := fun w' => w'.cell? ⟨g, 4, none⟩ = some (.int .i64 (m1 : Int))) (ds := []) #[false, false, false, false, false, false, false, false, false, false, false, false, false] (by kernel_rfl) rfl rfl ((H.cell (by repeat (first | exact List.Mem.head _ | apply List.Mem.tail)) 4).trans (show _ = some (Value.int .i64 (m1 : Int)) from by rw [← hm1]; rfl)) (fun hHeld => ?_)
    generalize World.drew _ = wy at H hHeld ⊢
    refine pure_ (i := 0) (N := some 76) (v := ?_) (a' := ?_) #[true, false, false, false, false, false, false, false, false, false, false, false, false] rfl rfl (by kernel_rfl) (fun _ _ _ h => h) (Or.inl ⟨by rfl, ?_⟩) ?_ ?_
    rotate_left
    ·intro w'
     go_simp
     with_reducible rfl
    rotate_left
    ·simp only [Act.put, putA, putB, putC]
     rfl
    refine take_ (i := 1) (N := some 77) (v := ?_) (a' := ?_) #[true, true, false, false, false, false, false, false, false, false, false, false, false] rfl rfl (by kernel_rfl) (fun _ _ _ h => h) (Or.inl ⟨by rfl, ?_⟩) hHeld ?_ ?_
    rotate_left
    ·intro w' s0
     go_simp
     with_reducible rfl
    rotate_left
    ·simp only [Act.put, putA, putB, putC]
     rfl
    refine pure_ (i := 2) (N := some 78) (v := ?_) (a' := ?_) #[true, true, true, false, false, false, false, false, false, false, false, false, false] rfl rfl (by kernel_rfl) (fun _ _ _ h => h) (Or.inl ⟨by rfl, ?_⟩) ?_ ?_
    rotate_left
    ·intro w'
     go_simp
     with_reducible rfl
    rotate_left
    ·simp only [Act.put, putA, putB, putC]
     rfl
    refine pure_ (i := 5) (N := some 81) (v := ?_) (a' := ?_) #[true, true, true, false, false, true, false, false, false, false, false, false, false] rfl rfl (by kernel_rfl) (fun _ _ _ h => h) (Or.inl ⟨by rfl, ?_⟩) ?_ ?_
    rotate_left
    ·intro w'
     go_simp
     with_reducible rfl
    rotate_left
    ·simp only [Act.put, putA, putB, putC]
     rfl
    refine pure_ (i := 7) (N := some 83) (v := ?_) (a' := ?_) #[true, true, true, false, false, true, false, true, false, false, false, false, false] rfl rfl (by kernel_rfl) (fun _ _ _ h => h) (Or.inl ⟨by rfl, ?_⟩) ?_ ?_
    rotate_left
    ·intro w'
     go_simp
     with_reducible rfl
    rotate_left
    ·simp only [Act.put, putA, putB, putC]
     rfl
    refine take_ (i := 8) (N := some 84) (v := ?_) (a' := ?_) #[true, true, true, false, false, true, false, true, true, false, false, false, false] rfl rfl (by kernel_rfl) (fun _ _ _ h => h) (Or.inl ⟨by rfl, ?_⟩) hHeld ?_ ?_
    rotate_left
    ·intro w' s0
     go_simp
     with_reducible rfl
    rotate_left
    ·simp only [Act.put, putA, putB, putC]
     rfl
    refine two_ (i := 3) (j := 9) (Ni := some 79) (Nj := some 85) #[true, true, true, true, false, true, false, true, true, false, false, false, false] #[true, true, true, false, false, true, false, true, true, true, false, false, false] rfl rfl rfl rfl (by kernel_rfl) (by decide) (by decide) (fun K hK => ?_) (fun K hK => ?_)
    ·refine lit_o H (by rfl) (e := 5) (k := .u8) [(m1 : Int) % 256] (by first | (go_simp; done) | (go_simp; rfl)) (Nat.le_of_ble_eq_true rfl) ?_
     clear H
     intro g_ w_ H h_
     have hS := Lib.hid (show (fun w' : World => w'.cell? ⟨g, 4, none⟩ = some (.int .i64 (m1 : Int))) _ from (pw_cell_below h_ hHeld))
     clear h_
     refine hK.out _ _ hS.out (fun hHeld => ?_)
     clear hK K
     clear hS
     refine norm_ (a' := ?_) ?_ ?_
     rotate_left
     ·show Act.put _ (some 79) _ = _
      simp only [Act.put, putA, putB, putC]
      rfl
     refine two_ (i := 4) (j := 9) (Ni := some 80) (Nj := some 85) #[true, true, true, true, true, true, false, true, true, false, false, false, false] #[true, true, true, true, false, true, false, true, true, true, false, false, false] rfl rfl rfl rfl (by kernel_rfl) (by decide) (by decide) (fun K hK => ?_) (fun K hK => ?_)
     ·refine conv_o H (by rfl) rfl rfl (by repeat (first | exact List.Mem.head _ | apply List.Mem.tail)) Tryd.underlying35 Tryd.underlying5 Tryd.underlying9 ?_
      refine hK.out _ _ hHeld (fun hHeld => ?_)
      clear hK K
      refine norm_ (a' := ?_) ?_ ?_
      rotate_left
      ·show Act.put _ (some 80) _ = _
       simp only [Act.put, putA, putB, putC]
       rfl
      refine pure_ (i := 6) (N := some 82) (v := ?_) (a' := ?_) #[true, true, true, true, true, true, true, true, true, false, false, false, false] rfl rfl (by kernel_rfl) (fun _ _ _ h => h) (Or.inl ⟨by rfl, ?_⟩) ?_ ?_
      rotate_left
      ·intro w'
       go_simp
       with_reducible rfl
      rotate_left
      ·simp only [Act.put, putA, putB, putC]
       rfl
      refine one_ (i := 9) (N := some 85) #[true, true, true, true, true, true, true, true, true, true, false, false, false] rfl rfl (by kernel_rfl) (by decide) (fun K hK => ?_)
      refine makeb_o H (by rfl) rfl m1 rfl rfl Tryd.underlying35 Tryd.infoB8 (by have := HZ.out; omega) ?_
      clear H
      intro g_ w_ H h_
      have hS := Lib.hid (show (fun w' : World => w'.cell? ⟨g, 4, none⟩ = some (.int .i64 (m1 : Int))) _ from (pw_cell_below h_ hHeld))
      clear h_
      refine hK.out _ _ hS.out (fun hHeld => ?_)
      clear hK K
      clear hS
      refine norm_ (a' := ?_) ?_ ?_
      rotate_left
      ·show Act.put _ (some 85) _ = _
       simp only [Act.put, putA, putB, putC]
       rfl
      refine one_ (i := 10) (N := some 86) #[true, true, true, true, true, true, true, true, true, true, true, false, false] rfl rfl (by kernel_rfl) (by decide) (fun K hK => ?_)
      refine conv_o H (by rfl) rfl rfl (by repeat (first | exact List.Mem.head _ | apply List.Mem.tail)) Tryd.underlying35 Tryd.underlying5 Tryd.underlying9 ?_
      refine hK.out _ _ hHeld (fun hHeld => ?_)
      clear hK K
      refine norm_ (a' := ?_) ?_ ?_
      rotate_left
      ·show Act.put _ (some 86) _ = _
       simp only [Act.put, putA, putB, putC]
       rfl
      refine pure_ (i := 11) (N := some 87) (v := ?_) (a' := ?_) #[true, true, true, true, true, true, true, true, true, true, true, true, false] rfl rfl (by kernel_rfl) (fun _ _ _ h => h) (Or.inl ⟨by rfl, ?_⟩) ?_ ?_
      rotate_left
      ·intro w'
       go_simp
       with_reducible rfl
      rotate_left
      ·simp only [Act.put, putA, putB, putC]
       rfl
      refine pure_ (i := 12) (N := some 3) (v := ?_) (a' := ?_) #[true, true, true, true, true, true, true, true, true, true, true, true, true] rfl rfl (by kernel_rfl) (fun _ _ _ h => h) (Or.inl ⟨by rfl, ?_⟩) ?_ ?_
      rotate_left
      ·intro w'
       go_simp
       with_reducible rfl
      rotate_left
      ·simp only [Act.put, putA, putB, putC]
       rfl
      refine done_ (by kernel_rfl) ?_
      go_wp2_with fail
      exact HP.out _ _ ⟨by rw [EP.out, ← strs_append, ← strs_append, ← strs_append, HE.out]; rfl, H.all⟩
     ·refine makeb_o H (by rfl) rfl m1 rfl rfl Tryd.underlying35 Tryd.infoB8 (by have := HZ.out; omega) ?_
      clear H
      intro g_ w_ H h_
      have hS := Lib.hid (show (fun w' : World => w'.cell? ⟨g, 4, none⟩ = some (.int .i64 (m1 : Int))) _ from (pw_cell_below h_ hHeld))
      clear h_
      refine hK.out _ _ hS.out (fun hHeld => ?_)
      clear hK K
      clear hS
      refine norm_ (a' := ?_) ?_ ?_
      rotate_left
      ·show Act.put _ (some 85) _ = _
       simp only [Act.put, putA, putB, putC]
       rfl
      refine two_ (i := 4) (j := 10) (Ni := some 80) (Nj := some 86) #[true, true, true, true, true, true, false, true, true, true, false, false, false] #[true, true, true, true, false, true, false, true, true, true, true, false, false] rfl rfl rfl rfl (by kernel_rfl) (by decide) (by decide) (fun K hK => ?_) (fun K hK => ?_)
      ·refine conv_o H (by rfl) rfl rfl (by repeat (first | exact List.Mem.head _ | apply List.Mem.tail)) Tryd.underlying35 Tryd.underlying5 Tryd.underlying9 ?_
       refine hK.out _ _ hHeld (fun hHeld => ?_)
       clear hK K
       refine norm_ (a' := ?_) ?_ ?_
       rotate_left
       ·show Act.put _ (some 80) _ = _
        simp only [Act.put, putA, putB, putC]
        rfl
       refine pure_ (i := 6) (N := some 82) (v := ?_) (a' := ?_) #[true, true, true, true, true, true, true, true, true, true, false, false, false] rfl rfl (by kernel_rfl) (fun _ _ _ h => h) (Or.inl ⟨by rfl, ?_⟩) ?_ ?_
       rotate_left
       ·intro w'
        go_simp
        with_reducible rfl
       rotate_left
       ·simp only [Act.put, putA, putB, putC]
        rfl
       refine one_ (i := 10) (N := some 86) #[true, true, true, true, true, true, true, true, true, true, true, false, false] rfl rfl (by kernel_rfl) (by decide) (fun K hK => ?_)
       refine conv_o H (by rfl) rfl rfl (by repeat (first | exact List.Mem.head _ | apply List.Mem.tail)) Tryd.underlying35 Tryd.underlying5 Tryd.underlying9 ?_
       refine hK.out _ _ hHeld (fun hHeld => ?_)
       clear hK K
       refine norm_ (a' := ?_) ?_ ?_
       rotate_left
       ·show Act.put _ (some 86) _ = _
        simp only [Act.put, putA, putB, putC]
        rfl
       refine pure_ (i := 11) (N := some 87) (v := ?_) (a' := ?_) #[true, true, true, true, true, true, true, true, true, true, true, true, false] rfl rfl (by kernel_rfl) (fun _ _ _ h => h) (Or.inl ⟨by rfl, ?_⟩) ?_ ?_
       rotate_left
       ·intro w'
        go_simp
        with_reducible rfl
       rotate_left
       ·simp only [Act.put, putA, putB, putC]
        rfl
       refine pure_ (i := 12) (N := some 3) (v := ?_) (a' := ?_) #[true, true, true, true, true, true, true, true, true, true, true, true, true] rfl rfl (by kernel_rfl) (fun _ _ _ h => h) (Or.inl ⟨by rfl, ?_⟩) ?_ ?_
       rotate_left
       ·intro w'
        go_simp
        with_reducible rfl
       rotate_left
       ·simp only [Act.put, putA, putB, putC]
        rfl
       refine done_ (by kernel_rfl) ?_
       go_wp2_with fail
       exact HP.out _ _ ⟨by rw [EP.out, ← strs_append, ← strs_append, ← strs_append, HE.out]; rfl, H.all⟩
      ·refine conv_o H (by rfl) rfl rfl (by repeat (first | exact List.Mem.head _ | apply List.Mem.tail)) Tryd.underlying35 Tryd.underlying5 Tryd.underlying9 ?_
       refine hK.out _ _ hHeld (fun hHeld => ?_)
       clear hK K
       refine norm_ (a' := ?_) ?_ ?_
       rotate_left
       ·show Act.put _ (some 86) _ = _
        simp only [Act.put, putA, putB, putC]
        rfl
       refine one_ (i := 4) (N := some 80) #[true, true, true, true, true, true, false, true, true, true, true, false, false] rfl rfl (by kernel_rfl) (by decide) (fun K hK => ?_)
       refine conv_o H (by rfl) rfl rfl (by repeat (first | exact List.Mem.head _ | apply List.Mem.tail)) Tryd.underlying35 Tryd.underlying5 Tryd.underlying9 ?_
       refine hK.out _ _ hHeld (fun hHeld => ?_)
       clear hK K
       refine norm_ (a' := ?_) ?_ ?_
       rotate_left
       ·show Act.put _ (some 80) _ = _
        simp only [Act.put, putA, putB, putC]
        rfl
       refine pure_ (i := 6) (N := some 82) (v := ?_) (a' := ?_) #[true, true, true, true, true, true, true, true, true, true, true, false, false] rfl rfl (by kernel_rfl) (fun _ _ _ h => h) (Or.inl ⟨by rfl, ?_⟩) ?_ ?_
       rotate_left
       ·intro w'
        go_simp
        with_reducible rfl
       rotate_left
       ·simp only [Act.put, putA, putB, putC]
        rfl
       refine pure_ (i := 11) (N := some 87) (v := ?_) (a' := ?_) #[true, true, true, true, true, true, true, true, true, true, true, true, false] rfl rfl (by kernel_rfl) (fun _ _ _ h => h) (Or.inl ⟨by rfl, ?_⟩) ?_ ?_
       rotate_left
       ·intro w'
        go_simp
        with_reducible rfl
       rotate_left
       ·simp only [Act.put, putA, putB, putC]
        rfl
       refine pure_ (i := 12) (N := some 3) (v := ?_) (a' := ?_) #[true, true, true, true, true, true, true, true, true, true, true, true, true] rfl rfl (by kernel_rfl) (fun _ _ _ h => h) (Or.inl ⟨by rfl, ?_⟩) ?_ ?_
       rotate_left
       ·intro w'
        go_simp
        with_reducible rfl
       rotate_left
       ·simp only [Act.put, putA, putB, putC]
        rfl
       refine done_ (by kernel_rfl) ?_
       go_wp2_with fail
       exact HP.out _ _ ⟨by rw [EP.out, ← strs_append, ← strs_append, ← strs_append, HE.out]; rfl, H.all⟩
    ·refine makeb_o H (by rfl) rfl m1 rfl rfl Tryd.underlying35 Tryd.infoB8 (by have := HZ.out; omega) ?_
     clear H
     intro g_ w_ H h_
     have hS := Lib.hid (show (fun w' : World => w'.cell? ⟨g, 4, none⟩ = some (.int .i64 (m1 : Int))) _ from (pw_cell_below h_ hHeld))
     clear h_
     refine hK.out _ _ hS.out (fun hHeld => ?_)
     clear hK K
     clear hS
     refine norm_ (a' := ?_) ?_ ?_
     rotate_left
     ·show Act.put _ (some 85) _ = _
      simp only [Act.put, putA, putB, putC]
      rfl
     refine two_ (i := 3) (j := 10) (Ni := some 79) (Nj := some 86) #[true, true, true, true, false, true, false, true, true, true, false, false, false] #[true, true, true, false, false, true, false, true, true, true, true, false, false] rfl rfl rfl rfl (by kernel_rfl) (by decide) (by decide) (fun K hK => ?_) (fun K hK => ?_)
     ·refine lit_o H (by rfl) (e := 5) (k := .u8) [(m1 : Int) % 256] (by first | (go_simp; done) | (go_simp; rfl)) (Nat.le_of_ble_eq_true rfl) ?_
      clear H
      intro g_ w_ H h_
      have hS := Lib.hid (show (fun w' : World => w'.cell? ⟨g, 4, none⟩ = some (.int .i64 (m1 : Int))) _ from (pw_cell_below h_ hHeld))
      clear h_
      refine hK.out _ _ hS.out (fun hHeld => ?_)
      clear hK K
      clear hS
      refine norm_ (a' := ?_) ?_ ?_
      rotate_left
      ·show Act.put _ (some 79) _ = _
       simp only [Act.put, putA, putB, putC]
       rfl
      refine two_ (i := 4) (j := 10) (Ni := some 80) (Nj := some 86) #[true, true, true, true, true, true, false, true, true, true, false, false, false] #[true, true, true, true, false, true, false, true, true, true, true, false, false] rfl rfl rfl rfl (by kernel_rfl) (by decide) (by decide) (fun K hK => ?_) (fun K hK => ?_)
      ·refine conv_o H (by rfl) rfl rfl (by repeat (first | exact List.Mem.head _ | apply List.Mem.tail)) Tryd.underlying35 Tryd.underlying5 Tryd.underlying9 ?_
       refine hK.out _ _ hHeld (fun hHeld => ?_)
       clear hK K
       refine norm_ (a' := ?_) ?_ ?_
       rotate_left
       ·show Act.put _ (some 80) _ = _
        simp only [Act.put, putA, putB, putC]
        rfl
       refine pure_ (i := 6) (N := some 82) (v := ?_) (a' := ?_) #[true, true, true, true, true, true, true, true, true, true, false, false, false] rfl rfl (by kernel_rfl) (fun _ _ _ h => h) (Or.inl ⟨by rfl, ?_⟩) ?_ ?_
       rotate_left
       ·intro w'
        go_simp
        with_reducible rfl
       rotate_left
       ·simp only [Act.put, putA, putB, putC]
        rfl
       refine one_ (i := 10) (N := some 86) #[true, true, true, true, true, true, true, true, true, true, true, false, false] rfl rfl (by kernel_rfl) (by decide) (fun K hK => ?_)
       refine conv_o H (by rfl) rfl rfl (by repeat (first | exact List.Mem.head _ | apply List.Mem.tail)) Tryd.underlying35 Tryd.underlying5 Tryd.underlying9 ?_
       refine hK.out _ _ hHeld (fun hHeld => ?_)
       clear hK K
       refine norm_ (a' := ?_) ?_ ?_
       rotate_left
       ·show Act.put _ (some 86) _ = _
        simp only [Act.put, putA, putB, putC]
        rfl
       refine pure_ (i := 11) (N := some 87) (v := ?_) (a' := ?_) #[true, true, true, true, true, true, true, true, true, true, true, true, false] rfl rfl (by kernel_rfl) (fun _ _ _ h => h) (Or.inl ⟨by rfl, ?_⟩) ?_ ?_
       rotate_left
       ·intro w'
        go_simp
        with_reducible rfl
       rotate_left
       ·simp only [Act.put, putA, putB, putC]
        rfl
       refine pure_ (i := 12) (N := some 3) (v := ?_) (a' := ?_) #[true, true, true, true, true, true, true, true, true, true, true, true, true] rfl rfl (by kernel_rfl) (fun _ _ _ h => h) (Or.inl ⟨by rfl, ?_⟩) ?_ ?_
       rotate_left
       ·intro w'
        go_simp
        with_reducible rfl
       rotate_left
       ·simp only [Act.put, putA, putB, putC]
        rfl
       refine done_ (by kernel_rfl) ?_
       go_wp2_with fail
       exact HP.out _ _ ⟨by rw [EP.out, ← strs_append, ← strs_append, ← strs_append, HE.out]; rfl, H.all⟩
      ·refine conv_o H (by rfl) rfl rfl (by repeat (first | exact List.Mem.head _ | apply List.Mem.tail)) Tryd.underlying35 Tryd.underlying5 Tryd.underlying9 ?_
       refine hK.out _ _ hHeld (fun hHeld => ?_)
       clear hK K
       refine norm_ (a' := ?_) ?_ ?_
       rotate_left
       ·show Act.put _ (some 86) _ = _
        simp only [Act.put, putA, putB, putC]
        rfl
       refine one_ (i := 4) (N := some 80) #[true, true, true, true, true, true, false, true, true, true, true, false, false] rfl rfl (by kernel_rfl) (by decide) (fun K hK => ?_)
       refine conv_o H (by rfl) rfl rfl (by repeat (first | exact List.Mem.head _ | apply List.Mem.tail)) Tryd.underlying35 Tryd.underlying5 Tryd.underlying9 ?_
       refine hK.out _ _ hHeld (fun hHeld => ?_)
       clear hK K
       refine norm_ (a' := ?_) ?_ ?_
       rotate_left
       ·show Act.put _ (some 80) _ = _
        simp only [Act.put, putA, putB, putC]
        rfl
       refine pure_ (i := 6) (N := some 82) (v := ?_) (a' := ?_) #[true, true, true, true, true, true, true, true, true, true, true, false, false] rfl rfl (by kernel_rfl) (fun _ _ _ h => h) (Or.inl ⟨by rfl, ?_⟩) ?_ ?_
       rotate_left
       ·intro w'
        go_simp
        with_reducible rfl
       rotate_left
       ·simp only [Act.put, putA, putB, putC]
        rfl
       refine pure_ (i := 11) (N := some 87) (v := ?_) (a' := ?_) #[true, true, true, true, true, true, true, true, true, true, true, true, false] rfl rfl (by kernel_rfl) (fun _ _ _ h => h) (Or.inl ⟨by rfl, ?_⟩) ?_ ?_
       rotate_left
       ·intro w'
        go_simp
        with_reducible rfl
       rotate_left
       ·simp only [Act.put, putA, putB, putC]
        rfl
       refine pure_ (i := 12) (N := some 3) (v := ?_) (a' := ?_) #[true, true, true, true, true, true, true, true, true, true, true, true, true] rfl rfl (by kernel_rfl) (fun _ _ _ h => h) (Or.inl ⟨by rfl, ?_⟩) ?_ ?_
       rotate_left
       ·intro w'
        go_simp
        with_reducible rfl
       rotate_left
       ·simp only [Act.put, putA, putB, putC]
        rfl
       refine done_ (by kernel_rfl) ?_
       go_wp2_with fail
       exact HP.out _ _ ⟨by rw [EP.out, ← strs_append, ← strs_append, ← strs_append, HE.out]; rfl, H.all⟩
     ·refine conv_o H (by rfl) rfl rfl (by repeat (first | exact List.Mem.head _ | apply List.Mem.tail)) Tryd.underlying35 Tryd.underlying5 Tryd.underlying9 ?_
      refine hK.out _ _ hHeld (fun hHeld => ?_)
      clear hK K
      refine norm_ (a' := ?_) ?_ ?_
      rotate_left
      ·show Act.put _ (some 86) _ = _
       simp only [Act.put, putA, putB, putC]
       rfl
      refine one_ (i := 3) (N := some 79) #[true, true, true, true, false, true, false, true, true, true, true, false, false] rfl rfl (by kernel_rfl) (by decide) (fun K hK => ?_)
      refine lit_o H (by rfl) (e := 5) (k := .u8) [(m1 : Int) % 256] (by first | (go_simp; done) | (go_simp; rfl)) (Nat.le_of_ble_eq_true rfl) ?_
      clear H
      intro g_ w_ H h_
      have hS := Lib.hid (show (fun w' : World => w'.cell? ⟨g, 4, none⟩ = some (.int .i64 (m1 : Int))) _ from (pw_cell_below h_ hHeld))
      clear h_
      refine hK.out _ _ hS.out (fun hHeld => ?_)
      clear hK K
      clear hS
      refine norm_ (a' := ?_) ?_ ?_
      rotate_left
      ·show Act.put _ (some 79) _ = _
       simp only [Act.put, putA, putB, putC]
       rfl
      refine one_ (i := 4) (N := some 80) #[true, true, true, true, true, true, false, true, true, true, true, false, false] rfl rfl (by kernel_rfl) (by decide) (fun K hK => ?_)
      refine conv_o H (by rfl) rfl rfl (by repeat (first | exact List.Mem.head _ | apply List.Mem.tail)) Tryd.underlying35 Tryd.underlying5 Tryd.underlying9 ?_
      refine hK.out _ _ hHeld (fun hHeld => ?_)
      clear hK K
      refine norm_ (a' := ?_) ?_ ?_
      rotate_left
      ·show Act.put _ (some 80) _ = _
       simp only [Act.put, putA, putB, putC]
       rfl
      refine pure_ (i := 6) (N := some 82) (v := ?_) (a' := ?_) #[true, true, true, true, true, true, true, true, true, true, true, false, false] rfl rfl (by kernel_rfl) (fun _ _ _ h => h) (Or.inl ⟨by rfl, ?_⟩) ?_ ?_
      rotate_left
      ·intro w'
       go_simp
       with_reducible rfl
      rotate_left
      ·simp only [Act.put, putA, putB, putC]
       rfl
      refine pure_ (i := 11) (N := some 87) (v := ?_) (a' := ?_) #[true, true, true, true, true, true, true, true, true, true, true, true, false] rfl rfl (by kernel_rfl) (fun _ _ _ h => h) (Or.inl ⟨by rfl, ?_⟩) ?_ ?_
      rotate_left
      ·intro w'
       go_simp
       with_reducible rfl
      rotate_left
      ·simp only [Act.put, putA, putB, putC]
       rfl
      refine pure_ (i := 12) (N := some 3) (v := ?_) (a' := ?_) #[true, true, true, true, true, true, true, true, true, true, true, true, true] rfl rfl (by kernel_rfl) (fun _ _ _ h => h) (Or.inl ⟨by rfl, ?_⟩) ?_ ?_
      rotate_left
      ·intro w'
       go_simp
       with_reducible rfl
      rotate_left
      ·simp only [Act.put, putA, putB, putC]
       rfl
      refine done_ (by kernel_rfl) ?_
      go_wp2_with fail
      exact HP.out _ _ ⟨by rw [EP.out, ← strs_append, ← strs_append, ← strs_append, HE.out]; rfl, H.all⟩
   ·have bp : decide (0 ≤ F.pad) = false := decide_eq_false hp
    have EP := Lib.hid (show rpayL F = rheadL F ++ F.data by unfold rpayL; rw [if_neg hp])
    clear hp
    go_wp2_with (first | (refine loadf_h H rfl rfl rfl (by repeat (first | exact List.Mem.head _ | apply List.Mem.tail)) rfl (by kernel_rfl) ?_))
    exact HP.out _ _ ⟨by rw [EP.out, ← strs_append, HE.out]; rfl, H.all⟩
  ·have HL := Lib.hid hl
   have HE := Lib.hid (show rheadL F = rleanL F by unfold rheadL; rw [hl]; rfl)
   have hz1 : (rleanL F).length ≤ 60000 := by simp [rleanL, beL_length]
   have hz2 := HZ.out.2.2.1
   have cc := eq_false (Nat.not_lt.2 (fits_cat (a := rleanL F) (b := F.data) (by omega)))
   have HZ1 := Lib.hid hz1
   clear hl hz1 hz2
   go_upto_region 19 with (first
    | (refine load_h H rfl rfl rfl (by repeat (first | exact List.Mem.head _ | apply List.Mem.tail)) (by kernel_rfl) (by kernel_rfl) ?_)
    | (go_at_call 51; refine (rleans_calls _ F _ _ HK.out.fl0 HK.out.fl1).mono ?_; rintro e_ w_ ⟨rfl, h_⟩; rw [HL.out]; replace H := H.below h_; clear h_)
    | (go_at_call 76; refine (rlean_calls _ F A B c m (Kd.C_below HA.out.1 H.all) HA.out.2.1 (Kd.C_below HA.out.2.2.1 H.all) HA.out.2.2.2 HK.out).mono ?_; rintro e_ w_ ⟨rfl, h_⟩; replace H := H.below h_; clear h_))
   have cv := string_of_reads (c := c) Tryd.underlying35 Tryd.underlying5 Tryd.underlying9 (H.reads0 (Kd_reads HA.out.1))
   go_upto_region 20 with (first | (refine loadf_h H rfl rfl rfl (by repeat (first | exact List.Mem.head _ | apply List.Mem.tail)) rfl (by kernel_rfl) ?_))
   clear cv
   by_cases hp : 0 ≤ F.pad
   ·have bp : decide (0 ≤ F.pad) = true := decide_eq_true hp
    obtain ⟨m1, hm1⟩ := Int.eq_ofNat_of_zero_le hp
    have hp1 := HZ.out.2.1
    have hm2 : m1 ≤ 255 := by omega
    have zd := HZ.out.2.2.1
    have zh := HZ1.out
    have c1 := eq_false (Nat.not_lt.2 (show (strOfNums [(m1 : Int) % 256]).size + ((strOfNums (rleanL F)).size + (strOfNums F.data).size) ≤ 9223372036854775807 from (by rw [str_size, str_size, str_size]; simp only [List.length_cons, List.length_nil]; omega)))
    have c2 := eq_false (Nat.not_lt.2 (show (strOfNums [(m1 : Int) % 256]).size + ((strOfNums (rleanL F)).size + (strOfNums F.data).size) + (strOfNums (List.replicate m1 0)).size ≤ 9223372036854775807 from (by rw [str_size, str_size, str_size, str_size, List.length_replicate]; simp only [List.length_cons, List.length_nil]; omega)))
    have EP := Lib.hid (show rpayL F = [(m1 : Int) % 256] ++ (rheadL F ++ F.data) ++ List.replicate m1 0 by unfold rpayL; rw [if_pos hp, hm1]; rfl)
    clear hp1 zd zh
    go_upto_region 21 with (first | (refine loadf_h H rfl rfl rfl (by repeat (first | exact List.Mem.head _ | apply List.Mem.tail)) rfl (by kernel_rfl) ?_))
    replace H := H.below (below_drew (Below.refl _ _))
    refine start_ (n := 13) (S := fun w' => w'.cell? ⟨g, 4, none⟩ = some (.int .i64 (m1 : Int))) (ds := []) #[false, false, false, false, false, false, false, false, false, false, false, false, false] (by kernel_rfl) rfl rfl ((H.cell (by repeat (first | exact List.Mem.head _ | apply List.Mem.tail)) 4).trans (show _ = some (Value.int .i64 (m1 : Int)) from by rw [← hm1]; rfl)) (fun hHeld => ?_)
    generalize World.drew _ = wy at H hHeld ⊢
    refine pure_ (i := 0) (N := some 76) (v := ?_) (a' := ?_) #[true, false, false, false, false, false, false, false, false, false, false, false, false] rfl rfl (by kernel_rfl) (fun _ _ _ h => h) (Or.inl ⟨by rfl, ?_⟩) ?_ ?_
    rotate_left
    ·intro w'
     go_simp
     with_reducible rfl
    rotate_left
    ·simp only [Act.put, putA, putB, putC]
     rfl
    refine take_ (i := 1) (N := some 77) (v := ?_) (a' := ?_) #[true, true, false, false, false, false, false, false, false, false, false, false, false] rfl rfl (by kernel_rfl) (fun _ _ _ h => h) (Or.inl ⟨by rfl, ?_⟩) hHeld ?_ ?_
    rotate_left
    ·intro w' s0
     go_simp
     with_reducible rfl
    rotate_left
    ·simp only [Act.put, putA, putB, putC]
     rfl
    refine pure_ (i := 2) (N := some 78) (v := ?_) (a' := ?_) #[true, true, true, false, false, false, false, false, false, false, false, false, false] rfl rfl (by kernel_rfl) (fun _ _ _ h => h) (Or.inl ⟨by rfl, ?_⟩) ?_ ?_
    rotate_left
    ·intro w'
     go_simp
     with_reducible rfl
    rotate_left
    ·simp only [Act.put, putA, putB, putC]
     rfl
    refine pure_ (i := 5) (N := some 81) (v := ?_) (a' := ?_) #[true, true, true, false, false, true, false, false, false, false, false, false, false] rfl rfl (by kernel_rfl) (fun _ _ _ h => h) (Or.inl ⟨by rfl, ?_⟩) ?_ ?_
    rotate_left
    ·intro w'
     go_simp
     with_reducible rfl
    rotate_left
    ·simp only [Act.put, putA, putB, putC]
     rfl
    refine pure_ (i := 7) (N := some 83) (v := ?_) (a' := ?_) #[true, true, true, false, false, true, false, true, false, false, false, false, false] rfl rfl (by kernel_rfl) (fun _ _ _ h => h) (Or.inl ⟨by rfl, ?_⟩) ?_ ?_
    rotate_left
    ·intro w'
     go_simp
     with_reducible rfl
    rotate_left
    ·simp only [Act.put, putA, putB, putC]
     rfl
    refine take_ (i := 8) (N := some 84) (v := ?_) (a' := ?_) #[true, true, true, false, false, true, false, true, true, false, false, false, false] rfl rfl (by kernel_rfl) (fun _ _ _ h => h) (Or.inl ⟨by rfl, ?_⟩) hHeld ?_ ?_
    rotate_left
    ·intro w' s0
     go_simp
     with_reducible rfl
    rotate_left
    ·simp only [Act.put, putA, putB, putC]
     rfl
    refine two_ (i := 3) (j := 9) (Ni := some 79) (Nj := some 85) #[true, true, true, true, false, true, false, true, true, false, false, false, false] #[true, true, true, false, false, true, false, true, true, true, false, false, false] rfl rfl rfl rfl (by kernel_rfl) (by decide) (by decide) (fun K hK => ?_) (fun K hK => ?_)
    ·refine lit_o H (by rfl) (e := 5) (k := .u8) [(m1 : Int) % 256] (by first | (go_simp; done) | (go_simp; rfl)) (Nat.le_of_ble_eq_true rfl) ?_
     clear H
     intro g_ w_ H h_
     have hS := Lib.hid (show (fun w' : World => w'.cell? ⟨g, 4, none⟩ = some (.int .i64 (m1 : Int))) _ from (pw_cell_below h_ hHeld))
     clear h_
     refine hK.out _ _ hS.out (fun hHeld => ?_)
     clear hK K
     clear hS
     refine norm_ (a' := ?_) ?_ ?_
     rotate_left
     ·show Act.put _ (some 79) _ = _
      simp only [Act.put, putA, putB, putC]
      rfl
     refine two_ (i := 4) (j := 9) (Ni := some 80) (Nj := some 85) #[true, true, true, true, true, true, false, true, true, false, false, false, false] #[true, true, true, true, false, true, false, true, true, true, false, false, false] rfl rfl rfl rfl (by kernel_rfl) (by decide) (by decide) (fun K hK => ?_) (fun K hK => ?_)
     ·refine conv_o H (by rfl) rfl rfl (by repeat (first | exact List.Mem.head _ | apply List.Mem.tail)) Tryd.underlying35 Tryd.underlying5 Tryd.underlying9 ?_
      refine hK.out _ _ hHeld (fun hHeld => ?_)
      clear hK K
      refine norm_ (a' := ?_) ?_ ?_
      rotate_left
      ·show Act.put _ (some 80) _ = _
       simp only [Act.put, putA, putB, putC]
       rfl
      refine pure_ (i := 6) (N := some 82) (v := ?_) (a' := ?_) #[true, true, true, true, true, true, true, true, true, false, false, false, false] rfl rfl (by kernel_rfl) (fun _ _ _ h => h) (Or.inl ⟨by rfl, ?_⟩) ?_ ?_
      rotate_left
      ·intro w'
       go_simp
       with_reducible rfl
      rotate_left
      ·simp only [Act.put, putA, putB, putC]
       rfl
      refine one_ (i := 9) (N := some 85) #[true, true, true, true, true, true, true, true, true, true, false, false, false] rfl rfl (by kernel_rfl) (by decide) (fun K hK => ?_)
      refine makeb_o H (by rfl) rfl m1 rfl rfl Tryd.underlying35 Tryd.infoB8 (by have := HZ.out; omega) ?_
      clear H
      intro g_ w_ H h_
      have hS := Lib.hid (show (fun w' : World => w'.cell? ⟨g, 4, none⟩ = some (.int .i64 (m1 : Int))) _ from (pw_cell_below h_ hHeld))
      clear h_
      refine hK.out _ _ hS.out (fun hHeld => ?_)
      clear hK K
      clear hS
      refine norm_ (a' := ?_) ?_ ?_
      rotate_left
      ·show Act.put _ (some 85) _ = _
       simp only [Act.put, putA, putB, putC]
       rfl
      refine one_ (i := 10) (N := some 86) #[true, true, true, true, true, true, true, true, true, true, true, false, false] rfl rfl (by kernel_rfl) (by decide) (fun K hK => ?_)
      refine conv_o H (by rfl) rfl rfl (by repeat (first | exact List.Mem.head _ | apply List.Mem.tail)) Tryd.underlying35 Tryd.underlying5 Tryd.underlying9 ?_
      refine hK.out _ _ hHeld (fun hHeld => ?_)
      clear hK K
      refine norm_ (a' := ?_) ?_ ?_
      rotate_left
      ·show Act.put _ (some 86) _ = _
       simp only [Act.put, putA, putB, putC]
       rfl
      refine pure_ (i := 11) (N := some 87) (v := ?_) (a' := ?_) #[true, true, true, true, true, true, true, true, true, true, true, true, false] rfl rfl (by kernel_rfl) (fun _ _ _ h => h) (Or.inl ⟨by rfl, ?_⟩) ?_ ?_
      rotate_left
      ·intro w'
       go_simp
       with_reducible rfl
      rotate_left
      ·simp only [Act.put, putA, putB, putC]
       rfl
      refine pure_ (i := 12) (N := some 3) (v := ?_) (a' := ?_) #[true, true, true, true, true, true, true, true, true, true, true, true, true] rfl rfl (by kernel_rfl) (fun _ _ _ h => h) (Or.inl ⟨by rfl, ?_⟩) ?_ ?_
      rotate_left
      ·intro w'
       go_simp
       with_reducible rfl
      rotate_left
      ·simp only [Act.put, putA, putB, putC]
       rfl
      refine done_ (by kernel_rfl) ?_
      go_wp2_with fail
      exact HP.out _ _ ⟨by rw [EP.out, ← strs_append, ← strs_append, ← strs_append, HE.out]; rfl, H.all⟩
     ·refine makeb_o H (by rfl) rfl m1 rfl rfl Tryd.underlying35 Tryd.infoB8 (by have := HZ.out; omega) ?_
      clear H
      intro g_ w_ H h_
      have hS := Lib.hid (show (fun w' : World => w'.cell? ⟨g, 4, none⟩ = some (.int .i64 (m1 : Int))) _ from (pw_cell_below h_ hHeld))
      clear h_
      refine hK.out _ _ hS.out (fun hHeld => ?_)
      clear hK K
      clear hS
      refine norm_ (a' := ?_) ?_ ?_
      rotate_left
      ·show Act.put _ (some 85) _ = _
       simp only [Act.put, putA, putB, putC]
       rfl
      refine two_ (i := 4) (j := 10) (Ni := some 80) (Nj := some 86) #[true, true, true, true, true, true, false, true, true, true, false, false, false] #[true, true, true, true, false, true, false, true, true, true, true, false, false] rfl rfl rfl rfl (by kernel_rfl) (by decide) (by decide) (fun K hK => ?_) (fun K hK => ?_)
      ·refine conv_o H (by rfl) rfl rfl (by repeat (first | exact List.Mem.head _ | apply List.Mem.tail)) Tryd.underlying35 Tryd.underlying5 Tryd.underlying9 ?_
       refine hK.out _ _ hHeld (fun hHeld => ?_)
       clear hK K
       refine norm_ (a' := ?_) ?_ ?_
       rotate_left
       ·show Act.put _ (some 80) _ = _
        simp only [Act.put, putA, putB, putC]
        rfl
       refine pure_ (i := 6) (N := some 82) (v := ?_) (a' := ?_) #[true, true, true, true, true, true, true, true, true, true, false, false, false] rfl rfl (by kernel_rfl) (fun _ _ _ h => h) (Or.inl ⟨by rfl, ?_⟩) ?_ ?_
       rotate_left
       ·intro w'
        go_simp
        with_reducible rfl
       rotate_left
       ·simp only [Act.put, putA, putB, putC]
        rfl
       refine one_ (i := 10) (N := some 86) #[true, true, true, true, true, true, true, true, true, true, true, false, false] rfl rfl (by kernel_rfl) (by decide) (fun K hK => ?_)
       refine conv_o H (by rfl) rfl rfl (by repeat (first | exact List.Mem.head _ | apply List.Mem.tail)) Tryd.underlying35 Tryd.underlying5 Tryd.underlying9 ?_
       refine hK.out _ _ hHeld (fun hHeld => ?_)
       clear hK K
       refine norm_ (a' := ?_) ?_ ?_
       rotate_left
       ·show Act.put _ (some 86) _ = _
        simp only [Act.put, putA, putB, putC]
        rfl
       refine pure_ (i := 11) (N := some 87) (v := ?_) (a' := ?_) #[true, true, true, true, true, true, true, true, true, true, true, true, false] rfl rfl (by kernel_rfl) (fun _ _ _ h => h) (Or.inl ⟨by rfl, ?_⟩) ?_ ?_
       rotate_left
       ·intro w'
        go_simp
        with_reducible rfl
       rotate_left
       ·simp only [Act.put, putA, putB, putC]
        rfl
       refine pure_ (i := 12) (N := some 3) (v := ?_) (a' := ?_) #[true, true, true, true, true, true, true, true, true, true, true, true, true] rfl rfl (by kernel_rfl) (fun _ _ _ h => h) (Or.inl ⟨by rfl, ?_⟩) ?_ ?_
       rotate_left
       ·intro w'
        go_simp
        with_reducible rfl
       rotate_left
       ·simp only [Act.put, putA, putB, putC]
        rfl
       refine done_ (by kernel_rfl) ?_
       go_wp2_with fail
       exact HP.out _ _ ⟨by rw [EP.out, ← strs_append, ← strs_append, ← strs_append, HE.out]; rfl, H.all⟩
      ·refine conv_o H (by rfl) rfl rfl (by repeat (first | exact List.Mem.head _ | apply List.Mem.tail)) Tryd.underlying35 Tryd.underlying5 Tryd.underlying9 ?_
       refine hK.out _ _ hHeld (fun hHeld => ?_)
       clear hK K
       refine norm_ (a' := ?_) ?_ ?_
       rotate_left
       ·show Act.put _ (some 86) _ = _
        simp only [Act.put, putA, putB, putC]
        rfl
       refine one_ (i := 4) (N := some 80) #[true, true, true, true, true, true, false, true, true, true, true, false, false] rfl rfl (by kernel_rfl) (by decide) (fun K hK => ?_)
       refine conv_o H (by rfl) rfl rfl (by repeat (first | exact List.Mem.head _ | apply List.Mem.tail)) Tryd.underlying35 Tryd.underlying5 Tryd.underlying9 ?_
       refine hK.out _ _ hHeld (fun hHeld => ?_)
       clear hK K
       refine norm_ (a' := ?_) ?_ ?_
       rotate_left
       ·show Act.put _ (some 80) _ = _
        simp only [Act.put, putA, putB, putC]
        rfl
       refine pure_ (i := 6) (N := some 82) (v := ?_) (a' := ?_) #[true, true, true, true, true, true, true, true, true, true, true, false, false] rfl rfl (by kernel_rfl) (fun _ _ _ h => h) (Or.inl ⟨by rfl, ?_⟩) ?_ ?_
       rotate_left
       ·intro w'
        go_simp
        with_reducible rfl
       rotate_left
       ·simp only [Act.put, putA, putB, putC]
        rfl
       refine pure_ (i := 11) (N := some 87) (v := ?_) (a' := ?_) #[true, true, true, true, true, true, true, true, true, true, true, true, false] rfl rfl (by kernel_rfl) (fun _ _ _ h => h) (Or.inl ⟨by rfl, ?_⟩) ?_ ?_
       rotate_left
       ·intro w'
        go_simp
        with_reducible rfl
       rotate_left
       ·simp only [Act.put, putA, putB, putC]
        rfl
       refine pure_ (i := 12) (N := some 3) (v := ?_) (a' := ?_) #[true, true, true, true, true, true, true, true, true, true, true, true, true] rfl rfl (by kernel_rfl) (fun _ _ _ h => h) (Or.inl ⟨by rfl, ?_⟩) ?_ ?_
       rotate_left
       ·intro w'
        go_simp
        with_reducible rfl
       rotate_left
       ·simp only [Act.put, putA, putB, putC]
        rfl
       refine done_ (by kernel_rfl) ?_
       go_wp2_with fail
       exact HP.out _ _ ⟨by rw [EP.out, ← strs_append, ← strs_append, ← strs_append, HE.out]; rfl, H.all⟩
    ·refine makeb_o H (by rfl) rfl m1 rfl rfl Tryd.underlying35 Tryd.infoB8 (by have := HZ.out; omega) ?_
     clear H
     intro g_ w_ H h_
     have hS := Lib.hid (show (fun w' : World => w'.cell? ⟨g, 4, none⟩ = some (.int .i64 (m1 : Int))) _ from (pw_cell_below h_ hHeld))
     clear h_
     refine hK.out _ _ hS.out (fun hHeld => ?_)
     clear hK K
     clear hS
     refine norm_ (a' := ?_) ?_ ?_
     rotate_left
     ·show Act.put _ (some 85) _ = _
      simp only [Act.put, putA, putB, putC]
      rfl
     refine two_ (i := 3) (j := 10) (Ni := some 79) (Nj := some 86) #[true, true, true, true, false, true, false, true, true, true, false, false, false] #[true, true, true, false, false, true, false, true, true, true, true, false, false] rfl rfl rfl rfl (by kernel_rfl) (by decide) (by decide) (fun K hK => ?_) (fun K hK => ?_)
     ·refine lit_o H (by rfl) (e := 5) (k := .u8) [(m1 : Int) % 256] (by first | (go_simp; done) | (go_simp; rfl)) (Nat.le_of_ble_eq_true rfl) ?_
      clear H
      intro g_ w_ H h_
      have hS := Lib.hid (show (fun w' : World => w'.cell? ⟨g, 4, none⟩ = some (.int .i64 (m1 : Int))) _ from (pw_cell_below h_ hHeld))
      clear h_
      refine hK.out _ _ hS.out (fun hHeld => ?_)
      clear hK K
      clear hS
      refine norm_ (a' := ?_) ?_ ?_
      rotate_left
      ·show Act.put _ (some 79) _ = _
       simp only [Act.put, putA, putB, putC]
       rfl
      refine two_ (i := 4) (j := 10) (Ni := some 80) (Nj := some 86) #[true, true, true, true, true, true, false, true, true, true, false, false, false] #[true, true, true, true, false, true, false, true, true, true, true, false, false] rfl rfl rfl rfl (by kernel_rfl) (by decide) (by decide) (fun K hK => ?_) (fun K hK => ?_)
      ·refine conv_o H (by rfl) rfl rfl (by repeat (first | exact List.Mem.head _ | apply List.Mem.tail)) Tryd.underlying35 Tryd.underlying5 Tryd.underlying9 ?_
       refine hK.out _ _ hHeld (fun hHeld => ?_)
       clear hK K
       refine norm_ (a' := ?_) ?_ ?_
       rotate_left
       ·show Act.put _ (some 80) _ = _
        simp only [Act.put, putA, putB, putC]
        rfl
       refine pure_ (i := 6) (N := some 82) (v := ?_) (a' := ?_) #[true, true, true, true, true, true, true, true, true, true, false, false, false] rfl rfl (by kernel_rfl) (fun _ _ _ h => h) (Or.inl ⟨by rfl, ?_⟩) ?_ ?_
       rotate_left
       ·intro w'
        go_simp
        with_reducible rfl
       rotate_left
       ·simp only [Act.put, putA, putB, putC]
        rfl
       refine one_ (i := 10) (N := some 86) #[true, true, true, true, true, true, true, true, true, true, true, false, false] rfl rfl (by kernel_rfl) (by decide) (fun K hK => ?_)
       refine conv_o H (by rfl) rfl rfl (by repeat (first | exact List.Mem.head _ | apply List.Mem.tail)) Tryd.underlying35 Tryd.underlying5 Tryd.underlying9 ?_
       refine hK.out _ _ hHeld (fun hHeld => ?_)
       clear hK K
       refine norm_ (a' := ?_) ?_ ?_
       rotate_left
       ·show Act.put _ (some 86) _ = _
        simp only [Act.put, putA, putB, putC]
        rfl
       refine pure_ (i := 11) (N := some 87) (v := ?_) (a' := ?_) #[true, true, true, true, true, true, true, true, true, true, true, true, false] rfl rfl (by kernel_rfl) (fun _ _ _ h => h) (Or.inl ⟨by rfl, ?_⟩) ?_ ?_
       rotate_left
       ·intro w'
        go_simp
        with_reducible rfl
       rotate_left
       ·simp only [Act.put, putA, putB, putC]
        rfl
       refine pure_ (i := 12) (N := some 3) (v := ?_) (a' := ?_) #[true, true, true, true, true, true, true, true, true, true, true, true, true] rfl rfl (by kernel_rfl) (fun _ _ _ h => h) (Or.inl ⟨by rfl, ?_⟩) ?_ ?_
       rotate_left
       ·intro w'
        go_simp
        with_reducible rfl
       rotate_left
       ·simp only [Act.put, putA, putB, putC]
        rfl
       refine done_ (by kernel_rfl) ?_
       go_wp2_with fail
       exact HP.out _ _ ⟨by rw [EP.out, ← strs_append, ← strs_append, ← strs_append, HE.out]; rfl, H.all⟩
      ·refine conv_o H (by rfl) rfl rfl (by repeat (first | exact List.Mem.head _ | apply List.Mem.tail)) Tryd.underlying35 Tryd.underlying5 Tryd.underlying9 ?_
       refine hK.out _ _ hHeld (fun hHeld => ?_)
       clear hK K
       refine norm_ (a' := ?_) ?_ ?_
       rotate_left
       ·show Act.put _ (some 86) _ = _
        simp only [Act.put, putA, putB, putC]
        rfl
       refine one_ (i := 4) (N := some 80) #[true, true, true, true, true, true, false, true, true, true, true, false, false] rfl rfl (by kernel_rfl) (by decide) (fun K hK => ?_)
       refine conv_o H (by rfl) rfl rfl (by repeat (first | exact List.Mem.head _ | apply List.Mem.tail)) Tryd.underlying35 Tryd.underlying5 Tryd.underlying9 ?_
       refine hK.out _ _ hHeld (fun hHeld => ?_)
       clear hK K
       refine norm_ (a' := ?_) ?_ ?_
       rotate_left
       ·show Act.put _ (some 80) _ = _
        simp only [Act.put, putA, putB, putC]
        rfl
       refine pure_ (i := 6) (N := some 82) (v := ?_) (a' := ?_) #[true, true, true, true, true, true, true, true, true, true, true, false, false] rfl rfl (by kernel_rfl) (fun _ _ _ h => h) (Or.inl ⟨by rfl, ?_⟩) ?_ ?_
       rotate_left
       ·intro w'
        go_simp
        with_reducible rfl
       rotate_left
       ·simp only [Act.put, putA, putB, putC]
        rfl
       refine pure_ (i := 11) (N := some 87) (v := ?_) (a' := ?_) #[true, true, true, true, true, true, true, true, true, true, true, true, false] rfl rfl (by kernel_rfl) (fun _ _ _ h => h) (Or.inl ⟨by rfl, ?_⟩) ?_ ?_
       rotate_left
       ·intro w'
        go_simp
        with_reducible rfl
       rotate_left
       ·simp only [Act.put, putA, putB, putC]
        rfl
       refine pure_ (i := 12) (N := some 3) (v := ?_) (a' := ?_) #[true, true, true, true, true, true, true, true, true, true, true, true, true] rfl rfl (by kernel_rfl) (fun _ _ _ h => h) (Or.inl ⟨by rfl, ?_⟩) ?_ ?_
       rotate_left
       ·intro w'
        go_simp
        with_reducible rfl
       rotate_left
       ·simp only [Act.put, putA, putB, putC]
        rfl
       refine done_ (by kernel_rfl) ?_
       go_wp2_with fail
       exact HP.out _ _ ⟨by rw [EP.out, ← strs_append, ← strs_append, ← strs_append, HE.out]; rfl, H.all⟩
     ·refine conv_o H (by rfl) rfl rfl (by repeat (first | exact List.Mem.head _ | apply List.Mem.tail)) Tryd.underlying35 Tryd.underlying5 Tryd.underlying9 ?_
      refine hK.out _ _ hHeld (fun hHeld => ?_)
      clear hK K
      refine norm_ (a' := ?_) ?_ ?_
      rotate_left
      ·show Act.put _ (some 86) _ = _
       simp only [Act.put, putA, putB, putC]
       rfl
      refine one_ (i := 3) (N := some 79) #[true, true, true, true, false, true, false, true, true, true, true, false, false] rfl rfl (by kernel_rfl) (by decide) (fun K hK => ?_)
      refine lit_o H (by rfl) (e := 5) (k := .u8) [(m1 : Int) % 256] (by first | (go_simp; done) | (go_simp; rfl)) (Nat.le_of_ble_eq_true rfl) ?_
      clear H
      intro g_ w_ H h_
      have hS := Lib.hid (show (fun w' : World => w'.cell? ⟨g, 4, none⟩ = some (.int .i64 (m1 : Int))) _ from (pw_cell_below h_ hHeld))
      clear h_
      refine hK.out _ _ hS.out (fun hHeld => ?_)
      clear hK K
      clear hS
      refine norm_ (a' := ?_) ?_ ?_
      rotate_left
      ·show Act.put _ (some 79) _ = _
       simp only [Act.put, putA, putB, putC]
       rfl
      refine one_ (i := 4) (N := some 80) #[true, true, true, true, true, true, false, true, true, true, true, false, false] rfl rfl (by kernel_rfl) (by decide) (fun K hK => ?_)
      refine conv_o H (by rfl) rfl rfl (by repeat (first | exact List.Mem.head _ | apply List.Mem.tail)) Tryd.underlying35 Tryd.underlying5 Tryd.underlying9 ?_
      refine hK.out _ _ hHeld (fun hHeld => ?_)
      clear hK K
      refine norm_ (a' := ?_) ?_ ?_
      rotate_left
      ·show Act.put _ (some 80) _ = _
       simp only [Act.put, putA, putB, putC]
       rfl
      refine pure_ (i := 6) (N := some 82) (v := ?_) (a' := ?_) #[true, true, true, true, true, true, true, true, true, true, true, false, false] rfl rfl (by kernel_rfl) (fun _ _ _ h => h) (Or.inl ⟨by rfl, ?_⟩) ?_ ?_
      rotate_left
      ·intro w'
       go_simp
       with_reducible rfl
      rotate_left
      ·simp only [Act.put, putA, putB, putC]
       rfl
      refine pure_ (i := 11) (N := some 87) (v := ?_) (a' := ?_) #[true, true, true, true, true, true, true, true, true, true, true, true, false] rfl rfl (by kernel_rfl) (fun _ _ _ h => h) (Or.inl ⟨by rfl, ?_⟩) ?_ ?_
      rotate_left
      ·intro w'
       go_simp
       with_reducible rfl
      rotate_left
      ·simp only [Act.put, putA, putB, putC]
       rfl
      refine pure_ (i := 12) (N := some 3) (v := ?_) (a' := ?_) #[true, true, true, true, true, true, true, true, true, true, true, true, true] rfl rfl (by kernel_rfl) (fun _ _ _ h => h) (Or.inl ⟨by rfl, ?_⟩) ?_ ?_
      rotate_left
      ·intro w'
       go_simp
       with_reducible rfl
      rotate_left
      ·simp only [Act.put, putA, putB, putC]
       rfl
      refine done_ (by kernel_rfl) ?_
      go_wp2_with fail
      exact HP.out _ _ ⟨by rw [EP.out, ← strs_append, ← strs_append, ← strs_append, HE.out]; rfl, H.all⟩
   ·have bp : decide (0 ≤ F.pad) = false := decide_eq_false hp
    have EP := Lib.hid (show rpayL F = rheadL F ++ F.data by unfold rpayL; rw [if_neg hp])
    clear hp
    go_wp2_with (first | (refine loadf_h H rfl rfl rfl (by repeat (first | exact List.Mem.head _ | apply List.Mem.tail)) rfl (by kernel_rfl) ?_))
    exact HP.out _ _ ⟨by rw [EP.out, ← strs_append, HE.out]; rfl, H.all⟩
end Go.Proofs.YtjjfkmniffbgkaaDoor

/- FramePuts' pure part: fields and May, as tests. -/
namespace Go.Proofs.YtjjfkmniffbgkaaDoor
set_option linter.unusedVariables false
set_option linter.unusedSimpArgs false
open Go.RowKit Go.Proofs.YtjjfkmniffbgkaaDoorW.PrintWords Go.Proofs.YtjjfkmniffbgkaaDoorW.PrintLast Go.Proofs.YtjjfkmniffbgkaaDoorW.PrintMore Go.Proofs.YtjjfkmniffbgkaaDoor.QFrmA Go.Proofs.YtjjfkmniffbgkaaDoor.Given
def fB5 (F : Fr) (x4 x71 : Bool) : Bool := !x71 && (decide (F.ty = 4) || decide (F.sets.length = 0)) && (x4 || decide (F.data.length = 0))
def fB4 (F : Fr) (x4 x44 : Bool) : Bool := !x44 && fB5 F x4 (decide (F.ty ≠ 8) && decide (F.win ≠ 0))
def fB3 (F : Fr) (x3 x4 x5 x44 : Bool) : Bool := fB4 F x4 (x44 || (!x3 && decide (F.oth ≠ 0)) || (!x5 && decide (F.code ≠ 0)))
def fB2 (F : Fr) (x3 x4 x5 : Bool) : Bool := fB3 F x3 x4 x5 (!leansB F.ty F.fl && (decide (F.wgt ≠ 0) || F.al))
def fB1 (F : Fr) (x3 x4 : Bool) : Bool := fB2 F x3 x4 (decide (F.ty = 3) || decide (F.ty = 7))
def fB0 (F : Fr) (x3 : Bool) : Bool := fB1 F x3 (decide (F.ty ≠ 2) && decide (F.ty ≠ 3) && decide (F.ty ≠ 4) && decide (F.ty ≠ 8))
def fieldsB (F : Fr) : Bool := fB0 F (leansB F.ty F.fl || decide (F.ty = 5) || decide (F.ty = 7))
theorem len_eq0 {α : Type} (l : List α) : ((l.length : Int) == 0) = decide (l.length = 0) := by
 rw [Bool.eq_iff_iff, beq_iff_eq, decide_eq_true_iff]
 omega
theorem len_gt0 {α : Type} (l : List α) : ((l.length : Int) > 0) ↔ ¬ l.length = 0 := by omega
theorem bne_dec (a b : Int) : (a != b) = decide (a ≠ b) := by
 rw [Bool.eq_iff_iff, bne_iff_ne, decide_eq_true_iff]
theorem beq_dec (a b : Int) : (a == b) = decide (a = b) := by
 rw [Bool.eq_iff_iff, beq_iff_eq, decide_eq_true_iff]
theorem ev_fB5 (F : Fr) (x4 x71 : Bool) : Ev (fun k => QFrmB.frame_fields.j5 k x4 x71 F.ty F.fl F.st F.data F.pad F.code F.oth F.wgt F.al F.win F.sets) (fB5 F x4 x71) := by
 refine Ev.step (f := fun _ => some (fB5 F x4 x71)) (fun k => ?_) (Ev.now _)
 simp only [QFrmB.frame_fields.j5, len_eq0, len_gt0, fB5]
 cases x71 <;> cases x4 <;> by_cases h4 : F.ty = 4 <;> by_cases hs : F.sets.length = 0 <;> simp [h4, hs]
theorem ev_fB4 (F : Fr) (x4 x44 : Bool) : Ev (fun k => QFrmB.frame_fields.j4 k x4 x44 F.ty F.fl F.st F.data F.pad F.code F.oth F.wgt F.al F.win F.sets) (fB4 F x4 x44) := by
 cases x44 with
 | true =>
  refine Ev.step (f := fun _ => some false) (fun k => ?_) (Ev.now _)
  simp [QFrmB.frame_fields.j4]
 | false =>
  by_cases h8 : F.ty = 8
  ·refine Ev.step (f := fun k => QFrmB.frame_fields.j5 k x4 false F.ty F.fl F.st F.data F.pad F.code F.oth F.wgt F.al F.win F.sets) (fun k => ?_) ?_
   ·simp only [QFrmB.frame_fields.j4]
    rw [if_neg (by decide), if_pos h8]
   ·have := ev_fB5 F x4 false
    simpa [fB4, h8] using this
  ·refine Ev.step (f := fun k => QFrmB.frame_fields.j5 k x4 (F.win != 0) F.ty F.fl F.st F.data F.pad F.code F.oth F.wgt F.al F.win F.sets) (fun k => ?_) ?_
   ·simp only [QFrmB.frame_fields.j4]
    rw [if_neg (by decide), if_neg h8]
   ·have := ev_fB5 F x4 (decide (F.win ≠ 0))
    rw [bne_dec]
    simpa [fB4, h8] using this
theorem ev_fB3 (F : Fr) (x3 x4 x5 x44 : Bool) : Ev (fun k => QFrmB.frame_fields.j3 k x3 x4 x5 x44 F.ty F.fl F.st F.data F.pad F.code F.oth F.wgt F.al F.win F.sets) (fB3 F x3 x4 x5 x44) := by
 have h := ev_fB4 F x4 (x44 || (!x3 && decide (F.oth ≠ 0)) || (!x5 && decide (F.code ≠ 0)))
 refine Ev.step (fun k => ?_) h
 simp only [QFrmB.frame_fields.j3, bne_dec]
 cases x44 <;> cases x3 <;> cases x5 <;> by_cases ho : F.oth = 0 <;> simp [ho]
theorem ev_fB2 (F : Fr) (x3 x4 x5 : Bool) : Ev (fun k => QFrmB.frame_fields.j2 k x3 x4 x5 F.ty F.fl F.st F.data F.pad F.code F.oth F.wgt F.al F.win F.sets) (fB2 F x3 x4 x5) := by
 have h := ev_fB3 F x3 x4 x5 (!leansB F.ty F.fl && (decide (F.wgt ≠ 0) || F.al))
 refine Ev.step (fun k => ?_) h
 simp only [QFrmB.frame_fields.j2, leans_f F, Option.bind_some]
 cases leansB F.ty F.fl <;> by_cases hw : F.wgt = 0 <;> simp [hw]
theorem ev_fB1 (F : Fr) (x3 x4 : Bool) : Ev (fun k => QFrmB.frame_fields.j1 k x3 x4 F.ty F.fl F.st F.data F.pad F.code F.oth F.wgt F.al F.win F.sets) (fB1 F x3 x4) := by
 have h := ev_fB2 F x3 x4 (decide (F.ty = 3) || decide (F.ty = 7))
 refine Ev.step (fun k => ?_) h
 simp only [QFrmB.frame_fields.j1, beq_dec]
 by_cases h3 : F.ty = 3 <;> simp [h3]
theorem ev_fB0 (F : Fr) (x3 : Bool) : Ev (fun k => QFrmB.frame_fields.j0 k x3 F.ty F.fl F.st F.data F.pad F.code F.oth F.wgt F.al F.win F.sets) (fB0 F x3) := by
 have h := ev_fB1 F x3 (decide (F.ty ≠ 2) && decide (F.ty ≠ 3) && decide (F.ty ≠ 4) && decide (F.ty ≠ 8))
 refine Ev.step (fun k => ?_) h
 simp only [QFrmB.frame_fields.j0, bne_dec]
 by_cases h2 : F.ty = 2
 ·simp [h2]
 by_cases h3 : F.ty = 3
 ·simp [h3]
 by_cases h4 : F.ty = 4
 ·simp [h4]
 ·simp [h2, h3, h4]
theorem ev_fieldsB (F : Fr) : Ev (fun k => QFrmB.frame_fields.f k F.ty F.fl F.st F.data F.pad F.code F.oth F.wgt F.al F.win F.sets) (fieldsB F) := by
 have h := ev_fB0 F (leansB F.ty F.fl || decide (F.ty = 5) || decide (F.ty = 7))
 refine Ev.congr (fun k => ?_) h
 simp only [QFrmB.frame_fields.f, leans_f F, Option.bind_some, beq_dec]
 cases leansB F.ty F.fl <;> by_cases h5 : F.ty = 5 <;> simp [h5]
def mB3 (F : Fr) (x26 : Bool) : Bool := !x26 && (decide (F.ty ≠ 6) || decide (F.data.length = 8)) && decide (F.data.length ≤ 16384) && decide (F.sets.length ≤ 2730) && decide ((payL F).length ≤ 16384)
def mB2 (F : Fr) (x3 x26 : Bool) : Bool := mB3 F (x26 || (!x3 && decide (F.pad ≠ -1)))
def mB1 (F : Fr) (x3 x13 : Bool) : Bool := !x13 && mB2 F x3 (x3 && (decide (F.pad < 0) || decide (F.pad > 255)))
def mB0 (F : Fr) (x3 : Bool) : Bool := mB1 F x3 (decide (F.st > 2147483647) || decide (F.oth > 2147483647) || decide (F.win > 2147483647) || !fieldsB F)
def mayB (F : Fr) : Bool := mB0 F (decide (F.ty = 0 ∨ F.ty = 1 ∨ F.ty = 5) && decide (Go.bits .and .u8 F.fl 8 ≠ 0))
theorem ev_mB3 (F : Fr) (x26 : Bool) (hp : x26 = false → F.pad ≤ 255) : Ev (fun k => QFrmB.frame_May.j3 k x26 F.ty F.fl F.st F.data F.pad F.code F.oth F.wgt F.al F.win F.sets) (mB3 F x26) := by
 cases x26 with
 | true =>
  refine Ev.step (f := fun _ => some false) (fun k => ?_) (Ev.now _)
  simp [QFrmB.frame_May.j3]
 | false =>
  by_cases hd : F.data.length ≤ 16384
  ·by_cases hs : F.sets.length ≤ 2730
   ·have hq : Ev (fun k => (QFrmB.frame_payload.f k F.ty F.fl F.st F.data F.pad F.code F.oth F.wgt F.al F.win F.sets).bind fun t => some (decide ((t.length : Int) ≤ 16384))) (decide ((payL F).length ≤ 16384)) := by
     refine Ev.bind (ev_payload F (by omega) (hp rfl) (by omega)) ?_
     have e : decide (((payL F).length : Int) ≤ 16384) = decide ((payL F).length ≤ 16384) := by congr 1; exact propext ⟨fun h => by omega, fun h => by omega⟩
     rw [e]
     exact Ev.now _
    by_cases t6 : F.ty = 6
    ·by_cases h8 : F.data.length = 8
     ·refine Ev.step (f := fun k => (QFrmB.frame_payload.f k F.ty F.fl F.st F.data F.pad F.code F.oth F.wgt F.al F.win F.sets).bind fun t => some (decide ((t.length : Int) ≤ 16384))) (fun k => ?_) ?_
      ·simp only [QFrmB.frame_May.j3]
       rw [if_neg (by decide), if_pos t6, if_pos (by omega), if_pos (by omega), if_pos (by omega)]
      ·simpa [mB3, t6, h8, hs] using hq
     ·refine Ev.step (f := fun _ => some false) (fun k => ?_) ?_
      ·simp only [QFrmB.frame_May.j3]
       rw [if_neg (by decide), if_pos t6, if_neg (by omega)]
      ·have e : mB3 F false = false := by simp [mB3, t6, h8]
       rw [e]
       exact Ev.now _
    ·refine Ev.step (f := fun k => (QFrmB.frame_payload.f k F.ty F.fl F.st F.data F.pad F.code F.oth F.wgt F.al F.win F.sets).bind fun t => some (decide ((t.length : Int) ≤ 16384))) (fun k => ?_) ?_
     ·simp only [QFrmB.frame_May.j3]
      rw [if_neg (by decide), if_neg t6, if_pos (by omega), if_pos (by omega)]
     ·simpa [mB3, t6, hd, hs] using hq
   ·have e : mB3 F false = false := by simp [mB3, hs]
    rw [e]
    refine Ev.step (f := fun _ => some false) (fun k => ?_) (Ev.now _)
    simp only [QFrmB.frame_May.j3]
    rw [if_neg (by decide)]
    by_cases t6 : F.ty = 6
    ·rw [if_pos t6]
     by_cases h8 : (F.data.length : Int) = 8
     ·rw [if_pos h8, if_pos (by omega), if_neg (by omega)]
     ·rw [if_neg h8]
    ·rw [if_neg t6, if_pos (by omega), if_neg (by omega)]
  ·have e : mB3 F false = false := by simp [mB3, hd]
   rw [e]
   refine Ev.step (f := fun _ => some false) (fun k => ?_) (Ev.now _)
   simp only [QFrmB.frame_May.j3]
   rw [if_neg (by decide)]
   by_cases t6 : F.ty = 6
   ·rw [if_pos t6]
    by_cases h8 : (F.data.length : Int) = 8
    ·rw [if_pos h8, if_neg (by omega)]
    ·rw [if_neg h8]
   ·rw [if_neg t6, if_neg (by omega)]
theorem ev_mB2 (F : Fr) (x3 x26 : Bool) (hp : x26 = false → F.pad ≤ 255 ∨ x3 = false) : Ev (fun k => QFrmB.frame_May.j2 k x3 x26 F.ty F.fl F.st F.data F.pad F.code F.oth F.wgt F.al F.win F.sets) (mB2 F x3 x26) := by
 have h := ev_mB3 F (x26 || (!x3 && decide (F.pad ≠ -1))) (fun hx => by
  rcases Bool.or_eq_false_iff.1 hx with ⟨h1, h2⟩
  rcases hp h1 with h | h
  ·exact h
  ·subst h
   simp at h2
   omega)
 refine Ev.step (fun k => ?_) h
 simp only [QFrmB.frame_May.j2, bne_dec]
 cases x26 <;> cases x3 <;> simp
theorem ev_mB1 (F : Fr) (x3 x13 : Bool) : Ev (fun k => QFrmB.frame_May.j1 k x3 x13 F.ty F.fl F.st F.data F.pad F.code F.oth F.wgt F.al F.win F.sets) (mB1 F x3 x13) := by
 cases x13 with
 | true =>
  refine Ev.step (f := fun _ => some false) (fun k => ?_) (Ev.now _)
  simp [QFrmB.frame_May.j1]
 | false =>
  have h := ev_mB2 F x3 (x3 && (decide (F.pad < 0) || decide (F.pad > 255))) (fun hx => by
   cases x3
   ·exact .inr rfl
   ·simp at hx
    exact .inl (by omega))
  refine Ev.step (f := fun k => QFrmB.frame_May.j2 k x3 (x3 && (decide (F.pad < 0) || decide (F.pad > 255))) F.ty F.fl F.st F.data F.pad F.code F.oth F.wgt F.al F.win F.sets) (fun k => ?_) (by simpa [mB1] using h)
  simp only [QFrmB.frame_May.j1]
  cases x3 <;> by_cases h0 : F.pad < 0 <;> simp [h0]
theorem ev_mB0 (F : Fr) (x3 : Bool) : Ev (fun k => QFrmB.frame_May.j0 k x3 F.ty F.fl F.st F.data F.pad F.code F.oth F.wgt F.al F.win F.sets) (mB0 F x3) := by
 by_cases h1 : F.st > 2147483647
 ·have h := ev_mB1 F x3 true
  refine Ev.step (f := fun k => QFrmB.frame_May.j1 k x3 true F.ty F.fl F.st F.data F.pad F.code F.oth F.wgt F.al F.win F.sets) (fun k => ?_) (by simpa [mB0, h1] using h)
  simp only [QFrmB.frame_May.j0]
  rw [if_pos h1, decide_eq_true h1]
 by_cases h2 : F.oth > 2147483647
 ·have h := ev_mB1 F x3 true
  refine Ev.step (f := fun k => QFrmB.frame_May.j1 k x3 true F.ty F.fl F.st F.data F.pad F.code F.oth F.wgt F.al F.win F.sets) (fun k => ?_) (by simpa [mB0, h2] using h)
  simp only [QFrmB.frame_May.j0]
  rw [if_neg h1, if_pos h2, decide_eq_true h2]
 by_cases h3 : F.win > 2147483647
 ·have h := ev_mB1 F x3 true
  refine Ev.step (f := fun k => QFrmB.frame_May.j1 k x3 true F.ty F.fl F.st F.data F.pad F.code F.oth F.wgt F.al F.win F.sets) (fun k => ?_) (by simpa [mB0, h3] using h)
  simp only [QFrmB.frame_May.j0]
  rw [if_neg h1, if_neg h2, if_pos h3, decide_eq_true h3]
 ·have h : Ev (fun k => (QFrmB.frame_fields.f k F.ty F.fl F.st F.data F.pad F.code F.oth F.wgt F.al F.win F.sets).bind fun t => QFrmB.frame_May.j1 k x3 (!t) F.ty F.fl F.st F.data F.pad F.code F.oth F.wgt F.al F.win F.sets) (mB1 F x3 (!fieldsB F)) := Ev.bind (ev_fieldsB F) (ev_mB1 F x3 (!fieldsB F))
  refine Ev.step (f := fun k => (QFrmB.frame_fields.f k F.ty F.fl F.st F.data F.pad F.code F.oth F.wgt F.al F.win F.sets).bind fun t => QFrmB.frame_May.j1 k x3 (!t) F.ty F.fl F.st F.data F.pad F.code F.oth F.wgt F.al F.win F.sets) (fun k => ?_) ?_
  ·simp only [QFrmB.frame_May.j0]
   rw [if_neg h1, if_neg h2, if_neg h3]
  ·have e : mB0 F x3 = mB1 F x3 (!fieldsB F) := by
    unfold mB0
    rw [decide_eq_false h1, decide_eq_false h2, decide_eq_false h3]
    rfl
   rw [e]
   exact h
theorem ev_mayB (F : Fr) : Ev (fun k => QFrmB.frame_May.f k F.ty F.fl F.st F.data F.pad F.code F.oth F.wgt F.al F.win F.sets) (mayB F) := by
 have h := ev_mB0 F (decide (F.ty = 0 ∨ F.ty = 1 ∨ F.ty = 5) && decide (Go.bits .and .u8 F.fl 8 ≠ 0))
 refine Ev.congr (fun k => ?_) h
 simp only [QFrmB.frame_May.f, pads_f, Option.bind_some, bne_dec]
 by_cases ht : F.ty = 0 ∨ F.ty = 1 ∨ F.ty = 5
 ·rw [decide_eq_true ht]
  rfl
 ·rw [decide_eq_false ht]
  rfl
theorem nil_len {α : Type} {l : List α} : l.length = 0 ↔ l = [] := List.length_eq_zero_iff
theorem fieldsB_ok (F : Fr) : fieldsB F = true ↔ FieldsOk F := by
 unfold fieldsB fB0 fB1 fB2 fB3 fB4 fB5
 constructor
 ·intro h
  cases hl : leansB F.ty F.fl <;> cases ha : F.al <;> by_cases hw : F.wgt = 0 <;> by_cases ho : F.oth = 0 <;> by_cases hc : F.code = 0 <;> by_cases hwi : F.win = 0 <;> by_cases hs : F.sets.length = 0 <;> by_cases hd : F.data.length = 0 <;>
   simp [hl, ha, hw, ho, hc, hwi, hs, hd] at h <;>
   exact ⟨by first | exact .inl hl | exact .inr ⟨hw, ha⟩, by first | exact .inr ho | exact .inl (.inl hl) | exact .inl (.inr (by omega)), by first | exact .inr hc | exact .inl (by omega), by first | exact .inr hwi | exact .inl (by omega), by first | exact .inr (nil_len.1 hs) | exact .inl (by omega), by first | exact .inr (nil_len.1 hd) | exact .inl (by omega)⟩
 ·rintro ⟨h1, h2, h3, h4, h5, h6⟩
  have e1 : (!leansB F.ty F.fl && (decide (F.wgt ≠ 0) || F.al)) = false := by
   rcases h1 with h | ⟨ha, hb⟩
   ·simp [h]
   ·simp [ha, hb]
  have e2 : (!(leansB F.ty F.fl || decide (F.ty = 5) || decide (F.ty = 7)) && decide (F.oth ≠ 0)) = false := by
   rcases h2 with (h | h | h) | h <;> simp [h]
  have e3 : (!(decide (F.ty = 3) || decide (F.ty = 7)) && decide (F.code ≠ 0)) = false := by
   rcases h3 with (h | h) | h <;> simp [h]
  have e4 : (decide (F.ty ≠ 8) && decide (F.win ≠ 0)) = false := by
   rcases h4 with h | h <;> simp [h]
  have e5 : (decide (F.ty = 4) || decide (F.sets.length = 0)) = true := by
   rcases h5 with h | h <;> simp [h]
  have e6 : ((decide (F.ty ≠ 2) && decide (F.ty ≠ 3) && decide (F.ty ≠ 4) && decide (F.ty ≠ 8)) || decide (F.data.length = 0)) = true := by
   rcases h6 with ⟨a, b, c, d⟩ | h
   ·simp [a, b, c, d]
   ·simp [h]
  rw [e1, e2, e3, e4, e5, e6]
  rfl
theorem mayB_ok (F : Fr) : mayB F = true ↔ MayOk F := by
 unfold mayB mB0 mB1 mB2 mB3
 constructor
 ·intro h
  simp only [Bool.and_eq_true, Bool.not_eq_true', Bool.or_eq_false_iff, decide_eq_true_iff, decide_eq_false_iff_not] at h
  obtain ⟨⟨⟨⟨h1, h2⟩, h3⟩, h4⟩, ⟨⟨⟨⟨h5, h6⟩, h7⟩, h8⟩, h9⟩⟩ := h
  refine ⟨(fieldsB_ok F).1 (by simpa using h4), by omega, by omega, by omega, ?_, fun t6 => ?_, h7, h8, h9⟩
  ·by_cases hq : (F.ty = 0 ∨ F.ty = 1 ∨ F.ty = 5) ∧ Go.bits .and .u8 F.fl 8 ≠ 0
   ·rw [if_pos hq]
    simp only [decide_eq_true hq.1, decide_eq_true hq.2, Bool.and_self, Bool.true_and, Bool.or_eq_false_iff, decide_eq_false_iff_not] at h5
    omega
   ·rw [if_neg hq]
    have e : (decide (F.ty = 0 ∨ F.ty = 1 ∨ F.ty = 5) && decide (Go.bits .and .u8 F.fl 8 ≠ 0)) = false := by
     rw [Bool.and_eq_false_iff, decide_eq_false_iff_not, decide_eq_false_iff_not]
     by_cases ht : F.ty = 0 ∨ F.ty = 1 ∨ F.ty = 5
     ·exact .inr fun h8 => hq ⟨ht, h8⟩
     ·exact .inl ht
    rw [e] at h5
    simp at h5
    exact h5
  ·simp only [Bool.or_eq_true, decide_eq_true_iff] at h6
   rcases h6 with h | h
   ·exact absurd t6 h
   ·exact h
 ·intro h
  have hp := h.pad
  have e0 : decide (F.st > 2147483647) = false := decide_eq_false (by have := h.st; omega)
  have e1 : decide (F.oth > 2147483647) = false := decide_eq_false (by have := h.oth; omega)
  have e2 : decide (F.win > 2147483647) = false := decide_eq_false (by have := h.win; omega)
  rw [e0, e1, e2, (fieldsB_ok F).2 h.fields, decide_eq_true h.data, decide_eq_true h.sets, decide_eq_true h.pay]
  have e6 : (decide (F.ty ≠ 6) || decide (F.data.length = 8)) = true := by
   by_cases t6 : F.ty = 6
   ·rw [decide_eq_true (h.ping t6)]; simp
   ·rw [decide_eq_true t6]; rfl
  rw [e6]
  by_cases hq : (F.ty = 0 ∨ F.ty = 1 ∨ F.ty = 5) ∧ Go.bits .and .u8 F.fl 8 ≠ 0
  ·rw [if_pos hq] at hp
   rw [decide_eq_true hq.1, decide_eq_true hq.2, decide_eq_false (show ¬ F.pad < 0 by omega), decide_eq_false (show ¬ F.pad > 255 by omega)]
   rfl
  ·rw [if_neg hq] at hp
   have e : (decide (F.ty = 0 ∨ F.ty = 1 ∨ F.ty = 5) && decide (Go.bits .and .u8 F.fl 8 ≠ 0)) = false := by
    rw [Bool.and_eq_false_iff, decide_eq_false_iff_not, decide_eq_false_iff_not]
    by_cases ht : F.ty = 0 ∨ F.ty = 1 ∨ F.ty = 5
    ·exact .inr fun h8 => hq ⟨ht, h8⟩
    ·exact .inl ht
   rw [e, hp]
   rfl
end Go.Proofs.YtjjfkmniffbgkaaDoor

/- FrameBack's pure part: settings that were read, as bytes. -/
namespace Go.Proofs.YtjjfkmniffbgkaaDoor
set_option linter.unusedVariables false
set_option linter.unusedSimpArgs false
open Go.RowKit Go.Proofs.YtjjfkmniffbgkaaDoorW.PrintWords Go.Proofs.YtjjfkmniffbgkaaDoorW.PrintLast Go.Proofs.YtjjfkmniffbgkaaDoorW.PrintMore Go.Proofs.YtjjfkmniffbgkaaDoor.QFrmA Go.Proofs.YtjjfkmniffbgkaaDoor.Given
end Go.Proofs.YtjjfkmniffbgkaaDoor

/- FrameBack's pure part: a priority that was read, as bytes. -/
namespace Go.Proofs.YtjjfkmniffbgkaaDoor
set_option linter.unusedVariables false
set_option linter.unusedSimpArgs false
open Go.RowKit Go.Proofs.YtjjfkmniffbgkaaDoorW.PrintWords Go.Proofs.YtjjfkmniffbgkaaDoorW.PrintLast Go.Proofs.YtjjfkmniffbgkaaDoorW.PrintMore Go.Proofs.YtjjfkmniffbgkaaDoor.QFrmA Go.Proofs.YtjjfkmniffbgkaaDoor.Given
theorem top_or {v : Int} (h0 : 2147483648 ≤ v) (h1 : v < 4294967296) : Go.bits .or .u32 (v % 2147483648) 2147483648 = v := by
 obtain ⟨m, hm⟩ := Int.eq_ofNat_of_zero_le (show 0 ≤ v % 2147483648 by omega)
 have hm' : m < 2147483648 := by omega
 rw [hm, show (2147483648 : Int) = ((2147483648 : Nat) : Int) from rfl, u32_or_nat m 2147483648 (by omega) (by omega)]
 have h2 : m ||| 2147483648 = 2147483648 + m := by
  have := Nat.shiftLeft_add_eq_or_of_lt (show m < 2 ^ 31 by omega) 1
  rw [Nat.or_comm]
  rw [show (1 <<< 31 : Nat) = 2147483648 from rfl] at this
  exact this.symm
 rw [h2]
 omega
end Go.Proofs.YtjjfkmniffbgkaaDoor

/- FrameBack's pure part: what read answered is put as it stood (some types). -/
namespace Go.Proofs.YtjjfkmniffbgkaaDoor
set_option linter.unusedVariables false
set_option linter.unusedSimpArgs false
open Go.RowKit Go.Proofs.YtjjfkmniffbgkaaDoorW.PrintWords Go.Proofs.YtjjfkmniffbgkaaDoorW.PrintLast Go.Proofs.YtjjfkmniffbgkaaDoorW.PrintMore Go.Proofs.YtjjfkmniffbgkaaDoor.QFrmA Go.Proofs.YtjjfkmniffbgkaaDoor.Given
end Go.Proofs.YtjjfkmniffbgkaaDoor

/- FrameBack's pure part: what read answered is put as it stood. -/
namespace Go.Proofs.YtjjfkmniffbgkaaDoor
set_option linter.unusedVariables false
set_option linter.unusedSimpArgs false
open Go.RowKit Go.Proofs.YtjjfkmniffbgkaaDoorW.PrintWords Go.Proofs.YtjjfkmniffbgkaaDoorW.PrintLast Go.Proofs.YtjjfkmniffbgkaaDoorW.PrintMore Go.Proofs.YtjjfkmniffbgkaaDoor.QFrmA Go.Proofs.YtjjfkmniffbgkaaDoor.Given
theorem notlean {ty fl : Int} (h2 : ty ≠ 2) (h1 : ty ≠ 1) : leansB ty fl = false := by
 unfold leansB
 rw [if_neg h2, if_neg h1]
end Go.Proofs.YtjjfkmniffbgkaaDoor

/- FrameBack's pure part: a payload that was read is put as it stood. -/
namespace Go.Proofs.YtjjfkmniffbgkaaDoor
set_option linter.unusedVariables false
set_option linter.unusedSimpArgs false
open Go.RowKit Go.Proofs.YtjjfkmniffbgkaaDoorW.PrintWords Go.Proofs.YtjjfkmniffbgkaaDoorW.PrintLast Go.Proofs.YtjjfkmniffbgkaaDoorW.PrintMore Go.Proofs.YtjjfkmniffbgkaaDoor.QFrmA Go.Proofs.YtjjfkmniffbgkaaDoor.Given
end Go.Proofs.YtjjfkmniffbgkaaDoor

/- FrameBack's pure part: what read answered may be. -/
namespace Go.Proofs.YtjjfkmniffbgkaaDoor
set_option linter.unusedVariables false
set_option linter.unusedSimpArgs false
open Go.RowKit Go.Proofs.YtjjfkmniffbgkaaDoorW.PrintWords Go.Proofs.YtjjfkmniffbgkaaDoorW.PrintLast Go.Proofs.YtjjfkmniffbgkaaDoorW.PrintMore Go.Proofs.YtjjfkmniffbgkaaDoor.QFrmA Go.Proofs.YtjjfkmniffbgkaaDoor.Given
structure HeadOnly (F : Fr) : Prop where
 code : F.code = 0
 oth : F.oth = 0
 wgt : F.wgt = 0
 al : F.al = false
 win : F.win = 0
 sets : F.sets = []
 data : F.data = []
end Go.Proofs.YtjjfkmniffbgkaaDoor

/- FrameBack's pure part: what read answered may be: bounds. -/
namespace Go.Proofs.YtjjfkmniffbgkaaDoor
set_option linter.unusedVariables false
set_option linter.unusedSimpArgs false
open Go.RowKit Go.Proofs.YtjjfkmniffbgkaaDoorW.PrintWords Go.Proofs.YtjjfkmniffbgkaaDoorW.PrintLast Go.Proofs.YtjjfkmniffbgkaaDoorW.PrintMore Go.Proofs.YtjjfkmniffbgkaaDoor.QFrmA Go.Proofs.YtjjfkmniffbgkaaDoor.Given
end Go.Proofs.YtjjfkmniffbgkaaDoor

/- FrameBack's pure part: what read answered may be, whole. -/
namespace Go.Proofs.YtjjfkmniffbgkaaDoor
set_option linter.unusedVariables false
set_option linter.unusedSimpArgs false
open Go.RowKit Go.Proofs.YtjjfkmniffbgkaaDoorW.PrintWords Go.Proofs.YtjjfkmniffbgkaaDoorW.PrintLast Go.Proofs.YtjjfkmniffbgkaaDoorW.PrintMore Go.Proofs.YtjjfkmniffbgkaaDoor.QFrmA Go.Proofs.YtjjfkmniffbgkaaDoor.Given
theorem HeadOnly.pad {F : Fr} (h : HeadOnly F) (p : Int) : HeadOnly { F with pad := p } := ⟨h.code, h.oth, h.wgt, h.al, h.win, h.sets, h.data⟩
end Go.Proofs.YtjjfkmniffbgkaaDoor

/- FrameBack's pure part: a frame is put as it stood. -/
namespace Go.Proofs.YtjjfkmniffbgkaaDoor
set_option linter.unusedVariables false
set_option linter.unusedSimpArgs false
open Go.RowKit Go.Proofs.YtjjfkmniffbgkaaDoorW.PrintWords Go.Proofs.YtjjfkmniffbgkaaDoorW.PrintLast Go.Proofs.YtjjfkmniffbgkaaDoorW.PrintMore Go.Proofs.YtjjfkmniffbgkaaDoor.QFrmA Go.Proofs.YtjjfkmniffbgkaaDoor.Given
theorem body_bad {F : Fr} {b : List Int} {s c : Int} (hr : bodyR F b = .bad s c) : s ≠ 0 := by
 unfold bodyR setsR at hr
 repeat' (first | (split at hr) | (injection hr with h1 h2; omega) | cases hr)
theorem read_bad {F : Fr} {l : List Int} {s c : Int} (hr : readR F l = .bad s c) : s ≠ 0 := by
 unfold readR at hr
 split at hr
 ·injection hr with h1 h2; omega
 ·exact body_bad hr
theorem get_good {l : List Int} (h0 : (getFr l).2.1 = 0) : 9 ≤ l.length ∧ headN l = (l.length : Int) ∧ l.length ≤ 16393 ∧ readR ⟨l.getD 3 0, l.getD 4 0, valL ((l.take 9).drop 5) % 2147483648, [], -1, 0, 0, 0, false, 0, []⟩ (l.drop 9) = .ok (getFr l).1 := by
 unfold getFr at h0 ⊢
 by_cases h1 : ¬ (9 ≤ l.length ∧ headN l = (l.length : Int))
 ·rw [if_pos h1] at h0; cases h0
 rw [if_neg h1] at h0 ⊢
 have h1' := Classical.not_not.1 h1
 by_cases h2 : 16393 < l.length
 ·rw [if_pos h2] at h0; cases h0
 rw [if_neg h2] at h0 ⊢
 by_cases h3 : stBad (l.getD 3 0) (valL ((l.take 9).drop 5) % 2147483648) = true
 ·rw [if_pos h3] at h0; cases h0
 rw [if_neg h3] at h0 ⊢
 cases hr : readR ⟨l.getD 3 0, l.getD 4 0, valL ((l.take 9).drop 5) % 2147483648, [], -1, 0, 0, 0, false, 0, []⟩ (l.drop 9) with
 | bad s c =>
  rw [hr] at h0
  exact absurd h0 (read_bad hr)
 | ok F => exact ⟨h1'.1, h1'.2, by omega, rfl⟩
end Go.Proofs.YtjjfkmniffbgkaaDoor

/- FramePuts' pure part: a payload is got as it was. -/
namespace Go.Proofs.YtjjfkmniffbgkaaDoor
set_option linter.unusedVariables false
set_option linter.unusedSimpArgs false
open Go.RowKit Go.Proofs.YtjjfkmniffbgkaaDoorW.PrintWords Go.Proofs.YtjjfkmniffbgkaaDoorW.PrintLast Go.Proofs.YtjjfkmniffbgkaaDoorW.PrintMore Go.Proofs.YtjjfkmniffbgkaaDoor.QFrmA Go.Proofs.YtjjfkmniffbgkaaDoor.Given
structure FrWf (F : Fr) : Prop where
 ty0 : 0 ≤ F.ty
 ty1 : F.ty ≤ 255
 fl0 : 0 ≤ F.fl
 fl1 : F.fl ≤ 255
 st0 : 0 ≤ F.st
 st1 : F.st ≤ 4294967295
 data : Byte8 F.data
 code0 : 0 ≤ F.code
 code1 : F.code ≤ 4294967295
 oth0 : 0 ≤ F.oth
 oth1 : F.oth ≤ 4294967295
 wgt0 : 0 ≤ F.wgt
 wgt1 : F.wgt ≤ 255
 win0 : 0 ≤ F.win
 win1 : F.win ≤ 4294967295
 sets : ∀ s ∈ F.sets, 0 ≤ s.f0 ∧ s.f0 ≤ 65535 ∧ 0 ≤ s.f1 ∧ s.f1 ≤ 4294967295
theorem byte_be4 (n : Int) : Byte8 (be4 n) := fun x hx => by
 simp only [be4, List.mem_cons, List.not_mem_nil, or_false] at hx
 rcases hx with rfl | rfl | rfl | rfl <;> omega
theorem byte_be3 (n : Int) : Byte8 (be3 n) := fun x hx => by
 simp only [be3, List.mem_cons, List.not_mem_nil, or_false] at hx
 rcases hx with rfl | rfl | rfl <;> omega
theorem byte_be2 (n : Int) : Byte8 (be2 n) := fun x hx => by
 simp only [be2, List.mem_cons, List.not_mem_nil, or_false] at hx
 rcases hx with rfl | rfl <;> omega
theorem byte_app {a b : List Int} (ha : Byte8 a) (hb : Byte8 b) : Byte8 (a ++ b) := fun x hx => (List.mem_append.1 hx).elim (ha x) (hb x)
theorem val_be4 {n : Int} (h0 : 0 ≤ n) (h1 : n ≤ 4294967295) : valL (be4 n) = n := by
 unfold be4
 rw [shr24, shr16, shr8, shr0]
 simp only [valL, valFrom]
 omega
theorem val_be3 {n : Int} (h0 : 0 ≤ n) (h1 : n ≤ 16777215) : valL (be3 n) = n := by
 unfold be3
 rw [shr16, shr8, shr0]
 simp only [valL, valFrom]
 omega
theorem val_be2 {n : Int} (h0 : 0 ≤ n) (h1 : n ≤ 65535) : valL (be2 n) = n := by
 unfold be2
 rw [shr8, shr0]
 simp only [valL, valFrom]
 omega
theorem or_top {n : Int} (h0 : 0 ≤ n) (h1 : n ≤ 2147483647) : Go.bits .or .u32 n 2147483648 = n + 2147483648 := by
 have := top_or (v := n + 2147483648) (by omega) (by omega)
 rw [show (n + 2147483648) % 2147483648 = n by omega] at this
 exact this
theorem be4_beL (n : Int) : be4 n = beL n 4 := by
 unfold be4
 rw [shr24, shr16, shr8, shr0]
 simp [beL]
theorem be2_beL {n : Int} (h0 : 0 ≤ n) (h1 : n ≤ 65535) : be2 (n % 4294967296) = beL n 2 := by
 unfold be2
 rw [shr8, shr0, Int.emod_eq_of_lt h0 (by omega)]
 simp [beL]
theorem setL_rset {s : S99} (h0 : 0 ≤ s.f0) (h1 : s.f0 ≤ 65535) : setL s = rsetL s := by
 unfold setL rsetL
 rw [be2_beL h0 h1, be4_beL]
theorem sets_rset : ∀ {l : List S99}, (∀ s ∈ l, 0 ≤ s.f0 ∧ s.f0 ≤ 65535 ∧ 0 ≤ s.f1 ∧ s.f1 ≤ 4294967295) → l.flatMap setL = l.flatMap rsetL
 | [], _ => rfl
 | s :: l, h => by
  rw [List.flatMap_cons, List.flatMap_cons, setL_rset (h s (by simp)).1 (h s (by simp)).2.1, sets_rset (fun x hx => h x (by simp [hx]))]
theorem lean_ty {F : Fr} (h : leansB F.ty F.fl = true) : F.ty = 1 ∨ F.ty = 2 := by
 unfold leansB at h
 by_cases t2 : F.ty = 2
 ·exact .inr t2
 ·by_cases t1 : F.ty = 1
  ·exact .inl t1
  ·rw [if_neg t2, if_neg t1] at h; cases h
theorem mid_lean {F : Fr} (h : leansB F.ty F.fl = true) : midL F = [] := by
 have := lean_ty h
 unfold midL
 rw [if_neg (by omega), if_neg (by omega), if_neg (by omega), if_neg (by omega), if_neg (by omega)]
theorem leanL_rlean {F : Fr} (h0 : 0 ≤ F.oth) (h1 : F.oth ≤ 2147483647) : leanL F = rleanL F := by
 unfold leanL rleanL
 rw [be4_beL]
 cases F.al
 ·rfl
 ·rw [if_pos rfl, if_pos rfl, or_top h0 h1]
theorem mid_rmid {F : Fr} (h : FrWf F) : midL F = rmidL F := by
 unfold midL rmidL
 by_cases t3 : F.ty = 3
 ·rw [if_pos t3, if_pos t3, be4_beL]
 by_cases t4 : F.ty = 4
 ·rw [if_neg t3, if_neg t3, if_pos t4, if_pos t4, sets_rset h.sets]
 by_cases t5 : F.ty = 5
 ·rw [if_neg t3, if_neg t3, if_neg t4, if_neg t4, if_neg (by omega), if_pos t5, if_pos t5, be4_beL]
 by_cases t7 : F.ty = 7
 ·rw [if_neg t3, if_neg t3, if_neg t4, if_neg t4, if_pos t7, if_neg t5, if_pos t7, be4_beL, be4_beL]
 by_cases t8 : F.ty = 8
 ·rw [if_neg t3, if_neg t3, if_neg t4, if_neg t4, if_neg t7, if_neg t5, if_pos t8, if_neg t5, if_neg t7, if_pos t8, be4_beL]
 ·rw [if_neg t3, if_neg t3, if_neg t4, if_neg t4, if_neg t7, if_neg t5, if_neg t8, if_neg t5, if_neg t7, if_neg t8]
def coreL (F : Fr) : List Int := midL F ++ (if leansB F.ty F.fl = true then leanL F else []) ++ F.data
theorem pay_core (F : Fr) : payL F = (if 0 ≤ F.pad then [F.pad % 256] else []) ++ (coreL F ++ List.replicate (mx F.pad 0).toNat 0) := by
 unfold payL tailL coreL
 simp only [List.append_assoc]
theorem pay_rpay {F : Fr} (h : FrWf F) (ho : F.oth ≤ 2147483647) : payL F = rpayL F := by
 have e : coreL F = rheadL F ++ F.data := by
  unfold coreL rheadL
  by_cases hl : leansB F.ty F.fl = true
  ·rw [mid_lean hl, if_pos hl, if_pos hl, List.nil_append, leanL_rlean h.oth0 ho]
  ·rw [if_neg hl, if_neg hl, List.append_nil, mid_rmid h]
 rw [pay_core, e]
 unfold rpayL
 by_cases hp : 0 ≤ F.pad
 ·rw [if_pos hp, if_pos hp]
  have : mx F.pad 0 = F.pad := by unfold mx; split <;> omega
  rw [this]
  simp only [List.append_assoc]
 ·rw [if_neg hp, if_neg hp]
  have : (mx F.pad 0).toNat = 0 := by unfold mx; split <;> omega
  rw [this]
  simp
theorem parseS_put : ∀ (l : List S99) (r : List Int), (∀ s ∈ l, 0 ≤ s.f0 ∧ s.f0 ≤ 65535 ∧ 0 ≤ s.f1 ∧ s.f1 ≤ 4294967295) → parseS l.length (l.flatMap setL ++ r) = l
 | [], r, _ => rfl
 | s :: l, r, h => by
  have hs := h s (by simp)
  rw [List.flatMap_cons, List.append_assoc]
  have e2 : (setL s ++ (l.flatMap setL ++ r)).take 2 = be2 (s.f0 % 4294967296) := rfl
  have e6 : ((setL s ++ (l.flatMap setL ++ r)).take 6).drop 2 = be4 s.f1 := rfl
  have ed : (setL s ++ (l.flatMap setL ++ r)).drop 6 = l.flatMap setL ++ r := rfl
  rw [List.length_cons, parseS, e2, e6, ed, parseS_put l r (fun x hx => h x (by simp [hx])), Int.emod_eq_of_lt hs.1 (by omega), val_be2 hs.1 hs.2.1, val_be4 hs.2.2.1 hs.2.2.2]
theorem sets_len6 : ∀ (l : List S99), (l.flatMap setL).length = 6 * l.length
 | [] => rfl
 | x :: l => by rw [List.flatMap_cons, List.length_append, sets_len6 l, setL_len, List.length_cons]; omega
theorem body_put {F G : Fr} (hw : FrWf F) (hm : MayOk F) (hr : bodyR ⟨F.ty, F.fl, F.st, [], F.pad, 0, 0, 0, false, 0, []⟩ (coreL F) = .ok G) : G = F := by
 obtain ⟨f1, f2, f3, f4, f5, f6⟩ := hm.fields
 have ho := hm.oth
 have hwn := hm.win
 have hv : ∀ n r, 0 ≤ n → n ≤ 4294967295 → valL ((be4 n ++ r).take 4) = n := fun n r h0 h1 => by
  rw [show (be4 n ++ r).take 4 = be4 n from rfl, val_be4 h0 h1]
 unfold bodyR at hr
 obtain ⟨ty, fl, st, data, pad, code, oth, wgt, al, win, sets⟩ := F
 dsimp only at f1 f2 f3 f4 f5 f6 ho hwn hr
 by_cases hl : leansB ty fl = true
 ·have ht := lean_ty (F := ⟨ty, fl, st, data, pad, code, oth, wgt, al, win, sets⟩) hl
  dsimp only at ht
  have ec : coreL ⟨ty, fl, st, data, pad, code, oth, wgt, al, win, sets⟩ = leanL ⟨ty, fl, st, data, pad, code, oth, wgt, al, win, sets⟩ ++ data := by
   unfold coreL
   rw [mid_lean hl, if_pos hl, List.nil_append]
  rw [ec] at hr
  have e1 : code = 0 := f3.resolve_left (by omega)
  have e2 : win = 0 := f4.resolve_left (by omega)
  have e3 : sets = [] := f5.resolve_left (by omega)
  have ho0 := hw.oth0
  dsimp only at ho0
  have ev : valL ((leanL ⟨ty, fl, st, data, pad, code, oth, wgt, al, win, sets⟩ ++ data).take 4) = if al = true then oth + 2147483648 else oth := by
   unfold leanL
   dsimp only
   rw [List.append_assoc]
   cases al
   ·rw [if_neg (by decide), if_neg (by decide)]
    exact hv _ _ ho0 (by omega)
   ·rw [if_pos rfl, if_pos rfl, or_top ho0 ho]
    exact hv _ _ (by omega) (by omega)
  have ed : (leanL ⟨ty, fl, st, data, pad, code, oth, wgt, al, win, sets⟩ ++ data).drop 5 = data := rfl
  have e4 : (leanL ⟨ty, fl, st, data, pad, code, oth, wgt, al, win, sets⟩ ++ data).getD 4 0 = wgt := rfl
  rw [if_pos hl] at hr
  unfold leanF at hr
  rw [ed, e4, ev] at hr
  have hx : ∃ x, (if al = true then oth + 2147483648 else oth) = x := ⟨_, rfl⟩
  have fin : (⟨ty, fl, st, data, pad, 0, (if al = true then oth + 2147483648 else oth) % 2147483648, wgt, decide (2147483648 ≤ (if al = true then oth + 2147483648 else oth)), 0, []⟩ : Fr) = ⟨ty, fl, st, data, pad, code, oth, wgt, al, win, sets⟩ := by
   subst e1 e2 e3
   cases al
   ·rw [if_neg (by decide), Int.emod_eq_of_lt ho0 (by omega), decide_eq_false (by omega)]
   ·rw [if_pos rfl, show (oth + 2147483648) % 2147483648 = oth by omega, decide_eq_true (by omega)]
  obtain ⟨x, hx⟩ := hx
  rw [hx] at hr fin
  repeat' (first | (split at hr) | cases hr)
  all_goals first | exact fin | omega
 ·have hl' : leansB ty fl = false := by simpa using hl
  have ha : wgt = 0 ∧ al = false := f1.resolve_left hl
  obtain ⟨rfl, rfl⟩ := ha
  have ec : coreL ⟨ty, fl, st, data, pad, code, oth, 0, false, win, sets⟩ = midL ⟨ty, fl, st, data, pad, code, oth, 0, false, win, sets⟩ ++ data := by
   unfold coreL
   rw [if_neg hl, List.append_nil]
  rw [ec] at hr
  have h2 : ¬ ty = 2 := fun h => hl (by unfold leansB; rw [if_pos h])
  have f2' : ty = 5 ∨ ty = 7 ∨ oth = 0 := by
   rcases f2 with (h | h | h) | h
   ·exact absurd h hl
   ·exact .inl h
   ·exact .inr (.inl h)
   ·exact .inr (.inr h)
  by_cases t3 : ty = 3
  ·have e1 : data = [] := f6.resolve_left (by omega)
   have e2 : oth = 0 := by omega
   have e3 : win = 0 := f4.resolve_left (by omega)
   have e4 : sets = [] := f5.resolve_left (by omega)
   subst t3 e1 e2 e3 e4
   have hv3 := val_be4 (n := code) hw.code0 hw.code1
   rw [show midL ⟨3, fl, st, [], pad, code, 0, 0, false, 0, []⟩ = be4 code from rfl, List.append_nil, hv3] at hr
   repeat' (first | (split at hr) | cases hr)
   all_goals first | rfl | omega
  by_cases t4 : ty = 4
  ·have e1 : data = [] := f6.resolve_left (by omega)
   have e2 : oth = 0 := by omega
   have e3 : win = 0 := f4.resolve_left (by omega)
   have e4 : code = 0 := f3.resolve_left (by omega)
   subst t4 e1 e2 e3 e4
   have hp := parseS_put sets [] hw.sets
   rw [List.append_nil] at hp
   have hl6 := sets_len6 sets
   unfold setsR at hr
   rw [show midL ⟨4, fl, st, [], pad, 0, 0, 0, false, 0, sets⟩ = sets.flatMap setL from rfl, List.append_nil, show (sets.flatMap setL).length / 6 = sets.length by omega, hp] at hr
   repeat' (first | (split at hr) | cases hr)
   all_goals first | rfl | omega
  by_cases t7 : ty = 7
  ·have e3 : win = 0 := f4.resolve_left (by omega)
   have e4 : sets = [] := f5.resolve_left (by omega)
   subst t7 e3 e4
   have hv1 := hv oth (be4 code ++ data) hw.oth0 (by omega)
   have hv2 : valL (((be4 oth ++ be4 code ++ data).drop 4).take 4) = code := hv code data hw.code0 hw.code1
   have hd : (be4 oth ++ be4 code ++ data).drop 8 = data := rfl
   have ho0 := hw.oth0
   dsimp only at ho0
   rw [show midL ⟨7, fl, st, data, pad, code, oth, 0, false, 0, []⟩ = be4 oth ++ be4 code from rfl, hd, hv2, List.append_assoc, hv1, Int.emod_eq_of_lt ho0 (by omega)] at hr
   repeat' (first | (split at hr) | cases hr)
   all_goals first | rfl | omega
  by_cases t5 : ty = 5
  ·have e3 : win = 0 := f4.resolve_left (by omega)
   have e4 : sets = [] := f5.resolve_left (by omega)
   have e2 : code = 0 := f3.resolve_left (by omega)
   subst t5 e3 e4 e2
   have hv1 := hv oth data hw.oth0 (by omega)
   have hd : (be4 oth ++ data).drop 4 = data := rfl
   have ho0 := hw.oth0
   dsimp only at ho0
   rw [show midL ⟨5, fl, st, data, pad, 0, oth, 0, false, 0, []⟩ = be4 oth from rfl, hd, hv1, Int.emod_eq_of_lt ho0 (by omega)] at hr
   repeat' (first | (split at hr) | cases hr)
   all_goals first | rfl | omega
  by_cases t8 : ty = 8
  ·have e1 : data = [] := f6.resolve_left (by omega)
   have e2 : oth = 0 := by omega
   have e4 : sets = [] := f5.resolve_left (by omega)
   have e5 : code = 0 := f3.resolve_left (by omega)
   subst t8 e1 e2 e4 e5
   have hv3 := val_be4 (n := win) hw.win0 hw.win1
   have hw0 := hw.win0
   dsimp only at hw0
   rw [show midL ⟨8, fl, st, [], pad, 0, 0, 0, false, win, []⟩ = be4 win from rfl, List.append_nil, hv3, Int.emod_eq_of_lt hw0 (by omega)] at hr
   repeat' (first | (split at hr) | cases hr)
   all_goals first | rfl | omega
  ·have e2 : oth = 0 := by omega
   have e3 : win = 0 := f4.resolve_left t8
   have e4 : sets = [] := f5.resolve_left t4
   have e5 : code = 0 := f3.resolve_left (by omega)
   subst e2 e3 e4 e5
   have em : midL ⟨ty, fl, st, data, pad, 0, 0, 0, false, 0, []⟩ = [] := by
    unfold midL
    exact (if_neg t3).trans ((if_neg t4).trans ((if_neg t7).trans ((if_neg t5).trans (if_neg t8))))
   rw [em, List.nil_append, if_neg hl] at hr
   repeat' (first | (split at hr) | cases hr)
   all_goals first | rfl | omega | contradiction
end Go.Proofs.YtjjfkmniffbgkaaDoor

/- The reference of frames: what May tells. (This text is printed by wip/gen/rmay.py.) -/
namespace Go.Proofs.YtjjfkmniffbgkaaDoor
set_option linter.unusedVariables false
set_option linter.unusedSimpArgs false
open Go.RowKit Go.Proofs.YtjjfkmniffbgkaaDoorW.PrintWords Go.Proofs.YtjjfkmniffbgkaaDoorW.PrintLast Go.Proofs.YtjjfkmniffbgkaaDoorW.PrintMore Go.Proofs.YtjjfkmniffbgkaaDoor.QFrmA Go.Proofs.YtjjfkmniffbgkaaDoor.Given Go.Extern.Stop Go.Stop Go.Extern Go.Maps
def mayPad (F : Fr) : Bool := (decide (F.ty = 0 ∨ F.ty = 1 ∨ F.ty = 5) && (F.fl.tdiv 8 % 2 == 1))
def mayT2 (F : Fr) (pd : Bool) : Bool := ((pd && (decide (F.pad < 0) || decide (255 < F.pad))) || ((!pd) && (F.pad != -1)))
def mayT4 (F : Fr) : Bool := ((decide (2147483647 < F.st) || decide (2147483647 < F.oth)) || decide (2147483647 < F.win))
def mayT6 (F : Fr) : Bool := ((((F.wgt != 0) || F.al) && (!leansB F.ty F.fl)) || ((((F.oth != 0) && (!leansB F.ty F.fl)) && (F.ty != 5)) && (F.ty != 7)))
def mayT8 (F : Fr) : Bool := (((((F.code != 0) && (F.ty != 3)) && (F.ty != 7)) || ((F.win != 0) && (F.ty != 8))) || (decide (0 < (F.sets.length : Int)) && (F.ty != 4)))
def mayT10 (F : Fr) : Bool := ((decide (0 < (F.data.length : Int)) && ((((F.ty == 2) || (F.ty == 3)) || (F.ty == 4)) || (F.ty == 8))) || ((F.ty == 6) && ((F.data.length : Int) != 8)))
def mayT12 (F : Fr) : Bool := ((decide ((F.data.length : Int) ≤ 16384) && decide ((F.sets.length : Int) ≤ 3000)) && decide (((rpayL F).length : Int) ≤ 16384))
def rmayB (F : Fr) : Bool := if mayT2 F (mayPad F) = true then false else if mayT4 F = true then false else if mayT6 F = true then false else if mayT8 F = true then false else if mayT10 F = true then false else mayT12 F
end Go.Proofs.YtjjfkmniffbgkaaDoor
