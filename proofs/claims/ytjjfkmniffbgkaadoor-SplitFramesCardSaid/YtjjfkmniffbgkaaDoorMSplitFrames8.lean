/- Texts of this claim, put together: RfPay, FPure1, FrmPure10, FrmPure11, FrmPure12, FrmPure13, FrmPure14, FrmPure15, FrmPure16, FrmPure17, FrmPure18, FPure2, OpenFr, Hold3, Clear2, Eq, FGets, SplitL. -/
import Derived.Test.YtjjfkmniffbgkaaDoorMSplitFrames7
import Derived.Test.YtjjfkmniffbgkaaDoorMSplitFrames5
import Derived.Test.YtjjfkmniffbgkaaDoorMSplitFrames6
import Derived.Test.YtjjfkmniffbgkaaDoorMSplitFramesW2
import Derived.Test.YtjjfkmniffbgkaaDoorMSplitFrames2
import Derived.Lib.SliceRun
import Derived.Lib.LazyBuf
import Derived.Deep.Upon
import Derived.Test.YtjjfkmniffbgkaaDoorProg
import Derived.Test.YtjjfkmniffbgkaaDoorMSplitFrames0
/- The reference of frames: payload, walked. (This text is printed by wip/gen/rfpay.py.) -/
namespace Go.Proofs.YtjjfkmniffbgkaaDoor
set_option linter.unusedVariables false
set_option linter.unusedSimpArgs false
open Go.RowKit Go.Proofs.YtjjfkmniffbgkaaDoorW.PrintWords Go.Proofs.YtjjfkmniffbgkaaDoorW.PrintLast Go.Proofs.YtjjfkmniffbgkaaDoorW.PrintMore Go.Proofs.YtjjfkmniffbgkaaDoor.QFrmA Go.Proofs.YtjjfkmniffbgkaaDoor.Given Go.Extern.Stop Go.Stop Go.Extern Go.Maps
def rleanL (F : Fr) : List Int := beL (if F.al = true then F.oth + 2147483648 else F.oth) 4 ++ [F.wgt]
def rsetL (s : S99) : List Int := beL s.f0 2 ++ beL s.f1 4
def rmidL (F : Fr) : List Int :=
 if F.ty = 3 then beL F.code 4 else if F.ty = 4 then F.sets.flatMap rsetL else if F.ty = 5 then beL F.oth 4 else if F.ty = 7 then beL F.oth 4 ++ beL F.code 4 else if F.ty = 8 then beL F.win 4 else []
def rheadL (F : Fr) : List Int := if leansB F.ty F.fl = true then rleanL F else rmidL F
def rpayL (F : Fr) : List Int := if 0 ≤ F.pad then [F.pad % 256] ++ (rheadL F ++ F.data) ++ List.replicate F.pad.toNat 0 else rheadL F ++ F.data
structure FrOk (F : Fr) : Prop where
 fl0 : 0 ≤ F.fl
 fl1 : F.fl ≤ 255
 code0 : 0 ≤ F.code
 code1 : F.code ≤ 4294967295
 oth0 : 0 ≤ F.oth
 oth1 : F.oth ≤ 4294967295
 win0 : 0 ≤ F.win
 win1 : F.win ≤ 4294967295
 sets : ∀ s ∈ F.sets, 0 ≤ s.f0 ∧ s.f0 ≤ 65535 ∧ 0 ≤ s.f1 ∧ s.f1 ≤ 4294967295
theorem u64_wrap {n : Int} (h0 : 0 ≤ n) (h1 : n ≤ 18446744073709551615) : IntKind.u64.wrap n = n := by
 simp [IntKind.wrap, IntKind.bits, IntKind.signed]
 omega
theorem rsetL_len (s : S99) : (rsetL s).length = 6 := by simp [rsetL, beL_length]
theorem sets_len : ∀ (l : List S99), (l.flatMap rsetL).length = 6 * l.length
 | [] => rfl
 | x :: l => by rw [List.flatMap_cons, List.length_append, sets_len l, rsetL_len, List.length_cons]; omega
theorem rmid_len (F : Fr) (h : F.sets.length ≤ 10000) : (rmidL F).length ≤ 60000 := by
 unfold rmidL
 split
 ·simp [beL_length]
 split
 ·rw [sets_len]; omega
 split
 ·simp [beL_length]
 split
 ·simp [beL_length]
 split
 ·simp [beL_length]
 ·simp
theorem rlean_calls (w : World) (F : Fr) (A B : Option Addr) (c m : Nat) (hA : Kd.C (Kd.int .u8) w A F.data.length F.data) (hc : F.data.length ≤ c) (hB : Kd.C k99 w B F.sets.length F.sets) (hm : F.sets.length ≤ m) (h : FrOk F) :
  Calls Tryd.prog 76 #[.agg (frC F (.slice A F.data.length c) (.slice B F.sets.length m))] w fun e w' => e = .returned (.string (strOfNums (rleanL F))) ∧ Below w.heap.size w w' := by
 have hn : ∀ n : Int, 0 ≤ n → n ≤ 18446744073709551615 → ∃ k, QFrmN.louverref07_Number.f k n 4 = some (strOfNums (beL n 4)) := fun n h0 h1 => by
  have e := ev_number_ref_loop 4 4 0 n ⟨#[]⟩ (by omega) (by decide) h0 h1 (by decide)
  have e2 : strOfNums (beL n 4) ++ (⟨#[]⟩ : ByteArray) = strOfNums (beL n 4) := by
   refine bytes_ext ?_
   simp
  rw [e2] at e
  obtain ⟨k, hk⟩ := e.rounds
  exact ⟨k, hk⟩
 have ho : ∃ k, QFrmL.louverref07_lean.f k F.ty F.fl F.st F.data F.pad F.code F.oth F.wgt F.al F.win F.sets = some (strOfNums (rleanL F)) := by
  unfold QFrmL.louverref07_lean.f rleanL
  have ew : IntKind.u64.wrap F.oth = F.oth := u64_wrap h.oth0 (by have := h.oth1; omega)
  have ew2 : IntKind.u64.wrap (F.oth + 2147483648) = F.oth + 2147483648 := u64_wrap (by have := h.oth0; omega) (by have := h.oth1; omega)
  rw [ew, ew2]
  cases F.al
  ·obtain ⟨k, hk⟩ := hn F.oth h.oth0 (by have := h.oth1; omega)
   refine ⟨k, ?_⟩
   simp only [Bool.false_eq_true, if_false]
   rw [hk]
   simp only [Option.bind_some]
   rw [if_pos (by rw [str_size, str_size, beL_length]; exact Nat.le_of_ble_eq_true rfl), strs_append]
  ·obtain ⟨k, hk⟩ := hn (F.oth + 2147483648) (by have := h.oth0; omega) (by have := h.oth1; omega)
   refine ⟨k, ?_⟩
   simp only [if_true]
   rw [hk]
   simp only [Option.bind_some]
   rw [if_pos (by rw [str_size, str_size, beL_length]; exact Nat.le_of_ble_eq_true rfl), strs_append]
 obtain ⟨k, hk⟩ := ho
 exact QFrmL.louverref07_lean.calls k F.ty F.fl F.st A c F.data F.pad F.code F.oth F.wgt F.al F.win B m F.sets _ w hA hc hB hm hk
theorem fits_cat {a b : List Int} (h : a.length + b.length ≤ 1000000) : (strOfNums a).size + (strOfNums b).size ≤ 9223372036854775807 := by rw [str_size, str_size]; omega
set_option maxHeartbeats 8000000 in
set_option maxRecDepth 100000 in
theorem rpay_calls (w : World) (F : Fr) (A B : Option Addr) (c m : Nat) (hA : Kd.C (Kd.int .u8) w A F.data.length F.data) (hc : F.data.length ≤ c) (hB : Kd.C k99 w B F.sets.length F.sets) (hm : F.sets.length ≤ m) (h : FrOk F)
  (hp0 : -1 ≤ F.pad) (hp1 : F.pad ≤ 255) (hd : F.data.length ≤ 100000) (hs : F.sets.length ≤ 10000) :
  Calls Tryd.prog 52 #[.agg (frC F (.slice A F.data.length c) (.slice B F.sets.length m))] w fun e w' => e = .returned (.string (strOfNums (rpayL F))) ∧ Below w.heap.size w w' := by
 refine of_post0 fun R hRR => ?_
 have HP := Lib.hid hRR
 have HK := Lib.hid h
 have HA := Lib.hid (And.intro hA (And.intro hc (And.intro hB hm)))
 have HZ := Lib.hid (And.intro hp0 (And.intro hp1 (And.intro hd hs)))
 have uc : IntKind.u64.wrap F.code = F.code := u64_wrap h.code0 (by have := h.code1; omega)
 have uo : IntKind.u64.wrap F.oth = F.oth := u64_wrap h.oth0 (by have := h.oth1; omega)
 have uw : IntKind.u64.wrap F.win = F.win := u64_wrap h.win0 (by have := h.win1; omega)
 have NC := Lib.hid (fun W => rnumber_calls W F.code 4 (by decide) h.code0 (by have := h.code1; omega))
 have NO := Lib.hid (fun W => rnumber_calls W F.oth 4 (by decide) h.oth0 (by have := h.oth1; omega))
 have NW := Lib.hid (fun W => rnumber_calls W F.win 4 (by decide) h.win0 (by have := h.win1; omega))
 have HF := Lib.hid (show ((strOfNums (beL F.oth 4)).size + (strOfNums (beL F.code 4)).size ≤ 9223372036854775807) from fits_cat (by rw [beL_length, beL_length]; decide))
 have hcat := eq_false (Nat.not_lt.2 HF.out)
 clear hRR h hA hc hB hm hp0 hp1 hd hs
 have H : Hold w w [] [] := Hold.nothing (Kept.refl _ _)
 go_enter Tryd.func52, Tryd.ntmps52
 go_upto_block 0 with (first
  | (refine box_h H rfl rfl rfl rfl ?_; clear H; intro g w_ H)
  | (refine loadf_h H rfl rfl rfl (by repeat (first | exact List.Mem.head _ | apply List.Mem.tail)) rfl (by kernel_rfl) ?_))
 (try simp only [Act.put, putA, putB, putC])
 go_cut [3] (fun v3 wc => v3 = .string (strOfNums (rmidL F)) ∧ Hold w wc [] [cl g (frC F (.slice A F.data.length c) (.slice B F.sets.length m)).toList 38])
 case first =>
  by_cases t3 : F.ty = 3
  ·have b_ : (F.ty == 3) = true := by rw [beq_iff_eq]; exact t3
   have E := Lib.hid (show rmidL F = beL F.code 4 by unfold rmidL; rw [if_pos t3])
   clear t3
   go_wp2_with (first
    | (refine loadf_h H rfl rfl rfl (by repeat (first | exact List.Mem.head _ | apply List.Mem.tail)) rfl (by kernel_rfl) ?_)
    | (go_at_call 30; refine (NC.out _).mono ?_; rintro e_ w_ ⟨rfl, h_⟩; replace H := H.below h_; clear h_))
   go_meet
   exact ⟨by rw [E.out], H⟩
  have b3 : (F.ty == 3) = false := by rw [beq_eq_false_iff_ne]; exact t3
  by_cases t4 : F.ty = 4
  ·have b_ : (F.ty == 4) = true := by rw [beq_iff_eq]; exact t4
   have E := Lib.hid (show rmidL F = F.sets.flatMap rsetL by unfold rmidL; rw [if_neg t3]; rw [if_pos t4])
   clear t3 t4
   go_wp2_with (first | (refine loadf_h H rfl rfl rfl (by repeat (first | exact List.Mem.head _ | apply List.Mem.tail)) rfl (by kernel_rfl) ?_))
   go_loopg [3, 18] F.sets.length (fun k v3 v18 wr => ∃ j : Nat, v18 = .int .i64 (j : Int) ∧ j + k = F.sets.length ∧ v3 = .string (strOfNums ((F.sets.take j).flatMap rsetL)) ∧ Hold w wr [] [cl g (frC F (.slice A F.data.length c) (.slice B F.sets.length m)).toList 38])
   case atStart => exact ⟨0, rfl, by omega, rfl, H⟩
   case round =>
    clear H
    obtain ⟨j, rfl, hj, rfl, H⟩ := hrel
    cases gk with
    | zero =>
     have d0 : decide ((j : Int) < (F.sets.length : Int)) = false := by rw [decide_eq_false_iff_not]; omega
     have d1 : decide (j < F.sets.length) = false := by rw [decide_eq_false_iff_not]; omega
     have HJ := Lib.hid hj
     clear hj
     go_wp2_with fail
     go_meet
     exact ⟨by rw [E.out, List.take_of_length_le (by have := HJ.out; omega)], H⟩
    | succ k =>
     have hlm := HZ.out.2.2.2
     have p0_ : (0 : Int) ≤ (j : Int) := by omega
     have q0_ : (j : Int) < (F.sets.length : Int) := by omega
     have d0 : decide ((j : Int) < (F.sets.length : Int)) = true := decide_eq_true q0_
     have d1 : decide (j < F.sets.length) = true := decide_eq_true (by omega)
     have d2 : j < F.sets.length := by omega
     obtain ⟨ad, e1, ha0, ha1⟩ := at_T99 (Kd.C_below HA.out.2.2.1 H.all) (j : Int) p0_ q0_
     subst e1
     have x10 := (H.cell (by repeat (first | exact List.Mem.head _ | apply List.Mem.tail)) 10).trans (show _ = some (Value.slice (some ad) F.sets.length m) from rfl)
     have hsv := HK.out.sets (rd_T99 F.sets (j : Int)) (by unfold rd_T99; rw [List.getD_eq_getElem?_getD, Int.toNat_natCast, List.getElem?_eq_getElem d2]; exact List.getElem_mem d2)
     have htk : (F.sets.take (j + 1)).flatMap rsetL = (F.sets.take j).flatMap rsetL ++ rsetL (rd_T99 F.sets (j : Int)) := by
      unfold rd_T99
      rw [List.getD_eq_getElem?_getD, Int.toNat_natCast, List.getElem?_eq_getElem d2, List.take_succ_eq_append_getElem d2, List.flatMap_append]
      simp
     have hlt := sets_len (F.sets.take j)
     rw [List.length_take] at hlt
     have hlt2 : ((F.sets.take j).flatMap rsetL).length ≤ 60000 := by rw [hlt]; omega
     have HT := Lib.hid (And.intro htk (And.intro hlt2 hj))
     generalize rd_T99 F.sets (j : Int) = sv at ha0 ha1 hsv HT
     have s0 : IntKind.u64.wrap sv.f0 = sv.f0 := u64_wrap hsv.1 (by omega)
     have s1 : IntKind.u64.wrap sv.f1 = sv.f1 := u64_wrap hsv.2.2.1 (by omega)
     have N0 := Lib.hid (fun W => rnumber_calls W sv.f0 2 (by decide) hsv.1 (by omega))
     have N1 := Lib.hid (fun W => rnumber_calls W sv.f1 4 (by decide) hsv.2.2.1 (by omega))
     have c0 := eq_false (Nat.not_lt.2 (fits_cat (a := (F.sets.take j).flatMap rsetL) (b := beL sv.f0 2) (by rw [beL_length]; omega)))
     have c1 := eq_false (Nat.not_lt.2 (show ((strOfNums ((F.sets.take j).flatMap rsetL)).size + (strOfNums (beL sv.f0 2)).size + (strOfNums (beL sv.f1 4)).size ≤ 9223372036854775807) from (by rw [str_size, str_size, str_size, beL_length, beL_length]; omega)))
     clear hsv htk hlt hlt2 hj
     simp only [Int.toNat_natCast] at ha0 ha1
     go_wp2_with fail
     replace H := H.below (below_drew (Below.refl _ _))
     refine start_ (n := 20) (S := fun w' => w'.cell? ⟨g, 10, none⟩ = some (.slice (some ad) F.sets.length m) ∧ w'.cell? (ad.add (j * 2)) = some (.int .u16 sv.f0) ∧ w'.cell? ⟨(ad.add (j * 2)).block, (ad.add (j * 2)).off + 1, none⟩ = some (.int .u32 sv.f1)) (ds := []) #[false, false, false, false, false, false, false, false, false, false, false, false, false, false, false, false, false, false, false, false] (by kernel_rfl) rfl rfl ⟨x10, ha0, ha1⟩ (fun hHeld => ?_)
     generalize World.drew _ = wy at H hHeld ⊢
     refine pure_ (i := 0) (N := some 21) (v := ?_) (a' := ?_) #[true, false, false, false, false, false, false, false, false, false, false, false, false, false, false, false, false, false, false, false] rfl rfl (by kernel_rfl) (fun _ _ _ h => h) (Or.inl ⟨by rfl, ?_⟩) ?_ ?_
     rotate_left
     ·intro w'
      go_simp
      with_reducible rfl
     rotate_left
     ·simp only [Act.put, putA, putB, putC]
      rfl
     refine pure_ (i := 1) (N := some 22) (v := ?_) (a' := ?_) #[true, true, false, false, false, false, false, false, false, false, false, false, false, false, false, false, false, false, false, false] rfl rfl (by kernel_rfl) (fun _ _ _ h => h) (Or.inl ⟨by rfl, ?_⟩) ?_ ?_
     rotate_left
     ·intro w'
      go_simp
      with_reducible rfl
     rotate_left
     ·simp only [Act.put, putA, putB, putC]
      rfl
     refine take_ (i := 2) (N := some 23) (v := ?_) (a' := ?_) #[true, true, true, false, false, false, false, false, false, false, false, false, false, false, false, false, false, false, false, false] rfl rfl (by kernel_rfl) (fun _ _ _ h => h) (Or.inl ⟨by rfl, ?_⟩) hHeld ?_ ?_
     rotate_left
     ·rintro w' ⟨s0, s1, s2⟩
      go_simp
      with_reducible rfl
     rotate_left
     ·simp only [Act.put, putA, putB, putC]
      rfl
     refine pure_ (i := 3) (N := some 24) (v := ?_) (a' := ?_) #[true, true, true, true, false, false, false, false, false, false, false, false, false, false, false, false, false, false, false, false] rfl rfl (by kernel_rfl) (fun _ _ _ h => h) (Or.inl ⟨by rfl, ?_⟩) ?_ ?_
     rotate_left
     ·intro w'
      go_simp
      with_reducible rfl
     rotate_left
     ·simp only [Act.put, putA, putB, putC]
      rfl
     refine pure_ (i := 4) (N := some 25) (v := ?_) (a' := ?_) #[true, true, true, true, true, false, false, false, false, false, false, false, false, false, false, false, false, false, false, false] rfl rfl (by kernel_rfl) (fun _ _ _ h => h) (Or.inl ⟨by rfl, ?_⟩) ?_ ?_
     rotate_left
     ·intro w'
      go_simp
      with_reducible rfl
     rotate_left
     ·simp only [Act.put, putA, putB, putC]
      rfl
     refine pure_ (i := 5) (N := some 26) (v := ?_) (a' := ?_) #[true, true, true, true, true, true, false, false, false, false, false, false, false, false, false, false, false, false, false, false] rfl rfl (by kernel_rfl) (fun _ _ _ h => h) (Or.inl ⟨by rfl, ?_⟩) ?_ ?_
     rotate_left
     ·intro w'
      go_simp
      with_reducible rfl
     rotate_left
     ·simp only [Act.put, putA, putB, putC]
      rfl
     refine take_ (i := 6) (N := some 27) (v := ?_) (a' := ?_) #[true, true, true, true, true, true, true, false, false, false, false, false, false, false, false, false, false, false, false, false] rfl rfl (by kernel_rfl) (fun _ _ _ h => h) (Or.inl ⟨by rfl, ?_⟩) hHeld ?_ ?_
     rotate_left
     ·rintro w' ⟨s0, s1, s2⟩
      go_simp
      with_reducible rfl
     rotate_left
     ·simp only [Act.put, putA, putB, putC]
      rfl
     refine pure_ (i := 7) (N := some 28) (v := ?_) (a' := ?_) #[true, true, true, true, true, true, true, true, false, false, false, false, false, false, false, false, false, false, false, false] rfl rfl (by kernel_rfl) (fun _ _ _ h => h) (Or.inl ⟨by rfl, ?_⟩) ?_ ?_
     rotate_left
     ·intro w'
      go_simp
      with_reducible rfl
     rotate_left
     ·simp only [Act.put, putA, putB, putC]
      rfl
     refine pure_ (i := 10) (N := some 31) (v := ?_) (a' := ?_) #[true, true, true, true, true, true, true, true, false, false, true, false, false, false, false, false, false, false, false, false] rfl rfl (by kernel_rfl) (fun _ _ _ h => h) (Or.inl ⟨by rfl, ?_⟩) ?_ ?_
     rotate_left
     ·intro w'
      go_simp
      with_reducible rfl
     rotate_left
     ·simp only [Act.put, putA, putB, putC]
      rfl
     refine take_ (i := 11) (N := some 32) (v := ?_) (a' := ?_) #[true, true, true, true, true, true, true, true, false, false, true, true, false, false, false, false, false, false, false, false] rfl rfl (by kernel_rfl) (fun _ _ _ h => h) (Or.inl ⟨by rfl, ?_⟩) hHeld ?_ ?_
     rotate_left
     ·rintro w' ⟨s0, s1, s2⟩
      go_simp
      with_reducible rfl
     rotate_left
     ·simp only [Act.put, putA, putB, putC]
      rfl
     refine pure_ (i := 12) (N := some 33) (v := ?_) (a' := ?_) #[true, true, true, true, true, true, true, true, false, false, true, true, true, false, false, false, false, false, false, false] rfl rfl (by kernel_rfl) (fun _ _ _ h => h) (Or.inl ⟨by rfl, ?_⟩) ?_ ?_
     rotate_left
     ·intro w'
      go_simp
      with_reducible rfl
     rotate_left
     ·simp only [Act.put, putA, putB, putC]
      rfl
     refine pure_ (i := 13) (N := some 34) (v := ?_) (a' := ?_) #[true, true, true, true, true, true, true, true, false, false, true, true, true, true, false, false, false, false, false, false] rfl rfl (by kernel_rfl) (fun _ _ _ h => h) (Or.inl ⟨by rfl, ?_⟩) ?_ ?_
     rotate_left
     ·intro w'
      go_simp
      with_reducible rfl
     rotate_left
     ·simp only [Act.put, putA, putB, putC]
      rfl
     refine pure_ (i := 14) (N := some 35) (v := ?_) (a' := ?_) #[true, true, true, true, true, true, true, true, false, false, true, true, true, true, true, false, false, false, false, false] rfl rfl (by kernel_rfl) (fun _ _ _ h => h) (Or.inl ⟨by rfl, ?_⟩) ?_ ?_
     rotate_left
     ·intro w'
      go_simp
      with_reducible rfl
     rotate_left
     ·simp only [Act.put, putA, putB, putC]
      rfl
     refine take_ (i := 15) (N := some 36) (v := ?_) (a' := ?_) #[true, true, true, true, true, true, true, true, false, false, true, true, true, true, true, true, false, false, false, false] rfl rfl (by kernel_rfl) (fun _ _ _ h => h) (Or.inl ⟨by rfl, ?_⟩) hHeld ?_ ?_
     rotate_left
     ·rintro w' ⟨s0, s1, s2⟩
      go_simp
      with_reducible rfl
     rotate_left
     ·simp only [Act.put, putA, putB, putC]
      rfl
     refine pure_ (i := 16) (N := some 37) (v := ?_) (a' := ?_) #[true, true, true, true, true, true, true, true, false, false, true, true, true, true, true, true, true, false, false, false] rfl rfl (by kernel_rfl) (fun _ _ _ h => h) (Or.inl ⟨by rfl, ?_⟩) ?_ ?_
     rotate_left
     ·intro w'
      go_simp
      with_reducible rfl
     rotate_left
     ·simp only [Act.put, putA, putB, putC]
      rfl
     refine one_ (i := 8) (N := some 29) #[true, true, true, true, true, true, true, true, true, false, true, true, true, true, true, true, true, false, false, false] rfl rfl (by kernel_rfl) (by decide) (fun K hK => ?_)
     refine goes_ Tryd.func30 (by kernel_rfl) rfl #[.int .u64 sv.f0, .int .i64 2] (by rfl) rfl rfl (by (try simp only [List.map_toArray, List.map_cons, List.map_nil]); first | done | rfl) ?_
     refine (N0.out _).mono ?_
     rintro e w9 ⟨rfl, h_⟩
     have hS := Lib.hid (show (fun w' : World => w'.cell? ⟨g, 10, none⟩ = some (.slice (some ad) F.sets.length m) ∧ w'.cell? (ad.add (j * 2)) = some (.int .u16 sv.f0) ∧ w'.cell? ⟨(ad.add (j * 2)).block, (ad.add (j * 2)).off + 1, none⟩ = some (.int .u32 sv.f1)) _ from ⟨pw_cell_below h_ hHeld.1, pw_cell_below h_ hHeld.2.1, pw_cell_below h_ hHeld.2.2⟩)
     replace H := H.below h_
     clear h_
     refine ⟨_, rfl, ?_⟩
     refine hK.out _ _ hS.out (fun hHeld => ?_)
     clear hK K
     refine norm_ (a' := ?_) ?_ ?_
     rotate_left
     ·show Act.put _ (some 29) _ = _
      simp only [Act.put, putA, putB, putC]
      rfl
     clear hS
     refine pure_ (i := 9) (N := some 30) (v := ?_) (a' := ?_) #[true, true, true, true, true, true, true, true, true, true, true, true, true, true, true, true, true, false, false, false] rfl rfl (by kernel_rfl) (fun _ _ _ h => h) (Or.inl ⟨by rfl, ?_⟩) ?_ ?_
     rotate_left
     ·intro w'
      go_simp
      with_reducible rfl
     rotate_left
     ·simp only [Act.put, putA, putB, putC]
      rfl
     refine one_ (i := 17) (N := some 38) #[true, true, true, true, true, true, true, true, true, true, true, true, true, true, true, true, true, true, false, false] rfl rfl (by kernel_rfl) (by decide) (fun K hK => ?_)
     refine goes_ Tryd.func30 (by kernel_rfl) rfl #[.int .u64 sv.f1, .int .i64 4] (by rfl) rfl rfl (by (try simp only [List.map_toArray, List.map_cons, List.map_nil]); first | done | rfl) ?_
     refine (N1.out _).mono ?_
     rintro e w9 ⟨rfl, h_⟩
     have hS := Lib.hid (show (fun w' : World => w'.cell? ⟨g, 10, none⟩ = some (.slice (some ad) F.sets.length m) ∧ w'.cell? (ad.add (j * 2)) = some (.int .u16 sv.f0) ∧ w'.cell? ⟨(ad.add (j * 2)).block, (ad.add (j * 2)).off + 1, none⟩ = some (.int .u32 sv.f1)) _ from ⟨pw_cell_below h_ hHeld.1, pw_cell_below h_ hHeld.2.1, pw_cell_below h_ hHeld.2.2⟩)
     replace H := H.below h_
     clear h_
     refine ⟨_, rfl, ?_⟩
     refine hK.out _ _ hS.out (fun hHeld => ?_)
     clear hK K
     refine norm_ (a' := ?_) ?_ ?_
     rotate_left
     ·show Act.put _ (some 38) _ = _
      simp only [Act.put, putA, putB, putC]
      rfl
     clear hS
     refine pure_ (i := 18) (N := some 39) (v := ?_) (a' := ?_) #[true, true, true, true, true, true, true, true, true, true, true, true, true, true, true, true, true, true, true, false] rfl rfl (by kernel_rfl) (fun _ _ _ h => h) (Or.inl ⟨by rfl, ?_⟩) ?_ ?_
     rotate_left
     ·intro w'
      go_simp
      with_reducible rfl
     rotate_left
     ·simp only [Act.put, putA, putB, putC]
      rfl
     refine pure_ (i := 19) (N := some 3) (v := ?_) (a' := ?_) #[true, true, true, true, true, true, true, true, true, true, true, true, true, true, true, true, true, true, true, true] rfl rfl (by kernel_rfl) (fun _ _ _ h => h) (Or.inl ⟨by rfl, ?_⟩) ?_ ?_
     rotate_left
     ·intro w'
      go_simp
      with_reducible rfl
     rotate_left
     ·simp only [Act.put, putA, putB, putC]
      rfl
     refine done_ (by kernel_rfl) ?_
     go_wp2_with fail
     go_roundg k
     case measure => omega
     case rel => exact ⟨j + 1, by first | rfl | (simp; done), by have := HT.out.2.2; omega, by rw [HT.out.1, rsetL, ← strs_append, ← strs_append, ByteArray.append_assoc], H⟩
  have b4 : (F.ty == 4) = false := by rw [beq_eq_false_iff_ne]; exact t4
  by_cases t5 : F.ty = 5
  ·have b_ : (F.ty == 5) = true := by rw [beq_iff_eq]; exact t5
   have E := Lib.hid (show rmidL F = beL F.oth 4 by unfold rmidL; rw [if_neg t3]; rw [if_neg t4]; rw [if_pos t5])
   clear t3 t4 t5
   go_wp2_with (first
    | (refine loadf_h H rfl rfl rfl (by repeat (first | exact List.Mem.head _ | apply List.Mem.tail)) rfl (by kernel_rfl) ?_)
    | (go_at_call 30; refine (NO.out _).mono ?_; rintro e_ w_ ⟨rfl, h_⟩; replace H := H.below h_; clear h_))
   go_meet
   exact ⟨by rw [E.out], H⟩
  have b5 : (F.ty == 5) = false := by rw [beq_eq_false_iff_ne]; exact t5
  by_cases t7 : F.ty = 7
  ·have b_ : (F.ty == 7) = true := by rw [beq_iff_eq]; exact t7
   have E := Lib.hid (show rmidL F = beL F.oth 4 ++ beL F.code 4 by unfold rmidL; rw [if_neg t3]; rw [if_neg t4]; rw [if_neg t5]; rw [if_pos t7])
   clear t3 t4 t5 t7
   go_wp2_with (first
    | (refine loadf_h H rfl rfl rfl (by repeat (first | exact List.Mem.head _ | apply List.Mem.tail)) rfl (by kernel_rfl) ?_))
   replace H := H.below (below_drew (Below.refl _ _))
   refine start_ (n := 10) (S := fun w' => w'.cell? ⟨g, 6, none⟩ = some (.int .u32 F.oth) ∧ w'.cell? ⟨g, 5, none⟩ = some (.int .u32 F.code)) (ds := []) #[false, false, false, false, false, false, false, false, false, false] (by kernel_rfl) rfl rfl ⟨((H.cell (by repeat (first | exact List.Mem.head _ | apply List.Mem.tail)) 6).trans rfl), ((H.cell (by repeat (first | exact List.Mem.head _ | apply List.Mem.tail)) 5).trans rfl)⟩ (fun hHeld => ?_)
   generalize World.drew _ = wy at H hHeld ⊢
   refine pure_ (i := 0) (N := some 49) (v := ?_) (a' := ?_) #[true, false, false, false, false, false, false, false, false, false] rfl rfl (by kernel_rfl) (fun _ _ _ h => h) (Or.inl ⟨by rfl, ?_⟩) ?_ ?_
   rotate_left
   ·intro w'
    go_simp
    with_reducible rfl
   rotate_left
   ·simp only [Act.put, putA, putB, putC]
    rfl
   refine take_ (i := 1) (N := some 50) (v := ?_) (a' := ?_) #[true, true, false, false, false, false, false, false, false, false] rfl rfl (by kernel_rfl) (fun _ _ _ h => h) (Or.inl ⟨by rfl, ?_⟩) hHeld ?_ ?_
   rotate_left
   ·rintro w' ⟨s0, s1⟩
    go_simp
    with_reducible rfl
   rotate_left
   ·simp only [Act.put, putA, putB, putC]
    rfl
   refine pure_ (i := 2) (N := some 51) (v := ?_) (a' := ?_) #[true, true, true, false, false, false, false, false, false, false] rfl rfl (by kernel_rfl) (fun _ _ _ h => h) (Or.inl ⟨by rfl, ?_⟩) ?_ ?_
   rotate_left
   ·intro w'
    go_simp
    with_reducible rfl
   rotate_left
   ·simp only [Act.put, putA, putB, putC]
    rfl
   refine pure_ (i := 4) (N := some 53) (v := ?_) (a' := ?_) #[true, true, true, false, true, false, false, false, false, false] rfl rfl (by kernel_rfl) (fun _ _ _ h => h) (Or.inl ⟨by rfl, ?_⟩) ?_ ?_
   rotate_left
   ·intro w'
    go_simp
    with_reducible rfl
   rotate_left
   ·simp only [Act.put, putA, putB, putC]
    rfl
   refine take_ (i := 5) (N := some 54) (v := ?_) (a' := ?_) #[true, true, true, false, true, true, false, false, false, false] rfl rfl (by kernel_rfl) (fun _ _ _ h => h) (Or.inl ⟨by rfl, ?_⟩) hHeld ?_ ?_
   rotate_left
   ·rintro w' ⟨s0, s1⟩
    go_simp
    with_reducible rfl
   rotate_left
   ·simp only [Act.put, putA, putB, putC]
    rfl
   refine pure_ (i := 6) (N := some 55) (v := ?_) (a' := ?_) #[true, true, true, false, true, true, true, false, false, false] rfl rfl (by kernel_rfl) (fun _ _ _ h => h) (Or.inl ⟨by rfl, ?_⟩) ?_ ?_
   rotate_left
   ·intro w'
    go_simp
    with_reducible rfl
   rotate_left
   ·simp only [Act.put, putA, putB, putC]
    rfl
   refine one_ (i := 3) (N := some 52) #[true, true, true, true, true, true, true, false, false, false] rfl rfl (by kernel_rfl) (by decide) (fun K hK => ?_)
   refine goes_ Tryd.func30 (by kernel_rfl) rfl #[.int .u64 F.oth, .int .i64 4] (by rfl) rfl rfl (by (try simp only [List.map_toArray, List.map_cons, List.map_nil]); first | done | rfl) ?_
   refine (NO.out _).mono ?_
   rintro e w9 ⟨rfl, h_⟩
   have hS := Lib.hid (show (fun w' : World => w'.cell? ⟨g, 6, none⟩ = some (.int .u32 F.oth) ∧ w'.cell? ⟨g, 5, none⟩ = some (.int .u32 F.code)) _ from ⟨pw_cell_below h_ hHeld.1, pw_cell_below h_ hHeld.2⟩)
   replace H := H.below h_
   clear h_
   refine ⟨_, rfl, ?_⟩
   refine hK.out _ _ hS.out (fun hHeld => ?_)
   clear hK K
   refine norm_ (a' := ?_) ?_ ?_
   rotate_left
   ·show Act.put _ (some 52) _ = _
    simp only [Act.put, putA, putB, putC]
    rfl
   clear hS
   refine one_ (i := 7) (N := some 56) #[true, true, true, true, true, true, true, true, false, false] rfl rfl (by kernel_rfl) (by decide) (fun K hK => ?_)
   refine goes_ Tryd.func30 (by kernel_rfl) rfl #[.int .u64 F.code, .int .i64 4] (by rfl) rfl rfl (by (try simp only [List.map_toArray, List.map_cons, List.map_nil]); first | done | rfl) ?_
   refine (NC.out _).mono ?_
   rintro e w9 ⟨rfl, h_⟩
   have hS := Lib.hid (show (fun w' : World => w'.cell? ⟨g, 6, none⟩ = some (.int .u32 F.oth) ∧ w'.cell? ⟨g, 5, none⟩ = some (.int .u32 F.code)) _ from ⟨pw_cell_below h_ hHeld.1, pw_cell_below h_ hHeld.2⟩)
   replace H := H.below h_
   clear h_
   refine ⟨_, rfl, ?_⟩
   refine hK.out _ _ hS.out (fun hHeld => ?_)
   clear hK K
   refine norm_ (a' := ?_) ?_ ?_
   rotate_left
   ·show Act.put _ (some 56) _ = _
    simp only [Act.put, putA, putB, putC]
    rfl
   clear hS
   refine pure_ (i := 8) (N := some 57) (v := ?_) (a' := ?_) #[true, true, true, true, true, true, true, true, true, false] rfl rfl (by kernel_rfl) (fun _ _ _ h => h) (Or.inl ⟨by rfl, ?_⟩) ?_ ?_
   rotate_left
   ·intro w'
    go_simp
    with_reducible rfl
   rotate_left
   ·simp only [Act.put, putA, putB, putC]
    rfl
   refine pure_ (i := 9) (N := some 3) (v := ?_) (a' := ?_) #[true, true, true, true, true, true, true, true, true, true] rfl rfl (by kernel_rfl) (fun _ _ _ h => h) (Or.inl ⟨by rfl, ?_⟩) ?_ ?_
   rotate_left
   ·intro w'
    go_simp
    with_reducible rfl
   rotate_left
   ·simp only [Act.put, putA, putB, putC]
    rfl
   refine done_ (by kernel_rfl) ?_
   go_wp2_with fail
   go_meet
   exact ⟨by rw [E.out, strs_append], H⟩
  have b7 : (F.ty == 7) = false := by rw [beq_eq_false_iff_ne]; exact t7
  by_cases t8 : F.ty = 8
  ·have b_ : (F.ty == 8) = true := by rw [beq_iff_eq]; exact t8
   have E := Lib.hid (show rmidL F = beL F.win 4 by unfold rmidL; rw [if_neg t3]; rw [if_neg t4]; rw [if_neg t5]; rw [if_neg t7]; rw [if_pos t8])
   clear t3 t4 t5 t7 t8
   go_wp2_with (first
    | (refine loadf_h H rfl rfl rfl (by repeat (first | exact List.Mem.head _ | apply List.Mem.tail)) rfl (by kernel_rfl) ?_)
    | (go_at_call 30; refine (NW.out _).mono ?_; rintro e_ w_ ⟨rfl, h_⟩; replace H := H.below h_; clear h_))
   go_meet
   exact ⟨by rw [E.out], H⟩
  have b8 : (F.ty == 8) = false := by rw [beq_eq_false_iff_ne]; exact t8
  have E := Lib.hid (show rmidL F = [] by unfold rmidL; rw [if_neg t3, if_neg t4, if_neg t5, if_neg t7, if_neg t8])
  clear t3 t4 t5 t7 t8
  go_wp2_with (first
   | (refine loadf_h H rfl rfl rfl (by repeat (first | exact List.Mem.head _ | apply List.Mem.tail)) rfl (by kernel_rfl) ?_))
  go_meet
  exact ⟨by rw [E.out]; rfl, H⟩
 case rest =>
  obtain ⟨rfl, H⟩ := hcut
  cases hl : leansB F.ty F.fl
  ·have HL := Lib.hid hl
   have HE := Lib.hid (show rheadL F = rmidL F by unfold rheadL; rw [hl]; rfl)
   have hz1 : (rmidL F).length ≤ 60000 := by exact rmid_len F HZ.out.2.2.2
   have hz2 := HZ.out.2.2.1
   have cc := eq_false (Nat.not_lt.2 (fits_cat (a := rmidL F) (b := F.data) (by omega)))
   have HZ1 := Lib.hid hz1
   clear hl hz1 hz2
   go_upto_region 19 with (first
    | (refine load_h H rfl rfl rfl (by repeat (first | exact List.Mem.head _ | apply List.Mem.tail)) (by kernel_rfl) (by kernel_rfl) ?_)
    | (go_at_call 51; refine (rleans_calls _ F _ _ HK.out.fl0 HK.out.fl1).mono ?_; rintro e_ w_ ⟨rfl, h_⟩; rw [HL.out]; replace H := H.below h_; clear h_))
   have cv := string_of_reads (c := c) Tryd.underlying35 Tryd.underlying5 Tryd.underlying9 (H.reads0 (Kd_reads HA.out.1))
   go_upto_region 20 with (first | (refine loadf_h H rfl rfl rfl (by repeat (first | exact List.Mem.head _ | apply List.Mem.tail)) rfl (by kernel_rfl) ?_))
   clear cv
   by_cases hp : 0 ≤ F.pad
   ·have bp : decide (0 ≤ F.pad) = true := decide_eq_true hp
    obtain ⟨m1, hm1⟩ := Int.eq_ofNat_of_zero_le hp
    have hp1 := HZ.out.2.1
    have hm2 : m1 ≤ 255 := by omega
    have zd := HZ.out.2.2.1
    have zh := HZ1.out
    have c1 := eq_false (Nat.not_lt.2 (show (strOfNums [(m1 : Int) % 256]).size + ((strOfNums (rmidL F)).size + (strOfNums F.data).size) ≤ 9223372036854775807 from (by rw [str_size, str_size, str_size]; simp only [List.length_cons, List.length_nil]; omega)))
    have c2 := eq_false (Nat.not_lt.2 (show (strOfNums [(m1 : Int) % 256]).size + ((strOfNums (rmidL F)).size + (strOfNums F.data).size) + (strOfNums (List.replicate m1 0)).size ≤ 9223372036854775807 from (by rw [str_size, str_size, str_size, str_size, List.length_replicate]; simp only [List.length_cons, List.length_nil]; omega)))
    have EP := Lib.hid (show rpayL F = [(m1 : Int) % 256] ++ (rheadL F ++ F.data) ++ List.replicate m1 0 by unfold rpayL; rw [if_pos hp, hm1]; rfl)
    clear hp1 zd zh
    go_upto_region 21 with (first | (refine loadf_h H rfl rfl rfl (by repeat (first | exact List.Mem.head _ | apply List.Mem.tail)) rfl (by kernel_rfl) ?_))
    replace H := H.below (below_drew (Below.refl _ _))
    refine start_ (n := 13) (S := fun w' => w'.cell? ⟨g, 4, none⟩ = some (.int .i64 (m1 : Int))) (ds := []) #[false, false, false, false, false, false, false, false, false, false, false, false, false] (by kernel_rfl) rfl rfl ((H.cell (by repeat (first | exact List.Mem.head _ | apply List.Mem.tail)) 4).trans (show _ = some (Value.int .i64 (m1 : Int)) from by rw [← hm1]; rfl)) (fun hHeld => ?_)
    generalize World.drew _ = wy at H hHeld ⊢
    refine pure_ (i := 0) (N := some 76) (v := ?_) (a' := ?_) #[true, false, false, false, false, false, false, false, false, false, false, false, false] rfl rfl (by kernel_rfl) (fun _ _ _ h => h) (Or.inl ⟨by rfl, ?_⟩) ?_ ?_
    rotate_left
    ·intro w'
     go_simp
     with_reducible rfl
    rotate_left
    ·simp only [Act.put, putA, putB, putC]
     rfl
    refine take_ (i := 1) (N := some 77) (v := ?_) (a' := ?_) #[true, true, false, false, false, false, false, false, false, false, false, false, false] rfl rfl (by kernel_rfl) (fun _ _ _ h => h) (Or.inl ⟨by rfl, ?_⟩) hHeld ?_ ?_
    rotate_left
    ·intro w' s0
     go_simp
     with_reducible rfl
    rotate_left
    ·simp only [Act.put, putA, putB, putC]
     rfl
    refine pure_ (i := 2) (N := some 78) (v := ?_) (a' := ?_) #[true, true, true, false, false, false, false, false, false, false, false, false, false] rfl rfl (by kernel_rfl) (fun _ _ _ h => h) (Or.inl ⟨by rfl, ?_⟩) ?_ ?_
    rotate_left
    ·intro w'
     go_simp
     with_reducible rfl
    rotate_left
    ·simp only [Act.put, putA, putB, putC]
     rfl
    refine pure_ (i := 5) (N := some 81) (v := ?_) (a' := ?_) #[true, true, true, false, false, true, false, false, false, false, false, false, false] rfl rfl (by kernel_rfl) (fun _ _ _ h => h) (Or.inl ⟨by rfl, ?_⟩) ?_ ?_
    rotate_left
    ·intro w'
     go_simp
     with_reducible rfl
    rotate_left
    ·simp only [Act.put, putA, putB, putC]
     rfl
    refine pure_ (i := 7) (N := some 83) (v := ?_) (a' := ?_) #[true, true, true, false, false, true, false, true, false, false, false, false, false] rfl rfl (by kernel_rfl) (fun _ _ _ h => h) (Or.inl ⟨by rfl, ?_⟩) ?_ ?_
    rotate_left
    ·intro w'
     go_simp
     with_reducible rfl
    rotate_left
    ·simp only [Act.put, putA, putB, putC]
     rfl
    refine take_ (i := 8) (N := some 84) (v := ?_) (a' := ?_) #[true, true, true, false, false, true, false, true, true, false, false, false, false] rfl rfl (by kernel_rfl) (fun _ _ _ h => h) (Or.inl ⟨by rfl, ?_⟩) hHeld ?_ ?_
    rotate_left
    ·intro w' s0
     go_simp
     with_reducible rfl
    rotate_left
    ·simp only [Act.put, putA, putB, putC]
     rfl
    refine two_ (i := 3) (j := 9) (Ni := some 79) (Nj := some 85) #[true, true, true, true, false, true, false, true, true, false, false, false, false] #[true, true, true, false, false, true, false, true, true, true, false, false, false] rfl rfl rfl rfl (by kernel_rfl) (by decide) (by decide) (fun K hK => ?_) (fun K hK => ?_)
    ·refine lit_o H (by rfl) (e := 5) (k := .u8) [(m1 : Int) % 256] (by first | (go_simp; done) | (go_simp; rfl)) (Nat.le_of_ble_eq_true rfl) ?_
     clear H
     intro g_ w_ H h_
     have hS := Lib.hid (show (fun w' : World => w'.cell? ⟨g, 4, none⟩ = some (.int .i64 (m1 : Int))) _ from (pw_cell_below h_ hHeld))
     clear h_
     refine hK.out _ _ hS.out (fun hHeld => ?_)
     clear hK K
     clear hS
     refine norm_ (a' := ?_) ?_ ?_
     rotate_left
     ·show Act.put _ (some 79) _ = _
      simp only [Act.put, putA, putB, putC]
      rfl
     refine two_ (i := 4) (j := 9) (Ni := some 80) (Nj := some 85) #[true, true, true, true, true, true, false, true, true, false, false, false, false] #[true, true, true, true, false, true, false, true, true, true, false, false, false] rfl rfl rfl rfl (by kernel_rfl) (by decide) (by decide) (fun K hK => ?_) (fun K hK => ?_)
     ·refine conv_o H (by rfl) rfl rfl (by repeat (first | exact List.Mem.head _ | apply List.Mem.tail)) Tryd.underlying35 Tryd.underlying5 Tryd.underlying9 ?_
      refine hK.out _ _ hHeld (fun hHeld => ?_)
      clear hK K
      refine norm_ (a' := ?_) ?_ ?_
      rotate_left
      ·show Act.put _ (some 80) _ = _
       simp only [Act.put, putA, putB, putC]
       rfl
      refine pure_ (i := 6) (N := some 82) (v := ?_) (a' := ?_) #[true, true, true, true, true, true, true, true, true, false, false, false, false] rfl rfl (by kernel_rfl) (fun _ _ _ h => h) (Or.inl ⟨by rfl, ?_⟩) ?_ ?_
      rotate_left
      ·intro w'
       go_simp
       with_reducible rfl
      rotate_left
      ·simp only [Act.put, putA, putB, putC]
       rfl
      refine one_ (i := 9) (N := some 85) #[true, true, true, true, true, true, true, true, true, true, false, false, false] rfl rfl (by kernel_rfl) (by decide) (fun K hK => ?_)
      refine makeb_o H (by rfl) rfl m1 rfl rfl Tryd.underlying35 Tryd.infoB8 (by have := HZ.out; omega) ?_
      clear H
      intro g_ w_ H h_
      have hS := Lib.hid (show (fun w' : World => w'.cell? ⟨g, 4, none⟩ = some (.int .i64 (m1 : Int))) _ from (pw_cell_below h_ hHeld))
      clear h_
      refine hK.out _ _ hS.out (fun hHeld => ?_)
      clear hK K
      clear hS
      refine norm_ (a' := ?_) ?_ ?_
      rotate_left
      ·show Act.put _ (some 85) _ = _
       simp only [Act.put, putA, putB, putC]
       rfl
      refine one_ (i := 10) (N := some 86) #[true, true, true, true, true, true, true, true, true, true, true, false, false] rfl rfl (by kernel_rfl) (by decide) (fun K hK => ?_)
      refine conv_o H (by rfl) rfl rfl (by repeat (first | exact List.Mem.head _ | apply List.Mem.tail)) Tryd.underlying35 Tryd.underlying5 Tryd.underlying9 ?_
      refine hK.out _ _ hHeld (fun hHeld => ?_)
      clear hK K
      refine norm_ (a' := ?_) ?_ ?_
      rotate_left
      ·show Act.put _ (some 86) _ = _
       simp only [Act.put, putA, putB, putC]
       rfl
      refine pure_ (i := 11) (N := some 87) (v := ?_) (a' := ?_) #[true, true, true, true, true, true, true, true, true, true, true, true, false] rfl rfl (by kernel_rfl) (fun _ _ _ h => h) (Or.inl ⟨by rfl, ?_⟩) ?_ ?_
      rotate_left
      ·intro w'
       go_simp
       with_reducible rfl
      rotate_left
      ·simp only [Act.put, putA, putB, putC]
       rfl
      refine pure_ (i := 12) (N := some 3) (v := ?_) (a' := ?_) #[true, true, true, true, true, true, true, true, true, true, true, true, true] rfl rfl (by kernel_rfl) (fun _ _ _ h => h) (Or.inl ⟨by rfl, ?_⟩) ?_ ?_
      rotate_left
      ·intro w'
       go_simp
       with_reducible rfl
      rotate_left
      ·simp only [Act.put, putA, putB, putC]
       rfl
      refine done_ (by kernel_rfl) ?_
      go_wp2_with fail
      exact HP.out _ _ ⟨by rw [EP.out, ← strs_append, ← strs_append, ← strs_append, HE.out]; rfl, H.all⟩
     ·refine makeb_o H (by rfl) rfl m1 rfl rfl Tryd.underlying35 Tryd.infoB8 (by have := HZ.out; omega) ?_
      clear H
      intro g_ w_ H h_
      have hS := Lib.hid (show (fun w' : World => w'.cell? ⟨g, 4, none⟩ = some (.int .i64 (m1 : Int))) _ from (pw_cell_below h_ hHeld))
      clear h_
      refine hK.out _ _ hS.out (fun hHeld => ?_)
      clear hK K
      clear hS
      refine norm_ (a' := ?_) ?_ ?_
      rotate_left
      ·show Act.put _ (some 85) _ = _
       simp only [Act.put, putA, putB, putC]
       rfl
      refine two_ (i := 4) (j := 10) (Ni := some 80) (Nj := some 86) #[true, true, true, true, true, true, false, true, true, true, false, false, false] #[true, true, true, true, false, true, false, true, true, true, true, false, false] rfl rfl rfl rfl (by kernel_rfl) (by decide) (by decide) (fun K hK => ?_) (fun K hK => ?_)
      ·refine conv_o H (by rfl) rfl rfl (by repeat (first | exact List.Mem.head _ | apply List.Mem.tail)) Tryd.underlying35 Tryd.underlying5 Tryd.underlying9 ?_
       refine hK.out _ _ hHeld (fun hHeld => ?_)
       clear hK K
       refine norm_ (a' := ?_) ?_ ?_
       rotate_left
       ·show Act.put _ (some 80) _ = _
        simp only [Act.put, putA, putB, putC]
        rfl
       refine pure_ (i := 6) (N := some 82) (v := ?_) (a' := ?_) #[true, true, true, true, true, true, true, true, true, true, false, false, false] rfl rfl (by kernel_rfl) (fun _ _ _ h => h) (Or.inl ⟨by rfl, ?_⟩) ?_ ?_
       rotate_left
       ·intro w'
        go_simp
        with_reducible rfl
       rotate_left
       ·simp only [Act.put, putA, putB, putC]
        rfl
       refine one_ (i := 10) (N := some 86) #[true, true, true, true, true, true, true, true, true, true, true, false, false] rfl rfl (by kernel_rfl) (by decide) (fun K hK => ?_)
       refine conv_o H (by rfl) rfl rfl (by repeat (first | exact List.Mem.head _ | apply List.Mem.tail)) Tryd.underlying35 Tryd.underlying5 Tryd.underlying9 ?_
       refine hK.out _ _ hHeld (fun hHeld => ?_)
       clear hK K
       refine norm_ (a' := ?_) ?_ ?_
       rotate_left
       ·show Act.put _ (some 86) _ = _
        simp only [Act.put, putA, putB, putC]
        rfl
       refine pure_ (i := 11) (N := some 87) (v := ?_) (a' := ?_) #[true, true, true, true, true, true, true, true, true, true, true, true, false] rfl rfl (by kernel_rfl) (fun _ _ _ h => h) (Or.inl ⟨by rfl, ?_⟩) ?_ ?_
       rotate_left
       ·intro w'
        go_simp
        with_reducible rfl
       rotate_left
       ·simp only [Act.put, putA, putB, putC]
        rfl
       refine pure_ (i := 12) (N := some 3) (v := ?_) (a' := ?_) #[true, true, true, true, true, true, true, true, true, true, true, true, true] rfl rfl (by kernel_rfl) (fun _ _ _ h => h) (Or.inl ⟨by rfl, ?_⟩) ?_ ?_
       rotate_left
       ·intro w'
        go_simp
        with_reducible rfl
       rotate_left
       ·simp only [Act.put, putA, putB, putC]
        rfl
       refine done_ (by kernel_rfl) ?_
       go_wp2_with fail
       exact HP.out _ _ ⟨by rw [EP.out, ← strs_append, ← strs_append, ← strs_append, HE.out]; rfl, H.all⟩
      ·refine conv_o H (by rfl) rfl rfl (by repeat (first | exact List.Mem.head _ | apply List.Mem.tail)) Tryd.underlying35 Tryd.underlying5 Tryd.underlying9 ?_
       refine hK.out _ _ hHeld (fun hHeld => ?_)
       clear hK K
       refine norm_ (a' := ?_) ?_ ?_
       rotate_left
       ·show Act.put _ (some 86) _ = _
        simp only [Act.put, putA, putB, putC]
        rfl
       refine one_ (i := 4) (N := some 80) #[true, true, true, true, true, true, false, true, true, true, true, false, false] rfl rfl (by kernel_rfl) (by decide) (fun K hK => ?_)
       refine conv_o H (by rfl) rfl rfl (by repeat (first | exact List.Mem.head _ | apply List.Mem.tail)) Tryd.underlying35 Tryd.underlying5 Tryd.underlying9 ?_
       refine hK.out _ _ hHeld (fun hHeld => ?_)
       clear hK K
       refine norm_ (a' := ?_) ?_ ?_
       rotate_left
       ·show Act.put _ (some 80) _ = _
        simp only [Act.put, putA, putB, putC]
        rfl
       refine pure_ (i := 6) (N := some 82) (v := ?_) (a' := ?_) #[true, true, true, true, true, true, true, true, true, true, true, false, false] rfl rfl (by kernel_rfl) (fun _ _ _ h => h) (Or.inl ⟨by rfl, ?_⟩) ?_ ?_
       rotate_left
       ·intro w'
        go_simp
        with_reducible rfl
       rotate_left
       ·simp only [Act.put, putA, putB, putC]
        rfl
       refine pure_ (i := 11) (N := some 87) (v := ?_) (a' := ?_) #[true, true, true, true, true, true, true, true, true, true, true, true, false] rfl rfl (by kernel_rfl) (fun _ _ _ h => h) (Or.inl ⟨by rfl, ?_⟩) ?_ ?_
       rotate_left
       ·intro w'
        go_simp
        with_reducible rfl
       rotate_left
       ·simp only [Act.put, putA, putB, putC]
        rfl
       refine pure_ (i := 12) (N := some 3) (v := ?_) (a' := ?_) #[true, true, true, true, true, true, true, true, true, true, true, true, true] rfl rfl (by kernel_rfl) (fun _ _ _ h => h) (Or.inl ⟨by rfl, ?_⟩) ?_ ?_
       rotate_left
       ·intro w'
        go_simp
        with_reducible rfl
       rotate_left
       ·simp only [Act.put, putA, putB, putC]
        rfl
       refine done_ (by kernel_rfl) ?_
       go_wp2_with fail
       exact HP.out _ _ ⟨by rw [EP.out, ← strs_append, ← strs_append, ← strs_append, HE.out]; rfl, H.all⟩
    ·refine makeb_o H (by rfl) rfl m1 rfl rfl Tryd.underlying35 Tryd.infoB8 (by have := HZ.out; omega) ?_
     clear H
     intro g_ w_ H h_
     have hS := Lib.hid (show (fun w' : World => w'.cell? ⟨g, 4, none⟩ = some (.int .i64 (m1 : Int))) _ from (pw_cell_below h_ hHeld))
     clear h_
     refine hK.out _ _ hS.out (fun hHeld => ?_)
     clear hK K
     clear hS
     refine norm_ (a' := ?_) ?_ ?_
     rotate_left
     ·show Act.put _ (some 85) _ = _
      simp only [Act.put, putA, putB, putC]
      rfl
     refine two_ (i := 3) (j := 10) (Ni := some 79) (Nj := some 86) #[true, true, true, true, false, true, false, true, true, true, false, false, false] #[true, true, true, false, false, true, false, true, true, true, true, false, false] rfl rfl rfl rfl (by kernel_rfl) (by decide) (by decide) (fun K hK => ?_) (fun K hK => ?_)
     ·refine lit_o H (by rfl) (e := 5) (k := .u8) [(m1 : Int) % 256] (by first | (go_simp; done) | (go_simp; rfl)) (Nat.le_of_ble_eq_true rfl) ?_
      clear H
      intro g_ w_ H h_
      have hS := Lib.hid (show (fun w' : World => w'.cell? ⟨g, 4, none⟩ = some (.int .i64 (m1 : Int))) _ from (pw_cell_below h_ hHeld))
      clear h_
      refine hK.out _ _ hS.out (fun hHeld => ?_)
      clear hK K
      clear hS
      refine norm_ (a' := ?_) ?_ ?_
      rotate_left
      ·show Act.put _ (some 79) _ = _
       simp only [Act.put, putA, putB, putC]
       rfl
      refine two_ (i := 4) (j := 10) (Ni := some 80) (Nj := some 86) #[true, true, true, true, true, true, false, true, true, true, false, false, false] #[true, true, true, true, false, true, false, true, true, true, true, false, false] rfl rfl rfl rfl (by kernel_rfl) (by decide) (by decide) (fun K hK => ?_) (fun K hK => ?_)
      ·refine conv_o H (by rfl) rfl rfl (by repeat (first | exact List.Mem.head _ | apply List.Mem.tail)) Tryd.underlying35 Tryd.underlying5 Tryd.underlying9 ?_
       refine hK.out _ _ hHeld (fun hHeld => ?_)
       clear hK K
       refine norm_ (a' := ?_) ?_ ?_
       rotate_left
       ·show Act.put _ (some 80) _ = _
        simp only [Act.put, putA, putB, putC]
        rfl
       refine pure_ (i := 6) (N := some 82) (v := ?_) (a' := ?_) #[true, true, true, true, true, true, true, true, true, true, false, false, false] rfl rfl (by kernel_rfl) (fun _ _ _ h => h) (Or.inl ⟨by rfl, ?_⟩) ?_ ?_
       rotate_left
       ·intro w'
        go_simp
        with_reducible rfl
       rotate_left
       ·simp only [Act.put, putA, putB, putC]
        rfl
       refine one_ (i := 10) (N := some 86) #[true, true, true, true, true, true, true, true, true, true, true, false, false] rfl rfl (by kernel_rfl) (by decide) (fun K hK => ?_)
       refine conv_o H (by rfl) rfl rfl (by repeat (first | exact List.Mem.head _ | apply List.Mem.tail)) Tryd.underlying35 Tryd.underlying5 Tryd.underlying9 ?_
       refine hK.out _ _ hHeld (fun hHeld => ?_)
       clear hK K
       refine norm_ (a' := ?_) ?_ ?_
       rotate_left
       ·show Act.put _ (some 86) _ = _
        simp only [Act.put, putA, putB, putC]
        rfl
       refine pure_ (i := 11) (N := some 87) (v := ?_) (a' := ?_) #[true, true, true, true, true, true, true, true, true, true, true, true, false] rfl rfl (by kernel_rfl) (fun _ _ _ h => h) (Or.inl ⟨by rfl, ?_⟩) ?_ ?_
       rotate_left
       ·intro w'
        go_simp
        with_reducible rfl
       rotate_left
       ·simp only [Act.put, putA, putB, putC]
        rfl
       refine pure_ (i := 12) (N := some 3) (v := ?_) (a' := ?_) #[true, true, true, true, true, true, true, true, true, true, true, true, true] rfl rfl (by kernel_rfl) (fun _ _ _ h => h) (Or.inl ⟨by rfl, ?_⟩) ?_ ?_
       rotate_left
       ·intro w'
        go_simp
        with_reducible rfl
       rotate_left
       ·simp only [Act.put, putA, putB, putC]
        rfl
       refine done_ (by kernel_rfl) ?_
       go_wp2_with fail
       exact HP.out _ _ ⟨by rw [EP.out, ← strs_append, ← strs_append, ← strs_append, HE.out]; rfl, H.all⟩
      ·refine conv_o H (by rfl) rfl rfl (by repeat (first | exact List.Mem.head _ | apply List.Mem.tail)) Tryd.underlying35 Tryd.underlying5 Tryd.underlying9 ?_
       refine hK.out _ _ hHeld (fun hHeld => ?_)
       clear hK K
       refine norm_ (a' := ?_) ?_ ?_
       rotate_left
       ·show Act.put _ (some 86) _ = _
        simp only [Act.put, putA, putB, putC]
        rfl
       refine one_ (i := 4) (N := some 80) #[true, true, true, true, true, true, false, true, true, true, true, false, false] rfl rfl (by kernel_rfl) (by decide) (fun K hK => ?_)
       refine conv_o H (by rfl) rfl rfl (by repeat (first | exact List.Mem.head _ | apply List.Mem.tail)) Tryd.underlying35 Tryd.underlying5 Tryd.underlying9 ?_
       refine hK.out _ _ hHeld (fun hHeld => ?_)
       clear hK K
       refine norm_ (a' := ?_) ?_ ?_
       rotate_left
       ·show Act.put _ (some 80) _ = _
        simp only [Act.put, putA, putB, putC]
        rfl
       refine pure_ (i := 6) (N := some 82) (v := ?_) (a' := ?_) #[true, true, true, true, true, true, true, true, true, true, true, false, false] rfl rfl (by kernel_rfl) (fun _ _ _ h => h) (Or.inl ⟨by rfl, ?_⟩) ?_ ?_
       rotate_left
       ·intro w'
        go_simp
        with_reducible rfl
       rotate_left
       ·simp only [Act.put, putA, putB, putC]
        rfl
       refine pure_ (i := 11) (N := some 87) (v := ?_) (a' := ?_) #[true, true, true, true, true, true, true, true, true, true, true, true, false] rfl rfl (by kernel_rfl) (fun _ _ _ h => h) (Or.inl ⟨by rfl, ?_⟩) ?_ ?_
       rotate_left
       ·intro w'
        go_simp
        with_reducible rfl
       rotate_left
       ·simp only [Act.put, putA, putB, putC]
        rfl
       refine pure_ (i := 12) (N := some 3) (v := ?_) (a' := ?_) #[true, true, true, true, true, true, true, true, true, true, true, true, true] rfl rfl (by kernel_rfl) (fun _ _ _ h => h) (Or.inl ⟨by rfl, ?_⟩) ?_ ?_
       rotate_left
       ·intro w'
        go_simp
        with_reducible rfl
       rotate_left
       ·simp only [Act.put, putA, putB, putC]
        rfl
       refine done_ (by kernel_rfl) ?_
       go_wp2_with fail
       exact HP.out _ _ ⟨by rw [EP.out, ← strs_append, ← strs_append, ← strs_append, HE.out]; rfl, H.all⟩
     ·refine conv_o H (by rfl) rfl rfl (by repeat (first | exact List.Mem.head _ | apply List.Mem.tail)) Tryd.underlying35 Tryd.underlying5 Tryd.underlying9 ?_
      refine hK.out _ _ hHeld (fun hHeld => ?_)
      clear hK K
      refine norm_ (a' := ?_) ?_ ?_
      rotate_left
      ·show Act.put _ (some 86) _ = _
       simp only [Act.put, putA, putB, putC]
       rfl
      refine one_ (i := 3) (N := some 79) #[true, true, true, true, false, true, false, true, true, true, true, false, false] rfl rfl (by kernel_rfl) (by decide) (fun K hK => ?_)
      refine lit_o H (by rfl) (e := 5) (k := .u8) [(m1 : Int) % 256] (by first | (go_simp; done) | (go_simp; rfl)) (Nat.le_of_ble_eq_true rfl) ?_
      clear H
      intro g_ w_ H h_
      have hS := Lib.hid (show (fun w' : World => w'.cell? ⟨g, 4, none⟩ = some (.int .i64 (m1 : Int))) _ from (pw_cell_below h_ hHeld))
      clear h_
      refine hK.out _ _ hS.out (fun hHeld => ?_)
      clear hK K
      clear hS
      refine norm_ (a' := ?_) ?_ ?_
      rotate_left
      ·show Act.put _ (some 79) _ = _
       simp only [Act.put, putA, putB, putC]
       rfl
      refine one_ (i := 4) (N := some 80) #[true, true, true, true, true, true, false, true, true, true, true, false, false] rfl rfl (by kernel_rfl) (by decide) (fun K hK => ?_)
      refine conv_o H (by rfl) rfl rfl (by repeat (first | exact List.Mem.head _ | apply List.Mem.tail)) Tryd.underlying35 Tryd.underlying5 Tryd.underlying9 ?_
      refine hK.out _ _ hHeld (fun hHeld => ?_)
      clear hK K
      refine norm_ (a' := ?_) ?_ ?_
      rotate_left
      ·show Act.put _ (some 80) _ = _
       simp only [Act.put, putA, putB, putC]
       rfl
      refine pure_ (i := 6) (N := some 82) (v := ?_) (a' := ?_) #[true, true, true, true, true, true, true, true, true, true, true, false, false] rfl rfl (by kernel_rfl) (fun _ _ _ h => h) (Or.inl ⟨by rfl, ?_⟩) ?_ ?_
      rotate_left
      ·intro w'
       go_simp
       with_reducible rfl
      rotate_left
      ·simp only [Act.put, putA, putB, putC]
       rfl
      refine pure_ (i := 11) (N := some 87) (v := ?_) (a' := ?_) #[true, true, true, true, true, true, true, true, true, true, true, true, false] rfl rfl (by kernel_rfl) (fun _ _ _ h => h) (Or.inl ⟨by rfl, ?_⟩) ?_ ?_
      rotate_left
      ·intro w'
       go_simp
       with_reducible rfl
      rotate_left
      ·simp only [Act.put, putA, putB, putC]
       rfl
      refine pure_ (i := 12) (N := some 3) (v := ?_) (a' := ?_) #[true, true, true, true, true, true, true, true, true, true, true, true, true] rfl rfl (by kernel_rfl) (fun _ _ _ h => h) (Or.inl ⟨by rfl, ?_⟩) ?_ ?_
      rotate_left
      ·intro w'
       go_simp
       with_reducible rfl
      rotate_left
      ·simp only [Act.put, putA, putB, putC]
       rfl
      refine done_ (by kernel_rfl) ?_
      go_wp2_with fail
      exact HP.out _ _ ⟨by rw [EP.out, ← strs_append, ← strs_append, ← strs_append, HE.out]; rfl, H.all⟩
   ·have bp : decide (0 ≤ F.pad) = false := decide_eq_false hp
    have EP := Lib.hid (show rpayL F = rheadL F ++ F.data by unfold rpayL; rw [if_neg hp])
    clear hp
    go_wp2_with (first | (refine loadf_h H rfl rfl rfl (by repeat (first | exact List.Mem.head _ | apply List.Mem.tail)) rfl (by kernel_rfl) ?_))
    exact HP.out _ _ ⟨by rw [EP.out, ← strs_append, HE.out]; rfl, H.all⟩
  ·have HL := Lib.hid hl
   have HE := Lib.hid (show rheadL F = rleanL F by unfold rheadL; rw [hl]; rfl)
   have hz1 : (rleanL F).length ≤ 60000 := by simp [rleanL, beL_length]
   have hz2 := HZ.out.2.2.1
   have cc := eq_false (Nat.not_lt.2 (fits_cat (a := rleanL F) (b := F.data) (by omega)))
   have HZ1 := Lib.hid hz1
   clear hl hz1 hz2
   go_upto_region 19 with (first
    | (refine load_h H rfl rfl rfl (by repeat (first | exact List.Mem.head _ | apply List.Mem.tail)) (by kernel_rfl) (by kernel_rfl) ?_)
    | (go_at_call 51; refine (rleans_calls _ F _ _ HK.out.fl0 HK.out.fl1).mono ?_; rintro e_ w_ ⟨rfl, h_⟩; rw [HL.out]; replace H := H.below h_; clear h_)
    | (go_at_call 76; refine (rlean_calls _ F A B c m (Kd.C_below HA.out.1 H.all) HA.out.2.1 (Kd.C_below HA.out.2.2.1 H.all) HA.out.2.2.2 HK.out).mono ?_; rintro e_ w_ ⟨rfl, h_⟩; replace H := H.below h_; clear h_))
   have cv := string_of_reads (c := c) Tryd.underlying35 Tryd.underlying5 Tryd.underlying9 (H.reads0 (Kd_reads HA.out.1))
   go_upto_region 20 with (first | (refine loadf_h H rfl rfl rfl (by repeat (first | exact List.Mem.head _ | apply List.Mem.tail)) rfl (by kernel_rfl) ?_))
   clear cv
   by_cases hp : 0 ≤ F.pad
   ·have bp : decide (0 ≤ F.pad) = true := decide_eq_true hp
    obtain ⟨m1, hm1⟩ := Int.eq_ofNat_of_zero_le hp
    have hp1 := HZ.out.2.1
    have hm2 : m1 ≤ 255 := by omega
    have zd := HZ.out.2.2.1
    have zh := HZ1.out
    have c1 := eq_false (Nat.not_lt.2 (show (strOfNums [(m1 : Int) % 256]).size + ((strOfNums (rleanL F)).size + (strOfNums F.data).size) ≤ 9223372036854775807 from (by rw [str_size, str_size, str_size]; simp only [List.length_cons, List.length_nil]; omega)))
    have c2 := eq_false (Nat.not_lt.2 (show (strOfNums [(m1 : Int) % 256]).size + ((strOfNums (rleanL F)).size + (strOfNums F.data).size) + (strOfNums (List.replicate m1 0)).size ≤ 9223372036854775807 from (by rw [str_size, str_size, str_size, str_size, List.length_replicate]; simp only [List.length_cons, List.length_nil]; omega)))
    have EP := Lib.hid (show rpayL F = [(m1 : Int) % 256] ++ (rheadL F ++ F.data) ++ List.replicate m1 0 by unfold rpayL; rw [if_pos hp, hm1]; rfl)
    clear hp1 zd zh
    go_upto_region 21 with (first | (refine loadf_h H rfl rfl rfl (by repeat (first | exact List.Mem.head _ | apply List.Mem.tail)) rfl (by kernel_rfl) ?_))
    replace H := H.below (below_drew (Below.refl _ _))
    refine start_ (n := 13) (S := fun w' => w'.cell? ⟨g, 4, none⟩ = some (.int .i64 (m1 : Int))) (ds := []) #[false, false, false, false, false, false, false, false, false, false, false, false, false] (by kernel_rfl) rfl rfl ((H.cell (by repeat (first | exact List.Mem.head _ | apply List.Mem.tail)) 4).trans (show _ = some (Value.int .i64 (m1 : Int)) from by rw [← hm1]; rfl)) (fun hHeld => ?_)
    generalize World.drew _ = wy at H hHeld ⊢
    refine pure_ (i := 0) (N := some 76) (v := ?_) (a' := ?_) #[true, false, false, false, false, false, false, false, false, false, false, false, false] rfl rfl (by kernel_rfl) (fun _ _ _ h => h) (Or.inl ⟨by rfl, ?_⟩) ?_ ?_
    rotate_left
    ·intro w'
     go_simp
     with_reducible rfl
    rotate_left
    ·simp only [Act.put, putA, putB, putC]
     rfl
    refine take_ (i := 1) (N := some 77) (v := ?_) (a' := ?_) #[true, true, false, false, false, false, false, false, false, false, false, false, false] rfl rfl (by kernel_rfl) (fun _ _ _ h => h) (Or.inl ⟨by rfl, ?_⟩) hHeld ?_ ?_
    rotate_left
    ·intro w' s0
     go_simp
     with_reducible rfl
    rotate_left
    ·simp only [Act.put, putA, putB, putC]
     rfl
    refine pure_ (i := 2) (N := some 78) (v := ?_) (a' := ?_) #[true, true, true, false, false, false, false, false, false, false, false, false, false] rfl rfl (by kernel_rfl) (fun _ _ _ h => h) (Or.inl ⟨by rfl, ?_⟩) ?_ ?_
    rotate_left
    ·intro w'
     go_simp
     with_reducible rfl
    rotate_left
    ·simp only [Act.put, putA, putB, putC]
     rfl
    refine pure_ (i := 5) (N := some 81) (v := ?_) (a' := ?_) #[true, true, true, false, false, true, false, false, false, false, false, false, false] rfl rfl (by kernel_rfl) (fun _ _ _ h => h) (Or.inl ⟨by rfl, ?_⟩) ?_ ?_
    rotate_left
    ·intro w'
     go_simp
     with_reducible rfl
    rotate_left
    ·simp only [Act.put, putA, putB, putC]
     rfl
    refine pure_ (i := 7) (N := some 83) (v := ?_) (a' := ?_) #[true, true, true, false, false, true, false, true, false, false, false, false, false] rfl rfl (by kernel_rfl) (fun _ _ _ h => h) (Or.inl ⟨by rfl, ?_⟩) ?_ ?_
    rotate_left
    ·intro w'
     go_simp
     with_reducible rfl
    rotate_left
    ·simp only [Act.put, putA, putB, putC]
     rfl
    refine take_ (i := 8) (N := some 84) (v := ?_) (a' := ?_) #[true, true, true, false, false, true, false, true, true, false, false, false, false] rfl rfl (by kernel_rfl) (fun _ _ _ h => h) (Or.inl ⟨by rfl, ?_⟩) hHeld ?_ ?_
    rotate_left
    ·intro w' s0
     go_simp
     with_reducible rfl
    rotate_left
    ·simp only [Act.put, putA, putB, putC]
     rfl
    refine two_ (i := 3) (j := 9) (Ni := some 79) (Nj := some 85) #[true, true, true, true, false, true, false, true, true, false, false, false, false] #[true, true, true, false, false, true, false, true, true, true, false, false, false] rfl rfl rfl rfl (by kernel_rfl) (by decide) (by decide) (fun K hK => ?_) (fun K hK => ?_)
    ·refine lit_o H (by rfl) (e := 5) (k := .u8) [(m1 : Int) % 256] (by first | (go_simp; done) | (go_simp; rfl)) (Nat.le_of_ble_eq_true rfl) ?_
     clear H
     intro g_ w_ H h_
     have hS := Lib.hid (show (fun w' : World => w'.cell? ⟨g, 4, none⟩ = some (.int .i64 (m1 : Int))) _ from (pw_cell_below h_ hHeld))
     clear h_
     refine hK.out _ _ hS.out (fun hHeld => ?_)
     clear hK K
     clear hS
     refine norm_ (a' := ?_) ?_ ?_
     rotate_left
     ·show Act.put _ (some 79) _ = _
      simp only [Act.put, putA, putB, putC]
      rfl
     refine two_ (i := 4) (j := 9) (Ni := some 80) (Nj := some 85) #[true, true, true, true, true, true, false, true, true, false, false, false, false] #[true, true, true, true, false, true, false, true, true, true, false, false, false] rfl rfl rfl rfl (by kernel_rfl) (by decide) (by decide) (fun K hK => ?_) (fun K hK => ?_)
     ·refine conv_o H (by rfl) rfl rfl (by repeat (first | exact List.Mem.head _ | apply List.Mem.tail)) Tryd.underlying35 Tryd.underlying5 Tryd.underlying9 ?_
      refine hK.out _ _ hHeld (fun hHeld => ?_)
      clear hK K
      refine norm_ (a' := ?_) ?_ ?_
      rotate_left
      ·show Act.put _ (some 80) _ = _
       simp only [Act.put, putA, putB, putC]
       rfl
      refine pure_ (i := 6) (N := some 82) (v := ?_) (a' := ?_) #[true, true, true, true, true, true, true, true, true, false, false, false, false] rfl rfl (by kernel_rfl) (fun _ _ _ h => h) (Or.inl ⟨by rfl, ?_⟩) ?_ ?_
      rotate_left
      ·intro w'
       go_simp
       with_reducible rfl
      rotate_left
      ·simp only [Act.put, putA, putB, putC]
       rfl
      refine one_ (i := 9) (N := some 85) #[true, true, true, true, true, true, true, true, true, true, false, false, false] rfl rfl (by kernel_rfl) (by decide) (fun K hK => ?_)
      refine makeb_o H (by rfl) rfl m1 rfl rfl Tryd.underlying35 Tryd.infoB8 (by have := HZ.out; omega) ?_
      clear H
      intro g_ w_ H h_
      have hS := Lib.hid (show (fun w' : World => w'.cell? ⟨g, 4, none⟩ = some (.int .i64 (m1 : Int))) _ from (pw_cell_below h_ hHeld))
      clear h_
      refine hK.out _ _ hS.out (fun hHeld => ?_)
      clear hK K
      clear hS
      refine norm_ (a' := ?_) ?_ ?_
      rotate_left
      ·show Act.put _ (some 85) _ = _
       simp only [Act.put, putA, putB, putC]
       rfl
      refine one_ (i := 10) (N := some 86) #[true, true, true, true, true, true, true, true, true, true, true, false, false] rfl rfl (by kernel_rfl) (by decide) (fun K hK => ?_)
      refine conv_o H (by rfl) rfl rfl (by repeat (first | exact List.Mem.head _ | apply List.Mem.tail)) Tryd.underlying35 Tryd.underlying5 Tryd.underlying9 ?_
      refine hK.out _ _ hHeld (fun hHeld => ?_)
      clear hK K
      refine norm_ (a' := ?_) ?_ ?_
      rotate_left
      ·show Act.put _ (some 86) _ = _
       simp only [Act.put, putA, putB, putC]
       rfl
      refine pure_ (i := 11) (N := some 87) (v := ?_) (a' := ?_) #[true, true, true, true, true, true, true, true, true, true, true, true, false] rfl rfl (by kernel_rfl) (fun _ _ _ h => h) (Or.inl ⟨by rfl, ?_⟩) ?_ ?_
      rotate_left
      ·intro w'
       go_simp
       with_reducible rfl
      rotate_left
      ·simp only [Act.put, putA, putB, putC]
       rfl
      refine pure_ (i := 12) (N := some 3) (v := ?_) (a' := ?_) #[true, true, true, true, true, true, true, true, true, true, true, true, true] rfl rfl (by kernel_rfl) (fun _ _ _ h => h) (Or.inl ⟨by rfl, ?_⟩) ?_ ?_
      rotate_left
      ·intro w'
       go_simp
       with_reducible rfl
      rotate_left
      ·simp only [Act.put, putA, putB, putC]
       rfl
      refine done_ (by kernel_rfl) ?_
      go_wp2_with fail
      exact HP.out _ _ ⟨by rw [EP.out, ← strs_append, ← strs_append, ← strs_append, HE.out]; rfl, H.all⟩
     ·refine makeb_o H (by rfl) rfl m1 rfl rfl Tryd.underlying35 Tryd.infoB8 (by have := HZ.out; omega) ?_
      clear H
      intro g_ w_ H h_
      have hS := Lib.hid (show (fun w' : World => w'.cell? ⟨g, 4, none⟩ = some (.int .i64 (m1 : Int))) _ from (pw_cell_below h_ hHeld))
      clear h_
      refine hK.out _ _ hS.out (fun hHeld => ?_)
      clear hK K
      clear hS
      refine norm_ (a' := ?_) ?_ ?_
      rotate_left
      ·show Act.put _ (some 85) _ = _
       simp only [Act.put, putA, putB, putC]
       rfl
      refine two_ (i := 4) (j := 10) (Ni := some 80) (Nj := some 86) #[true, true, true, true, true, true, false, true, true, true, false, false, false] #[true, true, true, true, false, true, false, true, true, true, true, false, false] rfl rfl rfl rfl (by kernel_rfl) (by decide) (by decide) (fun K hK => ?_) (fun K hK => ?_)
      ·refine conv_o H (by rfl) rfl rfl (by repeat (first | exact List.Mem.head _ | apply List.Mem.tail)) Tryd.underlying35 Tryd.underlying5 Tryd.underlying9 ?_
       refine hK.out _ _ hHeld (fun hHeld => ?_)
       clear hK K
       refine norm_ (a' := ?_) ?_ ?_
       rotate_left
       ·show Act.put _ (some 80) _ = _
        simp only [Act.put, putA, putB, putC]
        rfl
       refine pure_ (i := 6) (N := some 82) (v := ?_) (a' := ?_) #[true, true, true, true, true, true, true, true, true, true, false, false, false] rfl rfl (by kernel_rfl) (fun _ _ _ h => h) (Or.inl ⟨by rfl, ?_⟩) ?_ ?_
       rotate_left
       ·intro w'
        go_simp
        with_reducible rfl
       rotate_left
       ·simp only [Act.put, putA, putB, putC]
        rfl
       refine one_ (i := 10) (N := some 86) #[true, true, true, true, true, true, true, true, true, true, true, false, false] rfl rfl (by kernel_rfl) (by decide) (fun K hK => ?_)
       refine conv_o H (by rfl) rfl rfl (by repeat (first | exact List.Mem.head _ | apply List.Mem.tail)) Tryd.underlying35 Tryd.underlying5 Tryd.underlying9 ?_
       refine hK.out _ _ hHeld (fun hHeld => ?_)
       clear hK K
       refine norm_ (a' := ?_) ?_ ?_
       rotate_left
       ·show Act.put _ (some 86) _ = _
        simp only [Act.put, putA, putB, putC]
        rfl
       refine pure_ (i := 11) (N := some 87) (v := ?_) (a' := ?_) #[true, true, true, true, true, true, true, true, true, true, true, true, false] rfl rfl (by kernel_rfl) (fun _ _ _ h => h) (Or.inl ⟨by rfl, ?_⟩) ?_ ?_
       rotate_left
       ·intro w'
        go_simp
        with_reducible rfl
       rotate_left
       ·simp only [Act.put, putA, putB, putC]
        rfl
       refine pure_ (i := 12) (N := some 3) (v := ?_) (a' := ?_) #[true, true, true, true, true, true, true, true, true, true, true, true, true] rfl rfl (by kernel_rfl) (fun _ _ _ h => h) (Or.inl ⟨by rfl, ?_⟩) ?_ ?_
       rotate_left
       ·intro w'
        go_simp
        with_reducible rfl
       rotate_left
       ·simp only [Act.put, putA, putB, putC]
        rfl
       refine done_ (by kernel_rfl) ?_
       go_wp2_with fail
       exact HP.out _ _ ⟨by rw [EP.out, ← strs_append, ← strs_append, ← strs_append, HE.out]; rfl, H.all⟩
      ·refine conv_o H (by rfl) rfl rfl (by repeat (first | exact List.Mem.head _ | apply List.Mem.tail)) Tryd.underlying35 Tryd.underlying5 Tryd.underlying9 ?_
       refine hK.out _ _ hHeld (fun hHeld => ?_)
       clear hK K
       refine norm_ (a' := ?_) ?_ ?_
       rotate_left
       ·show Act.put _ (some 86) _ = _
        simp only [Act.put, putA, putB, putC]
        rfl
       refine one_ (i := 4) (N := some 80) #[true, true, true, true, true, true, false, true, true, true, true, false, false] rfl rfl (by kernel_rfl) (by decide) (fun K hK => ?_)
       refine conv_o H (by rfl) rfl rfl (by repeat (first | exact List.Mem.head _ | apply List.Mem.tail)) Tryd.underlying35 Tryd.underlying5 Tryd.underlying9 ?_
       refine hK.out _ _ hHeld (fun hHeld => ?_)
       clear hK K
       refine norm_ (a' := ?_) ?_ ?_
       rotate_left
       ·show Act.put _ (some 80) _ = _
        simp only [Act.put, putA, putB, putC]
        rfl
       refine pure_ (i := 6) (N := some 82) (v := ?_) (a' := ?_) #[true, true, true, true, true, true, true, true, true, true, true, false, false] rfl rfl (by kernel_rfl) (fun _ _ _ h => h) (Or.inl ⟨by rfl, ?_⟩) ?_ ?_
       rotate_left
       ·intro w'
        go_simp
        with_reducible rfl
       rotate_left
       ·simp only [Act.put, putA, putB, putC]
        rfl
       refine pure_ (i := 11) (N := some 87) (v := ?_) (a' := ?_) #[true, true, true, true, true, true, true, true, true, true, true, true, false] rfl rfl (by kernel_rfl) (fun _ _ _ h => h) (Or.inl ⟨by rfl, ?_⟩) ?_ ?_
       rotate_left
       ·intro w'
        go_simp
        with_reducible rfl
       rotate_left
       ·simp only [Act.put, putA, putB, putC]
        rfl
       refine pure_ (i := 12) (N := some 3) (v := ?_) (a' := ?_) #[true, true, true, true, true, true, true, true, true, true, true, true, true] rfl rfl (by kernel_rfl) (fun _ _ _ h => h) (Or.inl ⟨by rfl, ?_⟩) ?_ ?_
       rotate_left
       ·intro w'
        go_simp
        with_reducible rfl
       rotate_left
       ·simp only [Act.put, putA, putB, putC]
        rfl
       refine done_ (by kernel_rfl) ?_
       go_wp2_with fail
       exact HP.out _ _ ⟨by rw [EP.out, ← strs_append, ← strs_append, ← strs_append, HE.out]; rfl, H.all⟩
    ·refine makeb_o H (by rfl) rfl m1 rfl rfl Tryd.underlying35 Tryd.infoB8 (by have := HZ.out; omega) ?_
     clear H
     intro g_ w_ H h_
     have hS := Lib.hid (show (fun w' : World => w'.cell? ⟨g, 4, none⟩ = some (.int .i64 (m1 : Int))) _ from (pw_cell_below h_ hHeld))
     clear h_
     refine hK.out _ _ hS.out (fun hHeld => ?_)
     clear hK K
     clear hS
     refine norm_ (a' := ?_) ?_ ?_
     rotate_left
     ·show Act.put _ (some 85) _ = _
      simp only [Act.put, putA, putB, putC]
      rfl
     refine two_ (i := 3) (j := 10) (Ni := some 79) (Nj := some 86) #[true, true, true, true, false, true, false, true, true, true, false, false, false] #[true, true, true, false, false, true, false, true, true, true, true, false, false] rfl rfl rfl rfl (by kernel_rfl) (by decide) (by decide) (fun K hK => ?_) (fun K hK => ?_)
     ·refine lit_o H (by rfl) (e := 5) (k := .u8) [(m1 : Int) % 256] (by first | (go_simp; done) | (go_simp; rfl)) (Nat.le_of_ble_eq_true rfl) ?_
      clear H
      intro g_ w_ H h_
      have hS := Lib.hid (show (fun w' : World => w'.cell? ⟨g, 4, none⟩ = some (.int .i64 (m1 : Int))) _ from (pw_cell_below h_ hHeld))
      clear h_
      refine hK.out _ _ hS.out (fun hHeld => ?_)
      clear hK K
      clear hS
      refine norm_ (a' := ?_) ?_ ?_
      rotate_left
      ·show Act.put _ (some 79) _ = _
       simp only [Act.put, putA, putB, putC]
       rfl
      refine two_ (i := 4) (j := 10) (Ni := some 80) (Nj := some 86) #[true, true, true, true, true, true, false, true, true, true, false, false, false] #[true, true, true, true, false, true, false, true, true, true, true, false, false] rfl rfl rfl rfl (by kernel_rfl) (by decide) (by decide) (fun K hK => ?_) (fun K hK => ?_)
      ·refine conv_o H (by rfl) rfl rfl (by repeat (first | exact List.Mem.head _ | apply List.Mem.tail)) Tryd.underlying35 Tryd.underlying5 Tryd.underlying9 ?_
       refine hK.out _ _ hHeld (fun hHeld => ?_)
       clear hK K
       refine norm_ (a' := ?_) ?_ ?_
       rotate_left
       ·show Act.put _ (some 80) _ = _
        simp only [Act.put, putA, putB, putC]
        rfl
       refine pure_ (i := 6) (N := some 82) (v := ?_) (a' := ?_) #[true, true, true, true, true, true, true, true, true, true, false, false, false] rfl rfl (by kernel_rfl) (fun _ _ _ h => h) (Or.inl ⟨by rfl, ?_⟩) ?_ ?_
       rotate_left
       ·intro w'
        go_simp
        with_reducible rfl
       rotate_left
       ·simp only [Act.put, putA, putB, putC]
        rfl
       refine one_ (i := 10) (N := some 86) #[true, true, true, true, true, true, true, true, true, true, true, false, false] rfl rfl (by kernel_rfl) (by decide) (fun K hK => ?_)
       refine conv_o H (by rfl) rfl rfl (by repeat (first | exact List.Mem.head _ | apply List.Mem.tail)) Tryd.underlying35 Tryd.underlying5 Tryd.underlying9 ?_
       refine hK.out _ _ hHeld (fun hHeld => ?_)
       clear hK K
       refine norm_ (a' := ?_) ?_ ?_
       rotate_left
       ·show Act.put _ (some 86) _ = _
        simp only [Act.put, putA, putB, putC]
        rfl
       refine pure_ (i := 11) (N := some 87) (v := ?_) (a' := ?_) #[true, true, true, true, true, true, true, true, true, true, true, true, false] rfl rfl (by kernel_rfl) (fun _ _ _ h => h) (Or.inl ⟨by rfl, ?_⟩) ?_ ?_
       rotate_left
       ·intro w'
        go_simp
        with_reducible rfl
       rotate_left
       ·simp only [Act.put, putA, putB, putC]
        rfl
       refine pure_ (i := 12) (N := some 3) (v := ?_) (a' := ?_) #[true, true, true, true, true, true, true, true, true, true, true, true, true] rfl rfl (by kernel_rfl) (fun _ _ _ h => h) (Or.inl ⟨by rfl, ?_⟩) ?_ ?_
       rotate_left
       ·intro w'
        go_simp
        with_reducible rfl
       rotate_left
       ·simp only [Act.put, putA, putB, putC]
        rfl
       refine done_ (by kernel_rfl) ?_
       go_wp2_with fail
       exact HP.out _ _ ⟨by rw [EP.out, ← strs_append, ← strs_append, ← strs_append, HE.out]; rfl, H.all⟩
      ·refine conv_o H (by rfl) rfl rfl (by repeat (first | exact List.Mem.head _ | apply List.Mem.tail)) Tryd.underlying35 Tryd.underlying5 Tryd.underlying9 ?_
       refine hK.out _ _ hHeld (fun hHeld => ?_)
       clear hK K
       refine norm_ (a' := ?_) ?_ ?_
       rotate_left
       ·show Act.put _ (some 86) _ = _
        simp only [Act.put, putA, putB, putC]
        rfl
       refine one_ (i := 4) (N := some 80) #[true, true, true, true, true, true, false, true, true, true, true, false, false] rfl rfl (by kernel_rfl) (by decide) (fun K hK => ?_)
       refine conv_o H (by rfl) rfl rfl (by repeat (first | exact List.Mem.head _ | apply List.Mem.tail)) Tryd.underlying35 Tryd.underlying5 Tryd.underlying9 ?_
       refine hK.out _ _ hHeld (fun hHeld => ?_)
       clear hK K
       refine norm_ (a' := ?_) ?_ ?_
       rotate_left
       ·show Act.put _ (some 80) _ = _
        simp only [Act.put, putA, putB, putC]
        rfl
       refine pure_ (i := 6) (N := some 82) (v := ?_) (a' := ?_) #[true, true, true, true, true, true, true, true, true, true, true, false, false] rfl rfl (by kernel_rfl) (fun _ _ _ h => h) (Or.inl ⟨by rfl, ?_⟩) ?_ ?_
       rotate_left
       ·intro w'
        go_simp
        with_reducible rfl
       rotate_left
       ·simp only [Act.put, putA, putB, putC]
        rfl
       refine pure_ (i := 11) (N := some 87) (v := ?_) (a' := ?_) #[true, true, true, true, true, true, true, true, true, true, true, true, false] rfl rfl (by kernel_rfl) (fun _ _ _ h => h) (Or.inl ⟨by rfl, ?_⟩) ?_ ?_
       rotate_left
       ·intro w'
        go_simp
        with_reducible rfl
       rotate_left
       ·simp only [Act.put, putA, putB, putC]
        rfl
       refine pure_ (i := 12) (N := some 3) (v := ?_) (a' := ?_) #[true, true, true, true, true, true, true, true, true, true, true, true, true] rfl rfl (by kernel_rfl) (fun _ _ _ h => h) (Or.inl ⟨by rfl, ?_⟩) ?_ ?_
       rotate_left
       ·intro w'
        go_simp
        with_reducible rfl
       rotate_left
       ·simp only [Act.put, putA, putB, putC]
        rfl
       refine done_ (by kernel_rfl) ?_
       go_wp2_with fail
       exact HP.out _ _ ⟨by rw [EP.out, ← strs_append, ← strs_append, ← strs_append, HE.out]; rfl, H.all⟩
     ·refine conv_o H (by rfl) rfl rfl (by repeat (first | exact List.Mem.head _ | apply List.Mem.tail)) Tryd.underlying35 Tryd.underlying5 Tryd.underlying9 ?_
      refine hK.out _ _ hHeld (fun hHeld => ?_)
      clear hK K
      refine norm_ (a' := ?_) ?_ ?_
      rotate_left
      ·show Act.put _ (some 86) _ = _
       simp only [Act.put, putA, putB, putC]
       rfl
      refine one_ (i := 3) (N := some 79) #[true, true, true, true, false, true, false, true, true, true, true, false, false] rfl rfl (by kernel_rfl) (by decide) (fun K hK => ?_)
      refine lit_o H (by rfl) (e := 5) (k := .u8) [(m1 : Int) % 256] (by first | (go_simp; done) | (go_simp; rfl)) (Nat.le_of_ble_eq_true rfl) ?_
      clear H
      intro g_ w_ H h_
      have hS := Lib.hid (show (fun w' : World => w'.cell? ⟨g, 4, none⟩ = some (.int .i64 (m1 : Int))) _ from (pw_cell_below h_ hHeld))
      clear h_
      refine hK.out _ _ hS.out (fun hHeld => ?_)
      clear hK K
      clear hS
      refine norm_ (a' := ?_) ?_ ?_
      rotate_left
      ·show Act.put _ (some 79) _ = _
       simp only [Act.put, putA, putB, putC]
       rfl
      refine one_ (i := 4) (N := some 80) #[true, true, true, true, true, true, false, true, true, true, true, false, false] rfl rfl (by kernel_rfl) (by decide) (fun K hK => ?_)
      refine conv_o H (by rfl) rfl rfl (by repeat (first | exact List.Mem.head _ | apply List.Mem.tail)) Tryd.underlying35 Tryd.underlying5 Tryd.underlying9 ?_
      refine hK.out _ _ hHeld (fun hHeld => ?_)
      clear hK K
      refine norm_ (a' := ?_) ?_ ?_
      rotate_left
      ·show Act.put _ (some 80) _ = _
       simp only [Act.put, putA, putB, putC]
       rfl
      refine pure_ (i := 6) (N := some 82) (v := ?_) (a' := ?_) #[true, true, true, true, true, true, true, true, true, true, true, false, false] rfl rfl (by kernel_rfl) (fun _ _ _ h => h) (Or.inl ⟨by rfl, ?_⟩) ?_ ?_
      rotate_left
      ·intro w'
       go_simp
       with_reducible rfl
      rotate_left
      ·simp only [Act.put, putA, putB, putC]
       rfl
      refine pure_ (i := 11) (N := some 87) (v := ?_) (a' := ?_) #[true, true, true, true, true, true, true, true, true, true, true, true, false] rfl rfl (by kernel_rfl) (fun _ _ _ h => h) (Or.inl ⟨by rfl, ?_⟩) ?_ ?_
      rotate_left
      ·intro w'
       go_simp
       with_reducible rfl
      rotate_left
      ·simp only [Act.put, putA, putB, putC]
       rfl
      refine pure_ (i := 12) (N := some 3) (v := ?_) (a' := ?_) #[true, true, true, true, true, true, true, true, true, true, true, true, true] rfl rfl (by kernel_rfl) (fun _ _ _ h => h) (Or.inl ⟨by rfl, ?_⟩) ?_ ?_
      rotate_left
      ·intro w'
       go_simp
       with_reducible rfl
      rotate_left
      ·simp only [Act.put, putA, putB, putC]
       rfl
      refine done_ (by kernel_rfl) ?_
      go_wp2_with fail
      exact HP.out _ _ ⟨by rw [EP.out, ← strs_append, ← strs_append, ← strs_append, HE.out]; rfl, H.all⟩
   ·have bp : decide (0 ≤ F.pad) = false := decide_eq_false hp
    have EP := Lib.hid (show rpayL F = rheadL F ++ F.data by unfold rpayL; rw [if_neg hp])
    clear hp
    go_wp2_with (first | (refine loadf_h H rfl rfl rfl (by repeat (first | exact List.Mem.head _ | apply List.Mem.tail)) rfl (by kernel_rfl) ?_))
    exact HP.out _ _ ⟨by rw [EP.out, ← strs_append, HE.out]; rfl, H.all⟩
end Go.Proofs.YtjjfkmniffbgkaaDoor

/- FramePuts' pure part: fields and May, as tests. -/
namespace Go.Proofs.YtjjfkmniffbgkaaDoor
set_option linter.unusedVariables false
set_option linter.unusedSimpArgs false
open Go.RowKit Go.Proofs.YtjjfkmniffbgkaaDoorW.PrintWords Go.Proofs.YtjjfkmniffbgkaaDoorW.PrintLast Go.Proofs.YtjjfkmniffbgkaaDoorW.PrintMore Go.Proofs.YtjjfkmniffbgkaaDoor.QFrmA Go.Proofs.YtjjfkmniffbgkaaDoor.Given
theorem nil_len {α : Type} {l : List α} : l.length = 0 ↔ l = [] := List.length_eq_zero_iff

theorem top_or {v : Int} (h0 : 2147483648 ≤ v) (h1 : v < 4294967296) : Go.bits .or .u32 (v % 2147483648) 2147483648 = v := by
 obtain ⟨m, hm⟩ := Int.eq_ofNat_of_zero_le (show 0 ≤ v % 2147483648 by omega)
 have hm' : m < 2147483648 := by omega
 rw [hm, show (2147483648 : Int) = ((2147483648 : Nat) : Int) from rfl, u32_or_nat m 2147483648 (by omega) (by omega)]
 have h2 : m ||| 2147483648 = 2147483648 + m := by
  have := Nat.shiftLeft_add_eq_or_of_lt (show m < 2 ^ 31 by omega) 1
  rw [Nat.or_comm]
  rw [show (1 <<< 31 : Nat) = 2147483648 from rfl] at this
  exact this.symm
 rw [h2]
 omega

theorem notlean {ty fl : Int} (h2 : ty ≠ 2) (h1 : ty ≠ 1) : leansB ty fl = false := by
 unfold leansB
 rw [if_neg h2, if_neg h1]

structure HeadOnly (F : Fr) : Prop where
 code : F.code = 0
 oth : F.oth = 0
 wgt : F.wgt = 0
 al : F.al = false
 win : F.win = 0
 sets : F.sets = []
 data : F.data = []

theorem HeadOnly.pad {F : Fr} (h : HeadOnly F) (p : Int) : HeadOnly { F with pad := p } := ⟨h.code, h.oth, h.wgt, h.al, h.win, h.sets, h.data⟩

theorem body_bad {F : Fr} {b : List Int} {s c : Int} (hr : bodyR F b = .bad s c) : s ≠ 0 := by
 unfold bodyR setsR at hr
 repeat' (first | (split at hr) | (injection hr with h1 h2; omega) | cases hr)
theorem read_bad {F : Fr} {l : List Int} {s c : Int} (hr : readR F l = .bad s c) : s ≠ 0 := by
 unfold readR at hr
 split at hr
 ·injection hr with h1 h2; omega
 ·exact body_bad hr
theorem get_good {l : List Int} (h0 : (getFr l).2.1 = 0) : 9 ≤ l.length ∧ headN l = (l.length : Int) ∧ l.length ≤ 16393 ∧ readR ⟨l.getD 3 0, l.getD 4 0, valL ((l.take 9).drop 5) % 2147483648, [], -1, 0, 0, 0, false, 0, []⟩ (l.drop 9) = .ok (getFr l).1 := by
 unfold getFr at h0 ⊢
 by_cases h1 : ¬ (9 ≤ l.length ∧ headN l = (l.length : Int))
 ·rw [if_pos h1] at h0; cases h0
 rw [if_neg h1] at h0 ⊢
 have h1' := Classical.not_not.1 h1
 by_cases h2 : 16393 < l.length
 ·rw [if_pos h2] at h0; cases h0
 rw [if_neg h2] at h0 ⊢
 by_cases h3 : stBad (l.getD 3 0) (valL ((l.take 9).drop 5) % 2147483648) = true
 ·rw [if_pos h3] at h0; cases h0
 rw [if_neg h3] at h0 ⊢
 cases hr : readR ⟨l.getD 3 0, l.getD 4 0, valL ((l.take 9).drop 5) % 2147483648, [], -1, 0, 0, 0, false, 0, []⟩ (l.drop 9) with
 | bad s c =>
  rw [hr] at h0
  exact absurd h0 (read_bad hr)
 | ok F => exact ⟨h1'.1, h1'.2, by omega, rfl⟩

structure FrWf (F : Fr) : Prop where
 ty0 : 0 ≤ F.ty
 ty1 : F.ty ≤ 255
 fl0 : 0 ≤ F.fl
 fl1 : F.fl ≤ 255
 st0 : 0 ≤ F.st
 st1 : F.st ≤ 4294967295
 data : Byte8 F.data
 code0 : 0 ≤ F.code
 code1 : F.code ≤ 4294967295
 oth0 : 0 ≤ F.oth
 oth1 : F.oth ≤ 4294967295
 wgt0 : 0 ≤ F.wgt
 wgt1 : F.wgt ≤ 255
 win0 : 0 ≤ F.win
 win1 : F.win ≤ 4294967295
 sets : ∀ s ∈ F.sets, 0 ≤ s.f0 ∧ s.f0 ≤ 65535 ∧ 0 ≤ s.f1 ∧ s.f1 ≤ 4294967295
theorem byte_be4 (n : Int) : Byte8 (be4 n) := fun x hx => by
 simp only [be4, List.mem_cons, List.not_mem_nil, or_false] at hx
 rcases hx with rfl | rfl | rfl | rfl <;> omega
theorem byte_be3 (n : Int) : Byte8 (be3 n) := fun x hx => by
 simp only [be3, List.mem_cons, List.not_mem_nil, or_false] at hx
 rcases hx with rfl | rfl | rfl <;> omega
theorem byte_be2 (n : Int) : Byte8 (be2 n) := fun x hx => by
 simp only [be2, List.mem_cons, List.not_mem_nil, or_false] at hx
 rcases hx with rfl | rfl <;> omega
theorem byte_app {a b : List Int} (ha : Byte8 a) (hb : Byte8 b) : Byte8 (a ++ b) := fun x hx => (List.mem_append.1 hx).elim (ha x) (hb x)
theorem val_be4 {n : Int} (h0 : 0 ≤ n) (h1 : n ≤ 4294967295) : valL (be4 n) = n := by
 unfold be4
 rw [shr24, shr16, shr8, shr0]
 simp only [valL, valFrom]
 omega
theorem val_be3 {n : Int} (h0 : 0 ≤ n) (h1 : n ≤ 16777215) : valL (be3 n) = n := by
 unfold be3
 rw [shr16, shr8, shr0]
 simp only [valL, valFrom]
 omega
theorem val_be2 {n : Int} (h0 : 0 ≤ n) (h1 : n ≤ 65535) : valL (be2 n) = n := by
 unfold be2
 rw [shr8, shr0]
 simp only [valL, valFrom]
 omega
theorem or_top {n : Int} (h0 : 0 ≤ n) (h1 : n ≤ 2147483647) : Go.bits .or .u32 n 2147483648 = n + 2147483648 := by
 have := top_or (v := n + 2147483648) (by omega) (by omega)
 rw [show (n + 2147483648) % 2147483648 = n by omega] at this
 exact this
theorem be4_beL (n : Int) : be4 n = beL n 4 := by
 unfold be4
 rw [shr24, shr16, shr8, shr0]
 simp [beL]
theorem be2_beL {n : Int} (h0 : 0 ≤ n) (h1 : n ≤ 65535) : be2 (n % 4294967296) = beL n 2 := by
 unfold be2
 rw [shr8, shr0, Int.emod_eq_of_lt h0 (by omega)]
 simp [beL]
theorem setL_rset {s : S99} (h0 : 0 ≤ s.f0) (h1 : s.f0 ≤ 65535) : setL s = rsetL s := by
 unfold setL rsetL
 rw [be2_beL h0 h1, be4_beL]
theorem sets_rset : ∀ {l : List S99}, (∀ s ∈ l, 0 ≤ s.f0 ∧ s.f0 ≤ 65535 ∧ 0 ≤ s.f1 ∧ s.f1 ≤ 4294967295) → l.flatMap setL = l.flatMap rsetL
 | [], _ => rfl
 | s :: l, h => by
  rw [List.flatMap_cons, List.flatMap_cons, setL_rset (h s (by simp)).1 (h s (by simp)).2.1, sets_rset (fun x hx => h x (by simp [hx]))]
theorem lean_ty {F : Fr} (h : leansB F.ty F.fl = true) : F.ty = 1 ∨ F.ty = 2 := by
 unfold leansB at h
 by_cases t2 : F.ty = 2
 ·exact .inr t2
 ·by_cases t1 : F.ty = 1
  ·exact .inl t1
  ·rw [if_neg t2, if_neg t1] at h; cases h
theorem mid_lean {F : Fr} (h : leansB F.ty F.fl = true) : midL F = [] := by
 have := lean_ty h
 unfold midL
 rw [if_neg (by omega), if_neg (by omega), if_neg (by omega), if_neg (by omega), if_neg (by omega)]
theorem leanL_rlean {F : Fr} (h0 : 0 ≤ F.oth) (h1 : F.oth ≤ 2147483647) : leanL F = rleanL F := by
 unfold leanL rleanL
 rw [be4_beL]
 cases F.al
 ·rfl
 ·rw [if_pos rfl, if_pos rfl, or_top h0 h1]
theorem mid_rmid {F : Fr} (h : FrWf F) : midL F = rmidL F := by
 unfold midL rmidL
 by_cases t3 : F.ty = 3
 ·rw [if_pos t3, if_pos t3, be4_beL]
 by_cases t4 : F.ty = 4
 ·rw [if_neg t3, if_neg t3, if_pos t4, if_pos t4, sets_rset h.sets]
 by_cases t5 : F.ty = 5
 ·rw [if_neg t3, if_neg t3, if_neg t4, if_neg t4, if_neg (by omega), if_pos t5, if_pos t5, be4_beL]
 by_cases t7 : F.ty = 7
 ·rw [if_neg t3, if_neg t3, if_neg t4, if_neg t4, if_pos t7, if_neg t5, if_pos t7, be4_beL, be4_beL]
 by_cases t8 : F.ty = 8
 ·rw [if_neg t3, if_neg t3, if_neg t4, if_neg t4, if_neg t7, if_neg t5, if_pos t8, if_neg t5, if_neg t7, if_pos t8, be4_beL]
 ·rw [if_neg t3, if_neg t3, if_neg t4, if_neg t4, if_neg t7, if_neg t5, if_neg t8, if_neg t5, if_neg t7, if_neg t8]
def coreL (F : Fr) : List Int := midL F ++ (if leansB F.ty F.fl = true then leanL F else []) ++ F.data
theorem pay_core (F : Fr) : payL F = (if 0 ≤ F.pad then [F.pad % 256] else []) ++ (coreL F ++ List.replicate (mx F.pad 0).toNat 0) := by
 unfold payL tailL coreL
 simp only [List.append_assoc]
theorem pay_rpay {F : Fr} (h : FrWf F) (ho : F.oth ≤ 2147483647) : payL F = rpayL F := by
 have e : coreL F = rheadL F ++ F.data := by
  unfold coreL rheadL
  by_cases hl : leansB F.ty F.fl = true
  ·rw [mid_lean hl, if_pos hl, if_pos hl, List.nil_append, leanL_rlean h.oth0 ho]
  ·rw [if_neg hl, if_neg hl, List.append_nil, mid_rmid h]
 rw [pay_core, e]
 unfold rpayL
 by_cases hp : 0 ≤ F.pad
 ·rw [if_pos hp, if_pos hp]
  have : mx F.pad 0 = F.pad := by unfold mx; split <;> omega
  rw [this]
  simp only [List.append_assoc]
 ·rw [if_neg hp, if_neg hp]
  have : (mx F.pad 0).toNat = 0 := by unfold mx; split <;> omega
  rw [this]
  simp
theorem parseS_put : ∀ (l : List S99) (r : List Int), (∀ s ∈ l, 0 ≤ s.f0 ∧ s.f0 ≤ 65535 ∧ 0 ≤ s.f1 ∧ s.f1 ≤ 4294967295) → parseS l.length (l.flatMap setL ++ r) = l
 | [], r, _ => rfl
 | s :: l, r, h => by
  have hs := h s (by simp)
  rw [List.flatMap_cons, List.append_assoc]
  have e2 : (setL s ++ (l.flatMap setL ++ r)).take 2 = be2 (s.f0 % 4294967296) := rfl
  have e6 : ((setL s ++ (l.flatMap setL ++ r)).take 6).drop 2 = be4 s.f1 := rfl
  have ed : (setL s ++ (l.flatMap setL ++ r)).drop 6 = l.flatMap setL ++ r := rfl
  rw [List.length_cons, parseS, e2, e6, ed, parseS_put l r (fun x hx => h x (by simp [hx])), Int.emod_eq_of_lt hs.1 (by omega), val_be2 hs.1 hs.2.1, val_be4 hs.2.2.1 hs.2.2.2]
theorem sets_len6 : ∀ (l : List S99), (l.flatMap setL).length = 6 * l.length
 | [] => rfl
 | x :: l => by rw [List.flatMap_cons, List.length_append, sets_len6 l, setL_len, List.length_cons]; omega
theorem body_put {F G : Fr} (hw : FrWf F) (hm : MayOk F) (hr : bodyR ⟨F.ty, F.fl, F.st, [], F.pad, 0, 0, 0, false, 0, []⟩ (coreL F) = .ok G) : G = F := by
 obtain ⟨f1, f2, f3, f4, f5, f6⟩ := hm.fields
 have ho := hm.oth
 have hwn := hm.win
 have hv : ∀ n r, 0 ≤ n → n ≤ 4294967295 → valL ((be4 n ++ r).take 4) = n := fun n r h0 h1 => by
  rw [show (be4 n ++ r).take 4 = be4 n from rfl, val_be4 h0 h1]
 unfold bodyR at hr
 obtain ⟨ty, fl, st, data, pad, code, oth, wgt, al, win, sets⟩ := F
 dsimp only at f1 f2 f3 f4 f5 f6 ho hwn hr
 by_cases hl : leansB ty fl = true
 ·have ht := lean_ty (F := ⟨ty, fl, st, data, pad, code, oth, wgt, al, win, sets⟩) hl
  dsimp only at ht
  have ec : coreL ⟨ty, fl, st, data, pad, code, oth, wgt, al, win, sets⟩ = leanL ⟨ty, fl, st, data, pad, code, oth, wgt, al, win, sets⟩ ++ data := by
   unfold coreL
   rw [mid_lean hl, if_pos hl, List.nil_append]
  rw [ec] at hr
  have e1 : code = 0 := f3.resolve_left (by omega)
  have e2 : win = 0 := f4.resolve_left (by omega)
  have e3 : sets = [] := f5.resolve_left (by omega)
  have ho0 := hw.oth0
  dsimp only at ho0
  have ev : valL ((leanL ⟨ty, fl, st, data, pad, code, oth, wgt, al, win, sets⟩ ++ data).take 4) = if al = true then oth + 2147483648 else oth := by
   unfold leanL
   dsimp only
   rw [List.append_assoc]
   cases al
   ·rw [if_neg (by decide), if_neg (by decide)]
    exact hv _ _ ho0 (by omega)
   ·rw [if_pos rfl, if_pos rfl, or_top ho0 ho]
    exact hv _ _ (by omega) (by omega)
  have ed : (leanL ⟨ty, fl, st, data, pad, code, oth, wgt, al, win, sets⟩ ++ data).drop 5 = data := rfl
  have e4 : (leanL ⟨ty, fl, st, data, pad, code, oth, wgt, al, win, sets⟩ ++ data).getD 4 0 = wgt := rfl
  rw [if_pos hl] at hr
  unfold leanF at hr
  rw [ed, e4, ev] at hr
  have hx : ∃ x, (if al = true then oth + 2147483648 else oth) = x := ⟨_, rfl⟩
  have fin : (⟨ty, fl, st, data, pad, 0, (if al = true then oth + 2147483648 else oth) % 2147483648, wgt, decide (2147483648 ≤ (if al = true then oth + 2147483648 else oth)), 0, []⟩ : Fr) = ⟨ty, fl, st, data, pad, code, oth, wgt, al, win, sets⟩ := by
   subst e1 e2 e3
   cases al
   ·rw [if_neg (by decide), Int.emod_eq_of_lt ho0 (by omega), decide_eq_false (by omega)]
   ·rw [if_pos rfl, show (oth + 2147483648) % 2147483648 = oth by omega, decide_eq_true (by omega)]
  obtain ⟨x, hx⟩ := hx
  rw [hx] at hr fin
  repeat' (first | (split at hr) | cases hr)
  all_goals first | exact fin | omega
 ·have hl' : leansB ty fl = false := by simpa using hl
  have ha : wgt = 0 ∧ al = false := f1.resolve_left hl
  obtain ⟨rfl, rfl⟩ := ha
  have ec : coreL ⟨ty, fl, st, data, pad, code, oth, 0, false, win, sets⟩ = midL ⟨ty, fl, st, data, pad, code, oth, 0, false, win, sets⟩ ++ data := by
   unfold coreL
   rw [if_neg hl, List.append_nil]
  rw [ec] at hr
  have h2 : ¬ ty = 2 := fun h => hl (by unfold leansB; rw [if_pos h])
  have f2' : ty = 5 ∨ ty = 7 ∨ oth = 0 := by
   rcases f2 with (h | h | h) | h
   ·exact absurd h hl
   ·exact .inl h
   ·exact .inr (.inl h)
   ·exact .inr (.inr h)
  by_cases t3 : ty = 3
  ·have e1 : data = [] := f6.resolve_left (by omega)
   have e2 : oth = 0 := by omega
   have e3 : win = 0 := f4.resolve_left (by omega)
   have e4 : sets = [] := f5.resolve_left (by omega)
   subst t3 e1 e2 e3 e4
   have hv3 := val_be4 (n := code) hw.code0 hw.code1
   rw [show midL ⟨3, fl, st, [], pad, code, 0, 0, false, 0, []⟩ = be4 code from rfl, List.append_nil, hv3] at hr
   repeat' (first | (split at hr) | cases hr)
   all_goals first | rfl | omega
  by_cases t4 : ty = 4
  ·have e1 : data = [] := f6.resolve_left (by omega)
   have e2 : oth = 0 := by omega
   have e3 : win = 0 := f4.resolve_left (by omega)
   have e4 : code = 0 := f3.resolve_left (by omega)
   subst t4 e1 e2 e3 e4
   have hp := parseS_put sets [] hw.sets
   rw [List.append_nil] at hp
   have hl6 := sets_len6 sets
   unfold setsR at hr
   rw [show midL ⟨4, fl, st, [], pad, 0, 0, 0, false, 0, sets⟩ = sets.flatMap setL from rfl, List.append_nil, show (sets.flatMap setL).length / 6 = sets.length by omega, hp] at hr
   repeat' (first | (split at hr) | cases hr)
   all_goals first | rfl | omega
  by_cases t7 : ty = 7
  ·have e3 : win = 0 := f4.resolve_left (by omega)
   have e4 : sets = [] := f5.resolve_left (by omega)
   subst t7 e3 e4
   have hv1 := hv oth (be4 code ++ data) hw.oth0 (by omega)
   have hv2 : valL (((be4 oth ++ be4 code ++ data).drop 4).take 4) = code := hv code data hw.code0 hw.code1
   have hd : (be4 oth ++ be4 code ++ data).drop 8 = data := rfl
   have ho0 := hw.oth0
   dsimp only at ho0
   rw [show midL ⟨7, fl, st, data, pad, code, oth, 0, false, 0, []⟩ = be4 oth ++ be4 code from rfl, hd, hv2, List.append_assoc, hv1, Int.emod_eq_of_lt ho0 (by omega)] at hr
   repeat' (first | (split at hr) | cases hr)
   all_goals first | rfl | omega
  by_cases t5 : ty = 5
  ·have e3 : win = 0 := f4.resolve_left (by omega)
   have e4 : sets = [] := f5.resolve_left (by omega)
   have e2 : code = 0 := f3.resolve_left (by omega)
   subst t5 e3 e4 e2
   have hv1 := hv oth data hw.oth0 (by omega)
   have hd : (be4 oth ++ data).drop 4 = data := rfl
   have ho0 := hw.oth0
   dsimp only at ho0
   rw [show midL ⟨5, fl, st, data, pad, 0, oth, 0, false, 0, []⟩ = be4 oth from rfl, hd, hv1, Int.emod_eq_of_lt ho0 (by omega)] at hr
   repeat' (first | (split at hr) | cases hr)
   all_goals first | rfl | omega
  by_cases t8 : ty = 8
  ·have e1 : data = [] := f6.resolve_left (by omega)
   have e2 : oth = 0 := by omega
   have e4 : sets = [] := f5.resolve_left (by omega)
   have e5 : code = 0 := f3.resolve_left (by omega)
   subst t8 e1 e2 e4 e5
   have hv3 := val_be4 (n := win) hw.win0 hw.win1
   have hw0 := hw.win0
   dsimp only at hw0
   rw [show midL ⟨8, fl, st, [], pad, 0, 0, 0, false, win, []⟩ = be4 win from rfl, List.append_nil, hv3, Int.emod_eq_of_lt hw0 (by omega)] at hr
   repeat' (first | (split at hr) | cases hr)
   all_goals first | rfl | omega
  ·have e2 : oth = 0 := by omega
   have e3 : win = 0 := f4.resolve_left t8
   have e4 : sets = [] := f5.resolve_left t4
   have e5 : code = 0 := f3.resolve_left (by omega)
   subst e2 e3 e4 e5
   have em : midL ⟨ty, fl, st, data, pad, 0, 0, 0, false, 0, []⟩ = [] := by
    unfold midL
    exact (if_neg t3).trans ((if_neg t4).trans ((if_neg t7).trans ((if_neg t5).trans (if_neg t8))))
   rw [em, List.nil_append, if_neg hl] at hr
   repeat' (first | (split at hr) | cases hr)
   all_goals first | rfl | omega | contradiction
end Go.Proofs.YtjjfkmniffbgkaaDoor

/- A frame that came in, opened: its data, its settings. -/
namespace Go.Proofs.YtjjfkmniffbgkaaDoor
set_option linter.unusedVariables false
set_option linter.unusedSimpArgs false
open Go.RowKit Go.ChangeShapes Go.WideShapes Go.Deep Go.Joins Go.Proofs.YtjjfkmniffbgkaaDoorW.PrintWords Go.Proofs.YtjjfkmniffbgkaaDoorW.PrintLast Go.Proofs.YtjjfkmniffbgkaaDoorW.PrintMore Go.Proofs.YtjjfkmniffbgkaaDoor.QFrmA
theorem Kd_of_reads {w : World} {A : Option Addr} {n : Nat} {xs : List Int} (h : ReadsInt w .u8 A n xs) : (Kd.int .u8).C w A n xs := Kd.C_of_reads (d := (0 : Int)) (h1 := fun _ => rfl) h
theorem list11 {α : Type} {l : List α} (h : l.length = 11) : ∃ c0 c1 c2 c3 c4 c5 c6 c7 c8 c9 c10, l = [c0, c1, c2, c3, c4, c5, c6, c7, c8, c9, c10] := by
 match l, h with
 | [c0, c1, c2, c3, c4, c5, c6, c7, c8, c9, c10], _ => exact ⟨c0, c1, c2, c3, c4, c5, c6, c7, c8, c9, c10, rfl⟩
set_option maxRecDepth 100000 in
theorem open_bytes_cell {H : Type} {enc : TypeId × Value → H} {W : World} {fuel : Nat} {A : Option Addr} {n cap : Nat} {x : DataW H × List MemPlace} (hf : DataW.trod enc Tryd.prog W 0 (fun _ => true) true fuel 35 [.slice A n cap] = some x) :
  ∃ l : List Int, l.length = n ∧ ReadsInt W .u8 A l.length l ∧ l.length ≤ cap ∧ ∀ x ∈ l, 0 ≤ x ∧ x ≤ 255 := by
 have e1 : Tryd.prog.cellsOf 5 = 1 := by kernel_rfl
 have wf8 : ∀ {n : Int}, (Lit.int .u8 n).wf = true → 0 ≤ n ∧ n ≤ 255 := fun h => by simp [Lit.wf, IntKind.min, IntKind.max, IntKind.signed, IntKind.bits] at h; omega
 rcases open_ints Tryd.underlying35 Tryd.underlying5 e1 hf with ⟨hc, _⟩ | ⟨a, len, cap', zs, hc, _, g1, g2, g3, _, g4, g5⟩
 ·simp at hc
  obtain ⟨rfl, rfl, rfl⟩ := hc
  obtain ⟨l, hl1, hr, hm, hw, hcc⟩ := ReadsInt.ofRowC (w := W) (k := .u8) (a := none) (len := 0) (cap := 0) (zs := []) (.inl ⟨rfl, rfl, rfl, rfl⟩)
  exact ⟨l, hl1.symm, hr, hcc, fun x hx => wf8 (hw x hx)⟩
 ·simp at hc
  obtain ⟨rfl, rfl, rfl⟩ := hc
  obtain ⟨l, hl1, hr, hm, hw, hcc⟩ := ReadsInt.ofRowC (.inr ⟨a, rfl, g1, g2, by simpa using g3, g4, g5⟩)
  exact ⟨l, hl1.symm, hr, hcc, fun x hx => wf8 (hw x hx)⟩
set_option maxRecDepth 100000 in
theorem open_sets_cell {H : Type} {enc : TypeId × Value → H} {W : World} {fuel : Nat} {A : Option Addr} {n cap : Nat} {x : DataW H × List MemPlace} (hf : DataW.trod enc Tryd.prog W 0 (fun _ => true) true fuel 36 [.slice A n cap] = some x) :
  ∃ l : List S99, l.length = n ∧ Kd.C k99 W A l.length l ∧ l.length ≤ cap ∧ ∀ s ∈ l, 0 ≤ s.f0 ∧ s.f0 ≤ 65535 ∧ 0 ≤ s.f1 ∧ s.f1 ≤ 4294967295 := by
 have hC : Tryd.prog.cellsOf 99 = 2 := by kernel_rfl
 rcases open_slice Tryd.underlying36 hf with ⟨hcs, _⟩ | ⟨a, len, cap', m, k, D, Pl, hcs, hb, hl, hm, hmm, hx, hi⟩
 ·simp at hcs
  obtain ⟨rfl, rfl, rfl⟩ := hcs
  exact ⟨[], rfl, ⟨rfl, by decide, fun h => absurd h (Nat.lt_irrefl 0)⟩, Nat.le_refl _, fun f hf => by cases hf⟩
 ·simp at hcs
  obtain ⟨rfl, rfl, rfl⟩ := hcs
  unfold maxLen at hm
  have hat : ∀ i, i < n → ∃ s c : Int, W.cell? (a.add (i * 2)) = some (.int .u16 s) ∧ W.cell? (a.add (i * 2 + 1)) = some (.int .u32 c) ∧ 0 ≤ s ∧ s ≤ 65535 ∧ 0 ≤ c ∧ c ≤ 4294967295 := by
   intro i hin
   obtain ⟨cs', hc, ht⟩ := hi i (by simp at hmm; omega)
   rw [hC] at hc
   obtain ⟨_, hcl, hat⟩ := World.cells?_some hc
   obtain ⟨y0, y1, q, hy, hlen, h0, h1⟩ := trod_struct2 Tryd.underlying99 ht
   match cs', hcl with
   | [c0, c1], _ =>
    have e1 : Tryd.prog.cellsOf 52 = 1 := by kernel_rfl
    have e2 : Tryd.prog.cellsOf 22 = 1 := by kernel_rfl
    simp [e1, e2] at h0 h1
    obtain ⟨s, hs, _, hwf⟩ := DataW.trod_int Tryd.underlying52 h0
    obtain ⟨c, hc', _, hwf2⟩ := DataW.trod_int Tryd.underlying22 h1
    have z0 := hat 0 (by decide)
    have z1 := hat 1 (by decide)
    simp at hs hc' z0 z1
    subst hs hc'
    refine ⟨s, c, ?_, ?_, ?_⟩
    ·simpa [Addr.add] using z0
    ·rw [← Deep.add_add]; exact z1
    ·simp [Lit.wf, IntKind.min, IntKind.max, IntKind.signed, IntKind.bits] at hwf hwf2; omega
  have hex : ∃ l : List S99, l.length = n ∧ ∀ i (h : i < l.length), W.cell? (a.add (i * 2)) = some (.int .u16 (l[i]).f0) ∧ W.cell? (a.add (i * 2 + 1)) = some (.int .u32 (l[i]).f1) ∧ 0 ≤ (l[i]).f0 ∧ (l[i]).f0 ≤ 65535 ∧ 0 ≤ (l[i]).f1 ∧ (l[i]).f1 ≤ 4294967295 := by
   clear hf hi hl hm hmm hx hb
   induction n with
   | zero => exact ⟨[], rfl, fun i h => absurd h (Nat.not_lt_zero i)⟩
   | succ n ih =>
    obtain ⟨l, hl, hc⟩ := ih (fun i h => hat i (by omega))
    obtain ⟨s, c, h1, h2, h3⟩ := hat n (by omega)
    refine ⟨l ++ [⟨s, c⟩], by simp [hl], fun i h => ?_⟩
    by_cases hlt : i < l.length
    ·rw [List.getElem_append_left hlt]
     exact hc i hlt
    ·have e : i = n := by simp at h; omega
     subst e
     rw [List.getElem_append_right (by omega)]
     simp [hl, h1, h2, h3]
  obtain ⟨l, hll, hc⟩ := hex
  refine ⟨l, hll, ⟨rfl, by omega, fun _ => ⟨a, rfl, fun j f hj => ?_⟩⟩, by omega, fun f hf => ?_⟩
  ·obtain ⟨hjl, rfl⟩ := List.getElem?_eq_some_iff.1 hj
   obtain ⟨q0, q1, -⟩ := hc j hjl
   refine ⟨_, rfl, k99_mk W _, fun i u hu => ?_⟩
   have hi2 : i < 2 := (List.getElem?_eq_some_iff.1 hu).1
   have hsz : (k99).sz = 2 := rfl
   rw [hsz]
   match i, hi2, hu with
   | 0, _, hu => simp at hu; rw [← hu]; exact q0
   | 1, _, hu => simp at hu; rw [← hu]; exact q1
  ·obtain ⟨j, hj, rfl⟩ := List.getElem_of_mem hf
   exact (hc j hj).2.2
set_option maxRecDepth 100000 in
theorem open_fr_cells {H : Type} {enc : TypeId × Value → H} {W : World} {fuel : Nat} {cs : List Value} {x : DataW H × List MemPlace}
  (hf : DataW.trod enc Tryd.prog W 0 (fun _ => true) true fuel 38 cs = some x) : ∃ (F : Fr) (A B : Option Addr) (c m : Nat), cs = (frC F (.slice A F.data.length c) (.slice B F.sets.length m)).toList ∧
   ReadsInt W .u8 A F.data.length F.data ∧ F.data.length ≤ c ∧ Kd.C k99 W B F.sets.length F.sets ∧ F.sets.length ≤ m ∧ FrWf F := by
 obtain ⟨xs, mm, _, rfl, hl, hlen, hf⟩ := DataW.trod_struct Tryd.underlying38 hf
 have hC : Tryd.prog.cellsOf 38 = 11 := by kernel_rfl
 rw [hC] at hl
 have e1 : Tryd.prog.cellsOf 5 = 1 := by kernel_rfl
 have e2 : Tryd.prog.cellsOf 22 = 1 := by kernel_rfl
 have e3 : Tryd.prog.cellsOf 35 = 1 := by kernel_rfl
 have e4 : Tryd.prog.cellsOf 3 = 1 := by kernel_rfl
 have e5 : Tryd.prog.cellsOf 4 = 1 := by kernel_rfl
 have e6 : Tryd.prog.cellsOf 36 = 1 := by kernel_rfl
 obtain ⟨c0, c1, c2, c3, c4, c5, c6, c7, c8, c9, c10, rfl⟩ := list11 hl
 obtain ⟨y0, y1, y2, y3, y4, y5, y6, y7, y8, y9, y10, rfl⟩ := list11 (show xs.length = 11 from hlen)
 have h0 := hf 0 _ rfl
 have h1 := hf 1 _ rfl
 have h2 := hf 2 _ rfl
 have h3 := hf 3 _ rfl
 have h4 := hf 4 _ rfl
 have h5 := hf 5 _ rfl
 have h6 := hf 6 _ rfl
 have h7 := hf 7 _ rfl
 have h8 := hf 8 _ rfl
 have h9 := hf 9 _ rfl
 have h10 := hf 10 _ rfl
 clear hf hl
 simp [e1, e2, e3, e4, e5, e6] at h0 h1 h2 h3 h4 h5 h6 h7 h8 h9 h10
 obtain ⟨n0, k0, _, w0⟩ := DataW.trod_int Tryd.underlying5 h0
 obtain ⟨n1, k1, _, w1⟩ := DataW.trod_int Tryd.underlying5 h1
 obtain ⟨n2, k2, _, w2⟩ := DataW.trod_int Tryd.underlying22 h2
 obtain ⟨A, n3, cp, k3⟩ := slice_form Tryd.underlying35 h3
 obtain ⟨n4, k4, _, w4⟩ := DataW.trod_int Tryd.underlying3 h4
 obtain ⟨n5, k5, _, w5⟩ := DataW.trod_int Tryd.underlying22 h5
 obtain ⟨n6, k6, _, w6⟩ := DataW.trod_int Tryd.underlying22 h6
 obtain ⟨n7, k7, _, w7⟩ := DataW.trod_int Tryd.underlying5 h7
 obtain ⟨n8, k8, _⟩ := DataW.trod_bool Tryd.underlying4 h8
 obtain ⟨n9, k9, _, w9⟩ := DataW.trod_int Tryd.underlying22 h9
 obtain ⟨B, n10, cp10, k10⟩ := slice_form Tryd.underlying36 h10
 simp at k0 k1 k2 k3 k4 k5 k6 k7 k8 k9 k10
 subst k0 k1 k2 k3 k4 k5 k6 k7 k8 k9 k10
 obtain ⟨data, rfl, r1, r2, r3⟩ := open_bytes_cell h3
 obtain ⟨sets, rfl, s1, s2, s3⟩ := open_sets_cell h10
 have g8 : ∀ {n : Int}, (Lit.int .u8 n).wf = true → 0 ≤ n ∧ n ≤ 255 := fun h => by simp [Lit.wf, IntKind.min, IntKind.max, IntKind.signed, IntKind.bits] at h; omega
 have g32 : ∀ {n : Int}, (Lit.int .u32 n).wf = true → 0 ≤ n ∧ n ≤ 4294967295 := fun h => by simp [Lit.wf, IntKind.min, IntKind.max, IntKind.signed, IntKind.bits] at h; omega
 refine ⟨⟨n0, n1, n2, data, n4, n5, n6, n7, n8, n9, sets⟩, A, B, cp, cp10, rfl, r1, r2, s1, s2, ⟨(g8 w0).1, (g8 w0).2, (g8 w1).1, (g8 w1).2, (g32 w2).1, (g32 w2).2, r3, (g32 w5).1, (g32 w5).2, (g32 w6).1, (g32 w6).2, (g8 w7).1, (g8 w7).2, (g32 w9).1, (g32 w9).2, s3⟩⟩
end Go.Proofs.YtjjfkmniffbgkaaDoor

/- What a walk holds: loads under a guard. No program. -/
namespace Go.Proofs.YtjjfkmniffbgkaaDoor
set_option linter.unusedVariables false
set_option linter.unusedSimpArgs false
open Go.RowKit Go.Proofs.YtjjfkmniffbgkaaDoorW.PrintWords
section
variable {P : Program} {ops : Array Oper} {rest : List Oper} {o : Oper} {a : Act} {Q : Exit → Act → World → Prop} {w W : World} {t : List Nat} {l : List Own}
theorem is_alloc {ty : TypeId} (_ho : o.op = .alloc ty) (h : wpList P ops Q (o :: rest) a W) : wpList P ops Q (o :: rest) a W := h
theorem is_box {ty : TypeId} {x : Operand} (_ho : o.op = .box ty x) (h : wpList P ops Q (o :: rest) a W) : wpList P ops Q (o :: rest) a W := h
theorem is_load {ty : TypeId} {x : Operand} (_ho : o.op = .load ty x) (h : wpList P ops Q (o :: rest) a W) : wpList P ops Q (o :: rest) a W := h
theorem is_store {ty : TypeId} {p x : Operand} (_ho : o.op = .store ty p x) (h : wpList P ops Q (o :: rest) a W) : wpList P ops Q (o :: rest) a W := h
theorem loadf_g (H : Hold w W t l) {ty : TypeId} {x : Operand} (ho : o.op = .load ty x) {g k : Nat} {cs : List Value} {bt : TypeId} {v : Value} (hx : a.eval x = .pointer (some ⟨g, k, none⟩)) (hm : cl g cs bt ∈ l)
  (hv : cs[k]? = some v) (hd : (P.underlying ty).map (·.isRow) = some false) (hw : Region.wanted o (yielded ops a.tmps) = true) (h : wpList P ops Q rest (a.put o.dst v) W) : wpList P ops Q (o :: rest) a W :=
 gate_guard hw (loadf_h H rfl ho hx hm hv hd h)
theorem load_g (H : Hold w W t l) {ty : TypeId} {x : Operand} (ho : o.op = .load ty x) {g : Nat} {cs : List Value} {bt : TypeId} (hx : a.eval x = .pointer (some ⟨g, 0, none⟩)) (hm : cl g cs bt ∈ l)
  (hd : (P.underlying ty).map (·.isRow) = some true) (hi : (P.info? ty).map (·.size) = some cs.length) (hw : Region.wanted o (yielded ops a.tmps) = true) (h : wpList P ops Q rest (a.put o.dst (.agg cs.toArray)) W) : wpList P ops Q (o :: rest) a W :=
 gate_guard hw (load_h H rfl ho hx hm hd hi h)
end

structure Wiped (W W1 : World) (row : Option Nat) : Prop where
 os : W1.os = W.os
 tape : W1.tape = W.tape
 output : W1.output = W.output
 size : W1.heap.size = W.heap.size
 block : ∀ i, i < W.heap.size → some i ≠ row → W1.heap[i]? = W.heap[i]?
theorem Wiped.blk {W W1 : World} {row : Option Nat} (h : Wiped W W1 row) {g : Nat} {o : Obj} (hg : W.heap[g]? = some o) (hne : some g ≠ row) : W1.heap[g]? = some o := (h.block g (blk_lt hg) hne).trans hg
theorem Wiped.grown {W W1 : World} {row : Option Nat} (h : Wiped W W1 row) : W.grownBy W1 row := ⟨h.os, h.tape, h.output, by have := h.size; omega, h.block⟩
theorem Wiped.own {W W1 : World} {row : Option Nat} (h : Wiped W W1 row) {base n size : Nat} {e : TypeId} {v : Value} {xs : List Value} (ho : W.ownsRow base e size v n xs) (hne : v.ownBlock = none ∨ v.ownBlock ≠ row) : W1.ownsRow base e size v n xs := ho.kept h.grown hne

theorem eqFault (d : Nat) (w : World) (x0 y0 : Int) (x1 y1 : Int) :
  (Op.equalIn (d + 2) 24 (.agg #[.int .u8 x0, .int .u32 x1]) (.agg #[.int .u8 y0, .int .u32 y1])).run Tryd.prog w = .ok (x0 == y0 && (x1 == y1)) w := by
 refine eqA_of Tryd.underlying24 (by kernel_rfl) ?_
 refine eqf_cons (by rfl) (by go_simp; rfl) (by go_simp; rfl) (by go_simp) ?_
 exact eqf_last (by rfl) (by go_simp; rfl) (by go_simp; rfl) (by go_simp)
end Go.Proofs.YtjjfkmniffbgkaaDoor

/- FrameGets, walked. (This text is printed by wip/gen/fgets.py.) -/
namespace Go.Proofs.YtjjfkmniffbgkaaDoor
set_option linter.unusedVariables false
set_option linter.unusedSimpArgs false
open Go.RowKit Go.Proofs.YtjjfkmniffbgkaaDoorW.PrintWords Go.Proofs.YtjjfkmniffbgkaaDoorW.PrintLast Go.Proofs.YtjjfkmniffbgkaaDoorW.PrintMore Go.Proofs.YtjjfkmniffbgkaaDoor.QFrmA Go.Proofs.YtjjfkmniffbgkaaDoor.Given Go.Extern.Stop Go.Stop Go.Extern Go.Maps
attribute [local go_sem high] eqFault
theorem rget_calls (w : World) (l : List Int) (hby : Byte8 l) (hl : l.length ≤ 20000000) : Calls Tryd.prog 26 #[.string (strOfNums l)] w (RGetPost w (getFr l)) := by
 by_cases h9 : l.length < 9
 ·exact rget_short w l h9
 ·by_cases hn : headN l = (l.length : Int)
  ·exact rget_main w l hby (by omega) hl hn
  ·exact rget_length w l hby (by omega) hl hn
theorem get_came (w : World) (hgv : GV w) (A : Option Addr) (c : Nat) (l : List Int) (hR : ReadsInt w .u8 A l.length l) (hc : l.length ≤ c) (hby : Byte8 l) (hl : l.length ≤ 20000000) :
  Calls Tryd.prog 27 #[.slice A l.length c] w fun e w' => (∃ v, e = .returned (.tuple #[.agg v, .agg #[.int .u8 (getFr l).2.1, .int .u32 (getFr l).2.2]]) ∧ FrCame w (getFr l).1 v w') ∧ Below w.heap.size w w' := by
 refine (get_calls w hgv A c l hR hc hby hl).mono ?_
 rintro e w' ⟨D, S, he, hD, hS, hb⟩
 obtain ⟨A1, c1, rfl, h1, h2⟩ := Kd.R_reads hD
 obtain ⟨A2, c2, rfl, h3, h4⟩ := Kd.R_reads hS
 refine ⟨⟨_, he, A1, c1, A2, c2, rfl, ⟨Kd_reads h2, h1, fun a ha => ?_⟩, h4, h3, fun a ha => ?_⟩, hb⟩
 ·subst ha; exact Kd.R_base hD a.block (by simp [Value.ownBlock])
 ·subst ha; exact Kd.R_base hS a.block (by simp [Value.ownBlock])
theorem Wiped.only {g : Nat} {W w1 : World} (h : Wiped W w1 (some g)) : Only g W w1 := ⟨h.os, h.tape, h.output, h.size, fun k hk => by
 by_cases hlt : k < W.heap.size
 ·exact h.block k hlt (fun e => hk (by injection e))
 ·rw [Array.getElem?_eq_none (by have := h.size; omega), Array.getElem?_eq_none (by omega)]⟩
theorem RGetPost.of {w w' : World} {r : Fr × Int × Int} {e : Ending} (h : RGetPost w r e w') : (∃ Aq cq Bq mq, e = .returned (.agg (fC r.1 (.slice Aq r.1.data.length cq) (.slice Bq r.1.sets.length mq) r.2.1 r.2.2)) ∧
  FrCame w r.1 (frC r.1 (.slice Aq r.1.data.length cq) (.slice Bq r.1.sets.length mq)) w') ∧ Below w.heap.size w w' := by
 obtain ⟨⟨v, he, hc⟩, hb⟩ := h
 obtain ⟨A, c, B, m, e1, h1, h2⟩ := hc
 refine ⟨⟨A, c, B, m, ?_, A, c, B, m, rfl, h1, h2⟩, hb⟩
 rw [he, e1]
 rfl
theorem FrCame.rows {w w' : World} {F : Fr} {A B : Option Addr} {n m c d : Nat} (h : FrCame w F (frC F (.slice A n c) (.slice B m d)) w') : ReadsInt w' .u8 A F.data.length F.data ∧ F.data.length ≤ c ∧ k99.C w' B F.sets.length F.sets := by
 obtain ⟨A', c', B', m', e, ⟨h1, h2, _⟩, h3, _⟩ := h
 simp only [frC, Array.mk.injEq, List.cons.injEq, Value.slice.injEq, and_true, true_and] at e
 obtain ⟨⟨rfl, -, rfl⟩, rfl, -, -⟩ := e
 exact ⟨h1, h2, h3⟩
theorem parseS_size : ∀ (n : Nat) (l : List Int), (parseS n l).length = n
 | 0, _ => rfl
 | n + 1, l => by simp [parseS, parseS_size n]
theorem body_sets {F F2 : Fr} {b : List Int} (h0 : F.sets = []) (hr : bodyR F b = .ok F2) : F2.sets.length ≤ b.length := by
 unfold bodyR setsR at hr
 repeat' (first | (split at hr) | (injection hr with hr; subst hr; first | (simp [h0]; done) | (show (parseS _ _).length ≤ _; rw [parseS_size]; omega) | (simp [leanF, h0]; done)) | cases hr)
theorem getFr_sets (l : List Int) : (getFr l).1.sets.length ≤ l.length := by
 unfold getFr
 repeat' split
 all_goals (try (simp; done))
 rename_i F hr
 unfold readR unpadR at hr
 split at hr
 ·cases hr
 ·rename_i p n q hu
  have := body_sets rfl hr
  have h2 : (((l.drop 9).drop p).take n).length ≤ l.length := by rw [List.length_take, List.length_drop, List.length_drop]; omega
  exact Nat.le_trans this h2
end Go.Proofs.YtjjfkmniffbgkaaDoor

/- The law of split, in plain lists: how bytes are cut into frames. No program. -/
namespace Go.Proofs.YtjjfkmniffbgkaaDoor
set_option linter.unusedVariables false
set_option linter.unusedSimpArgs false
open Go.RowKit
abbrev Rs := Fr × Int × Int
def pre24 : List Int := [80, 82, 73, 32, 42, 32, 72, 84, 84, 80, 47, 50, 46, 48, 13, 10, 13, 10, 83, 77, 13, 10, 13, 10]
structure Sp where
 b : List Int
 waits : Bool
 bad : Bool
def nextB (b : List Int) : Option (Rs × List Int × Bool) :=
 if b.length < 9 then none
 else if headN b ≤ 16393 ∧ (b.length : Int) < headN b then none
 else if 16393 < headN b then some ((hdF b, 1, 6), [], true)
 else if (getFr (b.take (headN b).toNat)).2.1 = 1 then some (getFr (b.take (headN b).toNat), [], true)
 else some (getFr (b.take (headN b).toNat), b.drop (headN b).toNat, false)
def nextN (b : List Int) : Option Rs × Sp :=
 match nextB b with
 | none => (none, ⟨b, false, false⟩)
 | some (x, b', y) => (some x, ⟨b', false, y⟩)
def preOk (b : List Int) : Bool := b.take (min 24 b.length) == pre24.take (min 24 b.length)
def nextS (s : Sp) : Option Rs × Sp :=
 if s.bad = true then (if s.waits = true then (some (noneF, 1, 1), ⟨s.b, false, true⟩) else (none, s))
 else if s.waits = true then (if preOk s.b = false then (some (noneF, 1, 1), ⟨[], false, true⟩) else if s.b.length < 24 then (none, s) else nextN (s.b.drop 24))
 else nextN s.b
def allB : Nat → List Int → List Rs × Nat × Bool
 | 0, b => ([], b.length, false)
 | k + 1, b => match nextB b with
  | none => ([], b.length, false)
  | some (x, b', y) => if y = true then ([x], 0, true) else (x :: (allB k b').1, (allB k b').2)
def allP (p : Bool) (b : List Int) : List Rs × Nat × Bool :=
 if p = true then (if preOk b = false then ([(noneF, 1, 1)], 0, true) else if b.length < 24 then ([], b.length, false) else allB (b.drop 24).length (b.drop 24))
 else allB b.length b
theorem headN_app {b : List Int} (r : List Int) (h : 9 ≤ b.length) : headN (b ++ r) = headN b := by
 unfold headN
 rw [if_neg (by simp; omega), if_neg (by omega), List.take_append_of_le_length (by omega)]
theorem headN_ge {b : List Int} (h : 9 ≤ b.length) (hb : Byte8 b) : 9 ≤ headN b := by
 unfold headN
 rw [if_neg (by omega)]
 have := (valL_bound (fun x hx => hb x (List.mem_of_mem_take hx) : Byte8 (b.take 3))).1
 omega
theorem headN_le {b : List Int} (hb : Byte8 b) : headN b ≤ 16777224 := by
 unfold headN
 split
 ·omega
 ·have h := (valL_bound (fun x hx => hb x (List.mem_of_mem_take hx) : Byte8 (b.take 3))).2
  have h3 : (256 : Int) ^ (b.take 3).length ≤ 256 ^ 3 := by
   have : (256 : Nat) ^ (b.take 3).length ≤ 256 ^ 3 := Nat.pow_le_pow_right (by decide) (by rw [List.length_take]; omega)
   have h := Int.ofNat_le.2 this
   rw [Int.natCast_pow, Int.natCast_pow] at h
   exact h
  have h16 : (256 : Int) ^ 3 = 16777216 := rfl
  omega
theorem hdF_app {b : List Int} (r : List Int) (h : 9 ≤ b.length) : hdF (b ++ r) = hdF b := by
 unfold hdF
 rw [List.take_append_of_le_length (by omega)]
 have g : ∀ i, i < 9 → (b ++ r).getD i 0 = b.getD i 0 := fun i hi => by
  rw [List.getD_eq_getElem?_getD, List.getD_eq_getElem?_getD, List.getElem?_append_left (by omega)]
 rw [g 3 (by decide), g 4 (by decide)]
theorem nextB_app {b : List Int} (r : List Int) (hb : Byte8 b) {x : Rs} {b' : List Int} {y : Bool} (h : nextB b = some (x, b', y)) : nextB (b ++ r) = some (x, if y = true then [] else b' ++ r, y) := by
 unfold nextB at h ⊢
 by_cases h9 : b.length < 9
 ·rw [if_pos h9] at h
  cases h
 ·rw [if_neg h9] at h
  have h9' : ¬ (b ++ r).length < 9 := by simp; omega
  rw [if_neg h9', headN_app r (by omega)]
  by_cases hs : headN b ≤ 16393 ∧ (b.length : Int) < headN b
  ·rw [if_pos hs] at h
   cases h
  ·rw [if_neg hs] at h
   have hs' : ¬ (headN b ≤ 16393 ∧ ((b ++ r).length : Int) < headN b) := by rw [List.length_append]; omega
   rw [if_neg hs']
   by_cases hg : 16393 < headN b
   ·rw [if_pos hg] at h ⊢
    obtain ⟨rfl, rfl, rfl⟩ : _ ∧ _ ∧ _ := by simpa using h
    rw [hdF_app r (by omega)]
    rfl
   ·have hn : (headN b).toNat ≤ b.length := by have := headN_ge (by omega) hb; omega
    rw [if_neg hg] at h ⊢
    rw [List.take_append_of_le_length hn, List.drop_append_of_le_length hn]
    by_cases hc : (getFr (b.take (headN b).toNat)).2.1 = 1
    ·rw [if_pos hc] at h ⊢
     obtain ⟨rfl, rfl, rfl⟩ : _ ∧ _ ∧ _ := by simpa using h
     rfl
    ·rw [if_neg hc] at h ⊢
     obtain ⟨rfl, rfl, rfl⟩ : _ ∧ _ ∧ _ := by simpa using h
     rfl
theorem nextB_less {b : List Int} (hb : Byte8 b) {x : Rs} {b' : List Int} {y : Bool} (h : nextB b = some (x, b', y)) : b'.length < b.length ∧ Byte8 b' ∧ (y = true → b' = []) := by
 unfold nextB at h
 by_cases h9 : b.length < 9
 ·rw [if_pos h9] at h
  cases h
 ·rw [if_neg h9] at h
  have hge := headN_ge (by omega) hb
  by_cases hs : headN b ≤ 16393 ∧ (b.length : Int) < headN b
  ·rw [if_pos hs] at h
   cases h
  ·rw [if_neg hs] at h
   split at h
   ·obtain ⟨rfl, rfl, rfl⟩ : _ ∧ _ ∧ _ := by simpa using h
    exact ⟨by simp; omega, fun x hx => (by cases hx), fun _ => rfl⟩
   ·split at h
    ·obtain ⟨rfl, rfl, rfl⟩ : _ ∧ _ ∧ _ := by simpa using h
     exact ⟨by simp; omega, fun x hx => (by cases hx), fun _ => rfl⟩
    ·obtain ⟨rfl, rfl, rfl⟩ : _ ∧ _ ∧ _ := by simpa using h
     exact ⟨by rw [List.length_drop]; omega, fun x hx => hb x (List.mem_of_mem_drop hx), fun h => by cases h⟩
theorem nextB_full {b : List Int} (h : nextB b = none) : b.length < 16393 := by
 unfold nextB at h
 by_cases h9 : b.length < 9
 ·omega
 ·rw [if_neg h9] at h
  by_cases hs : headN b ≤ 16393 ∧ (b.length : Int) < headN b
  ·omega
  ·rw [if_neg hs] at h
   split at h
   ·cases h
   ·split at h <;> cases h
theorem allB_fuel : ∀ (k : Nat) (b : List Int), Byte8 b → b.length ≤ k → allB (k + 1) b = allB k b
 | 0, b, _, h => by
  have : b = [] := List.eq_nil_of_length_eq_zero (by omega)
  subst this
  rfl
 | k + 1, b, hb, h => by
  rw [allB, allB]
  cases hx : nextB b with
  | none => rfl
  | some v =>
   obtain ⟨x, b', y⟩ := v
   have hl := nextB_less hb hx
   dsimp only
   rw [allB_fuel k b' hl.2.1 (by omega)]
theorem allB_more {b : List Int} (hb : Byte8 b) : ∀ (d k : Nat), b.length ≤ k → allB (k + d) b = allB k b
 | 0, k, _ => rfl
 | d + 1, k, h => (allB_fuel (k + d) b hb (by omega)).trans (allB_more hb d k h)
theorem allB_one {b r : List Int} (hb : Byte8 b) (hr : Byte8 r) {x : Rs} {b' : List Int} {y : Bool} (h : nextB b = some (x, b', y)) :
  allB (b ++ r).length (b ++ r) = if y = true then ([x], 0, true) else (x :: (allB (b' ++ r).length (b' ++ r)).1, (allB (b' ++ r).length (b' ++ r)).2) := by
 have hl := nextB_less hb h
 have happ := nextB_app r hb h
 obtain ⟨m, hm⟩ : ∃ m, (b ++ r).length = m + 1 := ⟨(b ++ r).length - 1, by simp; omega⟩
 rw [hm, allB, happ]
 dsimp only
 cases y with
 | true => rfl
 | false =>
  have hbr : Byte8 (b' ++ r) := fun x hx => (List.mem_append.1 hx).elim (hl.2.1 x) (hr x)
  have e := allB_more hbr (m - (b' ++ r).length) (b' ++ r).length (Nat.le_refl _)
  rw [show (b' ++ r).length + (m - (b' ++ r).length) = m by simp at hm ⊢; omega] at e
  simp only [Bool.false_eq_true, if_false]
  rw [e]
theorem allB_none {b : List Int} (h : nextB b = none) : allB b.length b = ([], b.length, false) := by
 cases hb : b.length with
 | zero => rw [allB, hb]
 | succ k => rw [allB, h, hb]
structure SInv (p : Bool) (full : List Int) (outs : List Rs) (s : Sp) (rest : List Int) : Prop where
 bb : Byte8 s.b
 br : Byte8 rest
 le : s.b.length ≤ 16393
 bad : s.bad = true → s.waits = false ∧ s.b = [] ∧ allP p full = (outs, 0, true)
 good : s.bad = false → allP p full = (outs ++ (allP s.waits (s.b ++ rest)).1, (allP s.waits (s.b ++ rest)).2)
theorem SInv.start (p : Bool) (full : List Int) (hb : Byte8 full) : SInv p full [] ⟨[], p, false⟩ full :=
 ⟨fun x hx => (by cases hx), hb, by simp, fun h => (by cases h), fun _ => rfl⟩
theorem SInv.feed {p : Bool} {full : List Int} {outs : List Rs} {s : Sp} {rest : List Int} (h : SInv p full outs s rest) (n : Nat) (hb : s.bad = false) (hn : s.b.length + n ≤ 16393) : SInv p full outs ⟨s.b ++ rest.take n, s.waits, false⟩ (rest.drop n) := by
 refine ⟨fun x hx => (List.mem_append.1 hx).elim (h.bb x) (fun hx => h.br x (List.mem_of_mem_take hx)), fun x hx => h.br x (List.mem_of_mem_drop hx), (by simp; omega), fun h => (by cases h), fun _ => ?_⟩
 dsimp only
 rw [List.append_assoc, List.take_append_drop]
 exact h.good hb
theorem preOk_app {b : List Int} (r : List Int) (h : preOk b = false) : preOk (b ++ r) = false := by
 cases hx : preOk (b ++ r) with
 | false => rfl
 | true =>
  exfalso
  have e : (b ++ r).take (min 24 (b ++ r).length) = pre24.take (min 24 (b ++ r).length) := by simpa [preOk] using hx
  have : preOk b = true := by
   have e2 := congrArg (List.take (min 24 b.length)) e
   rw [List.take_take, List.take_take, show min (min 24 b.length) (min 24 (b ++ r).length) = min 24 b.length by simp; omega, List.take_append_of_le_length (by omega)] at e2
   simp [preOk, e2]
  rw [this] at h
  cases h
theorem preOk_long {b : List Int} (r : List Int) (h : preOk b = true) (hl : 24 ≤ b.length) : preOk (b ++ r) = true := by
 have e : b.take (min 24 b.length) = pre24.take (min 24 b.length) := by simpa [preOk] using h
 have : (b ++ r).take (min 24 (b ++ r).length) = pre24.take (min 24 (b ++ r).length) := by
  rw [show min 24 (b ++ r).length = min 24 b.length by simp; omega, List.take_append_of_le_length (by omega), e]
 unfold preOk
 rw [this]
 simp
theorem SInv.next_plain {p : Bool} {full : List Int} {outs : List Rs} {b rest : List Int} (hb : Byte8 b) (hr : Byte8 rest) (hl : b.length ≤ 16393) (h : allP p full = (outs ++ (allP false (b ++ rest)).1, (allP false (b ++ rest)).2)) :
  (∀ x, (nextN b).1 = some x → SInv p full (outs ++ [x]) (nextN b).2 rest) ∧ ((nextN b).1 = none → SInv p full outs (nextN b).2 rest) := by
 unfold nextN
 cases hx : nextB b with
 | none => exact ⟨fun x h => (by cases h), fun _ => ⟨hb, hr, hl, fun h => (by cases h), fun _ => h⟩⟩
 | some v =>
  obtain ⟨x, b', y⟩ := v
  have hless := nextB_less hb hx
  have hone := allB_one hb hr hx
  refine ⟨fun x' h' => ?_, fun h => by cases h⟩
  obtain rfl : x = x' := by simpa using h'
  rw [show allP false (b ++ rest) = allB (b ++ rest).length (b ++ rest) from rfl, hone] at h
  cases y with
  | true =>
   simp only [if_true] at h
   exact ⟨hless.2.1, hr, by show b'.length ≤ _; omega, fun _ => ⟨rfl, hless.2.2 rfl, h⟩, fun h => by cases h⟩
  | false =>
   simp only [Bool.false_eq_true, if_false] at h
   refine ⟨hless.2.1, hr, by show b'.length ≤ _; omega, fun h => (by cases h), fun _ => ?_⟩
   show allP p full = (outs ++ [x] ++ (allB (b' ++ rest).length (b' ++ rest)).1, (allB (b' ++ rest).length (b' ++ rest)).2)
   rw [h]
   simp
theorem SInv.next {p : Bool} {full : List Int} {outs : List Rs} {s : Sp} {rest : List Int} (h : SInv p full outs s rest) :
  (∀ x, (nextS s).1 = some x → SInv p full (outs ++ [x]) (nextS s).2 rest) ∧ ((nextS s).1 = none → SInv p full outs (nextS s).2 rest) := by
 obtain ⟨b, w, y⟩ := s
 unfold nextS
 cases y with
 | true =>
  obtain ⟨h1, h2, h3⟩ := h.bad rfl
  simp only at h1 h2
  subst h1 h2
  exact ⟨fun x h => by simp at h, fun _ => by simpa using h⟩
 | false =>
  have hg := h.good rfl
  have hb := h.bb
  have hl := h.le
  simp only at hg hb hl
  simp only [Bool.false_eq_true, if_false]
  cases w with
  | false =>
   simp only [Bool.false_eq_true, if_false]
   exact SInv.next_plain hb h.br hl hg
  | true =>
   simp only [if_true]
   cases hp : preOk b with
   | false =>
    simp only [if_true]
    refine ⟨fun x hx => ?_, fun h => by simp at h⟩
    obtain rfl : (noneF, 1, 1) = x := by simpa using hx
    refine ⟨fun x hx => (by cases hx), h.br, by simp, fun _ => ⟨rfl, rfl, ?_⟩, fun h => by cases h⟩
    rw [hg]
    unfold allP
    simp [preOk_app rest hp]
   | true =>
    simp only [Bool.true_eq_false, if_false]
    by_cases h24 : b.length < 24
    ·rw [if_pos h24]
     exact ⟨fun x hx => by simp at hx, fun _ => h⟩
    ·rw [if_neg h24]
     refine SInv.next_plain (fun x hx => hb x (List.mem_of_mem_drop hx)) h.br (by rw [List.length_drop]; omega) ?_
     rw [hg]
     unfold allP
     rw [preOk_long rest hp (by omega)]
     simp only [if_true, Bool.true_eq_false, if_false, Bool.false_eq_true]
     rw [if_neg (by simp; omega), List.drop_append_of_le_length (by omega)]
theorem nextN_none {b : List Int} (h : (nextN b).1 = none) : nextN b = (none, ⟨b, false, false⟩) ∧ b.length < 16393 ∧ nextB b = none := by
 unfold nextN at h ⊢
 cases hx : nextB b with
 | none => exact ⟨rfl, nextB_full hx, rfl⟩
 | some v => rw [hx] at h; cases h
theorem nextS_none {s : Sp} (h : (nextS s).1 = none) (hb : s.bad = false) : (nextS s).2.bad = false ∧ (nextS s).2.b.length < 16393 ∧ nextS (nextS s).2 = (none, (nextS s).2) := by
 obtain ⟨b, w, y⟩ := s
 simp only at hb
 subst hb
 unfold nextS at h ⊢
 simp only [Bool.false_eq_true, if_false] at h ⊢
 cases w with
 | false =>
  simp only [Bool.false_eq_true, if_false] at h ⊢
  obtain ⟨h1, h2, h3⟩ := nextN_none h
  rw [h1]
  simpa using ⟨h2, h1⟩
 | true =>
  simp only [if_true] at h ⊢
  cases hp : preOk b with
  | false => rw [hp] at h; simp at h
  | true =>
   rw [hp] at h
   simp only [Bool.true_eq_false, if_false] at h ⊢
   by_cases h24 : b.length < 24
   ·rw [if_pos h24]
    simp [hp, h24]
    omega
   ·rw [if_neg h24] at h ⊢
    obtain ⟨h1, h2, h3⟩ := nextN_none h
    rw [h1]
    exact ⟨rfl, h2, by simpa using h1⟩
theorem nextS_badly {s : Sp} (h : s.bad = true) (hw : s.waits = false) : nextS s = (none, s) := by
 unfold nextS
 rw [if_pos h, if_neg (by rw [hw]; decide)]
def spM (s : Sp) : Nat := if s.bad = true then 0 else 1 + s.b.length
theorem nextN_less {b : List Int} (hb : Byte8 b) {x : Rs} (h : (nextN b).1 = some x) : spM (nextN b).2 < 1 + b.length ∧ ((nextN b).2.bad = true → (nextN b).2.waits = false) ∧ (nextN b).2.b.length ≤ b.length := by
 unfold nextN at h ⊢
 cases hx : nextB b with
 | none => rw [hx] at h; cases h
 | some v =>
  obtain ⟨x', b', y⟩ := v
  have := nextB_less hb hx
  refine ⟨?_, fun _ => rfl, ?_⟩
  ·unfold spM
   dsimp only
   split <;> omega
  ·dsimp only
   omega
theorem nextS_less {s : Sp} (hb : Byte8 s.b) (hw : s.bad = true → s.waits = false) {x : Rs} (h : (nextS s).1 = some x) : spM (nextS s).2 < spM s ∧ ((nextS s).2.bad = true → (nextS s).2.waits = false) := by
 obtain ⟨b, w, y⟩ := s
 simp only at hb hw
 unfold nextS at h ⊢
 cases y with
 | true =>
  obtain rfl := hw rfl
  simp at h
 | false =>
  simp only [Bool.false_eq_true, if_false] at h ⊢
  cases w with
  | false =>
   simp only [Bool.false_eq_true, if_false] at h ⊢
   have := nextN_less hb h
   exact ⟨by unfold spM; unfold spM at this; simpa using this.1, this.2.1⟩
  | true =>
   simp only [if_true] at h ⊢
   cases hp : preOk b with
   | false => simp [spM]; omega
   | true =>
    rw [hp] at h
    simp only [Bool.true_eq_false, if_false] at h ⊢
    by_cases h24 : b.length < 24
    ·rw [if_pos h24] at h; cases h
    ·rw [if_neg h24] at h ⊢
     have := nextN_less (fun x hx => hb x (List.mem_of_mem_drop hx)) h
     refine ⟨Nat.lt_of_lt_of_le this.1 ?_, this.2.1⟩
     rw [List.length_drop]
     simp [spM]
theorem SInv.done {p : Bool} {full : List Int} {outs : List Rs} {s : Sp} (h : SInv p full outs s []) (hb : s.bad = false) (hn : nextS s = (none, s)) : allP p full = (outs, s.b.length, false) := by
 obtain ⟨b, w, y⟩ := s
 simp only at hb
 subst hb
 have hg := h.good rfl
 simp only [List.append_nil] at hg
 rw [hg]
 have : allP w b = ([], b.length, false) := by
  unfold nextS at hn
  simp only [Bool.false_eq_true, if_false] at hn
  unfold allP
  cases w with
  | false =>
   simp only [Bool.false_eq_true, if_false] at hn ⊢
   exact allB_none (nextN_none (by rw [hn])).2.2
  | true =>
   simp only [if_true] at hn ⊢
   cases hp : preOk b with
   | false => rw [hp] at hn; simp at hn
   | true =>
    rw [hp] at hn
    simp only [Bool.true_eq_false, if_false] at hn ⊢
    by_cases h24 : b.length < 24
    ·rw [if_pos h24]
    ·rw [if_neg h24] at hn
     have h1 := (nextN_none (by rw [hn])).1
     rw [h1] at hn
     simp at hn
 rw [this]
 simp
end Go.Proofs.YtjjfkmniffbgkaaDoor
