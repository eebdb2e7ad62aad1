/- Texts of this claim, put together: Frm16, Frm17, GvFact, FrmGiven. -/
import Derived.Test.YtjjfkmniffbgkaaDoorMSplitFrames3
import Derived.Test.YtjjfkmniffbgkaaDoorMSplitFrames2
import Derived.Test.YtjjfkmniffbgkaaDoorMSplitFrames0
/- frame.Get: what is read. (Printed by wip/gen/frm16_get.py.) -/
namespace Go.Proofs.YtjjfkmniffbgkaaDoor
set_option linter.unusedVariables false
set_option linter.unusedSimpArgs false
open Go.RowKit Go.Proofs.YtjjfkmniffbgkaaDoorW.PrintWords Go.Proofs.YtjjfkmniffbgkaaDoorW.PrintLast Go.Proofs.YtjjfkmniffbgkaaDoorW.PrintMore Go.Proofs.YtjjfkmniffbgkaaDoor.QFrmA Go.Extern.Stop Go.Stop Go.Extern Go.Maps
theorem wfB {x : Int} (h : 0 ≤ x ∧ x ≤ 255) : (Lit.int .u8 x).wf = true := by
 have h0 : IntKind.min .u8 ≤ x := h.1
 have h1 : x ≤ IntKind.max .u8 := h.2
 simp only [Lit.wf, decide_eq_true h0, decide_eq_true h1, Bool.and_self]
theorem GW.far {w W W' : World} {N : Fr} {g : Nat} (h : GW w W N) (hb : Below g W W') (hg : w.heap.size + 1 + 1 < g) : GW w W' N := by
 obtain ⟨⟨c2, h2, s2⟩, ⟨c3, h3, s3⟩, h4, hbel⟩ := h
 exact ⟨⟨c2, (hb.block _ (by omega)).trans h2, s2⟩, ⟨c3, (hb.block _ (by omega)).trans h3, s3⟩, (hb.block _ hg).trans h4, hbel.trans (hb.mono (by omega))⟩
theorem GW.big {w W : World} {N : Fr} (h : GW w W N) : w.heap.size + 1 + 1 < W.heap.size := blk_lt h.b4
theorem reads_after {w W : World} {A : Option Addr} {l : List Int} {g : Nat} (hR : ReadsInt w .u8 A l.length l) (hb : Below w.heap.size w W) (hg : w.heap.size ≤ g) : KReads W g A l := fun W' hk =>
 Kd_reads (Kd.C_foot_came (Kd.heap_int .u8) (Kd.C_of_reads (d := (0 : Int)) (h1 := fun _ => rfl) hR) hb hg W' hk)
theorem store_list {P : Program} {ops : Array Oper} {rest : List Oper} {Q : Exit → Act → World → Prop} {W : World} {g T t : Nat} {cs : Array Value} (c' : Array Value) {o : Oper} {a : Act} (p x : Operand) (hgd : o.guard = none) (hN : o.dst = none) (ho : o.op = .store T p x) (hp : a.eval p = .pointer (some ⟨g, 0, none⟩)) (hx : a.eval x = .agg c')
  (hW : W.heap[g]? = some (.cells cs t (0, 0))) (hs : cs.size = c'.size) (hi : (P.info? T).map (·.size) = some c'.toList.length) (h1 : ∀ q ∈ c'.toList, q.oneCell' = true)
  (h : ∀ W', W'.heap[g]? = some (.cells c' t (0, 0)) → (∀ k, k ≠ g → W'.heap[k]? = W.heap[k]?) → W'.heap.size = W.heap.size → Below g W W' → wpList P ops Q rest a W') : wpList P ops Q (o :: rest) a W := by
 refine wpList_plain hgd fun K hK => ?_
 obtain ⟨W', hr, h2, h3, h4, h5⟩ := full_store p x ho hp hx hW hs hi h1
 unfold Oper.wp
 rw [hr]
 show K (a.put o.dst undef) W'
 rw [hN]
 exact hK a _ (h W' h2 h3 h4 h5)
set_option maxHeartbeats 1000000 in
set_option maxRecDepth 100000 in
theorem get_bad (w : World) (A : Option Addr) (c : Nat) (l : List Int) (hI : GIn w A c l) (s cd : Int) (hgr : ¬ 16393 < l.length) (hgood : stBad (l.getD 3 0) (valL ((l.take 9).drop 5) % 2147483648) = false) (hr : readR ⟨l.getD 3 0, l.getD 4 0, valL ((l.take 9).drop 5) % 2147483648, [], -1, 0, 0, 0, false, 0, []⟩ (l.drop 9) = .bad s cd) :
  Calls Tryd.prog 27 #[.slice A l.length c] w fun e w' => Below w.heap.size w w' ∧ e = .returned (.tuple #[.agg (frC (hdF l) nilS nilS), .agg #[.int .u8 s, .int .u32 cd]]) := by
 refine of_post0 fun R hRR => ?_
 have HP := Lib.hid hRR
 have HI := Lib.hid hI
 have hl := hI.hl
 have b9 : decide (9 ≤ l.length) = true := by rw [decide_eq_true_iff]; exact hI.h9
 obtain ⟨ad, rfl, hcc⟩ := hI.rd.2.2 (by have := hI.h9; omega)
 have hc3 := hcc 3 (by have := hI.h9; omega)
 have hc4 := hcc 4 (by have := hI.h9; omega)
 rw [show ad.add 3 = ⟨ad.block, ad.off + 3, none⟩ by unfold Addr.add; rfl] at hc3
 rw [show ad.add 4 = ⟨ad.block, ad.off + 4, none⟩ by unfold Addr.add; rfl] at hc4
 obtain ⟨i0, hi, _, hsz, _⟩ := info_parts Tryd.infoB8
 obtain ⟨Am, hcut0, hr0, hm0⟩ := print_mid_int (P := Tryd.prog) (k := .u8) 35 5 Tryd.underlying35 hi hsz (some ad) c l 5 9 (by decide) (by decide) (by have := hI.h9; omega) hI.hc
 obtain ⟨A9, hcut9, hr9, hm9⟩ := print_drop_of (P := Tryd.prog) (Value.int .u8) (0 : Int) 35 5 .i64 Tryd.underlying35 hi hsz (some ad) c l 9 (by decide) (by have := hI.h9; omega) hI.hc
 rw [show (5 : Int).toNat = 5 from rfl, show (9 : Int).toNat = 9 from rfl] at hcut0 hr0 hm0
 rw [show (9 : Int).toNat = 9 from rfl] at hcut9 hr9 hm9
 have hlm : ((l.take 9).drop 5).length = 4 := by rw [List.length_drop, List.length_take]; have := hI.h9; omega
 have hbm : Byte8 ((l.take 9).drop 5) := fun x hx => hI.hby x (List.mem_of_mem_take (List.mem_of_mem_drop hx))
 have hv := valL_bound hbm
 rw [hlm] at hv
 have hlow := low31 hv.1 (by have h256 : (256 : Int) ^ 4 = 4294967296 := rfl; omega : valL ((l.take 9).drop 5) < 4294967296)
 have hV : ∀ W, ReadsInt W .u8 (some ad) l.length l → Calls Tryd.prog 53 #[.slice Am ((l.take 9).drop 5).length (c - 5)] W fun e w' => e = .returned (.int .u32 (valL ((l.take 9).drop 5))) ∧ Drawn0 W w' := fun W h => number_calls W Am (c - 5) _ (by omega) hbm (hr0 W h) hm0
 have HV := Lib.hid hV
 have hb9' : Byte8 (l.drop 9) := fun x hx => hI.hby x (List.mem_of_mem_drop hx)
 have hl9 : (l.drop 9).length ≤ 100000 := by rw [List.length_drop]; omega
 obtain ⟨L9, hL9⟩ : ∃ L9, l.drop 9 = L9 := ⟨_, rfl⟩
 rw [hL9] at hcut9 hr9 hm9 hb9' hl9
 have HR9 := Lib.hid (And.intro hr9 (And.intro hm9 (And.intro hb9' (And.intro hl9 hL9))))
 have b3 : (3 : Int) < (l.length : Int) := by have := hI.h9; omega
 have b4 : (4 : Int) < (l.length : Int) := by have := hI.h9; omega
 have b3' : 3 < l.length := by have := hI.h9; omega
 have b4' : 4 < l.length := by have := hI.h9; omega
 have b99 : (9 : Int) ≤ (l.length : Int) := by have := hI.h9; omega
 obtain ⟨x3, hx3⟩ : ∃ x, l.getD 3 0 = x := ⟨_, rfl⟩
 obtain ⟨x4, hx4⟩ : ∃ x, l.getD 4 0 = x := ⟨_, rfl⟩
 obtain ⟨vs, hvs⟩ : ∃ x, valL ((l.take 9).drop 5) = x := ⟨_, rfl⟩
 rw [hx3] at hc3
 rw [hx4] at hc4
 rw [hvs] at hlow HV
 have HE := Lib.hid (show hdF l = ⟨x3, x4, vs % 2147483648, [], -1, 0, 0, 0, false, 0, []⟩ by rw [← hx3, ← hx4, ← hvs])
 have HXV := Lib.hid (And.intro hx3 (And.intro hx4 hvs))
 generalize (l.take 9).drop 5 = Lm at hcut0 HV
 have hnn : (headN l != (l.length : Int)) = false := by rw [bne_eq_false_iff_eq]; exact hI.hn
 have HC3 := Lib.hid (And.intro hc3 hc4)
 have HN := Lib.hid hI.hn
 clear hRR hI hcc hi hsz hr0 hm0 hr9 hm9 hb9' hl9 hL9 hlm hbm hv hV hx3 hx4 hvs hc3 hc4
 go_enter Tryd.func27, Tryd.ntmps27
 go_wp2_with fail
 have HG := Lib.hid (GW.start w)
 refine (head_calls _ (some ad) c l HI.out.hby (HI.out.rd.below HG.out.bel) HI.out.hc).mono ?_
 rintro e w1 ⟨rfl, n1, rfl⟩
 have HG1 := Lib.hid (HG.out.step (pw_below_drewN (Below.refl _ _) n1))
 generalize World.drewN _ n1 = w1 at HG1 ⊢
 clear HG
 rw [b9]
 rw [HN.out] at hnn ⊢
 go_wp2_with fail
 have hdr : GW w w1.drew noneF := HG1.out.step (below_drew (Below.refl _ _))
 refine start_ (n := 16) (S := fun w' => w'.cell? ⟨ad.block, ad.off + 3, none⟩ = some (.int .u8 x3) ∧ w'.cell? ⟨ad.block, ad.off + 4, none⟩ = some (.int .u8 x4)) (ds := []) #[false, false, false, false, false, false, false, false, false, false, false, false, false, false, false, false] (by kernel_rfl) rfl rfl ⟨cell_below hdr.bel HC3.out.1, cell_below hdr.bel HC3.out.2⟩ (fun hHeld => ?_)
 have HD := Lib.hid hdr
 clear hdr
 generalize w1.drew = wd at HD hHeld ⊢
 refine pure_ (i := 0) (N := some 26) (v := ?_) (a' := ?_) #[true, false, false, false, false, false, false, false, false, false, false, false, false, false, false, false] rfl rfl (by kernel_rfl) (fun _ _ _ h => h) (Or.inl ⟨by rfl, ?_⟩) ?_ ?_
 rotate_left
 ·intro w'
  go_simp
  with_reducible rfl
 rotate_left
 ·simp only [Act.put, putA, putB, putC]
  rfl
 refine pure_ (i := 1) (N := some 27) (v := ?_) (a' := ?_) #[true, true, false, false, false, false, false, false, false, false, false, false, false, false, false, false] rfl rfl (by kernel_rfl) (fun _ _ _ h => h) (Or.inl ⟨by rfl, ?_⟩) ?_ ?_
 rotate_left
 ·intro w'
  go_simp
  with_reducible rfl
 rotate_left
 ·simp only [Act.put, putA, putB, putC]
  rfl
 refine take_ (i := 2) (N := some 28) (v := ?_) (a' := ?_) #[true, true, true, false, false, false, false, false, false, false, false, false, false, false, false, false] rfl rfl (by kernel_rfl) (fun _ _ _ h => h) (Or.inl ⟨by rfl, ?_⟩) hHeld ?_ ?_
 rotate_left
 ·rintro w' ⟨s0, s1⟩
  go_simp
  with_reducible rfl
 rotate_left
 ·simp only [Act.put, putA, putB, putC]
  rfl
 refine pure_ (i := 3) (N := some 29) (v := ?_) (a' := ?_) #[true, true, true, true, false, false, false, false, false, false, false, false, false, false, false, false] rfl rfl (by kernel_rfl) (fun _ _ _ h => h) (Or.inl ⟨by rfl, ?_⟩) ?_ ?_
 rotate_left
 ·intro w'
  go_simp
  with_reducible rfl
 rotate_left
 ·simp only [Act.put, putA, putB, putC]
  rfl
 refine pure_ (i := 4) (N := some 30) (v := ?_) (a' := ?_) #[true, true, true, true, true, false, false, false, false, false, false, false, false, false, false, false] rfl rfl (by kernel_rfl) (fun _ _ _ h => h) (Or.inl ⟨by rfl, ?_⟩) ?_ ?_
 rotate_left
 ·intro w'
  go_simp
  with_reducible rfl
 rotate_left
 ·simp only [Act.put, putA, putB, putC]
  rfl
 refine take_ (i := 5) (N := some 31) (v := ?_) (a' := ?_) #[true, true, true, true, true, true, false, false, false, false, false, false, false, false, false, false] rfl rfl (by kernel_rfl) (fun _ _ _ h => h) (Or.inl ⟨by rfl, ?_⟩) hHeld ?_ ?_
 rotate_left
 ·rintro w' ⟨s0, s1⟩
  go_simp
  with_reducible rfl
 rotate_left
 ·simp only [Act.put, putA, putB, putC]
  rfl
 refine pure_ (i := 6) (N := some 32) (v := ?_) (a' := ?_) #[true, true, true, true, true, true, true, false, false, false, false, false, false, false, false, false] rfl rfl (by kernel_rfl) (fun _ _ _ h => h) (Or.inl ⟨by rfl, ?_⟩) ?_ ?_
 rotate_left
 ·intro w'
  go_simp
  with_reducible rfl
 rotate_left
 ·simp only [Act.put, putA, putB, putC]
  rfl
 refine pure_ (i := 7) (N := some 33) (v := ?_) (a' := ?_) #[true, true, true, true, true, true, true, true, false, false, false, false, false, false, false, false] rfl rfl (by kernel_rfl) (fun _ _ _ h => h) (Or.inl ⟨by rfl, ?_⟩) ?_ ?_
 rotate_left
 ·intro w'
  go_simp
  with_reducible rfl
 rotate_left
 ·simp only [Act.put, putA, putB, putC]
  rfl
 refine pure_ (i := 10) (N := some 36) (v := ?_) (a' := ?_) #[true, true, true, true, true, true, true, true, false, false, true, false, false, false, false, false] rfl rfl (by kernel_rfl) (fun _ _ _ h => h) (Or.inl ⟨by rfl, ?_⟩) ?_ ?_
 rotate_left
 ·intro w'
  go_simp
  with_reducible rfl
 rotate_left
 ·simp only [Act.put, putA, putB, putC]
  rfl
 refine one_ (i := 8) (N := some 34) #[true, true, true, true, true, true, true, true, true, false, true, false, false, false, false, false] rfl rfl (by kernel_rfl) (by decide) (fun K hK => ?_)
 refine goes_ Tryd.func53 (by kernel_rfl) rfl #[.slice Am Lm.length (c - 5)] (by rfl) rfl rfl (by (try simp only [List.map_toArray, List.map_cons, List.map_nil]); first | done | rfl) ?_
 refine (HV.out _ (HI.out.rd.below HD.out.bel)).mono ?_
 rintro e w3 ⟨rfl, n3, rfl⟩
 have HD2 := Lib.hid (HD.out.step (pw_below_drewN (Below.refl _ _) n3))
 generalize World.drewN _ n3 = w3 at HD2 ⊢
 have y3 := cell_below HD2.out.bel HC3.out.1
 have y4 := cell_below HD2.out.bel HC3.out.2
 refine ⟨_, rfl, ?_⟩
 refine hK.out _ _ ⟨y3, y4⟩ (fun hHeld => ?_)
 clear hK K
 refine norm_ (a' := ?_) ?_ ?_
 rotate_left
 ·show Act.put _ (some 34) _ = _
  simp only [Act.put, putA, putB, putC]
  rfl
 refine pure_ (i := 9) (N := some 35) (v := ?_) (a' := ?_) #[true, true, true, true, true, true, true, true, true, true, true, false, false, false, false, false] rfl rfl (by kernel_rfl) (fun _ _ _ h => h) (Or.inl ⟨by rfl, ?_⟩) ?_ ?_
 rotate_left
 ·intro w'
  go_simp
  with_reducible rfl
 rotate_left
 ·simp only [Act.put, putA, putB, putC]
  rfl
 have z0 := blk_cell HD2.out.b4 0
 have z1 := blk_cell HD2.out.b4 1
 have z2 := blk_cell HD2.out.b4 2
 have f0 := blk_frozen HD2.out.b4 0
 have f1 := blk_frozen HD2.out.b4 1
 have f2 := blk_frozen HD2.out.b4 2
 simp at z0 z1 z2
 have HB0 := Lib.hid HD2.out.bel
 refine one_ (i := 11) (N := none) #[true, true, true, true, true, true, true, true, true, true, true, true, false, false, false, false] rfl rfl (by kernel_rfl) (by decide) (fun K hK => ?_)
 refine skip_ (w1 := ?_) (by rfl) rfl ?_ ?_
 rotate_left
 ·go_simp
  rfl
 have HB1 := Lib.hid (HB0.out.setCell (p := ⟨w.heap.size + 1 + 1, 0, none⟩) (by show _ ≤ w.heap.size + 1 + 1; omega) (.int .u8 x3))
 refine hK.out _ _ ⟨cell_below HB1.out HC3.out.1, cell_below HB1.out HC3.out.2⟩ (fun hHeld => ?_)
 clear hK K
 refine pure_ (i := 12) (N := some 37) (v := ?_) (a' := ?_) #[true, true, true, true, true, true, true, true, true, true, true, true, true, false, false, false] rfl rfl (by kernel_rfl) (fun _ _ _ h => h) (Or.inl ⟨by rfl, ?_⟩) ?_ ?_
 rotate_left
 ·intro w'
  go_simp
  with_reducible rfl
 rotate_left
 ·simp only [Act.put, putA, putB, putC]
  rfl
 refine one_ (i := 13) (N := none) #[true, true, true, true, true, true, true, true, true, true, true, true, true, true, false, false] rfl rfl (by kernel_rfl) (by decide) (fun K hK => ?_)
 refine skip_ (w1 := ?_) (by rfl) rfl ?_ ?_
 rotate_left
 ·go_simp
  rfl
 have HB2 := Lib.hid (HB1.out.setCell (p := ⟨w.heap.size + 1 + 1, 1, none⟩) (by show _ ≤ w.heap.size + 1 + 1; omega) (.int .u8 x4))
 refine hK.out _ _ ⟨cell_below HB2.out HC3.out.1, cell_below HB2.out HC3.out.2⟩ (fun hHeld => ?_)
 clear hK K
 refine pure_ (i := 14) (N := some 38) (v := ?_) (a' := ?_) #[true, true, true, true, true, true, true, true, true, true, true, true, true, true, true, false] rfl rfl (by kernel_rfl) (fun _ _ _ h => h) (Or.inl ⟨by rfl, ?_⟩) ?_ ?_
 rotate_left
 ·intro w'
  go_simp
  with_reducible rfl
 rotate_left
 ·simp only [Act.put, putA, putB, putC]
  rfl
 refine one_ (i := 15) (N := none) #[true, true, true, true, true, true, true, true, true, true, true, true, true, true, true, true] rfl rfl (by kernel_rfl) (by decide) (fun K hK => ?_)
 refine skip_ (w1 := ?_) (by rfl) rfl ?_ ?_
 rotate_left
 ·go_simp
  rfl
 have HB3 := Lib.hid (HB2.out.setCell (p := ⟨w.heap.size + 1 + 1, 2, none⟩) (by show _ ≤ w.heap.size + 1 + 1; omega) (.int .u32 (vs % 2147483648)))
 refine hK.out _ _ ⟨cell_below HB3.out HC3.out.1, cell_below HB3.out HC3.out.2⟩ (fun hHeld => ?_)
 clear hK K
 refine done_ (by kernel_rfl) ?_
 have HG5 := Lib.hid (HD2.out.sets x3 x4 (vs % 2147483648))
 clear y3 y4 z0 z1 z2 f0 f1 f2 hHeld HB0 HB1 HB2 HB3
 generalize ((w3.setCell ⟨w.heap.size + 1 + 1, 0, none⟩ (.int .u8 x3)).setCell ⟨w.heap.size + 1 + 1, 1, none⟩ (.int .u8 x4)).setCell ⟨w.heap.size + 1 + 1, 2, none⟩ (.int .u32 (vs % 2147483648)) = w5' at HG5 ⊢
 have bg : decide ((16393 : Int) < (l.length : Int)) = false := by rw [decide_eq_false_iff_not]; omega
 have bg' : decide (16393 < l.length) = false := by rw [decide_eq_false_iff_not]; omega
 have z0 := blk_cell HG5.out.b4 0
 have z1 := blk_cell HG5.out.b4 1
 have z2 := blk_cell HG5.out.b4 2
 have z3 := blk_cell HG5.out.b4 3
 have z4 := blk_cell HG5.out.b4 4
 have z5 := blk_cell HG5.out.b4 5
 have z6 := blk_cell HG5.out.b4 6
 have z7 := blk_cell HG5.out.b4 7
 have z8 := blk_cell HG5.out.b4 8
 have z9 := blk_cell HG5.out.b4 9
 have z10 := blk_cell HG5.out.b4 10
 simp at z0 z1 z2 z3 z4 z5 z6 z7 z8 z9 z10
 go_wp2_with fail
 refine (streams_strong _ (⟨x3, x4, vs % 2147483648, [], -1, 0, 0, 0, false, 0, []⟩ : Fr) nilS nilS).mono ?_
 rintro e w8 ⟨ve, rfl, hb8, hs8⟩
 rw [HXV.out.1, HXV.out.2.2] at hgood
 rcases hs8 with ⟨_, rfl⟩ | ⟨h, _⟩
 rotate_left
 ·rw [h] at hgood; cases hgood
 have hf8 : w8.heap[w5'.heap.size]? = some (.cells (frC (⟨x3, x4, vs % 2147483648, [], -1, 0, 0, 0, false, 0, []⟩ : Fr) nilS nilS) 38 (0, 0)) := blk_below (blk_new w5' _) hb8
 have HG8 := Lib.hid ((HG5.out.step (below_alloc (Below.refl _ _) (.cells (frC (⟨x3, x4, vs % 2147483648, [], -1, 0, 0, 0, false, 0, []⟩ : Fr) nilS nilS) 38))).step hb8)
 have HF8 := Lib.hid hf8
 have HB5 := Lib.hid (HG5.out.big)
 rw [HXV.out.1, HXV.out.2.1, HXV.out.2.2, HR9.out.2.2.2.2] at hr
 have HRd := Lib.hid hr
 clear hr hf8 hb8 hgood z0 z1 z2 z3 z4 z5 z6 z7 z8 z9 z10
 go_wp2_with fail
 have hx255 : 0 ≤ x3 ∧ x3 ≤ 255 := by
  rw [← HXV.out.1]
  refine HI.out.hby _ ?_
  rw [List.getD_eq_getElem?_getD, List.getElem?_eq_getElem (by omega)]
  exact List.getElem_mem _
 refine (read_calls w8 w5'.heap.size (blk_lt HF8.out) (⟨x3, x4, vs % 2147483648, [], -1, 0, 0, 0, false, 0, []⟩ : Fr) A9 (c - 9) L9 ⟨HF8.out⟩ rfl rfl (fun W' hk => HR9.out.1 W' (reads_after HI.out.rd HG8.out.bel (by have := HB5.out; omega) W' hk)) HR9.out.2.1 HR9.out.2.2.1 HR9.out.2.2.2.1 (wfB hx255)).mono ?_
 rw [HRd.out]
 rintro e w9 ⟨⟨hk9, hb9⟩, ve, n9, rfl, hE9⟩
 obtain ⟨T8, p8, rfl⟩ := hE9.form
 have HG9 := Lib.hid (HG8.out.far hb9 HB5.out)
 have HE9 := Lib.hid hE9
 clear hk9 hb9 hE9
 go_wp2_with fail
 have hdr : GW w w9.drew (⟨x3, x4, vs % 2147483648, [], -1, 0, 0, 0, false, 0, []⟩ : Fr) := (HG9).out.step (below_drew (Below.refl _ _))
 have hd4 := hdr.b4
 refine start_ (n := 6) (S := fun w' => w'.heap[w.heap.size + 1 + 1]? = some (.cells (frC (⟨x3, x4, vs % 2147483648, [], -1, 0, 0, 0, false, 0, []⟩ : Fr) nilS nilS) 38 (0, 0))) (ds := [4, 5]) #[false, false, false, false, false, false] (by kernel_rfl) rfl rfl hd4 (fun hHeld => ?_)
 have HDE := Lib.hid ((HE9.out).below (below_drew (Below.refl w9.heap.size w9)))
 have HD := Lib.hid hdr
 clear hdr hd4
 generalize w9.drew = wd at HD HDE hHeld ⊢
 refine take_ (i := 0) (N := some 54) (v := ?_) (a' := ?_) #[true, false, false, false, false, false] rfl rfl (by kernel_rfl) (fun _ _ _ h => h) (Or.inl ⟨by rfl, ?_⟩) hHeld ?_ ?_
 rotate_left
 ·intro w' s
  have s0 := blk_cell s 0
  have s1 := blk_cell s 1
  have s2 := blk_cell s 2
  have s3 := blk_cell s 3
  have s4 := blk_cell s 4
  have s5 := blk_cell s 5
  have s6 := blk_cell s 6
  have s7 := blk_cell s 7
  have s8 := blk_cell s 8
  have s9 := blk_cell s 9
  have s10 := blk_cell s 10
  simp at s0 s1 s2 s3 s4 s5 s6 s7 s8 s9 s10
  go_simp
  with_reducible rfl
 rotate_left
 ·simp only [Act.put, putA, putB, putC]
  rfl
 refine pure_ (i := 1) (N := some 55) (v := ?_) (a' := ?_) #[true, true, false, false, false, false] rfl rfl (by kernel_rfl) (fun _ _ _ h => h) (Or.inl ⟨by rfl, ?_⟩) ?_ ?_
 rotate_left
 ·intro w'
  go_simp
  with_reducible rfl
 rotate_left
 ·simp only [Act.put, putA, putB, putC]
  rfl
 refine one_ (i := 2) (N := some 56) #[true, true, true, false, false, false] rfl rfl (by kernel_rfl) (by decide) (fun K hK => ?_)
 refine goes_ Tryd.func15 (by kernel_rfl) rfl #[.string ⟨#[102, 114, 97, 109, 101]⟩, .iface T8 (.pointer (some ⟨p8, 0, none⟩))] (by rfl) rfl rfl (by (try simp only [List.map_toArray, List.map_cons, List.map_nil]); first | done | rfl) ?_
 refine (wrap_err _ _ _ s cd _ HDE.out).mono ?_
 rintro e w4 ⟨v, rfl, hb4, hE4⟩
 obtain ⟨T, p, rfl⟩ := hE4.form
 have HD2 := Lib.hid (And.intro (HD.out.step hb4) hE4)
 clear hb4 hE4
 refine ⟨_, rfl, ?_⟩
 refine hK.out _ _ HD2.out.1.b4 (fun hHeld => ?_)
 clear hK K
 refine norm_ (a' := ?_) ?_ ?_
 rotate_left
 ·show Act.put _ (some 56) _ = _
  simp only [Act.put, putA, putB, putC]
  rfl
 refine one_ (i := 3) (N := some 57) #[true, true, true, true, false, false] rfl rfl (by kernel_rfl) (by decide) (fun K hK => ?_)
 refine goes_ Tryd.func18 (by kernel_rfl) rfl #[.iface T (.pointer (some ⟨p, 0, none⟩))] (by rfl) rfl rfl (by (try simp only [List.map_toArray, List.map_cons, List.map_nil]); first | done | rfl) ?_
 refine (of_err _ _ s cd _ ((HI.out.hgv).below HD2.out.1.bel) HD2.out.2).mono ?_
 rintro e w5 ⟨rfl, hb5⟩
 have HD3 := Lib.hid (HD2.out.1.step hb5)
 clear hb5
 refine ⟨_, rfl, ?_⟩
 refine hK.out _ _ HD3.out.b4 (fun hHeld => ?_)
 clear hK K
 refine norm_ (a' := ?_) ?_ ?_
 rotate_left
 ·show Act.put _ (some 57) _ = _
  simp only [Act.put, putA, putB, putC]
  rfl
 obtain ⟨c2, hc2, hs2⟩ := HD3.out.b2
 obtain ⟨c3, hc3, hs3⟩ := HD3.out.b3
 refine last_ (i := 4) (N := none) #[true, true, true, true, true, false] rfl rfl (by kernel_rfl) (by decide) (fun K hK => ?_)
 refine store_step (g := w.heap.size) (T := 38) (frC (⟨x3, x4, vs % 2147483648, [], -1, 0, 0, 0, false, 0, []⟩ : Fr) nilS nilS) (.tmp 2) (.tmp 54) (by rfl) rfl rfl (by rfl) (by rfl) hc2 hs2 Tryd.infoFr (by simp [Value.oneCell']) ?_
 intro w6 hh6 hf6 hz6 hb6
 refine hK.out _ _ ?_
 clear hK K
 refine last_ (i := 5) (N := none) #[true, true, true, true, true, true] rfl rfl (by kernel_rfl) (by decide) (fun K hK => ?_)
 refine store_step (g := w.heap.size + 1) (T := 24) #[.int .u8 s, .int .u32 cd] (.tmp 3) (.tmp 57) (by rfl) rfl rfl (by rfl) (by rfl) ((hf6 _ (by omega)).trans hc3) hs3 Tryd.infoFa (by simp [Value.oneCell']) ?_
 intro w7 hh7 hf7 hz7 hb7
 refine hK.out _ _ ?_
 clear hK K
 refine done_ (by kernel_rfl) ?_
 have HZ := Lib.hid (HD3.out.answer hh6 hb6 hf7 hh7 hb7)
 clear hh6 hb6 hf6 hz6 hf7 hh7 hb7 hz7 hc2 hs2 hc3 hs3
 go_wp2_with fail
 exact bodyPost_ret (results_cc rfl _ _ w.heap.size (w.heap.size + 1) 38 24 (frC (⟨x3, x4, vs % 2147483648, [], -1, 0, 0, 0, false, 0, []⟩ : Fr) nilS nilS) #[.int .u8 s, .int .u32 cd] (0, 0) (0, 0) _ _ rfl HZ.out.1 Tryd.underlying38 rfl Tryd.infoFr rfl HZ.out.2.1 Tryd.underlying24 rfl Tryd.infoFa) rfl (HP.out _ _ ⟨HZ.out.2.2, by rw [HE.out]⟩)

theorem rows_far {α : Type} {d : Kd α} {e b b0 : Nat} {W W' : World} {ok : Nat → Prop} {v : Value} {xs : List α} (h : d.R e W b ok v xs) (hf : ∀ k, b ≤ k → W'.heap[k]? = W.heap[k]?) (hb : b0 ≤ b) : d.R e W' b0 (fun _ => True) v xs :=
 Kd.R_lower (Kd.R_mono (Kd.R_step (Kd.R_bound h) (fun k hk _ => hf k hk.2.1)) (fun _ _ => trivial)) hb
set_option maxHeartbeats 1000000 in
set_option maxRecDepth 100000 in
theorem get_ok (w : World) (A : Option Addr) (c : Nat) (l : List Int) (hI : GIn w A c l) (F : Fr) (hgr : ¬ 16393 < l.length) (hgood : stBad (l.getD 3 0) (valL ((l.take 9).drop 5) % 2147483648) = false) (hr : readR ⟨l.getD 3 0, l.getD 4 0, valL ((l.take 9).drop 5) % 2147483648, [], -1, 0, 0, 0, false, 0, []⟩ (l.drop 9) = .ok F) :
  Calls Tryd.prog 27 #[.slice A l.length c] w fun e w' => ∃ D S, Below w.heap.size w w' ∧ e = .returned (.tuple #[.agg (frC F D S), .agg #[.int .u8 0, .int .u32 0]]) ∧ (Kd.int .u8).R 5 w' w.heap.size (fun _ => True) D F.data ∧ k99.R 99 w' w.heap.size (fun _ => True) S F.sets := by
 refine of_post0 fun R hRR => ?_
 have HP := Lib.hid hRR
 have HI := Lib.hid hI
 have hl := hI.hl
 have b9 : decide (9 ≤ l.length) = true := by rw [decide_eq_true_iff]; exact hI.h9
 obtain ⟨ad, rfl, hcc⟩ := hI.rd.2.2 (by have := hI.h9; omega)
 have hc3 := hcc 3 (by have := hI.h9; omega)
 have hc4 := hcc 4 (by have := hI.h9; omega)
 rw [show ad.add 3 = ⟨ad.block, ad.off + 3, none⟩ by unfold Addr.add; rfl] at hc3
 rw [show ad.add 4 = ⟨ad.block, ad.off + 4, none⟩ by unfold Addr.add; rfl] at hc4
 obtain ⟨i0, hi, _, hsz, _⟩ := info_parts Tryd.infoB8
 obtain ⟨Am, hcut0, hr0, hm0⟩ := print_mid_int (P := Tryd.prog) (k := .u8) 35 5 Tryd.underlying35 hi hsz (some ad) c l 5 9 (by decide) (by decide) (by have := hI.h9; omega) hI.hc
 obtain ⟨A9, hcut9, hr9, hm9⟩ := print_drop_of (P := Tryd.prog) (Value.int .u8) (0 : Int) 35 5 .i64 Tryd.underlying35 hi hsz (some ad) c l 9 (by decide) (by have := hI.h9; omega) hI.hc
 rw [show (5 : Int).toNat = 5 from rfl, show (9 : Int).toNat = 9 from rfl] at hcut0 hr0 hm0
 rw [show (9 : Int).toNat = 9 from rfl] at hcut9 hr9 hm9
 have hlm : ((l.take 9).drop 5).length = 4 := by rw [List.length_drop, List.length_take]; have := hI.h9; omega
 have hbm : Byte8 ((l.take 9).drop 5) := fun x hx => hI.hby x (List.mem_of_mem_take (List.mem_of_mem_drop hx))
 have hv := valL_bound hbm
 rw [hlm] at hv
 have hlow := low31 hv.1 (by have h256 : (256 : Int) ^ 4 = 4294967296 := rfl; omega : valL ((l.take 9).drop 5) < 4294967296)
 have hV : ∀ W, ReadsInt W .u8 (some ad) l.length l → Calls Tryd.prog 53 #[.slice Am ((l.take 9).drop 5).length (c - 5)] W fun e w' => e = .returned (.int .u32 (valL ((l.take 9).drop 5))) ∧ Drawn0 W w' := fun W h => number_calls W Am (c - 5) _ (by omega) hbm (hr0 W h) hm0
 have HV := Lib.hid hV
 have hb9' : Byte8 (l.drop 9) := fun x hx => hI.hby x (List.mem_of_mem_drop hx)
 have hl9 : (l.drop 9).length ≤ 100000 := by rw [List.length_drop]; omega
 obtain ⟨L9, hL9⟩ : ∃ L9, l.drop 9 = L9 := ⟨_, rfl⟩
 rw [hL9] at hcut9 hr9 hm9 hb9' hl9
 have HR9 := Lib.hid (And.intro hr9 (And.intro hm9 (And.intro hb9' (And.intro hl9 hL9))))
 have b3 : (3 : Int) < (l.length : Int) := by have := hI.h9; omega
 have b4 : (4 : Int) < (l.length : Int) := by have := hI.h9; omega
 have b3' : 3 < l.length := by have := hI.h9; omega
 have b4' : 4 < l.length := by have := hI.h9; omega
 have b99 : (9 : Int) ≤ (l.length : Int) := by have := hI.h9; omega
 obtain ⟨x3, hx3⟩ : ∃ x, l.getD 3 0 = x := ⟨_, rfl⟩
 obtain ⟨x4, hx4⟩ : ∃ x, l.getD 4 0 = x := ⟨_, rfl⟩
 obtain ⟨vs, hvs⟩ : ∃ x, valL ((l.take 9).drop 5) = x := ⟨_, rfl⟩
 rw [hx3] at hc3
 rw [hx4] at hc4
 rw [hvs] at hlow HV
 have HE := Lib.hid (show hdF l = ⟨x3, x4, vs % 2147483648, [], -1, 0, 0, 0, false, 0, []⟩ by rw [← hx3, ← hx4, ← hvs])
 have HXV := Lib.hid (And.intro hx3 (And.intro hx4 hvs))
 generalize (l.take 9).drop 5 = Lm at hcut0 HV
 have hnn : (headN l != (l.length : Int)) = false := by rw [bne_eq_false_iff_eq]; exact hI.hn
 have HC3 := Lib.hid (And.intro hc3 hc4)
 have HN := Lib.hid hI.hn
 clear hRR hI hcc hi hsz hr0 hm0 hr9 hm9 hb9' hl9 hL9 hlm hbm hv hV hx3 hx4 hvs hc3 hc4
 go_enter Tryd.func27, Tryd.ntmps27
 go_wp2_with fail
 have HG := Lib.hid (GW.start w)
 refine (head_calls _ (some ad) c l HI.out.hby (HI.out.rd.below HG.out.bel) HI.out.hc).mono ?_
 rintro e w1 ⟨rfl, n1, rfl⟩
 have HG1 := Lib.hid (HG.out.step (pw_below_drewN (Below.refl _ _) n1))
 generalize World.drewN _ n1 = w1 at HG1 ⊢
 clear HG
 rw [b9]
 rw [HN.out] at hnn ⊢
 go_wp2_with fail
 have hdr : GW w w1.drew noneF := HG1.out.step (below_drew (Below.refl _ _))
 refine start_ (n := 16) (S := fun w' => w'.cell? ⟨ad.block, ad.off + 3, none⟩ = some (.int .u8 x3) ∧ w'.cell? ⟨ad.block, ad.off + 4, none⟩ = some (.int .u8 x4)) (ds := []) #[false, false, false, false, false, false, false, false, false, false, false, false, false, false, false, false] (by kernel_rfl) rfl rfl ⟨cell_below hdr.bel HC3.out.1, cell_below hdr.bel HC3.out.2⟩ (fun hHeld => ?_)
 have HD := Lib.hid hdr
 clear hdr
 generalize w1.drew = wd at HD hHeld ⊢
 refine pure_ (i := 0) (N := some 26) (v := ?_) (a' := ?_) #[true, false, false, false, false, false, false, false, false, false, false, false, false, false, false, false] rfl rfl (by kernel_rfl) (fun _ _ _ h => h) (Or.inl ⟨by rfl, ?_⟩) ?_ ?_
 rotate_left
 ·intro w'
  go_simp
  with_reducible rfl
 rotate_left
 ·simp only [Act.put, putA, putB, putC]
  rfl
 refine pure_ (i := 1) (N := some 27) (v := ?_) (a' := ?_) #[true, true, false, false, false, false, false, false, false, false, false, false, false, false, false, false] rfl rfl (by kernel_rfl) (fun _ _ _ h => h) (Or.inl ⟨by rfl, ?_⟩) ?_ ?_
 rotate_left
 ·intro w'
  go_simp
  with_reducible rfl
 rotate_left
 ·simp only [Act.put, putA, putB, putC]
  rfl
 refine take_ (i := 2) (N := some 28) (v := ?_) (a' := ?_) #[true, true, true, false, false, false, false, false, false, false, false, false, false, false, false, false] rfl rfl (by kernel_rfl) (fun _ _ _ h => h) (Or.inl ⟨by rfl, ?_⟩) hHeld ?_ ?_
 rotate_left
 ·rintro w' ⟨s0, s1⟩
  go_simp
  with_reducible rfl
 rotate_left
 ·simp only [Act.put, putA, putB, putC]
  rfl
 refine pure_ (i := 3) (N := some 29) (v := ?_) (a' := ?_) #[true, true, true, true, false, false, false, false, false, false, false, false, false, false, false, false] rfl rfl (by kernel_rfl) (fun _ _ _ h => h) (Or.inl ⟨by rfl, ?_⟩) ?_ ?_
 rotate_left
 ·intro w'
  go_simp
  with_reducible rfl
 rotate_left
 ·simp only [Act.put, putA, putB, putC]
  rfl
 refine pure_ (i := 4) (N := some 30) (v := ?_) (a' := ?_) #[true, true, true, true, true, false, false, false, false, false, false, false, false, false, false, false] rfl rfl (by kernel_rfl) (fun _ _ _ h => h) (Or.inl ⟨by rfl, ?_⟩) ?_ ?_
 rotate_left
 ·intro w'
  go_simp
  with_reducible rfl
 rotate_left
 ·simp only [Act.put, putA, putB, putC]
  rfl
 refine take_ (i := 5) (N := some 31) (v := ?_) (a' := ?_) #[true, true, true, true, true, true, false, false, false, false, false, false, false, false, false, false] rfl rfl (by kernel_rfl) (fun _ _ _ h => h) (Or.inl ⟨by rfl, ?_⟩) hHeld ?_ ?_
 rotate_left
 ·rintro w' ⟨s0, s1⟩
  go_simp
  with_reducible rfl
 rotate_left
 ·simp only [Act.put, putA, putB, putC]
  rfl
 refine pure_ (i := 6) (N := some 32) (v := ?_) (a' := ?_) #[true, true, true, true, true, true, true, false, false, false, false, false, false, false, false, false] rfl rfl (by kernel_rfl) (fun _ _ _ h => h) (Or.inl ⟨by rfl, ?_⟩) ?_ ?_
 rotate_left
 ·intro w'
  go_simp
  with_reducible rfl
 rotate_left
 ·simp only [Act.put, putA, putB, putC]
  rfl
 refine pure_ (i := 7) (N := some 33) (v := ?_) (a' := ?_) #[true, true, true, true, true, true, true, true, false, false, false, false, false, false, false, false] rfl rfl (by kernel_rfl) (fun _ _ _ h => h) (Or.inl ⟨by rfl, ?_⟩) ?_ ?_
 rotate_left
 ·intro w'
  go_simp
  with_reducible rfl
 rotate_left
 ·simp only [Act.put, putA, putB, putC]
  rfl
 refine pure_ (i := 10) (N := some 36) (v := ?_) (a' := ?_) #[true, true, true, true, true, true, true, true, false, false, true, false, false, false, false, false] rfl rfl (by kernel_rfl) (fun _ _ _ h => h) (Or.inl ⟨by rfl, ?_⟩) ?_ ?_
 rotate_left
 ·intro w'
  go_simp
  with_reducible rfl
 rotate_left
 ·simp only [Act.put, putA, putB, putC]
  rfl
 refine one_ (i := 8) (N := some 34) #[true, true, true, true, true, true, true, true, true, false, true, false, false, false, false, false] rfl rfl (by kernel_rfl) (by decide) (fun K hK => ?_)
 refine goes_ Tryd.func53 (by kernel_rfl) rfl #[.slice Am Lm.length (c - 5)] (by rfl) rfl rfl (by (try simp only [List.map_toArray, List.map_cons, List.map_nil]); first | done | rfl) ?_
 refine (HV.out _ (HI.out.rd.below HD.out.bel)).mono ?_
 rintro e w3 ⟨rfl, n3, rfl⟩
 have HD2 := Lib.hid (HD.out.step (pw_below_drewN (Below.refl _ _) n3))
 generalize World.drewN _ n3 = w3 at HD2 ⊢
 have y3 := cell_below HD2.out.bel HC3.out.1
 have y4 := cell_below HD2.out.bel HC3.out.2
 refine ⟨_, rfl, ?_⟩
 refine hK.out _ _ ⟨y3, y4⟩ (fun hHeld => ?_)
 clear hK K
 refine norm_ (a' := ?_) ?_ ?_
 rotate_left
 ·show Act.put _ (some 34) _ = _
  simp only [Act.put, putA, putB, putC]
  rfl
 refine pure_ (i := 9) (N := some 35) (v := ?_) (a' := ?_) #[true, true, true, true, true, true, true, true, true, true, true, false, false, false, false, false] rfl rfl (by kernel_rfl) (fun _ _ _ h => h) (Or.inl ⟨by rfl, ?_⟩) ?_ ?_
 rotate_left
 ·intro w'
  go_simp
  with_reducible rfl
 rotate_left
 ·simp only [Act.put, putA, putB, putC]
  rfl
 have z0 := blk_cell HD2.out.b4 0
 have z1 := blk_cell HD2.out.b4 1
 have z2 := blk_cell HD2.out.b4 2
 have f0 := blk_frozen HD2.out.b4 0
 have f1 := blk_frozen HD2.out.b4 1
 have f2 := blk_frozen HD2.out.b4 2
 simp at z0 z1 z2
 have HB0 := Lib.hid HD2.out.bel
 refine one_ (i := 11) (N := none) #[true, true, true, true, true, true, true, true, true, true, true, true, false, false, false, false] rfl rfl (by kernel_rfl) (by decide) (fun K hK => ?_)
 refine skip_ (w1 := ?_) (by rfl) rfl ?_ ?_
 rotate_left
 ·go_simp
  rfl
 have HB1 := Lib.hid (HB0.out.setCell (p := ⟨w.heap.size + 1 + 1, 0, none⟩) (by show _ ≤ w.heap.size + 1 + 1; omega) (.int .u8 x3))
 refine hK.out _ _ ⟨cell_below HB1.out HC3.out.1, cell_below HB1.out HC3.out.2⟩ (fun hHeld => ?_)
 clear hK K
 refine pure_ (i := 12) (N := some 37) (v := ?_) (a' := ?_) #[true, true, true, true, true, true, true, true, true, true, true, true, true, false, false, false] rfl rfl (by kernel_rfl) (fun _ _ _ h => h) (Or.inl ⟨by rfl, ?_⟩) ?_ ?_
 rotate_left
 ·intro w'
  go_simp
  with_reducible rfl
 rotate_left
 ·simp only [Act.put, putA, putB, putC]
  rfl
 refine one_ (i := 13) (N := none) #[true, true, true, true, true, true, true, true, true, true, true, true, true, true, false, false] rfl rfl (by kernel_rfl) (by decide) (fun K hK => ?_)
 refine skip_ (w1 := ?_) (by rfl) rfl ?_ ?_
 rotate_left
 ·go_simp
  rfl
 have HB2 := Lib.hid (HB1.out.setCell (p := ⟨w.heap.size + 1 + 1, 1, none⟩) (by show _ ≤ w.heap.size + 1 + 1; omega) (.int .u8 x4))
 refine hK.out _ _ ⟨cell_below HB2.out HC3.out.1, cell_below HB2.out HC3.out.2⟩ (fun hHeld => ?_)
 clear hK K
 refine pure_ (i := 14) (N := some 38) (v := ?_) (a' := ?_) #[true, true, true, true, true, true, true, true, true, true, true, true, true, true, true, false] rfl rfl (by kernel_rfl) (fun _ _ _ h => h) (Or.inl ⟨by rfl, ?_⟩) ?_ ?_
 rotate_left
 ·intro w'
  go_simp
  with_reducible rfl
 rotate_left
 ·simp only [Act.put, putA, putB, putC]
  rfl
 refine one_ (i := 15) (N := none) #[true, true, true, true, true, true, true, true, true, true, true, true, true, true, true, true] rfl rfl (by kernel_rfl) (by decide) (fun K hK => ?_)
 refine skip_ (w1 := ?_) (by rfl) rfl ?_ ?_
 rotate_left
 ·go_simp
  rfl
 have HB3 := Lib.hid (HB2.out.setCell (p := ⟨w.heap.size + 1 + 1, 2, none⟩) (by show _ ≤ w.heap.size + 1 + 1; omega) (.int .u32 (vs % 2147483648)))
 refine hK.out _ _ ⟨cell_below HB3.out HC3.out.1, cell_below HB3.out HC3.out.2⟩ (fun hHeld => ?_)
 clear hK K
 refine done_ (by kernel_rfl) ?_
 have HG5 := Lib.hid (HD2.out.sets x3 x4 (vs % 2147483648))
 clear y3 y4 z0 z1 z2 f0 f1 f2 hHeld HB0 HB1 HB2 HB3
 generalize ((w3.setCell ⟨w.heap.size + 1 + 1, 0, none⟩ (.int .u8 x3)).setCell ⟨w.heap.size + 1 + 1, 1, none⟩ (.int .u8 x4)).setCell ⟨w.heap.size + 1 + 1, 2, none⟩ (.int .u32 (vs % 2147483648)) = w5' at HG5 ⊢
 have bg : decide ((16393 : Int) < (l.length : Int)) = false := by rw [decide_eq_false_iff_not]; omega
 have bg' : decide (16393 < l.length) = false := by rw [decide_eq_false_iff_not]; omega
 have z0 := blk_cell HG5.out.b4 0
 have z1 := blk_cell HG5.out.b4 1
 have z2 := blk_cell HG5.out.b4 2
 have z3 := blk_cell HG5.out.b4 3
 have z4 := blk_cell HG5.out.b4 4
 have z5 := blk_cell HG5.out.b4 5
 have z6 := blk_cell HG5.out.b4 6
 have z7 := blk_cell HG5.out.b4 7
 have z8 := blk_cell HG5.out.b4 8
 have z9 := blk_cell HG5.out.b4 9
 have z10 := blk_cell HG5.out.b4 10
 simp at z0 z1 z2 z3 z4 z5 z6 z7 z8 z9 z10
 go_wp2_with fail
 refine (streams_strong _ (⟨x3, x4, vs % 2147483648, [], -1, 0, 0, 0, false, 0, []⟩ : Fr) nilS nilS).mono ?_
 rintro e w8 ⟨ve, rfl, hb8, hs8⟩
 rw [HXV.out.1, HXV.out.2.2] at hgood
 rcases hs8 with ⟨_, rfl⟩ | ⟨h, _⟩
 rotate_left
 ·rw [h] at hgood; cases hgood
 have hf8 : w8.heap[w5'.heap.size]? = some (.cells (frC (⟨x3, x4, vs % 2147483648, [], -1, 0, 0, 0, false, 0, []⟩ : Fr) nilS nilS) 38 (0, 0)) := blk_below (blk_new w5' _) hb8
 have HG8 := Lib.hid ((HG5.out.step (below_alloc (Below.refl _ _) (.cells (frC (⟨x3, x4, vs % 2147483648, [], -1, 0, 0, 0, false, 0, []⟩ : Fr) nilS nilS) 38))).step hb8)
 have HF8 := Lib.hid hf8
 have HB5 := Lib.hid (HG5.out.big)
 rw [HXV.out.1, HXV.out.2.1, HXV.out.2.2, HR9.out.2.2.2.2] at hr
 have HRd := Lib.hid hr
 clear hr hf8 hb8 hgood z0 z1 z2 z3 z4 z5 z6 z7 z8 z9 z10
 go_wp2_with fail
 have hx255 : 0 ≤ x3 ∧ x3 ≤ 255 := by
  rw [← HXV.out.1]
  refine HI.out.hby _ ?_
  rw [List.getD_eq_getElem?_getD, List.getElem?_eq_getElem (by omega)]
  exact List.getElem_mem _
 refine (read_calls w8 w5'.heap.size (blk_lt HF8.out) (⟨x3, x4, vs % 2147483648, [], -1, 0, 0, 0, false, 0, []⟩ : Fr) A9 (c - 9) L9 ⟨HF8.out⟩ rfl rfl (fun W' hk => HR9.out.1 W' (reads_after HI.out.rd HG8.out.bel (by have := HB5.out; omega) W' hk)) HR9.out.2.1 HR9.out.2.2.1 HR9.out.2.2.2.1 (wfB hx255)).mono ?_
 rw [HRd.out]
 rintro e w9 ⟨⟨hk9, hb9⟩, rfl, D, S, hI9, hD9, hS9⟩
 obtain ⟨AD, cD, rfl⟩ := Kd.R_slice hD9
 obtain ⟨AS, cS, rfl⟩ := Kd.R_slice hS9
 have HG9 := Lib.hid (HG8.out.far hb9 HB5.out)
 have HRows := Lib.hid (And.intro hD9 (And.intro hS9 HG8.out.big))
 have q0 := blk_cell hI9.blk 0
 have q1 := blk_cell hI9.blk 1
 have q2 := blk_cell hI9.blk 2
 have q3 := blk_cell hI9.blk 3
 have q4 := blk_cell hI9.blk 4
 have q5 := blk_cell hI9.blk 5
 have q6 := blk_cell hI9.blk 6
 have q7 := blk_cell hI9.blk 7
 have q8 := blk_cell hI9.blk 8
 have q9 := blk_cell hI9.blk 9
 have q10 := blk_cell hI9.blk 10
 simp at q0 q1 q2 q3 q4 q5 q6 q7 q8 q9 q10
 obtain ⟨c2, hc2, hs2⟩ := HG9.out.b2
 obtain ⟨c3, hc3, hs3⟩ := HG9.out.b3
 clear hk9 hb9 hI9 hD9 hS9
 go_wp2_with (first
  | (refine store_list (g := w.heap.size) (T := 38) (frC F (.slice AD F.data.length cD) (.slice AS F.sets.length cS)) (.tmp 2) (.tmp 58) (by rfl) (by rfl) (by rfl) (by rfl) (by rfl) hc2 hs2 Tryd.infoFr (by simp [Value.oneCell']) ?_; intro w10 hh10 hf10 hz10 hb10)
  | (refine store_list (g := w.heap.size + 1) (T := 24) #[.int .u8 0, .int .u32 0] (.tmp 3) (.tmp 59) (by rfl) (by rfl) (by rfl) (by rfl) (by rfl) ((hf10 _ (by omega)).trans hc3) hs3 Tryd.infoFa (by simp [Value.oneCell']) ?_; intro w11 hh11 hf11 hz11 hb11))
 have HZ := Lib.hid (HG9.out.answer hh10 hb10 hf11 hh11 hb11)
 refine bodyPost_ret (results_cc rfl _ _ w.heap.size (w.heap.size + 1) 38 24 (frC F (.slice AD F.data.length cD) (.slice AS F.sets.length cS)) #[.int .u8 0, .int .u32 0] (0, 0) (0, 0) _ _ rfl HZ.out.1 Tryd.underlying38 rfl Tryd.infoFr rfl HZ.out.2.1 Tryd.underlying24 rfl Tryd.infoFa) rfl (HP.out _ _ ⟨_, _, HZ.out.2.2, rfl, ?_, ?_⟩)
 ·exact rows_far HRows.out.1 (fun k hk => (hf11 k (by have := HRows.out.2.2; omega)).trans (hf10 k (by have := HRows.out.2.2; omega))) (by have := HRows.out.2.2; omega)
 ·exact rows_far HRows.out.2.1 (fun k hk => (hf11 k (by have := HRows.out.2.2; omega)).trans (hf10 k (by have := HRows.out.2.2; omega))) (by have := HRows.out.2.2; omega)
end Go.Proofs.YtjjfkmniffbgkaaDoor

/- What the printed walks ask of the world: the cell of errors.errorType alone. -/
namespace Go.Proofs.YtjjfkmniffbgkaaDoor
set_option linter.unusedVariables false
set_option linter.unusedSimpArgs false
open Go.RowKit
def WFact (w : World) : Prop := GV w
theorem WFact.below {w w' : World} (h : WFact w) (hb : Below w.heap.size w w') : WFact w' := GV.below h hb
end Go.Proofs.YtjjfkmniffbgkaaDoor

/- frame.Get: its contract in the printed form. -/
namespace Go.Proofs.YtjjfkmniffbgkaaDoor
set_option linter.unusedVariables false
set_option linter.unusedSimpArgs false
open Go.RowKit Go.Proofs.YtjjfkmniffbgkaaDoorW.PrintWords Go.Proofs.YtjjfkmniffbgkaaDoorW.PrintLast Go.Proofs.YtjjfkmniffbgkaaDoorW.PrintMore Go.Proofs.YtjjfkmniffbgkaaDoor.QFrmA Go.Extern.Stop Go.Stop Go.Extern Go.Maps
def getFr (l : List Int) : Fr × Int × Int :=
 if ¬ (9 ≤ l.length ∧ headN l = (l.length : Int)) then (noneF, 1, 6)
 else if 16393 < l.length then (hdF l, 1, 6)
 else if stBad (l.getD 3 0) (valL ((l.take 9).drop 5) % 2147483648) = true then (hdF l, 1, 1)
 else match readR ⟨l.getD 3 0, l.getD 4 0, valL ((l.take 9).drop 5) % 2147483648, [], -1, 0, 0, 0, false, 0, []⟩ (l.drop 9) with
  | .bad s c => (hdF l, s, c)
  | .ok F => (F, 0, 0)
theorem get_calls (w : World) (hgv : GV w) (A : Option Addr) (c : Nat) (l : List Int) (hR : ReadsInt w .u8 A l.length l) (hc : l.length ≤ c) (hby : Byte8 l) (hl : l.length ≤ 20000000) :
  Calls Tryd.prog 27 #[.slice A l.length c] w fun e w' => ∃ D S, e = .returned (.tuple #[.agg (frC (getFr l).1 D S), .agg #[.int .u8 (getFr l).2.1, .int .u32 (getFr l).2.2]]) ∧ (Kd.int .u8).R 5 w' w.heap.size (fun _ => True) D (getFr l).1.data ∧ k99.R 99 w' w.heap.size (fun _ => True) S (getFr l).1.sets ∧ Below w.heap.size w w' := by
 unfold getFr
 by_cases h1 : ¬ (9 ≤ l.length ∧ headN l = (l.length : Int))
 ·rw [if_pos h1]
  refine (get_short w hgv A c l hR hc hby hl h1).mono ?_
  rintro e w' ⟨hb, he⟩
  exact ⟨nilS, nilS, he, Kd.R_nil _ _ _ _ _, Kd.R_nil _ _ _ _ _, hb⟩
 rw [if_neg h1]
 have h1' := Classical.not_not.1 h1
 have hI : GIn w A c l := ⟨hR, hc, hby, hl, hgv, h1'.1, h1'.2⟩
 by_cases h2 : 16393 < l.length
 ·rw [if_pos h2]
  refine (get_great w A c l hI h2).mono ?_
  rintro e w' ⟨hb, he⟩
  exact ⟨nilS, nilS, he, Kd.R_nil _ _ _ _ _, Kd.R_nil _ _ _ _ _, hb⟩
 rw [if_neg h2]
 by_cases h3 : stBad (l.getD 3 0) (valL ((l.take 9).drop 5) % 2147483648) = true
 ·rw [if_pos h3]
  refine (get_stream w A c l hI h2 h3).mono ?_
  rintro e w' ⟨hb, he⟩
  exact ⟨nilS, nilS, he, Kd.R_nil _ _ _ _ _, Kd.R_nil _ _ _ _ _, hb⟩
 rw [if_neg h3]
 have h3' : stBad (l.getD 3 0) (valL ((l.take 9).drop 5) % 2147483648) = false := by simpa using h3
 cases hr : readR ⟨l.getD 3 0, l.getD 4 0, valL ((l.take 9).drop 5) % 2147483648, [], -1, 0, 0, 0, false, 0, []⟩ (l.drop 9) with
 | bad s cd =>
  refine (get_bad w A c l hI s cd h2 h3' hr).mono ?_
  rintro e w' ⟨hb, he⟩
  exact ⟨nilS, nilS, he, Kd.R_nil _ _ _ _ _, Kd.R_nil _ _ _ _ _, hb⟩
 | ok F =>
  refine (get_ok w A c l hI F h2 h3' hr).mono ?_
  rintro e w' ⟨D, S, hb, he, hD, hS⟩
  exact ⟨D, S, he, hD, hS, hb⟩
namespace Given
def byteB (l : List Int) : Bool := l.all fun x => decide (0 ≤ x) && decide (x ≤ 255)
theorem byteB_iff {l : List Int} : byteB l = true ↔ Byte8 l := by
 unfold byteB Byte8
 simp
def frame_Get.f (l0 : List Int) : Option (Int × Int × Int × List Int × Int × Int × Int × Int × Bool × Int × List S99 × Int × Int) :=
 if l0.length ≤ 100000 ∧ byteB l0 = true then some ((getFr l0).1.ty, (getFr l0).1.fl, (getFr l0).1.st, (getFr l0).1.data, (getFr l0).1.pad, (getFr l0).1.code, (getFr l0).1.oth, (getFr l0).1.wgt, (getFr l0).1.al, (getFr l0).1.win, (getFr l0).1.sets, (getFr l0).2.1, (getFr l0).2.2) else none
theorem frame_Get.calls (A0 : Option Addr) (c0 : Nat) (l0 : List Int) (r0 r1 r2 : Int) (r3 : List Int) (r4 r5 r6 r7 : Int) (r8 : Bool) (r9 : Int) (r10 : List S99) (r11 r12 : Int) (w : World) (hGV : Aside0 (WFact w)) (hr0 : Kd.C (Kd.int .u8) w A0 l0.length l0) (hc0 : l0.length ≤ c0) (h : frame_Get.f l0 = some (r0, r1, r2, r3, r4, r5, r6, r7, r8, r9, r10, r11, r12)) :
  Calls Tryd.prog 27 #[.slice A0 l0.length c0] w fun e w' => ∃ v0_ v1_ : Value, e = .returned (.tuple #[.agg #[.int .u8 r0, .int .u8 r1, .int .u32 r2, v0_, .int .i64 r4, .int .u32 r5, .int .u32 r6, .int .u8 r7, .bool r8, .int .u32 r9, v1_], .agg #[.int .u8 r11, .int .u32 r12]]) ∧ Kd.R (Kd.int .u8) 5 w' w.heap.size (fun _ => True) v0_ r3 ∧ Kd.R k99 99 w' w.heap.size (fun _ => True) v1_ r10 ∧ Below w.heap.size w w' := by
 unfold frame_Get.f at h
 split at h
 ·rename_i hs
  injection h with h
  simp only [Prod.mk.injEq] at h
  obtain ⟨h0, h1, h2, h3, h4, h5, h6, h7, h8, h9, h10, h11, h12⟩ := h
  subst h0 h1 h2 h3 h4 h5 h6 h7 h8 h9 h10 h11 h12
  exact get_calls w hGV.out A0 c0 l0 (Kd_reads hr0) hc0 (byteB_iff.1 hs.2) (Nat.le_trans hs.1 (by decide))
 ·cases h
end Given
end Go.Proofs.YtjjfkmniffbgkaaDoor
