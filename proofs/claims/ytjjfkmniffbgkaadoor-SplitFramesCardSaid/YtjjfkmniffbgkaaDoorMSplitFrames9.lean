/- Texts of this claim, put together: Split1, Split2, FrT, Hold4, Hold5, Split3, Split4. -/
import Derived.Test.YtjjfkmniffbgkaaDoorMSplitFrames8
import Derived.Laws.CopyOwn
import Derived.Maps.AppendAt
import Derived.Test.YtjjfkmniffbgkaaDoorMSplitFrames0
/- Package split's small functions, over what is held. (This text is printed by wip/gen/split1.py.) -/
namespace Go.Proofs.YtjjfkmniffbgkaaDoor
set_option linter.unusedVariables false
set_option linter.unusedSimpArgs false
open Go.RowKit Go.Proofs.YtjjfkmniffbgkaaDoorW.PrintWords Go.Proofs.YtjjfkmniffbgkaaDoorW.PrintLast Go.Proofs.YtjjfkmniffbgkaaDoorW.PrintMore Go.Proofs.YtjjfkmniffbgkaaDoor.QFrmA Go.Proofs.YtjjfkmniffbgkaaDoor.Given Go.Extern.Stop Go.Stop Go.Extern Go.Maps
attribute [local go_sem] max2_int min2_int max_two min_two
abbrev spO (g : Nat) (v : Value) (s : Sp) : Own := cl g [v, .bool s.waits, .bool s.bad] 105
abbrev spR (v : Value) (s : Sp) : Own := nrow 5 v .u8 s.b
structure IsSp (W : World) (g : Nat) (v : Value) (s : Sp) : Prop where
 blk : W.heap[g]? = some (.cells #[v, .bool s.waits, .bool s.bad] 105 (0, 0))
 own : W.ownsRow 0 5 1 v s.b.length (nums .u8 s.b)
theorem IsSp.hold {W : World} {g : Nat} {v : Value} {s : Sp} (h : IsSp W g v s) : Hold W W (ats [spO g v s, spR v s]) [spO g v s, spR v s] := by
 refine Hold.start (fun o ho => ?_) ?_
 ·simp only [List.mem_cons, List.not_mem_nil, or_false] at ho
  rcases ho with rfl | rfl
  ·exact h.blk
  ·exact h.own
 ·refine List.Pairwise.cons (fun b hb k hk hk2 => ?_) (List.pairwise_singleton _ _)
  obtain rfl := List.mem_singleton.1 hb
  obtain rfl := List.mem_singleton.1 hk
  exact own_ne h.own h.blk (by decide) (Option.mem_toList.1 hk2).symm
theorem Hold.sp {w W : World} {t : List Nat} {l : List Own} (H : Hold w W t l) {g : Nat} {v : Value} {s : Sp} (h1 : spO g v s ∈ l) (h2 : spR v s ∈ l) : IsSp W g v s := ⟨H.blk h1, H.row h2⟩
theorem IsSp.below {W W1 : World} {g : Nat} {v : Value} {s : Sp} (h : IsSp W g v s) (hb : Below W.heap.size W W1) : IsSp W1 g v s := ⟨blk_below h.blk hb, pw_own_below h.own hb⟩
theorem Hold.set {w W : World} {t : List Nat} {l l' : List Own} (H : Hold w W t l) {g k : Nat} {cs : List Value} {bt : TypeId} (u : Value) (hm : Put l (cl g cs bt) (cl g (cs.set k u) bt) l') : Hold w (W.setCell ⟨g, k, none⟩ u) t l' := by
 obtain ⟨r, hp1, _⟩ := hm.perm
 have hb := H.blk (cs := cs) (hp1.mem_iff.2 (List.Mem.head _))
 refine H.put hm (Hold.store ⟨rfl, rfl, rfl, by simp [World.setCell], fun i hi => Below.heap_setCell _ ⟨g, k, none⟩ _ i hi⟩ ?_)
 have := blk_set hb k u
 simpa using this
theorem new_split (w : World) (p : Bool) : Calls Tryd.prog 33 #[.bool p] w fun e w' => ∃ g, e = .returned (.pointer (some ⟨g, 0, none⟩)) ∧ Hold w w' [] [spO g nilS ⟨[], p, false⟩, spR nilS ⟨[], p, false⟩] := by
 refine of_post0 fun R hRR => ?_
 have HP := Lib.hid hRR
 clear hRR
 have H : Hold w w [] [nrow 5 nilS .u8 []] := Hold.made (Below.refl _ _) (own_nil _ _ _ _) (fun k hk => by cases hk)
 go_enter Tryd.func33, Tryd.ntmps33
 go_wp2_with (first
  | (refine box_h H rfl rfl rfl rfl ?_; clear H; intro g w_ H))
 exact HP.out _ _ ⟨_, rfl, H⟩
theorem bad_calls (w : World) (g : Nat) (v : Value) (x y : Bool) (h : w.heap[g]? = some (.cells #[v, .bool x, .bool y] 105 (0, 0))) :
  Calls Tryd.prog 37 #[.pointer (some ⟨g, 0, none⟩)] w fun e w' => e = .returned (.bool y) ∧ Below w.heap.size w w' := by
 have q2 := blk_cell h 2
 simp at q2
 go_enter Tryd.func37, Tryd.ntmps37
 go_wp2
 go_ret
 exact ⟨rfl, Below.refl _ _⟩
theorem held_calls (w : World) (g : Nat) (v : Value) (s : Sp) (h : IsSp w g v s) :
  Calls Tryd.prog 38 #[.pointer (some ⟨g, 0, none⟩)] w fun e w' => e = .returned (.int .i64 (s.b.length : Int)) ∧ Below w.heap.size w w' := by
 obtain ⟨A, c, rfl⟩ := own_slice h.own
 have q0 := blk_cell h.blk 0
 simp at q0
 go_enter Tryd.func38, Tryd.ntmps38
 go_wp2
 go_ret
 exact ⟨rfl, Below.refl _ _⟩
theorem feed_bad (w : World) (g : Nat) (v : Value) (s : Sp) (h : IsSp w g v s) (hb : s.bad = true) (A : Option Addr) (n c : Nat) : Calls Tryd.prog 40 #[.pointer (some ⟨g, 0, none⟩), .slice A n c] w fun e w' => e = .returned (.int .i64 0) ∧ Below w.heap.size w w' := by
 refine of_post0 fun R hRR => ?_
 have HP := Lib.hid hRR
 have hC := fun W (hb2 : Below w.heap.size w W) => bad_calls W g v s.waits s.bad (h.below hb2).blk
 rw [hb] at hC
 have HC := Lib.hid hC
 clear hRR h hC hb
 have H : Hold w w [] [] := Hold.nothing (Kept.refl _ _)
 go_enter Tryd.func40, Tryd.ntmps40
 go_wp2_with (first
  | (go_at_call 37; refine (HC.out _ H.all).mono ?_; rintro e_ w_ ⟨rfl, h_⟩; replace H := H.below h_; clear h_))
 exact HP.out _ _ ⟨rfl, H.all⟩
def feedN (s : Sp) (xs : List Int) : Nat := min xs.length (16393 - s.b.length)
set_option maxHeartbeats 4000000 in
set_option maxRecDepth 100000 in
theorem feed_good (w : World) (g : Nat) (v : Value) (s : Sp) (h : IsSp w g v s) (hb : s.bad = false) (hl : s.b.length ≤ 16393) (A : Option Addr) (c : Nat) (xs : List Int) (hR : ReadsInt w .u8 A xs.length xs) (hc : xs.length ≤ c) :
  Calls Tryd.prog 40 #[.pointer (some ⟨g, 0, none⟩), .slice A xs.length c] w fun e w' => ∃ v', e = .returned (.int .i64 ((feedN s xs : Nat) : Int)) ∧ Hold w w' (ats [spO g v s, spR v s]) [spO g v' ⟨s.b ++ xs.take (feedN s xs), s.waits, false⟩, spR v' ⟨s.b ++ xs.take (feedN s xs), s.waits, false⟩] := by
 obtain ⟨b, x, y⟩ := s
 simp only at hb hl
 subst hb
 obtain ⟨A1, c1, rfl⟩ := own_slice h.own
 unfold feedN
 simp only
 generalize hn : min xs.length (16393 - b.length) = n
 have hnx : n ≤ xs.length := by omega
 have hm : (if 16393 - (b.length : Int) < (xs.length : Int) then 16393 - (b.length : Int) else (xs.length : Int)) = (n : Int) := by
  split <;> omega
 obtain ⟨i0, hi, _, hsz, _⟩ := info_parts Tryd.infoB8
 obtain ⟨hcut, hr, hc2⟩ := print_take_int (P := Tryd.prog) (k := .u8) 35 5 Tryd.underlying35 hi hsz A c xs (n : Int) (by omega) (by omega) hc
 rw [Int.toNat_natCast] at hcut hr hc2
 have hR2 : ReadsInt w .u8 A n (xs.take n) := hR.take_ n hnx
 refine of_post0 fun R hRR => ?_
 have HP := Lib.hid hRR
 have H : Hold w w _ _ := h.hold
 have HR := Lib.hid (And.intro hR2 hl)
 have hsp := Lib.hid h.blk
 have e4 : (n : Int) ≤ (xs.length : Int) := by omega
 have e5 : n ≤ xs.length := hnx
 have hnl : (xs.take n).length = n := by rw [List.length_take]; omega
 rw [hnl] at hcut
 clear hRR h hr hR hi hsz hR2 hn
 go_enter Tryd.func40, Tryd.ntmps40
 go_upto_region 4 with (first
  | (go_at_call 37; refine (bad_calls _ g _ _ _ (H.blk (by repeat (first | exact List.Mem.head _ | apply List.Mem.tail)))).mono ?_; rintro e_ w_ ⟨rfl, h_⟩; have HR2 := Lib.hid (And.intro (HR.out.1.below h_) HR.out.2); replace H := H.below h_; clear h_)
  | (refine loadf_h H rfl rfl rfl (by repeat (first | exact List.Mem.head _ | apply List.Mem.tail)) rfl (by kernel_rfl) ?_))
 replace H := H.below (below_drew (Below.refl _ _))
 have hR3 := HR2.out.1.below (below_drew (Below.refl _ _))
 have e0 := H.cell (g := g) (by repeat (first | exact List.Mem.head _ | apply List.Mem.tail)) 0
 simp at e0
 go_region_law (first
  | (refine append_o H rfl rfl 1 Tryd.underlying35 Tryd.infoB8 (by decide) (xs.take n) rfl rfl (fun y => (by repeat (first | exact Put.head | apply Put.tail))) hR3 (by have := HR2.out.2; simp; omega) ?_; clear H; intro v1_ w_ H h_; obtain ⟨A2_, c2_, e2_⟩ := own_slice (H.row (e := 5) (v := v1_) (k := .u8) (xs := b ++ xs.take n) (by repeat (first | exact List.Mem.head _ | apply List.Mem.tail))); rw [List.length_append, hnl] at e2_; subst e2_; have e0 := H.cell (g := g) (by repeat (first | exact List.Mem.head _ | apply List.Mem.tail)) 0; simp at e0; have f0 := blk_frozen (H.blk (g := g) (by repeat (first | exact List.Mem.head _ | apply List.Mem.tail))) 0))
 all_goals
  replace H := H.set (g := g) (k := 0) (.slice A2_ (b.length + n) c2_) (by repeat (first | exact Put.head | apply Put.tail))
  go_wp2_with fail
  exact HP.out _ _ ⟨_, rfl, H⟩

theorem own_zero {w : World} {base n size : Nat} {e : TypeId} {v : Value} {xs : List Value} (h : w.ownsRow base e size v n xs) : w.ownsRow 0 e size v n xs :=
 ⟨h.1, h.2.imp id fun ⟨g, cap, cur, e, _, r⟩ => ⟨g, cap, cur, e, Nat.zero_le _, r⟩⟩
theorem clone_got (w : World) (A : Option Addr) (n c : Nat) (data : List Int) (hR : ReadsInt w .u8 A n data) (hn : n ≤ 100000) :
  Calls Tryd.prog 68 #[.slice A n c] w fun e w' => ∃ v, e = .returned v ∧ Hold w w' [] [nrow 5 v .u8 data] := by
 refine (clone_calls w A n c data hR hn).mono ?_
 rintro e w' ⟨v, rfl, ho, hb⟩
 exact ⟨v, rfl, Hold.made hb (own_zero ho) fun k hk => own_base ho k (Option.mem_toList.1 hk)⟩
set_option maxHeartbeats 2000000 in
theorem spfails_calls (w : World) (g : Nat) (v : Value) (s : Sp) (h : IsSp w g v s) : Calls Tryd.prog 67 #[.pointer (some ⟨g, 0, none⟩)] w fun e w' => e = .returned (.tuple #[]) ∧ Hold w w' (ats [spO g v s, spR v s]) [spO g nilS ⟨[], s.waits, true⟩, spR nilS ⟨[], s.waits, true⟩] := by
 refine of_post0 fun R hRR => ?_
 have HP := Lib.hid hRR
 have H : Hold w w (ats [spO g v s, spR v s]) [spO g v s, spR v s] := h.hold
 obtain ⟨b, x, y⟩ := s
 clear hRR h
 go_enter Tryd.func67, Tryd.ntmps67
 go_wp2_with (first
  | (refine is_store rfl ?_; refine store_h H rfl rfl rfl rfl rfl (by repeat (first | exact Put.head | apply Put.tail)) (by kernel_rfl) (Nat.le_of_ble_eq_true rfl) rfl ?_; clear H; intro w_ H; simp only [setC, Value.cells, List.toList_toArray] at H))
 refine bodyPost_end (results_none rfl _ _ _) rfl (HP.out _ _ ⟨rfl, ?_⟩)
 have H2 := H.sub (l' := [spO g nilS ⟨b, x, true⟩]) (by repeat (first | exact List.Sublist.slnil | apply List.Sublist.cons_cons | apply List.Sublist.cons))
 exact (Hold.push (l1 := [nrow 5 nilS .u8 []]) H2 (Hold.made (Below.refl _ _) (own_nil _ _ _ _) (fun k hk => by cases hk))).perm (List.Perm.swap _ _ _)
theorem reads_own {w : World} {base n c : Nat} {e : TypeId} {k : IntKind} {A : Option Addr} {xs : List Int} (h : w.ownsRow base e 1 (.slice A n c) n (nums k xs)) : ReadsInt w k A n xs := by
 obtain ⟨A', c', e, h'⟩ := own_reads h
 cases e
 exact h'
theorem H2_ {w W : World} {t : List Nat} {e : TypeId} {v : Value} {k : IntKind} {xs : List Int} (h : Hold w W t [nrow e v k xs]) : W.ownsRow 0 e 1 v xs.length (nums k xs) := h.row (List.Mem.head _)
theorem pre_str : strOfNums pre24 = ⟨#[80, 82, 73, 32, 42, 32, 72, 84, 84, 80, 47, 50, 46, 48, 13, 10, 13, 10, 83, 77, 13, 10, 13, 10]⟩ := by
 rfl
theorem str_ne {l m : List Int} (hl : Byte8 l) (hm : Byte8 m) : (strOfNums l).toList = (strOfNums m).toList ↔ l = m := by
 constructor
 ·intro h
  have := congrArg (List.map fun b : UInt8 => (b.toNat : Int)) h
  rw [ByteArray.toList_eq, ByteArray.toList_eq] at this
  have e1 := bytes_str hl
  have e2 := bytes_str hm
  unfold bytesOf at e1 e2
  exact e1.symm.trans (this.trans e2)
 ·rintro rfl; rfl
theorem pre24_byte : Byte8 pre24 := by
 intro x hx
 simp only [pre24, List.mem_cons, List.not_mem_nil, or_false] at hx
 omega
structure BIn (W : World) (A : Option Addr) (c n : Nat) (b : List Int) (ne : Bool) : Prop where
 cut : ∀ W : World, (Instr.slice 35 (.slice A b.length c) none (some (.int .i64 (n : Int))) none).run Tryd.prog W = .ok (.slice A n c) W
 conv : ∀ W1, Below W.heap.size W W1 → (convert 35 9 (.slice A n c)).run Tryd.prog W1 = .ok (.string (strOfNums (b.take n))) W1
 pre : ∀ W : World, (Instr.slice 9 (.string ⟨#[80, 82, 73, 32, 42, 32, 72, 84, 84, 80, 47, 50, 46, 48, 13, 10, 13, 10, 83, 77, 13, 10, 13, 10]⟩) none (some (.int .i64 (n : Int))) none).run Tryd.prog W = .ok (.string (strOfNums (pre24.take n))) W
 ne_ : ((strOfNums (b.take n)).toList == (strOfNums (pre24.take n)).toList) = ne
 mn : (if (24 : Int) < (b.length : Int) then (24 : Int) else (b.length : Int)) = (n : Int)
theorem bin_of {W : World} {A : Option Addr} {c : Nat} {b : List Int} (hR : ReadsInt W .u8 A b.length b) (hc : b.length ≤ c) (hby : Byte8 b) : BIn W A c (min 24 b.length) b (preOk b) := by
 obtain ⟨i0, hi, _, hsz, _⟩ := info_parts Tryd.infoB8
 obtain ⟨hcut, hr, hc2⟩ := print_take_int (P := Tryd.prog) (k := .u8) 35 5 Tryd.underlying35 hi hsz A c b ((min 24 b.length : Nat) : Int) (by omega) (by omega) hc
 rw [Int.toNat_natCast] at hcut hr hc2
 have hl : (b.take (min 24 b.length)).length = min 24 b.length := by rw [List.length_take]; omega
 rw [hl] at hcut hr
 refine ⟨hcut, fun W1 hb => string_of_reads Tryd.underlying35 Tryd.underlying5 Tryd.underlying9 (hr W1 (hR.below hb)), fun W => ?_, ?_, by split <;> omega⟩
 ·have := run_to_str pre24 ((min 24 b.length : Nat) : Int) (by omega) (by show _ ≤ (24 : Int); omega) W
  rw [pre_str, Int.toNat_natCast] at this
  exact this
 ·have hb1 : Byte8 (b.take (min 24 b.length)) := fun x hx => hby x (List.mem_of_mem_take hx)
  have hb2 : Byte8 (pre24.take (min 24 b.length)) := fun x hx => pre24_byte x (List.mem_of_mem_take hx)
  unfold preOk
  rw [Bool.eq_iff_iff, beq_iff_eq, beq_iff_eq]
  exact str_ne hb1 hb2
theorem own_reads2 {w : World} {base n : Nat} {e : TypeId} {k : IntKind} {v : Value} {xs : List Int} (h : w.ownsRow base e 1 v n (nums k xs)) : ∃ A c, v = .slice A n c ∧ ReadsInt w k A n xs ∧ n ≤ c := by
 obtain ⟨A, c, rfl, hR⟩ := own_reads h
 refine ⟨A, c, rfl, hR, ?_⟩
 rcases h.2 with ⟨e, e2⟩ | ⟨g, cap, cur, e, _, _, hcap, _⟩
 ·have := hR.1
  cases e
  omega
 ·cases e
  first | exact hcap | omega
set_option maxHeartbeats 4000000 in
set_option maxRecDepth 100000 in
theorem begins_bad (w : World) (g : Nat) (v : Value) (s : Sp) (h : IsSp w g v s) (hby : Byte8 s.b) (hp : preOk s.b = false) : Calls Tryd.prog 66 #[.pointer (some ⟨g, 0, none⟩)] w fun e w' => e = .returned (.bool false) ∧ Hold w w' (ats [spO g v s, spR v s]) [spO g nilS ⟨[], s.waits, true⟩, spR nilS ⟨[], s.waits, true⟩] := by
 refine of_post0 fun R hRR => ?_
 have HP := Lib.hid hRR
 obtain ⟨A0, c0, hv, hR, hc⟩ := own_reads2 h.own
 have hI := bin_of hR hc hby
 rw [hp] at hI
 have H : Hold w w (ats [spO g v s, spR v s]) [spO g v s, spR v s] := h.hold
 have HS := Lib.hid h
 obtain ⟨b, x, y⟩ := s
 subst hv
 have hm := hI.mn
 generalize min 24 b.length = n at hI hm
 have HI := Lib.hid hI
 clear hRR h hR hc hp hI
 go_enter Tryd.func66, Tryd.ntmps66
 go_upto_region 2 with (first
  | (refine loadf_h H rfl rfl rfl (by repeat (first | exact List.Mem.head _ | apply List.Mem.tail)) rfl (by kernel_rfl) ?_))
 replace H := H.below (below_drew (Below.refl _ _))
 have hI := HI.out
 have e0 := H.cell (g := g) (by repeat (first | exact List.Mem.head _ | apply List.Mem.tail)) 0
 simp at e0
 have k0 := (hI.conv _ (below_drew (Below.refl _ _)))
 have k1 := hI.cut
 have k2 := hI.pre
 have k3 := hI.ne_
 go_region
 go_wp2_with (first
  | (go_at_call 67; refine (spfails_calls _ g _ _ (H.sp (by repeat (first | exact List.Mem.head _ | apply List.Mem.tail)) (by repeat (first | exact List.Mem.head _ | apply List.Mem.tail)))).mono ?_; rintro e_ w_ ⟨rfl, h_⟩; replace H := Hold.call (l0 := [spO g (.slice A0 b.length c0) ⟨b, x, y⟩, spR (.slice A0 b.length c0) ⟨b, x, y⟩]) (r := []) H h_; clear h_))
 exact HP.out _ _ ⟨rfl, H⟩
set_option maxHeartbeats 4000000 in
set_option maxRecDepth 100000 in
theorem begins_short (w : World) (g : Nat) (v : Value) (s : Sp) (h : IsSp w g v s) (hby : Byte8 s.b) (hp : preOk s.b = true) (hl : s.b.length < 24) : Calls Tryd.prog 66 #[.pointer (some ⟨g, 0, none⟩)] w fun e w' => e = .returned (.bool false) ∧ Hold w w' (ats [spO g v s, spR v s]) [spO g v s, spR v s] := by
 refine of_post0 fun R hRR => ?_
 have HP := Lib.hid hRR
 obtain ⟨A0, c0, hv, hR, hc⟩ := own_reads2 h.own
 have hI := bin_of hR hc hby
 rw [hp] at hI
 have H : Hold w w (ats [spO g v s, spR v s]) [spO g v s, spR v s] := h.hold
 obtain ⟨b, x, y⟩ := s
 subst hv
 have hm := hI.mn
 have hn : (((min 24 b.length : Nat) : Int) < 24) := by simp only at hl; omega
 generalize min 24 b.length = n at hI hm hn
 have hn2 : decide ((n : Int) < 24) = true := decide_eq_true hn
 have hn3 : decide (n < 24) = true := decide_eq_true (by omega)
 have HI := Lib.hid hI
 clear hRR h hR hc hp hI hl
 go_enter Tryd.func66, Tryd.ntmps66
 go_upto_region 2 with (first
  | (refine loadf_h H rfl rfl rfl (by repeat (first | exact List.Mem.head _ | apply List.Mem.tail)) rfl (by kernel_rfl) ?_))
 replace H := H.below (below_drew (Below.refl _ _))
 have hI := HI.out
 have e0 := H.cell (g := g) (by repeat (first | exact List.Mem.head _ | apply List.Mem.tail)) 0
 simp at e0
 have k0 := (hI.conv _ (below_drew (Below.refl _ _)))
 have k1 := hI.cut
 have k2 := hI.pre
 have k3 := hI.ne_
 go_region
 go_wp2_with fail
 exact HP.out _ _ ⟨rfl, H⟩
set_option maxHeartbeats 4000000 in
set_option maxRecDepth 100000 in
theorem begins_ok (w : World) (g : Nat) (v : Value) (s : Sp) (h : IsSp w g v s) (hby : Byte8 s.b) (hp : preOk s.b = true) (hl : 24 ≤ s.b.length) (hl2 : s.b.length ≤ 16393) : Calls Tryd.prog 66 #[.pointer (some ⟨g, 0, none⟩)] w fun e w' => ∃ v', e = .returned (.bool true) ∧ Hold w w' (ats [spO g v s, spR v s]) [spO g v' ⟨s.b.drop 24, false, s.bad⟩, spR v' ⟨s.b.drop 24, false, s.bad⟩] := by
 refine of_post0 fun R hRR => ?_
 have HP := Lib.hid hRR
 obtain ⟨A0, c0, hv, hR, hc⟩ := own_reads2 h.own
 have hI := bin_of hR hc hby
 rw [hp] at hI
 have H : Hold w w (ats [spO g v s, spR v s]) [spO g v s, spR v s] := h.hold
 obtain ⟨b, x, y⟩ := s
 simp only at hl hl2 hc hR hby hp
 subst hv
 have hm := hI.mn
 have hn : min 24 b.length = 24 := by omega
 rw [show b.drop 24 = b.drop (min 24 b.length) by rw [hn]] at HP
 generalize min 24 b.length = n at hI hm hn HP
 obtain ⟨i0, hi, _, hsz, _⟩ := info_parts Tryd.infoB8
 obtain ⟨A2, hcut2, hr2, hm2⟩ := print_drop_of (P := Tryd.prog) (Value.int .u8) (0 : Int) 35 5 .i64 Tryd.underlying35 hi hsz A0 c0 b (n : Int) (by omega) (by omega) hc
 rw [Int.toNat_natCast] at hcut2 hr2 hm2
 have hl3 : (b.drop n).length ≤ 100000 := by rw [List.length_drop]; omega
 have HC := Lib.hid (fun W (hW : ReadsInt W .u8 A0 b.length b) => clone_got W A2 _ (c0 - n) (b.drop n) (hr2 W hW) hl3)
 have hn5 : (n : Int) ≤ (b.length : Int) := by omega
 have hn2 : decide ((n : Int) < 24) = false := decide_eq_false (by omega)
 have hn3 : decide (n < 24) = false := decide_eq_false (by omega)
 generalize hL : b.drop n = L at hcut2 HC HP
 have HI := Lib.hid hI
 clear hRR h hR hc hp hI hl hl2 hi hsz hr2 hl3 hn hL
 go_enter Tryd.func66, Tryd.ntmps66
 go_upto_region 2 with (first
  | (refine loadf_h H rfl rfl rfl (by repeat (first | exact List.Mem.head _ | apply List.Mem.tail)) rfl (by kernel_rfl) ?_))
 replace H := H.below (below_drew (Below.refl _ _))
 have hI := HI.out
 have e0 := H.cell (g := g) (by repeat (first | exact List.Mem.head _ | apply List.Mem.tail)) 0
 simp at e0
 have k0 := (hI.conv _ (below_drew (Below.refl _ _)))
 have k1 := hI.cut
 have k2 := hI.pre
 have k3 := hI.ne_
 go_region
 go_wp2_with (first
  | (refine loadf_h H rfl rfl rfl (by repeat (first | exact List.Mem.head _ | apply List.Mem.tail)) rfl (by kernel_rfl) ?_)
  | (refine is_store rfl ?_; refine store_h H rfl rfl rfl rfl rfl (by repeat (first | exact Put.head | apply Put.tail)) (by kernel_rfl) (Nat.le_of_ble_eq_true rfl) rfl ?_; clear H; intro w_ H; simp only [setC, Value.cells, List.toList_toArray] at H)
  | (go_at_call 68; refine (HC.out _ (reads_own (H.row (by repeat (first | exact List.Mem.head _ | apply List.Mem.tail))))).mono ?_; rintro e_ w_ ⟨v2, rfl, h_⟩; have hsl := (own_slice (H2_ h_)); obtain ⟨A3, c3, rfl⟩ := hsl; replace H := Hold.push H h_; clear h_))
 have H2 : Hold w _ _ [nrow 5 (.slice A3 L.length c3) .u8 L, spO g (.slice A3 L.length c3) ⟨L, false, y⟩] := H.sub (List.Sublist.cons_cons _ (List.Sublist.cons_cons _ (List.Sublist.cons _ List.Sublist.slnil)))
 exact HP.out _ _ ⟨_, rfl, H2.perm (List.Perm.swap _ _ _)⟩
end Go.Proofs.YtjjfkmniffbgkaaDoor

/- What is held of a frame that came: its rows. No program. -/
namespace Go.Proofs.YtjjfkmniffbgkaaDoor
set_option linter.unusedVariables false
set_option linter.unusedSimpArgs false
open Go.RowKit Go.Proofs.YtjjfkmniffbgkaaDoorW.PrintWords Go.Proofs.YtjjfkmniffbgkaaDoorW.PrintLast Go.Proofs.YtjjfkmniffbgkaaDoorW.PrintMore Go.Proofs.YtjjfkmniffbgkaaDoor.QFrmA Go.Proofs.YtjjfkmniffbgkaaDoor.Given Go.Extern.Stop Go.Stop Go.Extern Go.Maps
theorem C99_blk {W W1 : World} {A : Option Addr} {n : Nat} {xs : List S99} (hC : k99.C W A n xs) (h : ∀ a, A = some a → 0 < n → W1.heap[a.block]? = W.heap[a.block]?) : k99.C W1 A n xs :=
 ⟨hC.1, hC.2.1, fun hn => by
  obtain ⟨ad, e, hc⟩ := hC.2.2 hn
  refine ⟨ad, e, fun j p hj => ?_⟩
  obtain ⟨c, hs, hr, hcell⟩ := hc j p hj
  refine ⟨c, hs, hr, fun i u hu => ?_⟩
  rw [← hcell i u hu]
  exact World.cell?_of_block (by rw [add_block]; exact h ad e hn)⟩
theorem C99_lt {W : World} {ad : Addr} {n : Nat} {xs : List S99} (hC : k99.C W (some ad) n xs) (hn : 0 < n) : ad.block < W.heap.size := by
 obtain ⟨ad', e, hc⟩ := hC.2.2 hn
 obtain rfl := Option.some.inj e
 have hl : 0 < xs.length := by have := hC.1; omega
 obtain ⟨c, hs, hr, hcell⟩ := hc 0 xs[0] (by simp [hl])
 have hs2 : c.length = 2 := hs
 have := World.block_lt_of_cell? W _ (hcell 0 (c[0]'(by omega)) (List.getElem?_eq_getElem (by omega)))
 rw [add_block] at this
 exact this
def blks (A : Option Addr) (n : Nat) : List Nat := if n = 0 then [] else (A.map (·.block)).toList
theorem mem_blks {ad : Addr} {n : Nat} (hn : 0 < n) : ad.block ∈ blks (some ad) n := by
 unfold blks
 rw [if_neg (by omega)]
 exact Option.mem_toList.2 rfl
theorem blks_some {A : Option Addr} {n k : Nat} (h : k ∈ blks A n) : 0 < n ∧ ∃ ad, A = some ad ∧ ad.block = k := by
 unfold blks at h
 split at h
 ·cases h
 ·obtain ⟨ad, e1, e2⟩ := Option.map_eq_some_iff.1 (Option.mem_toList.1 h)
  exact ⟨by omega, ad, e1, e2⟩
def frThing (A : Option Addr) (c : Nat) (B : Option Addr) (m : Nat) (G : Fr) : Own :=
 .thing (blks A G.data.length ++ blks B G.sets.length) (fun W => (ReadsInt W .u8 A G.data.length G.data ∧ G.data.length ≤ c) ∧ k99.C W B G.sets.length G.sets ∧ G.sets.length ≤ m)
  (fun W W1 h hb => ⟨⟨⟨h.1.1.1, h.1.1.2.1, fun hn => by
   obtain ⟨ad, rfl, hc⟩ := h.1.1.2.2 hn
   refine ⟨ad, rfl, fun j hj => ?_⟩
   rw [← hc j hj]
   exact World.cell?_of_block (by rw [add_block]; exact hb _ (List.mem_append_left _ (mem_blks hn)))⟩, h.1.2⟩, C99_blk h.2.1 (fun a e hn => by subst e; exact hb _ (List.mem_append_right _ (mem_blks hn))), h.2.2⟩)
  (fun W k h hk => by
   rcases List.mem_append.1 hk with hk | hk
   ·obtain ⟨hn, ad, rfl, rfl⟩ := blks_some hk
    obtain ⟨ad', e, hc⟩ := h.1.1.2.2 hn
    obtain rfl := Option.some.inj e
    have := World.block_lt_of_cell? W _ (hc 0 hn)
    rw [add_block] at this
    exact this
   ·obtain ⟨hn, ad, rfl, rfl⟩ := blks_some hk
    exact C99_lt h.2.1 hn)
theorem frThing_hold {W W1 : World} {G : Fr} {A : Option Addr} {c : Nat} {B : Option Addr} {m : Nat} (hb : Below W.heap.size W W1) (h1 : ReadsInt W1 .u8 A G.data.length G.data ∧ G.data.length ≤ c ∧ ∀ a, A = some a → W.heap.size ≤ a.block) (h2 : k99.C W1 B G.sets.length G.sets ∧ G.sets.length ≤ m ∧ ∀ a, B = some a → W.heap.size ≤ a.block) :
  Hold W W1 [] [frThing A c B m G] :=
 ⟨Kept.of_below hb, fun o ho => by rw [List.mem_singleton.1 ho]; exact ⟨⟨h1.1, h1.2.1⟩, h2.1, h2.2.1⟩, List.pairwise_singleton _ _, fun o ho k hk => by
  rw [List.mem_singleton.1 ho] at hk
  rcases List.mem_append.1 hk with hk | hk
  ·obtain ⟨hn, ad, rfl, rfl⟩ := blks_some hk
   exact .inl (h1.2.2 ad rfl)
  ·obtain ⟨hn, ad, rfl, rfl⟩ := blks_some hk
   exact .inl (h2.2.2 ad rfl)⟩
theorem Hold.fr {w W : World} {t : List Nat} {l : List Own} (H : Hold w W t l) {A : Option Addr} {c : Nat} {B : Option Addr} {m : Nat} {G : Fr} (h : frThing A c B m G ∈ l) : (ReadsInt W .u8 A G.data.length G.data ∧ G.data.length ≤ c) ∧ k99.C W B G.sets.length G.sets ∧ G.sets.length ≤ m := H.ok _ h
theorem frC_inj {G : Fr} {A A' B B' : Option Addr} {n k c c' m m' : Nat} (h : frC G (.slice A n c) (.slice B k m) = frC G (.slice A' n c') (.slice B' k m')) : A = A' ∧ c = c' ∧ B = B' ∧ m = m' := by
 simp only [frC, Array.mk.injEq, List.cons.injEq, Value.slice.injEq, and_true, true_and] at h
 exact ⟨h.1.1, h.1.2, h.2.1, h.2.2⟩
end Go.Proofs.YtjjfkmniffbgkaaDoor

/- What a walk holds: copy into a row of its own. No program. -/
namespace Go.Proofs.YtjjfkmniffbgkaaDoor
set_option linter.unusedVariables false
set_option linter.unusedSimpArgs false
open Go.RowKit Go.Proofs.YtjjfkmniffbgkaaDoorW.PrintWords
section
variable {P : Program} {ops : Array Oper} {rest : List Oper} {o : Oper} {a : Act} {Q : Exit → Act → World → Prop} {w W : World} {t : List Nat} {l : List Own}
theorem copy_h (H : Hold w W t l) (hgd : o.guard = none) {d s : Operand} {st : TypeId} (ho : o.op = .call { callee := .builtin .copy, args := #[d, s], argTypes := #[st, st] }) {e : TypeId} {k : IntKind}
  (hu : P.underlying st = some (.slice e)) (hsz : (P.info? e).map (·.size) = some 1) {v : Value} {xs : List Int} (ys : List Int) {A : Option Addr} {m c : Nat} (hd : a.eval d = v) (hs : a.eval s = .slice A m c) {l' : List Own}
  (hm : Put l (nrow e v k xs) (nrow e v k (ys ++ xs.drop m)) l') (HR : ReadsInt W k A m ys) (hle : m ≤ xs.length) (h : ∀ w1, Hold w w1 t l' → wpList P ops Q rest (a.put o.dst (goInt m)) w1) : wpList P ops Q (o :: rest) a W := by
 obtain ⟨r, hp1, _⟩ := hm.perm
 have hrow := H.row (e := e) (v := v) (k := k) (xs := xs) (hp1.mem_iff.2 (List.Mem.head _))
 have hyl : ys.length = m := HR.1
 have hlen : (ys ++ xs.drop m).length = xs.length := by rw [List.length_append, List.length_drop]; omega
 rcases Nat.eq_zero_or_pos m with h0 | h0
 ·obtain rfl : ys = [] := List.eq_nil_of_length_eq_zero (by omega)
  subst h0
  obtain ⟨A', c', rfl⟩ := own_slice hrow
  refine wpList_copy_nothing hgd d s st st ho e hu hsz A' A xs.length c' 0 c hd hs (Nat.zero_min _) ?_
  exact h W (H.put hm (Hold.turned rfl rfl rfl (Nat.le_refl _) (fun _ _ _ => rfl) (show W.ownsRow 0 e 1 _ _ _ by simpa using hrow) fun k hk => .inr hk))
 ·rcases hrow.2 with ⟨rfl, h1⟩ | ⟨g, cap, cur, rfl, hb, heap, hcap, hmax, hsize, htake⟩
  ·omega
  ·obtain ⟨ad, rfl, hc⟩ := HR.2.2 h0
   have hnl : (nums k ys).length = m := by rw [nums_length, hyl]
   refine wpList_copy_own hgd d s st st ho e hu hsz g 0 xs.length cap ad m c hd hs cur e heap (nums k ys) (by rw [hnl]; exact (Nat.min_eq_left hle).symm) (fun j u hu => ?_) (by omega) (fun u hu => by obtain ⟨q, _, rfl⟩ := List.mem_map.1 hu; rfl) ?_
   ·have hj : j < ys.length := by
     have := (List.getElem?_eq_some_iff.1 hu).1
     rwa [nums_length] at this
    rw [hc j (by omega), ← hu]
    simp [nums, List.getD_eq_getElem?_getD, List.getElem?_eq_getElem hj]
   ·rw [hnl]
    refine h _ (H.put hm (Hold.turned rfl rfl rfl (by simp [World.setRow]) (fun i _ hne => setRow_other W g i _ fun e => hne (by subst e; exact Option.mem_toList.2 rfl)) ?_ fun k hk => .inr hk))
    refine ⟨by rw [nums_length, Nat.mul_one], .inr ⟨g, cap, _, by rw [hlen], Nat.zero_le _, setRow_heap W g cur _ e (0, 0) heap, by omega, hmax, ?_, ?_⟩⟩
    ·have : cur.toList.length = cap * 1 := by simpa using hsize
     simp only [List.size_toArray, List.length_append, List.length_take, List.length_drop, hnl]
     omega
    ·have ht : (cur.toList.take xs.length) = nums k xs := by simpa using htake
     rw [hlen, Nat.mul_one, List.toList_toArray, List.take_zero, List.nil_append, Nat.zero_add, List.take_append, hnl, List.take_of_length_le (by omega), nums_append]
     congr 1
     rw [show nums k (xs.drop m) = (nums k xs).drop m by simp [nums], ← ht, List.drop_take]
end

inductive Pull : List Own → Own → List Own → Prop
 | head {x : Own} {r : List Own} : Pull (x :: r) x r
 | tail {x z : Own} {r r' : List Own} (h : Pull r x r') : Pull (z :: r) x (z :: r')
theorem Pull.perm {l r : List Own} {x : Own} (h : Pull l x r) : l.Perm (x :: r) := by
 induction h with
 | head => exact List.Perm.refl _
 | tail _ ih => exact (ih.cons _).trans (List.Perm.swap _ _ _)
theorem Hold.pull1 {w W : World} {t : List Nat} {l r : List Own} {x : Own} (H : Hold w W t l) (h1 : Pull l x r) : Hold w W t ([x] ++ r) := H.perm h1.perm
theorem Hold.pull2 {w W : World} {t : List Nat} {l l1 r : List Own} {x y : Own} (H : Hold w W t l) (h1 : Pull l x l1) (h2 : Pull l1 y r) : Hold w W t ([x, y] ++ r) := H.perm (h1.perm.trans (h2.perm.cons _))
theorem Hold.pull3 {w W : World} {t : List Nat} {l l1 l2 r : List Own} {x y z : Own} (H : Hold w W t l) (h1 : Pull l x l1) (h2 : Pull l1 y l2) (h3 : Pull l2 z r) : Hold w W t ([x, y, z] ++ r) := H.perm (h1.perm.trans ((h2.perm.trans (h3.perm.cons _)).cons _))
theorem Hold.only3 {w W : World} {t : List Nat} {l l1 l2 r : List Own} {x y z : Own} (H : Hold w W t l) (h1 : Pull l x l1) (h2 : Pull l1 y l2) (h3 : Pull l2 z r) : Hold w W t [x, y, z] := (H.pull3 h1 h2 h3).sub (List.sublist_append_left _ _)
theorem Hold.only2 {w W : World} {t : List Nat} {l l1 r : List Own} {x y : Own} (H : Hold w W t l) (h1 : Pull l x l1) (h2 : Pull l1 y r) : Hold w W t [x, y] := (H.pull2 h1 h2).sub (List.sublist_append_left _ _)
inductive Suf : List Own → List Own → Prop
 | refl {l : List Own} : Suf l l
 | cons {x : Own} {l s : List Own} (h : Suf l s) : Suf (x :: l) s
theorem Suf.sub {l s : List Own} (h : Suf l s) : s.Sublist l := by
 induction h with
 | refl => exact List.Sublist.refl _
 | cons _ ih => exact ih.cons _
inductive Want : List Own → List Own → Prop
 | done {l s : List Own} (h : Suf l s) : Want l s
 | take {x : Own} {l r l' : List Own} (h : Pull l x r) (h' : Want r l') : Want l (x :: l')
theorem Hold.want {w W : World} {t : List Nat} {l l' : List Own} (H : Hold w W t l) (h : Want l l') : Hold w W t l' := by
 induction h generalizing w W t with
 | done h => exact H.sub h.sub
 | take h h' ih =>
  have H2 := H.perm h.perm
  have H3 := H2.sub (List.Sublist.cons _ (List.Sublist.refl _))
  have H4 := ih H3
  refine ⟨H4.kept, fun o ho => ?_, List.Pairwise.cons (fun b hb => ?_) H4.apart, fun o ho => ?_⟩
  ·rcases List.mem_cons.1 ho with rfl | ho
   ·exact H2.ok _ (List.Mem.head _)
   ·exact H4.ok o ho
  ·exact (List.pairwise_cons.1 H2.apart).1 b (Want.mem h' b hb)
  ·rcases List.mem_cons.1 ho with rfl | ho
   ·exact H2.mine _ (List.Mem.head _)
   ·exact H4.mine o ho
where
 Want.mem {l l' : List Own} (h : Want l l') : ∀ b ∈ l', b ∈ l := by
  induction h with
  | done h => exact fun b hb => h.sub.subset hb
  | take h _ ih =>
   intro b hb
   rcases List.mem_cons.1 hb with rfl | hb
   ·exact h.perm.mem_iff.2 (List.Mem.head _)
   ·exact h.perm.mem_iff.2 (List.Mem.tail _ (ih b hb))
section
variable {P : Program} {ops : Array Oper} {rest : List Oper} {o : Oper} {a : Act} {Q : Exit → Act → World → Prop} {w W : World} {t : List Nat} {l : List Own}
theorem is_lit {ty : TypeId} {n : Nat} {ps : Array (Nat × Operand)} (_ho : o.op = .buildSlice ty n ps) (h : wpList P ops Q (o :: rest) a W) : wpList P ops Q (o :: rest) a W := h
theorem emptyrow_ok (W : World) (e : TypeId) (size : Nat) : (W.alloc (.cells #[] e (0, 0))).ownsRow 0 e size (.slice (some ⟨W.heap.size, 0, none⟩) 0 0) 0 [] :=
 ⟨by simp, .inr ⟨_, 0, #[], rfl, Nat.zero_le _, blk_new W _, Nat.le_refl _, by simp [maxLen], by simp, by simp⟩⟩
theorem emptyrow_h (H : Hold w W t l) (hgd : o.guard = none) (e : TypeId) (size : Nat)
  (hrun : (execOp a.eval o).run P W = .ok (.value (.slice (some ⟨W.heap.size, 0, none⟩) 0 0)) (W.alloc (.cells #[] e (0, 0))))
  (h : ∀ g w1, Hold w w1 t (.row e size (.slice (some ⟨g, 0, none⟩) 0 0) 0 [] :: l) → wpList P ops Q rest (a.put o.dst (.slice (some ⟨g, 0, none⟩) 0 0)) w1) : wpList P ops Q (o :: rest) a W := by
 refine wpList_plain hgd fun K hK => ?_
 unfold Oper.wp
 rw [hrun]
 refine hK _ _ (h _ _ (Hold.push (l1 := [_]) H (Hold.made (below_alloc (Below.refl _ _) _) (emptyrow_ok W e size) fun k hk => Nat.le_of_eq (Option.some.inj (Option.mem_toList.1 hk)))))
theorem onerow_h (H : Hold w W t l) (hgd : o.guard = none) {e : TypeId} {cs : List Value}
  (hrun : (execOp a.eval o).run P W = .ok (.value (.slice (some ⟨W.heap.size, 0, none⟩) 1 1)) (W.alloc (.cells cs.toArray e (0, 0))))
  (h : ∀ g w1, Hold w w1 t (cl g cs e :: l) → wpList P ops Q rest (a.put o.dst (.slice (some ⟨g, 0, none⟩) 1 1)) w1) : wpList P ops Q (o :: rest) a W := by
 refine wpList_plain hgd fun K hK => ?_
 unfold Oper.wp
 rw [hrun]
 exact hK _ _ (h _ _ (Hold.push (l1 := [cl W.heap.size cs e]) H (Hold.made (below_alloc (Below.refl _ _) _) (blk_new W _) fun k hk => Nat.le_of_eq (List.mem_singleton.1 hk).symm)))
theorem appends_h (H : Hold w W t l) (hgd : o.guard = none) {s x : Operand} {st : TypeId} (ho : o.op = .call { callee := .builtin .append, args := #[s, x], argTypes := #[st, st] })
  {e : TypeId} {size bytes : Nat} {z : Value} (ht : P.underlying st = some (.slice e)) (hinfo : (P.info? e).map (fun i => (i.zero, i.size, i.bytes)) = some (some z, size, bytes)) (hzs : z.cells.size = size) (hsz : 0 < size)
  {v : Value} {n : Nat} {xs : List Value} {g c : Nat} {cs : List Value} {e' : TypeId} (hs : a.eval s = v) (hx : a.eval x = .slice (some ⟨g, 0, none⟩) 1 c) (hmem : cl g cs e' ∈ l) (hcs : cs.length = size) (h1 : cs.all (·.oneCell') = true)
  {f : Own → List Own} (hm : ∀ y, Put l (.row e size v n xs) y (f y)) (hn : n + 1 ≤ 100000000) (hb : (n + 1) * bytes ≤ 140737488355328)
  (h : ∀ v1 w1, Hold w w1 t (f (.row e size v1 (n + 1) (xs ++ cs))) → wpList P ops Q rest (a.put o.dst v1) w1) : wpList P ops Q (o :: rest) a W := by
 obtain ⟨r, hp1, _⟩ := (hm (.row e size v n xs)).perm
 have hrow : W.ownsRow 0 e size v n xs := H.ok _ (hp1.mem_iff.2 (List.Mem.head _))
 obtain ⟨i0, hi, hq⟩ := Option.map_eq_some_iff.1 hinfo
 simp only [Prod.mk.injEq] at hq
 obtain ⟨v1, w1, hrun, h2, h3, _, h5⟩ := run_append_own_at (P := P) W 0 st o.type e i0 z size bytes ht hi hq.1 hq.2.1 hq.2.2 hzs hsz v n xs hrow ⟨g, 0, none⟩ 1 c cs (by omega)
  (fun j u hu => by rw [show (⟨g, 0, none⟩ : Addr).add j = ⟨g, j, none⟩ by simp [Addr.add, eq_comm]]; exact (H.cell hmem j).trans hu) (List.all_eq_true.1 h1) (by unfold maxLen; omega) hb (Nat.zero_le _)
 refine wpList_plain hgd fun K hK => ?_
 unfold Oper.wp execOp
 simp only [ho, resolve, invoke, builtin, Sem.run_bind, Sem.run_pure, Result.andThen_ok, List.map_toArray, List.map_cons, List.map_nil, hs, hx, hrun]
 refine hK _ _ (h v1 w1 (H.put (hm _) (Hold.turned h3.os h3.tape h3.output h3.size (fun k hk hne => h3.block k hk fun e => hne (Option.mem_toList.2 e.symm)) h2 fun k hk => ?_)))
 have hk' : v1.ownBlock = some k := Option.mem_toList.1 hk
 rcases h5 with h' | h'
 ·exact .inr (Option.mem_toList.2 (h'.symm.trans hk'))
 ·rw [h'] at hk'
  exact .inl (Nat.le_of_eq (Option.some.inj hk'))
end
end Go.Proofs.YtjjfkmniffbgkaaDoor

/- Package split: Next, over what is held. (This text is printed by wip/gen/split3.py.) -/
namespace Go.Proofs.YtjjfkmniffbgkaaDoor
set_option linter.unusedVariables false
set_option linter.unusedSimpArgs false
open Go.RowKit Go.Proofs.YtjjfkmniffbgkaaDoorW.PrintWords Go.Proofs.YtjjfkmniffbgkaaDoorW.PrintLast Go.Proofs.YtjjfkmniffbgkaaDoorW.PrintMore Go.Proofs.YtjjfkmniffbgkaaDoor.QFrmA Go.Proofs.YtjjfkmniffbgkaaDoor.Given Go.Extern.Stop Go.Stop Go.Extern Go.Maps
attribute [local go_sem] max2_int min2_int max_two min_two
attribute [local go_sem high] eqFault
theorem is_make {P : Program} {ops : Array Oper} {rest : List Oper} {o : Oper} {a : Act} {Q : Exit → Act → World → Prop} {W : World} {ty : TypeId} {x y : Operand} (_ho : o.op = .makeSlice ty x y) (h : wpList P ops Q (o :: rest) a W) : wpList P ops Q (o :: rest) a W := h
theorem is_call {P : Program} {ops : Array Oper} {rest : List Oper} {o : Oper} {a : Act} {Q : Exit → Act → World → Prop} {W : World} {c : Go.Call} (_ho : o.op = .call c) (h : wpList P ops Q (o :: rest) a W) : wpList P ops Q (o :: rest) a W := h
theorem frThing_nil {W : World} (F : Fr) (hd : F.data = []) (hs : F.sets = []) : Hold W W [] [frThing none 0 none 0 F] :=
 frThing_hold (Below.refl _ _) ⟨by rw [hd]; exact ⟨rfl, by simp, fun h => absurd h (Nat.lt_irrefl 0)⟩, by rw [hd]; exact Nat.le_refl 0, fun a h => by cases h⟩ ⟨by rw [hs]; exact no_sets _, by rw [hs]; exact Nat.le_refl 0, fun a h => by cases h⟩
def NextP (w : World) (g : Nat) (v : Value) (s : Sp) (x : Rs) (ok : Bool) (s' : Sp) (e : Ending) (w' : World) : Prop :=
 ∃ v' A c B m, e = .returned (.tuple #[.agg (frC x.1 (.slice A x.1.data.length c) (.slice B x.1.sets.length m)), .agg #[.int .u8 x.2.1, .int .u32 x.2.2], .bool ok]) ∧ Hold w w' (ats [spO g v s, spR v s]) [frThing A c B m x.1, spO g v' s', spR v' s']
theorem NextP.plain {w w' : World} {g : Nat} {v v' : Value} {s s' : Sp} {x : Rs} {ok : Bool} {l l1 r : List Own} (hd : x.1.data = []) (hs : x.1.sets = []) (H : Hold w w' (ats [spO g v s, spR v s]) l) (h1 : Pull l (spO g v' s') l1) (h2 : Pull l1 (spR v' s') r) :
  NextP w g v s x ok s' (.returned (.tuple #[.agg (frC x.1 nilS nilS), .agg #[.int .u8 x.2.1, .int .u32 x.2.2], .bool ok])) w' :=
 ⟨v', none, 0, none, 0, by rw [hd, hs]; rfl, Hold.push (H.only2 h1 h2) (frThing_nil x.1 hd hs)⟩
theorem get_hold (w : World) (hgv : GV w) (A : Option Addr) (c : Nat) (l : List Int) (hR : ReadsInt w .u8 A l.length l) (hc : l.length ≤ c) (hby : Byte8 l) (hl : l.length ≤ 20000000) :
  Calls Tryd.prog 27 #[.slice A l.length c] w fun e w' => ∃ Ap cp Bp mp, e = .returned (.tuple #[.agg (frC (getFr l).1 (.slice Ap (getFr l).1.data.length cp) (.slice Bp (getFr l).1.sets.length mp)), .agg #[.int .u8 (getFr l).2.1, .int .u32 (getFr l).2.2]]) ∧ Hold w w' [] [frThing Ap cp Bp mp (getFr l).1] := by
 refine (get_came w hgv A c l hR hc hby hl).mono ?_
 rintro e w' ⟨⟨v, rfl, hc⟩, hb⟩
 obtain ⟨Ap, cp, Bp, mp, rfl, h1, h2⟩ := hc
 exact ⟨Ap, cp, Bp, mp, rfl, frThing_hold hb h1 h2⟩
set_option maxHeartbeats 4000000 in
set_option maxRecDepth 100000 in
theorem next_bad0 (w : World) (g : Nat) (v : Value) (s : Sp) (h : IsSp w g v s) (hgv : ∀ W, Kept w W (ats [spO g v s, spR v s]) → GV W) (hb : s.bad = true) (hw : s.waits = false) : Calls Tryd.prog 39 #[.pointer (some ⟨g, 0, none⟩)] w (NextP w g v s (zeroF, 0, 0) false s) := by
 refine of_post0 fun R hRR => ?_
 have HP := Lib.hid hRR
 have H : Hold w w (ats [spO g v s, spR v s]) [spO g v s, spR v s] := h.hold
 have HGV := Lib.hid hgv
 obtain ⟨b, x, y⟩ := s
 simp only at hb hw
 subst hb hw
 clear hRR h hgv
 go_enter Tryd.func39, Tryd.ntmps39
 go_wp2_with (first
  | ((with_reducible refine is_alloc (ty := 38) rfl ?_); refine alloc_h H rfl rfl (cs := (frC ⟨0, 0, 0, [], 0, 0, 0, 0, false, 0, []⟩ nilS nilS).toList) (by first | (go_simp; done) | (go_simp; rfl)) ?_; clear H; intro gF w_ H)
  | ((with_reducible refine is_alloc (ty := 24) rfl ?_); refine alloc_h H rfl rfl (cs := [.int .u8 0, .int .u32 0]) (by first | (go_simp; done) | (go_simp; rfl)) ?_; clear H; intro gE w_ H)
  | (go_at_call 37; refine (bad_calls _ g _ _ _ (H.blk (by repeat (first | exact List.Mem.head _ | apply List.Mem.tail)))).mono ?_; rintro e_ w_ ⟨rfl, h_⟩; replace H := H.below h_; clear h_)
  | ((with_reducible refine is_load rfl ?_); refine loadf_h H rfl rfl rfl (by repeat (first | exact List.Mem.head _ | apply List.Mem.tail)) rfl (by kernel_rfl) ?_)
  | ((with_reducible refine is_load rfl ?_); refine loadf_g H rfl rfl (by repeat (first | exact List.Mem.head _ | apply List.Mem.tail)) rfl (by kernel_rfl) (by rfl) ?_)
  | ((with_reducible refine is_store rfl ?_); (try simp only [Act.put, putA, putB, putC]); refine store_h H rfl rfl rfl rfl rfl (by repeat (first | exact Put.head | apply Put.tail)) (by kernel_rfl) (Nat.le_of_ble_eq_true rfl) rfl ?_; clear H; intro w_ H; simp only [setC, Value.cells, List.toList_toArray] at H))
 refine bodyPost_ret (results_list (rs := [.cell 2 38, .cell 3 24, .tmp 4]) rfl (by simp) (.cell gF 38 (frC ⟨0, 0, 0, [], 0, 0, 0, 0, false, 0, []⟩ nilS nilS) (0, 0) _ rfl (H.blk (cs := (frC ⟨0, 0, 0, [], 0, 0, 0, 0, false, 0, []⟩ nilS nilS).toList) (by repeat (first | exact List.Mem.head _ | apply List.Mem.tail))) Tryd.underlying38 rfl (by kernel_rfl) (.cell gE 24 _ (0, 0) _ rfl (H.blk (by repeat (first | exact List.Mem.head _ | apply List.Mem.tail))) Tryd.underlying24 rfl (by kernel_rfl) (.tmp .nil)))) rfl ?_
 exact HP.out _ _ (NextP.plain rfl rfl H (by repeat (first | exact Pull.head | apply Pull.tail)) (by repeat (first | exact Pull.head | apply Pull.tail)))
set_option maxHeartbeats 4000000 in
set_option maxRecDepth 100000 in
theorem next_bad1 (w : World) (g : Nat) (v : Value) (s : Sp) (h : IsSp w g v s) (hgv : ∀ W, Kept w W (ats [spO g v s, spR v s]) → GV W) (hb : s.bad = true) (hw : s.waits = true) : Calls Tryd.prog 39 #[.pointer (some ⟨g, 0, none⟩)] w (NextP w g v s (noneF, 1, 1) true ⟨s.b, false, true⟩) := by
 refine of_post0 fun R hRR => ?_
 have HP := Lib.hid hRR
 have H : Hold w w (ats [spO g v s, spR v s]) [spO g v s, spR v s] := h.hold
 have HGV := Lib.hid hgv
 obtain ⟨b, x, y⟩ := s
 simp only at hb hw
 subst hb hw
 clear hRR h hgv
 go_enter Tryd.func39, Tryd.ntmps39
 go_wp2_with (first
  | ((with_reducible refine is_alloc (ty := 38) rfl ?_); refine alloc_h H rfl rfl (cs := (frC ⟨0, 0, 0, [], 0, 0, 0, 0, false, 0, []⟩ nilS nilS).toList) (by first | (go_simp; done) | (go_simp; rfl)) ?_; clear H; intro gF w_ H)
  | ((with_reducible refine is_alloc (ty := 24) rfl ?_); refine alloc_h H rfl rfl (cs := [.int .u8 0, .int .u32 0]) (by first | (go_simp; done) | (go_simp; rfl)) ?_; clear H; intro gE w_ H)
  | (go_at_call 37; refine (bad_calls _ g _ _ _ (H.blk (by repeat (first | exact List.Mem.head _ | apply List.Mem.tail)))).mono ?_; rintro e_ w_ ⟨rfl, h_⟩; replace H := H.below h_; clear h_)
  | ((with_reducible refine is_load rfl ?_); refine loadf_h H rfl rfl rfl (by repeat (first | exact List.Mem.head _ | apply List.Mem.tail)) rfl (by kernel_rfl) ?_)
  | ((with_reducible refine is_load rfl ?_); refine loadf_g H rfl rfl (by repeat (first | exact List.Mem.head _ | apply List.Mem.tail)) rfl (by kernel_rfl) (by rfl) ?_)
  | (go_at_call 43; refine (conn_calls 1 _).mono ?_; rintro e_ w_ ⟨v1_, rfl, h_, E_⟩; have HE := Lib.hid E_; replace H := H.below h_; clear h_ E_)
  | (go_at_call 15; refine (wrap_err _ _ _ 1 1 _ HE.out).mono ?_; rintro e_ w_ ⟨v2_, rfl, h_, E_⟩; replace HE := Lib.hid E_; replace H := H.below h_; clear h_ E_)
  | (go_at_call 18; refine (of_err _ _ 1 1 _ (HGV.out _ H.kept) HE.out).mono ?_; rintro e_ w_ ⟨rfl, h_⟩; replace H := H.below h_; clear h_)
  | ((with_reducible refine is_store rfl ?_); (try simp only [Act.put, putA, putB, putC]); refine store_h H rfl rfl rfl rfl rfl (by repeat (first | exact Put.head | apply Put.tail)) (by kernel_rfl) (Nat.le_of_ble_eq_true rfl) rfl ?_; clear H; intro w_ H; simp only [setC, Value.cells, List.toList_toArray] at H))
 refine bodyPost_ret (results_list (rs := [.cell 2 38, .cell 3 24, .tmp 4]) rfl (by simp) (.cell gF 38 (frC noneF nilS nilS) (0, 0) _ rfl (H.blk (cs := (frC noneF nilS nilS).toList) (by repeat (first | exact List.Mem.head _ | apply List.Mem.tail))) Tryd.underlying38 rfl (by kernel_rfl) (.cell gE 24 _ (0, 0) _ rfl (H.blk (by repeat (first | exact List.Mem.head _ | apply List.Mem.tail))) Tryd.underlying24 rfl (by kernel_rfl) (.tmp .nil)))) rfl ?_
 exact HP.out _ _ (NextP.plain rfl rfl H (by repeat (first | exact Pull.head | apply Pull.tail)) (by repeat (first | exact Pull.head | apply Pull.tail)))
set_option maxHeartbeats 4000000 in
set_option maxRecDepth 100000 in
theorem next_mis (w : World) (g : Nat) (v : Value) (s : Sp) (h : IsSp w g v s) (hgv : ∀ W, Kept w W (ats [spO g v s, spR v s]) → GV W) (hb : s.bad = false) (hw : s.waits = true) (hby : Byte8 s.b) (hp : preOk s.b = false) : Calls Tryd.prog 39 #[.pointer (some ⟨g, 0, none⟩)] w (NextP w g v s (noneF, 1, 1) true ⟨[], false, true⟩) := by
 refine of_post0 fun R hRR => ?_
 have HP := Lib.hid hRR
 have H : Hold w w (ats [spO g v s, spR v s]) [spO g v s, spR v s] := h.hold
 have HGV := Lib.hid hgv
 obtain ⟨b, x, y⟩ := s
 simp only at hb hw hby hp
 subst hb hw
 have HY := Lib.hid (And.intro hby hp)
 clear hRR h hgv hby hp
 go_enter Tryd.func39, Tryd.ntmps39
 go_wp2_with (first
  | ((with_reducible refine is_alloc (ty := 38) rfl ?_); refine alloc_h H rfl rfl (cs := (frC ⟨0, 0, 0, [], 0, 0, 0, 0, false, 0, []⟩ nilS nilS).toList) (by first | (go_simp; done) | (go_simp; rfl)) ?_; clear H; intro gF w_ H)
  | ((with_reducible refine is_alloc (ty := 24) rfl ?_); refine alloc_h H rfl rfl (cs := [.int .u8 0, .int .u32 0]) (by first | (go_simp; done) | (go_simp; rfl)) ?_; clear H; intro gE w_ H)
  | (go_at_call 37; refine (bad_calls _ g _ _ _ (H.blk (by repeat (first | exact List.Mem.head _ | apply List.Mem.tail)))).mono ?_; rintro e_ w_ ⟨rfl, h_⟩; replace H := H.below h_; clear h_)
  | ((with_reducible refine is_load rfl ?_); refine loadf_h H rfl rfl rfl (by repeat (first | exact List.Mem.head _ | apply List.Mem.tail)) rfl (by kernel_rfl) ?_)
  | ((with_reducible refine is_load rfl ?_); refine loadf_g H rfl rfl (by repeat (first | exact List.Mem.head _ | apply List.Mem.tail)) rfl (by kernel_rfl) (by rfl) ?_)
  | (go_at_call 66; refine (begins_bad _ g _ _ (H.sp (by repeat (first | exact List.Mem.head _ | apply List.Mem.tail)) (by repeat (first | exact List.Mem.head _ | apply List.Mem.tail))) HY.out.1 HY.out.2).mono ?_; rintro e_ w_ ⟨rfl, h_⟩; replace H := Hold.call (H.pull2 (by repeat (first | exact Pull.head | apply Pull.tail)) (by repeat (first | exact Pull.head | apply Pull.tail))) h_; clear h_)
  | (go_at_call 43; refine (conn_calls 1 _).mono ?_; rintro e_ w_ ⟨v1_, rfl, h_, E_⟩; have HE := Lib.hid E_; replace H := H.below h_; clear h_ E_)
  | (go_at_call 15; refine (wrap_err _ _ _ 1 1 _ HE.out).mono ?_; rintro e_ w_ ⟨v2_, rfl, h_, E_⟩; replace HE := Lib.hid E_; replace H := H.below h_; clear h_ E_)
  | (go_at_call 18; refine (of_err _ _ 1 1 _ (HGV.out _ H.kept) HE.out).mono ?_; rintro e_ w_ ⟨rfl, h_⟩; replace H := H.below h_; clear h_)
  | ((with_reducible refine is_store rfl ?_); (try simp only [Act.put, putA, putB, putC]); refine store_h H rfl rfl rfl rfl rfl (by repeat (first | exact Put.head | apply Put.tail)) (by kernel_rfl) (Nat.le_of_ble_eq_true rfl) rfl ?_; clear H; intro w_ H; simp only [setC, Value.cells, List.toList_toArray] at H))
 refine bodyPost_ret (results_list (rs := [.cell 2 38, .cell 3 24, .tmp 4]) rfl (by simp) (.cell gF 38 (frC noneF nilS nilS) (0, 0) _ rfl (H.blk (cs := (frC noneF nilS nilS).toList) (by repeat (first | exact List.Mem.head _ | apply List.Mem.tail))) Tryd.underlying38 rfl (by kernel_rfl) (.cell gE 24 _ (0, 0) _ rfl (H.blk (by repeat (first | exact List.Mem.head _ | apply List.Mem.tail))) Tryd.underlying24 rfl (by kernel_rfl) (.tmp .nil)))) rfl ?_
 exact HP.out _ _ (NextP.plain rfl rfl H (by repeat (first | exact Pull.head | apply Pull.tail)) (by repeat (first | exact Pull.head | apply Pull.tail)))
set_option maxHeartbeats 4000000 in
set_option maxRecDepth 100000 in
theorem next_short (w : World) (g : Nat) (v : Value) (s : Sp) (h : IsSp w g v s) (hgv : ∀ W, Kept w W (ats [spO g v s, spR v s]) → GV W) (hb : s.bad = false) (hw : s.waits = true) (hby : Byte8 s.b) (hp : preOk s.b = true) (hl : s.b.length < 24) : Calls Tryd.prog 39 #[.pointer (some ⟨g, 0, none⟩)] w (NextP w g v s (zeroF, 0, 0) false s) := by
 refine of_post0 fun R hRR => ?_
 have HP := Lib.hid hRR
 have H : Hold w w (ats [spO g v s, spR v s]) [spO g v s, spR v s] := h.hold
 have HGV := Lib.hid hgv
 obtain ⟨b, x, y⟩ := s
 simp only at hb hw hby hp hl
 subst hb hw
 have HY := Lib.hid (And.intro hby (And.intro hp hl))
 clear hRR h hgv hby hp hl
 go_enter Tryd.func39, Tryd.ntmps39
 go_wp2_with (first
  | ((with_reducible refine is_alloc (ty := 38) rfl ?_); refine alloc_h H rfl rfl (cs := (frC ⟨0, 0, 0, [], 0, 0, 0, 0, false, 0, []⟩ nilS nilS).toList) (by first | (go_simp; done) | (go_simp; rfl)) ?_; clear H; intro gF w_ H)
  | ((with_reducible refine is_alloc (ty := 24) rfl ?_); refine alloc_h H rfl rfl (cs := [.int .u8 0, .int .u32 0]) (by first | (go_simp; done) | (go_simp; rfl)) ?_; clear H; intro gE w_ H)
  | (go_at_call 37; refine (bad_calls _ g _ _ _ (H.blk (by repeat (first | exact List.Mem.head _ | apply List.Mem.tail)))).mono ?_; rintro e_ w_ ⟨rfl, h_⟩; replace H := H.below h_; clear h_)
  | ((with_reducible refine is_load rfl ?_); refine loadf_h H rfl rfl rfl (by repeat (first | exact List.Mem.head _ | apply List.Mem.tail)) rfl (by kernel_rfl) ?_)
  | ((with_reducible refine is_load rfl ?_); refine loadf_g H rfl rfl (by repeat (first | exact List.Mem.head _ | apply List.Mem.tail)) rfl (by kernel_rfl) (by rfl) ?_)
  | (go_at_call 66; refine (begins_short _ g _ _ (H.sp (by repeat (first | exact List.Mem.head _ | apply List.Mem.tail)) (by repeat (first | exact List.Mem.head _ | apply List.Mem.tail))) HY.out.1 HY.out.2.1 HY.out.2.2).mono ?_; rintro e_ w_ ⟨rfl, h_⟩; replace H := Hold.call (H.pull2 (by repeat (first | exact Pull.head | apply Pull.tail)) (by repeat (first | exact Pull.head | apply Pull.tail))) h_; clear h_)
  | ((with_reducible refine is_store rfl ?_); (try simp only [Act.put, putA, putB, putC]); refine store_h H rfl rfl rfl rfl rfl (by repeat (first | exact Put.head | apply Put.tail)) (by kernel_rfl) (Nat.le_of_ble_eq_true rfl) rfl ?_; clear H; intro w_ H; simp only [setC, Value.cells, List.toList_toArray] at H))
 refine bodyPost_ret (results_list (rs := [.cell 2 38, .cell 3 24, .tmp 4]) rfl (by simp) (.cell gF 38 (frC ⟨0, 0, 0, [], 0, 0, 0, 0, false, 0, []⟩ nilS nilS) (0, 0) _ rfl (H.blk (cs := (frC ⟨0, 0, 0, [], 0, 0, 0, 0, false, 0, []⟩ nilS nilS).toList) (by repeat (first | exact List.Mem.head _ | apply List.Mem.tail))) Tryd.underlying38 rfl (by kernel_rfl) (.cell gE 24 _ (0, 0) _ rfl (H.blk (by repeat (first | exact List.Mem.head _ | apply List.Mem.tail))) Tryd.underlying24 rfl (by kernel_rfl) (.tmp .nil)))) rfl ?_
 exact HP.out _ _ (NextP.plain rfl rfl H (by repeat (first | exact Pull.head | apply Pull.tail)) (by repeat (first | exact Pull.head | apply Pull.tail)))
set_option maxHeartbeats 4000000 in
set_option maxRecDepth 100000 in
theorem next_none0 (w : World) (g : Nat) (v : Value) (s : Sp) (h : IsSp w g v s) (hgv : ∀ W, Kept w W (ats [spO g v s, spR v s]) → GV W) (hb : s.bad = false) (b1 : List Int) (hb1 : (s.waits = false ∧ b1 = s.b) ∨ (s.waits = true ∧ preOk s.b = true ∧ 24 ≤ s.b.length ∧ s.b.drop 24 = b1)) (hby : Byte8 s.b) (hl : s.b.length ≤ 16393) (h9 : b1.length < 9) : Calls Tryd.prog 39 #[.pointer (some ⟨g, 0, none⟩)] w (NextP w g v s (zeroF, 0, 0) false ⟨b1, false, false⟩) := by
 refine of_post0 fun R hRR => ?_
 have HP := Lib.hid hRR
 have H : Hold w w (ats [spO g v s, spR v s]) [spO g v s, spR v s] := h.hold
 have HGV := Lib.hid hgv
 obtain ⟨b, x, y⟩ := s
 simp only at hb hb1 hby hl
 subst hb
 have hby1 : Byte8 b1 := by
  rcases hb1 with ⟨_, rfl⟩ | ⟨_, _, _, rfl⟩
  ·exact hby
  ·exact fun x hx => hby x (List.mem_of_mem_drop hx)
 have hl1 : b1.length ≤ 16393 := by
  rcases hb1 with ⟨_, rfl⟩ | ⟨_, _, _, rfl⟩
  ·exact hl
  ·rw [List.length_drop]; omega
 have HN := Lib.hid (And.intro (show headN b1 = 0 by unfold headN; rw [if_pos h9]) (show decide (9 ≤ b1.length) = false from decide_eq_false (by omega)))
 have HY := Lib.hid (And.intro hby (And.intro hl hby1))
 clear hRR h hgv hby hl hby1 h9 hl1
 rcases hb1 with ⟨hw, e1⟩ | ⟨hw, hp, h24, e1⟩
 subst hw
 subst e1
 go_enter Tryd.func39, Tryd.ntmps39
 go_upto_region 6 with (first
  | ((with_reducible refine is_alloc (ty := 38) rfl ?_); refine alloc_h H rfl rfl (cs := (frC ⟨0, 0, 0, [], 0, 0, 0, 0, false, 0, []⟩ nilS nilS).toList) (by first | (go_simp; done) | (go_simp; rfl)) ?_; clear H; intro gF w_ H)
  | ((with_reducible refine is_alloc (ty := 24) rfl ?_); refine alloc_h H rfl rfl (cs := [.int .u8 0, .int .u32 0]) (by first | (go_simp; done) | (go_simp; rfl)) ?_; clear H; intro gE w_ H)
  | (go_at_call 37; refine (bad_calls _ g _ _ _ (H.blk (by repeat (first | exact List.Mem.head _ | apply List.Mem.tail)))).mono ?_; rintro e_ w_ ⟨rfl, h_⟩; replace H := H.below h_; clear h_)
  | ((with_reducible refine is_load rfl ?_); refine loadf_h H rfl rfl rfl (by repeat (first | exact List.Mem.head _ | apply List.Mem.tail)) rfl (by kernel_rfl) ?_)
  | ((with_reducible refine is_load rfl ?_); refine loadf_g H rfl rfl (by repeat (first | exact List.Mem.head _ | apply List.Mem.tail)) rfl (by kernel_rfl) (by rfl) ?_))
 replace H : ∃ v1, Hold w _ _ ([spO g v1 ⟨b1, false, false⟩, spR v1 ⟨b1, false, false⟩] ++ _) := ⟨v, H.pull2 (by repeat (first | exact Pull.head | apply Pull.tail)) (by repeat (first | exact Pull.head | apply Pull.tail))⟩
 obtain ⟨v1, H⟩ := H
 rotate_left
 subst hw
 have HX := Lib.hid (And.intro hp (And.intro h24 e1))
 clear hp h24 e1
 go_enter Tryd.func39, Tryd.ntmps39
 go_upto_region 6 with (first
  | ((with_reducible refine is_alloc (ty := 38) rfl ?_); refine alloc_h H rfl rfl (cs := (frC ⟨0, 0, 0, [], 0, 0, 0, 0, false, 0, []⟩ nilS nilS).toList) (by first | (go_simp; done) | (go_simp; rfl)) ?_; clear H; intro gF w_ H)
  | ((with_reducible refine is_alloc (ty := 24) rfl ?_); refine alloc_h H rfl rfl (cs := [.int .u8 0, .int .u32 0]) (by first | (go_simp; done) | (go_simp; rfl)) ?_; clear H; intro gE w_ H)
  | (go_at_call 37; refine (bad_calls _ g _ _ _ (H.blk (by repeat (first | exact List.Mem.head _ | apply List.Mem.tail)))).mono ?_; rintro e_ w_ ⟨rfl, h_⟩; replace H := H.below h_; clear h_)
  | ((with_reducible refine is_load rfl ?_); refine loadf_h H rfl rfl rfl (by repeat (first | exact List.Mem.head _ | apply List.Mem.tail)) rfl (by kernel_rfl) ?_)
  | ((with_reducible refine is_load rfl ?_); refine loadf_g H rfl rfl (by repeat (first | exact List.Mem.head _ | apply List.Mem.tail)) rfl (by kernel_rfl) (by rfl) ?_)
  | (go_at_call 66; refine (begins_ok _ g _ _ (H.sp (by repeat (first | exact List.Mem.head _ | apply List.Mem.tail)) (by repeat (first | exact List.Mem.head _ | apply List.Mem.tail))) HY.out.1 HX.out.1 HX.out.2.1 HY.out.2.1).mono ?_; rintro e_ w_ ⟨v1, rfl, h_⟩; simp only [HX.out.2.2] at h_; replace H := Hold.call (H.pull2 (by repeat (first | exact Pull.head | apply Pull.tail)) (by repeat (first | exact Pull.head | apply Pull.tail))) h_; clear h_))
 rotate_left
 all_goals
  obtain ⟨A1, c1, rfl, hR1, hc1⟩ := own_reads2 (H.row (e := 5) (v := v1) (k := .u8) (xs := b1) (by repeat (first | exact List.Mem.head _ | apply List.Mem.tail)))
  have HC1 := Lib.hid hc1
  clear hR1 hc1
  go_wp2_with (first
   | (go_at_call 25; refine (head_calls _ A1 c1 b1 HY.out.2.2 (reads_own (H.row (by repeat (first | exact List.Mem.head _ | apply List.Mem.tail)))) HC1.out).mono ?_; rintro e_ w_ ⟨rfl, h_⟩; rw [HN.out.1, HN.out.2]; replace H := H.below h_.below; clear h_)
   | ((with_reducible refine is_load rfl ?_); refine loadf_h H rfl rfl rfl (by repeat (first | exact List.Mem.head _ | apply List.Mem.tail)) rfl (by kernel_rfl) ?_)
   | ((with_reducible refine is_load rfl ?_); refine loadf_g H rfl rfl (by repeat (first | exact List.Mem.head _ | apply List.Mem.tail)) rfl (by kernel_rfl) (by rfl) ?_)
   | ((with_reducible refine is_store rfl ?_); (try simp only [Act.put, putA, putB, putC]); refine store_h H rfl rfl rfl rfl rfl (by repeat (first | exact Put.head | apply Put.tail)) (by kernel_rfl) (Nat.le_of_ble_eq_true rfl) rfl ?_; clear H; intro w_ H; simp only [setC, Value.cells, List.toList_toArray] at H))
  refine bodyPost_ret (results_list (rs := [.cell 2 38, .cell 3 24, .tmp 4]) rfl (by simp) (.cell gF 38 (frC ⟨0, 0, 0, [], 0, 0, 0, 0, false, 0, []⟩ nilS nilS) (0, 0) _ rfl (H.blk (cs := (frC ⟨0, 0, 0, [], 0, 0, 0, 0, false, 0, []⟩ nilS nilS).toList) (by repeat (first | exact List.Mem.head _ | apply List.Mem.tail))) Tryd.underlying38 rfl (by kernel_rfl) (.cell gE 24 _ (0, 0) _ rfl (H.blk (by repeat (first | exact List.Mem.head _ | apply List.Mem.tail))) Tryd.underlying24 rfl (by kernel_rfl) (.tmp .nil)))) rfl ?_
  exact HP.out _ _ (NextP.plain rfl rfl H (by repeat (first | exact Pull.head | apply Pull.tail)) (by repeat (first | exact Pull.head | apply Pull.tail)))
set_option maxHeartbeats 4000000 in
set_option maxRecDepth 100000 in
theorem next_none1 (w : World) (g : Nat) (v : Value) (s : Sp) (h : IsSp w g v s) (hgv : ∀ W, Kept w W (ats [spO g v s, spR v s]) → GV W) (hb : s.bad = false) (b1 : List Int) (hb1 : (s.waits = false ∧ b1 = s.b) ∨ (s.waits = true ∧ preOk s.b = true ∧ 24 ≤ s.b.length ∧ s.b.drop 24 = b1)) (hby : Byte8 s.b) (hl : s.b.length ≤ 16393) (h9 : 9 ≤ b1.length) (m : Nat) (hm : headN b1 = (m : Int)) (hm1 : m ≤ 16393) (hm2 : b1.length < m) : Calls Tryd.prog 39 #[.pointer (some ⟨g, 0, none⟩)] w (NextP w g v s (zeroF, 0, 0) false ⟨b1, false, false⟩) := by
 refine of_post0 fun R hRR => ?_
 have HP := Lib.hid hRR
 have H : Hold w w (ats [spO g v s, spR v s]) [spO g v s, spR v s] := h.hold
 have HGV := Lib.hid hgv
 obtain ⟨b, x, y⟩ := s
 simp only at hb hb1 hby hl
 subst hb
 have hby1 : Byte8 b1 := by
  rcases hb1 with ⟨_, rfl⟩ | ⟨_, _, _, rfl⟩
  ·exact hby
  ·exact fun x hx => hby x (List.mem_of_mem_drop hx)
 have hl1 : b1.length ≤ 16393 := by
  rcases hb1 with ⟨_, rfl⟩ | ⟨_, _, _, rfl⟩
  ·exact hl
  ·rw [List.length_drop]; omega
 have HN := Lib.hid (And.intro hm (show decide (9 ≤ b1.length) = true from decide_eq_true h9))
 have g1 : decide ((m : Int) ≤ 16393) = true := decide_eq_true (by omega)
 have g2 : decide (m ≤ 16393) = true := decide_eq_true hm1
 have g3 : decide ((b1.length : Int) < (m : Int)) = true := decide_eq_true (by omega)
 have g4 : decide (b1.length < m) = true := decide_eq_true hm2
 have HY := Lib.hid (And.intro hby (And.intro hl hby1))
 clear hRR h hgv hby hl hby1 h9 hl1 hm hm1 hm2
 rcases hb1 with ⟨hw, e1⟩ | ⟨hw, hp, h24, e1⟩
 subst hw
 subst e1
 go_enter Tryd.func39, Tryd.ntmps39
 go_upto_region 6 with (first
  | ((with_reducible refine is_alloc (ty := 38) rfl ?_); refine alloc_h H rfl rfl (cs := (frC ⟨0, 0, 0, [], 0, 0, 0, 0, false, 0, []⟩ nilS nilS).toList) (by first | (go_simp; done) | (go_simp; rfl)) ?_; clear H; intro gF w_ H)
  | ((with_reducible refine is_alloc (ty := 24) rfl ?_); refine alloc_h H rfl rfl (cs := [.int .u8 0, .int .u32 0]) (by first | (go_simp; done) | (go_simp; rfl)) ?_; clear H; intro gE w_ H)
  | (go_at_call 37; refine (bad_calls _ g _ _ _ (H.blk (by repeat (first | exact List.Mem.head _ | apply List.Mem.tail)))).mono ?_; rintro e_ w_ ⟨rfl, h_⟩; replace H := H.below h_; clear h_)
  | ((with_reducible refine is_load rfl ?_); refine loadf_h H rfl rfl rfl (by repeat (first | exact List.Mem.head _ | apply List.Mem.tail)) rfl (by kernel_rfl) ?_)
  | ((with_reducible refine is_load rfl ?_); refine loadf_g H rfl rfl (by repeat (first | exact List.Mem.head _ | apply List.Mem.tail)) rfl (by kernel_rfl) (by rfl) ?_))
 replace H : ∃ v1, Hold w _ _ ([spO g v1 ⟨b1, false, false⟩, spR v1 ⟨b1, false, false⟩] ++ _) := ⟨v, H.pull2 (by repeat (first | exact Pull.head | apply Pull.tail)) (by repeat (first | exact Pull.head | apply Pull.tail))⟩
 obtain ⟨v1, H⟩ := H
 rotate_left
 subst hw
 have HX := Lib.hid (And.intro hp (And.intro h24 e1))
 clear hp h24 e1
 go_enter Tryd.func39, Tryd.ntmps39
 go_upto_region 6 with (first
  | ((with_reducible refine is_alloc (ty := 38) rfl ?_); refine alloc_h H rfl rfl (cs := (frC ⟨0, 0, 0, [], 0, 0, 0, 0, false, 0, []⟩ nilS nilS).toList) (by first | (go_simp; done) | (go_simp; rfl)) ?_; clear H; intro gF w_ H)
  | ((with_reducible refine is_alloc (ty := 24) rfl ?_); refine alloc_h H rfl rfl (cs := [.int .u8 0, .int .u32 0]) (by first | (go_simp; done) | (go_simp; rfl)) ?_; clear H; intro gE w_ H)
  | (go_at_call 37; refine (bad_calls _ g _ _ _ (H.blk (by repeat (first | exact List.Mem.head _ | apply List.Mem.tail)))).mono ?_; rintro e_ w_ ⟨rfl, h_⟩; replace H := H.below h_; clear h_)
  | ((with_reducible refine is_load rfl ?_); refine loadf_h H rfl rfl rfl (by repeat (first | exact List.Mem.head _ | apply List.Mem.tail)) rfl (by kernel_rfl) ?_)
  | ((with_reducible refine is_load rfl ?_); refine loadf_g H rfl rfl (by repeat (first | exact List.Mem.head _ | apply List.Mem.tail)) rfl (by kernel_rfl) (by rfl) ?_)
  | (go_at_call 66; refine (begins_ok _ g _ _ (H.sp (by repeat (first | exact List.Mem.head _ | apply List.Mem.tail)) (by repeat (first | exact List.Mem.head _ | apply List.Mem.tail))) HY.out.1 HX.out.1 HX.out.2.1 HY.out.2.1).mono ?_; rintro e_ w_ ⟨v1, rfl, h_⟩; simp only [HX.out.2.2] at h_; replace H := Hold.call (H.pull2 (by repeat (first | exact Pull.head | apply Pull.tail)) (by repeat (first | exact Pull.head | apply Pull.tail))) h_; clear h_))
 rotate_left
 all_goals
  obtain ⟨A1, c1, rfl, hR1, hc1⟩ := own_reads2 (H.row (e := 5) (v := v1) (k := .u8) (xs := b1) (by repeat (first | exact List.Mem.head _ | apply List.Mem.tail)))
  have HC1 := Lib.hid hc1
  clear hR1 hc1
  go_wp2_with (first
   | (go_at_call 25; refine (head_calls _ A1 c1 b1 HY.out.2.2 (reads_own (H.row (by repeat (first | exact List.Mem.head _ | apply List.Mem.tail)))) HC1.out).mono ?_; rintro e_ w_ ⟨rfl, h_⟩; rw [HN.out.1, HN.out.2]; replace H := H.below h_.below; clear h_)
   | ((with_reducible refine is_load rfl ?_); refine loadf_h H rfl rfl rfl (by repeat (first | exact List.Mem.head _ | apply List.Mem.tail)) rfl (by kernel_rfl) ?_)
   | ((with_reducible refine is_load rfl ?_); refine loadf_g H rfl rfl (by repeat (first | exact List.Mem.head _ | apply List.Mem.tail)) rfl (by kernel_rfl) (by rfl) ?_)
   | ((with_reducible refine is_store rfl ?_); (try simp only [Act.put, putA, putB, putC]); refine store_h H rfl rfl rfl rfl rfl (by repeat (first | exact Put.head | apply Put.tail)) (by kernel_rfl) (Nat.le_of_ble_eq_true rfl) rfl ?_; clear H; intro w_ H; simp only [setC, Value.cells, List.toList_toArray] at H))
  refine bodyPost_ret (results_list (rs := [.cell 2 38, .cell 3 24, .tmp 4]) rfl (by simp) (.cell gF 38 (frC ⟨0, 0, 0, [], 0, 0, 0, 0, false, 0, []⟩ nilS nilS) (0, 0) _ rfl (H.blk (cs := (frC ⟨0, 0, 0, [], 0, 0, 0, 0, false, 0, []⟩ nilS nilS).toList) (by repeat (first | exact List.Mem.head _ | apply List.Mem.tail))) Tryd.underlying38 rfl (by kernel_rfl) (.cell gE 24 _ (0, 0) _ rfl (H.blk (by repeat (first | exact List.Mem.head _ | apply List.Mem.tail))) Tryd.underlying24 rfl (by kernel_rfl) (.tmp .nil)))) rfl ?_
  exact HP.out _ _ (NextP.plain rfl rfl H (by repeat (first | exact Pull.head | apply Pull.tail)) (by repeat (first | exact Pull.head | apply Pull.tail)))
theorem reads_own3 {w : World} {base n n' c : Nat} {e : TypeId} {k : IntKind} {A : Option Addr} {xs : List Int} (h : w.ownsRow base e 1 (.slice A n' c) n (nums k xs)) : ReadsInt w k A n xs := by
 obtain ⟨A', c', e, h'⟩ := own_reads h
 cases e
 exact h'
theorem getFr_great {l : List Int} (h9 : 9 ≤ l.length) (hn : headN l = (l.length : Int)) (hg : 16393 < l.length) : getFr l = (hdF l, 1, 6) := by
 unfold getFr
 rw [if_neg (fun h => h ⟨h9, hn⟩), if_pos hg]
set_option maxHeartbeats 4000000 in
set_option maxRecDepth 100000 in
theorem next_great (w : World) (g : Nat) (v : Value) (s : Sp) (h : IsSp w g v s) (hgv : ∀ W, Kept w W (ats [spO g v s, spR v s]) → GV W) (hb : s.bad = false) (b1 : List Int) (hb1 : (s.waits = false ∧ b1 = s.b) ∨ (s.waits = true ∧ preOk s.b = true ∧ 24 ≤ s.b.length ∧ s.b.drop 24 = b1)) (hby : Byte8 s.b) (hl : s.b.length ≤ 16393) (h9 : 9 ≤ b1.length) (m : Nat) (hm : headN b1 = (m : Int)) (hm1 : 16393 < m) (hm2 : m ≤ 16777224) : Calls Tryd.prog 39 #[.pointer (some ⟨g, 0, none⟩)] w (NextP w g v s (hdF b1, 1, 6) true ⟨[], false, true⟩) := by
 refine of_post0 fun R hRR => ?_
 have HP := Lib.hid hRR
 have H : Hold w w (ats [spO g v s, spR v s]) [spO g v s, spR v s] := h.hold
 have HGV := Lib.hid hgv
 obtain ⟨b, x, y⟩ := s
 simp only at hb hb1 hby hl
 subst hb
 have hby1 : Byte8 b1 := by
  rcases hb1 with ⟨_, rfl⟩ | ⟨_, _, _, rfl⟩
  ·exact hby
  ·exact fun x hx => hby x (List.mem_of_mem_drop hx)
 have hl1 : b1.length ≤ 16393 := by
  rcases hb1 with ⟨_, rfl⟩ | ⟨_, _, _, rfl⟩
  ·exact hl
  ·rw [List.length_drop]; omega
 have HN := Lib.hid (And.intro hm (show decide (9 ≤ b1.length) = true from decide_eq_true h9))
 have g1 : decide ((m : Int) ≤ 16393) = false := decide_eq_false (by omega)
 have g2 : decide (m ≤ 16393) = false := decide_eq_false (by omega)
 have g3 : decide ((16393 : Int) < (m : Int)) = true := decide_eq_true (by omega)
 have g4 : decide (16393 < m) = true := decide_eq_true hm1
 have hLm : (b1 ++ (List.replicate m (0 : Int)).drop b1.length).length = m := by rw [List.length_append, List.length_drop, List.length_replicate]; omega
 have hG := fun (W : World) (A2 : Option Addr) (c2 : Nat) (hg : GV W) (h1 : ReadsInt W .u8 A2 m (b1 ++ (List.replicate m (0 : Int)).drop b1.length)) (h2 : m ≤ c2) => get_hold W hg A2 c2 (b1 ++ (List.replicate m (0 : Int)).drop b1.length) (by rw [hLm]; exact h1) (by rw [hLm]; exact h2) (fun x hx => (List.mem_append.1 hx).elim (hby1 x) fun hx => by have := List.eq_of_mem_replicate (List.mem_of_mem_drop hx); omega) (by rw [hLm]; omega)
 rw [getFr_great (by rw [hLm]; omega) (by rw [headN_app _ h9, hLm]; exact hm) (by rw [hLm]; exact hm1), hdF_app _ h9, hLm] at hG
 generalize hdF b1 = F at hG HP
 dsimp only at hG
 have HG := Lib.hid hG
 have HLM := Lib.hid hLm
 have HY := Lib.hid (And.intro hby (And.intro hl hby1))
 clear hRR h hgv hby hl hby1 h9 hm hG hLm
 rcases hb1 with ⟨hw, e1⟩ | ⟨hw, hp, h24, e1⟩
 subst hw
 subst e1
 go_enter Tryd.func39, Tryd.ntmps39
 go_upto_region 6 with (first
  | ((with_reducible refine is_alloc (ty := 38) rfl ?_); refine alloc_h H rfl rfl (cs := (frC ⟨0, 0, 0, [], 0, 0, 0, 0, false, 0, []⟩ nilS nilS).toList) (by first | (go_simp; done) | (go_simp; rfl)) ?_; clear H; intro gF w_ H)
  | ((with_reducible refine is_alloc (ty := 24) rfl ?_); refine alloc_h H rfl rfl (cs := [.int .u8 0, .int .u32 0]) (by first | (go_simp; done) | (go_simp; rfl)) ?_; clear H; intro gE w_ H)
  | (go_at_call 37; refine (bad_calls _ g _ _ _ (H.blk (by repeat (first | exact List.Mem.head _ | apply List.Mem.tail)))).mono ?_; rintro e_ w_ ⟨rfl, h_⟩; replace H := H.below h_; clear h_)
  | ((with_reducible refine is_load rfl ?_); refine loadf_h H rfl rfl rfl (by repeat (first | exact List.Mem.head _ | apply List.Mem.tail)) rfl (by kernel_rfl) ?_)
  | ((with_reducible refine is_load rfl ?_); refine loadf_g H rfl rfl (by repeat (first | exact List.Mem.head _ | apply List.Mem.tail)) rfl (by kernel_rfl) (by rfl) ?_))
 replace H : ∃ v1, Hold w _ _ ([spO g v1 ⟨b1, false, false⟩, spR v1 ⟨b1, false, false⟩] ++ _) := ⟨v, H.pull2 (by repeat (first | exact Pull.head | apply Pull.tail)) (by repeat (first | exact Pull.head | apply Pull.tail))⟩
 obtain ⟨v1, H⟩ := H
 rotate_left
 subst hw
 have HX := Lib.hid (And.intro hp (And.intro h24 e1))
 clear hp h24 e1
 go_enter Tryd.func39, Tryd.ntmps39
 go_upto_region 6 with (first
  | ((with_reducible refine is_alloc (ty := 38) rfl ?_); refine alloc_h H rfl rfl (cs := (frC ⟨0, 0, 0, [], 0, 0, 0, 0, false, 0, []⟩ nilS nilS).toList) (by first | (go_simp; done) | (go_simp; rfl)) ?_; clear H; intro gF w_ H)
  | ((with_reducible refine is_alloc (ty := 24) rfl ?_); refine alloc_h H rfl rfl (cs := [.int .u8 0, .int .u32 0]) (by first | (go_simp; done) | (go_simp; rfl)) ?_; clear H; intro gE w_ H)
  | (go_at_call 37; refine (bad_calls _ g _ _ _ (H.blk (by repeat (first | exact List.Mem.head _ | apply List.Mem.tail)))).mono ?_; rintro e_ w_ ⟨rfl, h_⟩; replace H := H.below h_; clear h_)
  | ((with_reducible refine is_load rfl ?_); refine loadf_h H rfl rfl rfl (by repeat (first | exact List.Mem.head _ | apply List.Mem.tail)) rfl (by kernel_rfl) ?_)
  | ((with_reducible refine is_load rfl ?_); refine loadf_g H rfl rfl (by repeat (first | exact List.Mem.head _ | apply List.Mem.tail)) rfl (by kernel_rfl) (by rfl) ?_)
  | (go_at_call 66; refine (begins_ok _ g _ _ (H.sp (by repeat (first | exact List.Mem.head _ | apply List.Mem.tail)) (by repeat (first | exact List.Mem.head _ | apply List.Mem.tail))) HY.out.1 HX.out.1 HX.out.2.1 HY.out.2.1).mono ?_; rintro e_ w_ ⟨v1, rfl, h_⟩; simp only [HX.out.2.2] at h_; replace H := Hold.call (H.pull2 (by repeat (first | exact Pull.head | apply Pull.tail)) (by repeat (first | exact Pull.head | apply Pull.tail))) h_; clear h_))
 rotate_left
 all_goals
  obtain ⟨A1, c1, rfl, hR1, hc1⟩ := own_reads2 (H.row (e := 5) (v := v1) (k := .u8) (xs := b1) (by repeat (first | exact List.Mem.head _ | apply List.Mem.tail)))
  have HC1 := Lib.hid hc1
  clear hR1 hc1
  go_upto_region 14 with (first
   | (go_at_call 25; refine (head_calls _ A1 c1 b1 HY.out.2.2 (reads_own (H.row (by repeat (first | exact List.Mem.head _ | apply List.Mem.tail)))) HC1.out).mono ?_; rintro e_ w_ ⟨rfl, h_⟩; rw [HN.out.1, HN.out.2]; replace H := H.below h_.below; clear h_)
   | ((with_reducible refine is_load rfl ?_); refine loadf_h H rfl rfl rfl (by repeat (first | exact List.Mem.head _ | apply List.Mem.tail)) rfl (by kernel_rfl) ?_)
   | ((with_reducible refine is_load rfl ?_); refine loadf_g H rfl rfl (by repeat (first | exact List.Mem.head _ | apply List.Mem.tail)) rfl (by kernel_rfl) (by rfl) ?_)
   | ((with_reducible refine is_alloc (ty := 38) rfl ?_); refine alloc_h H rfl rfl (cs := (frC ⟨0, 0, 0, [], 0, 0, 0, 0, false, 0, []⟩ nilS nilS).toList) (by first | (go_simp; done) | (go_simp; rfl)) ?_; clear H; intro gF2 w_ H)
   | ((with_reducible refine is_alloc (ty := 24) rfl ?_); refine alloc_h H rfl rfl (cs := [.int .u8 0, .int .u32 0]) (by first | (go_simp; done) | (go_simp; rfl)) ?_; clear H; intro gE2 w_ H)
   | ((with_reducible refine is_make rfl ?_); refine makeb_h H rfl rfl m rfl rfl Tryd.underlying35 Tryd.infoB8 (by omega) ?_; clear H; intro gw w_ H)
   | ((with_reducible refine is_call rfl ?_); refine copy_h H rfl rfl Tryd.underlying35 (by kernel_rfl) b1 rfl rfl (by repeat (first | exact Put.head | apply Put.tail)) (reads_own (H.row (by repeat (first | exact List.Mem.head _ | apply List.Mem.tail)))) (by rw [List.length_replicate]; omega) ?_; clear H; intro w_ H)
   | (go_at_call 27; refine (HG.out _ _ _ (HGV.out _ H.kept) (by have h_ := reads_own3 (H.row (e := 5) (v := .slice (some ⟨gw, 0, none⟩) m m) (k := .u8) (xs := b1 ++ (List.replicate m 0).drop b1.length) (by repeat (first | exact List.Mem.head _ | apply List.Mem.tail))); rw [HLM.out] at h_; exact h_) (by omega)).mono ?_; rintro e_ w_ ⟨Ap, cp, Bp, mp, rfl, h_⟩; replace H := Hold.push H h_; clear h_)
   | (go_at_call 67; refine (spfails_calls _ g (.slice A1 b1.length c1) ⟨b1, false, false⟩ (H.sp (v := (.slice A1 b1.length c1)) (s := ⟨b1, false, false⟩) (by repeat (first | exact List.Mem.head _ | apply List.Mem.tail)) (by repeat (first | exact List.Mem.head _ | apply List.Mem.tail)))).mono ?_; rintro e_ w_ ⟨rfl, h_⟩; replace H := Hold.call (H.pull2 (by repeat (first | exact Pull.head | apply Pull.tail)) (by repeat (first | exact Pull.head | apply Pull.tail))) h_; clear h_)
   | ((with_reducible refine is_store rfl ?_); (try simp only [Act.put, putA, putB, putC]); refine store_h H rfl rfl rfl rfl rfl (by repeat (first | exact Put.head | apply Put.tail)) (by kernel_rfl) (Nat.le_of_ble_eq_true rfl) rfl ?_; clear H; intro w_ H; simp only [setC, Value.cells, List.toList_toArray] at H))
  replace H := H.below (below_drew (Below.refl _ _))
  refine start_ (n := 5) (S := fun w' => w'.cell? ⟨gF2, 0, none⟩ = some (.int .u8 F.ty) ∧ w'.cell? ⟨gF2, 1, none⟩ = some (.int .u8 F.fl) ∧ w'.cell? ⟨gF2, 2, none⟩ = some (.int .u32 F.st) ∧ w'.cell? ⟨gF2, 3, none⟩ = some (.slice Ap F.data.length cp) ∧ w'.cell? ⟨gF2, 4, none⟩ = some (.int .i64 F.pad) ∧ w'.cell? ⟨gF2, 5, none⟩ = some (.int .u32 F.code) ∧ w'.cell? ⟨gF2, 6, none⟩ = some (.int .u32 F.oth) ∧ w'.cell? ⟨gF2, 7, none⟩ = some (.int .u8 F.wgt) ∧ w'.cell? ⟨gF2, 8, none⟩ = some (.bool F.al) ∧ w'.cell? ⟨gF2, 9, none⟩ = some (.int .u32 F.win) ∧ w'.cell? ⟨gF2, 10, none⟩ = some (.slice Bp F.sets.length mp) ∧ w'.cell? ⟨gE2, 0, none⟩ = some (.int .u8 1) ∧ w'.cell? ⟨gE2, 1, none⟩ = some (.int .u32 6)) (ds := []) #[false, false, false, false, false] (by kernel_rfl) rfl rfl ⟨((H.cell (g := gF2) (by repeat (first | exact List.Mem.head _ | apply List.Mem.tail)) 0).trans rfl), ((H.cell (g := gF2) (by repeat (first | exact List.Mem.head _ | apply List.Mem.tail)) 1).trans rfl), ((H.cell (g := gF2) (by repeat (first | exact List.Mem.head _ | apply List.Mem.tail)) 2).trans rfl), ((H.cell (g := gF2) (by repeat (first | exact List.Mem.head _ | apply List.Mem.tail)) 3).trans rfl), ((H.cell (g := gF2) (by repeat (first | exact List.Mem.head _ | apply List.Mem.tail)) 4).trans rfl), ((H.cell (g := gF2) (by repeat (first | exact List.Mem.head _ | apply List.Mem.tail)) 5).trans rfl), ((H.cell (g := gF2) (by repeat (first | exact List.Mem.head _ | apply List.Mem.tail)) 6).trans rfl), ((H.cell (g := gF2) (by repeat (first | exact List.Mem.head _ | apply List.Mem.tail)) 7).trans rfl), ((H.cell (g := gF2) (by repeat (first | exact List.Mem.head _ | apply List.Mem.tail)) 8).trans rfl), ((H.cell (g := gF2) (by repeat (first | exact List.Mem.head _ | apply List.Mem.tail)) 9).trans rfl), ((H.cell (g := gF2) (by repeat (first | exact List.Mem.head _ | apply List.Mem.tail)) 10).trans rfl), ((H.cell (g := gE2) (by repeat (first | exact List.Mem.head _ | apply List.Mem.tail)) 0).trans rfl), ((H.cell (g := gE2) (by repeat (first | exact List.Mem.head _ | apply List.Mem.tail)) 1).trans rfl)⟩ (fun hHeld => ?_)
  generalize World.drew _ = wy at H hHeld ⊢
  refine take_ (i := 0) (N := some 90) (v := ?_) (a' := ?_) #[true, false, false, false, false] rfl rfl (by kernel_rfl) (fun _ _ _ h => h) (Or.inl ⟨by rfl, ?_⟩) hHeld ?_ ?_
  rotate_left
  ·rintro w' ⟨s0, s1, s2, s3, s4, s5, s6, s7, s8, s9, s10, s11, s12⟩
   go_simp
   with_reducible rfl
  rotate_left
  ·simp only [Act.put, putA, putB, putC]
   rfl
  refine take_ (i := 1) (N := some 91) (v := ?_) (a' := ?_) #[true, true, false, false, false] rfl rfl (by kernel_rfl) (fun _ _ _ h => h) (Or.inl ⟨by rfl, ?_⟩) hHeld ?_ ?_
  rotate_left
  ·rintro w' ⟨s0, s1, s2, s3, s4, s5, s6, s7, s8, s9, s10, s11, s12⟩
   go_simp
   with_reducible rfl
  rotate_left
  ·simp only [Act.put, putA, putB, putC]
   rfl
  refine one_ (i := 2) (N := none) #[true, true, true, false, false] rfl rfl (by kernel_rfl) (by decide) (fun K hK => ?_)
  refine store_o H (by rfl) rfl rfl rfl rfl (by repeat (first | exact Put.head | apply Put.tail)) (by kernel_rfl) (Nat.le_of_ble_eq_true rfl) rfl ?_
  clear H
  intro w_ H h_
  simp only [setC, Value.cells, List.toList_toArray] at H
  clear h_
  have hS := Lib.hid (show (fun w' : World => w'.cell? ⟨gF2, 0, none⟩ = some (.int .u8 F.ty) ∧ w'.cell? ⟨gF2, 1, none⟩ = some (.int .u8 F.fl) ∧ w'.cell? ⟨gF2, 2, none⟩ = some (.int .u32 F.st) ∧ w'.cell? ⟨gF2, 3, none⟩ = some (.slice Ap F.data.length cp) ∧ w'.cell? ⟨gF2, 4, none⟩ = some (.int .i64 F.pad) ∧ w'.cell? ⟨gF2, 5, none⟩ = some (.int .u32 F.code) ∧ w'.cell? ⟨gF2, 6, none⟩ = some (.int .u32 F.oth) ∧ w'.cell? ⟨gF2, 7, none⟩ = some (.int .u8 F.wgt) ∧ w'.cell? ⟨gF2, 8, none⟩ = some (.bool F.al) ∧ w'.cell? ⟨gF2, 9, none⟩ = some (.int .u32 F.win) ∧ w'.cell? ⟨gF2, 10, none⟩ = some (.slice Bp F.sets.length mp) ∧ w'.cell? ⟨gE2, 0, none⟩ = some (.int .u8 1) ∧ w'.cell? ⟨gE2, 1, none⟩ = some (.int .u32 6)) _ from ⟨((H.cell (g := gF2) (by repeat (first | exact List.Mem.head _ | apply List.Mem.tail)) 0).trans rfl), ((H.cell (g := gF2) (by repeat (first | exact List.Mem.head _ | apply List.Mem.tail)) 1).trans rfl), ((H.cell (g := gF2) (by repeat (first | exact List.Mem.head _ | apply List.Mem.tail)) 2).trans rfl), ((H.cell (g := gF2) (by repeat (first | exact List.Mem.head _ | apply List.Mem.tail)) 3).trans rfl), ((H.cell (g := gF2) (by repeat (first | exact List.Mem.head _ | apply List.Mem.tail)) 4).trans rfl), ((H.cell (g := gF2) (by repeat (first | exact List.Mem.head _ | apply List.Mem.tail)) 5).trans rfl), ((H.cell (g := gF2) (by repeat (first | exact List.Mem.head _ | apply List.Mem.tail)) 6).trans rfl), ((H.cell (g := gF2) (by repeat (first | exact List.Mem.head _ | apply List.Mem.tail)) 7).trans rfl), ((H.cell (g := gF2) (by repeat (first | exact List.Mem.head _ | apply List.Mem.tail)) 8).trans rfl), ((H.cell (g := gF2) (by repeat (first | exact List.Mem.head _ | apply List.Mem.tail)) 9).trans rfl), ((H.cell (g := gF2) (by repeat (first | exact List.Mem.head _ | apply List.Mem.tail)) 10).trans rfl), ((H.cell (g := gE2) (by repeat (first | exact List.Mem.head _ | apply List.Mem.tail)) 0).trans rfl), ((H.cell (g := gE2) (by repeat (first | exact List.Mem.head _ | apply List.Mem.tail)) 1).trans rfl)⟩)
  refine hK.out _ _ hS.out (fun hHeld => ?_)
  clear hK K
  clear hS
  refine one_ (i := 3) (N := none) #[true, true, true, true, false] rfl rfl (by kernel_rfl) (by decide) (fun K hK => ?_)
  refine store_o H (by rfl) rfl rfl rfl rfl (by repeat (first | exact Put.head | apply Put.tail)) (by kernel_rfl) (Nat.le_of_ble_eq_true rfl) rfl ?_
  clear H
  intro w_ H h_
  simp only [setC, Value.cells, List.toList_toArray] at H
  clear h_
  have hS := Lib.hid (show (fun w' : World => w'.cell? ⟨gF2, 0, none⟩ = some (.int .u8 F.ty) ∧ w'.cell? ⟨gF2, 1, none⟩ = some (.int .u8 F.fl) ∧ w'.cell? ⟨gF2, 2, none⟩ = some (.int .u32 F.st) ∧ w'.cell? ⟨gF2, 3, none⟩ = some (.slice Ap F.data.length cp) ∧ w'.cell? ⟨gF2, 4, none⟩ = some (.int .i64 F.pad) ∧ w'.cell? ⟨gF2, 5, none⟩ = some (.int .u32 F.code) ∧ w'.cell? ⟨gF2, 6, none⟩ = some (.int .u32 F.oth) ∧ w'.cell? ⟨gF2, 7, none⟩ = some (.int .u8 F.wgt) ∧ w'.cell? ⟨gF2, 8, none⟩ = some (.bool F.al) ∧ w'.cell? ⟨gF2, 9, none⟩ = some (.int .u32 F.win) ∧ w'.cell? ⟨gF2, 10, none⟩ = some (.slice Bp F.sets.length mp) ∧ w'.cell? ⟨gE2, 0, none⟩ = some (.int .u8 1) ∧ w'.cell? ⟨gE2, 1, none⟩ = some (.int .u32 6)) _ from ⟨((H.cell (g := gF2) (by repeat (first | exact List.Mem.head _ | apply List.Mem.tail)) 0).trans rfl), ((H.cell (g := gF2) (by repeat (first | exact List.Mem.head _ | apply List.Mem.tail)) 1).trans rfl), ((H.cell (g := gF2) (by repeat (first | exact List.Mem.head _ | apply List.Mem.tail)) 2).trans rfl), ((H.cell (g := gF2) (by repeat (first | exact List.Mem.head _ | apply List.Mem.tail)) 3).trans rfl), ((H.cell (g := gF2) (by repeat (first | exact List.Mem.head _ | apply List.Mem.tail)) 4).trans rfl), ((H.cell (g := gF2) (by repeat (first | exact List.Mem.head _ | apply List.Mem.tail)) 5).trans rfl), ((H.cell (g := gF2) (by repeat (first | exact List.Mem.head _ | apply List.Mem.tail)) 6).trans rfl), ((H.cell (g := gF2) (by repeat (first | exact List.Mem.head _ | apply List.Mem.tail)) 7).trans rfl), ((H.cell (g := gF2) (by repeat (first | exact List.Mem.head _ | apply List.Mem.tail)) 8).trans rfl), ((H.cell (g := gF2) (by repeat (first | exact List.Mem.head _ | apply List.Mem.tail)) 9).trans rfl), ((H.cell (g := gF2) (by repeat (first | exact List.Mem.head _ | apply List.Mem.tail)) 10).trans rfl), ((H.cell (g := gE2) (by repeat (first | exact List.Mem.head _ | apply List.Mem.tail)) 0).trans rfl), ((H.cell (g := gE2) (by repeat (first | exact List.Mem.head _ | apply List.Mem.tail)) 1).trans rfl)⟩)
  refine hK.out _ _ hS.out (fun hHeld => ?_)
  clear hK K
  clear hS
  refine pure_ (i := 4) (N := some 4) (v := ?_) (a' := ?_) #[true, true, true, true, true] rfl rfl (by kernel_rfl) (fun _ _ _ h => h) (Or.inl ⟨by rfl, ?_⟩) ?_ ?_
  rotate_left
  ·intro w'
   go_simp
   with_reducible rfl
  rotate_left
  ·simp only [Act.put, putA, putB, putC]
   rfl
  refine done_ (by kernel_rfl) ?_
  go_wp2_with fail
  refine bodyPost_ret (results_list (rs := [.cell 2 38, .cell 3 24, .tmp 4]) rfl (by simp) (.cell gF 38 ((frC F (.slice Ap F.data.length cp) (.slice Bp F.sets.length mp))) (0, 0) _ rfl (H.blk (cs := ((frC F (.slice Ap F.data.length cp) (.slice Bp F.sets.length mp))).toList) (by repeat (first | exact List.Mem.head _ | apply List.Mem.tail))) Tryd.underlying38 rfl (by kernel_rfl) (.cell gE 24 _ (0, 0) _ rfl (H.blk (by repeat (first | exact List.Mem.head _ | apply List.Mem.tail))) Tryd.underlying24 rfl (by kernel_rfl) (.tmp .nil)))) rfl ?_
  exact HP.out _ _ ⟨_, Ap, cp, Bp, mp, rfl, H.only3 (by repeat (first | exact Pull.head | apply Pull.tail)) (by repeat (first | exact Pull.head | apply Pull.tail)) (by repeat (first | exact Pull.head | apply Pull.tail))⟩
set_option maxHeartbeats 4000000 in
set_option maxRecDepth 100000 in
theorem next_bad (w : World) (g : Nat) (v : Value) (s : Sp) (h : IsSp w g v s) (hgv : ∀ W, Kept w W (ats [spO g v s, spR v s]) → GV W) (hb : s.bad = false) (b1 : List Int) (hb1 : (s.waits = false ∧ b1 = s.b) ∨ (s.waits = true ∧ preOk s.b = true ∧ 24 ≤ s.b.length ∧ s.b.drop 24 = b1)) (hby : Byte8 s.b) (hl : s.b.length ≤ 16393) (h9 : 9 ≤ b1.length) (m : Nat) (hm : headN b1 = (m : Int)) (hm0 : 9 ≤ m) (hm1 : m ≤ 16393) (hm2 : m ≤ b1.length) (hs : (getFr (b1.take m)).2.1 = 1) : Calls Tryd.prog 39 #[.pointer (some ⟨g, 0, none⟩)] w (NextP w g v s (getFr (b1.take m)) true ⟨[], false, true⟩) := by
 refine of_post0 fun R hRR => ?_
 have HP := Lib.hid hRR
 have H : Hold w w (ats [spO g v s, spR v s]) [spO g v s, spR v s] := h.hold
 have HGV := Lib.hid hgv
 obtain ⟨b, x, y⟩ := s
 simp only at hb hb1 hby hl
 subst hb
 have hby1 : Byte8 b1 := by
  rcases hb1 with ⟨_, rfl⟩ | ⟨_, _, _, rfl⟩
  ·exact hby
  ·exact fun x hx => hby x (List.mem_of_mem_drop hx)
 have hl1 : b1.length ≤ 16393 := by
  rcases hb1 with ⟨_, rfl⟩ | ⟨_, _, _, rfl⟩
  ·exact hl
  ·rw [List.length_drop]; omega
 have HN := Lib.hid (And.intro hm (show decide (9 ≤ b1.length) = true from decide_eq_true h9))
 have g1 : decide ((m : Int) ≤ 16393) = true := decide_eq_true (by omega)
 have g2 : decide (m ≤ 16393) = true := decide_eq_true (by omega)
 have g3 : decide ((16393 : Int) < (m : Int)) = false := decide_eq_false (by omega)
 have g4 : decide (16393 < m) = false := decide_eq_false (by omega)
 have g5 : decide ((b1.length : Int) < (m : Int)) = false := decide_eq_false (by omega)
 have g6 : decide (b1.length < m) = false := decide_eq_false (by omega)
 have hLm : (b1.take m).length = m := by rw [List.length_take]; omega
 have hG := fun (W : World) (A2 : Option Addr) (c2 : Nat) (hg : GV W) (h1 : ReadsInt W .u8 A2 m (b1.take m)) (h2 : m ≤ c2) => get_hold W hg A2 c2 (b1.take m) (by rw [hLm]; exact h1) (by rw [hLm]; exact h2) (fun x hx => hby1 x (List.mem_of_mem_take hx)) (by rw [hLm]; omega)
 rw [hLm] at hG
 have HLM := Lib.hid hLm
 generalize getFr (b1.take m) = X at hG HP hs
 obtain ⟨F, sc, cd⟩ := X
 dsimp only at hG hs
 subst hs
 have HG := Lib.hid hG
 have HY := Lib.hid (And.intro hby (And.intro hl hby1))
 clear hRR h hgv hby hl hby1 h9 hm hG hLm
 rcases hb1 with ⟨hw, e1⟩ | ⟨hw, hp, h24, e1⟩
 subst hw
 subst e1
 go_enter Tryd.func39, Tryd.ntmps39
 go_upto_region 6 with (first
  | ((with_reducible refine is_alloc (ty := 38) rfl ?_); refine alloc_h H rfl rfl (cs := (frC ⟨0, 0, 0, [], 0, 0, 0, 0, false, 0, []⟩ nilS nilS).toList) (by first | (go_simp; done) | (go_simp; rfl)) ?_; clear H; intro gF w_ H)
  | ((with_reducible refine is_alloc (ty := 24) rfl ?_); refine alloc_h H rfl rfl (cs := [.int .u8 0, .int .u32 0]) (by first | (go_simp; done) | (go_simp; rfl)) ?_; clear H; intro gE w_ H)
  | (go_at_call 37; refine (bad_calls _ g _ _ _ (H.blk (by repeat (first | exact List.Mem.head _ | apply List.Mem.tail)))).mono ?_; rintro e_ w_ ⟨rfl, h_⟩; replace H := H.below h_; clear h_)
  | ((with_reducible refine is_load rfl ?_); refine loadf_h H rfl rfl rfl (by repeat (first | exact List.Mem.head _ | apply List.Mem.tail)) rfl (by kernel_rfl) ?_)
  | ((with_reducible refine is_load rfl ?_); refine loadf_g H rfl rfl (by repeat (first | exact List.Mem.head _ | apply List.Mem.tail)) rfl (by kernel_rfl) (by rfl) ?_))
 replace H : ∃ v1, Hold w _ _ ([spO g v1 ⟨b1, false, false⟩, spR v1 ⟨b1, false, false⟩] ++ _) := ⟨v, H.pull2 (by repeat (first | exact Pull.head | apply Pull.tail)) (by repeat (first | exact Pull.head | apply Pull.tail))⟩
 obtain ⟨v1, H⟩ := H
 rotate_left
 subst hw
 have HX := Lib.hid (And.intro hp (And.intro h24 e1))
 clear hp h24 e1
 go_enter Tryd.func39, Tryd.ntmps39
 go_upto_region 6 with (first
  | ((with_reducible refine is_alloc (ty := 38) rfl ?_); refine alloc_h H rfl rfl (cs := (frC ⟨0, 0, 0, [], 0, 0, 0, 0, false, 0, []⟩ nilS nilS).toList) (by first | (go_simp; done) | (go_simp; rfl)) ?_; clear H; intro gF w_ H)
  | ((with_reducible refine is_alloc (ty := 24) rfl ?_); refine alloc_h H rfl rfl (cs := [.int .u8 0, .int .u32 0]) (by first | (go_simp; done) | (go_simp; rfl)) ?_; clear H; intro gE w_ H)
  | (go_at_call 37; refine (bad_calls _ g _ _ _ (H.blk (by repeat (first | exact List.Mem.head _ | apply List.Mem.tail)))).mono ?_; rintro e_ w_ ⟨rfl, h_⟩; replace H := H.below h_; clear h_)
  | ((with_reducible refine is_load rfl ?_); refine loadf_h H rfl rfl rfl (by repeat (first | exact List.Mem.head _ | apply List.Mem.tail)) rfl (by kernel_rfl) ?_)
  | ((with_reducible refine is_load rfl ?_); refine loadf_g H rfl rfl (by repeat (first | exact List.Mem.head _ | apply List.Mem.tail)) rfl (by kernel_rfl) (by rfl) ?_)
  | (go_at_call 66; refine (begins_ok _ g _ _ (H.sp (by repeat (first | exact List.Mem.head _ | apply List.Mem.tail)) (by repeat (first | exact List.Mem.head _ | apply List.Mem.tail))) HY.out.1 HX.out.1 HX.out.2.1 HY.out.2.1).mono ?_; rintro e_ w_ ⟨v1, rfl, h_⟩; simp only [HX.out.2.2] at h_; replace H := Hold.call (H.pull2 (by repeat (first | exact Pull.head | apply Pull.tail)) (by repeat (first | exact Pull.head | apply Pull.tail))) h_; clear h_))
 rotate_left
 all_goals
  obtain ⟨A1, c1, rfl, hR1, hc1⟩ := own_reads2 (H.row (e := 5) (v := v1) (k := .u8) (xs := b1) (by repeat (first | exact List.Mem.head _ | apply List.Mem.tail)))
  obtain ⟨i0, hi, _, hsz, _⟩ := info_parts Tryd.infoB8
  obtain ⟨hcut, hr, hc2⟩ := print_take_int (P := Tryd.prog) (k := .u8) 35 5 Tryd.underlying35 hi hsz A1 c1 b1 (m : Int) (by omega) (by omega) hc1
  obtain ⟨A2, hcut2, hr2, hm2⟩ := print_drop_of (P := Tryd.prog) (Value.int .u8) (0 : Int) 35 5 .i64 Tryd.underlying35 hi hsz A1 c1 b1 (m : Int) (by omega) (by omega) hc1
  rw [Int.toNat_natCast] at hcut hr hc2 hcut2 hr2 hm2
  rw [HLM.out] at hcut hr hc2
  have hl3 : (b1.drop m).length ≤ 100000 := by rw [List.length_drop]; omega
  have HC1 := Lib.hid hc1
  have HR2 := Lib.hid (And.intro hr (And.intro hr2 (And.intro hl3 (And.intro hc2 hm2))))
  generalize hL2 : b1.drop m = L2 at hcut2 HR2 HP
  have k1 : (m : Int) ≤ (b1.length : Int) := by omega
  have k2 : m ≤ b1.length := by omega
  clear hR1 hc1 hi hsz hr hc2 hr2 hm2 hl3 hL2
  go_upto_region 19 with (first
   | (go_at_call 25; refine (head_calls _ A1 c1 b1 HY.out.2.2 (reads_own (H.row (by repeat (first | exact List.Mem.head _ | apply List.Mem.tail)))) HC1.out).mono ?_; rintro e_ w_ ⟨rfl, h_⟩; rw [HN.out.1, HN.out.2]; replace H := H.below h_.below; clear h_)
   | ((with_reducible refine is_load rfl ?_); refine loadf_h H rfl rfl rfl (by repeat (first | exact List.Mem.head _ | apply List.Mem.tail)) rfl (by kernel_rfl) ?_)
   | ((with_reducible refine is_load rfl ?_); refine loadf_g H rfl rfl (by repeat (first | exact List.Mem.head _ | apply List.Mem.tail)) rfl (by kernel_rfl) (by rfl) ?_)
   | ((with_reducible refine is_alloc (ty := 38) rfl ?_); refine alloc_h H rfl rfl (cs := (frC ⟨0, 0, 0, [], 0, 0, 0, 0, false, 0, []⟩ nilS nilS).toList) (by first | (go_simp; done) | (go_simp; rfl)) ?_; clear H; intro gF2 w_ H)
   | ((with_reducible refine is_alloc (ty := 24) rfl ?_); refine alloc_h H rfl rfl (cs := [.int .u8 0, .int .u32 0]) (by first | (go_simp; done) | (go_simp; rfl)) ?_; clear H; intro gE2 w_ H)
   | (go_at_call 27; refine (HG.out _ _ _ (HGV.out _ H.kept) (HR2.out.1 _ (reads_own (H.row (by repeat (first | exact List.Mem.head _ | apply List.Mem.tail))))) (HR2.out.2.2.2.1)).mono ?_; rintro e_ w_ ⟨Ap, cp, Bp, mp, rfl, h_⟩; replace H := Hold.push H h_; clear h_)
   | (go_at_call 68; refine (clone_got _ _ _ _ _ (HR2.out.2.1 _ (reads_own (H.row (by repeat (first | exact List.Mem.head _ | apply List.Mem.tail))))) HR2.out.2.2.1).mono ?_; rintro e_ w_ ⟨v2, rfl, h_⟩; obtain ⟨A3, c3, rfl⟩ := own_slice (H2_ h_); replace H := Hold.push H h_; clear h_)
   | (go_at_call 67; refine (spfails_calls _ g (.slice A3 L2.length c3) ⟨L2, false, false⟩ (H.sp (v := (.slice A3 L2.length c3)) (s := ⟨L2, false, false⟩) (by repeat (first | exact List.Mem.head _ | apply List.Mem.tail)) (by repeat (first | exact List.Mem.head _ | apply List.Mem.tail)))).mono ?_; rintro e_ w_ ⟨rfl, h_⟩; replace H := Hold.call (H.pull2 (by repeat (first | exact Pull.head | apply Pull.tail)) (by repeat (first | exact Pull.head | apply Pull.tail))) h_; clear h_)
   | ((with_reducible refine is_store rfl ?_); (try simp only [Act.put, putA, putB, putC]); refine store_h H rfl rfl rfl rfl rfl (by repeat (first | exact Put.head | apply Put.tail)) (by kernel_rfl) (Nat.le_of_ble_eq_true rfl) rfl ?_; clear H; intro w_ H; simp only [setC, Value.cells, List.toList_toArray] at H))
  replace H := H.below (below_drew (Below.refl _ _))
  refine start_ (n := 5) (S := fun w' => w'.cell? ⟨gF2, 0, none⟩ = some (.int .u8 F.ty) ∧ w'.cell? ⟨gF2, 1, none⟩ = some (.int .u8 F.fl) ∧ w'.cell? ⟨gF2, 2, none⟩ = some (.int .u32 F.st) ∧ w'.cell? ⟨gF2, 3, none⟩ = some (.slice Ap F.data.length cp) ∧ w'.cell? ⟨gF2, 4, none⟩ = some (.int .i64 F.pad) ∧ w'.cell? ⟨gF2, 5, none⟩ = some (.int .u32 F.code) ∧ w'.cell? ⟨gF2, 6, none⟩ = some (.int .u32 F.oth) ∧ w'.cell? ⟨gF2, 7, none⟩ = some (.int .u8 F.wgt) ∧ w'.cell? ⟨gF2, 8, none⟩ = some (.bool F.al) ∧ w'.cell? ⟨gF2, 9, none⟩ = some (.int .u32 F.win) ∧ w'.cell? ⟨gF2, 10, none⟩ = some (.slice Bp F.sets.length mp) ∧ w'.cell? ⟨gE2, 0, none⟩ = some (.int .u8 1) ∧ w'.cell? ⟨gE2, 1, none⟩ = some (.int .u32 cd)) (ds := []) #[false, false, false, false, false] (by kernel_rfl) rfl rfl ⟨((H.cell (g := gF2) (by repeat (first | exact List.Mem.head _ | apply List.Mem.tail)) 0).trans rfl), ((H.cell (g := gF2) (by repeat (first | exact List.Mem.head _ | apply List.Mem.tail)) 1).trans rfl), ((H.cell (g := gF2) (by repeat (first | exact List.Mem.head _ | apply List.Mem.tail)) 2).trans rfl), ((H.cell (g := gF2) (by repeat (first | exact List.Mem.head _ | apply List.Mem.tail)) 3).trans rfl), ((H.cell (g := gF2) (by repeat (first | exact List.Mem.head _ | apply List.Mem.tail)) 4).trans rfl), ((H.cell (g := gF2) (by repeat (first | exact List.Mem.head _ | apply List.Mem.tail)) 5).trans rfl), ((H.cell (g := gF2) (by repeat (first | exact List.Mem.head _ | apply List.Mem.tail)) 6).trans rfl), ((H.cell (g := gF2) (by repeat (first | exact List.Mem.head _ | apply List.Mem.tail)) 7).trans rfl), ((H.cell (g := gF2) (by repeat (first | exact List.Mem.head _ | apply List.Mem.tail)) 8).trans rfl), ((H.cell (g := gF2) (by repeat (first | exact List.Mem.head _ | apply List.Mem.tail)) 9).trans rfl), ((H.cell (g := gF2) (by repeat (first | exact List.Mem.head _ | apply List.Mem.tail)) 10).trans rfl), ((H.cell (g := gE2) (by repeat (first | exact List.Mem.head _ | apply List.Mem.tail)) 0).trans rfl), ((H.cell (g := gE2) (by repeat (first | exact List.Mem.head _ | apply List.Mem.tail)) 1).trans rfl)⟩ (fun hHeld => ?_)
  generalize World.drew _ = wy at H hHeld ⊢
  refine take_ (i := 0) (N := some 117) (v := ?_) (a' := ?_) #[true, false, false, false, false] rfl rfl (by kernel_rfl) (fun _ _ _ h => h) (Or.inl ⟨by rfl, ?_⟩) hHeld ?_ ?_
  rotate_left
  ·rintro w' ⟨s0, s1, s2, s3, s4, s5, s6, s7, s8, s9, s10, s11, s12⟩
   go_simp
   with_reducible rfl
  rotate_left
  ·simp only [Act.put, putA, putB, putC]
   rfl
  refine take_ (i := 1) (N := some 118) (v := ?_) (a' := ?_) #[true, true, false, false, false] rfl rfl (by kernel_rfl) (fun _ _ _ h => h) (Or.inl ⟨by rfl, ?_⟩) hHeld ?_ ?_
  rotate_left
  ·rintro w' ⟨s0, s1, s2, s3, s4, s5, s6, s7, s8, s9, s10, s11, s12⟩
   go_simp
   with_reducible rfl
  rotate_left
  ·simp only [Act.put, putA, putB, putC]
   rfl
  refine one_ (i := 2) (N := none) #[true, true, true, false, false] rfl rfl (by kernel_rfl) (by decide) (fun K hK => ?_)
  refine store_o H (by rfl) rfl rfl rfl rfl (by repeat (first | exact Put.head | apply Put.tail)) (by kernel_rfl) (Nat.le_of_ble_eq_true rfl) rfl ?_
  clear H
  intro w_ H h_
  simp only [setC, Value.cells, List.toList_toArray] at H
  clear h_
  have hS := Lib.hid (show (fun w' : World => w'.cell? ⟨gF2, 0, none⟩ = some (.int .u8 F.ty) ∧ w'.cell? ⟨gF2, 1, none⟩ = some (.int .u8 F.fl) ∧ w'.cell? ⟨gF2, 2, none⟩ = some (.int .u32 F.st) ∧ w'.cell? ⟨gF2, 3, none⟩ = some (.slice Ap F.data.length cp) ∧ w'.cell? ⟨gF2, 4, none⟩ = some (.int .i64 F.pad) ∧ w'.cell? ⟨gF2, 5, none⟩ = some (.int .u32 F.code) ∧ w'.cell? ⟨gF2, 6, none⟩ = some (.int .u32 F.oth) ∧ w'.cell? ⟨gF2, 7, none⟩ = some (.int .u8 F.wgt) ∧ w'.cell? ⟨gF2, 8, none⟩ = some (.bool F.al) ∧ w'.cell? ⟨gF2, 9, none⟩ = some (.int .u32 F.win) ∧ w'.cell? ⟨gF2, 10, none⟩ = some (.slice Bp F.sets.length mp) ∧ w'.cell? ⟨gE2, 0, none⟩ = some (.int .u8 1) ∧ w'.cell? ⟨gE2, 1, none⟩ = some (.int .u32 cd)) _ from ⟨((H.cell (g := gF2) (by repeat (first | exact List.Mem.head _ | apply List.Mem.tail)) 0).trans rfl), ((H.cell (g := gF2) (by repeat (first | exact List.Mem.head _ | apply List.Mem.tail)) 1).trans rfl), ((H.cell (g := gF2) (by repeat (first | exact List.Mem.head _ | apply List.Mem.tail)) 2).trans rfl), ((H.cell (g := gF2) (by repeat (first | exact List.Mem.head _ | apply List.Mem.tail)) 3).trans rfl), ((H.cell (g := gF2) (by repeat (first | exact List.Mem.head _ | apply List.Mem.tail)) 4).trans rfl), ((H.cell (g := gF2) (by repeat (first | exact List.Mem.head _ | apply List.Mem.tail)) 5).trans rfl), ((H.cell (g := gF2) (by repeat (first | exact List.Mem.head _ | apply List.Mem.tail)) 6).trans rfl), ((H.cell (g := gF2) (by repeat (first | exact List.Mem.head _ | apply List.Mem.tail)) 7).trans rfl), ((H.cell (g := gF2) (by repeat (first | exact List.Mem.head _ | apply List.Mem.tail)) 8).trans rfl), ((H.cell (g := gF2) (by repeat (first | exact List.Mem.head _ | apply List.Mem.tail)) 9).trans rfl), ((H.cell (g := gF2) (by repeat (first | exact List.Mem.head _ | apply List.Mem.tail)) 10).trans rfl), ((H.cell (g := gE2) (by repeat (first | exact List.Mem.head _ | apply List.Mem.tail)) 0).trans rfl), ((H.cell (g := gE2) (by repeat (first | exact List.Mem.head _ | apply List.Mem.tail)) 1).trans rfl)⟩)
  refine hK.out _ _ hS.out (fun hHeld => ?_)
  clear hK K
  clear hS
  refine one_ (i := 3) (N := none) #[true, true, true, true, false] rfl rfl (by kernel_rfl) (by decide) (fun K hK => ?_)
  refine store_o H (by rfl) rfl rfl rfl rfl (by repeat (first | exact Put.head | apply Put.tail)) (by kernel_rfl) (Nat.le_of_ble_eq_true rfl) rfl ?_
  clear H
  intro w_ H h_
  simp only [setC, Value.cells, List.toList_toArray] at H
  clear h_
  have hS := Lib.hid (show (fun w' : World => w'.cell? ⟨gF2, 0, none⟩ = some (.int .u8 F.ty) ∧ w'.cell? ⟨gF2, 1, none⟩ = some (.int .u8 F.fl) ∧ w'.cell? ⟨gF2, 2, none⟩ = some (.int .u32 F.st) ∧ w'.cell? ⟨gF2, 3, none⟩ = some (.slice Ap F.data.length cp) ∧ w'.cell? ⟨gF2, 4, none⟩ = some (.int .i64 F.pad) ∧ w'.cell? ⟨gF2, 5, none⟩ = some (.int .u32 F.code) ∧ w'.cell? ⟨gF2, 6, none⟩ = some (.int .u32 F.oth) ∧ w'.cell? ⟨gF2, 7, none⟩ = some (.int .u8 F.wgt) ∧ w'.cell? ⟨gF2, 8, none⟩ = some (.bool F.al) ∧ w'.cell? ⟨gF2, 9, none⟩ = some (.int .u32 F.win) ∧ w'.cell? ⟨gF2, 10, none⟩ = some (.slice Bp F.sets.length mp) ∧ w'.cell? ⟨gE2, 0, none⟩ = some (.int .u8 1) ∧ w'.cell? ⟨gE2, 1, none⟩ = some (.int .u32 cd)) _ from ⟨((H.cell (g := gF2) (by repeat (first | exact List.Mem.head _ | apply List.Mem.tail)) 0).trans rfl), ((H.cell (g := gF2) (by repeat (first | exact List.Mem.head _ | apply List.Mem.tail)) 1).trans rfl), ((H.cell (g := gF2) (by repeat (first | exact List.Mem.head _ | apply List.Mem.tail)) 2).trans rfl), ((H.cell (g := gF2) (by repeat (first | exact List.Mem.head _ | apply List.Mem.tail)) 3).trans rfl), ((H.cell (g := gF2) (by repeat (first | exact List.Mem.head _ | apply List.Mem.tail)) 4).trans rfl), ((H.cell (g := gF2) (by repeat (first | exact List.Mem.head _ | apply List.Mem.tail)) 5).trans rfl), ((H.cell (g := gF2) (by repeat (first | exact List.Mem.head _ | apply List.Mem.tail)) 6).trans rfl), ((H.cell (g := gF2) (by repeat (first | exact List.Mem.head _ | apply List.Mem.tail)) 7).trans rfl), ((H.cell (g := gF2) (by repeat (first | exact List.Mem.head _ | apply List.Mem.tail)) 8).trans rfl), ((H.cell (g := gF2) (by repeat (first | exact List.Mem.head _ | apply List.Mem.tail)) 9).trans rfl), ((H.cell (g := gF2) (by repeat (first | exact List.Mem.head _ | apply List.Mem.tail)) 10).trans rfl), ((H.cell (g := gE2) (by repeat (first | exact List.Mem.head _ | apply List.Mem.tail)) 0).trans rfl), ((H.cell (g := gE2) (by repeat (first | exact List.Mem.head _ | apply List.Mem.tail)) 1).trans rfl)⟩)
  refine hK.out _ _ hS.out (fun hHeld => ?_)
  clear hK K
  clear hS
  refine pure_ (i := 4) (N := some 4) (v := ?_) (a' := ?_) #[true, true, true, true, true] rfl rfl (by kernel_rfl) (fun _ _ _ h => h) (Or.inl ⟨by rfl, ?_⟩) ?_ ?_
  rotate_left
  ·intro w'
   go_simp
   with_reducible rfl
  rotate_left
  ·simp only [Act.put, putA, putB, putC]
   rfl
  refine done_ (by kernel_rfl) ?_
  go_wp2_with fail
  refine bodyPost_ret (results_list (rs := [.cell 2 38, .cell 3 24, .tmp 4]) rfl (by simp) (.cell gF 38 ((frC F (.slice Ap F.data.length cp) (.slice Bp F.sets.length mp))) (0, 0) _ rfl (H.blk (cs := ((frC F (.slice Ap F.data.length cp) (.slice Bp F.sets.length mp))).toList) (by repeat (first | exact List.Mem.head _ | apply List.Mem.tail))) Tryd.underlying38 rfl (by kernel_rfl) (.cell gE 24 _ (0, 0) _ rfl (H.blk (by repeat (first | exact List.Mem.head _ | apply List.Mem.tail))) Tryd.underlying24 rfl (by kernel_rfl) (.tmp .nil)))) rfl ?_
  exact HP.out _ _ ⟨_, Ap, cp, Bp, mp, rfl, H.only3 (by repeat (first | exact Pull.head | apply Pull.tail)) (by repeat (first | exact Pull.head | apply Pull.tail)) (by repeat (first | exact Pull.head | apply Pull.tail))⟩
set_option maxHeartbeats 4000000 in
set_option maxRecDepth 100000 in
theorem next_one (w : World) (g : Nat) (v : Value) (s : Sp) (h : IsSp w g v s) (hgv : ∀ W, Kept w W (ats [spO g v s, spR v s]) → GV W) (hb : s.bad = false) (b1 : List Int) (hb1 : (s.waits = false ∧ b1 = s.b) ∨ (s.waits = true ∧ preOk s.b = true ∧ 24 ≤ s.b.length ∧ s.b.drop 24 = b1)) (hby : Byte8 s.b) (hl : s.b.length ≤ 16393) (h9 : 9 ≤ b1.length) (m : Nat) (hm : headN b1 = (m : Int)) (hm0 : 9 ≤ m) (hm1 : m ≤ 16393) (hm2 : m ≤ b1.length) (hs : (getFr (b1.take m)).2.1 ≠ 1) : Calls Tryd.prog 39 #[.pointer (some ⟨g, 0, none⟩)] w (NextP w g v s (getFr (b1.take m)) true ⟨b1.drop m, false, false⟩) := by
 refine of_post0 fun R hRR => ?_
 have HP := Lib.hid hRR
 have H : Hold w w (ats [spO g v s, spR v s]) [spO g v s, spR v s] := h.hold
 have HGV := Lib.hid hgv
 obtain ⟨b, x, y⟩ := s
 simp only at hb hb1 hby hl
 subst hb
 have hby1 : Byte8 b1 := by
  rcases hb1 with ⟨_, rfl⟩ | ⟨_, _, _, rfl⟩
  ·exact hby
  ·exact fun x hx => hby x (List.mem_of_mem_drop hx)
 have hl1 : b1.length ≤ 16393 := by
  rcases hb1 with ⟨_, rfl⟩ | ⟨_, _, _, rfl⟩
  ·exact hl
  ·rw [List.length_drop]; omega
 have HN := Lib.hid (And.intro hm (show decide (9 ≤ b1.length) = true from decide_eq_true h9))
 have g1 : decide ((m : Int) ≤ 16393) = true := decide_eq_true (by omega)
 have g2 : decide (m ≤ 16393) = true := decide_eq_true (by omega)
 have g3 : decide ((16393 : Int) < (m : Int)) = false := decide_eq_false (by omega)
 have g4 : decide (16393 < m) = false := decide_eq_false (by omega)
 have g5 : decide ((b1.length : Int) < (m : Int)) = false := decide_eq_false (by omega)
 have g6 : decide (b1.length < m) = false := decide_eq_false (by omega)
 have hLm : (b1.take m).length = m := by rw [List.length_take]; omega
 have hG := fun (W : World) (A2 : Option Addr) (c2 : Nat) (hg : GV W) (h1 : ReadsInt W .u8 A2 m (b1.take m)) (h2 : m ≤ c2) => get_hold W hg A2 c2 (b1.take m) (by rw [hLm]; exact h1) (by rw [hLm]; exact h2) (fun x hx => hby1 x (List.mem_of_mem_take hx)) (by rw [hLm]; omega)
 rw [hLm] at hG
 have HLM := Lib.hid hLm
 generalize getFr (b1.take m) = X at hG HP hs
 obtain ⟨F, sc, cd⟩ := X
 dsimp only at hG hs
 have g7 : (sc == 1) = false := by simpa using hs
 have HG := Lib.hid hG
 have HY := Lib.hid (And.intro hby (And.intro hl hby1))
 clear hRR h hgv hby hl hby1 h9 hm hG hLm hs
 rcases hb1 with ⟨hw, e1⟩ | ⟨hw, hp, h24, e1⟩
 subst hw
 subst e1
 go_enter Tryd.func39, Tryd.ntmps39
 go_upto_region 6 with (first
  | ((with_reducible refine is_alloc (ty := 38) rfl ?_); refine alloc_h H rfl rfl (cs := (frC ⟨0, 0, 0, [], 0, 0, 0, 0, false, 0, []⟩ nilS nilS).toList) (by first | (go_simp; done) | (go_simp; rfl)) ?_; clear H; intro gF w_ H)
  | ((with_reducible refine is_alloc (ty := 24) rfl ?_); refine alloc_h H rfl rfl (cs := [.int .u8 0, .int .u32 0]) (by first | (go_simp; done) | (go_simp; rfl)) ?_; clear H; intro gE w_ H)
  | (go_at_call 37; refine (bad_calls _ g _ _ _ (H.blk (by repeat (first | exact List.Mem.head _ | apply List.Mem.tail)))).mono ?_; rintro e_ w_ ⟨rfl, h_⟩; replace H := H.below h_; clear h_)
  | ((with_reducible refine is_load rfl ?_); refine loadf_h H rfl rfl rfl (by repeat (first | exact List.Mem.head _ | apply List.Mem.tail)) rfl (by kernel_rfl) ?_)
  | ((with_reducible refine is_load rfl ?_); refine loadf_g H rfl rfl (by repeat (first | exact List.Mem.head _ | apply List.Mem.tail)) rfl (by kernel_rfl) (by rfl) ?_))
 replace H : ∃ v1, Hold w _ _ ([spO g v1 ⟨b1, false, false⟩, spR v1 ⟨b1, false, false⟩] ++ _) := ⟨v, H.pull2 (by repeat (first | exact Pull.head | apply Pull.tail)) (by repeat (first | exact Pull.head | apply Pull.tail))⟩
 obtain ⟨v1, H⟩ := H
 rotate_left
 subst hw
 have HX := Lib.hid (And.intro hp (And.intro h24 e1))
 clear hp h24 e1
 go_enter Tryd.func39, Tryd.ntmps39
 go_upto_region 6 with (first
  | ((with_reducible refine is_alloc (ty := 38) rfl ?_); refine alloc_h H rfl rfl (cs := (frC ⟨0, 0, 0, [], 0, 0, 0, 0, false, 0, []⟩ nilS nilS).toList) (by first | (go_simp; done) | (go_simp; rfl)) ?_; clear H; intro gF w_ H)
  | ((with_reducible refine is_alloc (ty := 24) rfl ?_); refine alloc_h H rfl rfl (cs := [.int .u8 0, .int .u32 0]) (by first | (go_simp; done) | (go_simp; rfl)) ?_; clear H; intro gE w_ H)
  | (go_at_call 37; refine (bad_calls _ g _ _ _ (H.blk (by repeat (first | exact List.Mem.head _ | apply List.Mem.tail)))).mono ?_; rintro e_ w_ ⟨rfl, h_⟩; replace H := H.below h_; clear h_)
  | ((with_reducible refine is_load rfl ?_); refine loadf_h H rfl rfl rfl (by repeat (first | exact List.Mem.head _ | apply List.Mem.tail)) rfl (by kernel_rfl) ?_)
  | ((with_reducible refine is_load rfl ?_); refine loadf_g H rfl rfl (by repeat (first | exact List.Mem.head _ | apply List.Mem.tail)) rfl (by kernel_rfl) (by rfl) ?_)
  | (go_at_call 66; refine (begins_ok _ g _ _ (H.sp (by repeat (first | exact List.Mem.head _ | apply List.Mem.tail)) (by repeat (first | exact List.Mem.head _ | apply List.Mem.tail))) HY.out.1 HX.out.1 HX.out.2.1 HY.out.2.1).mono ?_; rintro e_ w_ ⟨v1, rfl, h_⟩; simp only [HX.out.2.2] at h_; replace H := Hold.call (H.pull2 (by repeat (first | exact Pull.head | apply Pull.tail)) (by repeat (first | exact Pull.head | apply Pull.tail))) h_; clear h_))
 rotate_left
 all_goals
  obtain ⟨A1, c1, rfl, hR1, hc1⟩ := own_reads2 (H.row (e := 5) (v := v1) (k := .u8) (xs := b1) (by repeat (first | exact List.Mem.head _ | apply List.Mem.tail)))
  obtain ⟨i0, hi, _, hsz, _⟩ := info_parts Tryd.infoB8
  obtain ⟨hcut, hr, hc2⟩ := print_take_int (P := Tryd.prog) (k := .u8) 35 5 Tryd.underlying35 hi hsz A1 c1 b1 (m : Int) (by omega) (by omega) hc1
  obtain ⟨A2, hcut2, hr2, hm2⟩ := print_drop_of (P := Tryd.prog) (Value.int .u8) (0 : Int) 35 5 .i64 Tryd.underlying35 hi hsz A1 c1 b1 (m : Int) (by omega) (by omega) hc1
  rw [Int.toNat_natCast] at hcut hr hc2 hcut2 hr2 hm2
  rw [HLM.out] at hcut hr hc2
  have hl3 : (b1.drop m).length ≤ 100000 := by rw [List.length_drop]; omega
  have HC1 := Lib.hid hc1
  have HR2 := Lib.hid (And.intro hr (And.intro hr2 (And.intro hl3 (And.intro hc2 hm2))))
  generalize hL2 : b1.drop m = L2 at hcut2 HR2 HP
  have k1 : (m : Int) ≤ (b1.length : Int) := by omega
  have k2 : m ≤ b1.length := by omega
  clear hR1 hc1 hi hsz hr hc2 hr2 hm2 hl3 hL2
  go_upto_region 19 with (first
   | (go_at_call 25; refine (head_calls _ A1 c1 b1 HY.out.2.2 (reads_own (H.row (by repeat (first | exact List.Mem.head _ | apply List.Mem.tail)))) HC1.out).mono ?_; rintro e_ w_ ⟨rfl, h_⟩; rw [HN.out.1, HN.out.2]; replace H := H.below h_.below; clear h_)
   | ((with_reducible refine is_load rfl ?_); refine loadf_h H rfl rfl rfl (by repeat (first | exact List.Mem.head _ | apply List.Mem.tail)) rfl (by kernel_rfl) ?_)
   | ((with_reducible refine is_load rfl ?_); refine loadf_g H rfl rfl (by repeat (first | exact List.Mem.head _ | apply List.Mem.tail)) rfl (by kernel_rfl) (by rfl) ?_)
   | ((with_reducible refine is_alloc (ty := 38) rfl ?_); refine alloc_h H rfl rfl (cs := (frC ⟨0, 0, 0, [], 0, 0, 0, 0, false, 0, []⟩ nilS nilS).toList) (by first | (go_simp; done) | (go_simp; rfl)) ?_; clear H; intro gF2 w_ H)
   | ((with_reducible refine is_alloc (ty := 24) rfl ?_); refine alloc_h H rfl rfl (cs := [.int .u8 0, .int .u32 0]) (by first | (go_simp; done) | (go_simp; rfl)) ?_; clear H; intro gE2 w_ H)
   | (go_at_call 27; refine (HG.out _ _ _ (HGV.out _ H.kept) (HR2.out.1 _ (reads_own (H.row (by repeat (first | exact List.Mem.head _ | apply List.Mem.tail))))) (HR2.out.2.2.2.1)).mono ?_; rintro e_ w_ ⟨Ap, cp, Bp, mp, rfl, h_⟩; replace H := Hold.push H h_; clear h_)
   | (go_at_call 68; refine (clone_got _ _ _ _ _ (HR2.out.2.1 _ (reads_own (H.row (by repeat (first | exact List.Mem.head _ | apply List.Mem.tail))))) HR2.out.2.2.1).mono ?_; rintro e_ w_ ⟨v2, rfl, h_⟩; obtain ⟨A3, c3, rfl⟩ := own_slice (H2_ h_); replace H := Hold.push H h_; clear h_)
   | ((with_reducible refine is_store rfl ?_); (try simp only [Act.put, putA, putB, putC]); refine store_h H rfl rfl rfl rfl rfl (by repeat (first | exact Put.head | apply Put.tail)) (by kernel_rfl) (Nat.le_of_ble_eq_true rfl) rfl ?_; clear H; intro w_ H; simp only [setC, Value.cells, List.toList_toArray] at H))
  replace H := H.below (below_drew (Below.refl _ _))
  refine start_ (n := 5) (S := fun w' => w'.cell? ⟨gF2, 0, none⟩ = some (.int .u8 F.ty) ∧ w'.cell? ⟨gF2, 1, none⟩ = some (.int .u8 F.fl) ∧ w'.cell? ⟨gF2, 2, none⟩ = some (.int .u32 F.st) ∧ w'.cell? ⟨gF2, 3, none⟩ = some (.slice Ap F.data.length cp) ∧ w'.cell? ⟨gF2, 4, none⟩ = some (.int .i64 F.pad) ∧ w'.cell? ⟨gF2, 5, none⟩ = some (.int .u32 F.code) ∧ w'.cell? ⟨gF2, 6, none⟩ = some (.int .u32 F.oth) ∧ w'.cell? ⟨gF2, 7, none⟩ = some (.int .u8 F.wgt) ∧ w'.cell? ⟨gF2, 8, none⟩ = some (.bool F.al) ∧ w'.cell? ⟨gF2, 9, none⟩ = some (.int .u32 F.win) ∧ w'.cell? ⟨gF2, 10, none⟩ = some (.slice Bp F.sets.length mp) ∧ w'.cell? ⟨gE2, 0, none⟩ = some (.int .u8 sc) ∧ w'.cell? ⟨gE2, 1, none⟩ = some (.int .u32 cd)) (ds := []) #[false, false, false, false, false] (by kernel_rfl) rfl rfl ⟨((H.cell (g := gF2) (by repeat (first | exact List.Mem.head _ | apply List.Mem.tail)) 0).trans rfl), ((H.cell (g := gF2) (by repeat (first | exact List.Mem.head _ | apply List.Mem.tail)) 1).trans rfl), ((H.cell (g := gF2) (by repeat (first | exact List.Mem.head _ | apply List.Mem.tail)) 2).trans rfl), ((H.cell (g := gF2) (by repeat (first | exact List.Mem.head _ | apply List.Mem.tail)) 3).trans rfl), ((H.cell (g := gF2) (by repeat (first | exact List.Mem.head _ | apply List.Mem.tail)) 4).trans rfl), ((H.cell (g := gF2) (by repeat (first | exact List.Mem.head _ | apply List.Mem.tail)) 5).trans rfl), ((H.cell (g := gF2) (by repeat (first | exact List.Mem.head _ | apply List.Mem.tail)) 6).trans rfl), ((H.cell (g := gF2) (by repeat (first | exact List.Mem.head _ | apply List.Mem.tail)) 7).trans rfl), ((H.cell (g := gF2) (by repeat (first | exact List.Mem.head _ | apply List.Mem.tail)) 8).trans rfl), ((H.cell (g := gF2) (by repeat (first | exact List.Mem.head _ | apply List.Mem.tail)) 9).trans rfl), ((H.cell (g := gF2) (by repeat (first | exact List.Mem.head _ | apply List.Mem.tail)) 10).trans rfl), ((H.cell (g := gE2) (by repeat (first | exact List.Mem.head _ | apply List.Mem.tail)) 0).trans rfl), ((H.cell (g := gE2) (by repeat (first | exact List.Mem.head _ | apply List.Mem.tail)) 1).trans rfl)⟩ (fun hHeld => ?_)
  generalize World.drew _ = wy at H hHeld ⊢
  refine take_ (i := 0) (N := some 117) (v := ?_) (a' := ?_) #[true, false, false, false, false] rfl rfl (by kernel_rfl) (fun _ _ _ h => h) (Or.inl ⟨by rfl, ?_⟩) hHeld ?_ ?_
  rotate_left
  ·rintro w' ⟨s0, s1, s2, s3, s4, s5, s6, s7, s8, s9, s10, s11, s12⟩
   go_simp
   with_reducible rfl
  rotate_left
  ·simp only [Act.put, putA, putB, putC]
   rfl
  refine take_ (i := 1) (N := some 118) (v := ?_) (a' := ?_) #[true, true, false, false, false] rfl rfl (by kernel_rfl) (fun _ _ _ h => h) (Or.inl ⟨by rfl, ?_⟩) hHeld ?_ ?_
  rotate_left
  ·rintro w' ⟨s0, s1, s2, s3, s4, s5, s6, s7, s8, s9, s10, s11, s12⟩
   go_simp
   with_reducible rfl
  rotate_left
  ·simp only [Act.put, putA, putB, putC]
   rfl
  refine one_ (i := 2) (N := none) #[true, true, true, false, false] rfl rfl (by kernel_rfl) (by decide) (fun K hK => ?_)
  refine store_o H (by rfl) rfl rfl rfl rfl (by repeat (first | exact Put.head | apply Put.tail)) (by kernel_rfl) (Nat.le_of_ble_eq_true rfl) rfl ?_
  clear H
  intro w_ H h_
  simp only [setC, Value.cells, List.toList_toArray] at H
  clear h_
  have hS := Lib.hid (show (fun w' : World => w'.cell? ⟨gF2, 0, none⟩ = some (.int .u8 F.ty) ∧ w'.cell? ⟨gF2, 1, none⟩ = some (.int .u8 F.fl) ∧ w'.cell? ⟨gF2, 2, none⟩ = some (.int .u32 F.st) ∧ w'.cell? ⟨gF2, 3, none⟩ = some (.slice Ap F.data.length cp) ∧ w'.cell? ⟨gF2, 4, none⟩ = some (.int .i64 F.pad) ∧ w'.cell? ⟨gF2, 5, none⟩ = some (.int .u32 F.code) ∧ w'.cell? ⟨gF2, 6, none⟩ = some (.int .u32 F.oth) ∧ w'.cell? ⟨gF2, 7, none⟩ = some (.int .u8 F.wgt) ∧ w'.cell? ⟨gF2, 8, none⟩ = some (.bool F.al) ∧ w'.cell? ⟨gF2, 9, none⟩ = some (.int .u32 F.win) ∧ w'.cell? ⟨gF2, 10, none⟩ = some (.slice Bp F.sets.length mp) ∧ w'.cell? ⟨gE2, 0, none⟩ = some (.int .u8 sc) ∧ w'.cell? ⟨gE2, 1, none⟩ = some (.int .u32 cd)) _ from ⟨((H.cell (g := gF2) (by repeat (first | exact List.Mem.head _ | apply List.Mem.tail)) 0).trans rfl), ((H.cell (g := gF2) (by repeat (first | exact List.Mem.head _ | apply List.Mem.tail)) 1).trans rfl), ((H.cell (g := gF2) (by repeat (first | exact List.Mem.head _ | apply List.Mem.tail)) 2).trans rfl), ((H.cell (g := gF2) (by repeat (first | exact List.Mem.head _ | apply List.Mem.tail)) 3).trans rfl), ((H.cell (g := gF2) (by repeat (first | exact List.Mem.head _ | apply List.Mem.tail)) 4).trans rfl), ((H.cell (g := gF2) (by repeat (first | exact List.Mem.head _ | apply List.Mem.tail)) 5).trans rfl), ((H.cell (g := gF2) (by repeat (first | exact List.Mem.head _ | apply List.Mem.tail)) 6).trans rfl), ((H.cell (g := gF2) (by repeat (first | exact List.Mem.head _ | apply List.Mem.tail)) 7).trans rfl), ((H.cell (g := gF2) (by repeat (first | exact List.Mem.head _ | apply List.Mem.tail)) 8).trans rfl), ((H.cell (g := gF2) (by repeat (first | exact List.Mem.head _ | apply List.Mem.tail)) 9).trans rfl), ((H.cell (g := gF2) (by repeat (first | exact List.Mem.head _ | apply List.Mem.tail)) 10).trans rfl), ((H.cell (g := gE2) (by repeat (first | exact List.Mem.head _ | apply List.Mem.tail)) 0).trans rfl), ((H.cell (g := gE2) (by repeat (first | exact List.Mem.head _ | apply List.Mem.tail)) 1).trans rfl)⟩)
  refine hK.out _ _ hS.out (fun hHeld => ?_)
  clear hK K
  clear hS
  refine one_ (i := 3) (N := none) #[true, true, true, true, false] rfl rfl (by kernel_rfl) (by decide) (fun K hK => ?_)
  refine store_o H (by rfl) rfl rfl rfl rfl (by repeat (first | exact Put.head | apply Put.tail)) (by kernel_rfl) (Nat.le_of_ble_eq_true rfl) rfl ?_
  clear H
  intro w_ H h_
  simp only [setC, Value.cells, List.toList_toArray] at H
  clear h_
  have hS := Lib.hid (show (fun w' : World => w'.cell? ⟨gF2, 0, none⟩ = some (.int .u8 F.ty) ∧ w'.cell? ⟨gF2, 1, none⟩ = some (.int .u8 F.fl) ∧ w'.cell? ⟨gF2, 2, none⟩ = some (.int .u32 F.st) ∧ w'.cell? ⟨gF2, 3, none⟩ = some (.slice Ap F.data.length cp) ∧ w'.cell? ⟨gF2, 4, none⟩ = some (.int .i64 F.pad) ∧ w'.cell? ⟨gF2, 5, none⟩ = some (.int .u32 F.code) ∧ w'.cell? ⟨gF2, 6, none⟩ = some (.int .u32 F.oth) ∧ w'.cell? ⟨gF2, 7, none⟩ = some (.int .u8 F.wgt) ∧ w'.cell? ⟨gF2, 8, none⟩ = some (.bool F.al) ∧ w'.cell? ⟨gF2, 9, none⟩ = some (.int .u32 F.win) ∧ w'.cell? ⟨gF2, 10, none⟩ = some (.slice Bp F.sets.length mp) ∧ w'.cell? ⟨gE2, 0, none⟩ = some (.int .u8 sc) ∧ w'.cell? ⟨gE2, 1, none⟩ = some (.int .u32 cd)) _ from ⟨((H.cell (g := gF2) (by repeat (first | exact List.Mem.head _ | apply List.Mem.tail)) 0).trans rfl), ((H.cell (g := gF2) (by repeat (first | exact List.Mem.head _ | apply List.Mem.tail)) 1).trans rfl), ((H.cell (g := gF2) (by repeat (first | exact List.Mem.head _ | apply List.Mem.tail)) 2).trans rfl), ((H.cell (g := gF2) (by repeat (first | exact List.Mem.head _ | apply List.Mem.tail)) 3).trans rfl), ((H.cell (g := gF2) (by repeat (first | exact List.Mem.head _ | apply List.Mem.tail)) 4).trans rfl), ((H.cell (g := gF2) (by repeat (first | exact List.Mem.head _ | apply List.Mem.tail)) 5).trans rfl), ((H.cell (g := gF2) (by repeat (first | exact List.Mem.head _ | apply List.Mem.tail)) 6).trans rfl), ((H.cell (g := gF2) (by repeat (first | exact List.Mem.head _ | apply List.Mem.tail)) 7).trans rfl), ((H.cell (g := gF2) (by repeat (first | exact List.Mem.head _ | apply List.Mem.tail)) 8).trans rfl), ((H.cell (g := gF2) (by repeat (first | exact List.Mem.head _ | apply List.Mem.tail)) 9).trans rfl), ((H.cell (g := gF2) (by repeat (first | exact List.Mem.head _ | apply List.Mem.tail)) 10).trans rfl), ((H.cell (g := gE2) (by repeat (first | exact List.Mem.head _ | apply List.Mem.tail)) 0).trans rfl), ((H.cell (g := gE2) (by repeat (first | exact List.Mem.head _ | apply List.Mem.tail)) 1).trans rfl)⟩)
  refine hK.out _ _ hS.out (fun hHeld => ?_)
  clear hK K
  clear hS
  refine pure_ (i := 4) (N := some 4) (v := ?_) (a' := ?_) #[true, true, true, true, true] rfl rfl (by kernel_rfl) (fun _ _ _ h => h) (Or.inl ⟨by rfl, ?_⟩) ?_ ?_
  rotate_left
  ·intro w'
   go_simp
   with_reducible rfl
  rotate_left
  ·simp only [Act.put, putA, putB, putC]
   rfl
  refine done_ (by kernel_rfl) ?_
  go_wp2_with fail
  refine bodyPost_ret (results_list (rs := [.cell 2 38, .cell 3 24, .tmp 4]) rfl (by simp) (.cell gF 38 ((frC F (.slice Ap F.data.length cp) (.slice Bp F.sets.length mp))) (0, 0) _ rfl (H.blk (cs := ((frC F (.slice Ap F.data.length cp) (.slice Bp F.sets.length mp))).toList) (by repeat (first | exact List.Mem.head _ | apply List.Mem.tail))) Tryd.underlying38 rfl (by kernel_rfl) (.cell gE 24 _ (0, 0) _ rfl (H.blk (by repeat (first | exact List.Mem.head _ | apply List.Mem.tail))) Tryd.underlying24 rfl (by kernel_rfl) (.tmp .nil)))) rfl ?_
  exact HP.out _ _ ⟨_, Ap, cp, Bp, mp, rfl, H.only3 (by repeat (first | exact Pull.head | apply Pull.tail)) (by repeat (first | exact Pull.head | apply Pull.tail)) (by repeat (first | exact Pull.head | apply Pull.tail))⟩
end Go.Proofs.YtjjfkmniffbgkaaDoor

/- Package split: Next and Feed, in one each. No walk. -/
namespace Go.Proofs.YtjjfkmniffbgkaaDoor
set_option linter.unusedVariables false
set_option linter.unusedSimpArgs false
open Go.RowKit Go.Proofs.YtjjfkmniffbgkaaDoorW.PrintWords Go.Proofs.YtjjfkmniffbgkaaDoorW.PrintLast Go.Proofs.YtjjfkmniffbgkaaDoorW.PrintMore Go.Proofs.YtjjfkmniffbgkaaDoor.QFrmA Go.Proofs.YtjjfkmniffbgkaaDoor.Given Go.Extern.Stop Go.Stop Go.Extern Go.Maps
theorem next_plain (w : World) (g : Nat) (v : Value) (s : Sp) (h : IsSp w g v s) (hgv : ∀ W, Kept w W (ats [spO g v s, spR v s]) → GV W) (hb : s.bad = false) (b1 : List Int) (hb1 : (s.waits = false ∧ b1 = s.b) ∨ (s.waits = true ∧ preOk s.b = true ∧ 24 ≤ s.b.length ∧ s.b.drop 24 = b1)) (hby : Byte8 s.b) (hl : s.b.length ≤ 16393) :
  Calls Tryd.prog 39 #[.pointer (some ⟨g, 0, none⟩)] w (NextP w g v s ((nextN b1).1.getD (zeroF, 0, 0)) (nextN b1).1.isSome (nextN b1).2) := by
 have hby1 : Byte8 b1 := by
  rcases hb1 with ⟨_, rfl⟩ | ⟨_, _, _, rfl⟩
  ·exact hby
  ·exact fun x hx => hby x (List.mem_of_mem_drop hx)
 by_cases h9 : b1.length < 9
 ·have e : nextN b1 = (none, ⟨b1, false, false⟩) := by
   unfold nextN nextB
   rw [if_pos h9]
  rw [e]
  exact next_none0 w g v s h hgv hb b1 hb1 hby hl h9
 ·have h9' : 9 ≤ b1.length := by omega
  obtain ⟨m, hm⟩ := Int.eq_ofNat_of_zero_le (show 0 ≤ headN b1 by have := headN_ge h9' hby1; omega)
  have hm9 := headN_ge h9' hby1
  have hmm := headN_le hby1
  have hN : nextB b1 = if headN b1 ≤ 16393 ∧ (b1.length : Int) < headN b1 then none
    else if 16393 < headN b1 then some ((hdF b1, 1, 6), [], true)
    else if (getFr (b1.take (headN b1).toNat)).2.1 = 1 then some (getFr (b1.take (headN b1).toNat), [], true)
    else some (getFr (b1.take (headN b1).toNat), b1.drop (headN b1).toNat, false) := by
   unfold nextB
   rw [if_neg h9]
  rw [hm] at hN hm9 hmm
  rw [Int.toNat_natCast] at hN
  by_cases hs : (m : Int) ≤ 16393 ∧ (b1.length : Int) < (m : Int)
  ·have e : nextN b1 = (none, ⟨b1, false, false⟩) := by
    unfold nextN
    rw [hN, if_pos hs]
   rw [e]
   exact next_none1 w g v s h hgv hb b1 hb1 hby hl h9' m hm (by omega) (by omega)
  ·rw [if_neg hs] at hN
   by_cases hg : (16393 : Int) < (m : Int)
   ·have e : nextN b1 = (some (hdF b1, 1, 6), ⟨[], false, true⟩) := by
     unfold nextN
     rw [hN, if_pos hg]
    rw [e]
    exact next_great w g v s h hgv hb b1 hb1 hby hl h9' m hm (by omega) (by omega)
   ·rw [if_neg hg] at hN
    by_cases hc : (getFr (b1.take m)).2.1 = 1
    ·have e : nextN b1 = (some (getFr (b1.take m)), ⟨[], false, true⟩) := by
      unfold nextN
      rw [hN, if_pos hc]
     rw [e]
     exact next_bad w g v s h hgv hb b1 hb1 hby hl h9' m hm (by omega) (by omega) (by omega) hc
    ·have e : nextN b1 = (some (getFr (b1.take m)), ⟨b1.drop m, false, false⟩) := by
      unfold nextN
      rw [hN, if_neg hc]
     rw [e]
     exact next_one w g v s h hgv hb b1 hb1 hby hl h9' m hm (by omega) (by omega) (by omega) hc
theorem next_calls (w : World) (g : Nat) (v : Value) (s : Sp) (h : IsSp w g v s) (hgv : ∀ W, Kept w W (ats [spO g v s, spR v s]) → GV W) (hby : Byte8 s.b) (hl : s.b.length ≤ 16393) :
  Calls Tryd.prog 39 #[.pointer (some ⟨g, 0, none⟩)] w (NextP w g v s ((nextS s).1.getD (zeroF, 0, 0)) (nextS s).1.isSome (nextS s).2) := by
 unfold nextS
 cases hb : s.bad with
 | true =>
  rw [if_pos rfl]
  cases hw : s.waits with
  | true =>
   rw [if_pos rfl]
   exact next_bad1 w g v s h hgv hb hw
  | false =>
   rw [if_neg (by decide)]
   exact next_bad0 w g v s h hgv hb hw
 | false =>
  rw [if_neg (by decide)]
  cases hw : s.waits with
  | false =>
   rw [if_neg (by decide)]
   exact next_plain w g v s h hgv hb s.b (.inl ⟨hw, rfl⟩) hby hl
  | true =>
   rw [if_pos rfl]
   cases hp : preOk s.b with
   | false =>
    rw [if_pos rfl]
    exact next_mis w g v s h hgv hb hw hby hp
   | true =>
    rw [if_neg (by decide)]
    by_cases h24 : s.b.length < 24
    ·rw [if_pos h24]
     exact next_short w g v s h hgv hb hw hby hp h24
    ·rw [if_neg h24]
     exact next_plain w g v s h hgv hb _ (.inr ⟨hw, hp, by omega, rfl⟩) hby hl
def feedK (s : Sp) (xs : List Int) : Nat := if s.bad = true then 0 else feedN s xs
def feedS (s : Sp) (xs : List Int) : Sp := if s.bad = true then s else ⟨s.b ++ xs.take (feedN s xs), s.waits, false⟩
theorem feed_calls (w : World) (g : Nat) (v : Value) (s : Sp) (h : IsSp w g v s) (hl : s.b.length ≤ 16393) (A : Option Addr) (c : Nat) (xs : List Int) (hR : ReadsInt w .u8 A xs.length xs) (hc : xs.length ≤ c) :
  Calls Tryd.prog 40 #[.pointer (some ⟨g, 0, none⟩), .slice A xs.length c] w fun e w' => ∃ v', e = .returned (.int .i64 ((feedK s xs : Nat) : Int)) ∧ Hold w w' (ats [spO g v s, spR v s]) [spO g v' (feedS s xs), spR v' (feedS s xs)] := by
 unfold feedK feedS
 cases hb : s.bad with
 | true =>
  rw [if_pos rfl, if_pos rfl]
  refine (feed_bad w g v s h hb A xs.length c).mono ?_
  rintro e w' ⟨rfl, hbl⟩
  exact ⟨v, rfl, h.hold.below hbl⟩
 | false =>
  rw [if_neg (by decide), if_neg (by decide)]
  exact feed_good w g v s h hb hl A c xs hR hc
theorem Hold.gv {w W : World} {l l' r : List Own} (H : Hold w W [] l) (hg : GV w) (hp : Want l (l' ++ r)) : ∀ W1, Kept W W1 (ats l') → GV W1 := by
 intro W1 hk
 have H2 := H.want hp
 have hlt : 1 < w.heap.size := World.block_lt_of_cell? w _ hg
 have h1 : W.heap[1]? = w.heap[1]? := H.kept.block _ hlt (by simp)
 have hlt2 : 1 < W.heap.size := Nat.lt_of_lt_of_le hlt H.kept.size
 have h2 : W1.heap[1]? = W.heap[1]? := hk.block _ hlt2 fun hm => by
  obtain ⟨o, ho, hk⟩ := List.mem_flatMap.1 hm
  rcases H2.mine o (List.mem_append_left _ ho) _ hk with h | h
  ·omega
  ·cases h
 unfold GV at hg ⊢
 rw [← hg]
 exact World.cell?_of_block (h2.trans h1)
end Go.Proofs.YtjjfkmniffbgkaaDoor
