/- Texts of this claim, put together: Split3, Split4, Split5, Split6, RfNum. -/
import Derived.Test.YtjjfkmniffbgkaaDoorMSplitGreat6
import Derived.Lib.SlBytesConst
import Derived.Test.YtjjfkmniffbgkaaDoorMSplitGreat0
/- Package split: Next, over what is held. (This text is printed by wip/gen/split3.py.) -/
namespace Go.Proofs.YtjjfkmniffbgkaaDoor
set_option linter.unusedVariables false
set_option linter.unusedSimpArgs false
open Go.RowKit Go.Proofs.YtjjfkmniffbgkaaDoorW.PrintWords Go.Proofs.YtjjfkmniffbgkaaDoorW.PrintLast Go.Proofs.YtjjfkmniffbgkaaDoorW.PrintMore Go.Proofs.YtjjfkmniffbgkaaDoor.QFrmA Go.Proofs.YtjjfkmniffbgkaaDoor.Given Go.Extern.Stop Go.Stop Go.Extern Go.Maps
attribute [local go_sem] max2_int min2_int max_two min_two
attribute [local go_sem high] eqFault
theorem is_make {P : Program} {ops : Array Oper} {rest : List Oper} {o : Oper} {a : Act} {Q : Exit → Act → World → Prop} {W : World} {ty : TypeId} {x y : Operand} (_ho : o.op = .makeSlice ty x y) (h : wpList P ops Q (o :: rest) a W) : wpList P ops Q (o :: rest) a W := h
theorem is_call {P : Program} {ops : Array Oper} {rest : List Oper} {o : Oper} {a : Act} {Q : Exit → Act → World → Prop} {W : World} {c : Go.Call} (_ho : o.op = .call c) (h : wpList P ops Q (o :: rest) a W) : wpList P ops Q (o :: rest) a W := h
theorem frThing_nil {W : World} (F : Fr) (hd : F.data = []) (hs : F.sets = []) : Hold W W [] [frThing none 0 none 0 F] :=
 frThing_hold (Below.refl _ _) ⟨by rw [hd]; exact ⟨rfl, by simp, fun h => absurd h (Nat.lt_irrefl 0)⟩, by rw [hd]; exact Nat.le_refl 0, fun a h => by cases h⟩ ⟨by rw [hs]; exact no_sets _, by rw [hs]; exact Nat.le_refl 0, fun a h => by cases h⟩
def NextP (w : World) (g : Nat) (v : Value) (s : Sp) (x : Rs) (ok : Bool) (s' : Sp) (e : Ending) (w' : World) : Prop :=
 ∃ v' A c B m, e = .returned (.tuple #[.agg (frC x.1 (.slice A x.1.data.length c) (.slice B x.1.sets.length m)), .agg #[.int .u8 x.2.1, .int .u32 x.2.2], .bool ok]) ∧ Hold w w' (ats [spO g v s, spR v s]) [frThing A c B m x.1, spO g v' s', spR v' s']
theorem NextP.plain {w w' : World} {g : Nat} {v v' : Value} {s s' : Sp} {x : Rs} {ok : Bool} {l l1 r : List Own} (hd : x.1.data = []) (hs : x.1.sets = []) (H : Hold w w' (ats [spO g v s, spR v s]) l) (h1 : Pull l (spO g v' s') l1) (h2 : Pull l1 (spR v' s') r) :
  NextP w g v s x ok s' (.returned (.tuple #[.agg (frC x.1 nilS nilS), .agg #[.int .u8 x.2.1, .int .u32 x.2.2], .bool ok])) w' :=
 ⟨v', none, 0, none, 0, by rw [hd, hs]; rfl, Hold.push (H.only2 h1 h2) (frThing_nil x.1 hd hs)⟩
theorem get_hold (w : World) (hgv : GV w) (A : Option Addr) (c : Nat) (l : List Int) (hR : ReadsInt w .u8 A l.length l) (hc : l.length ≤ c) (hby : Byte8 l) (hl : l.length ≤ 20000000) :
  Calls Tryd.prog 27 #[.slice A l.length c] w fun e w' => ∃ Ap cp Bp mp, e = .returned (.tuple #[.agg (frC (getFr l).1 (.slice Ap (getFr l).1.data.length cp) (.slice Bp (getFr l).1.sets.length mp)), .agg #[.int .u8 (getFr l).2.1, .int .u32 (getFr l).2.2]]) ∧ Hold w w' [] [frThing Ap cp Bp mp (getFr l).1] := by
 refine (get_came w hgv A c l hR hc hby hl).mono ?_
 rintro e w' ⟨⟨v, rfl, hc⟩, hb⟩
 obtain ⟨Ap, cp, Bp, mp, rfl, h1, h2⟩ := hc
 exact ⟨Ap, cp, Bp, mp, rfl, frThing_hold hb h1 h2⟩
set_option maxHeartbeats 4000000 in
set_option maxRecDepth 100000 in
theorem next_bad0 (w : World) (g : Nat) (v : Value) (s : Sp) (h : IsSp w g v s) (hgv : ∀ W, Kept w W (ats [spO g v s, spR v s]) → GV W) (hb : s.bad = true) (hw : s.waits = false) : Calls Tryd.prog 39 #[.pointer (some ⟨g, 0, none⟩)] w (NextP w g v s (zeroF, 0, 0) false s) := by
 refine of_post0 fun R hRR => ?_
 have HP := Lib.hid hRR
 have H : Hold w w (ats [spO g v s, spR v s]) [spO g v s, spR v s] := h.hold
 have HGV := Lib.hid hgv
 obtain ⟨b, x, y⟩ := s
 simp only at hb hw
 subst hb hw
 clear hRR h hgv
 go_enter Tryd.func39, Tryd.ntmps39
 go_wp2_with (first
  | ((with_reducible refine is_alloc (ty := 38) rfl ?_); refine alloc_h H rfl rfl (cs := (frC ⟨0, 0, 0, [], 0, 0, 0, 0, false, 0, []⟩ nilS nilS).toList) (by first | (go_simp; done) | (go_simp; rfl)) ?_; clear H; intro gF w_ H)
  | ((with_reducible refine is_alloc (ty := 24) rfl ?_); refine alloc_h H rfl rfl (cs := [.int .u8 0, .int .u32 0]) (by first | (go_simp; done) | (go_simp; rfl)) ?_; clear H; intro gE w_ H)
  | (go_at_call 37; refine (bad_calls _ g _ _ _ (H.blk (by repeat (first | exact List.Mem.head _ | apply List.Mem.tail)))).mono ?_; rintro e_ w_ ⟨rfl, h_⟩; replace H := H.below h_; clear h_)
  | ((with_reducible refine is_load rfl ?_); refine loadf_h H rfl rfl rfl (by repeat (first | exact List.Mem.head _ | apply List.Mem.tail)) rfl (by kernel_rfl) ?_)
  | ((with_reducible refine is_load rfl ?_); refine loadf_g H rfl rfl (by repeat (first | exact List.Mem.head _ | apply List.Mem.tail)) rfl (by kernel_rfl) (by rfl) ?_)
  | ((with_reducible refine is_store rfl ?_); (try simp only [Act.put, putA, putB, putC]); refine store_h H rfl rfl rfl rfl rfl (by repeat (first | exact Put.head | apply Put.tail)) (by kernel_rfl) (Nat.le_of_ble_eq_true rfl) rfl ?_; clear H; intro w_ H; simp only [setC, Value.cells, List.toList_toArray] at H))
 refine bodyPost_ret (results_list (rs := [.cell 2 38, .cell 3 24, .tmp 4]) rfl (by simp) (.cell gF 38 (frC ⟨0, 0, 0, [], 0, 0, 0, 0, false, 0, []⟩ nilS nilS) (0, 0) _ rfl (H.blk (cs := (frC ⟨0, 0, 0, [], 0, 0, 0, 0, false, 0, []⟩ nilS nilS).toList) (by repeat (first | exact List.Mem.head _ | apply List.Mem.tail))) Tryd.underlying38 rfl (by kernel_rfl) (.cell gE 24 _ (0, 0) _ rfl (H.blk (by repeat (first | exact List.Mem.head _ | apply List.Mem.tail))) Tryd.underlying24 rfl (by kernel_rfl) (.tmp .nil)))) rfl ?_
 exact HP.out _ _ (NextP.plain rfl rfl H (by repeat (first | exact Pull.head | apply Pull.tail)) (by repeat (first | exact Pull.head | apply Pull.tail)))
set_option maxHeartbeats 4000000 in
set_option maxRecDepth 100000 in
theorem next_bad1 (w : World) (g : Nat) (v : Value) (s : Sp) (h : IsSp w g v s) (hgv : ∀ W, Kept w W (ats [spO g v s, spR v s]) → GV W) (hb : s.bad = true) (hw : s.waits = true) : Calls Tryd.prog 39 #[.pointer (some ⟨g, 0, none⟩)] w (NextP w g v s (noneF, 1, 1) true ⟨s.b, false, true⟩) := by
 refine of_post0 fun R hRR => ?_
 have HP := Lib.hid hRR
 have H : Hold w w (ats [spO g v s, spR v s]) [spO g v s, spR v s] := h.hold
 have HGV := Lib.hid hgv
 obtain ⟨b, x, y⟩ := s
 simp only at hb hw
 subst hb hw
 clear hRR h hgv
 go_enter Tryd.func39, Tryd.ntmps39
 go_wp2_with (first
  | ((with_reducible refine is_alloc (ty := 38) rfl ?_); refine alloc_h H rfl rfl (cs := (frC ⟨0, 0, 0, [], 0, 0, 0, 0, false, 0, []⟩ nilS nilS).toList) (by first | (go_simp; done) | (go_simp; rfl)) ?_; clear H; intro gF w_ H)
  | ((with_reducible refine is_alloc (ty := 24) rfl ?_); refine alloc_h H rfl rfl (cs := [.int .u8 0, .int .u32 0]) (by first | (go_simp; done) | (go_simp; rfl)) ?_; clear H; intro gE w_ H)
  | (go_at_call 37; refine (bad_calls _ g _ _ _ (H.blk (by repeat (first | exact List.Mem.head _ | apply List.Mem.tail)))).mono ?_; rintro e_ w_ ⟨rfl, h_⟩; replace H := H.below h_; clear h_)
  | ((with_reducible refine is_load rfl ?_); refine loadf_h H rfl rfl rfl (by repeat (first | exact List.Mem.head _ | apply List.Mem.tail)) rfl (by kernel_rfl) ?_)
  | ((with_reducible refine is_load rfl ?_); refine loadf_g H rfl rfl (by repeat (first | exact List.Mem.head _ | apply List.Mem.tail)) rfl (by kernel_rfl) (by rfl) ?_)
  | (go_at_call 43; refine (conn_calls 1 _).mono ?_; rintro e_ w_ ⟨v1_, rfl, h_, E_⟩; have HE := Lib.hid E_; replace H := H.below h_; clear h_ E_)
  | (go_at_call 15; refine (wrap_err _ _ _ 1 1 _ HE.out).mono ?_; rintro e_ w_ ⟨v2_, rfl, h_, E_⟩; replace HE := Lib.hid E_; replace H := H.below h_; clear h_ E_)
  | (go_at_call 18; refine (of_err _ _ 1 1 _ (HGV.out _ H.kept) HE.out).mono ?_; rintro e_ w_ ⟨rfl, h_⟩; replace H := H.below h_; clear h_)
  | ((with_reducible refine is_store rfl ?_); (try simp only [Act.put, putA, putB, putC]); refine store_h H rfl rfl rfl rfl rfl (by repeat (first | exact Put.head | apply Put.tail)) (by kernel_rfl) (Nat.le_of_ble_eq_true rfl) rfl ?_; clear H; intro w_ H; simp only [setC, Value.cells, List.toList_toArray] at H))
 refine bodyPost_ret (results_list (rs := [.cell 2 38, .cell 3 24, .tmp 4]) rfl (by simp) (.cell gF 38 (frC noneF nilS nilS) (0, 0) _ rfl (H.blk (cs := (frC noneF nilS nilS).toList) (by repeat (first | exact List.Mem.head _ | apply List.Mem.tail))) Tryd.underlying38 rfl (by kernel_rfl) (.cell gE 24 _ (0, 0) _ rfl (H.blk (by repeat (first | exact List.Mem.head _ | apply List.Mem.tail))) Tryd.underlying24 rfl (by kernel_rfl) (.tmp .nil)))) rfl ?_
 exact HP.out _ _ (NextP.plain rfl rfl H (by repeat (first | exact Pull.head | apply Pull.tail)) (by repeat (first | exact Pull.head | apply Pull.tail)))
set_option maxHeartbeats 4000000 in
set_option maxRecDepth 100000 in
theorem next_mis (w : World) (g : Nat) (v : Value) (s : Sp) (h : IsSp w g v s) (hgv : ∀ W, Kept w W (ats [spO g v s, spR v s]) → GV W) (hb : s.bad = false) (hw : s.waits = true) (hby : Byte8 s.b) (hp : preOk s.b = false) : Calls Tryd.prog 39 #[.pointer (some ⟨g, 0, none⟩)] w (NextP w g v s (noneF, 1, 1) true ⟨[], false, true⟩) := by
 refine of_post0 fun R hRR => ?_
 have HP := Lib.hid hRR
 have H : Hold w w (ats [spO g v s, spR v s]) [spO g v s, spR v s] := h.hold
 have HGV := Lib.hid hgv
 obtain ⟨b, x, y⟩ := s
 simp only at hb hw hby hp
 subst hb hw
 have HY := Lib.hid (And.intro hby hp)
 clear hRR h hgv hby hp
 go_enter Tryd.func39, Tryd.ntmps39
 go_wp2_with (first
  | ((with_reducible refine is_alloc (ty := 38) rfl ?_); refine alloc_h H rfl rfl (cs := (frC ⟨0, 0, 0, [], 0, 0, 0, 0, false, 0, []⟩ nilS nilS).toList) (by first | (go_simp; done) | (go_simp; rfl)) ?_; clear H; intro gF w_ H)
  | ((with_reducible refine is_alloc (ty := 24) rfl ?_); refine alloc_h H rfl rfl (cs := [.int .u8 0, .int .u32 0]) (by first | (go_simp; done) | (go_simp; rfl)) ?_; clear H; intro gE w_ H)
  | (go_at_call 37; refine (bad_calls _ g _ _ _ (H.blk (by repeat (first | exact List.Mem.head _ | apply List.Mem.tail)))).mono ?_; rintro e_ w_ ⟨rfl, h_⟩; replace H := H.below h_; clear h_)
  | ((with_reducible refine is_load rfl ?_); refine loadf_h H rfl rfl rfl (by repeat (first | exact List.Mem.head _ | apply List.Mem.tail)) rfl (by kernel_rfl) ?_)
  | ((with_reducible refine is_load rfl ?_); refine loadf_g H rfl rfl (by repeat (first | exact List.Mem.head _ | apply List.Mem.tail)) rfl (by kernel_rfl) (by rfl) ?_)
  | (go_at_call 66; refine (begins_bad _ g _ _ (H.sp (by repeat (first | exact List.Mem.head _ | apply List.Mem.tail)) (by repeat (first | exact List.Mem.head _ | apply List.Mem.tail))) HY.out.1 HY.out.2).mono ?_; rintro e_ w_ ⟨rfl, h_⟩; replace H := Hold.call (H.pull2 (by repeat (first | exact Pull.head | apply Pull.tail)) (by repeat (first | exact Pull.head | apply Pull.tail))) h_; clear h_)
  | (go_at_call 43; refine (conn_calls 1 _).mono ?_; rintro e_ w_ ⟨v1_, rfl, h_, E_⟩; have HE := Lib.hid E_; replace H := H.below h_; clear h_ E_)
  | (go_at_call 15; refine (wrap_err _ _ _ 1 1 _ HE.out).mono ?_; rintro e_ w_ ⟨v2_, rfl, h_, E_⟩; replace HE := Lib.hid E_; replace H := H.below h_; clear h_ E_)
  | (go_at_call 18; refine (of_err _ _ 1 1 _ (HGV.out _ H.kept) HE.out).mono ?_; rintro e_ w_ ⟨rfl, h_⟩; replace H := H.below h_; clear h_)
  | ((with_reducible refine is_store rfl ?_); (try simp only [Act.put, putA, putB, putC]); refine store_h H rfl rfl rfl rfl rfl (by repeat (first | exact Put.head | apply Put.tail)) (by kernel_rfl) (Nat.le_of_ble_eq_true rfl) rfl ?_; clear H; intro w_ H; simp only [setC, Value.cells, List.toList_toArray] at H))
 refine bodyPost_ret (results_list (rs := [.cell 2 38, .cell 3 24, .tmp 4]) rfl (by simp) (.cell gF 38 (frC noneF nilS nilS) (0, 0) _ rfl (H.blk (cs := (frC noneF nilS nilS).toList) (by repeat (first | exact List.Mem.head _ | apply List.Mem.tail))) Tryd.underlying38 rfl (by kernel_rfl) (.cell gE 24 _ (0, 0) _ rfl (H.blk (by repeat (first | exact List.Mem.head _ | apply List.Mem.tail))) Tryd.underlying24 rfl (by kernel_rfl) (.tmp .nil)))) rfl ?_
 exact HP.out _ _ (NextP.plain rfl rfl H (by repeat (first | exact Pull.head | apply Pull.tail)) (by repeat (first | exact Pull.head | apply Pull.tail)))
set_option maxHeartbeats 4000000 in
set_option maxRecDepth 100000 in
theorem next_short (w : World) (g : Nat) (v : Value) (s : Sp) (h : IsSp w g v s) (hgv : ∀ W, Kept w W (ats [spO g v s, spR v s]) → GV W) (hb : s.bad = false) (hw : s.waits = true) (hby : Byte8 s.b) (hp : preOk s.b = true) (hl : s.b.length < 24) : Calls Tryd.prog 39 #[.pointer (some ⟨g, 0, none⟩)] w (NextP w g v s (zeroF, 0, 0) false s) := by
 refine of_post0 fun R hRR => ?_
 have HP := Lib.hid hRR
 have H : Hold w w (ats [spO g v s, spR v s]) [spO g v s, spR v s] := h.hold
 have HGV := Lib.hid hgv
 obtain ⟨b, x, y⟩ := s
 simp only at hb hw hby hp hl
 subst hb hw
 have HY := Lib.hid (And.intro hby (And.intro hp hl))
 clear hRR h hgv hby hp hl
 go_enter Tryd.func39, Tryd.ntmps39
 go_wp2_with (first
  | ((with_reducible refine is_alloc (ty := 38) rfl ?_); refine alloc_h H rfl rfl (cs := (frC ⟨0, 0, 0, [], 0, 0, 0, 0, false, 0, []⟩ nilS nilS).toList) (by first | (go_simp; done) | (go_simp; rfl)) ?_; clear H; intro gF w_ H)
  | ((with_reducible refine is_alloc (ty := 24) rfl ?_); refine alloc_h H rfl rfl (cs := [.int .u8 0, .int .u32 0]) (by first | (go_simp; done) | (go_simp; rfl)) ?_; clear H; intro gE w_ H)
  | (go_at_call 37; refine (bad_calls _ g _ _ _ (H.blk (by repeat (first | exact List.Mem.head _ | apply List.Mem.tail)))).mono ?_; rintro e_ w_ ⟨rfl, h_⟩; replace H := H.below h_; clear h_)
  | ((with_reducible refine is_load rfl ?_); refine loadf_h H rfl rfl rfl (by repeat (first | exact List.Mem.head _ | apply List.Mem.tail)) rfl (by kernel_rfl) ?_)
  | ((with_reducible refine is_load rfl ?_); refine loadf_g H rfl rfl (by repeat (first | exact List.Mem.head _ | apply List.Mem.tail)) rfl (by kernel_rfl) (by rfl) ?_)
  | (go_at_call 66; refine (begins_short _ g _ _ (H.sp (by repeat (first | exact List.Mem.head _ | apply List.Mem.tail)) (by repeat (first | exact List.Mem.head _ | apply List.Mem.tail))) HY.out.1 HY.out.2.1 HY.out.2.2).mono ?_; rintro e_ w_ ⟨rfl, h_⟩; replace H := Hold.call (H.pull2 (by repeat (first | exact Pull.head | apply Pull.tail)) (by repeat (first | exact Pull.head | apply Pull.tail))) h_; clear h_)
  | ((with_reducible refine is_store rfl ?_); (try simp only [Act.put, putA, putB, putC]); refine store_h H rfl rfl rfl rfl rfl (by repeat (first | exact Put.head | apply Put.tail)) (by kernel_rfl) (Nat.le_of_ble_eq_true rfl) rfl ?_; clear H; intro w_ H; simp only [setC, Value.cells, List.toList_toArray] at H))
 refine bodyPost_ret (results_list (rs := [.cell 2 38, .cell 3 24, .tmp 4]) rfl (by simp) (.cell gF 38 (frC ⟨0, 0, 0, [], 0, 0, 0, 0, false, 0, []⟩ nilS nilS) (0, 0) _ rfl (H.blk (cs := (frC ⟨0, 0, 0, [], 0, 0, 0, 0, false, 0, []⟩ nilS nilS).toList) (by repeat (first | exact List.Mem.head _ | apply List.Mem.tail))) Tryd.underlying38 rfl (by kernel_rfl) (.cell gE 24 _ (0, 0) _ rfl (H.blk (by repeat (first | exact List.Mem.head _ | apply List.Mem.tail))) Tryd.underlying24 rfl (by kernel_rfl) (.tmp .nil)))) rfl ?_
 exact HP.out _ _ (NextP.plain rfl rfl H (by repeat (first | exact Pull.head | apply Pull.tail)) (by repeat (first | exact Pull.head | apply Pull.tail)))
set_option maxHeartbeats 4000000 in
set_option maxRecDepth 100000 in
theorem next_none0 (w : World) (g : Nat) (v : Value) (s : Sp) (h : IsSp w g v s) (hgv : ∀ W, Kept w W (ats [spO g v s, spR v s]) → GV W) (hb : s.bad = false) (b1 : List Int) (hb1 : (s.waits = false ∧ b1 = s.b) ∨ (s.waits = true ∧ preOk s.b = true ∧ 24 ≤ s.b.length ∧ s.b.drop 24 = b1)) (hby : Byte8 s.b) (hl : s.b.length ≤ 16393) (h9 : b1.length < 9) : Calls Tryd.prog 39 #[.pointer (some ⟨g, 0, none⟩)] w (NextP w g v s (zeroF, 0, 0) false ⟨b1, false, false⟩) := by
 refine of_post0 fun R hRR => ?_
 have HP := Lib.hid hRR
 have H : Hold w w (ats [spO g v s, spR v s]) [spO g v s, spR v s] := h.hold
 have HGV := Lib.hid hgv
 obtain ⟨b, x, y⟩ := s
 simp only at hb hb1 hby hl
 subst hb
 have hby1 : Byte8 b1 := by
  rcases hb1 with ⟨_, rfl⟩ | ⟨_, _, _, rfl⟩
  ·exact hby
  ·exact fun x hx => hby x (List.mem_of_mem_drop hx)
 have hl1 : b1.length ≤ 16393 := by
  rcases hb1 with ⟨_, rfl⟩ | ⟨_, _, _, rfl⟩
  ·exact hl
  ·rw [List.length_drop]; omega
 have HN := Lib.hid (And.intro (show headN b1 = 0 by unfold headN; rw [if_pos h9]) (show decide (9 ≤ b1.length) = false from decide_eq_false (by omega)))
 have HY := Lib.hid (And.intro hby (And.intro hl hby1))
 clear hRR h hgv hby hl hby1 h9 hl1
 rcases hb1 with ⟨hw, e1⟩ | ⟨hw, hp, h24, e1⟩
 subst hw
 subst e1
 go_enter Tryd.func39, Tryd.ntmps39
 go_upto_region 6 with (first
  | ((with_reducible refine is_alloc (ty := 38) rfl ?_); refine alloc_h H rfl rfl (cs := (frC ⟨0, 0, 0, [], 0, 0, 0, 0, false, 0, []⟩ nilS nilS).toList) (by first | (go_simp; done) | (go_simp; rfl)) ?_; clear H; intro gF w_ H)
  | ((with_reducible refine is_alloc (ty := 24) rfl ?_); refine alloc_h H rfl rfl (cs := [.int .u8 0, .int .u32 0]) (by first | (go_simp; done) | (go_simp; rfl)) ?_; clear H; intro gE w_ H)
  | (go_at_call 37; refine (bad_calls _ g _ _ _ (H.blk (by repeat (first | exact List.Mem.head _ | apply List.Mem.tail)))).mono ?_; rintro e_ w_ ⟨rfl, h_⟩; replace H := H.below h_; clear h_)
  | ((with_reducible refine is_load rfl ?_); refine loadf_h H rfl rfl rfl (by repeat (first | exact List.Mem.head _ | apply List.Mem.tail)) rfl (by kernel_rfl) ?_)
  | ((with_reducible refine is_load rfl ?_); refine loadf_g H rfl rfl (by repeat (first | exact List.Mem.head _ | apply List.Mem.tail)) rfl (by kernel_rfl) (by rfl) ?_))
 replace H : ∃ v1, Hold w _ _ ([spO g v1 ⟨b1, false, false⟩, spR v1 ⟨b1, false, false⟩] ++ _) := ⟨v, H.pull2 (by repeat (first | exact Pull.head | apply Pull.tail)) (by repeat (first | exact Pull.head | apply Pull.tail))⟩
 obtain ⟨v1, H⟩ := H
 rotate_left
 subst hw
 have HX := Lib.hid (And.intro hp (And.intro h24 e1))
 clear hp h24 e1
 go_enter Tryd.func39, Tryd.ntmps39
 go_upto_region 6 with (first
  | ((with_reducible refine is_alloc (ty := 38) rfl ?_); refine alloc_h H rfl rfl (cs := (frC ⟨0, 0, 0, [], 0, 0, 0, 0, false, 0, []⟩ nilS nilS).toList) (by first | (go_simp; done) | (go_simp; rfl)) ?_; clear H; intro gF w_ H)
  | ((with_reducible refine is_alloc (ty := 24) rfl ?_); refine alloc_h H rfl rfl (cs := [.int .u8 0, .int .u32 0]) (by first | (go_simp; done) | (go_simp; rfl)) ?_; clear H; intro gE w_ H)
  | (go_at_call 37; refine (bad_calls _ g _ _ _ (H.blk (by repeat (first | exact List.Mem.head _ | apply List.Mem.tail)))).mono ?_; rintro e_ w_ ⟨rfl, h_⟩; replace H := H.below h_; clear h_)
  | ((with_reducible refine is_load rfl ?_); refine loadf_h H rfl rfl rfl (by repeat (first | exact List.Mem.head _ | apply List.Mem.tail)) rfl (by kernel_rfl) ?_)
  | ((with_reducible refine is_load rfl ?_); refine loadf_g H rfl rfl (by repeat (first | exact List.Mem.head _ | apply List.Mem.tail)) rfl (by kernel_rfl) (by rfl) ?_)
  | (go_at_call 66; refine (begins_ok _ g _ _ (H.sp (by repeat (first | exact List.Mem.head _ | apply List.Mem.tail)) (by repeat (first | exact List.Mem.head _ | apply List.Mem.tail))) HY.out.1 HX.out.1 HX.out.2.1 HY.out.2.1).mono ?_; rintro e_ w_ ⟨v1, rfl, h_⟩; simp only [HX.out.2.2] at h_; replace H := Hold.call (H.pull2 (by repeat (first | exact Pull.head | apply Pull.tail)) (by repeat (first | exact Pull.head | apply Pull.tail))) h_; clear h_))
 rotate_left
 all_goals
  obtain ⟨A1, c1, rfl, hR1, hc1⟩ := own_reads2 (H.row (e := 5) (v := v1) (k := .u8) (xs := b1) (by repeat (first | exact List.Mem.head _ | apply List.Mem.tail)))
  have HC1 := Lib.hid hc1
  clear hR1 hc1
  go_wp2_with (first
   | (go_at_call 25; refine (head_calls _ A1 c1 b1 HY.out.2.2 (reads_own (H.row (by repeat (first | exact List.Mem.head _ | apply List.Mem.tail)))) HC1.out).mono ?_; rintro e_ w_ ⟨rfl, h_⟩; rw [HN.out.1, HN.out.2]; replace H := H.below h_.below; clear h_)
   | ((with_reducible refine is_load rfl ?_); refine loadf_h H rfl rfl rfl (by repeat (first | exact List.Mem.head _ | apply List.Mem.tail)) rfl (by kernel_rfl) ?_)
   | ((with_reducible refine is_load rfl ?_); refine loadf_g H rfl rfl (by repeat (first | exact List.Mem.head _ | apply List.Mem.tail)) rfl (by kernel_rfl) (by rfl) ?_)
   | ((with_reducible refine is_store rfl ?_); (try simp only [Act.put, putA, putB, putC]); refine store_h H rfl rfl rfl rfl rfl (by repeat (first | exact Put.head | apply Put.tail)) (by kernel_rfl) (Nat.le_of_ble_eq_true rfl) rfl ?_; clear H; intro w_ H; simp only [setC, Value.cells, List.toList_toArray] at H))
  refine bodyPost_ret (results_list (rs := [.cell 2 38, .cell 3 24, .tmp 4]) rfl (by simp) (.cell gF 38 (frC ⟨0, 0, 0, [], 0, 0, 0, 0, false, 0, []⟩ nilS nilS) (0, 0) _ rfl (H.blk (cs := (frC ⟨0, 0, 0, [], 0, 0, 0, 0, false, 0, []⟩ nilS nilS).toList) (by repeat (first | exact List.Mem.head _ | apply List.Mem.tail))) Tryd.underlying38 rfl (by kernel_rfl) (.cell gE 24 _ (0, 0) _ rfl (H.blk (by repeat (first | exact List.Mem.head _ | apply List.Mem.tail))) Tryd.underlying24 rfl (by kernel_rfl) (.tmp .nil)))) rfl ?_
  exact HP.out _ _ (NextP.plain rfl rfl H (by repeat (first | exact Pull.head | apply Pull.tail)) (by repeat (first | exact Pull.head | apply Pull.tail)))
set_option maxHeartbeats 4000000 in
set_option maxRecDepth 100000 in
theorem next_none1 (w : World) (g : Nat) (v : Value) (s : Sp) (h : IsSp w g v s) (hgv : ∀ W, Kept w W (ats [spO g v s, spR v s]) → GV W) (hb : s.bad = false) (b1 : List Int) (hb1 : (s.waits = false ∧ b1 = s.b) ∨ (s.waits = true ∧ preOk s.b = true ∧ 24 ≤ s.b.length ∧ s.b.drop 24 = b1)) (hby : Byte8 s.b) (hl : s.b.length ≤ 16393) (h9 : 9 ≤ b1.length) (m : Nat) (hm : headN b1 = (m : Int)) (hm1 : m ≤ 16393) (hm2 : b1.length < m) : Calls Tryd.prog 39 #[.pointer (some ⟨g, 0, none⟩)] w (NextP w g v s (zeroF, 0, 0) false ⟨b1, false, false⟩) := by
 refine of_post0 fun R hRR => ?_
 have HP := Lib.hid hRR
 have H : Hold w w (ats [spO g v s, spR v s]) [spO g v s, spR v s] := h.hold
 have HGV := Lib.hid hgv
 obtain ⟨b, x, y⟩ := s
 simp only at hb hb1 hby hl
 subst hb
 have hby1 : Byte8 b1 := by
  rcases hb1 with ⟨_, rfl⟩ | ⟨_, _, _, rfl⟩
  ·exact hby
  ·exact fun x hx => hby x (List.mem_of_mem_drop hx)
 have hl1 : b1.length ≤ 16393 := by
  rcases hb1 with ⟨_, rfl⟩ | ⟨_, _, _, rfl⟩
  ·exact hl
  ·rw [List.length_drop]; omega
 have HN := Lib.hid (And.intro hm (show decide (9 ≤ b1.length) = true from decide_eq_true h9))
 have g1 : decide ((m : Int) ≤ 16393) = true := decide_eq_true (by omega)
 have g2 : decide (m ≤ 16393) = true := decide_eq_true hm1
 have g3 : decide ((b1.length : Int) < (m : Int)) = true := decide_eq_true (by omega)
 have g4 : decide (b1.length < m) = true := decide_eq_true hm2
 have HY := Lib.hid (And.intro hby (And.intro hl hby1))
 clear hRR h hgv hby hl hby1 h9 hl1 hm hm1 hm2
 rcases hb1 with ⟨hw, e1⟩ | ⟨hw, hp, h24, e1⟩
 subst hw
 subst e1
 go_enter Tryd.func39, Tryd.ntmps39
 go_upto_region 6 with (first
  | ((with_reducible refine is_alloc (ty := 38) rfl ?_); refine alloc_h H rfl rfl (cs := (frC ⟨0, 0, 0, [], 0, 0, 0, 0, false, 0, []⟩ nilS nilS).toList) (by first | (go_simp; done) | (go_simp; rfl)) ?_; clear H; intro gF w_ H)
  | ((with_reducible refine is_alloc (ty := 24) rfl ?_); refine alloc_h H rfl rfl (cs := [.int .u8 0, .int .u32 0]) (by first | (go_simp; done) | (go_simp; rfl)) ?_; clear H; intro gE w_ H)
  | (go_at_call 37; refine (bad_calls _ g _ _ _ (H.blk (by repeat (first | exact List.Mem.head _ | apply List.Mem.tail)))).mono ?_; rintro e_ w_ ⟨rfl, h_⟩; replace H := H.below h_; clear h_)
  | ((with_reducible refine is_load rfl ?_); refine loadf_h H rfl rfl rfl (by repeat (first | exact List.Mem.head _ | apply List.Mem.tail)) rfl (by kernel_rfl) ?_)
  | ((with_reducible refine is_load rfl ?_); refine loadf_g H rfl rfl (by repeat (first | exact List.Mem.head _ | apply List.Mem.tail)) rfl (by kernel_rfl) (by rfl) ?_))
 replace H : ∃ v1, Hold w _ _ ([spO g v1 ⟨b1, false, false⟩, spR v1 ⟨b1, false, false⟩] ++ _) := ⟨v, H.pull2 (by repeat (first | exact Pull.head | apply Pull.tail)) (by repeat (first | exact Pull.head | apply Pull.tail))⟩
 obtain ⟨v1, H⟩ := H
 rotate_left
 subst hw
 have HX := Lib.hid (And.intro hp (And.intro h24 e1))
 clear hp h24 e1
 go_enter Tryd.func39, Tryd.ntmps39
 go_upto_region 6 with (first
  | ((with_reducible refine is_alloc (ty := 38) rfl ?_); refine alloc_h H rfl rfl (cs := (frC ⟨0, 0, 0, [], 0, 0, 0, 0, false, 0, []⟩ nilS nilS).toList) (by first | (go_simp; done) | (go_simp; rfl)) ?_; clear H; intro gF w_ H)
  | ((with_reducible refine is_alloc (ty := 24) rfl ?_); refine alloc_h H rfl rfl (cs := [.int .u8 0, .int .u32 0]) (by first | (go_simp; done) | (go_simp; rfl)) ?_; clear H; intro gE w_ H)
  | (go_at_call 37; refine (bad_calls _ g _ _ _ (H.blk (by repeat (first | exact List.Mem.head _ | apply List.Mem.tail)))).mono ?_; rintro e_ w_ ⟨rfl, h_⟩; replace H := H.below h_; clear h_)
  | ((with_reducible refine is_load rfl ?_); refine loadf_h H rfl rfl rfl (by repeat (first | exact List.Mem.head _ | apply List.Mem.tail)) rfl (by kernel_rfl) ?_)
  | ((with_reducible refine is_load rfl ?_); refine loadf_g H rfl rfl (by repeat (first | exact List.Mem.head _ | apply List.Mem.tail)) rfl (by kernel_rfl) (by rfl) ?_)
  | (go_at_call 66; refine (begins_ok _ g _ _ (H.sp (by repeat (first | exact List.Mem.head _ | apply List.Mem.tail)) (by repeat (first | exact List.Mem.head _ | apply List.Mem.tail))) HY.out.1 HX.out.1 HX.out.2.1 HY.out.2.1).mono ?_; rintro e_ w_ ⟨v1, rfl, h_⟩; simp only [HX.out.2.2] at h_; replace H := Hold.call (H.pull2 (by repeat (first | exact Pull.head | apply Pull.tail)) (by repeat (first | exact Pull.head | apply Pull.tail))) h_; clear h_))
 rotate_left
 all_goals
  obtain ⟨A1, c1, rfl, hR1, hc1⟩ := own_reads2 (H.row (e := 5) (v := v1) (k := .u8) (xs := b1) (by repeat (first | exact List.Mem.head _ | apply List.Mem.tail)))
  have HC1 := Lib.hid hc1
  clear hR1 hc1
  go_wp2_with (first
   | (go_at_call 25; refine (head_calls _ A1 c1 b1 HY.out.2.2 (reads_own (H.row (by repeat (first | exact List.Mem.head _ | apply List.Mem.tail)))) HC1.out).mono ?_; rintro e_ w_ ⟨rfl, h_⟩; rw [HN.out.1, HN.out.2]; replace H := H.below h_.below; clear h_)
   | ((with_reducible refine is_load rfl ?_); refine loadf_h H rfl rfl rfl (by repeat (first | exact List.Mem.head _ | apply List.Mem.tail)) rfl (by kernel_rfl) ?_)
   | ((with_reducible refine is_load rfl ?_); refine loadf_g H rfl rfl (by repeat (first | exact List.Mem.head _ | apply List.Mem.tail)) rfl (by kernel_rfl) (by rfl) ?_)
   | ((with_reducible refine is_store rfl ?_); (try simp only [Act.put, putA, putB, putC]); refine store_h H rfl rfl rfl rfl rfl (by repeat (first | exact Put.head | apply Put.tail)) (by kernel_rfl) (Nat.le_of_ble_eq_true rfl) rfl ?_; clear H; intro w_ H; simp only [setC, Value.cells, List.toList_toArray] at H))
  refine bodyPost_ret (results_list (rs := [.cell 2 38, .cell 3 24, .tmp 4]) rfl (by simp) (.cell gF 38 (frC ⟨0, 0, 0, [], 0, 0, 0, 0, false, 0, []⟩ nilS nilS) (0, 0) _ rfl (H.blk (cs := (frC ⟨0, 0, 0, [], 0, 0, 0, 0, false, 0, []⟩ nilS nilS).toList) (by repeat (first | exact List.Mem.head _ | apply List.Mem.tail))) Tryd.underlying38 rfl (by kernel_rfl) (.cell gE 24 _ (0, 0) _ rfl (H.blk (by repeat (first | exact List.Mem.head _ | apply List.Mem.tail))) Tryd.underlying24 rfl (by kernel_rfl) (.tmp .nil)))) rfl ?_
  exact HP.out _ _ (NextP.plain rfl rfl H (by repeat (first | exact Pull.head | apply Pull.tail)) (by repeat (first | exact Pull.head | apply Pull.tail)))
theorem reads_own3 {w : World} {base n n' c : Nat} {e : TypeId} {k : IntKind} {A : Option Addr} {xs : List Int} (h : w.ownsRow base e 1 (.slice A n' c) n (nums k xs)) : ReadsInt w k A n xs := by
 obtain ⟨A', c', e, h'⟩ := own_reads h
 cases e
 exact h'
theorem getFr_great {l : List Int} (h9 : 9 ≤ l.length) (hn : headN l = (l.length : Int)) (hg : 16393 < l.length) : getFr l = (hdF l, 1, 6) := by
 unfold getFr
 rw [if_neg (fun h => h ⟨h9, hn⟩), if_pos hg]
set_option maxHeartbeats 4000000 in
set_option maxRecDepth 100000 in
theorem next_great (w : World) (g : Nat) (v : Value) (s : Sp) (h : IsSp w g v s) (hgv : ∀ W, Kept w W (ats [spO g v s, spR v s]) → GV W) (hb : s.bad = false) (b1 : List Int) (hb1 : (s.waits = false ∧ b1 = s.b) ∨ (s.waits = true ∧ preOk s.b = true ∧ 24 ≤ s.b.length ∧ s.b.drop 24 = b1)) (hby : Byte8 s.b) (hl : s.b.length ≤ 16393) (h9 : 9 ≤ b1.length) (m : Nat) (hm : headN b1 = (m : Int)) (hm1 : 16393 < m) (hm2 : m ≤ 16777224) : Calls Tryd.prog 39 #[.pointer (some ⟨g, 0, none⟩)] w (NextP w g v s (hdF b1, 1, 6) true ⟨[], false, true⟩) := by
 refine of_post0 fun R hRR => ?_
 have HP := Lib.hid hRR
 have H : Hold w w (ats [spO g v s, spR v s]) [spO g v s, spR v s] := h.hold
 have HGV := Lib.hid hgv
 obtain ⟨b, x, y⟩ := s
 simp only at hb hb1 hby hl
 subst hb
 have hby1 : Byte8 b1 := by
  rcases hb1 with ⟨_, rfl⟩ | ⟨_, _, _, rfl⟩
  ·exact hby
  ·exact fun x hx => hby x (List.mem_of_mem_drop hx)
 have hl1 : b1.length ≤ 16393 := by
  rcases hb1 with ⟨_, rfl⟩ | ⟨_, _, _, rfl⟩
  ·exact hl
  ·rw [List.length_drop]; omega
 have HN := Lib.hid (And.intro hm (show decide (9 ≤ b1.length) = true from decide_eq_true h9))
 have g1 : decide ((m : Int) ≤ 16393) = false := decide_eq_false (by omega)
 have g2 : decide (m ≤ 16393) = false := decide_eq_false (by omega)
 have g3 : decide ((16393 : Int) < (m : Int)) = true := decide_eq_true (by omega)
 have g4 : decide (16393 < m) = true := decide_eq_true hm1
 have hLm : (b1 ++ (List.replicate m (0 : Int)).drop b1.length).length = m := by rw [List.length_append, List.length_drop, List.length_replicate]; omega
 have hG := fun (W : World) (A2 : Option Addr) (c2 : Nat) (hg : GV W) (h1 : ReadsInt W .u8 A2 m (b1 ++ (List.replicate m (0 : Int)).drop b1.length)) (h2 : m ≤ c2) => get_hold W hg A2 c2 (b1 ++ (List.replicate m (0 : Int)).drop b1.length) (by rw [hLm]; exact h1) (by rw [hLm]; exact h2) (fun x hx => (List.mem_append.1 hx).elim (hby1 x) fun hx => by have := List.eq_of_mem_replicate (List.mem_of_mem_drop hx); omega) (by rw [hLm]; omega)
 rw [getFr_great (by rw [hLm]; omega) (by rw [headN_app _ h9, hLm]; exact hm) (by rw [hLm]; exact hm1), hdF_app _ h9, hLm] at hG
 generalize hdF b1 = F at hG HP
 dsimp only at hG
 have HG := Lib.hid hG
 have HLM := Lib.hid hLm
 have HY := Lib.hid (And.intro hby (And.intro hl hby1))
 clear hRR h hgv hby hl hby1 h9 hm hG hLm
 rcases hb1 with ⟨hw, e1⟩ | ⟨hw, hp, h24, e1⟩
 subst hw
 subst e1
 go_enter Tryd.func39, Tryd.ntmps39
 go_upto_region 6 with (first
  | ((with_reducible refine is_alloc (ty := 38) rfl ?_); refine alloc_h H rfl rfl (cs := (frC ⟨0, 0, 0, [], 0, 0, 0, 0, false, 0, []⟩ nilS nilS).toList) (by first | (go_simp; done) | (go_simp; rfl)) ?_; clear H; intro gF w_ H)
  | ((with_reducible refine is_alloc (ty := 24) rfl ?_); refine alloc_h H rfl rfl (cs := [.int .u8 0, .int .u32 0]) (by first | (go_simp; done) | (go_simp; rfl)) ?_; clear H; intro gE w_ H)
  | (go_at_call 37; refine (bad_calls _ g _ _ _ (H.blk (by repeat (first | exact List.Mem.head _ | apply List.Mem.tail)))).mono ?_; rintro e_ w_ ⟨rfl, h_⟩; replace H := H.below h_; clear h_)
  | ((with_reducible refine is_load rfl ?_); refine loadf_h H rfl rfl rfl (by repeat (first | exact List.Mem.head _ | apply List.Mem.tail)) rfl (by kernel_rfl) ?_)
  | ((with_reducible refine is_load rfl ?_); refine loadf_g H rfl rfl (by repeat (first | exact List.Mem.head _ | apply List.Mem.tail)) rfl (by kernel_rfl) (by rfl) ?_))
 replace H : ∃ v1, Hold w _ _ ([spO g v1 ⟨b1, false, false⟩, spR v1 ⟨b1, false, false⟩] ++ _) := ⟨v, H.pull2 (by repeat (first | exact Pull.head | apply Pull.tail)) (by repeat (first | exact Pull.head | apply Pull.tail))⟩
 obtain ⟨v1, H⟩ := H
 rotate_left
 subst hw
 have HX := Lib.hid (And.intro hp (And.intro h24 e1))
 clear hp h24 e1
 go_enter Tryd.func39, Tryd.ntmps39
 go_upto_region 6 with (first
  | ((with_reducible refine is_alloc (ty := 38) rfl ?_); refine alloc_h H rfl rfl (cs := (frC ⟨0, 0, 0, [], 0, 0, 0, 0, false, 0, []⟩ nilS nilS).toList) (by first | (go_simp; done) | (go_simp; rfl)) ?_; clear H; intro gF w_ H)
  | ((with_reducible refine is_alloc (ty := 24) rfl ?_); refine alloc_h H rfl rfl (cs := [.int .u8 0, .int .u32 0]) (by first | (go_simp; done) | (go_simp; rfl)) ?_; clear H; intro gE w_ H)
  | (go_at_call 37; refine (bad_calls _ g _ _ _ (H.blk (by repeat (first | exact List.Mem.head _ | apply List.Mem.tail)))).mono ?_; rintro e_ w_ ⟨rfl, h_⟩; replace H := H.below h_; clear h_)
  | ((with_reducible refine is_load rfl ?_); refine loadf_h H rfl rfl rfl (by repeat (first | exact List.Mem.head _ | apply List.Mem.tail)) rfl (by kernel_rfl) ?_)
  | ((with_reducible refine is_load rfl ?_); refine loadf_g H rfl rfl (by repeat (first | exact List.Mem.head _ | apply List.Mem.tail)) rfl (by kernel_rfl) (by rfl) ?_)
  | (go_at_call 66; refine (begins_ok _ g _ _ (H.sp (by repeat (first | exact List.Mem.head _ | apply List.Mem.tail)) (by repeat (first | exact List.Mem.head _ | apply List.Mem.tail))) HY.out.1 HX.out.1 HX.out.2.1 HY.out.2.1).mono ?_; rintro e_ w_ ⟨v1, rfl, h_⟩; simp only [HX.out.2.2] at h_; replace H := Hold.call (H.pull2 (by repeat (first | exact Pull.head | apply Pull.tail)) (by repeat (first | exact Pull.head | apply Pull.tail))) h_; clear h_))
 rotate_left
 all_goals
  obtain ⟨A1, c1, rfl, hR1, hc1⟩ := own_reads2 (H.row (e := 5) (v := v1) (k := .u8) (xs := b1) (by repeat (first | exact List.Mem.head _ | apply List.Mem.tail)))
  have HC1 := Lib.hid hc1
  clear hR1 hc1
  go_upto_region 14 with (first
   | (go_at_call 25; refine (head_calls _ A1 c1 b1 HY.out.2.2 (reads_own (H.row (by repeat (first | exact List.Mem.head _ | apply List.Mem.tail)))) HC1.out).mono ?_; rintro e_ w_ ⟨rfl, h_⟩; rw [HN.out.1, HN.out.2]; replace H := H.below h_.below; clear h_)
   | ((with_reducible refine is_load rfl ?_); refine loadf_h H rfl rfl rfl (by repeat (first | exact List.Mem.head _ | apply List.Mem.tail)) rfl (by kernel_rfl) ?_)
   | ((with_reducible refine is_load rfl ?_); refine loadf_g H rfl rfl (by repeat (first | exact List.Mem.head _ | apply List.Mem.tail)) rfl (by kernel_rfl) (by rfl) ?_)
   | ((with_reducible refine is_alloc (ty := 38) rfl ?_); refine alloc_h H rfl rfl (cs := (frC ⟨0, 0, 0, [], 0, 0, 0, 0, false, 0, []⟩ nilS nilS).toList) (by first | (go_simp; done) | (go_simp; rfl)) ?_; clear H; intro gF2 w_ H)
   | ((with_reducible refine is_alloc (ty := 24) rfl ?_); refine alloc_h H rfl rfl (cs := [.int .u8 0, .int .u32 0]) (by first | (go_simp; done) | (go_simp; rfl)) ?_; clear H; intro gE2 w_ H)
   | ((with_reducible refine is_make rfl ?_); refine makeb_h H rfl rfl m rfl rfl Tryd.underlying35 Tryd.infoB8 (by omega) ?_; clear H; intro gw w_ H)
   | ((with_reducible refine is_call rfl ?_); refine copy_h H rfl rfl Tryd.underlying35 (by kernel_rfl) b1 rfl rfl (by repeat (first | exact Put.head | apply Put.tail)) (reads_own (H.row (by repeat (first | exact List.Mem.head _ | apply List.Mem.tail)))) (by rw [List.length_replicate]; omega) ?_; clear H; intro w_ H)
   | (go_at_call 27; refine (HG.out _ _ _ (HGV.out _ H.kept) (by have h_ := reads_own3 (H.row (e := 5) (v := .slice (some ⟨gw, 0, none⟩) m m) (k := .u8) (xs := b1 ++ (List.replicate m 0).drop b1.length) (by repeat (first | exact List.Mem.head _ | apply List.Mem.tail))); rw [HLM.out] at h_; exact h_) (by omega)).mono ?_; rintro e_ w_ ⟨Ap, cp, Bp, mp, rfl, h_⟩; replace H := Hold.push H h_; clear h_)
   | (go_at_call 67; refine (spfails_calls _ g (.slice A1 b1.length c1) ⟨b1, false, false⟩ (H.sp (v := (.slice A1 b1.length c1)) (s := ⟨b1, false, false⟩) (by repeat (first | exact List.Mem.head _ | apply List.Mem.tail)) (by repeat (first | exact List.Mem.head _ | apply List.Mem.tail)))).mono ?_; rintro e_ w_ ⟨rfl, h_⟩; replace H := Hold.call (H.pull2 (by repeat (first | exact Pull.head | apply Pull.tail)) (by repeat (first | exact Pull.head | apply Pull.tail))) h_; clear h_)
   | ((with_reducible refine is_store rfl ?_); (try simp only [Act.put, putA, putB, putC]); refine store_h H rfl rfl rfl rfl rfl (by repeat (first | exact Put.head | apply Put.tail)) (by kernel_rfl) (Nat.le_of_ble_eq_true rfl) rfl ?_; clear H; intro w_ H; simp only [setC, Value.cells, List.toList_toArray] at H))
  replace H := H.below (below_drew (Below.refl _ _))
  refine start_ (n := 5) (S := fun w' => w'.cell? ⟨gF2, 0, none⟩ = some (.int .u8 F.ty) ∧ w'.cell? ⟨gF2, 1, none⟩ = some (.int .u8 F.fl) ∧ w'.cell? ⟨gF2, 2, none⟩ = some (.int .u32 F.st) ∧ w'.cell? ⟨gF2, 3, none⟩ = some (.slice Ap F.data.length cp) ∧ w'.cell? ⟨gF2, 4, none⟩ = some (.int .i64 F.pad) ∧ w'.cell? ⟨gF2, 5, none⟩ = some (.int .u32 F.code) ∧ w'.cell? ⟨gF2, 6, none⟩ = some (.int .u32 F.oth) ∧ w'.cell? ⟨gF2, 7, none⟩ = some (.int .u8 F.wgt) ∧ w'.cell? ⟨gF2, 8, none⟩ = some (.bool F.al) ∧ w'.cell? ⟨gF2, 9, none⟩ = some (.int .u32 F.win) ∧ w'.cell? ⟨gF2, 10, none⟩ = some (.slice Bp F.sets.length mp) ∧ w'.cell? ⟨gE2, 0, none⟩ = some (.int .u8 1) ∧ w'.cell? ⟨gE2, 1, none⟩ = some (.int .u32 6)) (ds := []) #[false, false, false, false, false] (by kernel_rfl) rfl rfl ⟨((H.cell (g := gF2) (by repeat (first | exact List.Mem.head _ | apply List.Mem.tail)) 0).trans rfl), ((H.cell (g := gF2) (by repeat (first | exact List.Mem.head _ | apply List.Mem.tail)) 1).trans rfl), ((H.cell (g := gF2) (by repeat (first | exact List.Mem.head _ | apply List.Mem.tail)) 2).trans rfl), ((H.cell (g := gF2) (by repeat (first | exact List.Mem.head _ | apply List.Mem.tail)) 3).trans rfl), ((H.cell (g := gF2) (by repeat (first | exact List.Mem.head _ | apply List.Mem.tail)) 4).trans rfl), ((H.cell (g := gF2) (by repeat (first | exact List.Mem.head _ | apply List.Mem.tail)) 5).trans rfl), ((H.cell (g := gF2) (by repeat (first | exact List.Mem.head _ | apply List.Mem.tail)) 6).trans rfl), ((H.cell (g := gF2) (by repeat (first | exact List.Mem.head _ | apply List.Mem.tail)) 7).trans rfl), ((H.cell (g := gF2) (by repeat (first | exact List.Mem.head _ | apply List.Mem.tail)) 8).trans rfl), ((H.cell (g := gF2) (by repeat (first | exact List.Mem.head _ | apply List.Mem.tail)) 9).trans rfl), ((H.cell (g := gF2) (by repeat (first | exact List.Mem.head _ | apply List.Mem.tail)) 10).trans rfl), ((H.cell (g := gE2) (by repeat (first | exact List.Mem.head _ | apply List.Mem.tail)) 0).trans rfl), ((H.cell (g := gE2) (by repeat (first | exact List.Mem.head _ | apply List.Mem.tail)) 1).trans rfl)⟩ (fun hHeld => ?_)
  generalize World.drew _ = wy at H hHeld ⊢
  refine take_ (i := 0) (N := some 90) (v := ?_) (a' := ?_) #[true, false, false, false, false] rfl rfl (by kernel_rfl) (fun _ _ _ h => h) (Or.inl ⟨by rfl, ?_⟩) hHeld ?_ ?_
  rotate_left
  ·rintro w' ⟨s0, s1, s2, s3, s4, s5, s6, s7, s8, s9, s10, s11, s12⟩
   go_simp
   with_reducible rfl
  rotate_left
  ·simp only [Act.put, putA, putB, putC]
   rfl
  refine take_ (i := 1) (N := some 91) (v := ?_) (a' := ?_) #[true, true, false, false, false] rfl rfl (by kernel_rfl) (fun _ _ _ h => h) (Or.inl ⟨by rfl, ?_⟩) hHeld ?_ ?_
  rotate_left
  ·rintro w' ⟨s0, s1, s2, s3, s4, s5, s6, s7, s8, s9, s10, s11, s12⟩
   go_simp
   with_reducible rfl
  rotate_left
  ·simp only [Act.put, putA, putB, putC]
   rfl
  refine one_ (i := 2) (N := none) #[true, true, true, false, false] rfl rfl (by kernel_rfl) (by decide) (fun K hK => ?_)
  refine store_o H (by rfl) rfl rfl rfl rfl (by repeat (first | exact Put.head | apply Put.tail)) (by kernel_rfl) (Nat.le_of_ble_eq_true rfl) rfl ?_
  clear H
  intro w_ H h_
  simp only [setC, Value.cells, List.toList_toArray] at H
  clear h_
  have hS := Lib.hid (show (fun w' : World => w'.cell? ⟨gF2, 0, none⟩ = some (.int .u8 F.ty) ∧ w'.cell? ⟨gF2, 1, none⟩ = some (.int .u8 F.fl) ∧ w'.cell? ⟨gF2, 2, none⟩ = some (.int .u32 F.st) ∧ w'.cell? ⟨gF2, 3, none⟩ = some (.slice Ap F.data.length cp) ∧ w'.cell? ⟨gF2, 4, none⟩ = some (.int .i64 F.pad) ∧ w'.cell? ⟨gF2, 5, none⟩ = some (.int .u32 F.code) ∧ w'.cell? ⟨gF2, 6, none⟩ = some (.int .u32 F.oth) ∧ w'.cell? ⟨gF2, 7, none⟩ = some (.int .u8 F.wgt) ∧ w'.cell? ⟨gF2, 8, none⟩ = some (.bool F.al) ∧ w'.cell? ⟨gF2, 9, none⟩ = some (.int .u32 F.win) ∧ w'.cell? ⟨gF2, 10, none⟩ = some (.slice Bp F.sets.length mp) ∧ w'.cell? ⟨gE2, 0, none⟩ = some (.int .u8 1) ∧ w'.cell? ⟨gE2, 1, none⟩ = some (.int .u32 6)) _ from ⟨((H.cell (g := gF2) (by repeat (first | exact List.Mem.head _ | apply List.Mem.tail)) 0).trans rfl), ((H.cell (g := gF2) (by repeat (first | exact List.Mem.head _ | apply List.Mem.tail)) 1).trans rfl), ((H.cell (g := gF2) (by repeat (first | exact List.Mem.head _ | apply List.Mem.tail)) 2).trans rfl), ((H.cell (g := gF2) (by repeat (first | exact List.Mem.head _ | apply List.Mem.tail)) 3).trans rfl), ((H.cell (g := gF2) (by repeat (first | exact List.Mem.head _ | apply List.Mem.tail)) 4).trans rfl), ((H.cell (g := gF2) (by repeat (first | exact List.Mem.head _ | apply List.Mem.tail)) 5).trans rfl), ((H.cell (g := gF2) (by repeat (first | exact List.Mem.head _ | apply List.Mem.tail)) 6).trans rfl), ((H.cell (g := gF2) (by repeat (first | exact List.Mem.head _ | apply List.Mem.tail)) 7).trans rfl), ((H.cell (g := gF2) (by repeat (first | exact List.Mem.head _ | apply List.Mem.tail)) 8).trans rfl), ((H.cell (g := gF2) (by repeat (first | exact List.Mem.head _ | apply List.Mem.tail)) 9).trans rfl), ((H.cell (g := gF2) (by repeat (first | exact List.Mem.head _ | apply List.Mem.tail)) 10).trans rfl), ((H.cell (g := gE2) (by repeat (first | exact List.Mem.head _ | apply List.Mem.tail)) 0).trans rfl), ((H.cell (g := gE2) (by repeat (first | exact List.Mem.head _ | apply List.Mem.tail)) 1).trans rfl)⟩)
  refine hK.out _ _ hS.out (fun hHeld => ?_)
  clear hK K
  clear hS
  refine one_ (i := 3) (N := none) #[true, true, true, true, false] rfl rfl (by kernel_rfl) (by decide) (fun K hK => ?_)
  refine store_o H (by rfl) rfl rfl rfl rfl (by repeat (first | exact Put.head | apply Put.tail)) (by kernel_rfl) (Nat.le_of_ble_eq_true rfl) rfl ?_
  clear H
  intro w_ H h_
  simp only [setC, Value.cells, List.toList_toArray] at H
  clear h_
  have hS := Lib.hid (show (fun w' : World => w'.cell? ⟨gF2, 0, none⟩ = some (.int .u8 F.ty) ∧ w'.cell? ⟨gF2, 1, none⟩ = some (.int .u8 F.fl) ∧ w'.cell? ⟨gF2, 2, none⟩ = some (.int .u32 F.st) ∧ w'.cell? ⟨gF2, 3, none⟩ = some (.slice Ap F.data.length cp) ∧ w'.cell? ⟨gF2, 4, none⟩ = some (.int .i64 F.pad) ∧ w'.cell? ⟨gF2, 5, none⟩ = some (.int .u32 F.code) ∧ w'.cell? ⟨gF2, 6, none⟩ = some (.int .u32 F.oth) ∧ w'.cell? ⟨gF2, 7, none⟩ = some (.int .u8 F.wgt) ∧ w'.cell? ⟨gF2, 8, none⟩ = some (.bool F.al) ∧ w'.cell? ⟨gF2, 9, none⟩ = some (.int .u32 F.win) ∧ w'.cell? ⟨gF2, 10, none⟩ = some (.slice Bp F.sets.length mp) ∧ w'.cell? ⟨gE2, 0, none⟩ = some (.int .u8 1) ∧ w'.cell? ⟨gE2, 1, none⟩ = some (.int .u32 6)) _ from ⟨((H.cell (g := gF2) (by repeat (first | exact List.Mem.head _ | apply List.Mem.tail)) 0).trans rfl), ((H.cell (g := gF2) (by repeat (first | exact List.Mem.head _ | apply List.Mem.tail)) 1).trans rfl), ((H.cell (g := gF2) (by repeat (first | exact List.Mem.head _ | apply List.Mem.tail)) 2).trans rfl), ((H.cell (g := gF2) (by repeat (first | exact List.Mem.head _ | apply List.Mem.tail)) 3).trans rfl), ((H.cell (g := gF2) (by repeat (first | exact List.Mem.head _ | apply List.Mem.tail)) 4).trans rfl), ((H.cell (g := gF2) (by repeat (first | exact List.Mem.head _ | apply List.Mem.tail)) 5).trans rfl), ((H.cell (g := gF2) (by repeat (first | exact List.Mem.head _ | apply List.Mem.tail)) 6).trans rfl), ((H.cell (g := gF2) (by repeat (first | exact List.Mem.head _ | apply List.Mem.tail)) 7).trans rfl), ((H.cell (g := gF2) (by repeat (first | exact List.Mem.head _ | apply List.Mem.tail)) 8).trans rfl), ((H.cell (g := gF2) (by repeat (first | exact List.Mem.head _ | apply List.Mem.tail)) 9).trans rfl), ((H.cell (g := gF2) (by repeat (first | exact List.Mem.head _ | apply List.Mem.tail)) 10).trans rfl), ((H.cell (g := gE2) (by repeat (first | exact List.Mem.head _ | apply List.Mem.tail)) 0).trans rfl), ((H.cell (g := gE2) (by repeat (first | exact List.Mem.head _ | apply List.Mem.tail)) 1).trans rfl)⟩)
  refine hK.out _ _ hS.out (fun hHeld => ?_)
  clear hK K
  clear hS
  refine pure_ (i := 4) (N := some 4) (v := ?_) (a' := ?_) #[true, true, true, true, true] rfl rfl (by kernel_rfl) (fun _ _ _ h => h) (Or.inl ⟨by rfl, ?_⟩) ?_ ?_
  rotate_left
  ·intro w'
   go_simp
   with_reducible rfl
  rotate_left
  ·simp only [Act.put, putA, putB, putC]
   rfl
  refine done_ (by kernel_rfl) ?_
  go_wp2_with fail
  refine bodyPost_ret (results_list (rs := [.cell 2 38, .cell 3 24, .tmp 4]) rfl (by simp) (.cell gF 38 ((frC F (.slice Ap F.data.length cp) (.slice Bp F.sets.length mp))) (0, 0) _ rfl (H.blk (cs := ((frC F (.slice Ap F.data.length cp) (.slice Bp F.sets.length mp))).toList) (by repeat (first | exact List.Mem.head _ | apply List.Mem.tail))) Tryd.underlying38 rfl (by kernel_rfl) (.cell gE 24 _ (0, 0) _ rfl (H.blk (by repeat (first | exact List.Mem.head _ | apply List.Mem.tail))) Tryd.underlying24 rfl (by kernel_rfl) (.tmp .nil)))) rfl ?_
  exact HP.out _ _ ⟨_, Ap, cp, Bp, mp, rfl, H.only3 (by repeat (first | exact Pull.head | apply Pull.tail)) (by repeat (first | exact Pull.head | apply Pull.tail)) (by repeat (first | exact Pull.head | apply Pull.tail))⟩
set_option maxHeartbeats 4000000 in
set_option maxRecDepth 100000 in
theorem next_bad (w : World) (g : Nat) (v : Value) (s : Sp) (h : IsSp w g v s) (hgv : ∀ W, Kept w W (ats [spO g v s, spR v s]) → GV W) (hb : s.bad = false) (b1 : List Int) (hb1 : (s.waits = false ∧ b1 = s.b) ∨ (s.waits = true ∧ preOk s.b = true ∧ 24 ≤ s.b.length ∧ s.b.drop 24 = b1)) (hby : Byte8 s.b) (hl : s.b.length ≤ 16393) (h9 : 9 ≤ b1.length) (m : Nat) (hm : headN b1 = (m : Int)) (hm0 : 9 ≤ m) (hm1 : m ≤ 16393) (hm2 : m ≤ b1.length) (hs : (getFr (b1.take m)).2.1 = 1) : Calls Tryd.prog 39 #[.pointer (some ⟨g, 0, none⟩)] w (NextP w g v s (getFr (b1.take m)) true ⟨[], false, true⟩) := by
 refine of_post0 fun R hRR => ?_
 have HP := Lib.hid hRR
 have H : Hold w w (ats [spO g v s, spR v s]) [spO g v s, spR v s] := h.hold
 have HGV := Lib.hid hgv
 obtain ⟨b, x, y⟩ := s
 simp only at hb hb1 hby hl
 subst hb
 have hby1 : Byte8 b1 := by
  rcases hb1 with ⟨_, rfl⟩ | ⟨_, _, _, rfl⟩
  ·exact hby
  ·exact fun x hx => hby x (List.mem_of_mem_drop hx)
 have hl1 : b1.length ≤ 16393 := by
  rcases hb1 with ⟨_, rfl⟩ | ⟨_, _, _, rfl⟩
  ·exact hl
  ·rw [List.length_drop]; omega
 have HN := Lib.hid (And.intro hm (show decide (9 ≤ b1.length) = true from decide_eq_true h9))
 have g1 : decide ((m : Int) ≤ 16393) = true := decide_eq_true (by omega)
 have g2 : decide (m ≤ 16393) = true := decide_eq_true (by omega)
 have g3 : decide ((16393 : Int) < (m : Int)) = false := decide_eq_false (by omega)
 have g4 : decide (16393 < m) = false := decide_eq_false (by omega)
 have g5 : decide ((b1.length : Int) < (m : Int)) = false := decide_eq_false (by omega)
 have g6 : decide (b1.length < m) = false := decide_eq_false (by omega)
 have hLm : (b1.take m).length = m := by rw [List.length_take]; omega
 have hG := fun (W : World) (A2 : Option Addr) (c2 : Nat) (hg : GV W) (h1 : ReadsInt W .u8 A2 m (b1.take m)) (h2 : m ≤ c2) => get_hold W hg A2 c2 (b1.take m) (by rw [hLm]; exact h1) (by rw [hLm]; exact h2) (fun x hx => hby1 x (List.mem_of_mem_take hx)) (by rw [hLm]; omega)
 rw [hLm] at hG
 have HLM := Lib.hid hLm
 generalize getFr (b1.take m) = X at hG HP hs
 obtain ⟨F, sc, cd⟩ := X
 dsimp only at hG hs
 subst hs
 have HG := Lib.hid hG
 have HY := Lib.hid (And.intro hby (And.intro hl hby1))
 clear hRR h hgv hby hl hby1 h9 hm hG hLm
 rcases hb1 with ⟨hw, e1⟩ | ⟨hw, hp, h24, e1⟩
 subst hw
 subst e1
 go_enter Tryd.func39, Tryd.ntmps39
 go_upto_region 6 with (first
  | ((with_reducible refine is_alloc (ty := 38) rfl ?_); refine alloc_h H rfl rfl (cs := (frC ⟨0, 0, 0, [], 0, 0, 0, 0, false, 0, []⟩ nilS nilS).toList) (by first | (go_simp; done) | (go_simp; rfl)) ?_; clear H; intro gF w_ H)
  | ((with_reducible refine is_alloc (ty := 24) rfl ?_); refine alloc_h H rfl rfl (cs := [.int .u8 0, .int .u32 0]) (by first | (go_simp; done) | (go_simp; rfl)) ?_; clear H; intro gE w_ H)
  | (go_at_call 37; refine (bad_calls _ g _ _ _ (H.blk (by repeat (first | exact List.Mem.head _ | apply List.Mem.tail)))).mono ?_; rintro e_ w_ ⟨rfl, h_⟩; replace H := H.below h_; clear h_)
  | ((with_reducible refine is_load rfl ?_); refine loadf_h H rfl rfl rfl (by repeat (first | exact List.Mem.head _ | apply List.Mem.tail)) rfl (by kernel_rfl) ?_)
  | ((with_reducible refine is_load rfl ?_); refine loadf_g H rfl rfl (by repeat (first | exact List.Mem.head _ | apply List.Mem.tail)) rfl (by kernel_rfl) (by rfl) ?_))
 replace H : ∃ v1, Hold w _ _ ([spO g v1 ⟨b1, false, false⟩, spR v1 ⟨b1, false, false⟩] ++ _) := ⟨v, H.pull2 (by repeat (first | exact Pull.head | apply Pull.tail)) (by repeat (first | exact Pull.head | apply Pull.tail))⟩
 obtain ⟨v1, H⟩ := H
 rotate_left
 subst hw
 have HX := Lib.hid (And.intro hp (And.intro h24 e1))
 clear hp h24 e1
 go_enter Tryd.func39, Tryd.ntmps39
 go_upto_region 6 with (first
  | ((with_reducible refine is_alloc (ty := 38) rfl ?_); refine alloc_h H rfl rfl (cs := (frC ⟨0, 0, 0, [], 0, 0, 0, 0, false, 0, []⟩ nilS nilS).toList) (by first | (go_simp; done) | (go_simp; rfl)) ?_; clear H; intro gF w_ H)
  | ((with_reducible refine is_alloc (ty := 24) rfl ?_); refine alloc_h H rfl rfl (cs := [.int .u8 0, .int .u32 0]) (by first | (go_simp; done) | (go_simp; rfl)) ?_; clear H; intro gE w_ H)
  | (go_at_call 37; refine (bad_calls _ g _ _ _ (H.blk (by repeat (first | exact List.Mem.head _ | apply List.Mem.tail)))).mono ?_; rintro e_ w_ ⟨rfl, h_⟩; replace H := H.below h_; clear h_)
  | ((with_reducible refine is_load rfl ?_); refine loadf_h H rfl rfl rfl (by repeat (first | exact List.Mem.head _ | apply List.Mem.tail)) rfl (by kernel_rfl) ?_)
  | ((with_reducible refine is_load rfl ?_); refine loadf_g H rfl rfl (by repeat (first | exact List.Mem.head _ | apply List.Mem.tail)) rfl (by kernel_rfl) (by rfl) ?_)
  | (go_at_call 66; refine (begins_ok _ g _ _ (H.sp (by repeat (first | exact List.Mem.head _ | apply List.Mem.tail)) (by repeat (first | exact List.Mem.head _ | apply List.Mem.tail))) HY.out.1 HX.out.1 HX.out.2.1 HY.out.2.1).mono ?_; rintro e_ w_ ⟨v1, rfl, h_⟩; simp only [HX.out.2.2] at h_; replace H := Hold.call (H.pull2 (by repeat (first | exact Pull.head | apply Pull.tail)) (by repeat (first | exact Pull.head | apply Pull.tail))) h_; clear h_))
 rotate_left
 all_goals
  obtain ⟨A1, c1, rfl, hR1, hc1⟩ := own_reads2 (H.row (e := 5) (v := v1) (k := .u8) (xs := b1) (by repeat (first | exact List.Mem.head _ | apply List.Mem.tail)))
  obtain ⟨i0, hi, _, hsz, _⟩ := info_parts Tryd.infoB8
  obtain ⟨hcut, hr, hc2⟩ := print_take_int (P := Tryd.prog) (k := .u8) 35 5 Tryd.underlying35 hi hsz A1 c1 b1 (m : Int) (by omega) (by omega) hc1
  obtain ⟨A2, hcut2, hr2, hm2⟩ := print_drop_of (P := Tryd.prog) (Value.int .u8) (0 : Int) 35 5 .i64 Tryd.underlying35 hi hsz A1 c1 b1 (m : Int) (by omega) (by omega) hc1
  rw [Int.toNat_natCast] at hcut hr hc2 hcut2 hr2 hm2
  rw [HLM.out] at hcut hr hc2
  have hl3 : (b1.drop m).length ≤ 100000 := by rw [List.length_drop]; omega
  have HC1 := Lib.hid hc1
  have HR2 := Lib.hid (And.intro hr (And.intro hr2 (And.intro hl3 (And.intro hc2 hm2))))
  generalize hL2 : b1.drop m = L2 at hcut2 HR2 HP
  have k1 : (m : Int) ≤ (b1.length : Int) := by omega
  have k2 : m ≤ b1.length := by omega
  clear hR1 hc1 hi hsz hr hc2 hr2 hm2 hl3 hL2
  go_upto_region 19 with (first
   | (go_at_call 25; refine (head_calls _ A1 c1 b1 HY.out.2.2 (reads_own (H.row (by repeat (first | exact List.Mem.head _ | apply List.Mem.tail)))) HC1.out).mono ?_; rintro e_ w_ ⟨rfl, h_⟩; rw [HN.out.1, HN.out.2]; replace H := H.below h_.below; clear h_)
   | ((with_reducible refine is_load rfl ?_); refine loadf_h H rfl rfl rfl (by repeat (first | exact List.Mem.head _ | apply List.Mem.tail)) rfl (by kernel_rfl) ?_)
   | ((with_reducible refine is_load rfl ?_); refine loadf_g H rfl rfl (by repeat (first | exact List.Mem.head _ | apply List.Mem.tail)) rfl (by kernel_rfl) (by rfl) ?_)
   | ((with_reducible refine is_alloc (ty := 38) rfl ?_); refine alloc_h H rfl rfl (cs := (frC ⟨0, 0, 0, [], 0, 0, 0, 0, false, 0, []⟩ nilS nilS).toList) (by first | (go_simp; done) | (go_simp; rfl)) ?_; clear H; intro gF2 w_ H)
   | ((with_reducible refine is_alloc (ty := 24) rfl ?_); refine alloc_h H rfl rfl (cs := [.int .u8 0, .int .u32 0]) (by first | (go_simp; done) | (go_simp; rfl)) ?_; clear H; intro gE2 w_ H)
   | (go_at_call 27; refine (HG.out _ _ _ (HGV.out _ H.kept) (HR2.out.1 _ (reads_own (H.row (by repeat (first | exact List.Mem.head _ | apply List.Mem.tail))))) (HR2.out.2.2.2.1)).mono ?_; rintro e_ w_ ⟨Ap, cp, Bp, mp, rfl, h_⟩; replace H := Hold.push H h_; clear h_)
   | (go_at_call 68; refine (clone_got _ _ _ _ _ (HR2.out.2.1 _ (reads_own (H.row (by repeat (first | exact List.Mem.head _ | apply List.Mem.tail))))) HR2.out.2.2.1).mono ?_; rintro e_ w_ ⟨v2, rfl, h_⟩; obtain ⟨A3, c3, rfl⟩ := own_slice (H2_ h_); replace H := Hold.push H h_; clear h_)
   | (go_at_call 67; refine (spfails_calls _ g (.slice A3 L2.length c3) ⟨L2, false, false⟩ (H.sp (v := (.slice A3 L2.length c3)) (s := ⟨L2, false, false⟩) (by repeat (first | exact List.Mem.head _ | apply List.Mem.tail)) (by repeat (first | exact List.Mem.head _ | apply List.Mem.tail)))).mono ?_; rintro e_ w_ ⟨rfl, h_⟩; replace H := Hold.call (H.pull2 (by repeat (first | exact Pull.head | apply Pull.tail)) (by repeat (first | exact Pull.head | apply Pull.tail))) h_; clear h_)
   | ((with_reducible refine is_store rfl ?_); (try simp only [Act.put, putA, putB, putC]); refine store_h H rfl rfl rfl rfl rfl (by repeat (first | exact Put.head | apply Put.tail)) (by kernel_rfl) (Nat.le_of_ble_eq_true rfl) rfl ?_; clear H; intro w_ H; simp only [setC, Value.cells, List.toList_toArray] at H))
  replace H := H.below (below_drew (Below.refl _ _))
  refine start_ (n := 5) (S := fun w' => w'.cell? ⟨gF2, 0, none⟩ = some (.int .u8 F.ty) ∧ w'.cell? ⟨gF2, 1, none⟩ = some (.int .u8 F.fl) ∧ w'.cell? ⟨gF2, 2, none⟩ = some (.int .u32 F.st) ∧ w'.cell? ⟨gF2, 3, none⟩ = some (.slice Ap F.data.length cp) ∧ w'.cell? ⟨gF2, 4, none⟩ = some (.int .i64 F.pad) ∧ w'.cell? ⟨gF2, 5, none⟩ = some (.int .u32 F.code) ∧ w'.cell? ⟨gF2, 6, none⟩ = some (.int .u32 F.oth) ∧ w'.cell? ⟨gF2, 7, none⟩ = some (.int .u8 F.wgt) ∧ w'.cell? ⟨gF2, 8, none⟩ = some (.bool F.al) ∧ w'.cell? ⟨gF2, 9, none⟩ = some (.int .u32 F.win) ∧ w'.cell? ⟨gF2, 10, none⟩ = some (.slice Bp F.sets.length mp) ∧ w'.cell? ⟨gE2, 0, none⟩ = some (.int .u8 1) ∧ w'.cell? ⟨gE2, 1, none⟩ = some (.int .u32 cd)) (ds := []) #[false, false, false, false, false] (by kernel_rfl) rfl rfl ⟨((H.cell (g := gF2) (by repeat (first | exact List.Mem.head _ | apply List.Mem.tail)) 0).trans rfl), ((H.cell (g := gF2) (by repeat (first | exact List.Mem.head _ | apply List.Mem.tail)) 1).trans rfl), ((H.cell (g := gF2) (by repeat (first | exact List.Mem.head _ | apply List.Mem.tail)) 2).trans rfl), ((H.cell (g := gF2) (by repeat (first | exact List.Mem.head _ | apply List.Mem.tail)) 3).trans rfl), ((H.cell (g := gF2) (by repeat (first | exact List.Mem.head _ | apply List.Mem.tail)) 4).trans rfl), ((H.cell (g := gF2) (by repeat (first | exact List.Mem.head _ | apply List.Mem.tail)) 5).trans rfl), ((H.cell (g := gF2) (by repeat (first | exact List.Mem.head _ | apply List.Mem.tail)) 6).trans rfl), ((H.cell (g := gF2) (by repeat (first | exact List.Mem.head _ | apply List.Mem.tail)) 7).trans rfl), ((H.cell (g := gF2) (by repeat (first | exact List.Mem.head _ | apply List.Mem.tail)) 8).trans rfl), ((H.cell (g := gF2) (by repeat (first | exact List.Mem.head _ | apply List.Mem.tail)) 9).trans rfl), ((H.cell (g := gF2) (by repeat (first | exact List.Mem.head _ | apply List.Mem.tail)) 10).trans rfl), ((H.cell (g := gE2) (by repeat (first | exact List.Mem.head _ | apply List.Mem.tail)) 0).trans rfl), ((H.cell (g := gE2) (by repeat (first | exact List.Mem.head _ | apply List.Mem.tail)) 1).trans rfl)⟩ (fun hHeld => ?_)
  generalize World.drew _ = wy at H hHeld ⊢
  refine take_ (i := 0) (N := some 117) (v := ?_) (a' := ?_) #[true, false, false, false, false] rfl rfl (by kernel_rfl) (fun _ _ _ h => h) (Or.inl ⟨by rfl, ?_⟩) hHeld ?_ ?_
  rotate_left
  ·rintro w' ⟨s0, s1, s2, s3, s4, s5, s6, s7, s8, s9, s10, s11, s12⟩
   go_simp
   with_reducible rfl
  rotate_left
  ·simp only [Act.put, putA, putB, putC]
   rfl
  refine take_ (i := 1) (N := some 118) (v := ?_) (a' := ?_) #[true, true, false, false, false] rfl rfl (by kernel_rfl) (fun _ _ _ h => h) (Or.inl ⟨by rfl, ?_⟩) hHeld ?_ ?_
  rotate_left
  ·rintro w' ⟨s0, s1, s2, s3, s4, s5, s6, s7, s8, s9, s10, s11, s12⟩
   go_simp
   with_reducible rfl
  rotate_left
  ·simp only [Act.put, putA, putB, putC]
   rfl
  refine one_ (i := 2) (N := none) #[true, true, true, false, false] rfl rfl (by kernel_rfl) (by decide) (fun K hK => ?_)
  refine store_o H (by rfl) rfl rfl rfl rfl (by repeat (first | exact Put.head | apply Put.tail)) (by kernel_rfl) (Nat.le_of_ble_eq_true rfl) rfl ?_
  clear H
  intro w_ H h_
  simp only [setC, Value.cells, List.toList_toArray] at H
  clear h_
  have hS := Lib.hid (show (fun w' : World => w'.cell? ⟨gF2, 0, none⟩ = some (.int .u8 F.ty) ∧ w'.cell? ⟨gF2, 1, none⟩ = some (.int .u8 F.fl) ∧ w'.cell? ⟨gF2, 2, none⟩ = some (.int .u32 F.st) ∧ w'.cell? ⟨gF2, 3, none⟩ = some (.slice Ap F.data.length cp) ∧ w'.cell? ⟨gF2, 4, none⟩ = some (.int .i64 F.pad) ∧ w'.cell? ⟨gF2, 5, none⟩ = some (.int .u32 F.code) ∧ w'.cell? ⟨gF2, 6, none⟩ = some (.int .u32 F.oth) ∧ w'.cell? ⟨gF2, 7, none⟩ = some (.int .u8 F.wgt) ∧ w'.cell? ⟨gF2, 8, none⟩ = some (.bool F.al) ∧ w'.cell? ⟨gF2, 9, none⟩ = some (.int .u32 F.win) ∧ w'.cell? ⟨gF2, 10, none⟩ = some (.slice Bp F.sets.length mp) ∧ w'.cell? ⟨gE2, 0, none⟩ = some (.int .u8 1) ∧ w'.cell? ⟨gE2, 1, none⟩ = some (.int .u32 cd)) _ from ⟨((H.cell (g := gF2) (by repeat (first | exact List.Mem.head _ | apply List.Mem.tail)) 0).trans rfl), ((H.cell (g := gF2) (by repeat (first | exact List.Mem.head _ | apply List.Mem.tail)) 1).trans rfl), ((H.cell (g := gF2) (by repeat (first | exact List.Mem.head _ | apply List.Mem.tail)) 2).trans rfl), ((H.cell (g := gF2) (by repeat (first | exact List.Mem.head _ | apply List.Mem.tail)) 3).trans rfl), ((H.cell (g := gF2) (by repeat (first | exact List.Mem.head _ | apply List.Mem.tail)) 4).trans rfl), ((H.cell (g := gF2) (by repeat (first | exact List.Mem.head _ | apply List.Mem.tail)) 5).trans rfl), ((H.cell (g := gF2) (by repeat (first | exact List.Mem.head _ | apply List.Mem.tail)) 6).trans rfl), ((H.cell (g := gF2) (by repeat (first | exact List.Mem.head _ | apply List.Mem.tail)) 7).trans rfl), ((H.cell (g := gF2) (by repeat (first | exact List.Mem.head _ | apply List.Mem.tail)) 8).trans rfl), ((H.cell (g := gF2) (by repeat (first | exact List.Mem.head _ | apply List.Mem.tail)) 9).trans rfl), ((H.cell (g := gF2) (by repeat (first | exact List.Mem.head _ | apply List.Mem.tail)) 10).trans rfl), ((H.cell (g := gE2) (by repeat (first | exact List.Mem.head _ | apply List.Mem.tail)) 0).trans rfl), ((H.cell (g := gE2) (by repeat (first | exact List.Mem.head _ | apply List.Mem.tail)) 1).trans rfl)⟩)
  refine hK.out _ _ hS.out (fun hHeld => ?_)
  clear hK K
  clear hS
  refine one_ (i := 3) (N := none) #[true, true, true, true, false] rfl rfl (by kernel_rfl) (by decide) (fun K hK => ?_)
  refine store_o H (by rfl) rfl rfl rfl rfl (by repeat (first | exact Put.head | apply Put.tail)) (by kernel_rfl) (Nat.le_of_ble_eq_true rfl) rfl ?_
  clear H
  intro w_ H h_
  simp only [setC, Value.cells, List.toList_toArray] at H
  clear h_
  have hS := Lib.hid (show (fun w' : World => w'.cell? ⟨gF2, 0, none⟩ = some (.int .u8 F.ty) ∧ w'.cell? ⟨gF2, 1, none⟩ = some (.int .u8 F.fl) ∧ w'.cell? ⟨gF2, 2, none⟩ = some (.int .u32 F.st) ∧ w'.cell? ⟨gF2, 3, none⟩ = some (.slice Ap F.data.length cp) ∧ w'.cell? ⟨gF2, 4, none⟩ = some (.int .i64 F.pad) ∧ w'.cell? ⟨gF2, 5, none⟩ = some (.int .u32 F.code) ∧ w'.cell? ⟨gF2, 6, none⟩ = some (.int .u32 F.oth) ∧ w'.cell? ⟨gF2, 7, none⟩ = some (.int .u8 F.wgt) ∧ w'.cell? ⟨gF2, 8, none⟩ = some (.bool F.al) ∧ w'.cell? ⟨gF2, 9, none⟩ = some (.int .u32 F.win) ∧ w'.cell? ⟨gF2, 10, none⟩ = some (.slice Bp F.sets.length mp) ∧ w'.cell? ⟨gE2, 0, none⟩ = some (.int .u8 1) ∧ w'.cell? ⟨gE2, 1, none⟩ = some (.int .u32 cd)) _ from ⟨((H.cell (g := gF2) (by repeat (first | exact List.Mem.head _ | apply List.Mem.tail)) 0).trans rfl), ((H.cell (g := gF2) (by repeat (first | exact List.Mem.head _ | apply List.Mem.tail)) 1).trans rfl), ((H.cell (g := gF2) (by repeat (first | exact List.Mem.head _ | apply List.Mem.tail)) 2).trans rfl), ((H.cell (g := gF2) (by repeat (first | exact List.Mem.head _ | apply List.Mem.tail)) 3).trans rfl), ((H.cell (g := gF2) (by repeat (first | exact List.Mem.head _ | apply List.Mem.tail)) 4).trans rfl), ((H.cell (g := gF2) (by repeat (first | exact List.Mem.head _ | apply List.Mem.tail)) 5).trans rfl), ((H.cell (g := gF2) (by repeat (first | exact List.Mem.head _ | apply List.Mem.tail)) 6).trans rfl), ((H.cell (g := gF2) (by repeat (first | exact List.Mem.head _ | apply List.Mem.tail)) 7).trans rfl), ((H.cell (g := gF2) (by repeat (first | exact List.Mem.head _ | apply List.Mem.tail)) 8).trans rfl), ((H.cell (g := gF2) (by repeat (first | exact List.Mem.head _ | apply List.Mem.tail)) 9).trans rfl), ((H.cell (g := gF2) (by repeat (first | exact List.Mem.head _ | apply List.Mem.tail)) 10).trans rfl), ((H.cell (g := gE2) (by repeat (first | exact List.Mem.head _ | apply List.Mem.tail)) 0).trans rfl), ((H.cell (g := gE2) (by repeat (first | exact List.Mem.head _ | apply List.Mem.tail)) 1).trans rfl)⟩)
  refine hK.out _ _ hS.out (fun hHeld => ?_)
  clear hK K
  clear hS
  refine pure_ (i := 4) (N := some 4) (v := ?_) (a' := ?_) #[true, true, true, true, true] rfl rfl (by kernel_rfl) (fun _ _ _ h => h) (Or.inl ⟨by rfl, ?_⟩) ?_ ?_
  rotate_left
  ·intro w'
   go_simp
   with_reducible rfl
  rotate_left
  ·simp only [Act.put, putA, putB, putC]
   rfl
  refine done_ (by kernel_rfl) ?_
  go_wp2_with fail
  refine bodyPost_ret (results_list (rs := [.cell 2 38, .cell 3 24, .tmp 4]) rfl (by simp) (.cell gF 38 ((frC F (.slice Ap F.data.length cp) (.slice Bp F.sets.length mp))) (0, 0) _ rfl (H.blk (cs := ((frC F (.slice Ap F.data.length cp) (.slice Bp F.sets.length mp))).toList) (by repeat (first | exact List.Mem.head _ | apply List.Mem.tail))) Tryd.underlying38 rfl (by kernel_rfl) (.cell gE 24 _ (0, 0) _ rfl (H.blk (by repeat (first | exact List.Mem.head _ | apply List.Mem.tail))) Tryd.underlying24 rfl (by kernel_rfl) (.tmp .nil)))) rfl ?_
  exact HP.out _ _ ⟨_, Ap, cp, Bp, mp, rfl, H.only3 (by repeat (first | exact Pull.head | apply Pull.tail)) (by repeat (first | exact Pull.head | apply Pull.tail)) (by repeat (first | exact Pull.head | apply Pull.tail))⟩
set_option maxHeartbeats 4000000 in
set_option maxRecDepth 100000 in
theorem next_one (w : World) (g : Nat) (v : Value) (s : Sp) (h : IsSp w g v s) (hgv : ∀ W, Kept w W (ats [spO g v s, spR v s]) → GV W) (hb : s.bad = false) (b1 : List Int) (hb1 : (s.waits = false ∧ b1 = s.b) ∨ (s.waits = true ∧ preOk s.b = true ∧ 24 ≤ s.b.length ∧ s.b.drop 24 = b1)) (hby : Byte8 s.b) (hl : s.b.length ≤ 16393) (h9 : 9 ≤ b1.length) (m : Nat) (hm : headN b1 = (m : Int)) (hm0 : 9 ≤ m) (hm1 : m ≤ 16393) (hm2 : m ≤ b1.length) (hs : (getFr (b1.take m)).2.1 ≠ 1) : Calls Tryd.prog 39 #[.pointer (some ⟨g, 0, none⟩)] w (NextP w g v s (getFr (b1.take m)) true ⟨b1.drop m, false, false⟩) := by
 refine of_post0 fun R hRR => ?_
 have HP := Lib.hid hRR
 have H : Hold w w (ats [spO g v s, spR v s]) [spO g v s, spR v s] := h.hold
 have HGV := Lib.hid hgv
 obtain ⟨b, x, y⟩ := s
 simp only at hb hb1 hby hl
 subst hb
 have hby1 : Byte8 b1 := by
  rcases hb1 with ⟨_, rfl⟩ | ⟨_, _, _, rfl⟩
  ·exact hby
  ·exact fun x hx => hby x (List.mem_of_mem_drop hx)
 have hl1 : b1.length ≤ 16393 := by
  rcases hb1 with ⟨_, rfl⟩ | ⟨_, _, _, rfl⟩
  ·exact hl
  ·rw [List.length_drop]; omega
 have HN := Lib.hid (And.intro hm (show decide (9 ≤ b1.length) = true from decide_eq_true h9))
 have g1 : decide ((m : Int) ≤ 16393) = true := decide_eq_true (by omega)
 have g2 : decide (m ≤ 16393) = true := decide_eq_true (by omega)
 have g3 : decide ((16393 : Int) < (m : Int)) = false := decide_eq_false (by omega)
 have g4 : decide (16393 < m) = false := decide_eq_false (by omega)
 have g5 : decide ((b1.length : Int) < (m : Int)) = false := decide_eq_false (by omega)
 have g6 : decide (b1.length < m) = false := decide_eq_false (by omega)
 have hLm : (b1.take m).length = m := by rw [List.length_take]; omega
 have hG := fun (W : World) (A2 : Option Addr) (c2 : Nat) (hg : GV W) (h1 : ReadsInt W .u8 A2 m (b1.take m)) (h2 : m ≤ c2) => get_hold W hg A2 c2 (b1.take m) (by rw [hLm]; exact h1) (by rw [hLm]; exact h2) (fun x hx => hby1 x (List.mem_of_mem_take hx)) (by rw [hLm]; omega)
 rw [hLm] at hG
 have HLM := Lib.hid hLm
 generalize getFr (b1.take m) = X at hG HP hs
 obtain ⟨F, sc, cd⟩ := X
 dsimp only at hG hs
 have g7 : (sc == 1) = false := by simpa using hs
 have HG := Lib.hid hG
 have HY := Lib.hid (And.intro hby (And.intro hl hby1))
 clear hRR h hgv hby hl hby1 h9 hm hG hLm hs
 rcases hb1 with ⟨hw, e1⟩ | ⟨hw, hp, h24, e1⟩
 subst hw
 subst e1
 go_enter Tryd.func39, Tryd.ntmps39
 go_upto_region 6 with (first
  | ((with_reducible refine is_alloc (ty := 38) rfl ?_); refine alloc_h H rfl rfl (cs := (frC ⟨0, 0, 0, [], 0, 0, 0, 0, false, 0, []⟩ nilS nilS).toList) (by first | (go_simp; done) | (go_simp; rfl)) ?_; clear H; intro gF w_ H)
  | ((with_reducible refine is_alloc (ty := 24) rfl ?_); refine alloc_h H rfl rfl (cs := [.int .u8 0, .int .u32 0]) (by first | (go_simp; done) | (go_simp; rfl)) ?_; clear H; intro gE w_ H)
  | (go_at_call 37; refine (bad_calls _ g _ _ _ (H.blk (by repeat (first | exact List.Mem.head _ | apply List.Mem.tail)))).mono ?_; rintro e_ w_ ⟨rfl, h_⟩; replace H := H.below h_; clear h_)
  | ((with_reducible refine is_load rfl ?_); refine loadf_h H rfl rfl rfl (by repeat (first | exact List.Mem.head _ | apply List.Mem.tail)) rfl (by kernel_rfl) ?_)
  | ((with_reducible refine is_load rfl ?_); refine loadf_g H rfl rfl (by repeat (first | exact List.Mem.head _ | apply List.Mem.tail)) rfl (by kernel_rfl) (by rfl) ?_))
 replace H : ∃ v1, Hold w _ _ ([spO g v1 ⟨b1, false, false⟩, spR v1 ⟨b1, false, false⟩] ++ _) := ⟨v, H.pull2 (by repeat (first | exact Pull.head | apply Pull.tail)) (by repeat (first | exact Pull.head | apply Pull.tail))⟩
 obtain ⟨v1, H⟩ := H
 rotate_left
 subst hw
 have HX := Lib.hid (And.intro hp (And.intro h24 e1))
 clear hp h24 e1
 go_enter Tryd.func39, Tryd.ntmps39
 go_upto_region 6 with (first
  | ((with_reducible refine is_alloc (ty := 38) rfl ?_); refine alloc_h H rfl rfl (cs := (frC ⟨0, 0, 0, [], 0, 0, 0, 0, false, 0, []⟩ nilS nilS).toList) (by first | (go_simp; done) | (go_simp; rfl)) ?_; clear H; intro gF w_ H)
  | ((with_reducible refine is_alloc (ty := 24) rfl ?_); refine alloc_h H rfl rfl (cs := [.int .u8 0, .int .u32 0]) (by first | (go_simp; done) | (go_simp; rfl)) ?_; clear H; intro gE w_ H)
  | (go_at_call 37; refine (bad_calls _ g _ _ _ (H.blk (by repeat (first | exact List.Mem.head _ | apply List.Mem.tail)))).mono ?_; rintro e_ w_ ⟨rfl, h_⟩; replace H := H.below h_; clear h_)
  | ((with_reducible refine is_load rfl ?_); refine loadf_h H rfl rfl rfl (by repeat (first | exact List.Mem.head _ | apply List.Mem.tail)) rfl (by kernel_rfl) ?_)
  | ((with_reducible refine is_load rfl ?_); refine loadf_g H rfl rfl (by repeat (first | exact List.Mem.head _ | apply List.Mem.tail)) rfl (by kernel_rfl) (by rfl) ?_)
  | (go_at_call 66; refine (begins_ok _ g _ _ (H.sp (by repeat (first | exact List.Mem.head _ | apply List.Mem.tail)) (by repeat (first | exact List.Mem.head _ | apply List.Mem.tail))) HY.out.1 HX.out.1 HX.out.2.1 HY.out.2.1).mono ?_; rintro e_ w_ ⟨v1, rfl, h_⟩; simp only [HX.out.2.2] at h_; replace H := Hold.call (H.pull2 (by repeat (first | exact Pull.head | apply Pull.tail)) (by repeat (first | exact Pull.head | apply Pull.tail))) h_; clear h_))
 rotate_left
 all_goals
  obtain ⟨A1, c1, rfl, hR1, hc1⟩ := own_reads2 (H.row (e := 5) (v := v1) (k := .u8) (xs := b1) (by repeat (first | exact List.Mem.head _ | apply List.Mem.tail)))
  obtain ⟨i0, hi, _, hsz, _⟩ := info_parts Tryd.infoB8
  obtain ⟨hcut, hr, hc2⟩ := print_take_int (P := Tryd.prog) (k := .u8) 35 5 Tryd.underlying35 hi hsz A1 c1 b1 (m : Int) (by omega) (by omega) hc1
  obtain ⟨A2, hcut2, hr2, hm2⟩ := print_drop_of (P := Tryd.prog) (Value.int .u8) (0 : Int) 35 5 .i64 Tryd.underlying35 hi hsz A1 c1 b1 (m : Int) (by omega) (by omega) hc1
  rw [Int.toNat_natCast] at hcut hr hc2 hcut2 hr2 hm2
  rw [HLM.out] at hcut hr hc2
  have hl3 : (b1.drop m).length ≤ 100000 := by rw [List.length_drop]; omega
  have HC1 := Lib.hid hc1
  have HR2 := Lib.hid (And.intro hr (And.intro hr2 (And.intro hl3 (And.intro hc2 hm2))))
  generalize hL2 : b1.drop m = L2 at hcut2 HR2 HP
  have k1 : (m : Int) ≤ (b1.length : Int) := by omega
  have k2 : m ≤ b1.length := by omega
  clear hR1 hc1 hi hsz hr hc2 hr2 hm2 hl3 hL2
  go_upto_region 19 with (first
   | (go_at_call 25; refine (head_calls _ A1 c1 b1 HY.out.2.2 (reads_own (H.row (by repeat (first | exact List.Mem.head _ | apply List.Mem.tail)))) HC1.out).mono ?_; rintro e_ w_ ⟨rfl, h_⟩; rw [HN.out.1, HN.out.2]; replace H := H.below h_.below; clear h_)
   | ((with_reducible refine is_load rfl ?_); refine loadf_h H rfl rfl rfl (by repeat (first | exact List.Mem.head _ | apply List.Mem.tail)) rfl (by kernel_rfl) ?_)
   | ((with_reducible refine is_load rfl ?_); refine loadf_g H rfl rfl (by repeat (first | exact List.Mem.head _ | apply List.Mem.tail)) rfl (by kernel_rfl) (by rfl) ?_)
   | ((with_reducible refine is_alloc (ty := 38) rfl ?_); refine alloc_h H rfl rfl (cs := (frC ⟨0, 0, 0, [], 0, 0, 0, 0, false, 0, []⟩ nilS nilS).toList) (by first | (go_simp; done) | (go_simp; rfl)) ?_; clear H; intro gF2 w_ H)
   | ((with_reducible refine is_alloc (ty := 24) rfl ?_); refine alloc_h H rfl rfl (cs := [.int .u8 0, .int .u32 0]) (by first | (go_simp; done) | (go_simp; rfl)) ?_; clear H; intro gE2 w_ H)
   | (go_at_call 27; refine (HG.out _ _ _ (HGV.out _ H.kept) (HR2.out.1 _ (reads_own (H.row (by repeat (first | exact List.Mem.head _ | apply List.Mem.tail))))) (HR2.out.2.2.2.1)).mono ?_; rintro e_ w_ ⟨Ap, cp, Bp, mp, rfl, h_⟩; replace H := Hold.push H h_; clear h_)
   | (go_at_call 68; refine (clone_got _ _ _ _ _ (HR2.out.2.1 _ (reads_own (H.row (by repeat (first | exact List.Mem.head _ | apply List.Mem.tail))))) HR2.out.2.2.1).mono ?_; rintro e_ w_ ⟨v2, rfl, h_⟩; obtain ⟨A3, c3, rfl⟩ := own_slice (H2_ h_); replace H := Hold.push H h_; clear h_)
   | ((with_reducible refine is_store rfl ?_); (try simp only [Act.put, putA, putB, putC]); refine store_h H rfl rfl rfl rfl rfl (by repeat (first | exact Put.head | apply Put.tail)) (by kernel_rfl) (Nat.le_of_ble_eq_true rfl) rfl ?_; clear H; intro w_ H; simp only [setC, Value.cells, List.toList_toArray] at H))
  replace H := H.below (below_drew (Below.refl _ _))
  refine start_ (n := 5) (S := fun w' => w'.cell? ⟨gF2, 0, none⟩ = some (.int .u8 F.ty) ∧ w'.cell? ⟨gF2, 1, none⟩ = some (.int .u8 F.fl) ∧ w'.cell? ⟨gF2, 2, none⟩ = some (.int .u32 F.st) ∧ w'.cell? ⟨gF2, 3, none⟩ = some (.slice Ap F.data.length cp) ∧ w'.cell? ⟨gF2, 4, none⟩ = some (.int .i64 F.pad) ∧ w'.cell? ⟨gF2, 5, none⟩ = some (.int .u32 F.code) ∧ w'.cell? ⟨gF2, 6, none⟩ = some (.int .u32 F.oth) ∧ w'.cell? ⟨gF2, 7, none⟩ = some (.int .u8 F.wgt) ∧ w'.cell? ⟨gF2, 8, none⟩ = some (.bool F.al) ∧ w'.cell? ⟨gF2, 9, none⟩ = some (.int .u32 F.win) ∧ w'.cell? ⟨gF2, 10, none⟩ = some (.slice Bp F.sets.length mp) ∧ w'.cell? ⟨gE2, 0, none⟩ = some (.int .u8 sc) ∧ w'.cell? ⟨gE2, 1, none⟩ = some (.int .u32 cd)) (ds := []) #[false, false, false, false, false] (by kernel_rfl) rfl rfl ⟨((H.cell (g := gF2) (by repeat (first | exact List.Mem.head _ | apply List.Mem.tail)) 0).trans rfl), ((H.cell (g := gF2) (by repeat (first | exact List.Mem.head _ | apply List.Mem.tail)) 1).trans rfl), ((H.cell (g := gF2) (by repeat (first | exact List.Mem.head _ | apply List.Mem.tail)) 2).trans rfl), ((H.cell (g := gF2) (by repeat (first | exact List.Mem.head _ | apply List.Mem.tail)) 3).trans rfl), ((H.cell (g := gF2) (by repeat (first | exact List.Mem.head _ | apply List.Mem.tail)) 4).trans rfl), ((H.cell (g := gF2) (by repeat (first | exact List.Mem.head _ | apply List.Mem.tail)) 5).trans rfl), ((H.cell (g := gF2) (by repeat (first | exact List.Mem.head _ | apply List.Mem.tail)) 6).trans rfl), ((H.cell (g := gF2) (by repeat (first | exact List.Mem.head _ | apply List.Mem.tail)) 7).trans rfl), ((H.cell (g := gF2) (by repeat (first | exact List.Mem.head _ | apply List.Mem.tail)) 8).trans rfl), ((H.cell (g := gF2) (by repeat (first | exact List.Mem.head _ | apply List.Mem.tail)) 9).trans rfl), ((H.cell (g := gF2) (by repeat (first | exact List.Mem.head _ | apply List.Mem.tail)) 10).trans rfl), ((H.cell (g := gE2) (by repeat (first | exact List.Mem.head _ | apply List.Mem.tail)) 0).trans rfl), ((H.cell (g := gE2) (by repeat (first | exact List.Mem.head _ | apply List.Mem.tail)) 1).trans rfl)⟩ (fun hHeld => ?_)
  generalize World.drew _ = wy at H hHeld ⊢
  refine take_ (i := 0) (N := some 117) (v := ?_) (a' := ?_) #[true, false, false, false, false] rfl rfl (by kernel_rfl) (fun _ _ _ h => h) (Or.inl ⟨by rfl, ?_⟩) hHeld ?_ ?_
  rotate_left
  ·rintro w' ⟨s0, s1, s2, s3, s4, s5, s6, s7, s8, s9, s10, s11, s12⟩
   go_simp
   with_reducible rfl
  rotate_left
  ·simp only [Act.put, putA, putB, putC]
   rfl
  refine take_ (i := 1) (N := some 118) (v := ?_) (a' := ?_) #[true, true, false, false, false] rfl rfl (by kernel_rfl) (fun _ _ _ h => h) (Or.inl ⟨by rfl, ?_⟩) hHeld ?_ ?_
  rotate_left
  ·rintro w' ⟨s0, s1, s2, s3, s4, s5, s6, s7, s8, s9, s10, s11, s12⟩
   go_simp
   with_reducible rfl
  rotate_left
  ·simp only [Act.put, putA, putB, putC]
   rfl
  refine one_ (i := 2) (N := none) #[true, true, true, false, false] rfl rfl (by kernel_rfl) (by decide) (fun K hK => ?_)
  refine store_o H (by rfl) rfl rfl rfl rfl (by repeat (first | exact Put.head | apply Put.tail)) (by kernel_rfl) (Nat.le_of_ble_eq_true rfl) rfl ?_
  clear H
  intro w_ H h_
  simp only [setC, Value.cells, List.toList_toArray] at H
  clear h_
  have hS := Lib.hid (show (fun w' : World => w'.cell? ⟨gF2, 0, none⟩ = some (.int .u8 F.ty) ∧ w'.cell? ⟨gF2, 1, none⟩ = some (.int .u8 F.fl) ∧ w'.cell? ⟨gF2, 2, none⟩ = some (.int .u32 F.st) ∧ w'.cell? ⟨gF2, 3, none⟩ = some (.slice Ap F.data.length cp) ∧ w'.cell? ⟨gF2, 4, none⟩ = some (.int .i64 F.pad) ∧ w'.cell? ⟨gF2, 5, none⟩ = some (.int .u32 F.code) ∧ w'.cell? ⟨gF2, 6, none⟩ = some (.int .u32 F.oth) ∧ w'.cell? ⟨gF2, 7, none⟩ = some (.int .u8 F.wgt) ∧ w'.cell? ⟨gF2, 8, none⟩ = some (.bool F.al) ∧ w'.cell? ⟨gF2, 9, none⟩ = some (.int .u32 F.win) ∧ w'.cell? ⟨gF2, 10, none⟩ = some (.slice Bp F.sets.length mp) ∧ w'.cell? ⟨gE2, 0, none⟩ = some (.int .u8 sc) ∧ w'.cell? ⟨gE2, 1, none⟩ = some (.int .u32 cd)) _ from ⟨((H.cell (g := gF2) (by repeat (first | exact List.Mem.head _ | apply List.Mem.tail)) 0).trans rfl), ((H.cell (g := gF2) (by repeat (first | exact List.Mem.head _ | apply List.Mem.tail)) 1).trans rfl), ((H.cell (g := gF2) (by repeat (first | exact List.Mem.head _ | apply List.Mem.tail)) 2).trans rfl), ((H.cell (g := gF2) (by repeat (first | exact List.Mem.head _ | apply List.Mem.tail)) 3).trans rfl), ((H.cell (g := gF2) (by repeat (first | exact List.Mem.head _ | apply List.Mem.tail)) 4).trans rfl), ((H.cell (g := gF2) (by repeat (first | exact List.Mem.head _ | apply List.Mem.tail)) 5).trans rfl), ((H.cell (g := gF2) (by repeat (first | exact List.Mem.head _ | apply List.Mem.tail)) 6).trans rfl), ((H.cell (g := gF2) (by repeat (first | exact List.Mem.head _ | apply List.Mem.tail)) 7).trans rfl), ((H.cell (g := gF2) (by repeat (first | exact List.Mem.head _ | apply List.Mem.tail)) 8).trans rfl), ((H.cell (g := gF2) (by repeat (first | exact List.Mem.head _ | apply List.Mem.tail)) 9).trans rfl), ((H.cell (g := gF2) (by repeat (first | exact List.Mem.head _ | apply List.Mem.tail)) 10).trans rfl), ((H.cell (g := gE2) (by repeat (first | exact List.Mem.head _ | apply List.Mem.tail)) 0).trans rfl), ((H.cell (g := gE2) (by repeat (first | exact List.Mem.head _ | apply List.Mem.tail)) 1).trans rfl)⟩)
  refine hK.out _ _ hS.out (fun hHeld => ?_)
  clear hK K
  clear hS
  refine one_ (i := 3) (N := none) #[true, true, true, true, false] rfl rfl (by kernel_rfl) (by decide) (fun K hK => ?_)
  refine store_o H (by rfl) rfl rfl rfl rfl (by repeat (first | exact Put.head | apply Put.tail)) (by kernel_rfl) (Nat.le_of_ble_eq_true rfl) rfl ?_
  clear H
  intro w_ H h_
  simp only [setC, Value.cells, List.toList_toArray] at H
  clear h_
  have hS := Lib.hid (show (fun w' : World => w'.cell? ⟨gF2, 0, none⟩ = some (.int .u8 F.ty) ∧ w'.cell? ⟨gF2, 1, none⟩ = some (.int .u8 F.fl) ∧ w'.cell? ⟨gF2, 2, none⟩ = some (.int .u32 F.st) ∧ w'.cell? ⟨gF2, 3, none⟩ = some (.slice Ap F.data.length cp) ∧ w'.cell? ⟨gF2, 4, none⟩ = some (.int .i64 F.pad) ∧ w'.cell? ⟨gF2, 5, none⟩ = some (.int .u32 F.code) ∧ w'.cell? ⟨gF2, 6, none⟩ = some (.int .u32 F.oth) ∧ w'.cell? ⟨gF2, 7, none⟩ = some (.int .u8 F.wgt) ∧ w'.cell? ⟨gF2, 8, none⟩ = some (.bool F.al) ∧ w'.cell? ⟨gF2, 9, none⟩ = some (.int .u32 F.win) ∧ w'.cell? ⟨gF2, 10, none⟩ = some (.slice Bp F.sets.length mp) ∧ w'.cell? ⟨gE2, 0, none⟩ = some (.int .u8 sc) ∧ w'.cell? ⟨gE2, 1, none⟩ = some (.int .u32 cd)) _ from ⟨((H.cell (g := gF2) (by repeat (first | exact List.Mem.head _ | apply List.Mem.tail)) 0).trans rfl), ((H.cell (g := gF2) (by repeat (first | exact List.Mem.head _ | apply List.Mem.tail)) 1).trans rfl), ((H.cell (g := gF2) (by repeat (first | exact List.Mem.head _ | apply List.Mem.tail)) 2).trans rfl), ((H.cell (g := gF2) (by repeat (first | exact List.Mem.head _ | apply List.Mem.tail)) 3).trans rfl), ((H.cell (g := gF2) (by repeat (first | exact List.Mem.head _ | apply List.Mem.tail)) 4).trans rfl), ((H.cell (g := gF2) (by repeat (first | exact List.Mem.head _ | apply List.Mem.tail)) 5).trans rfl), ((H.cell (g := gF2) (by repeat (first | exact List.Mem.head _ | apply List.Mem.tail)) 6).trans rfl), ((H.cell (g := gF2) (by repeat (first | exact List.Mem.head _ | apply List.Mem.tail)) 7).trans rfl), ((H.cell (g := gF2) (by repeat (first | exact List.Mem.head _ | apply List.Mem.tail)) 8).trans rfl), ((H.cell (g := gF2) (by repeat (first | exact List.Mem.head _ | apply List.Mem.tail)) 9).trans rfl), ((H.cell (g := gF2) (by repeat (first | exact List.Mem.head _ | apply List.Mem.tail)) 10).trans rfl), ((H.cell (g := gE2) (by repeat (first | exact List.Mem.head _ | apply List.Mem.tail)) 0).trans rfl), ((H.cell (g := gE2) (by repeat (first | exact List.Mem.head _ | apply List.Mem.tail)) 1).trans rfl)⟩)
  refine hK.out _ _ hS.out (fun hHeld => ?_)
  clear hK K
  clear hS
  refine pure_ (i := 4) (N := some 4) (v := ?_) (a' := ?_) #[true, true, true, true, true] rfl rfl (by kernel_rfl) (fun _ _ _ h => h) (Or.inl ⟨by rfl, ?_⟩) ?_ ?_
  rotate_left
  ·intro w'
   go_simp
   with_reducible rfl
  rotate_left
  ·simp only [Act.put, putA, putB, putC]
   rfl
  refine done_ (by kernel_rfl) ?_
  go_wp2_with fail
  refine bodyPost_ret (results_list (rs := [.cell 2 38, .cell 3 24, .tmp 4]) rfl (by simp) (.cell gF 38 ((frC F (.slice Ap F.data.length cp) (.slice Bp F.sets.length mp))) (0, 0) _ rfl (H.blk (cs := ((frC F (.slice Ap F.data.length cp) (.slice Bp F.sets.length mp))).toList) (by repeat (first | exact List.Mem.head _ | apply List.Mem.tail))) Tryd.underlying38 rfl (by kernel_rfl) (.cell gE 24 _ (0, 0) _ rfl (H.blk (by repeat (first | exact List.Mem.head _ | apply List.Mem.tail))) Tryd.underlying24 rfl (by kernel_rfl) (.tmp .nil)))) rfl ?_
  exact HP.out _ _ ⟨_, Ap, cp, Bp, mp, rfl, H.only3 (by repeat (first | exact Pull.head | apply Pull.tail)) (by repeat (first | exact Pull.head | apply Pull.tail)) (by repeat (first | exact Pull.head | apply Pull.tail))⟩
end Go.Proofs.YtjjfkmniffbgkaaDoor

/- Package split: Next and Feed, in one each. No walk. -/
namespace Go.Proofs.YtjjfkmniffbgkaaDoor
set_option linter.unusedVariables false
set_option linter.unusedSimpArgs false
open Go.RowKit Go.Proofs.YtjjfkmniffbgkaaDoorW.PrintWords Go.Proofs.YtjjfkmniffbgkaaDoorW.PrintLast Go.Proofs.YtjjfkmniffbgkaaDoorW.PrintMore Go.Proofs.YtjjfkmniffbgkaaDoor.QFrmA Go.Proofs.YtjjfkmniffbgkaaDoor.Given Go.Extern.Stop Go.Stop Go.Extern Go.Maps
theorem next_plain (w : World) (g : Nat) (v : Value) (s : Sp) (h : IsSp w g v s) (hgv : ∀ W, Kept w W (ats [spO g v s, spR v s]) → GV W) (hb : s.bad = false) (b1 : List Int) (hb1 : (s.waits = false ∧ b1 = s.b) ∨ (s.waits = true ∧ preOk s.b = true ∧ 24 ≤ s.b.length ∧ s.b.drop 24 = b1)) (hby : Byte8 s.b) (hl : s.b.length ≤ 16393) :
  Calls Tryd.prog 39 #[.pointer (some ⟨g, 0, none⟩)] w (NextP w g v s ((nextN b1).1.getD (zeroF, 0, 0)) (nextN b1).1.isSome (nextN b1).2) := by
 have hby1 : Byte8 b1 := by
  rcases hb1 with ⟨_, rfl⟩ | ⟨_, _, _, rfl⟩
  ·exact hby
  ·exact fun x hx => hby x (List.mem_of_mem_drop hx)
 by_cases h9 : b1.length < 9
 ·have e : nextN b1 = (none, ⟨b1, false, false⟩) := by
   unfold nextN nextB
   rw [if_pos h9]
  rw [e]
  exact next_none0 w g v s h hgv hb b1 hb1 hby hl h9
 ·have h9' : 9 ≤ b1.length := by omega
  obtain ⟨m, hm⟩ := Int.eq_ofNat_of_zero_le (show 0 ≤ headN b1 by have := headN_ge h9' hby1; omega)
  have hm9 := headN_ge h9' hby1
  have hmm := headN_le hby1
  have hN : nextB b1 = if headN b1 ≤ 16393 ∧ (b1.length : Int) < headN b1 then none
    else if 16393 < headN b1 then some ((hdF b1, 1, 6), [], true)
    else if (getFr (b1.take (headN b1).toNat)).2.1 = 1 then some (getFr (b1.take (headN b1).toNat), [], true)
    else some (getFr (b1.take (headN b1).toNat), b1.drop (headN b1).toNat, false) := by
   unfold nextB
   rw [if_neg h9]
  rw [hm] at hN hm9 hmm
  rw [Int.toNat_natCast] at hN
  by_cases hs : (m : Int) ≤ 16393 ∧ (b1.length : Int) < (m : Int)
  ·have e : nextN b1 = (none, ⟨b1, false, false⟩) := by
    unfold nextN
    rw [hN, if_pos hs]
   rw [e]
   exact next_none1 w g v s h hgv hb b1 hb1 hby hl h9' m hm (by omega) (by omega)
  ·rw [if_neg hs] at hN
   by_cases hg : (16393 : Int) < (m : Int)
   ·have e : nextN b1 = (some (hdF b1, 1, 6), ⟨[], false, true⟩) := by
     unfold nextN
     rw [hN, if_pos hg]
    rw [e]
    exact next_great w g v s h hgv hb b1 hb1 hby hl h9' m hm (by omega) (by omega)
   ·rw [if_neg hg] at hN
    by_cases hc : (getFr (b1.take m)).2.1 = 1
    ·have e : nextN b1 = (some (getFr (b1.take m)), ⟨[], false, true⟩) := by
      unfold nextN
      rw [hN, if_pos hc]
     rw [e]
     exact next_bad w g v s h hgv hb b1 hb1 hby hl h9' m hm (by omega) (by omega) (by omega) hc
    ·have e : nextN b1 = (some (getFr (b1.take m)), ⟨b1.drop m, false, false⟩) := by
      unfold nextN
      rw [hN, if_neg hc]
     rw [e]
     exact next_one w g v s h hgv hb b1 hb1 hby hl h9' m hm (by omega) (by omega) (by omega) hc
theorem next_calls (w : World) (g : Nat) (v : Value) (s : Sp) (h : IsSp w g v s) (hgv : ∀ W, Kept w W (ats [spO g v s, spR v s]) → GV W) (hby : Byte8 s.b) (hl : s.b.length ≤ 16393) :
  Calls Tryd.prog 39 #[.pointer (some ⟨g, 0, none⟩)] w (NextP w g v s ((nextS s).1.getD (zeroF, 0, 0)) (nextS s).1.isSome (nextS s).2) := by
 unfold nextS
 cases hb : s.bad with
 | true =>
  rw [if_pos rfl]
  cases hw : s.waits with
  | true =>
   rw [if_pos rfl]
   exact next_bad1 w g v s h hgv hb hw
  | false =>
   rw [if_neg (by decide)]
   exact next_bad0 w g v s h hgv hb hw
 | false =>
  rw [if_neg (by decide)]
  cases hw : s.waits with
  | false =>
   rw [if_neg (by decide)]
   exact next_plain w g v s h hgv hb s.b (.inl ⟨hw, rfl⟩) hby hl
  | true =>
   rw [if_pos rfl]
   cases hp : preOk s.b with
   | false =>
    rw [if_pos rfl]
    exact next_mis w g v s h hgv hb hw hby hp
   | true =>
    rw [if_neg (by decide)]
    by_cases h24 : s.b.length < 24
    ·rw [if_pos h24]
     exact next_short w g v s h hgv hb hw hby hp h24
    ·rw [if_neg h24]
     exact next_plain w g v s h hgv hb _ (.inr ⟨hw, hp, by omega, rfl⟩) hby hl
def feedK (s : Sp) (xs : List Int) : Nat := if s.bad = true then 0 else feedN s xs
def feedS (s : Sp) (xs : List Int) : Sp := if s.bad = true then s else ⟨s.b ++ xs.take (feedN s xs), s.waits, false⟩
theorem feed_calls (w : World) (g : Nat) (v : Value) (s : Sp) (h : IsSp w g v s) (hl : s.b.length ≤ 16393) (A : Option Addr) (c : Nat) (xs : List Int) (hR : ReadsInt w .u8 A xs.length xs) (hc : xs.length ≤ c) :
  Calls Tryd.prog 40 #[.pointer (some ⟨g, 0, none⟩), .slice A xs.length c] w fun e w' => ∃ v', e = .returned (.int .i64 ((feedK s xs : Nat) : Int)) ∧ Hold w w' (ats [spO g v s, spR v s]) [spO g v' (feedS s xs), spR v' (feedS s xs)] := by
 unfold feedK feedS
 cases hb : s.bad with
 | true =>
  rw [if_pos rfl, if_pos rfl]
  refine (feed_bad w g v s h hb A xs.length c).mono ?_
  rintro e w' ⟨rfl, hbl⟩
  exact ⟨v, rfl, h.hold.below hbl⟩
 | false =>
  rw [if_neg (by decide), if_neg (by decide)]
  exact feed_good w g v s h hb hl A c xs hR hc
theorem Hold.gv {w W : World} {l l' r : List Own} (H : Hold w W [] l) (hg : GV w) (hp : Want l (l' ++ r)) : ∀ W1, Kept W W1 (ats l') → GV W1 := by
 intro W1 hk
 have H2 := H.want hp
 have hlt : 1 < w.heap.size := World.block_lt_of_cell? w _ hg
 have h1 : W.heap[1]? = w.heap[1]? := H.kept.block _ hlt (by simp)
 have hlt2 : 1 < W.heap.size := Nat.lt_of_lt_of_le hlt H.kept.size
 have h2 : W1.heap[1]? = W.heap[1]? := hk.block _ hlt2 fun hm => by
  obtain ⟨o, ho, hk⟩ := List.mem_flatMap.1 hm
  rcases H2.mine o (List.mem_append_left _ ho) _ hk with h | h
  ·omega
  ·cases h
 unfold GV at hg ⊢
 rw [← hg]
 exact World.cell?_of_block (h2.trans h1)
end Go.Proofs.YtjjfkmniffbgkaaDoor

/- The chapter's frame (SETTINGS without anything), put: walked as it stands. (This text is printed by wip/gen/split5.py.) -/
namespace Go.Proofs.YtjjfkmniffbgkaaDoor
set_option linter.unusedVariables false
set_option linter.unusedSimpArgs false
open Go.RowKit Go.Proofs.YtjjfkmniffbgkaaDoorW.PrintWords Go.Proofs.YtjjfkmniffbgkaaDoorW.PrintLast Go.Proofs.YtjjfkmniffbgkaaDoorW.PrintMore Go.Proofs.YtjjfkmniffbgkaaDoor.QFrmA Go.Proofs.YtjjfkmniffbgkaaDoor.Given Go.Extern.Stop Go.Stop Go.Extern Go.Maps
attribute [local go_sem] max2_int min2_int max_two min_two
set_option maxHeartbeats 4000000 in
set_option maxRecDepth 100000 in
theorem pads0 (w : World) : Calls Tryd.prog 48 #[.int .u8 4] w fun e w' => e = .returned (.bool false) ∧ Below w.heap.size w w' := by
 refine of_post0 fun R hRR => ?_
 have HP := Lib.hid hRR
 clear hRR
 have H : Hold w w [] [] := Hold.nothing (Kept.refl _ _)
 go_enter Tryd.func48, Tryd.ntmps48
 go_wp2_with (first
  | ((with_reducible refine is_box rfl ?_); refine box_h H rfl rfl rfl rfl ?_; clear H; intro g w_ H)
  | ((with_reducible refine is_load (ty := 38) rfl ?_); refine load_h H rfl rfl rfl (by repeat (first | exact List.Mem.head _ | apply List.Mem.tail)) (by kernel_rfl) (by kernel_rfl) ?_)
  | ((with_reducible refine is_load (ty := 38) rfl ?_); refine load_g H rfl rfl (by repeat (first | exact List.Mem.head _ | apply List.Mem.tail)) (by kernel_rfl) (by kernel_rfl) (by rfl) ?_)
  | ((with_reducible refine is_load rfl ?_); refine loadf_h H rfl rfl rfl (by repeat (first | exact List.Mem.head _ | apply List.Mem.tail)) rfl (by kernel_rfl) ?_)
  | ((with_reducible refine is_load rfl ?_); refine loadf_g H rfl rfl (by repeat (first | exact List.Mem.head _ | apply List.Mem.tail)) rfl (by kernel_rfl) (by rfl) ?_))
 exact HP.out _ _ ⟨rfl, H.all⟩
set_option maxHeartbeats 4000000 in
set_option maxRecDepth 100000 in
theorem leans0 (w : World) : Calls Tryd.prog 74 #[.agg #[.int .u8 4, .int .u8 0, .int .u32 0, .slice none 0 0, .int .i64 (-1), .int .u32 0, .int .u32 0, .int .u8 0, .bool false, .int .u32 0, .slice none 0 0]] w fun e w' => e = .returned (.bool false) ∧ Below w.heap.size w w' := by
 refine of_post0 fun R hRR => ?_
 have HP := Lib.hid hRR
 clear hRR
 have H : Hold w w [] [] := Hold.nothing (Kept.refl _ _)
 go_enter Tryd.func74, Tryd.ntmps74
 go_wp2_with (first
  | ((with_reducible refine is_box rfl ?_); refine box_h H rfl rfl rfl rfl ?_; clear H; intro g w_ H)
  | ((with_reducible refine is_load (ty := 38) rfl ?_); refine load_h H rfl rfl rfl (by repeat (first | exact List.Mem.head _ | apply List.Mem.tail)) (by kernel_rfl) (by kernel_rfl) ?_)
  | ((with_reducible refine is_load (ty := 38) rfl ?_); refine load_g H rfl rfl (by repeat (first | exact List.Mem.head _ | apply List.Mem.tail)) (by kernel_rfl) (by kernel_rfl) (by rfl) ?_)
  | ((with_reducible refine is_load rfl ?_); refine loadf_h H rfl rfl rfl (by repeat (first | exact List.Mem.head _ | apply List.Mem.tail)) rfl (by kernel_rfl) ?_)
  | ((with_reducible refine is_load rfl ?_); refine loadf_g H rfl rfl (by repeat (first | exact List.Mem.head _ | apply List.Mem.tail)) rfl (by kernel_rfl) (by rfl) ?_))
 exact HP.out _ _ ⟨rfl, H.all⟩
set_option maxHeartbeats 4000000 in
set_option maxRecDepth 100000 in
theorem fields0 (w : World) : Calls Tryd.prog 49 #[.agg #[.int .u8 4, .int .u8 0, .int .u32 0, .slice none 0 0, .int .i64 (-1), .int .u32 0, .int .u32 0, .int .u8 0, .bool false, .int .u32 0, .slice none 0 0]] w fun e w' => e = .returned (.bool true) ∧ Below w.heap.size w w' := by
 refine of_post0 fun R hRR => ?_
 have HP := Lib.hid hRR
 clear hRR
 have H : Hold w w [] [] := Hold.nothing (Kept.refl _ _)
 go_enter Tryd.func49, Tryd.ntmps49
 go_wp2_with (first
  | ((with_reducible refine is_box rfl ?_); refine box_h H rfl rfl rfl rfl ?_; clear H; intro g w_ H)
  | (go_at_call 74; refine (leans0 _).mono ?_; rintro e_ w_ ⟨rfl, h_⟩; replace H := H.below h_; clear h_)
  | ((with_reducible refine is_load (ty := 38) rfl ?_); refine load_h H rfl rfl rfl (by repeat (first | exact List.Mem.head _ | apply List.Mem.tail)) (by kernel_rfl) (by kernel_rfl) ?_)
  | ((with_reducible refine is_load (ty := 38) rfl ?_); refine load_g H rfl rfl (by repeat (first | exact List.Mem.head _ | apply List.Mem.tail)) (by kernel_rfl) (by kernel_rfl) (by rfl) ?_)
  | ((with_reducible refine is_load rfl ?_); refine loadf_h H rfl rfl rfl (by repeat (first | exact List.Mem.head _ | apply List.Mem.tail)) rfl (by kernel_rfl) ?_)
  | ((with_reducible refine is_load rfl ?_); refine loadf_g H rfl rfl (by repeat (first | exact List.Mem.head _ | apply List.Mem.tail)) rfl (by kernel_rfl) (by rfl) ?_))
 exact HP.out _ _ ⟨rfl, H.all⟩
set_option maxHeartbeats 4000000 in
set_option maxRecDepth 100000 in
theorem payload0 (w : World) : Calls Tryd.prog 46 #[.agg #[.int .u8 4, .int .u8 0, .int .u32 0, .slice none 0 0, .int .i64 (-1), .int .u32 0, .int .u32 0, .int .u8 0, .bool false, .int .u32 0, .slice none 0 0]] w fun e w' => e = .returned (.slice none 0 0) ∧ Below w.heap.size w w' := by
 refine of_post0 fun R hRR => ?_
 have HP := Lib.hid hRR
 clear hRR
 have H : Hold w w [] [] := Hold.nothing (Kept.refl _ _)
 go_enter Tryd.func46, Tryd.ntmps46
 go_wp2_with (first
  | ((with_reducible refine is_box rfl ?_); refine box_h H rfl rfl rfl rfl ?_; clear H; intro g w_ H)
  | (go_at_call 74; refine (leans0 _).mono ?_; rintro e_ w_ ⟨rfl, h_⟩; replace H := H.below h_; clear h_)
  | ((with_reducible refine is_load (ty := 38) rfl ?_); refine load_h H rfl rfl rfl (by repeat (first | exact List.Mem.head _ | apply List.Mem.tail)) (by kernel_rfl) (by kernel_rfl) ?_)
  | ((with_reducible refine is_load (ty := 38) rfl ?_); refine load_g H rfl rfl (by repeat (first | exact List.Mem.head _ | apply List.Mem.tail)) (by kernel_rfl) (by kernel_rfl) (by rfl) ?_)
  | ((with_reducible refine is_load rfl ?_); refine loadf_h H rfl rfl rfl (by repeat (first | exact List.Mem.head _ | apply List.Mem.tail)) rfl (by kernel_rfl) ?_)
  | ((with_reducible refine is_load rfl ?_); refine loadf_g H rfl rfl (by repeat (first | exact List.Mem.head _ | apply List.Mem.tail)) rfl (by kernel_rfl) (by rfl) ?_))
 go_loopg [3, 28] 0 (fun k v3 v28 wr => v3 = .slice none 0 0 ∧ v28 = .int .i64 0 ∧ Hold w wr [] [cl g [.int .u8 4, .int .u8 0, .int .u32 0, .slice none 0 0, .int .i64 (-1), .int .u32 0, .int .u32 0, .int .u8 0, .bool false, .int .u32 0, .slice none 0 0] 38])
 case atStart => exact ⟨rfl, rfl, H⟩
 case round =>
  obtain ⟨rfl, rfl, H⟩ := hrel
  go_wp2_with (first
  | (go_at_call 74; refine (leans0 _).mono ?_; rintro e_ w_ ⟨rfl, h_⟩; replace H := H.below h_; clear h_)
  | ((with_reducible refine is_load (ty := 38) rfl ?_); refine load_h H rfl rfl rfl (by repeat (first | exact List.Mem.head _ | apply List.Mem.tail)) (by kernel_rfl) (by kernel_rfl) ?_)
  | ((with_reducible refine is_load (ty := 38) rfl ?_); refine load_g H rfl rfl (by repeat (first | exact List.Mem.head _ | apply List.Mem.tail)) (by kernel_rfl) (by kernel_rfl) (by rfl) ?_)
  | ((with_reducible refine is_load rfl ?_); refine loadf_h H rfl rfl rfl (by repeat (first | exact List.Mem.head _ | apply List.Mem.tail)) rfl (by kernel_rfl) ?_)
  | ((with_reducible refine is_load rfl ?_); refine loadf_g H rfl rfl (by repeat (first | exact List.Mem.head _ | apply List.Mem.tail)) rfl (by kernel_rfl) (by rfl) ?_))
  exact HP.out _ _ ⟨rfl, H.all⟩
set_option maxHeartbeats 4000000 in
set_option maxRecDepth 100000 in
theorem may0 (w : World) : Calls Tryd.prog 22 #[.agg #[.int .u8 4, .int .u8 0, .int .u32 0, .slice none 0 0, .int .i64 (-1), .int .u32 0, .int .u32 0, .int .u8 0, .bool false, .int .u32 0, .slice none 0 0]] w fun e w' => e = .returned (.bool true) ∧ Below w.heap.size w w' := by
 refine of_post0 fun R hRR => ?_
 have HP := Lib.hid hRR
 clear hRR
 have H : Hold w w [] [] := Hold.nothing (Kept.refl _ _)
 go_enter Tryd.func22, Tryd.ntmps22
 go_wp2_with (first
  | ((with_reducible refine is_box rfl ?_); refine box_h H rfl rfl rfl rfl ?_; clear H; intro g w_ H)
  | (go_at_call 48; refine (pads0 _).mono ?_; rintro e_ w_ ⟨rfl, h_⟩; replace H := H.below h_; clear h_)
  | (go_at_call 49; refine (fields0 _).mono ?_; rintro e_ w_ ⟨rfl, h_⟩; replace H := H.below h_; clear h_)
  | (go_at_call 46; refine (payload0 _).mono ?_; rintro e_ w_ ⟨rfl, h_⟩; replace H := H.below h_; clear h_)
  | ((with_reducible refine is_load (ty := 38) rfl ?_); refine load_h H rfl rfl rfl (by repeat (first | exact List.Mem.head _ | apply List.Mem.tail)) (by kernel_rfl) (by kernel_rfl) ?_)
  | ((with_reducible refine is_load (ty := 38) rfl ?_); refine load_g H rfl rfl (by repeat (first | exact List.Mem.head _ | apply List.Mem.tail)) (by kernel_rfl) (by kernel_rfl) (by rfl) ?_)
  | ((with_reducible refine is_load rfl ?_); refine loadf_h H rfl rfl rfl (by repeat (first | exact List.Mem.head _ | apply List.Mem.tail)) rfl (by kernel_rfl) ?_)
  | ((with_reducible refine is_load rfl ?_); refine loadf_g H rfl rfl (by repeat (first | exact List.Mem.head _ | apply List.Mem.tail)) rfl (by kernel_rfl) (by rfl) ?_))
 exact HP.out _ _ ⟨rfl, H.all⟩
theorem reads_one {w : World} {g : Nat} {x : Int} {e : TypeId} (h : w.heap[g]? = some (.cells #[.int .u8 x] e (0, 0))) : ReadsInt w .u8 (some ⟨g, 0, none⟩) 1 [x] := by
 refine ⟨rfl, by decide, fun _ => ⟨_, rfl, fun j hj => ?_⟩⟩
 obtain rfl : j = 0 := by omega
 exact blk_cell h 0
theorem more_zero (xs : List Int) (n : Nat) : (xs ++ List.replicate n 0) ++ [0] = xs ++ List.replicate (n + 1) 0 := by
 rw [List.append_assoc, List.replicate_succ']
set_option maxHeartbeats 4000000 in
set_option maxRecDepth 100000 in
theorem put3_0 (w : World) (v : Value) (xs : List Int) (h : w.ownsRow 0 5 1 v xs.length (nums .u8 xs)) (hx : xs.length ≤ 1000) :
  Calls Tryd.prog 47 #[v, .int .u32 0, .int .i64 3] w fun e w' => ∃ v', e = .returned v' ∧ Hold w w' (ats [nrow 5 v .u8 xs]) [nrow 5 v' .u8 (xs ++ List.replicate 3 0)] := by
 refine of_post0 fun R hRR => ?_
 have HP := Lib.hid hRR
 clear hRR
 have H : Hold w w (ats [nrow 5 v .u8 xs]) [nrow 5 v .u8 xs] := Hold.start (ok1 h) (pair1 _)
 clear h
 go_enter Tryd.func47, Tryd.ntmps47
 go_wp2_with fail
 go_loopg [0, 7] 3 (fun k v0 v7 wr => v7 = .int .i64 (8 * (k : Int) - 8) ∧ k ≤ 3 ∧ Hold w wr (ats [nrow 5 v .u8 xs]) [nrow 5 v0 .u8 (xs ++ List.replicate (3 - k) 0)])
 case atStart => exact ⟨rfl, Nat.le_refl _, by simpa using H⟩
 case round =>
  obtain ⟨rfl, hk, H⟩ := hrel
  have hcase : gk = 0 ∨ gk = 1 ∨ gk = 2 ∨ gk = 3 := by omega
  clear hk
  rcases hcase with rfl | rfl | rfl | rfl
  ·go_wp2_with fail
   exact HP.out _ _ ⟨_, rfl, H⟩
  ·go_wp2_with (first
    | ((with_reducible refine is_lit rfl ?_); refine onerow_h H rfl (e := 5) (cs := [.int .u8 0]) (by first | (go_simp; done) | (go_simp; rfl)) ?_; clear H; intro gl w_ H)
    | ((with_reducible refine is_call rfl ?_); refine append_h H rfl rfl 1 Tryd.underlying35 Tryd.infoB8 (by decide) [0] rfl rfl (fun y => (by repeat (first | exact Put.head | apply Put.tail))) (reads_one (H.blk (g := gl) (by repeat (first | exact List.Mem.head _ | apply List.Mem.tail)))) (by simp; omega) ?_; clear H; intro v1_ w_ H))
   go_roundg 0
   case measure => omega
   case rel => exact ⟨rfl, by decide, by have h_ := H.want (l' := [nrow 5 v1_ .u8 ((xs ++ List.replicate (3 - 1) 0) ++ [0])]) (Want.take (by repeat (first | exact Pull.head | apply Pull.tail)) (Want.done (by repeat (first | exact Suf.refl | apply Suf.cons)))); rw [more_zero] at h_; exact h_⟩
  ·go_wp2_with (first
    | ((with_reducible refine is_lit rfl ?_); refine onerow_h H rfl (e := 5) (cs := [.int .u8 0]) (by first | (go_simp; done) | (go_simp; rfl)) ?_; clear H; intro gl w_ H)
    | ((with_reducible refine is_call rfl ?_); refine append_h H rfl rfl 1 Tryd.underlying35 Tryd.infoB8 (by decide) [0] rfl rfl (fun y => (by repeat (first | exact Put.head | apply Put.tail))) (reads_one (H.blk (g := gl) (by repeat (first | exact List.Mem.head _ | apply List.Mem.tail)))) (by simp; omega) ?_; clear H; intro v1_ w_ H))
   go_roundg 1
   case measure => omega
   case rel => exact ⟨rfl, by decide, by have h_ := H.want (l' := [nrow 5 v1_ .u8 ((xs ++ List.replicate (3 - 2) 0) ++ [0])]) (Want.take (by repeat (first | exact Pull.head | apply Pull.tail)) (Want.done (by repeat (first | exact Suf.refl | apply Suf.cons)))); rw [more_zero] at h_; exact h_⟩
  ·go_wp2_with (first
    | ((with_reducible refine is_lit rfl ?_); refine onerow_h H rfl (e := 5) (cs := [.int .u8 0]) (by first | (go_simp; done) | (go_simp; rfl)) ?_; clear H; intro gl w_ H)
    | ((with_reducible refine is_call rfl ?_); refine append_h H rfl rfl 1 Tryd.underlying35 Tryd.infoB8 (by decide) [0] rfl rfl (fun y => (by repeat (first | exact Put.head | apply Put.tail))) (reads_one (H.blk (g := gl) (by repeat (first | exact List.Mem.head _ | apply List.Mem.tail)))) (by simp; omega) ?_; clear H; intro v1_ w_ H))
   go_roundg 2
   case measure => omega
   case rel => exact ⟨rfl, by decide, by have h_ := H.want (l' := [nrow 5 v1_ .u8 ((xs ++ List.replicate (3 - 3) 0) ++ [0])]) (Want.take (by repeat (first | exact Pull.head | apply Pull.tail)) (Want.done (by repeat (first | exact Suf.refl | apply Suf.cons)))); rw [more_zero] at h_; exact h_⟩
set_option maxHeartbeats 4000000 in
set_option maxRecDepth 100000 in
theorem put4_0 (w : World) (v : Value) (xs : List Int) (h : w.ownsRow 0 5 1 v xs.length (nums .u8 xs)) (hx : xs.length ≤ 1000) :
  Calls Tryd.prog 47 #[v, .int .u32 0, .int .i64 4] w fun e w' => ∃ v', e = .returned v' ∧ Hold w w' (ats [nrow 5 v .u8 xs]) [nrow 5 v' .u8 (xs ++ List.replicate 4 0)] := by
 refine of_post0 fun R hRR => ?_
 have HP := Lib.hid hRR
 clear hRR
 have H : Hold w w (ats [nrow 5 v .u8 xs]) [nrow 5 v .u8 xs] := Hold.start (ok1 h) (pair1 _)
 clear h
 go_enter Tryd.func47, Tryd.ntmps47
 go_wp2_with fail
 go_loopg [0, 7] 4 (fun k v0 v7 wr => v7 = .int .i64 (8 * (k : Int) - 8) ∧ k ≤ 4 ∧ Hold w wr (ats [nrow 5 v .u8 xs]) [nrow 5 v0 .u8 (xs ++ List.replicate (4 - k) 0)])
 case atStart => exact ⟨rfl, Nat.le_refl _, by simpa using H⟩
 case round =>
  obtain ⟨rfl, hk, H⟩ := hrel
  have hcase : gk = 0 ∨ gk = 1 ∨ gk = 2 ∨ gk = 3 ∨ gk = 4 := by omega
  clear hk
  rcases hcase with rfl | rfl | rfl | rfl | rfl
  ·go_wp2_with fail
   exact HP.out _ _ ⟨_, rfl, H⟩
  ·go_wp2_with (first
    | ((with_reducible refine is_lit rfl ?_); refine onerow_h H rfl (e := 5) (cs := [.int .u8 0]) (by first | (go_simp; done) | (go_simp; rfl)) ?_; clear H; intro gl w_ H)
    | ((with_reducible refine is_call rfl ?_); refine append_h H rfl rfl 1 Tryd.underlying35 Tryd.infoB8 (by decide) [0] rfl rfl (fun y => (by repeat (first | exact Put.head | apply Put.tail))) (reads_one (H.blk (g := gl) (by repeat (first | exact List.Mem.head _ | apply List.Mem.tail)))) (by simp; omega) ?_; clear H; intro v1_ w_ H))
   go_roundg 0
   case measure => omega
   case rel => exact ⟨rfl, by decide, by have h_ := H.want (l' := [nrow 5 v1_ .u8 ((xs ++ List.replicate (4 - 1) 0) ++ [0])]) (Want.take (by repeat (first | exact Pull.head | apply Pull.tail)) (Want.done (by repeat (first | exact Suf.refl | apply Suf.cons)))); rw [more_zero] at h_; exact h_⟩
  ·go_wp2_with (first
    | ((with_reducible refine is_lit rfl ?_); refine onerow_h H rfl (e := 5) (cs := [.int .u8 0]) (by first | (go_simp; done) | (go_simp; rfl)) ?_; clear H; intro gl w_ H)
    | ((with_reducible refine is_call rfl ?_); refine append_h H rfl rfl 1 Tryd.underlying35 Tryd.infoB8 (by decide) [0] rfl rfl (fun y => (by repeat (first | exact Put.head | apply Put.tail))) (reads_one (H.blk (g := gl) (by repeat (first | exact List.Mem.head _ | apply List.Mem.tail)))) (by simp; omega) ?_; clear H; intro v1_ w_ H))
   go_roundg 1
   case measure => omega
   case rel => exact ⟨rfl, by decide, by have h_ := H.want (l' := [nrow 5 v1_ .u8 ((xs ++ List.replicate (4 - 2) 0) ++ [0])]) (Want.take (by repeat (first | exact Pull.head | apply Pull.tail)) (Want.done (by repeat (first | exact Suf.refl | apply Suf.cons)))); rw [more_zero] at h_; exact h_⟩
  ·go_wp2_with (first
    | ((with_reducible refine is_lit rfl ?_); refine onerow_h H rfl (e := 5) (cs := [.int .u8 0]) (by first | (go_simp; done) | (go_simp; rfl)) ?_; clear H; intro gl w_ H)
    | ((with_reducible refine is_call rfl ?_); refine append_h H rfl rfl 1 Tryd.underlying35 Tryd.infoB8 (by decide) [0] rfl rfl (fun y => (by repeat (first | exact Put.head | apply Put.tail))) (reads_one (H.blk (g := gl) (by repeat (first | exact List.Mem.head _ | apply List.Mem.tail)))) (by simp; omega) ?_; clear H; intro v1_ w_ H))
   go_roundg 2
   case measure => omega
   case rel => exact ⟨rfl, by decide, by have h_ := H.want (l' := [nrow 5 v1_ .u8 ((xs ++ List.replicate (4 - 3) 0) ++ [0])]) (Want.take (by repeat (first | exact Pull.head | apply Pull.tail)) (Want.done (by repeat (first | exact Suf.refl | apply Suf.cons)))); rw [more_zero] at h_; exact h_⟩
  ·go_wp2_with (first
    | ((with_reducible refine is_lit rfl ?_); refine onerow_h H rfl (e := 5) (cs := [.int .u8 0]) (by first | (go_simp; done) | (go_simp; rfl)) ?_; clear H; intro gl w_ H)
    | ((with_reducible refine is_call rfl ?_); refine append_h H rfl rfl 1 Tryd.underlying35 Tryd.infoB8 (by decide) [0] rfl rfl (fun y => (by repeat (first | exact Put.head | apply Put.tail))) (reads_one (H.blk (g := gl) (by repeat (first | exact List.Mem.head _ | apply List.Mem.tail)))) (by simp; omega) ?_; clear H; intro v1_ w_ H))
   go_roundg 3
   case measure => omega
   case rel => exact ⟨rfl, by decide, by have h_ := H.want (l' := [nrow 5 v1_ .u8 ((xs ++ List.replicate (4 - 4) 0) ++ [0])]) (Want.take (by repeat (first | exact Pull.head | apply Pull.tail)) (Want.done (by repeat (first | exact Suf.refl | apply Suf.cons)))); rw [more_zero] at h_; exact h_⟩
set_option maxHeartbeats 4000000 in
set_option maxRecDepth 100000 in
theorem put0_calls (w : World) : Calls Tryd.prog 21 #[.agg #[.int .u8 4, .int .u8 0, .int .u32 0, .slice none 0 0, .int .i64 (-1), .int .u32 0, .int .u32 0, .int .u8 0, .bool false, .int .u32 0, .slice none 0 0]] w fun e w' => ∃ v', e = .returned v' ∧ Hold w w' [] [nrow 5 v' .u8 [0, 0, 0, 4, 0, 0, 0, 0, 0]] := by
 refine of_post0 fun R hRR => ?_
 have HP := Lib.hid hRR
 clear hRR
 have H : Hold w w [] [] := Hold.nothing (Kept.refl _ _)
 go_enter Tryd.func21, Tryd.ntmps21
 go_upto_region 4 with (first
  | ((with_reducible refine is_box rfl ?_); refine box_h H rfl rfl rfl rfl ?_; clear H; intro g w_ H)
  | (go_at_call 22; refine (may0 _).mono ?_; rintro e_ w_ ⟨rfl, h_⟩; replace H := H.below h_; clear h_)
  | (go_at_call 46; refine (payload0 _).mono ?_; rintro e_ w_ ⟨rfl, h_⟩; replace H := H.below h_; clear h_)
  | ((with_reducible refine is_load (ty := 38) rfl ?_); refine load_h H rfl rfl rfl (by repeat (first | exact List.Mem.head _ | apply List.Mem.tail)) (by kernel_rfl) (by kernel_rfl) ?_)
  | ((with_reducible refine is_load rfl ?_); refine loadf_h H rfl rfl rfl (by repeat (first | exact List.Mem.head _ | apply List.Mem.tail)) rfl (by kernel_rfl) ?_))
 replace H := H.below (below_drew (Below.refl _ _))
 refine start_ (n := 11) (S := fun w' => w'.cell? ⟨g, 0, none⟩ = some (.int .u8 4) ∧ w'.cell? ⟨g, 1, none⟩ = some (.int .u8 0)) (ds := []) #[false, false, false, false, false, false, false, false, false, false, false] (by kernel_rfl) rfl rfl ⟨((H.cell (g := g) (by repeat (first | exact List.Mem.head _ | apply List.Mem.tail)) 0).trans rfl), ((H.cell (g := g) (by repeat (first | exact List.Mem.head _ | apply List.Mem.tail)) 1).trans rfl)⟩ (fun hHeld => ?_)
 generalize World.drew _ = wy at H hHeld ⊢
 refine pure_ (i := 0) (N := some 10) (v := ?_) (a' := ?_) #[true, false, false, false, false, false, false, false, false, false, false] rfl rfl (by kernel_rfl) (fun _ _ _ h => h) (Or.inl ⟨by rfl, ?_⟩) ?_ ?_
 rotate_left
 ·intro w'
  go_simp
  with_reducible rfl
 rotate_left
 ·simp only [Act.put, putA, putB, putC]
  rfl
 refine pure_ (i := 1) (N := some 11) (v := ?_) (a' := ?_) #[true, true, false, false, false, false, false, false, false, false, false] rfl rfl (by kernel_rfl) (fun _ _ _ h => h) (Or.inl ⟨by rfl, ?_⟩) ?_ ?_
 rotate_left
 ·intro w'
  go_simp
  with_reducible rfl
 rotate_left
 ·simp only [Act.put, putA, putB, putC]
  rfl
 refine pure_ (i := 2) (N := some 12) (v := ?_) (a' := ?_) #[true, true, true, false, false, false, false, false, false, false, false] rfl rfl (by kernel_rfl) (fun _ _ _ h => h) (Or.inl ⟨by rfl, ?_⟩) ?_ ?_
 rotate_left
 ·intro w'
  go_simp
  with_reducible rfl
 rotate_left
 ·simp only [Act.put, putA, putB, putC]
  rfl
 refine pure_ (i := 4) (N := some 14) (v := ?_) (a' := ?_) #[true, true, true, false, true, false, false, false, false, false, false] rfl rfl (by kernel_rfl) (fun _ _ _ h => h) (Or.inl ⟨by rfl, ?_⟩) ?_ ?_
 rotate_left
 ·intro w'
  go_simp
  with_reducible rfl
 rotate_left
 ·simp only [Act.put, putA, putB, putC]
  rfl
 refine take_ (i := 5) (N := some 15) (v := ?_) (a' := ?_) #[true, true, true, false, true, true, false, false, false, false, false] rfl rfl (by kernel_rfl) (fun _ _ _ h => h) (Or.inl ⟨by rfl, ?_⟩) hHeld ?_ ?_
 rotate_left
 ·rintro w' ⟨s0, s1⟩
  go_simp
  with_reducible rfl
 rotate_left
 ·simp only [Act.put, putA, putB, putC]
  rfl
 refine pure_ (i := 6) (N := some 16) (v := ?_) (a' := ?_) #[true, true, true, false, true, true, true, false, false, false, false] rfl rfl (by kernel_rfl) (fun _ _ _ h => h) (Or.inl ⟨by rfl, ?_⟩) ?_ ?_
 rotate_left
 ·intro w'
  go_simp
  with_reducible rfl
 rotate_left
 ·simp only [Act.put, putA, putB, putC]
  rfl
 refine take_ (i := 7) (N := some 17) (v := ?_) (a' := ?_) #[true, true, true, false, true, true, true, true, false, false, false] rfl rfl (by kernel_rfl) (fun _ _ _ h => h) (Or.inl ⟨by rfl, ?_⟩) hHeld ?_ ?_
 rotate_left
 ·rintro w' ⟨s0, s1⟩
  go_simp
  with_reducible rfl
 rotate_left
 ·simp only [Act.put, putA, putB, putC]
  rfl
 refine two_ (i := 3) (j := 8) (Ni := some 13) (Nj := some 18) #[true, true, true, true, true, true, true, true, false, false, false] #[true, true, true, false, true, true, true, true, true, false, false] rfl rfl rfl rfl (by kernel_rfl) (by decide) (by decide) (fun K hK => ?_) (fun K hK => ?_)
 ·refine goes_ Tryd.func47 (by kernel_rfl) rfl #[.slice none 0 0, .int .u32 0, .int .i64 3] (by rfl) rfl rfl (by (try simp only [List.map_toArray, List.map_cons, List.map_nil]); first | done | rfl) ?_
  refine (put3_0 _ nilS [] (own_nil _ _ _ _) (by simp)).mono ?_
  rintro e_ w9 ⟨v9, rfl, h_⟩
  replace H := Hold.push H (show Hold _ _ [] [nrow 5 v9 .u8 [0, 0, 0]] from h_)
  clear h_
  refine ⟨_, rfl, ?_⟩
  have hS := Lib.hid (show (fun w' : World => w'.cell? ⟨g, 0, none⟩ = some (.int .u8 4) ∧ w'.cell? ⟨g, 1, none⟩ = some (.int .u8 0)) _ from ⟨((H.cell (g := g) (by repeat (first | exact List.Mem.head _ | apply List.Mem.tail)) 0).trans rfl), ((H.cell (g := g) (by repeat (first | exact List.Mem.head _ | apply List.Mem.tail)) 1).trans rfl)⟩)
  refine hK.out _ _ hS.out (fun hHeld => ?_)
  clear hK K
  clear hS
  refine norm_ (a' := ?_) ?_ ?_
  rotate_left
  ·show Act.put _ (some 13) _ = _
   simp only [Act.put, putA, putB, putC]
   rfl
  refine one_ (i := 8) (N := some 18) #[true, true, true, true, true, true, true, true, true, false, false] rfl rfl (by kernel_rfl) (by decide) (fun K hK => ?_)
  refine lit_o H (by rfl) (e := 5) (k := .u8) [4, 0] (by first | (go_simp; done) | (go_simp; rfl)) (Nat.le_of_ble_eq_true rfl) ?_
  clear H
  intro gl w_ H h_
  clear h_
  have hS := Lib.hid (show (fun w' : World => w'.cell? ⟨g, 0, none⟩ = some (.int .u8 4) ∧ w'.cell? ⟨g, 1, none⟩ = some (.int .u8 0)) _ from ⟨((H.cell (g := g) (by repeat (first | exact List.Mem.head _ | apply List.Mem.tail)) 0).trans rfl), ((H.cell (g := g) (by repeat (first | exact List.Mem.head _ | apply List.Mem.tail)) 1).trans rfl)⟩)
  refine hK.out _ _ hS.out (fun hHeld => ?_)
  clear hK K
  clear hS
  refine norm_ (a' := ?_) ?_ ?_
  rotate_left
  ·show Act.put _ (some 18) _ = _
   simp only [Act.put, putA, putB, putC]
   rfl
  refine one_ (i := 9) (N := some 19) #[true, true, true, true, true, true, true, true, true, true, false] rfl rfl (by kernel_rfl) (by decide) (fun K hK => ?_)
  refine append_o H rfl rfl 1 Tryd.underlying35 Tryd.infoB8 (by decide) [4, 0] rfl rfl (fun y => (by repeat (first | (exact Put.head) | apply Put.tail))) (reads_own (H.row (v := .slice (some ⟨gl, 0, none⟩) 2 2) (e := 5) (k := .u8) (xs := [4, 0]) (by repeat (first | exact List.Mem.head _ | apply List.Mem.tail)))) (by simp) ?_
  clear H
  intro v10 w_ H h_
  clear h_
  have hS := Lib.hid (show (fun w' : World => w'.cell? ⟨g, 0, none⟩ = some (.int .u8 4) ∧ w'.cell? ⟨g, 1, none⟩ = some (.int .u8 0)) _ from ⟨((H.cell (g := g) (by repeat (first | exact List.Mem.head _ | apply List.Mem.tail)) 0).trans rfl), ((H.cell (g := g) (by repeat (first | exact List.Mem.head _ | apply List.Mem.tail)) 1).trans rfl)⟩)
  refine hK.out _ _ hS.out (fun hHeld => ?_)
  clear hK K
  clear hS
  refine norm_ (a' := ?_) ?_ ?_
  rotate_left
  ·show Act.put _ (some 19) _ = _
   simp only [Act.put, putA, putB, putC]
   rfl
  refine pure_ (i := 10) (N := some 4) (v := ?_) (a' := ?_) #[true, true, true, true, true, true, true, true, true, true, true] rfl rfl (by kernel_rfl) (fun _ _ _ h => h) (Or.inl ⟨by rfl, ?_⟩) ?_ ?_
  rotate_left
  ·intro w'
   go_simp
   with_reducible rfl
  rotate_left
  ·simp only [Act.put, putA, putB, putC]
   rfl
  refine done_ (by kernel_rfl) ?_
  go_wp2_with (first
   | (go_at_call 47; refine (put4_0 _ v10 [0, 0, 0, 4, 0] (H.row (by repeat (first | exact List.Mem.head _ | apply List.Mem.tail))) (by simp)).mono ?_; rintro e_ w_ ⟨v11, rfl, h_⟩; replace H := Hold.call (H.pull1 (by repeat (first | exact Pull.head | apply Pull.tail))) (show Hold _ _ _ [nrow 5 v11 .u8 [0, 0, 0, 4, 0, 0, 0, 0, 0]] from h_); clear h_)
   | ((with_reducible refine is_load rfl ?_); refine loadf_h H rfl rfl rfl (by repeat (first | exact List.Mem.head _ | apply List.Mem.tail)) rfl (by kernel_rfl) ?_)
   | ((with_reducible refine is_call rfl ?_); refine append_h H rfl rfl 1 Tryd.underlying35 Tryd.infoB8 (by decide) [] rfl rfl (fun y => (by repeat (first | exact Put.head | apply Put.tail))) ⟨rfl, by decide, fun h => absurd h (by decide)⟩ (by simp) ?_; clear H; intro v12 w_ H))
  exact HP.out _ _ ⟨_, rfl, H.want (l' := [nrow 5 v12 .u8 [0, 0, 0, 4, 0, 0, 0, 0, 0]]) (Want.take (by repeat (first | exact Pull.head | apply Pull.tail)) (Want.done (by repeat (first | exact Suf.refl | apply Suf.cons))))⟩
 ·refine lit_o H (by rfl) (e := 5) (k := .u8) [4, 0] (by first | (go_simp; done) | (go_simp; rfl)) (Nat.le_of_ble_eq_true rfl) ?_
  clear H
  intro gl w_ H h_
  clear h_
  have hS := Lib.hid (show (fun w' : World => w'.cell? ⟨g, 0, none⟩ = some (.int .u8 4) ∧ w'.cell? ⟨g, 1, none⟩ = some (.int .u8 0)) _ from ⟨((H.cell (g := g) (by repeat (first | exact List.Mem.head _ | apply List.Mem.tail)) 0).trans rfl), ((H.cell (g := g) (by repeat (first | exact List.Mem.head _ | apply List.Mem.tail)) 1).trans rfl)⟩)
  refine hK.out _ _ hS.out (fun hHeld => ?_)
  clear hK K
  clear hS
  refine norm_ (a' := ?_) ?_ ?_
  rotate_left
  ·show Act.put _ (some 18) _ = _
   simp only [Act.put, putA, putB, putC]
   rfl
  refine one_ (i := 3) (N := some 13) #[true, true, true, true, true, true, true, true, true, false, false] rfl rfl (by kernel_rfl) (by decide) (fun K hK => ?_)
  refine goes_ Tryd.func47 (by kernel_rfl) rfl #[.slice none 0 0, .int .u32 0, .int .i64 3] (by rfl) rfl rfl (by (try simp only [List.map_toArray, List.map_cons, List.map_nil]); first | done | rfl) ?_
  refine (put3_0 _ nilS [] (own_nil _ _ _ _) (by simp)).mono ?_
  rintro e_ w9 ⟨v9, rfl, h_⟩
  replace H := Hold.push H (show Hold _ _ [] [nrow 5 v9 .u8 [0, 0, 0]] from h_)
  clear h_
  refine ⟨_, rfl, ?_⟩
  have hS := Lib.hid (show (fun w' : World => w'.cell? ⟨g, 0, none⟩ = some (.int .u8 4) ∧ w'.cell? ⟨g, 1, none⟩ = some (.int .u8 0)) _ from ⟨((H.cell (g := g) (by repeat (first | exact List.Mem.head _ | apply List.Mem.tail)) 0).trans rfl), ((H.cell (g := g) (by repeat (first | exact List.Mem.head _ | apply List.Mem.tail)) 1).trans rfl)⟩)
  refine hK.out _ _ hS.out (fun hHeld => ?_)
  clear hK K
  clear hS
  refine norm_ (a' := ?_) ?_ ?_
  rotate_left
  ·show Act.put _ (some 13) _ = _
   simp only [Act.put, putA, putB, putC]
   rfl
  refine one_ (i := 9) (N := some 19) #[true, true, true, true, true, true, true, true, true, true, false] rfl rfl (by kernel_rfl) (by decide) (fun K hK => ?_)
  refine append_o H rfl rfl 1 Tryd.underlying35 Tryd.infoB8 (by decide) [4, 0] rfl rfl (fun y => (by repeat (first | (exact Put.head) | apply Put.tail))) (reads_own (H.row (v := .slice (some ⟨gl, 0, none⟩) 2 2) (e := 5) (k := .u8) (xs := [4, 0]) (by repeat (first | exact List.Mem.head _ | apply List.Mem.tail)))) (by simp) ?_
  clear H
  intro v10 w_ H h_
  clear h_
  have hS := Lib.hid (show (fun w' : World => w'.cell? ⟨g, 0, none⟩ = some (.int .u8 4) ∧ w'.cell? ⟨g, 1, none⟩ = some (.int .u8 0)) _ from ⟨((H.cell (g := g) (by repeat (first | exact List.Mem.head _ | apply List.Mem.tail)) 0).trans rfl), ((H.cell (g := g) (by repeat (first | exact List.Mem.head _ | apply List.Mem.tail)) 1).trans rfl)⟩)
  refine hK.out _ _ hS.out (fun hHeld => ?_)
  clear hK K
  clear hS
  refine norm_ (a' := ?_) ?_ ?_
  rotate_left
  ·show Act.put _ (some 19) _ = _
   simp only [Act.put, putA, putB, putC]
   rfl
  refine pure_ (i := 10) (N := some 4) (v := ?_) (a' := ?_) #[true, true, true, true, true, true, true, true, true, true, true] rfl rfl (by kernel_rfl) (fun _ _ _ h => h) (Or.inl ⟨by rfl, ?_⟩) ?_ ?_
  rotate_left
  ·intro w'
   go_simp
   with_reducible rfl
  rotate_left
  ·simp only [Act.put, putA, putB, putC]
   rfl
  refine done_ (by kernel_rfl) ?_
  go_wp2_with (first
   | (go_at_call 47; refine (put4_0 _ v10 [0, 0, 0, 4, 0] (H.row (by repeat (first | exact List.Mem.head _ | apply List.Mem.tail))) (by simp)).mono ?_; rintro e_ w_ ⟨v11, rfl, h_⟩; replace H := Hold.call (H.pull1 (by repeat (first | exact Pull.head | apply Pull.tail))) (show Hold _ _ _ [nrow 5 v11 .u8 [0, 0, 0, 4, 0, 0, 0, 0, 0]] from h_); clear h_)
   | ((with_reducible refine is_load rfl ?_); refine loadf_h H rfl rfl rfl (by repeat (first | exact List.Mem.head _ | apply List.Mem.tail)) rfl (by kernel_rfl) ?_)
   | ((with_reducible refine is_call rfl ?_); refine append_h H rfl rfl 1 Tryd.underlying35 Tryd.infoB8 (by decide) [] rfl rfl (fun y => (by repeat (first | exact Put.head | apply Put.tail))) ⟨rfl, by decide, fun h => absurd h (by decide)⟩ (by simp) ?_; clear H; intro v12 w_ H))
  exact HP.out _ _ ⟨_, rfl, H.want (l' := [nrow 5 v12 .u8 [0, 0, 0, 4, 0, 0, 0, 0, 0]]) (Want.take (by repeat (first | exact Pull.head | apply Pull.tail)) (Want.done (by repeat (first | exact Suf.refl | apply Suf.cons))))⟩
theorem appendg_h {P : Program} {ops : Array Oper} {rest : List Oper} {o : Oper} {a : Act} {Q : Exit → Act → World → Prop} {w W : World} {t : List Nat} {l : List Own} (H : Hold w W t l) (hgd : o.guard = none) {s x : Operand} {st : TypeId} (ho : o.op = .call { callee := .builtin .append, args := #[s, x], argTypes := #[st, st] })
  {e : TypeId} {k : IntKind} (bytes : Nat) (ht : P.underlying st = some (.slice e)) (hinfo : (P.info? e).map (fun i => (i.zero, i.size, i.bytes)) = some (some (.int k 0), 1, bytes)) (hb0 : 0 < bytes)
  {b ad : Addr} {n m c : Nat} {xs ys : List Int} (hs : a.eval s = .slice (some b) n n) (hx : a.eval x = .slice (some ad) m c) (Hx : ReadsInt W k (some b) n xs) (Hy : ReadsInt W k (some ad) m ys) (hm : 0 < m) (hl : (n + m) * bytes ≤ 140737488355328)
  (h : ∀ v1 w1, Hold w w1 t (nrow e v1 k (xs ++ ys) :: l) → wpList P ops Q rest (a.put o.dst v1) w1) : wpList P ops Q (o :: rest) a W := by
 obtain ⟨i0, hi, hq⟩ := Option.map_eq_some_iff.1 hinfo
 simp only [Prod.mk.injEq] at hq
 obtain ⟨hz, hsz, hby⟩ := hq
 have hn : n + m ≤ 140737488355328 := Nat.le_trans (Nat.le_mul_of_pos_right _ hb0) hl
 have cells : ∀ {B : Addr} {p : Nat} {zs : List Int}, ReadsInt W k (some B) p zs → ∀ j u, (nums k zs)[j]? = some u → W.cell? (B.add j) = some u := fun HR j u hu => by
  have hj := (List.getElem?_eq_some_iff.1 hu).1
  rw [nums_length] at hj
  have hl := HR.1
  obtain ⟨a2, e2, hc⟩ := HR.2.2 (by omega)
  obtain rfl := Option.some.inj e2
  rw [hc j (by omega), ← hu]
  simp [nums, List.getD_eq_getElem?_getD, List.getElem?_eq_getElem hj]
 have hr := run_append_grow (P := P) (w := W) st o.type e i0 (.int k 0) ht hi hz b n n (nums k xs) (by rw [nums_length, Hx.1, hsz, Nat.mul_one]) (cells Hx) ad m c (nums k ys) (by rw [nums_length, Hy.1, hsz, Nat.mul_one]) (cells Hy) (by omega) (by omega) (growslice_fits (by omega) (by rw [hby]; exact hl))
 refine wpList_plain hgd fun K hK => ?_
 unfold Oper.wp execOp
 simp only [ho, resolve, invoke, builtin, Sem.run_bind, Sem.run_pure, Result.andThen_ok, List.map_toArray, List.map_cons, List.map_nil, hs, hx, hr]
 have hge := grownCap_ge W (n + m) n e
 refine hK _ _ (h _ _ (Hold.push (l1 := [_]) H (Hold.made (below_alloc (below_drew (Below.refl _ _)) _) ⟨by rw [nums_length, Nat.mul_one], .inr ⟨W.heap.size, _, _, by rw [List.length_append, Hx.1, Hy.1], Nat.zero_le _, heap_alloc_new W.drew _, by rw [List.length_append, Hx.1, Hy.1]; exact hge, grownCap_le_maxLen W (n + m) n e (by unfold maxLen; omega), ?_, ?_⟩⟩ fun k hk => Nat.le_of_eq (Option.some.inj (Option.mem_toList.1 hk)))))
 ·simp only [Array.size_append, List.size_toArray, size_zeroCells, nums_length, Hx.1, Hy.1]
  show n + m + _ * 1 = _ * 1
  omega
 ·simp only [Array.toList_append, List.append_assoc, Nat.mul_one, nums_append]
  rw [← List.append_assoc]
  exact List.take_left' (by simp [nums_length])
theorem reads_obj {w : World} {g : Nat} {e : TypeId} {r : Nat × Nat} {xs : List Int} (h : w.heap[g]? = some (.cells (nums .u8 xs).toArray e r)) (hl : xs.length ≤ 1000) : ReadsInt w .u8 (some ⟨g, 0, none⟩) xs.length xs := by
 refine ⟨rfl, by omega, fun _ => ⟨_, rfl, fun j hj => ?_⟩⟩
 rw [show (⟨g, 0, none⟩ : Addr).add j = ⟨g, j, none⟩ by simp [Addr.add, eq_comm], cell_of_row w g j _ e r h]
 simp [nums, List.getElem?_map, List.getElem?_eq_getElem hj, List.getD_eq_getElem?_getD]
abbrev preO (g : Nat) : Own := .obj g (.cells (nums .u8 pre24).toArray 5 (24, 25))
set_option maxHeartbeats 4000000 in
set_option maxRecDepth 100000 in
theorem preface_calls (w : World) : Calls Tryd.prog 41 #[] w fun e w' => ∃ g, e = .returned (.slice (some ⟨g, 0, none⟩) 24 24) ∧ Hold w w' [] [preO g] := by
 refine of_post0 fun R hRR => ?_
 have HP := Lib.hid hRR
 clear hRR
 have hcv := Lib.run_convert_bytes_const (P := Tryd.prog) w 35 5 (nums .u8 pre24).toArray 24 24 Tryd.underlying35 Tryd.underlying5
 have H : Hold w (w.alloc (.cells (nums .u8 pre24).toArray 5 (24, 25))) [] [preO w.heap.size] := Hold.made (below_alloc (Below.refl _ _) _) (blk_new w _) fun k hk => Nat.le_of_eq (List.mem_singleton.1 hk).symm
 rw [show (nums .u8 pre24).toArray.size = 24 from rfl] at hcv
 simp only [nums, pre24, List.map_cons, List.map_nil] at hcv
 go_enter Tryd.func41, Tryd.ntmps41
 go_wp2_with fail
 exact HP.out _ _ ⟨_, rfl, H⟩
end Go.Proofs.YtjjfkmniffbgkaaDoor

/- The chapter's example of split, walked. (This text is printed by wip/gen/split6.py.) -/
namespace Go.Proofs.YtjjfkmniffbgkaaDoor
set_option linter.unusedVariables false
set_option linter.unusedSimpArgs false
open Go.RowKit Go.Proofs.YtjjfkmniffbgkaaDoorW.PrintWords Go.Proofs.YtjjfkmniffbgkaaDoorW.PrintLast Go.Proofs.YtjjfkmniffbgkaaDoorW.PrintMore Go.Proofs.YtjjfkmniffbgkaaDoor.QFrmA Go.Proofs.YtjjfkmniffbgkaaDoor.Given Go.Extern.Stop Go.Stop Go.Extern Go.Maps
attribute [local go_sem] max2_int min2_int max_two min_two
attribute [local go_sem high] eqFault
theorem nx1 : nextS ⟨pre24 ++ [0, 0, 0], true, false⟩ = (none, ⟨[0, 0, 0], false, false⟩) := by rfl
theorem fs1 : feedK ⟨[], true, false⟩ (pre24 ++ [0, 0, 0]) = 27 ∧ feedS ⟨[], true, false⟩ (pre24 ++ [0, 0, 0]) = ⟨pre24 ++ [0, 0, 0], true, false⟩ := ⟨rfl, rfl⟩
theorem fs2 : feedK ⟨[0, 0, 0], false, false⟩ [4, 0, 0, 0, 0, 0] = 6 ∧ feedS ⟨[0, 0, 0], false, false⟩ [4, 0, 0, 0, 0, 0] = ⟨[0, 0, 0, 4, 0, 0, 0, 0, 0], false, false⟩ := ⟨rfl, rfl⟩
theorem nx2 : nextS ⟨[0, 0, 0, 4, 0, 0, 0, 0, 0], false, false⟩ = (some (⟨4, 0, 0, [], -1, 0, 0, 0, false, 0, []⟩, 0, 0), ⟨[], false, false⟩) := by rfl
theorem nx1_calls (W : World) (g : Nat) (v : Value) (h : IsSp W g v ⟨pre24 ++ [0, 0, 0], true, false⟩) (hgv : ∀ W1, Kept W W1 (ats [spO g v ⟨pre24 ++ [0, 0, 0], true, false⟩, spR v ⟨pre24 ++ [0, 0, 0], true, false⟩]) → GV W1) :
  Calls Tryd.prog 39 #[.pointer (some ⟨g, 0, none⟩)] W fun e w' => ∃ v' A c B m, e = .returned (.tuple #[.agg #[.int .u8 0, .int .u8 0, .int .u32 0, .slice A 0 c, .int .i64 0, .int .u32 0, .int .u32 0, .int .u8 0, .bool false, .int .u32 0, .slice B 0 m], .agg #[.int .u8 0, .int .u32 0], .bool false]) ∧ Hold W w' (ats [spO g v ⟨pre24 ++ [0, 0, 0], true, false⟩, spR v ⟨pre24 ++ [0, 0, 0], true, false⟩]) [frThing A c B m zeroF, spO g v' ⟨[0, 0, 0], false, false⟩, spR v' ⟨[0, 0, 0], false, false⟩] := by
 have h_ := next_calls W g v _ h hgv (byteB_iff.1 rfl) (by decide)
 rw [nx1] at h_
 exact h_
theorem nx2_calls (W : World) (g : Nat) (v : Value) (h : IsSp W g v ⟨[0, 0, 0, 4, 0, 0, 0, 0, 0], false, false⟩) (hgv : ∀ W1, Kept W W1 (ats [spO g v ⟨[0, 0, 0, 4, 0, 0, 0, 0, 0], false, false⟩, spR v ⟨[0, 0, 0, 4, 0, 0, 0, 0, 0], false, false⟩]) → GV W1) :
  Calls Tryd.prog 39 #[.pointer (some ⟨g, 0, none⟩)] W fun e w' => ∃ v' A c B m, e = .returned (.tuple #[.agg #[.int .u8 4, .int .u8 0, .int .u32 0, .slice A 0 c, .int .i64 (-1), .int .u32 0, .int .u32 0, .int .u8 0, .bool false, .int .u32 0, .slice B 0 m], .agg #[.int .u8 0, .int .u32 0], .bool true]) ∧ Hold W w' (ats [spO g v ⟨[0, 0, 0, 4, 0, 0, 0, 0, 0], false, false⟩, spR v ⟨[0, 0, 0, 4, 0, 0, 0, 0, 0], false, false⟩]) [frThing A c B m ⟨4, 0, 0, [], -1, 0, 0, 0, false, 0, []⟩, spO g v' ⟨[], false, false⟩, spR v' ⟨[], false, false⟩] := by
 have h_ := next_calls W g v _ h hgv (byteB_iff.1 rfl) (by decide)
 rw [nx2] at h_
 exact h_
set_option maxHeartbeats 4000000 in
set_option maxRecDepth 100000 in
theorem fixed8_calls (w : World) (hgv : GV w) : Calls Tryd.prog 32 #[] w fun e w' => e = .returned (.bool true) ∧ Below w.heap.size w w' := by
 refine of_post0 fun R hRR => ?_
 have HP := Lib.hid hRR
 have HGV := Lib.hid hgv
 clear hRR hgv
 have H : Hold w w [] [] := Hold.nothing (Kept.refl _ _)
 go_enter Tryd.func32, Tryd.ntmps32
 go_upto_region 3 with (first
  | (go_at_call 33; refine (new_split _ true).mono ?_; rintro e_ w_ ⟨g, rfl, h_⟩; replace H := Hold.push H h_; clear h_)
  | (go_at_call 41; refine (preface_calls _).mono ?_; rintro e_ w_ ⟨gp, rfl, h_⟩; replace H := Hold.push H h_; clear h_)
  | (go_at_call 21; refine (put0_calls _).mono ?_; rintro e_ w_ ⟨v9, rfl, h_⟩; obtain ⟨A9, c9, rfl⟩ := own_slice (H2_ h_); replace H := Hold.push H h_; clear h_)
  | ((with_reducible refine is_call rfl ?_); (have h_ := reads_own3 (H.row (e := 5) (v := .slice A9 ([0, 0, 0, 4, 0, 0, 0, 0, 0] : List Int).length c9) (k := .u8) (xs := [0, 0, 0, 4, 0, 0, 0, 0, 0]) (by repeat (first | exact List.Mem.head _ | apply List.Mem.tail))); obtain ⟨ad9, rfl, _⟩ := h_.2.2 (by decide)); refine appendg_h H rfl rfl 1 Tryd.underlying35 Tryd.infoB8 (by decide) rfl rfl (reads_obj (H.ok (preO gp) (by repeat (first | exact List.Mem.head _ | apply List.Mem.tail))) (by decide)) h_ (by decide) (by decide) ?_; clear h_ H; intro v2 w_ H))
 obtain ⟨L0, hL0⟩ : ∃ L : List Int, L = (pre24 ++ [0, 0, 0, 4, 0, 0, 0, 0, 0] : List Int) := ⟨_, rfl⟩
 have hl : L0.length = 33 := by rw [hL0]; rfl
 have ht : L0.take 27 = pre24 ++ [0, 0, 0] := by rw [hL0]; rfl
 have hd : L0.drop 27 = [4, 0, 0, 0, 0, 0] := by rw [hL0]; rfl
 rw [← hL0] at H
 clear hL0
 obtain ⟨A2, c2, e2, hR2, hc2⟩ := own_reads2 (H.row (e := 5) (v := v2) (k := .u8) (xs := L0) (by repeat (first | exact List.Mem.head _ | apply List.Mem.tail)))
 obtain ⟨i0, hi, _, hsz, _⟩ := info_parts Tryd.infoB8
 obtain ⟨k1, k3, hcc⟩ := print_take_int (P := Tryd.prog) (k := .u8) 35 5 Tryd.underlying35 hi hsz A2 c2 L0 27 (by decide) (by omega) hc2
 obtain ⟨A3, k2, k4, hcc3⟩ := print_drop_of (P := Tryd.prog) (Value.int .u8) (0 : Int) 35 5 .i64 Tryd.underlying35 hi hsz A2 c2 L0 27 (by decide) (by omega) hc2
 rw [show (27 : Int).toNat = 27 from rfl] at k1 k3 k2 k4 hcc3
 rw [ht] at k1 k3
 rw [hd] at k2 k4 hcc3
 rw [hl] at e2 k1 k2 hc2
 subst e2
 have q1 : ∀ W : World, (Instr.slice 35 (.slice A2 33 c2) none (some (.int .i64 27)) none).run Tryd.prog W = .ok (.slice A2 27 c2) W := k1
 have q2 : ∀ W : World, (Instr.slice 35 (.slice A2 33 c2) (some (.int .i64 27)) none none).run Tryd.prog W = .ok (.slice A3 6 (c2 - 27)) W := k2
 have HK := Lib.hid (And.intro k3 (And.intro k4 (And.intro (show (pre24 ++ [0, 0, 0] : List Int).length ≤ c2 from Nat.le_trans (by decide) hc2) hcc3)))
 clear k1 k2 k3 k4 hcc hcc3 hi hsz hR2 hc2 ht hd
 go_upto_region 6 with (first
  | (go_at_call 40; refine (feed_calls _ g _ ⟨[], true, false⟩ (H.sp (by repeat (first | exact List.Mem.head _ | apply List.Mem.tail)) (by repeat (first | exact List.Mem.head _ | apply List.Mem.tail))) (by decide) A2 c2 (pre24 ++ [0, 0, 0]) (HK.out.1 _ (reads_own3 (H.row (e := 5) (v := .slice A2 33 c2) (k := .u8) (xs := L0) (by repeat (first | exact List.Mem.head _ | apply List.Mem.tail))))) (HK.out.2.2.1)).mono ?_; rintro e_ w_ ⟨v1, rfl, h_⟩; rw [fs1.1]; rw [fs1.2] at h_; replace H := Hold.call (H.pull2 (by repeat (first | exact Pull.head | apply Pull.tail)) (by repeat (first | exact Pull.head | apply Pull.tail))) h_; clear h_))
 go_upto_region 7 with (first
  | (go_at_call 39; refine (nx1_calls _ g _ (H.sp (by repeat (first | exact List.Mem.head _ | apply List.Mem.tail)) (by repeat (first | exact List.Mem.head _ | apply List.Mem.tail))) (Hold.gv H HGV.out (Want.take (by repeat (first | exact Pull.head | apply Pull.tail)) (Want.take (by repeat (first | exact Pull.head | apply Pull.tail)) (Want.done (by repeat (first | exact Suf.refl | apply Suf.cons))))))).mono ?_; rintro e_ w_ ⟨v1, Ap, cp, Bp, mp, rfl, h_⟩; replace H := Hold.call (H.pull2 (by repeat (first | exact Pull.head | apply Pull.tail)) (by repeat (first | exact Pull.head | apply Pull.tail))) h_; clear h_)
  | ((with_reducible refine is_alloc (ty := 38) rfl ?_); refine alloc_h H rfl rfl (cs := (frC ⟨0, 0, 0, [], 0, 0, 0, 0, false, 0, []⟩ nilS nilS).toList) (by first | (go_simp; done) | (go_simp; rfl)) ?_; clear H; intro gF w_ H)
  | ((with_reducible refine is_alloc (ty := 24) rfl ?_); refine alloc_h H rfl rfl (cs := [.int .u8 0, .int .u32 0]) (by first | (go_simp; done) | (go_simp; rfl)) ?_; clear H; intro gE w_ H)
  | ((with_reducible refine is_store (ty := 38) rfl ?_); refine store_h H rfl rfl rfl rfl (u := .agg #[.int .u8 0, .int .u8 0, .int .u32 0, .slice Ap 0 cp, .int .i64 0, .int .u32 0, .int .u32 0, .int .u8 0, .bool false, .int .u32 0, .slice Bp 0 mp]) rfl (by repeat (first | exact Put.head | apply Put.tail)) (by kernel_rfl) (Nat.le_of_ble_eq_true rfl) rfl ?_; clear H; intro w_ H; simp only [setC, Value.cells, List.toList_toArray] at H)
  | ((with_reducible refine is_store (ty := 24) rfl ?_); refine store_h H rfl rfl rfl rfl (u := .agg #[.int .u8 0, .int .u32 0]) rfl (by repeat (first | exact Put.head | apply Put.tail)) (by kernel_rfl) (Nat.le_of_ble_eq_true rfl) rfl ?_; clear H; intro w_ H; simp only [setC, Value.cells, List.toList_toArray] at H))
 go_upto_region 8 with (first
  | (go_at_call 40; refine (feed_calls _ g _ ⟨[0, 0, 0], false, false⟩ (H.sp (by repeat (first | exact List.Mem.head _ | apply List.Mem.tail)) (by repeat (first | exact List.Mem.head _ | apply List.Mem.tail))) (by decide) A3 (c2 - 27) [4, 0, 0, 0, 0, 0] (HK.out.2.1 _ (reads_own3 (H.row (e := 5) (v := .slice A2 33 c2) (k := .u8) (xs := L0) (by repeat (first | exact List.Mem.head _ | apply List.Mem.tail))))) (HK.out.2.2.2)).mono ?_; rintro e_ w_ ⟨v1, rfl, h_⟩; rw [fs2.1]; rw [fs2.2] at h_; replace H := Hold.call (H.pull2 (by repeat (first | exact Pull.head | apply Pull.tail)) (by repeat (first | exact Pull.head | apply Pull.tail))) h_; clear h_))
 go_upto_region 9 with (first
  | (go_at_call 39; refine (nx2_calls _ g _ (H.sp (by repeat (first | exact List.Mem.head _ | apply List.Mem.tail)) (by repeat (first | exact List.Mem.head _ | apply List.Mem.tail))) (Hold.gv H HGV.out (Want.take (by repeat (first | exact Pull.head | apply Pull.tail)) (Want.take (by repeat (first | exact Pull.head | apply Pull.tail)) (Want.done (by repeat (first | exact Suf.refl | apply Suf.cons))))))).mono ?_; rintro e_ w_ ⟨v1, Ap, cp, Bp, mp, rfl, h_⟩; replace H := Hold.call (H.pull2 (by repeat (first | exact Pull.head | apply Pull.tail)) (by repeat (first | exact Pull.head | apply Pull.tail))) h_; clear h_)
  | ((with_reducible refine is_alloc (ty := 38) rfl ?_); refine alloc_h H rfl rfl (cs := (frC ⟨0, 0, 0, [], 0, 0, 0, 0, false, 0, []⟩ nilS nilS).toList) (by first | (go_simp; done) | (go_simp; rfl)) ?_; clear H; intro gF2 w_ H)
  | ((with_reducible refine is_alloc (ty := 24) rfl ?_); refine alloc_h H rfl rfl (cs := [.int .u8 0, .int .u32 0]) (by first | (go_simp; done) | (go_simp; rfl)) ?_; clear H; intro gE2 w_ H)
  | ((with_reducible refine is_store (ty := 38) rfl ?_); refine store_h H rfl rfl rfl rfl (u := .agg #[.int .u8 4, .int .u8 0, .int .u32 0, .slice Ap 0 cp, .int .i64 (-1), .int .u32 0, .int .u32 0, .int .u8 0, .bool false, .int .u32 0, .slice Bp 0 mp]) rfl (by repeat (first | exact Put.head | apply Put.tail)) (by kernel_rfl) (Nat.le_of_ble_eq_true rfl) rfl ?_; clear H; intro w_ H; simp only [setC, Value.cells, List.toList_toArray] at H)
  | ((with_reducible refine is_store (ty := 24) rfl ?_); refine store_h H rfl rfl rfl rfl (u := .agg #[.int .u8 0, .int .u32 0]) rfl (by repeat (first | exact Put.head | apply Put.tail)) (by kernel_rfl) (Nat.le_of_ble_eq_true rfl) rfl ?_; clear H; intro w_ H; simp only [setC, Value.cells, List.toList_toArray] at H))
 go_wp2_with (first
  | ((with_reducible refine is_load (ty := 24) rfl ?_); refine load_g H rfl rfl (by repeat (first | exact List.Mem.head _ | apply List.Mem.tail)) (by kernel_rfl) (by kernel_rfl) (by rfl) ?_)
  | ((with_reducible refine is_load rfl ?_); refine loadf_g H rfl rfl (by repeat (first | exact List.Mem.head _ | apply List.Mem.tail)) rfl (by kernel_rfl) (by rfl) ?_)
  | (go_at_call 38; refine (held_calls _ g _ ⟨[], false, false⟩ (H.sp (by repeat (first | exact List.Mem.head _ | apply List.Mem.tail)) (by repeat (first | exact List.Mem.head _ | apply List.Mem.tail)))).mono ?_; rintro e_ w_ ⟨rfl, h_⟩; replace H := H.below h_; clear h_))
 exact HP.out _ _ ⟨rfl, H.all⟩
end Go.Proofs.YtjjfkmniffbgkaaDoor

/- The reference of frames: Number. -/
namespace Go.Proofs.YtjjfkmniffbgkaaDoor
set_option linter.unusedVariables false
set_option linter.unusedSimpArgs false
open Go.RowKit Go.Proofs.YtjjfkmniffbgkaaDoorW.PrintWords Go.Proofs.YtjjfkmniffbgkaaDoorW.PrintLast Go.Proofs.YtjjfkmniffbgkaaDoorW.PrintMore Go.Proofs.YtjjfkmniffbgkaaDoor.QFrmA Go.Proofs.YtjjfkmniffbgkaaDoor.Given Go.Extern.Stop Go.Stop Go.Extern Go.Maps
def beL (n : Int) : Nat → List Int
 | 0 => []
 | m + 1 => (n / 2 ^ (8 * m)) % 256 :: beL n m
theorem beL_length (n : Int) : ∀ m, (beL n m).length = m
 | 0 => rfl
 | m + 1 => by simp [beL, beL_length n m]
theorem beL_byte (n : Int) : ∀ m, Byte8 (beL n m)
 | 0 => fun x hx => by cases hx
 | m + 1 => fun x hx => by
  rcases List.mem_cons.1 hx with rfl | h
  ·omega
  ·exact beL_byte n m x h
theorem strs_append (a b : List Int) : strOfNums a ++ strOfNums b = strOfNums (a ++ b) := by
 refine bytes_ext ?_
 simp [strOfNums]
theorem beL_snoc (n : Int) : ∀ m, beL n (m + 1) = beL (n / 256) m ++ [n % 256]
 | 0 => by simp [beL]
 | m + 1 => by
  rw [beL, beL_snoc n m, beL, List.cons_append]
  congr 2
  rw [show 8 * (m + 1) = 8 + 8 * m by omega, Int.pow_add]
  rw [Int.ediv_ediv]
  simp
theorem ev_number_ref_loop (size : Nat) : ∀ (d i : Nat) (n : Int) (s : ByteArray), i + d = size → size ≤ 8 → 0 ≤ n → n ≤ 18446744073709551615 → s.size ≤ 100 + i → Ev (fun k => QFrmN.louverref07_Number.l0 k n (size : Int) s (i : Int)) (strOfNums (beL n d) ++ s)
 | 0, i, n, s, hi, hs, h0, h1, hz => by
  refine Ev.step (f := fun _ => some s) (fun k => ?_) ?_
  ·simp only [QFrmN.louverref07_Number.l0]
   rw [if_neg (by omega)]
  ·have e : strOfNums (beL n 0) ++ s = s := by
    refine bytes_ext ?_
    simp [beL, strOfNums]
   rw [e]
   exact Ev.now s
 | d + 1, i, n, s, hi, hs, h0, h1, hz => by
  have em : (Int.tmod n 256) % 256 = n % 256 := by
   rw [Int.tmod_eq_emod_of_nonneg h0]
   omega
  have ed : IntKind.u64.wrap (Int.tdiv n 256) = n / 256 := by
   rw [Int.tdiv_eq_ediv_of_nonneg h0]
   simp [IntKind.wrap, IntKind.bits, IntKind.signed]
   omega
  have h1s : (strOfNums [n % 256]).size = 1 := str_size _
  have ih := ev_number_ref_loop size d (i + 1) (n / 256) (strOfNums [n % 256] ++ s) (by omega) hs (by omega) (by omega) (by rw [ByteArray.size_append, h1s]; omega)
  refine Ev.step (f := fun k => QFrmN.louverref07_Number.l0 k (n / 256) (size : Int) (strOfNums [n % 256] ++ s) ((i + 1 : Nat) : Int)) (fun k => ?_) ?_
  ·simp only [QFrmN.louverref07_Number.l0]
   rw [if_pos (by omega), em, ed]
   simp only [Option.bind_some]
   rw [if_pos (by rw [h1s]; omega), wrap_okF (by omega) (by omega)]
   rfl
  ·have e : strOfNums (beL (n / 256) d) ++ (strOfNums [n % 256] ++ s) = strOfNums (beL n (d + 1)) ++ s := by
    rw [beL_snoc, ← strs_append, ByteArray.append_assoc]
   rw [e] at ih
   exact ih
theorem rnumber_calls (w : World) (n : Int) (m : Nat) (hm : m ≤ 8) (h0 : 0 ≤ n) (h1 : n ≤ 18446744073709551615) : Calls Tryd.prog 30 #[.int .u64 n, .int .i64 (m : Int)] w fun e w' => e = .returned (.string (strOfNums (beL n m))) ∧ Below w.heap.size w w' := by
 have h := ev_number_ref_loop m m 0 n ⟨#[]⟩ (by omega) hm h0 h1 (by decide)
 have e : strOfNums (beL n m) ++ (⟨#[]⟩ : ByteArray) = strOfNums (beL n m) := by
  refine bytes_ext ?_
  simp
 rw [e] at h
 obtain ⟨k, hk⟩ := h.rounds
 exact QFrmN.louverref07_Number.calls k n m _ w hk
end Go.Proofs.YtjjfkmniffbgkaaDoor
