/- Texts of this claim, put together: Split4, Split5, Split6, Split9, SplitM, Split10, Split7, RfNum. -/
import Derived.Test.YtjjfkmniffbgkaaDoorMSplitPlays8
import Derived.Lib.SlBytesConst
import Derived.Test.YtjjfkmniffbgkaaDoorMSplitPlays7
import Derived.Test.YtjjfkmniffbgkaaDoorMSplitPlays6
import Derived.Test.YtjjfkmniffbgkaaDoorMSplitPlays0
/- Package split: Next and Feed, in one each. No walk. -/
namespace Go.Proofs.YtjjfkmniffbgkaaDoor
set_option linter.unusedVariables false
set_option linter.unusedSimpArgs false
open Go.RowKit Go.Proofs.YtjjfkmniffbgkaaDoorW.PrintWords Go.Proofs.YtjjfkmniffbgkaaDoorW.PrintLast Go.Proofs.YtjjfkmniffbgkaaDoorW.PrintMore Go.Proofs.YtjjfkmniffbgkaaDoor.QFrmA Go.Proofs.YtjjfkmniffbgkaaDoor.Given Go.Extern.Stop Go.Stop Go.Extern Go.Maps
theorem next_plain (w : World) (g : Nat) (v : Value) (s : Sp) (h : IsSp w g v s) (hgv : ∀ W, Kept w W (ats [spO g v s, spR v s]) → GV W) (hb : s.bad = false) (b1 : List Int) (hb1 : (s.waits = false ∧ b1 = s.b) ∨ (s.waits = true ∧ preOk s.b = true ∧ 24 ≤ s.b.length ∧ s.b.drop 24 = b1)) (hby : Byte8 s.b) (hl : s.b.length ≤ 16393) :
  Calls Tryd.prog 39 #[.pointer (some ⟨g, 0, none⟩)] w (NextP w g v s ((nextN b1).1.getD (zeroF, 0, 0)) (nextN b1).1.isSome (nextN b1).2) := by
 have hby1 : Byte8 b1 := by
  rcases hb1 with ⟨_, rfl⟩ | ⟨_, _, _, rfl⟩
  ·exact hby
  ·exact fun x hx => hby x (List.mem_of_mem_drop hx)
 by_cases h9 : b1.length < 9
 ·have e : nextN b1 = (none, ⟨b1, false, false⟩) := by
   unfold nextN nextB
   rw [if_pos h9]
  rw [e]
  exact next_none0 w g v s h hgv hb b1 hb1 hby hl h9
 ·have h9' : 9 ≤ b1.length := by omega
  obtain ⟨m, hm⟩ := Int.eq_ofNat_of_zero_le (show 0 ≤ headN b1 by have := headN_ge h9' hby1; omega)
  have hm9 := headN_ge h9' hby1
  have hmm := headN_le hby1
  have hN : nextB b1 = if headN b1 ≤ 16393 ∧ (b1.length : Int) < headN b1 then none
    else if 16393 < headN b1 then some ((hdF b1, 1, 6), [], true)
    else if (getFr (b1.take (headN b1).toNat)).2.1 = 1 then some (getFr (b1.take (headN b1).toNat), [], true)
    else some (getFr (b1.take (headN b1).toNat), b1.drop (headN b1).toNat, false) := by
   unfold nextB
   rw [if_neg h9]
  rw [hm] at hN hm9 hmm
  rw [Int.toNat_natCast] at hN
  by_cases hs : (m : Int) ≤ 16393 ∧ (b1.length : Int) < (m : Int)
  ·have e : nextN b1 = (none, ⟨b1, false, false⟩) := by
    unfold nextN
    rw [hN, if_pos hs]
   rw [e]
   exact next_none1 w g v s h hgv hb b1 hb1 hby hl h9' m hm (by omega) (by omega)
  ·rw [if_neg hs] at hN
   by_cases hg : (16393 : Int) < (m : Int)
   ·have e : nextN b1 = (some (hdF b1, 1, 6), ⟨[], false, true⟩) := by
     unfold nextN
     rw [hN, if_pos hg]
    rw [e]
    exact next_great w g v s h hgv hb b1 hb1 hby hl h9' m hm (by omega) (by omega)
   ·rw [if_neg hg] at hN
    by_cases hc : (getFr (b1.take m)).2.1 = 1
    ·have e : nextN b1 = (some (getFr (b1.take m)), ⟨[], false, true⟩) := by
      unfold nextN
      rw [hN, if_pos hc]
     rw [e]
     exact next_bad w g v s h hgv hb b1 hb1 hby hl h9' m hm (by omega) (by omega) (by omega) hc
    ·have e : nextN b1 = (some (getFr (b1.take m)), ⟨b1.drop m, false, false⟩) := by
      unfold nextN
      rw [hN, if_neg hc]
     rw [e]
     exact next_one w g v s h hgv hb b1 hb1 hby hl h9' m hm (by omega) (by omega) (by omega) hc
theorem next_calls (w : World) (g : Nat) (v : Value) (s : Sp) (h : IsSp w g v s) (hgv : ∀ W, Kept w W (ats [spO g v s, spR v s]) → GV W) (hby : Byte8 s.b) (hl : s.b.length ≤ 16393) :
  Calls Tryd.prog 39 #[.pointer (some ⟨g, 0, none⟩)] w (NextP w g v s ((nextS s).1.getD (zeroF, 0, 0)) (nextS s).1.isSome (nextS s).2) := by
 unfold nextS
 cases hb : s.bad with
 | true =>
  rw [if_pos rfl]
  cases hw : s.waits with
  | true =>
   rw [if_pos rfl]
   exact next_bad1 w g v s h hgv hb hw
  | false =>
   rw [if_neg (by decide)]
   exact next_bad0 w g v s h hgv hb hw
 | false =>
  rw [if_neg (by decide)]
  cases hw : s.waits with
  | false =>
   rw [if_neg (by decide)]
   exact next_plain w g v s h hgv hb s.b (.inl ⟨hw, rfl⟩) hby hl
  | true =>
   rw [if_pos rfl]
   cases hp : preOk s.b with
   | false =>
    rw [if_pos rfl]
    exact next_mis w g v s h hgv hb hw hby hp
   | true =>
    rw [if_neg (by decide)]
    by_cases h24 : s.b.length < 24
    ·rw [if_pos h24]
     exact next_short w g v s h hgv hb hw hby hp h24
    ·rw [if_neg h24]
     exact next_plain w g v s h hgv hb _ (.inr ⟨hw, hp, by omega, rfl⟩) hby hl
def feedK (s : Sp) (xs : List Int) : Nat := if s.bad = true then 0 else feedN s xs
def feedS (s : Sp) (xs : List Int) : Sp := if s.bad = true then s else ⟨s.b ++ xs.take (feedN s xs), s.waits, false⟩
theorem feed_calls (w : World) (g : Nat) (v : Value) (s : Sp) (h : IsSp w g v s) (hl : s.b.length ≤ 16393) (A : Option Addr) (c : Nat) (xs : List Int) (hR : ReadsInt w .u8 A xs.length xs) (hc : xs.length ≤ c) :
  Calls Tryd.prog 40 #[.pointer (some ⟨g, 0, none⟩), .slice A xs.length c] w fun e w' => ∃ v', e = .returned (.int .i64 ((feedK s xs : Nat) : Int)) ∧ Hold w w' (ats [spO g v s, spR v s]) [spO g v' (feedS s xs), spR v' (feedS s xs)] := by
 unfold feedK feedS
 cases hb : s.bad with
 | true =>
  rw [if_pos rfl, if_pos rfl]
  refine (feed_bad w g v s h hb A xs.length c).mono ?_
  rintro e w' ⟨rfl, hbl⟩
  exact ⟨v, rfl, h.hold.below hbl⟩
 | false =>
  rw [if_neg (by decide), if_neg (by decide)]
  exact feed_good w g v s h hb hl A c xs hR hc
theorem Hold.gv {w W : World} {l l' r : List Own} (H : Hold w W [] l) (hg : GV w) (hp : Want l (l' ++ r)) : ∀ W1, Kept W W1 (ats l') → GV W1 := by
 intro W1 hk
 have H2 := H.want hp
 have hlt : 1 < w.heap.size := World.block_lt_of_cell? w _ hg
 have h1 : W.heap[1]? = w.heap[1]? := H.kept.block _ hlt (by simp)
 have hlt2 : 1 < W.heap.size := Nat.lt_of_lt_of_le hlt H.kept.size
 have h2 : W1.heap[1]? = W.heap[1]? := hk.block _ hlt2 fun hm => by
  obtain ⟨o, ho, hk⟩ := List.mem_flatMap.1 hm
  rcases H2.mine o (List.mem_append_left _ ho) _ hk with h | h
  ·omega
  ·cases h
 unfold GV at hg ⊢
 rw [← hg]
 exact World.cell?_of_block (h2.trans h1)
end Go.Proofs.YtjjfkmniffbgkaaDoor

/- The chapter's frame (SETTINGS without anything), put: walked as it stands. (This text is printed by wip/gen/split5.py.) -/
namespace Go.Proofs.YtjjfkmniffbgkaaDoor
set_option linter.unusedVariables false
set_option linter.unusedSimpArgs false
open Go.RowKit Go.Proofs.YtjjfkmniffbgkaaDoorW.PrintWords Go.Proofs.YtjjfkmniffbgkaaDoorW.PrintLast Go.Proofs.YtjjfkmniffbgkaaDoorW.PrintMore Go.Proofs.YtjjfkmniffbgkaaDoor.QFrmA Go.Proofs.YtjjfkmniffbgkaaDoor.Given Go.Extern.Stop Go.Stop Go.Extern Go.Maps
attribute [local go_sem] max2_int min2_int max_two min_two
set_option maxHeartbeats 4000000 in
set_option maxRecDepth 100000 in
theorem pads0 (w : World) : Calls Tryd.prog 48 #[.int .u8 4] w fun e w' => e = .returned (.bool false) ∧ Below w.heap.size w w' := by
 refine of_post0 fun R hRR => ?_
 have HP := Lib.hid hRR
 clear hRR
 have H : Hold w w [] [] := Hold.nothing (Kept.refl _ _)
 go_enter Tryd.func48, Tryd.ntmps48
 go_wp2_with (first
  | ((with_reducible refine is_box rfl ?_); refine box_h H rfl rfl rfl rfl ?_; clear H; intro g w_ H)
  | ((with_reducible refine is_load (ty := 38) rfl ?_); refine load_h H rfl rfl rfl (by repeat (first | exact List.Mem.head _ | apply List.Mem.tail)) (by kernel_rfl) (by kernel_rfl) ?_)
  | ((with_reducible refine is_load (ty := 38) rfl ?_); refine load_g H rfl rfl (by repeat (first | exact List.Mem.head _ | apply List.Mem.tail)) (by kernel_rfl) (by kernel_rfl) (by rfl) ?_)
  | ((with_reducible refine is_load rfl ?_); refine loadf_h H rfl rfl rfl (by repeat (first | exact List.Mem.head _ | apply List.Mem.tail)) rfl (by kernel_rfl) ?_)
  | ((with_reducible refine is_load rfl ?_); refine loadf_g H rfl rfl (by repeat (first | exact List.Mem.head _ | apply List.Mem.tail)) rfl (by kernel_rfl) (by rfl) ?_))
 exact HP.out _ _ ⟨rfl, H.all⟩
set_option maxHeartbeats 4000000 in
set_option maxRecDepth 100000 in
theorem leans0 (w : World) : Calls Tryd.prog 74 #[.agg #[.int .u8 4, .int .u8 0, .int .u32 0, .slice none 0 0, .int .i64 (-1), .int .u32 0, .int .u32 0, .int .u8 0, .bool false, .int .u32 0, .slice none 0 0]] w fun e w' => e = .returned (.bool false) ∧ Below w.heap.size w w' := by
 refine of_post0 fun R hRR => ?_
 have HP := Lib.hid hRR
 clear hRR
 have H : Hold w w [] [] := Hold.nothing (Kept.refl _ _)
 go_enter Tryd.func74, Tryd.ntmps74
 go_wp2_with (first
  | ((with_reducible refine is_box rfl ?_); refine box_h H rfl rfl rfl rfl ?_; clear H; intro g w_ H)
  | ((with_reducible refine is_load (ty := 38) rfl ?_); refine load_h H rfl rfl rfl (by repeat (first | exact List.Mem.head _ | apply List.Mem.tail)) (by kernel_rfl) (by kernel_rfl) ?_)
  | ((with_reducible refine is_load (ty := 38) rfl ?_); refine load_g H rfl rfl (by repeat (first | exact List.Mem.head _ | apply List.Mem.tail)) (by kernel_rfl) (by kernel_rfl) (by rfl) ?_)
  | ((with_reducible refine is_load rfl ?_); refine loadf_h H rfl rfl rfl (by repeat (first | exact List.Mem.head _ | apply List.Mem.tail)) rfl (by kernel_rfl) ?_)
  | ((with_reducible refine is_load rfl ?_); refine loadf_g H rfl rfl (by repeat (first | exact List.Mem.head _ | apply List.Mem.tail)) rfl (by kernel_rfl) (by rfl) ?_))
 exact HP.out _ _ ⟨rfl, H.all⟩
set_option maxHeartbeats 4000000 in
set_option maxRecDepth 100000 in
theorem fields0 (w : World) : Calls Tryd.prog 49 #[.agg #[.int .u8 4, .int .u8 0, .int .u32 0, .slice none 0 0, .int .i64 (-1), .int .u32 0, .int .u32 0, .int .u8 0, .bool false, .int .u32 0, .slice none 0 0]] w fun e w' => e = .returned (.bool true) ∧ Below w.heap.size w w' := by
 refine of_post0 fun R hRR => ?_
 have HP := Lib.hid hRR
 clear hRR
 have H : Hold w w [] [] := Hold.nothing (Kept.refl _ _)
 go_enter Tryd.func49, Tryd.ntmps49
 go_wp2_with (first
  | ((with_reducible refine is_box rfl ?_); refine box_h H rfl rfl rfl rfl ?_; clear H; intro g w_ H)
  | (go_at_call 74; refine (leans0 _).mono ?_; rintro e_ w_ ⟨rfl, h_⟩; replace H := H.below h_; clear h_)
  | ((with_reducible refine is_load (ty := 38) rfl ?_); refine load_h H rfl rfl rfl (by repeat (first | exact List.Mem.head _ | apply List.Mem.tail)) (by kernel_rfl) (by kernel_rfl) ?_)
  | ((with_reducible refine is_load (ty := 38) rfl ?_); refine load_g H rfl rfl (by repeat (first | exact List.Mem.head _ | apply List.Mem.tail)) (by kernel_rfl) (by kernel_rfl) (by rfl) ?_)
  | ((with_reducible refine is_load rfl ?_); refine loadf_h H rfl rfl rfl (by repeat (first | exact List.Mem.head _ | apply List.Mem.tail)) rfl (by kernel_rfl) ?_)
  | ((with_reducible refine is_load rfl ?_); refine loadf_g H rfl rfl (by repeat (first | exact List.Mem.head _ | apply List.Mem.tail)) rfl (by kernel_rfl) (by rfl) ?_))
 exact HP.out _ _ ⟨rfl, H.all⟩
set_option maxHeartbeats 4000000 in
set_option maxRecDepth 100000 in
theorem payload0 (w : World) : Calls Tryd.prog 46 #[.agg #[.int .u8 4, .int .u8 0, .int .u32 0, .slice none 0 0, .int .i64 (-1), .int .u32 0, .int .u32 0, .int .u8 0, .bool false, .int .u32 0, .slice none 0 0]] w fun e w' => e = .returned (.slice none 0 0) ∧ Below w.heap.size w w' := by
 refine of_post0 fun R hRR => ?_
 have HP := Lib.hid hRR
 clear hRR
 have H : Hold w w [] [] := Hold.nothing (Kept.refl _ _)
 go_enter Tryd.func46, Tryd.ntmps46
 go_wp2_with (first
  | ((with_reducible refine is_box rfl ?_); refine box_h H rfl rfl rfl rfl ?_; clear H; intro g w_ H)
  | (go_at_call 74; refine (leans0 _).mono ?_; rintro e_ w_ ⟨rfl, h_⟩; replace H := H.below h_; clear h_)
  | ((with_reducible refine is_load (ty := 38) rfl ?_); refine load_h H rfl rfl rfl (by repeat (first | exact List.Mem.head _ | apply List.Mem.tail)) (by kernel_rfl) (by kernel_rfl) ?_)
  | ((with_reducible refine is_load (ty := 38) rfl ?_); refine load_g H rfl rfl (by repeat (first | exact List.Mem.head _ | apply List.Mem.tail)) (by kernel_rfl) (by kernel_rfl) (by rfl) ?_)
  | ((with_reducible refine is_load rfl ?_); refine loadf_h H rfl rfl rfl (by repeat (first | exact List.Mem.head _ | apply List.Mem.tail)) rfl (by kernel_rfl) ?_)
  | ((with_reducible refine is_load rfl ?_); refine loadf_g H rfl rfl (by repeat (first | exact List.Mem.head _ | apply List.Mem.tail)) rfl (by kernel_rfl) (by rfl) ?_))
 go_loopg [3, 28] 0 (fun k v3 v28 wr => v3 = .slice none 0 0 ∧ v28 = .int .i64 0 ∧ Hold w wr [] [cl g [.int .u8 4, .int .u8 0, .int .u32 0, .slice none 0 0, .int .i64 (-1), .int .u32 0, .int .u32 0, .int .u8 0, .bool false, .int .u32 0, .slice none 0 0] 38])
 case atStart => exact ⟨rfl, rfl, H⟩
 case round =>
  obtain ⟨rfl, rfl, H⟩ := hrel
  go_wp2_with (first
  | (go_at_call 74; refine (leans0 _).mono ?_; rintro e_ w_ ⟨rfl, h_⟩; replace H := H.below h_; clear h_)
  | ((with_reducible refine is_load (ty := 38) rfl ?_); refine load_h H rfl rfl rfl (by repeat (first | exact List.Mem.head _ | apply List.Mem.tail)) (by kernel_rfl) (by kernel_rfl) ?_)
  | ((with_reducible refine is_load (ty := 38) rfl ?_); refine load_g H rfl rfl (by repeat (first | exact List.Mem.head _ | apply List.Mem.tail)) (by kernel_rfl) (by kernel_rfl) (by rfl) ?_)
  | ((with_reducible refine is_load rfl ?_); refine loadf_h H rfl rfl rfl (by repeat (first | exact List.Mem.head _ | apply List.Mem.tail)) rfl (by kernel_rfl) ?_)
  | ((with_reducible refine is_load rfl ?_); refine loadf_g H rfl rfl (by repeat (first | exact List.Mem.head _ | apply List.Mem.tail)) rfl (by kernel_rfl) (by rfl) ?_))
  exact HP.out _ _ ⟨rfl, H.all⟩
set_option maxHeartbeats 4000000 in
set_option maxRecDepth 100000 in
theorem may0 (w : World) : Calls Tryd.prog 22 #[.agg #[.int .u8 4, .int .u8 0, .int .u32 0, .slice none 0 0, .int .i64 (-1), .int .u32 0, .int .u32 0, .int .u8 0, .bool false, .int .u32 0, .slice none 0 0]] w fun e w' => e = .returned (.bool true) ∧ Below w.heap.size w w' := by
 refine of_post0 fun R hRR => ?_
 have HP := Lib.hid hRR
 clear hRR
 have H : Hold w w [] [] := Hold.nothing (Kept.refl _ _)
 go_enter Tryd.func22, Tryd.ntmps22
 go_wp2_with (first
  | ((with_reducible refine is_box rfl ?_); refine box_h H rfl rfl rfl rfl ?_; clear H; intro g w_ H)
  | (go_at_call 48; refine (pads0 _).mono ?_; rintro e_ w_ ⟨rfl, h_⟩; replace H := H.below h_; clear h_)
  | (go_at_call 49; refine (fields0 _).mono ?_; rintro e_ w_ ⟨rfl, h_⟩; replace H := H.below h_; clear h_)
  | (go_at_call 46; refine (payload0 _).mono ?_; rintro e_ w_ ⟨rfl, h_⟩; replace H := H.below h_; clear h_)
  | ((with_reducible refine is_load (ty := 38) rfl ?_); refine load_h H rfl rfl rfl (by repeat (first | exact List.Mem.head _ | apply List.Mem.tail)) (by kernel_rfl) (by kernel_rfl) ?_)
  | ((with_reducible refine is_load (ty := 38) rfl ?_); refine load_g H rfl rfl (by repeat (first | exact List.Mem.head _ | apply List.Mem.tail)) (by kernel_rfl) (by kernel_rfl) (by rfl) ?_)
  | ((with_reducible refine is_load rfl ?_); refine loadf_h H rfl rfl rfl (by repeat (first | exact List.Mem.head _ | apply List.Mem.tail)) rfl (by kernel_rfl) ?_)
  | ((with_reducible refine is_load rfl ?_); refine loadf_g H rfl rfl (by repeat (first | exact List.Mem.head _ | apply List.Mem.tail)) rfl (by kernel_rfl) (by rfl) ?_))
 exact HP.out _ _ ⟨rfl, H.all⟩
theorem reads_one {w : World} {g : Nat} {x : Int} {e : TypeId} (h : w.heap[g]? = some (.cells #[.int .u8 x] e (0, 0))) : ReadsInt w .u8 (some ⟨g, 0, none⟩) 1 [x] := by
 refine ⟨rfl, by decide, fun _ => ⟨_, rfl, fun j hj => ?_⟩⟩
 obtain rfl : j = 0 := by omega
 exact blk_cell h 0
theorem more_zero (xs : List Int) (n : Nat) : (xs ++ List.replicate n 0) ++ [0] = xs ++ List.replicate (n + 1) 0 := by
 rw [List.append_assoc, List.replicate_succ']
set_option maxHeartbeats 4000000 in
set_option maxRecDepth 100000 in
theorem put3_0 (w : World) (v : Value) (xs : List Int) (h : w.ownsRow 0 5 1 v xs.length (nums .u8 xs)) (hx : xs.length ≤ 1000) :
  Calls Tryd.prog 47 #[v, .int .u32 0, .int .i64 3] w fun e w' => ∃ v', e = .returned v' ∧ Hold w w' (ats [nrow 5 v .u8 xs]) [nrow 5 v' .u8 (xs ++ List.replicate 3 0)] := by
 refine of_post0 fun R hRR => ?_
 have HP := Lib.hid hRR
 clear hRR
 have H : Hold w w (ats [nrow 5 v .u8 xs]) [nrow 5 v .u8 xs] := Hold.start (ok1 h) (pair1 _)
 clear h
 go_enter Tryd.func47, Tryd.ntmps47
 go_wp2_with fail
 go_loopg [0, 7] 3 (fun k v0 v7 wr => v7 = .int .i64 (8 * (k : Int) - 8) ∧ k ≤ 3 ∧ Hold w wr (ats [nrow 5 v .u8 xs]) [nrow 5 v0 .u8 (xs ++ List.replicate (3 - k) 0)])
 case atStart => exact ⟨rfl, Nat.le_refl _, by simpa using H⟩
 case round =>
  obtain ⟨rfl, hk, H⟩ := hrel
  have hcase : gk = 0 ∨ gk = 1 ∨ gk = 2 ∨ gk = 3 := by omega
  clear hk
  rcases hcase with rfl | rfl | rfl | rfl
  ·go_wp2_with fail
   exact HP.out _ _ ⟨_, rfl, H⟩
  ·go_wp2_with (first
    | ((with_reducible refine is_lit rfl ?_); refine onerow_h H rfl (e := 5) (cs := [.int .u8 0]) (by first | (go_simp; done) | (go_simp; rfl)) ?_; clear H; intro gl w_ H)
    | ((with_reducible refine is_call rfl ?_); refine append_h H rfl rfl 1 Tryd.underlying35 Tryd.infoB8 (by decide) [0] rfl rfl (fun y => (by repeat (first | exact Put.head | apply Put.tail))) (reads_one (H.blk (g := gl) (by repeat (first | exact List.Mem.head _ | apply List.Mem.tail)))) (by simp; omega) ?_; clear H; intro v1_ w_ H))
   go_roundg 0
   case measure => omega
   case rel => exact ⟨rfl, by decide, by have h_ := H.want (l' := [nrow 5 v1_ .u8 ((xs ++ List.replicate (3 - 1) 0) ++ [0])]) (Want.take (by repeat (first | exact Pull.head | apply Pull.tail)) (Want.done (by repeat (first | exact Suf.refl | apply Suf.cons)))); rw [more_zero] at h_; exact h_⟩
  ·go_wp2_with (first
    | ((with_reducible refine is_lit rfl ?_); refine onerow_h H rfl (e := 5) (cs := [.int .u8 0]) (by first | (go_simp; done) | (go_simp; rfl)) ?_; clear H; intro gl w_ H)
    | ((with_reducible refine is_call rfl ?_); refine append_h H rfl rfl 1 Tryd.underlying35 Tryd.infoB8 (by decide) [0] rfl rfl (fun y => (by repeat (first | exact Put.head | apply Put.tail))) (reads_one (H.blk (g := gl) (by repeat (first | exact List.Mem.head _ | apply List.Mem.tail)))) (by simp; omega) ?_; clear H; intro v1_ w_ H))
   go_roundg 1
   case measure => omega
   case rel => exact ⟨rfl, by decide, by have h_ := H.want (l' := [nrow 5 v1_ .u8 ((xs ++ List.replicate (3 - 2) 0) ++ [0])]) (Want.take (by repeat (first | exact Pull.head | apply Pull.tail)) (Want.done (by repeat (first | exact Suf.refl | apply Suf.cons)))); rw [more_zero] at h_; exact h_⟩
  ·go_wp2_with (first
    | ((with_reducible refine is_lit rfl ?_); refine onerow_h H rfl (e := 5) (cs := [.int .u8 0]) (by first | (go_simp; done) | (go_simp; rfl)) ?_; clear H; intro gl w_ H)
    | ((with_reducible refine is_call rfl ?_); refine append_h H rfl rfl 1 Tryd.underlying35 Tryd.infoB8 (by decide) [0] rfl rfl (fun y => (by repeat (first | exact Put.head | apply Put.tail))) (reads_one (H.blk (g := gl) (by repeat (first | exact List.Mem.head _ | apply List.Mem.tail)))) (by simp; omega) ?_; clear H; intro v1_ w_ H))
   go_roundg 2
   case measure => omega
   case rel => exact ⟨rfl, by decide, by have h_ := H.want (l' := [nrow 5 v1_ .u8 ((xs ++ List.replicate (3 - 3) 0) ++ [0])]) (Want.take (by repeat (first | exact Pull.head | apply Pull.tail)) (Want.done (by repeat (first | exact Suf.refl | apply Suf.cons)))); rw [more_zero] at h_; exact h_⟩
set_option maxHeartbeats 4000000 in
set_option maxRecDepth 100000 in
theorem put4_0 (w : World) (v : Value) (xs : List Int) (h : w.ownsRow 0 5 1 v xs.length (nums .u8 xs)) (hx : xs.length ≤ 1000) :
  Calls Tryd.prog 47 #[v, .int .u32 0, .int .i64 4] w fun e w' => ∃ v', e = .returned v' ∧ Hold w w' (ats [nrow 5 v .u8 xs]) [nrow 5 v' .u8 (xs ++ List.replicate 4 0)] := by
 refine of_post0 fun R hRR => ?_
 have HP := Lib.hid hRR
 clear hRR
 have H : Hold w w (ats [nrow 5 v .u8 xs]) [nrow 5 v .u8 xs] := Hold.start (ok1 h) (pair1 _)
 clear h
 go_enter Tryd.func47, Tryd.ntmps47
 go_wp2_with fail
 go_loopg [0, 7] 4 (fun k v0 v7 wr => v7 = .int .i64 (8 * (k : Int) - 8) ∧ k ≤ 4 ∧ Hold w wr (ats [nrow 5 v .u8 xs]) [nrow 5 v0 .u8 (xs ++ List.replicate (4 - k) 0)])
 case atStart => exact ⟨rfl, Nat.le_refl _, by simpa using H⟩
 case round =>
  obtain ⟨rfl, hk, H⟩ := hrel
  have hcase : gk = 0 ∨ gk = 1 ∨ gk = 2 ∨ gk = 3 ∨ gk = 4 := by omega
  clear hk
  rcases hcase with rfl | rfl | rfl | rfl | rfl
  ·go_wp2_with fail
   exact HP.out _ _ ⟨_, rfl, H⟩
  ·go_wp2_with (first
    | ((with_reducible refine is_lit rfl ?_); refine onerow_h H rfl (e := 5) (cs := [.int .u8 0]) (by first | (go_simp; done) | (go_simp; rfl)) ?_; clear H; intro gl w_ H)
    | ((with_reducible refine is_call rfl ?_); refine append_h H rfl rfl 1 Tryd.underlying35 Tryd.infoB8 (by decide) [0] rfl rfl (fun y => (by repeat (first | exact Put.head | apply Put.tail))) (reads_one (H.blk (g := gl) (by repeat (first | exact List.Mem.head _ | apply List.Mem.tail)))) (by simp; omega) ?_; clear H; intro v1_ w_ H))
   go_roundg 0
   case measure => omega
   case rel => exact ⟨rfl, by decide, by have h_ := H.want (l' := [nrow 5 v1_ .u8 ((xs ++ List.replicate (4 - 1) 0) ++ [0])]) (Want.take (by repeat (first | exact Pull.head | apply Pull.tail)) (Want.done (by repeat (first | exact Suf.refl | apply Suf.cons)))); rw [more_zero] at h_; exact h_⟩
  ·go_wp2_with (first
    | ((with_reducible refine is_lit rfl ?_); refine onerow_h H rfl (e := 5) (cs := [.int .u8 0]) (by first | (go_simp; done) | (go_simp; rfl)) ?_; clear H; intro gl w_ H)
    | ((with_reducible refine is_call rfl ?_); refine append_h H rfl rfl 1 Tryd.underlying35 Tryd.infoB8 (by decide) [0] rfl rfl (fun y => (by repeat (first | exact Put.head | apply Put.tail))) (reads_one (H.blk (g := gl) (by repeat (first | exact List.Mem.head _ | apply List.Mem.tail)))) (by simp; omega) ?_; clear H; intro v1_ w_ H))
   go_roundg 1
   case measure => omega
   case rel => exact ⟨rfl, by decide, by have h_ := H.want (l' := [nrow 5 v1_ .u8 ((xs ++ List.replicate (4 - 2) 0) ++ [0])]) (Want.take (by repeat (first | exact Pull.head | apply Pull.tail)) (Want.done (by repeat (first | exact Suf.refl | apply Suf.cons)))); rw [more_zero] at h_; exact h_⟩
  ·go_wp2_with (first
    | ((with_reducible refine is_lit rfl ?_); refine onerow_h H rfl (e := 5) (cs := [.int .u8 0]) (by first | (go_simp; done) | (go_simp; rfl)) ?_; clear H; intro gl w_ H)
    | ((with_reducible refine is_call rfl ?_); refine append_h H rfl rfl 1 Tryd.underlying35 Tryd.infoB8 (by decide) [0] rfl rfl (fun y => (by repeat (first | exact Put.head | apply Put.tail))) (reads_one (H.blk (g := gl) (by repeat (first | exact List.Mem.head _ | apply List.Mem.tail)))) (by simp; omega) ?_; clear H; intro v1_ w_ H))
   go_roundg 2
   case measure => omega
   case rel => exact ⟨rfl, by decide, by have h_ := H.want (l' := [nrow 5 v1_ .u8 ((xs ++ List.replicate (4 - 3) 0) ++ [0])]) (Want.take (by repeat (first | exact Pull.head | apply Pull.tail)) (Want.done (by repeat (first | exact Suf.refl | apply Suf.cons)))); rw [more_zero] at h_; exact h_⟩
  ·go_wp2_with (first
    | ((with_reducible refine is_lit rfl ?_); refine onerow_h H rfl (e := 5) (cs := [.int .u8 0]) (by first | (go_simp; done) | (go_simp; rfl)) ?_; clear H; intro gl w_ H)
    | ((with_reducible refine is_call rfl ?_); refine append_h H rfl rfl 1 Tryd.underlying35 Tryd.infoB8 (by decide) [0] rfl rfl (fun y => (by repeat (first | exact Put.head | apply Put.tail))) (reads_one (H.blk (g := gl) (by repeat (first | exact List.Mem.head _ | apply List.Mem.tail)))) (by simp; omega) ?_; clear H; intro v1_ w_ H))
   go_roundg 3
   case measure => omega
   case rel => exact ⟨rfl, by decide, by have h_ := H.want (l' := [nrow 5 v1_ .u8 ((xs ++ List.replicate (4 - 4) 0) ++ [0])]) (Want.take (by repeat (first | exact Pull.head | apply Pull.tail)) (Want.done (by repeat (first | exact Suf.refl | apply Suf.cons)))); rw [more_zero] at h_; exact h_⟩
set_option maxHeartbeats 4000000 in
set_option maxRecDepth 100000 in
theorem put0_calls (w : World) : Calls Tryd.prog 21 #[.agg #[.int .u8 4, .int .u8 0, .int .u32 0, .slice none 0 0, .int .i64 (-1), .int .u32 0, .int .u32 0, .int .u8 0, .bool false, .int .u32 0, .slice none 0 0]] w fun e w' => ∃ v', e = .returned v' ∧ Hold w w' [] [nrow 5 v' .u8 [0, 0, 0, 4, 0, 0, 0, 0, 0]] := by
 refine of_post0 fun R hRR => ?_
 have HP := Lib.hid hRR
 clear hRR
 have H : Hold w w [] [] := Hold.nothing (Kept.refl _ _)
 go_enter Tryd.func21, Tryd.ntmps21
 go_upto_region 4 with (first
  | ((with_reducible refine is_box rfl ?_); refine box_h H rfl rfl rfl rfl ?_; clear H; intro g w_ H)
  | (go_at_call 22; refine (may0 _).mono ?_; rintro e_ w_ ⟨rfl, h_⟩; replace H := H.below h_; clear h_)
  | (go_at_call 46; refine (payload0 _).mono ?_; rintro e_ w_ ⟨rfl, h_⟩; replace H := H.below h_; clear h_)
  | ((with_reducible refine is_load (ty := 38) rfl ?_); refine load_h H rfl rfl rfl (by repeat (first | exact List.Mem.head _ | apply List.Mem.tail)) (by kernel_rfl) (by kernel_rfl) ?_)
  | ((with_reducible refine is_load rfl ?_); refine loadf_h H rfl rfl rfl (by repeat (first | exact List.Mem.head _ | apply List.Mem.tail)) rfl (by kernel_rfl) ?_))
 replace H := H.below (below_drew (Below.refl _ _))
 refine start_ (n := 11) (S := fun w' => w'.cell? ⟨g, 0, none⟩ = some (.int .u8 4) ∧ w'.cell? ⟨g, 1, none⟩ = some (.int .u8 0)) (ds := []) #[false, false, false, false, false, false, false, false, false, false, false] (by kernel_rfl) rfl rfl ⟨((H.cell (g := g) (by repeat (first | exact List.Mem.head _ | apply List.Mem.tail)) 0).trans rfl), ((H.cell (g := g) (by repeat (first | exact List.Mem.head _ | apply List.Mem.tail)) 1).trans rfl)⟩ (fun hHeld => ?_)
 generalize World.drew _ = wy at H hHeld ⊢
 refine pure_ (i := 0) (N := some 10) (v := ?_) (a' := ?_) #[true, false, false, false, false, false, false, false, false, false, false] rfl rfl (by kernel_rfl) (fun _ _ _ h => h) (Or.inl ⟨by rfl, ?_⟩) ?_ ?_
 rotate_left
 ·intro w'
  go_simp
  with_reducible rfl
 rotate_left
 ·simp only [Act.put, putA, putB, putC]
  rfl
 refine pure_ (i := 1) (N := some 11) (v := ?_) (a' := ?_) #[true, true, false, false, false, false, false, false, false, false, false] rfl rfl (by kernel_rfl) (fun _ _ _ h => h) (Or.inl ⟨by rfl, ?_⟩) ?_ ?_
 rotate_left
 ·intro w'
  go_simp
  with_reducible rfl
 rotate_left
 ·simp only [Act.put, putA, putB, putC]
  rfl
 refine pure_ (i := 2) (N := some 12) (v := ?_) (a' := ?_) #[true, true, true, false, false, false, false, false, false, false, false] rfl rfl (by kernel_rfl) (fun _ _ _ h => h) (Or.inl ⟨by rfl, ?_⟩) ?_ ?_
 rotate_left
 ·intro w'
  go_simp
  with_reducible rfl
 rotate_left
 ·simp only [Act.put, putA, putB, putC]
  rfl
 refine pure_ (i := 4) (N := some 14) (v := ?_) (a' := ?_) #[true, true, true, false, true, false, false, false, false, false, false] rfl rfl (by kernel_rfl) (fun _ _ _ h => h) (Or.inl ⟨by rfl, ?_⟩) ?_ ?_
 rotate_left
 ·intro w'
  go_simp
  with_reducible rfl
 rotate_left
 ·simp only [Act.put, putA, putB, putC]
  rfl
 refine take_ (i := 5) (N := some 15) (v := ?_) (a' := ?_) #[true, true, true, false, true, true, false, false, false, false, false] rfl rfl (by kernel_rfl) (fun _ _ _ h => h) (Or.inl ⟨by rfl, ?_⟩) hHeld ?_ ?_
 rotate_left
 ·rintro w' ⟨s0, s1⟩
  go_simp
  with_reducible rfl
 rotate_left
 ·simp only [Act.put, putA, putB, putC]
  rfl
 refine pure_ (i := 6) (N := some 16) (v := ?_) (a' := ?_) #[true, true, true, false, true, true, true, false, false, false, false] rfl rfl (by kernel_rfl) (fun _ _ _ h => h) (Or.inl ⟨by rfl, ?_⟩) ?_ ?_
 rotate_left
 ·intro w'
  go_simp
  with_reducible rfl
 rotate_left
 ·simp only [Act.put, putA, putB, putC]
  rfl
 refine take_ (i := 7) (N := some 17) (v := ?_) (a' := ?_) #[true, true, true, false, true, true, true, true, false, false, false] rfl rfl (by kernel_rfl) (fun _ _ _ h => h) (Or.inl ⟨by rfl, ?_⟩) hHeld ?_ ?_
 rotate_left
 ·rintro w' ⟨s0, s1⟩
  go_simp
  with_reducible rfl
 rotate_left
 ·simp only [Act.put, putA, putB, putC]
  rfl
 refine two_ (i := 3) (j := 8) (Ni := some 13) (Nj := some 18) #[true, true, true, true, true, true, true, true, false, false, false] #[true, true, true, false, true, true, true, true, true, false, false] rfl rfl rfl rfl (by kernel_rfl) (by decide) (by decide) (fun K hK => ?_) (fun K hK => ?_)
 ·refine goes_ Tryd.func47 (by kernel_rfl) rfl #[.slice none 0 0, .int .u32 0, .int .i64 3] (by rfl) rfl rfl (by (try simp only [List.map_toArray, List.map_cons, List.map_nil]); first | done | rfl) ?_
  refine (put3_0 _ nilS [] (own_nil _ _ _ _) (by simp)).mono ?_
  rintro e_ w9 ⟨v9, rfl, h_⟩
  replace H := Hold.push H (show Hold _ _ [] [nrow 5 v9 .u8 [0, 0, 0]] from h_)
  clear h_
  refine ⟨_, rfl, ?_⟩
  have hS := Lib.hid (show (fun w' : World => w'.cell? ⟨g, 0, none⟩ = some (.int .u8 4) ∧ w'.cell? ⟨g, 1, none⟩ = some (.int .u8 0)) _ from ⟨((H.cell (g := g) (by repeat (first | exact List.Mem.head _ | apply List.Mem.tail)) 0).trans rfl), ((H.cell (g := g) (by repeat (first | exact List.Mem.head _ | apply List.Mem.tail)) 1).trans rfl)⟩)
  refine hK.out _ _ hS.out (fun hHeld => ?_)
  clear hK K
  clear hS
  refine norm_ (a' := ?_) ?_ ?_
  rotate_left
  ·show Act.put _ (some 13) _ = _
   simp only [Act.put, putA, putB, putC]
   rfl
  refine one_ (i := 8) (N := some 18) #[true, true, true, true, true, true, true, true, true, false, false] rfl rfl (by kernel_rfl) (by decide) (fun K hK => ?_)
  refine lit_o H (by rfl) (e := 5) (k := .u8) [4, 0] (by first | (go_simp; done) | (go_simp; rfl)) (Nat.le_of_ble_eq_true rfl) ?_
  clear H
  intro gl w_ H h_
  clear h_
  have hS := Lib.hid (show (fun w' : World => w'.cell? ⟨g, 0, none⟩ = some (.int .u8 4) ∧ w'.cell? ⟨g, 1, none⟩ = some (.int .u8 0)) _ from ⟨((H.cell (g := g) (by repeat (first | exact List.Mem.head _ | apply List.Mem.tail)) 0).trans rfl), ((H.cell (g := g) (by repeat (first | exact List.Mem.head _ | apply List.Mem.tail)) 1).trans rfl)⟩)
  refine hK.out _ _ hS.out (fun hHeld => ?_)
  clear hK K
  clear hS
  refine norm_ (a' := ?_) ?_ ?_
  rotate_left
  ·show Act.put _ (some 18) _ = _
   simp only [Act.put, putA, putB, putC]
   rfl
  refine one_ (i := 9) (N := some 19) #[true, true, true, true, true, true, true, true, true, true, false] rfl rfl (by kernel_rfl) (by decide) (fun K hK => ?_)
  refine append_o H rfl rfl 1 Tryd.underlying35 Tryd.infoB8 (by decide) [4, 0] rfl rfl (fun y => (by repeat (first | (exact Put.head) | apply Put.tail))) (reads_own (H.row (v := .slice (some ⟨gl, 0, none⟩) 2 2) (e := 5) (k := .u8) (xs := [4, 0]) (by repeat (first | exact List.Mem.head _ | apply List.Mem.tail)))) (by simp) ?_
  clear H
  intro v10 w_ H h_
  clear h_
  have hS := Lib.hid (show (fun w' : World => w'.cell? ⟨g, 0, none⟩ = some (.int .u8 4) ∧ w'.cell? ⟨g, 1, none⟩ = some (.int .u8 0)) _ from ⟨((H.cell (g := g) (by repeat (first | exact List.Mem.head _ | apply List.Mem.tail)) 0).trans rfl), ((H.cell (g := g) (by repeat (first | exact List.Mem.head _ | apply List.Mem.tail)) 1).trans rfl)⟩)
  refine hK.out _ _ hS.out (fun hHeld => ?_)
  clear hK K
  clear hS
  refine norm_ (a' := ?_) ?_ ?_
  rotate_left
  ·show Act.put _ (some 19) _ = _
   simp only [Act.put, putA, putB, putC]
   rfl
  refine pure_ (i := 10) (N := some 4) (v := ?_) (a' := ?_) #[true, true, true, true, true, true, true, true, true, true, true] rfl rfl (by kernel_rfl) (fun _ _ _ h => h) (Or.inl ⟨by rfl, ?_⟩) ?_ ?_
  rotate_left
  ·intro w'
   go_simp
   with_reducible rfl
  rotate_left
  ·simp only [Act.put, putA, putB, putC]
   rfl
  refine done_ (by kernel_rfl) ?_
  go_wp2_with (first
   | (go_at_call 47; refine (put4_0 _ v10 [0, 0, 0, 4, 0] (H.row (by repeat (first | exact List.Mem.head _ | apply List.Mem.tail))) (by simp)).mono ?_; rintro e_ w_ ⟨v11, rfl, h_⟩; replace H := Hold.call (H.pull1 (by repeat (first | exact Pull.head | apply Pull.tail))) (show Hold _ _ _ [nrow 5 v11 .u8 [0, 0, 0, 4, 0, 0, 0, 0, 0]] from h_); clear h_)
   | ((with_reducible refine is_load rfl ?_); refine loadf_h H rfl rfl rfl (by repeat (first | exact List.Mem.head _ | apply List.Mem.tail)) rfl (by kernel_rfl) ?_)
   | ((with_reducible refine is_call rfl ?_); refine append_h H rfl rfl 1 Tryd.underlying35 Tryd.infoB8 (by decide) [] rfl rfl (fun y => (by repeat (first | exact Put.head | apply Put.tail))) ⟨rfl, by decide, fun h => absurd h (by decide)⟩ (by simp) ?_; clear H; intro v12 w_ H))
  exact HP.out _ _ ⟨_, rfl, H.want (l' := [nrow 5 v12 .u8 [0, 0, 0, 4, 0, 0, 0, 0, 0]]) (Want.take (by repeat (first | exact Pull.head | apply Pull.tail)) (Want.done (by repeat (first | exact Suf.refl | apply Suf.cons))))⟩
 ·refine lit_o H (by rfl) (e := 5) (k := .u8) [4, 0] (by first | (go_simp; done) | (go_simp; rfl)) (Nat.le_of_ble_eq_true rfl) ?_
  clear H
  intro gl w_ H h_
  clear h_
  have hS := Lib.hid (show (fun w' : World => w'.cell? ⟨g, 0, none⟩ = some (.int .u8 4) ∧ w'.cell? ⟨g, 1, none⟩ = some (.int .u8 0)) _ from ⟨((H.cell (g := g) (by repeat (first | exact List.Mem.head _ | apply List.Mem.tail)) 0).trans rfl), ((H.cell (g := g) (by repeat (first | exact List.Mem.head _ | apply List.Mem.tail)) 1).trans rfl)⟩)
  refine hK.out _ _ hS.out (fun hHeld => ?_)
  clear hK K
  clear hS
  refine norm_ (a' := ?_) ?_ ?_
  rotate_left
  ·show Act.put _ (some 18) _ = _
   simp only [Act.put, putA, putB, putC]
   rfl
  refine one_ (i := 3) (N := some 13) #[true, true, true, true, true, true, true, true, true, false, false] rfl rfl (by kernel_rfl) (by decide) (fun K hK => ?_)
  refine goes_ Tryd.func47 (by kernel_rfl) rfl #[.slice none 0 0, .int .u32 0, .int .i64 3] (by rfl) rfl rfl (by (try simp only [List.map_toArray, List.map_cons, List.map_nil]); first | done | rfl) ?_
  refine (put3_0 _ nilS [] (own_nil _ _ _ _) (by simp)).mono ?_
  rintro e_ w9 ⟨v9, rfl, h_⟩
  replace H := Hold.push H (show Hold _ _ [] [nrow 5 v9 .u8 [0, 0, 0]] from h_)
  clear h_
  refine ⟨_, rfl, ?_⟩
  have hS := Lib.hid (show (fun w' : World => w'.cell? ⟨g, 0, none⟩ = some (.int .u8 4) ∧ w'.cell? ⟨g, 1, none⟩ = some (.int .u8 0)) _ from ⟨((H.cell (g := g) (by repeat (first | exact List.Mem.head _ | apply List.Mem.tail)) 0).trans rfl), ((H.cell (g := g) (by repeat (first | exact List.Mem.head _ | apply List.Mem.tail)) 1).trans rfl)⟩)
  refine hK.out _ _ hS.out (fun hHeld => ?_)
  clear hK K
  clear hS
  refine norm_ (a' := ?_) ?_ ?_
  rotate_left
  ·show Act.put _ (some 13) _ = _
   simp only [Act.put, putA, putB, putC]
   rfl
  refine one_ (i := 9) (N := some 19) #[true, true, true, true, true, true, true, true, true, true, false] rfl rfl (by kernel_rfl) (by decide) (fun K hK => ?_)
  refine append_o H rfl rfl 1 Tryd.underlying35 Tryd.infoB8 (by decide) [4, 0] rfl rfl (fun y => (by repeat (first | (exact Put.head) | apply Put.tail))) (reads_own (H.row (v := .slice (some ⟨gl, 0, none⟩) 2 2) (e := 5) (k := .u8) (xs := [4, 0]) (by repeat (first | exact List.Mem.head _ | apply List.Mem.tail)))) (by simp) ?_
  clear H
  intro v10 w_ H h_
  clear h_
  have hS := Lib.hid (show (fun w' : World => w'.cell? ⟨g, 0, none⟩ = some (.int .u8 4) ∧ w'.cell? ⟨g, 1, none⟩ = some (.int .u8 0)) _ from ⟨((H.cell (g := g) (by repeat (first | exact List.Mem.head _ | apply List.Mem.tail)) 0).trans rfl), ((H.cell (g := g) (by repeat (first | exact List.Mem.head _ | apply List.Mem.tail)) 1).trans rfl)⟩)
  refine hK.out _ _ hS.out (fun hHeld => ?_)
  clear hK K
  clear hS
  refine norm_ (a' := ?_) ?_ ?_
  rotate_left
  ·show Act.put _ (some 19) _ = _
   simp only [Act.put, putA, putB, putC]
   rfl
  refine pure_ (i := 10) (N := some 4) (v := ?_) (a' := ?_) #[true, true, true, true, true, true, true, true, true, true, true] rfl rfl (by kernel_rfl) (fun _ _ _ h => h) (Or.inl ⟨by rfl, ?_⟩) ?_ ?_
  rotate_left
  ·intro w'
   go_simp
   with_reducible rfl
  rotate_left
  ·simp only [Act.put, putA, putB, putC]
   rfl
  refine done_ (by kernel_rfl) ?_
  go_wp2_with (first
   | (go_at_call 47; refine (put4_0 _ v10 [0, 0, 0, 4, 0] (H.row (by repeat (first | exact List.Mem.head _ | apply List.Mem.tail))) (by simp)).mono ?_; rintro e_ w_ ⟨v11, rfl, h_⟩; replace H := Hold.call (H.pull1 (by repeat (first | exact Pull.head | apply Pull.tail))) (show Hold _ _ _ [nrow 5 v11 .u8 [0, 0, 0, 4, 0, 0, 0, 0, 0]] from h_); clear h_)
   | ((with_reducible refine is_load rfl ?_); refine loadf_h H rfl rfl rfl (by repeat (first | exact List.Mem.head _ | apply List.Mem.tail)) rfl (by kernel_rfl) ?_)
   | ((with_reducible refine is_call rfl ?_); refine append_h H rfl rfl 1 Tryd.underlying35 Tryd.infoB8 (by decide) [] rfl rfl (fun y => (by repeat (first | exact Put.head | apply Put.tail))) ⟨rfl, by decide, fun h => absurd h (by decide)⟩ (by simp) ?_; clear H; intro v12 w_ H))
  exact HP.out _ _ ⟨_, rfl, H.want (l' := [nrow 5 v12 .u8 [0, 0, 0, 4, 0, 0, 0, 0, 0]]) (Want.take (by repeat (first | exact Pull.head | apply Pull.tail)) (Want.done (by repeat (first | exact Suf.refl | apply Suf.cons))))⟩
theorem appendg_h {P : Program} {ops : Array Oper} {rest : List Oper} {o : Oper} {a : Act} {Q : Exit → Act → World → Prop} {w W : World} {t : List Nat} {l : List Own} (H : Hold w W t l) (hgd : o.guard = none) {s x : Operand} {st : TypeId} (ho : o.op = .call { callee := .builtin .append, args := #[s, x], argTypes := #[st, st] })
  {e : TypeId} {k : IntKind} (bytes : Nat) (ht : P.underlying st = some (.slice e)) (hinfo : (P.info? e).map (fun i => (i.zero, i.size, i.bytes)) = some (some (.int k 0), 1, bytes)) (hb0 : 0 < bytes)
  {b ad : Addr} {n m c : Nat} {xs ys : List Int} (hs : a.eval s = .slice (some b) n n) (hx : a.eval x = .slice (some ad) m c) (Hx : ReadsInt W k (some b) n xs) (Hy : ReadsInt W k (some ad) m ys) (hm : 0 < m) (hl : (n + m) * bytes ≤ 140737488355328)
  (h : ∀ v1 w1, Hold w w1 t (nrow e v1 k (xs ++ ys) :: l) → wpList P ops Q rest (a.put o.dst v1) w1) : wpList P ops Q (o :: rest) a W := by
 obtain ⟨i0, hi, hq⟩ := Option.map_eq_some_iff.1 hinfo
 simp only [Prod.mk.injEq] at hq
 obtain ⟨hz, hsz, hby⟩ := hq
 have hn : n + m ≤ 140737488355328 := Nat.le_trans (Nat.le_mul_of_pos_right _ hb0) hl
 have cells : ∀ {B : Addr} {p : Nat} {zs : List Int}, ReadsInt W k (some B) p zs → ∀ j u, (nums k zs)[j]? = some u → W.cell? (B.add j) = some u := fun HR j u hu => by
  have hj := (List.getElem?_eq_some_iff.1 hu).1
  rw [nums_length] at hj
  have hl := HR.1
  obtain ⟨a2, e2, hc⟩ := HR.2.2 (by omega)
  obtain rfl := Option.some.inj e2
  rw [hc j (by omega), ← hu]
  simp [nums, List.getD_eq_getElem?_getD, List.getElem?_eq_getElem hj]
 have hr := run_append_grow (P := P) (w := W) st o.type e i0 (.int k 0) ht hi hz b n n (nums k xs) (by rw [nums_length, Hx.1, hsz, Nat.mul_one]) (cells Hx) ad m c (nums k ys) (by rw [nums_length, Hy.1, hsz, Nat.mul_one]) (cells Hy) (by omega) (by omega) (growslice_fits (by omega) (by rw [hby]; exact hl))
 refine wpList_plain hgd fun K hK => ?_
 unfold Oper.wp execOp
 simp only [ho, resolve, invoke, builtin, Sem.run_bind, Sem.run_pure, Result.andThen_ok, List.map_toArray, List.map_cons, List.map_nil, hs, hx, hr]
 have hge := grownCap_ge W (n + m) n e
 refine hK _ _ (h _ _ (Hold.push (l1 := [_]) H (Hold.made (below_alloc (below_drew (Below.refl _ _)) _) ⟨by rw [nums_length, Nat.mul_one], .inr ⟨W.heap.size, _, _, by rw [List.length_append, Hx.1, Hy.1], Nat.zero_le _, heap_alloc_new W.drew _, by rw [List.length_append, Hx.1, Hy.1]; exact hge, grownCap_le_maxLen W (n + m) n e (by unfold maxLen; omega), ?_, ?_⟩⟩ fun k hk => Nat.le_of_eq (Option.some.inj (Option.mem_toList.1 hk)))))
 ·simp only [Array.size_append, List.size_toArray, size_zeroCells, nums_length, Hx.1, Hy.1]
  show n + m + _ * 1 = _ * 1
  omega
 ·simp only [Array.toList_append, List.append_assoc, Nat.mul_one, nums_append]
  rw [← List.append_assoc]
  exact List.take_left' (by simp [nums_length])
theorem reads_obj {w : World} {g : Nat} {e : TypeId} {r : Nat × Nat} {xs : List Int} (h : w.heap[g]? = some (.cells (nums .u8 xs).toArray e r)) (hl : xs.length ≤ 1000) : ReadsInt w .u8 (some ⟨g, 0, none⟩) xs.length xs := by
 refine ⟨rfl, by omega, fun _ => ⟨_, rfl, fun j hj => ?_⟩⟩
 rw [show (⟨g, 0, none⟩ : Addr).add j = ⟨g, j, none⟩ by simp [Addr.add, eq_comm], cell_of_row w g j _ e r h]
 simp [nums, List.getElem?_map, List.getElem?_eq_getElem hj, List.getD_eq_getElem?_getD]
abbrev preO (g : Nat) : Own := .obj g (.cells (nums .u8 pre24).toArray 5 (24, 25))
set_option maxHeartbeats 4000000 in
set_option maxRecDepth 100000 in
theorem preface_calls (w : World) : Calls Tryd.prog 41 #[] w fun e w' => ∃ g, e = .returned (.slice (some ⟨g, 0, none⟩) 24 24) ∧ Hold w w' [] [preO g] := by
 refine of_post0 fun R hRR => ?_
 have HP := Lib.hid hRR
 clear hRR
 have hcv := Lib.run_convert_bytes_const (P := Tryd.prog) w 35 5 (nums .u8 pre24).toArray 24 24 Tryd.underlying35 Tryd.underlying5
 have H : Hold w (w.alloc (.cells (nums .u8 pre24).toArray 5 (24, 25))) [] [preO w.heap.size] := Hold.made (below_alloc (Below.refl _ _) _) (blk_new w _) fun k hk => Nat.le_of_eq (List.mem_singleton.1 hk).symm
 rw [show (nums .u8 pre24).toArray.size = 24 from rfl] at hcv
 simp only [nums, pre24, List.map_cons, List.map_nil] at hcv
 go_enter Tryd.func41, Tryd.ntmps41
 go_wp2_with fail
 exact HP.out _ _ ⟨_, rfl, H⟩
end Go.Proofs.YtjjfkmniffbgkaaDoor

/- The chapter's example of split, walked. (This text is printed by wip/gen/split6.py.) -/
namespace Go.Proofs.YtjjfkmniffbgkaaDoor
set_option linter.unusedVariables false
set_option linter.unusedSimpArgs false
open Go.RowKit Go.Proofs.YtjjfkmniffbgkaaDoorW.PrintWords Go.Proofs.YtjjfkmniffbgkaaDoorW.PrintLast Go.Proofs.YtjjfkmniffbgkaaDoorW.PrintMore Go.Proofs.YtjjfkmniffbgkaaDoor.QFrmA Go.Proofs.YtjjfkmniffbgkaaDoor.Given Go.Extern.Stop Go.Stop Go.Extern Go.Maps
attribute [local go_sem] max2_int min2_int max_two min_two
attribute [local go_sem high] eqFault
theorem nx1 : nextS ⟨pre24 ++ [0, 0, 0], true, false⟩ = (none, ⟨[0, 0, 0], false, false⟩) := by rfl
theorem fs1 : feedK ⟨[], true, false⟩ (pre24 ++ [0, 0, 0]) = 27 ∧ feedS ⟨[], true, false⟩ (pre24 ++ [0, 0, 0]) = ⟨pre24 ++ [0, 0, 0], true, false⟩ := ⟨rfl, rfl⟩
theorem fs2 : feedK ⟨[0, 0, 0], false, false⟩ [4, 0, 0, 0, 0, 0] = 6 ∧ feedS ⟨[0, 0, 0], false, false⟩ [4, 0, 0, 0, 0, 0] = ⟨[0, 0, 0, 4, 0, 0, 0, 0, 0], false, false⟩ := ⟨rfl, rfl⟩
theorem nx2 : nextS ⟨[0, 0, 0, 4, 0, 0, 0, 0, 0], false, false⟩ = (some (⟨4, 0, 0, [], -1, 0, 0, 0, false, 0, []⟩, 0, 0), ⟨[], false, false⟩) := by rfl
theorem nx1_calls (W : World) (g : Nat) (v : Value) (h : IsSp W g v ⟨pre24 ++ [0, 0, 0], true, false⟩) (hgv : ∀ W1, Kept W W1 (ats [spO g v ⟨pre24 ++ [0, 0, 0], true, false⟩, spR v ⟨pre24 ++ [0, 0, 0], true, false⟩]) → GV W1) :
  Calls Tryd.prog 39 #[.pointer (some ⟨g, 0, none⟩)] W fun e w' => ∃ v' A c B m, e = .returned (.tuple #[.agg #[.int .u8 0, .int .u8 0, .int .u32 0, .slice A 0 c, .int .i64 0, .int .u32 0, .int .u32 0, .int .u8 0, .bool false, .int .u32 0, .slice B 0 m], .agg #[.int .u8 0, .int .u32 0], .bool false]) ∧ Hold W w' (ats [spO g v ⟨pre24 ++ [0, 0, 0], true, false⟩, spR v ⟨pre24 ++ [0, 0, 0], true, false⟩]) [frThing A c B m zeroF, spO g v' ⟨[0, 0, 0], false, false⟩, spR v' ⟨[0, 0, 0], false, false⟩] := by
 have h_ := next_calls W g v _ h hgv (byteB_iff.1 rfl) (by decide)
 rw [nx1] at h_
 exact h_
theorem nx2_calls (W : World) (g : Nat) (v : Value) (h : IsSp W g v ⟨[0, 0, 0, 4, 0, 0, 0, 0, 0], false, false⟩) (hgv : ∀ W1, Kept W W1 (ats [spO g v ⟨[0, 0, 0, 4, 0, 0, 0, 0, 0], false, false⟩, spR v ⟨[0, 0, 0, 4, 0, 0, 0, 0, 0], false, false⟩]) → GV W1) :
  Calls Tryd.prog 39 #[.pointer (some ⟨g, 0, none⟩)] W fun e w' => ∃ v' A c B m, e = .returned (.tuple #[.agg #[.int .u8 4, .int .u8 0, .int .u32 0, .slice A 0 c, .int .i64 (-1), .int .u32 0, .int .u32 0, .int .u8 0, .bool false, .int .u32 0, .slice B 0 m], .agg #[.int .u8 0, .int .u32 0], .bool true]) ∧ Hold W w' (ats [spO g v ⟨[0, 0, 0, 4, 0, 0, 0, 0, 0], false, false⟩, spR v ⟨[0, 0, 0, 4, 0, 0, 0, 0, 0], false, false⟩]) [frThing A c B m ⟨4, 0, 0, [], -1, 0, 0, 0, false, 0, []⟩, spO g v' ⟨[], false, false⟩, spR v' ⟨[], false, false⟩] := by
 have h_ := next_calls W g v _ h hgv (byteB_iff.1 rfl) (by decide)
 rw [nx2] at h_
 exact h_
set_option maxHeartbeats 4000000 in
set_option maxRecDepth 100000 in
theorem fixed8_calls (w : World) (hgv : GV w) : Calls Tryd.prog 32 #[] w fun e w' => e = .returned (.bool true) ∧ Below w.heap.size w w' := by
 refine of_post0 fun R hRR => ?_
 have HP := Lib.hid hRR
 have HGV := Lib.hid hgv
 clear hRR hgv
 have H : Hold w w [] [] := Hold.nothing (Kept.refl _ _)
 go_enter Tryd.func32, Tryd.ntmps32
 go_upto_region 3 with (first
  | (go_at_call 33; refine (new_split _ true).mono ?_; rintro e_ w_ ⟨g, rfl, h_⟩; replace H := Hold.push H h_; clear h_)
  | (go_at_call 41; refine (preface_calls _).mono ?_; rintro e_ w_ ⟨gp, rfl, h_⟩; replace H := Hold.push H h_; clear h_)
  | (go_at_call 21; refine (put0_calls _).mono ?_; rintro e_ w_ ⟨v9, rfl, h_⟩; obtain ⟨A9, c9, rfl⟩ := own_slice (H2_ h_); replace H := Hold.push H h_; clear h_)
  | ((with_reducible refine is_call rfl ?_); (have h_ := reads_own3 (H.row (e := 5) (v := .slice A9 ([0, 0, 0, 4, 0, 0, 0, 0, 0] : List Int).length c9) (k := .u8) (xs := [0, 0, 0, 4, 0, 0, 0, 0, 0]) (by repeat (first | exact List.Mem.head _ | apply List.Mem.tail))); obtain ⟨ad9, rfl, _⟩ := h_.2.2 (by decide)); refine appendg_h H rfl rfl 1 Tryd.underlying35 Tryd.infoB8 (by decide) rfl rfl (reads_obj (H.ok (preO gp) (by repeat (first | exact List.Mem.head _ | apply List.Mem.tail))) (by decide)) h_ (by decide) (by decide) ?_; clear h_ H; intro v2 w_ H))
 obtain ⟨L0, hL0⟩ : ∃ L : List Int, L = (pre24 ++ [0, 0, 0, 4, 0, 0, 0, 0, 0] : List Int) := ⟨_, rfl⟩
 have hl : L0.length = 33 := by rw [hL0]; rfl
 have ht : L0.take 27 = pre24 ++ [0, 0, 0] := by rw [hL0]; rfl
 have hd : L0.drop 27 = [4, 0, 0, 0, 0, 0] := by rw [hL0]; rfl
 rw [← hL0] at H
 clear hL0
 obtain ⟨A2, c2, e2, hR2, hc2⟩ := own_reads2 (H.row (e := 5) (v := v2) (k := .u8) (xs := L0) (by repeat (first | exact List.Mem.head _ | apply List.Mem.tail)))
 obtain ⟨i0, hi, _, hsz, _⟩ := info_parts Tryd.infoB8
 obtain ⟨k1, k3, hcc⟩ := print_take_int (P := Tryd.prog) (k := .u8) 35 5 Tryd.underlying35 hi hsz A2 c2 L0 27 (by decide) (by omega) hc2
 obtain ⟨A3, k2, k4, hcc3⟩ := print_drop_of (P := Tryd.prog) (Value.int .u8) (0 : Int) 35 5 .i64 Tryd.underlying35 hi hsz A2 c2 L0 27 (by decide) (by omega) hc2
 rw [show (27 : Int).toNat = 27 from rfl] at k1 k3 k2 k4 hcc3
 rw [ht] at k1 k3
 rw [hd] at k2 k4 hcc3
 rw [hl] at e2 k1 k2 hc2
 subst e2
 have q1 : ∀ W : World, (Instr.slice 35 (.slice A2 33 c2) none (some (.int .i64 27)) none).run Tryd.prog W = .ok (.slice A2 27 c2) W := k1
 have q2 : ∀ W : World, (Instr.slice 35 (.slice A2 33 c2) (some (.int .i64 27)) none none).run Tryd.prog W = .ok (.slice A3 6 (c2 - 27)) W := k2
 have HK := Lib.hid (And.intro k3 (And.intro k4 (And.intro (show (pre24 ++ [0, 0, 0] : List Int).length ≤ c2 from Nat.le_trans (by decide) hc2) hcc3)))
 clear k1 k2 k3 k4 hcc hcc3 hi hsz hR2 hc2 ht hd
 go_upto_region 6 with (first
  | (go_at_call 40; refine (feed_calls _ g _ ⟨[], true, false⟩ (H.sp (by repeat (first | exact List.Mem.head _ | apply List.Mem.tail)) (by repeat (first | exact List.Mem.head _ | apply List.Mem.tail))) (by decide) A2 c2 (pre24 ++ [0, 0, 0]) (HK.out.1 _ (reads_own3 (H.row (e := 5) (v := .slice A2 33 c2) (k := .u8) (xs := L0) (by repeat (first | exact List.Mem.head _ | apply List.Mem.tail))))) (HK.out.2.2.1)).mono ?_; rintro e_ w_ ⟨v1, rfl, h_⟩; rw [fs1.1]; rw [fs1.2] at h_; replace H := Hold.call (H.pull2 (by repeat (first | exact Pull.head | apply Pull.tail)) (by repeat (first | exact Pull.head | apply Pull.tail))) h_; clear h_))
 go_upto_region 7 with (first
  | (go_at_call 39; refine (nx1_calls _ g _ (H.sp (by repeat (first | exact List.Mem.head _ | apply List.Mem.tail)) (by repeat (first | exact List.Mem.head _ | apply List.Mem.tail))) (Hold.gv H HGV.out (Want.take (by repeat (first | exact Pull.head | apply Pull.tail)) (Want.take (by repeat (first | exact Pull.head | apply Pull.tail)) (Want.done (by repeat (first | exact Suf.refl | apply Suf.cons))))))).mono ?_; rintro e_ w_ ⟨v1, Ap, cp, Bp, mp, rfl, h_⟩; replace H := Hold.call (H.pull2 (by repeat (first | exact Pull.head | apply Pull.tail)) (by repeat (first | exact Pull.head | apply Pull.tail))) h_; clear h_)
  | ((with_reducible refine is_alloc (ty := 38) rfl ?_); refine alloc_h H rfl rfl (cs := (frC ⟨0, 0, 0, [], 0, 0, 0, 0, false, 0, []⟩ nilS nilS).toList) (by first | (go_simp; done) | (go_simp; rfl)) ?_; clear H; intro gF w_ H)
  | ((with_reducible refine is_alloc (ty := 24) rfl ?_); refine alloc_h H rfl rfl (cs := [.int .u8 0, .int .u32 0]) (by first | (go_simp; done) | (go_simp; rfl)) ?_; clear H; intro gE w_ H)
  | ((with_reducible refine is_store (ty := 38) rfl ?_); refine store_h H rfl rfl rfl rfl (u := .agg #[.int .u8 0, .int .u8 0, .int .u32 0, .slice Ap 0 cp, .int .i64 0, .int .u32 0, .int .u32 0, .int .u8 0, .bool false, .int .u32 0, .slice Bp 0 mp]) rfl (by repeat (first | exact Put.head | apply Put.tail)) (by kernel_rfl) (Nat.le_of_ble_eq_true rfl) rfl ?_; clear H; intro w_ H; simp only [setC, Value.cells, List.toList_toArray] at H)
  | ((with_reducible refine is_store (ty := 24) rfl ?_); refine store_h H rfl rfl rfl rfl (u := .agg #[.int .u8 0, .int .u32 0]) rfl (by repeat (first | exact Put.head | apply Put.tail)) (by kernel_rfl) (Nat.le_of_ble_eq_true rfl) rfl ?_; clear H; intro w_ H; simp only [setC, Value.cells, List.toList_toArray] at H))
 go_upto_region 8 with (first
  | (go_at_call 40; refine (feed_calls _ g _ ⟨[0, 0, 0], false, false⟩ (H.sp (by repeat (first | exact List.Mem.head _ | apply List.Mem.tail)) (by repeat (first | exact List.Mem.head _ | apply List.Mem.tail))) (by decide) A3 (c2 - 27) [4, 0, 0, 0, 0, 0] (HK.out.2.1 _ (reads_own3 (H.row (e := 5) (v := .slice A2 33 c2) (k := .u8) (xs := L0) (by repeat (first | exact List.Mem.head _ | apply List.Mem.tail))))) (HK.out.2.2.2)).mono ?_; rintro e_ w_ ⟨v1, rfl, h_⟩; rw [fs2.1]; rw [fs2.2] at h_; replace H := Hold.call (H.pull2 (by repeat (first | exact Pull.head | apply Pull.tail)) (by repeat (first | exact Pull.head | apply Pull.tail))) h_; clear h_))
 go_upto_region 9 with (first
  | (go_at_call 39; refine (nx2_calls _ g _ (H.sp (by repeat (first | exact List.Mem.head _ | apply List.Mem.tail)) (by repeat (first | exact List.Mem.head _ | apply List.Mem.tail))) (Hold.gv H HGV.out (Want.take (by repeat (first | exact Pull.head | apply Pull.tail)) (Want.take (by repeat (first | exact Pull.head | apply Pull.tail)) (Want.done (by repeat (first | exact Suf.refl | apply Suf.cons))))))).mono ?_; rintro e_ w_ ⟨v1, Ap, cp, Bp, mp, rfl, h_⟩; replace H := Hold.call (H.pull2 (by repeat (first | exact Pull.head | apply Pull.tail)) (by repeat (first | exact Pull.head | apply Pull.tail))) h_; clear h_)
  | ((with_reducible refine is_alloc (ty := 38) rfl ?_); refine alloc_h H rfl rfl (cs := (frC ⟨0, 0, 0, [], 0, 0, 0, 0, false, 0, []⟩ nilS nilS).toList) (by first | (go_simp; done) | (go_simp; rfl)) ?_; clear H; intro gF2 w_ H)
  | ((with_reducible refine is_alloc (ty := 24) rfl ?_); refine alloc_h H rfl rfl (cs := [.int .u8 0, .int .u32 0]) (by first | (go_simp; done) | (go_simp; rfl)) ?_; clear H; intro gE2 w_ H)
  | ((with_reducible refine is_store (ty := 38) rfl ?_); refine store_h H rfl rfl rfl rfl (u := .agg #[.int .u8 4, .int .u8 0, .int .u32 0, .slice Ap 0 cp, .int .i64 (-1), .int .u32 0, .int .u32 0, .int .u8 0, .bool false, .int .u32 0, .slice Bp 0 mp]) rfl (by repeat (first | exact Put.head | apply Put.tail)) (by kernel_rfl) (Nat.le_of_ble_eq_true rfl) rfl ?_; clear H; intro w_ H; simp only [setC, Value.cells, List.toList_toArray] at H)
  | ((with_reducible refine is_store (ty := 24) rfl ?_); refine store_h H rfl rfl rfl rfl (u := .agg #[.int .u8 0, .int .u32 0]) rfl (by repeat (first | exact Put.head | apply Put.tail)) (by kernel_rfl) (Nat.le_of_ble_eq_true rfl) rfl ?_; clear H; intro w_ H; simp only [setC, Value.cells, List.toList_toArray] at H))
 go_wp2_with (first
  | ((with_reducible refine is_load (ty := 24) rfl ?_); refine load_g H rfl rfl (by repeat (first | exact List.Mem.head _ | apply List.Mem.tail)) (by kernel_rfl) (by kernel_rfl) (by rfl) ?_)
  | ((with_reducible refine is_load rfl ?_); refine loadf_g H rfl rfl (by repeat (first | exact List.Mem.head _ | apply List.Mem.tail)) rfl (by kernel_rfl) (by rfl) ?_)
  | (go_at_call 38; refine (held_calls _ g _ ⟨[], false, false⟩ (H.sp (by repeat (first | exact List.Mem.head _ | apply List.Mem.tail)) (by repeat (first | exact List.Mem.head _ | apply List.Mem.tail)))).mono ?_; rintro e_ w_ ⟨rfl, h_⟩; replace H := H.below h_; clear h_))
 exact HP.out _ _ ⟨rfl, H.all⟩
end Go.Proofs.YtjjfkmniffbgkaaDoor

/- Rows of frames that are held; louverlaw08.same of two that are the same, walked. (This text is printed by wip/gen/split9.py.) -/
namespace Go.Proofs.YtjjfkmniffbgkaaDoor
set_option linter.unusedVariables false
set_option linter.unusedSimpArgs false
open Go.RowKit Go.Proofs.YtjjfkmniffbgkaaDoorW.PrintWords Go.Proofs.YtjjfkmniffbgkaaDoorW.PrintLast Go.Proofs.YtjjfkmniffbgkaaDoorW.PrintMore Go.Proofs.YtjjfkmniffbgkaaDoor.QFrmA Go.Proofs.YtjjfkmniffbgkaaDoor.Given Go.Extern.Stop Go.Stop Go.Extern Go.Maps
attribute [local go_sem high] eqFault
structure FE where
 x : Rs
 A : Option Addr
 ca : Nat
 B : Option Addr
 mb : Nat
abbrev FE.cells (e : FE) : List Value := (fC e.x.1 (.slice e.A e.x.1.data.length e.ca) (.slice e.B e.x.1.sets.length e.mb) e.x.2.1 e.x.2.2).toList
abbrev FE.thing (e : FE) : Own := frThing e.A e.ca e.B e.mb e.x.1
abbrev rowO (v : Value) (es : List FE) : Own := .row 45 13 v es.length (es.flatMap FE.cells)
def rowT (es : List FE) : List Own := es.reverse.map FE.thing
theorem rowT_more (es : List FE) (e : FE) : rowT (es ++ [e]) = e.thing :: rowT es := by simp [rowT]
theorem rowT_mem {es : List FE} {e : FE} (h : e ∈ es) : e.thing ∈ rowT es := List.mem_map.2 ⟨e, List.mem_reverse.2 h, rfl⟩
def FsRead (w : World) (v : Value) (es : List FE) : Prop := ∀ (i : Nat) (e : FE), es[i]? = some e → ∃ g c, v = .slice (some ⟨g, 0, none⟩) es.length c ∧ (∀ (j : Nat) (u : Value), e.cells[j]? = some u → w.cell? ⟨g, i * 13 + j, none⟩ = some u) ∧
 (ReadsInt w .u8 e.A e.x.1.data.length e.x.1.data ∧ e.x.1.data.length ≤ e.ca) ∧ k99.C w e.B e.x.1.sets.length e.x.1.sets ∧ e.x.1.sets.length ≤ e.mb
theorem FsRead.below {w W : World} {v : Value} {es : List FE} (h : FsRead w v es) (hb : Below w.heap.size w W) : FsRead W v es := fun i e he => by
 obtain ⟨g, c, h1, h2, h3, h4, h5⟩ := h i e he
 exact ⟨g, c, h1, fun j u hu => pw_cell_below hb (h2 j u hu), ⟨h3.1.below hb, h3.2⟩, Kd.C_below h4 hb, h5⟩
theorem flat_at : ∀ (es : List FE) (i j : Nat) (e : FE) (u : Value), es[i]? = some e → e.cells[j]? = some u → (es.flatMap FE.cells)[i * 13 + j]? = some u
 | [], i, j, e, u, h, _ => by simp at h
 | x :: es, 0, j, e, u, h, hu => by
  obtain rfl : x = e := by simpa using h
  have hj : j < x.cells.length := (List.getElem?_eq_some_iff.1 hu).1
  rw [List.flatMap_cons, Nat.zero_mul, Nat.zero_add, List.getElem?_append_left hj]
  exact hu
 | x :: es, i + 1, j, e, u, h, hu => by
  have hx : x.cells.length = 13 := rfl
  rw [List.flatMap_cons, List.getElem?_append_right (by omega), hx, show (i + 1) * 13 + j - 13 = i * 13 + j by omega]
  exact flat_at es i j e u (by simpa using h) hu
theorem Hold.frames {w W : World} {t : List Nat} {l : List Own} (H : Hold w W t l) {v : Value} {es : List FE} (h1 : rowO v es ∈ l) (h2 : ∀ o ∈ rowT es, o ∈ l) : FsRead W v es := fun i e he => by
 have hrow : W.ownsRow 0 45 13 v es.length (es.flatMap FE.cells) := H.ok _ h1
 have hi : i < es.length := (List.getElem?_eq_some_iff.1 he).1
 rcases hrow.2 with ⟨rfl, h0⟩ | ⟨g, cap, cur, rfl, _, hb, hle, _, hsz, htk⟩
 ·omega
 ·obtain ⟨h3, h4⟩ := H.fr (h2 _ (rowT_mem (List.mem_of_getElem? he)))
  refine ⟨g, cap, rfl, fun j u hu => ?_, h3, h4⟩
  have hf := flat_at es i j e u he hu
  have hj : j < 13 := (List.getElem?_eq_some_iff.1 hu).1
  rw [← htk, List.getElem?_take] at hf
  rw [blk_cell hb, ← Array.getElem?_toList]
  split at hf
  ·exact hf
  ·cases hf
set_option maxHeartbeats 16000000 in
set_option maxRecDepth 100000 in
theorem same8_calls (w : World) (v1 v2 : Value) (es es' : List FE) (q1 q2 : Value) (hv1 : ∃ A c, v1 = .slice A es.length c) (hv2 : ∃ A c, v2 = .slice A es'.length c) (hA : FsRead w v1 es) (hB : FsRead w v2 es') (hx : es.map FE.x = es'.map FE.x) (hset : ∀ e ∈ es, e.x.1.sets.length ≤ 1000000) (hl : es.length ≤ 1000000) :
  Calls Tryd.prog 36 #[v1, v2] w fun e w' => e = .returned (.bool true) ∧ Below w.heap.size w w' := by
 refine of_post0 fun R hRR => ?_
 have HP := Lib.hid hRR
 obtain ⟨A1, c1_, rfl⟩ := hv1
 obtain ⟨A2, c2_, rfl⟩ := hv2
 have hll : es'.length = es.length := by have := congrArg List.length hx; simpa using this.symm
 rw [hll]
 have HA := Lib.hid hA
 have HB := Lib.hid hB
 have HX := Lib.hid (And.intro hx (And.intro hset hll))
 clear hRR hA hB hx hset hll
 have V := Aside0.mk (Below.refl w.heap.size w)
 go_enter Tryd.func36, Tryd.ntmps36
 go_wp2_with fail
 go_loopg [13] es.length (fun k v wr => ∃ j : Nat, v = .int .i64 (j : Int) ∧ j + k = es.length ∧ Aside0 (Below w.heap.size w wr))
 case atStart => exact ⟨0, rfl, by omega, V⟩
 case round =>
  obtain ⟨j, rfl, hj, V'⟩ := hrel
  clear V
  cases gk with
  | zero =>
   have d0 : decide ((j : Int) < (es.length : Int)) = false := by rw [decide_eq_false_iff_not]; omega
   have d1 : decide (j < es.length) = false := by rw [decide_eq_false_iff_not]; omega
   clear hj
   go_wp2_with fail
   exact HP.out _ _ ⟨rfl, V'.out⟩
  | succ k =>
   have d2 : j < es.length := by omega
   have d0 : decide ((j : Int) < (es.length : Int)) = true := decide_eq_true (by omega)
   have d1 : decide (j < es.length) = true := decide_eq_true d2
   have d3 : (j : Int) < (es.length : Int) := by omega
   obtain ⟨e, he⟩ : ∃ e, es[j]? = some e := ⟨_, List.getElem?_eq_getElem d2⟩
   obtain ⟨e', he'⟩ : ∃ e', es'[j]? = some e' := ⟨_, List.getElem?_eq_getElem (by rw [HX.out.2.2]; exact d2)⟩
   have hxx : e.x = e'.x := by
    have := congrArg (fun l => l[j]?) HX.out.1
    simpa [he, he'] using this
   have hse := HX.out.2.1 e (List.mem_of_getElem? he)
   obtain ⟨ga, c1', e1, pa, ra⟩ := (HA.out.below V'.out) j e he
   obtain ⟨gb, c2', e2, pb, rb⟩ := (HB.out.below V'.out) j e' he'
   obtain ⟨x, Aa, c1, Ba, m1⟩ := e
   obtain ⟨x', Ab, c2, Bb, m2⟩ := e'
   simp only at hxx hse
   subst hxx
   obtain ⟨F, s, cd⟩ := x
   rw [HX.out.2.2] at e2
   cases e1
   cases e2
   have pa0 := pa 0 _ rfl
   have pb0 := pb 0 _ rfl
   have pa1 := pa 1 _ rfl
   have pb1 := pb 1 _ rfl
   have pa2 := pa 2 _ rfl
   have pb2 := pb 2 _ rfl
   have pa3 := pa 3 _ rfl
   have pb3 := pb 3 _ rfl
   have pa4 := pa 4 _ rfl
   have pb4 := pb 4 _ rfl
   have pa5 := pa 5 _ rfl
   have pb5 := pb 5 _ rfl
   have pa6 := pa 6 _ rfl
   have pb6 := pb 6 _ rfl
   have pa7 := pa 7 _ rfl
   have pb7 := pb 7 _ rfl
   have pa8 := pa 8 _ rfl
   have pb8 := pb 8 _ rfl
   have pa9 := pa 9 _ rfl
   have pb9 := pb 9 _ rfl
   have pa10 := pa 10 _ rfl
   have pb10 := pb 10 _ rfl
   have pa11 := pa 11 _ rfl
   have pb11 := pb 11 _ rfl
   have pa12 := pa 12 _ rfl
   have pb12 := pb 12 _ rfl
   have HS_ := Lib.hid (fun W (hb : Below wr.heap.size wr W) => rsame_calls W F Aa Ab Ba Bb c1 c2 m1 m2 (ra.1.1.below hb) ra.1.2 (rb.1.1.below hb) rb.1.2 (Kd.C_below ra.2.1 hb) (Kd.C_below rb.2.1 hb) hse)
   have H : Hold wr wr [] [] := Hold.nothing (Kept.refl _ _)
   have hw : wrap64 ((j : Int) + 1) = ((j + 1 : Nat) : Int) := by rw [wrap_okF (by omega) (by omega)]; omega
   clear pa pb ra rb hse he he'
   go_upto_region 6 with fail
   replace H := H.below (below_drew (Below.refl _ _))
   refine start_ (n := 38) (S := fun w' => w'.cell? ⟨ga, j * 13, none⟩ = some (.int .u8 F.ty) ∧ w'.cell? ⟨ga, j * 13 + 1, none⟩ = some (.int .u8 F.fl) ∧ w'.cell? ⟨ga, j * 13 + 2, none⟩ = some (.int .u32 F.st) ∧ w'.cell? ⟨ga, j * 13 + 3, none⟩ = some (.slice Aa F.data.length c1) ∧ w'.cell? ⟨ga, j * 13 + 4, none⟩ = some (.int .i64 F.pad) ∧ w'.cell? ⟨ga, j * 13 + 5, none⟩ = some (.int .u32 F.code) ∧ w'.cell? ⟨ga, j * 13 + 6, none⟩ = some (.int .u32 F.oth) ∧ w'.cell? ⟨ga, j * 13 + 7, none⟩ = some (.int .u8 F.wgt) ∧ w'.cell? ⟨ga, j * 13 + 8, none⟩ = some (.bool F.al) ∧ w'.cell? ⟨ga, j * 13 + 9, none⟩ = some (.int .u32 F.win) ∧ w'.cell? ⟨ga, j * 13 + 10, none⟩ = some (.slice Ba F.sets.length m1) ∧ w'.cell? ⟨ga, j * 13 + 11, none⟩ = some (.int .u8 s) ∧ w'.cell? ⟨ga, j * 13 + 12, none⟩ = some (.int .u32 cd) ∧ w'.cell? ⟨gb, j * 13, none⟩ = some (.int .u8 F.ty) ∧ w'.cell? ⟨gb, j * 13 + 1, none⟩ = some (.int .u8 F.fl) ∧ w'.cell? ⟨gb, j * 13 + 2, none⟩ = some (.int .u32 F.st) ∧ w'.cell? ⟨gb, j * 13 + 3, none⟩ = some (.slice Ab F.data.length c2) ∧ w'.cell? ⟨gb, j * 13 + 4, none⟩ = some (.int .i64 F.pad) ∧ w'.cell? ⟨gb, j * 13 + 5, none⟩ = some (.int .u32 F.code) ∧ w'.cell? ⟨gb, j * 13 + 6, none⟩ = some (.int .u32 F.oth) ∧ w'.cell? ⟨gb, j * 13 + 7, none⟩ = some (.int .u8 F.wgt) ∧ w'.cell? ⟨gb, j * 13 + 8, none⟩ = some (.bool F.al) ∧ w'.cell? ⟨gb, j * 13 + 9, none⟩ = some (.int .u32 F.win) ∧ w'.cell? ⟨gb, j * 13 + 10, none⟩ = some (.slice Bb F.sets.length m2) ∧ w'.cell? ⟨gb, j * 13 + 11, none⟩ = some (.int .u8 s) ∧ w'.cell? ⟨gb, j * 13 + 12, none⟩ = some (.int .u32 cd)) (ds := []) #[false, false, false, false, false, false, false, false, false, false, false, false, false, false, false, false, false, false, false, false, false, false, false, false, false, false, false, false, false, false, false, false, false, false, false, false, false, false] (by kernel_rfl) rfl rfl ⟨(by first | exact pa0 | simpa using pa0), (by first | exact pa1 | simpa using pa1), (by first | exact pa2 | simpa using pa2), (by first | exact pa3 | simpa using pa3), (by first | exact pa4 | simpa using pa4), (by first | exact pa5 | simpa using pa5), (by first | exact pa6 | simpa using pa6), (by first | exact pa7 | simpa using pa7), (by first | exact pa8 | simpa using pa8), (by first | exact pa9 | simpa using pa9), (by first | exact pa10 | simpa using pa10), (by first | exact pa11 | simpa using pa11), (by first | exact pa12 | simpa using pa12), (by first | exact pb0 | simpa using pb0), (by first | exact pb1 | simpa using pb1), (by first | exact pb2 | simpa using pb2), (by first | exact pb3 | simpa using pb3), (by first | exact pb4 | simpa using pb4), (by first | exact pb5 | simpa using pb5), (by first | exact pb6 | simpa using pb6), (by first | exact pb7 | simpa using pb7), (by first | exact pb8 | simpa using pb8), (by first | exact pb9 | simpa using pb9), (by first | exact pb10 | simpa using pb10), (by first | exact pb11 | simpa using pb11), (by first | exact pb12 | simpa using pb12)⟩ (fun hHeld => ?_)
   generalize World.drew _ = wy at H hHeld ⊢
   refine pure_ (i := 0) (N := some 16) (v := ?_) (a' := ?_) #[true, false, false, false, false, false, false, false, false, false, false, false, false, false, false, false, false, false, false, false, false, false, false, false, false, false, false, false, false, false, false, false, false, false, false, false, false, false] rfl rfl (by kernel_rfl) (fun _ _ _ h => h) (Or.inl ⟨by rfl, ?_⟩) ?_ ?_
   rotate_left
   ·intro w'
    go_simp
    with_reducible rfl
   rotate_left
   ·simp only [Act.put, putA, putB, putC]
    rfl
   refine pure_ (i := 1) (N := some 17) (v := ?_) (a' := ?_) #[true, true, false, false, false, false, false, false, false, false, false, false, false, false, false, false, false, false, false, false, false, false, false, false, false, false, false, false, false, false, false, false, false, false, false, false, false, false] rfl rfl (by kernel_rfl) (fun _ _ _ h => h) (Or.inl ⟨by rfl, ?_⟩) ?_ ?_
   rotate_left
   ·intro w'
    go_simp
    with_reducible rfl
   rotate_left
   ·simp only [Act.put, putA, putB, putC]
    rfl
   refine pure_ (i := 2) (N := some 18) (v := ?_) (a' := ?_) #[true, true, true, false, false, false, false, false, false, false, false, false, false, false, false, false, false, false, false, false, false, false, false, false, false, false, false, false, false, false, false, false, false, false, false, false, false, false] rfl rfl (by kernel_rfl) (fun _ _ _ h => h) (Or.inl ⟨by rfl, ?_⟩) ?_ ?_
   rotate_left
   ·intro w'
    go_simp
    with_reducible rfl
   rotate_left
   ·simp only [Act.put, putA, putB, putC]
    rfl
   refine pure_ (i := 3) (N := some 19) (v := ?_) (a' := ?_) #[true, true, true, true, false, false, false, false, false, false, false, false, false, false, false, false, false, false, false, false, false, false, false, false, false, false, false, false, false, false, false, false, false, false, false, false, false, false] rfl rfl (by kernel_rfl) (fun _ _ _ h => h) (Or.inl ⟨by rfl, ?_⟩) ?_ ?_
   rotate_left
   ·intro w'
    go_simp
    with_reducible rfl
   rotate_left
   ·simp only [Act.put, putA, putB, putC]
    rfl
   refine take_ (i := 4) (N := some 20) (v := ?_) (a' := ?_) #[true, true, true, true, true, false, false, false, false, false, false, false, false, false, false, false, false, false, false, false, false, false, false, false, false, false, false, false, false, false, false, false, false, false, false, false, false, false] rfl rfl (by kernel_rfl) (fun _ _ _ h => h) (Or.inl ⟨by rfl, ?_⟩) hHeld ?_ ?_
   rotate_left
   ·rintro w' ⟨s0, s1, s2, s3, s4, s5, s6, s7, s8, s9, s10, s11, s12, s13, s14, s15, s16, s17, s18, s19, s20, s21, s22, s23, s24, s25⟩
    go_simp
    with_reducible rfl
   rotate_left
   ·simp only [Act.put, putA, putB, putC]
    rfl
   refine pure_ (i := 5) (N := some 21) (v := ?_) (a' := ?_) #[true, true, true, true, true, true, false, false, false, false, false, false, false, false, false, false, false, false, false, false, false, false, false, false, false, false, false, false, false, false, false, false, false, false, false, false, false, false] rfl rfl (by kernel_rfl) (fun _ _ _ h => h) (Or.inl ⟨by rfl, ?_⟩) ?_ ?_
   rotate_left
   ·intro w'
    go_simp
    with_reducible rfl
   rotate_left
   ·simp only [Act.put, putA, putB, putC]
    rfl
   refine pure_ (i := 6) (N := some 22) (v := ?_) (a' := ?_) #[true, true, true, true, true, true, true, false, false, false, false, false, false, false, false, false, false, false, false, false, false, false, false, false, false, false, false, false, false, false, false, false, false, false, false, false, false, false] rfl rfl (by kernel_rfl) (fun _ _ _ h => h) (Or.inl ⟨by rfl, ?_⟩) ?_ ?_
   rotate_left
   ·intro w'
    go_simp
    with_reducible rfl
   rotate_left
   ·simp only [Act.put, putA, putB, putC]
    rfl
   refine pure_ (i := 7) (N := some 23) (v := ?_) (a' := ?_) #[true, true, true, true, true, true, true, true, false, false, false, false, false, false, false, false, false, false, false, false, false, false, false, false, false, false, false, false, false, false, false, false, false, false, false, false, false, false] rfl rfl (by kernel_rfl) (fun _ _ _ h => h) (Or.inl ⟨by rfl, ?_⟩) ?_ ?_
   rotate_left
   ·intro w'
    go_simp
    with_reducible rfl
   rotate_left
   ·simp only [Act.put, putA, putB, putC]
    rfl
   refine pure_ (i := 8) (N := some 24) (v := ?_) (a' := ?_) #[true, true, true, true, true, true, true, true, true, false, false, false, false, false, false, false, false, false, false, false, false, false, false, false, false, false, false, false, false, false, false, false, false, false, false, false, false, false] rfl rfl (by kernel_rfl) (fun _ _ _ h => h) (Or.inl ⟨by rfl, ?_⟩) ?_ ?_
   rotate_left
   ·intro w'
    go_simp
    with_reducible rfl
   rotate_left
   ·simp only [Act.put, putA, putB, putC]
    rfl
   refine take_ (i := 9) (N := some 25) (v := ?_) (a' := ?_) #[true, true, true, true, true, true, true, true, true, true, false, false, false, false, false, false, false, false, false, false, false, false, false, false, false, false, false, false, false, false, false, false, false, false, false, false, false, false] rfl rfl (by kernel_rfl) (fun _ _ _ h => h) (Or.inl ⟨by rfl, ?_⟩) hHeld ?_ ?_
   rotate_left
   ·rintro w' ⟨s0, s1, s2, s3, s4, s5, s6, s7, s8, s9, s10, s11, s12, s13, s14, s15, s16, s17, s18, s19, s20, s21, s22, s23, s24, s25⟩
    go_simp
    with_reducible rfl
   rotate_left
   ·simp only [Act.put, putA, putB, putC]
    rfl
   refine one_ (i := 10) (N := some 26) #[true, true, true, true, true, true, true, true, true, true, true, false, false, false, false, false, false, false, false, false, false, false, false, false, false, false, false, false, false, false, false, false, false, false, false, false, false, false] rfl rfl (by kernel_rfl) (by decide) (fun K hK => ?_)
   refine goes_ Tryd.func28 (by kernel_rfl) rfl #[.agg (frC F (.slice Aa F.data.length c1) (.slice Ba F.sets.length m1)), .agg (frC F (.slice Ab F.data.length c2) (.slice Bb F.sets.length m2))] (by rfl) rfl rfl (by (try simp only [List.map_toArray, List.map_cons, List.map_nil]); first | done | rfl) ?_
   refine (HS_.out _ H.all).mono ?_
   rintro e_ w9 ⟨rfl, h_⟩
   replace H := H.below h_
   refine ⟨_, rfl, ?_⟩
   have hS := Lib.hid (show (fun w' : World => w'.cell? ⟨ga, j * 13, none⟩ = some (.int .u8 F.ty) ∧ w'.cell? ⟨ga, j * 13 + 1, none⟩ = some (.int .u8 F.fl) ∧ w'.cell? ⟨ga, j * 13 + 2, none⟩ = some (.int .u32 F.st) ∧ w'.cell? ⟨ga, j * 13 + 3, none⟩ = some (.slice Aa F.data.length c1) ∧ w'.cell? ⟨ga, j * 13 + 4, none⟩ = some (.int .i64 F.pad) ∧ w'.cell? ⟨ga, j * 13 + 5, none⟩ = some (.int .u32 F.code) ∧ w'.cell? ⟨ga, j * 13 + 6, none⟩ = some (.int .u32 F.oth) ∧ w'.cell? ⟨ga, j * 13 + 7, none⟩ = some (.int .u8 F.wgt) ∧ w'.cell? ⟨ga, j * 13 + 8, none⟩ = some (.bool F.al) ∧ w'.cell? ⟨ga, j * 13 + 9, none⟩ = some (.int .u32 F.win) ∧ w'.cell? ⟨ga, j * 13 + 10, none⟩ = some (.slice Ba F.sets.length m1) ∧ w'.cell? ⟨ga, j * 13 + 11, none⟩ = some (.int .u8 s) ∧ w'.cell? ⟨ga, j * 13 + 12, none⟩ = some (.int .u32 cd) ∧ w'.cell? ⟨gb, j * 13, none⟩ = some (.int .u8 F.ty) ∧ w'.cell? ⟨gb, j * 13 + 1, none⟩ = some (.int .u8 F.fl) ∧ w'.cell? ⟨gb, j * 13 + 2, none⟩ = some (.int .u32 F.st) ∧ w'.cell? ⟨gb, j * 13 + 3, none⟩ = some (.slice Ab F.data.length c2) ∧ w'.cell? ⟨gb, j * 13 + 4, none⟩ = some (.int .i64 F.pad) ∧ w'.cell? ⟨gb, j * 13 + 5, none⟩ = some (.int .u32 F.code) ∧ w'.cell? ⟨gb, j * 13 + 6, none⟩ = some (.int .u32 F.oth) ∧ w'.cell? ⟨gb, j * 13 + 7, none⟩ = some (.int .u8 F.wgt) ∧ w'.cell? ⟨gb, j * 13 + 8, none⟩ = some (.bool F.al) ∧ w'.cell? ⟨gb, j * 13 + 9, none⟩ = some (.int .u32 F.win) ∧ w'.cell? ⟨gb, j * 13 + 10, none⟩ = some (.slice Bb F.sets.length m2) ∧ w'.cell? ⟨gb, j * 13 + 11, none⟩ = some (.int .u8 s) ∧ w'.cell? ⟨gb, j * 13 + 12, none⟩ = some (.int .u32 cd)) _ from ⟨pw_cell_below h_ hHeld.1, pw_cell_below h_ hHeld.2.1, pw_cell_below h_ hHeld.2.2.1, pw_cell_below h_ hHeld.2.2.2.1, pw_cell_below h_ hHeld.2.2.2.2.1, pw_cell_below h_ hHeld.2.2.2.2.2.1, pw_cell_below h_ hHeld.2.2.2.2.2.2.1, pw_cell_below h_ hHeld.2.2.2.2.2.2.2.1, pw_cell_below h_ hHeld.2.2.2.2.2.2.2.2.1, pw_cell_below h_ hHeld.2.2.2.2.2.2.2.2.2.1, pw_cell_below h_ hHeld.2.2.2.2.2.2.2.2.2.2.1, pw_cell_below h_ hHeld.2.2.2.2.2.2.2.2.2.2.2.1, pw_cell_below h_ hHeld.2.2.2.2.2.2.2.2.2.2.2.2.1, pw_cell_below h_ hHeld.2.2.2.2.2.2.2.2.2.2.2.2.2.1, pw_cell_below h_ hHeld.2.2.2.2.2.2.2.2.2.2.2.2.2.2.1, pw_cell_below h_ hHeld.2.2.2.2.2.2.2.2.2.2.2.2.2.2.2.1, pw_cell_below h_ hHeld.2.2.2.2.2.2.2.2.2.2.2.2.2.2.2.2.1, pw_cell_below h_ hHeld.2.2.2.2.2.2.2.2.2.2.2.2.2.2.2.2.2.1, pw_cell_below h_ hHeld.2.2.2.2.2.2.2.2.2.2.2.2.2.2.2.2.2.2.1, pw_cell_below h_ hHeld.2.2.2.2.2.2.2.2.2.2.2.2.2.2.2.2.2.2.2.1, pw_cell_below h_ hHeld.2.2.2.2.2.2.2.2.2.2.2.2.2.2.2.2.2.2.2.2.1, pw_cell_below h_ hHeld.2.2.2.2.2.2.2.2.2.2.2.2.2.2.2.2.2.2.2.2.2.1, pw_cell_below h_ hHeld.2.2.2.2.2.2.2.2.2.2.2.2.2.2.2.2.2.2.2.2.2.2.1, pw_cell_below h_ hHeld.2.2.2.2.2.2.2.2.2.2.2.2.2.2.2.2.2.2.2.2.2.2.2.1, pw_cell_below h_ hHeld.2.2.2.2.2.2.2.2.2.2.2.2.2.2.2.2.2.2.2.2.2.2.2.2.1, pw_cell_below h_ hHeld.2.2.2.2.2.2.2.2.2.2.2.2.2.2.2.2.2.2.2.2.2.2.2.2.2⟩)
   clear h_
   refine hK.out _ _ hS.out (fun hHeld => ?_)
   clear hK K
   clear hS
   refine norm_ (a' := ?_) ?_ ?_
   rotate_left
   ·show Act.put _ (some 26) _ = _
    simp only [Act.put, putA, putB, putC]
    rfl
   refine pure_ (i := 11) (N := some 27) (v := ?_) (a' := ?_) #[true, true, true, true, true, true, true, true, true, true, true, true, false, false, false, false, false, false, false, false, false, false, false, false, false, false, false, false, false, false, false, false, false, false, false, false, false, false] rfl rfl (by kernel_rfl) (fun _ _ _ h => h) (Or.inl ⟨by rfl, ?_⟩) ?_ ?_
   rotate_left
   ·intro w'
    go_simp
    with_reducible rfl
   rotate_left
   ·simp only [Act.put, putA, putB, putC]
    rfl
   refine pure_ (i := 12) (N := some 28) (v := ?_) (a' := ?_) #[true, true, true, true, true, true, true, true, true, true, true, true, true, false, false, false, false, false, false, false, false, false, false, false, false, false, false, false, false, false, false, false, false, false, false, false, false, false] rfl rfl (by kernel_rfl) (fun _ _ _ h => h) (Or.inl ⟨by rfl, ?_⟩) ?_ ?_
   rotate_left
   ·intro w'
    go_simp
    with_reducible rfl
   rotate_left
   ·simp only [Act.put, putA, putB, putC]
    rfl
   refine pure_ (i := 13) (N := some 29) (v := ?_) (a' := ?_) #[true, true, true, true, true, true, true, true, true, true, true, true, true, true, false, false, false, false, false, false, false, false, false, false, false, false, false, false, false, false, false, false, false, false, false, false, false, false] rfl rfl (by kernel_rfl) (fun _ _ _ h => h) (Or.inl ⟨by rfl, ?_⟩) ?_ ?_
   rotate_left
   ·intro w'
    go_simp
    with_reducible rfl
   rotate_left
   ·simp only [Act.put, putA, putB, putC]
    rfl
   refine pure_ (i := 14) (N := some 30) (v := ?_) (a' := ?_) #[true, true, true, true, true, true, true, true, true, true, true, true, true, true, true, false, false, false, false, false, false, false, false, false, false, false, false, false, false, false, false, false, false, false, false, false, false, false] rfl rfl (by kernel_rfl) (fun _ _ _ h => h) (Or.inl ⟨by rfl, ?_⟩) ?_ ?_
   rotate_left
   ·intro w'
    go_simp
    with_reducible rfl
   rotate_left
   ·simp only [Act.put, putA, putB, putC]
    rfl
   refine pure_ (i := 15) (N := some 31) (v := ?_) (a' := ?_) #[true, true, true, true, true, true, true, true, true, true, true, true, true, true, true, true, false, false, false, false, false, false, false, false, false, false, false, false, false, false, false, false, false, false, false, false, false, false] rfl rfl (by kernel_rfl) (fun _ _ _ h => h) (Or.inl ⟨by rfl, ?_⟩) ?_ ?_
   rotate_left
   ·intro w'
    go_simp
    with_reducible rfl
   rotate_left
   ·simp only [Act.put, putA, putB, putC]
    rfl
   refine pure_ (i := 16) (N := some 32) (v := ?_) (a' := ?_) #[true, true, true, true, true, true, true, true, true, true, true, true, true, true, true, true, true, false, false, false, false, false, false, false, false, false, false, false, false, false, false, false, false, false, false, false, false, false] rfl rfl (by kernel_rfl) (fun _ _ _ h => h) (Or.inl ⟨by rfl, ?_⟩) ?_ ?_
   rotate_left
   ·intro w'
    go_simp
    with_reducible rfl
   rotate_left
   ·simp only [Act.put, putA, putB, putC]
    rfl
   refine take_ (i := 17) (N := some 33) (v := ?_) (a' := ?_) #[true, true, true, true, true, true, true, true, true, true, true, true, true, true, true, true, true, true, false, false, false, false, false, false, false, false, false, false, false, false, false, false, false, false, false, false, false, false] rfl rfl (by kernel_rfl) (fun _ _ _ h => h) (Or.inl ⟨by rfl, ?_⟩) hHeld ?_ ?_
   rotate_left
   ·rintro w' ⟨s0, s1, s2, s3, s4, s5, s6, s7, s8, s9, s10, s11, s12, s13, s14, s15, s16, s17, s18, s19, s20, s21, s22, s23, s24, s25⟩
    go_simp
    with_reducible rfl
   rotate_left
   ·simp only [Act.put, putA, putB, putC]
    rfl
   refine pure_ (i := 18) (N := some 34) (v := ?_) (a' := ?_) #[true, true, true, true, true, true, true, true, true, true, true, true, true, true, true, true, true, true, true, false, false, false, false, false, false, false, false, false, false, false, false, false, false, false, false, false, false, false] rfl rfl (by kernel_rfl) (fun _ _ _ h => h) (Or.inl ⟨by rfl, ?_⟩) ?_ ?_
   rotate_left
   ·intro w'
    go_simp
    with_reducible rfl
   rotate_left
   ·simp only [Act.put, putA, putB, putC]
    rfl
   refine pure_ (i := 19) (N := some 35) (v := ?_) (a' := ?_) #[true, true, true, true, true, true, true, true, true, true, true, true, true, true, true, true, true, true, true, true, false, false, false, false, false, false, false, false, false, false, false, false, false, false, false, false, false, false] rfl rfl (by kernel_rfl) (fun _ _ _ h => h) (Or.inl ⟨by rfl, ?_⟩) ?_ ?_
   rotate_left
   ·intro w'
    go_simp
    with_reducible rfl
   rotate_left
   ·simp only [Act.put, putA, putB, putC]
    rfl
   refine pure_ (i := 20) (N := some 36) (v := ?_) (a' := ?_) #[true, true, true, true, true, true, true, true, true, true, true, true, true, true, true, true, true, true, true, true, true, false, false, false, false, false, false, false, false, false, false, false, false, false, false, false, false, false] rfl rfl (by kernel_rfl) (fun _ _ _ h => h) (Or.inl ⟨by rfl, ?_⟩) ?_ ?_
   rotate_left
   ·intro w'
    go_simp
    with_reducible rfl
   rotate_left
   ·simp only [Act.put, putA, putB, putC]
    rfl
   refine pure_ (i := 21) (N := some 37) (v := ?_) (a' := ?_) #[true, true, true, true, true, true, true, true, true, true, true, true, true, true, true, true, true, true, true, true, true, true, false, false, false, false, false, false, false, false, false, false, false, false, false, false, false, false] rfl rfl (by kernel_rfl) (fun _ _ _ h => h) (Or.inl ⟨by rfl, ?_⟩) ?_ ?_
   rotate_left
   ·intro w'
    go_simp
    with_reducible rfl
   rotate_left
   ·simp only [Act.put, putA, putB, putC]
    rfl
   refine take_ (i := 22) (N := some 38) (v := ?_) (a' := ?_) #[true, true, true, true, true, true, true, true, true, true, true, true, true, true, true, true, true, true, true, true, true, true, true, false, false, false, false, false, false, false, false, false, false, false, false, false, false, false] rfl rfl (by kernel_rfl) (fun _ _ _ h => h) (Or.inl ⟨by rfl, ?_⟩) hHeld ?_ ?_
   rotate_left
   ·rintro w' ⟨s0, s1, s2, s3, s4, s5, s6, s7, s8, s9, s10, s11, s12, s13, s14, s15, s16, s17, s18, s19, s20, s21, s22, s23, s24, s25⟩
    go_simp
    with_reducible rfl
   rotate_left
   ·simp only [Act.put, putA, putB, putC]
    rfl
   refine pure_ (i := 23) (N := some 39) (v := ?_) (a' := ?_) #[true, true, true, true, true, true, true, true, true, true, true, true, true, true, true, true, true, true, true, true, true, true, true, true, false, false, false, false, false, false, false, false, false, false, false, false, false, false] rfl rfl (by kernel_rfl) (fun _ _ _ h => h) (Or.inl ⟨by rfl, ?_⟩) ?_ ?_
   rotate_left
   ·intro w'
    go_simp
    with_reducible rfl
   rotate_left
   ·simp only [Act.put, putA, putB, putC]
    rfl
   refine pure_ (i := 24) (N := some 40) (v := ?_) (a' := ?_) #[true, true, true, true, true, true, true, true, true, true, true, true, true, true, true, true, true, true, true, true, true, true, true, true, true, false, false, false, false, false, false, false, false, false, false, false, false, false] rfl rfl (by kernel_rfl) (fun _ _ _ h => h) (Or.inl ⟨by rfl, ?_⟩) ?_ ?_
   rotate_left
   ·intro w'
    go_simp
    with_reducible rfl
   rotate_left
   ·simp only [Act.put, putA, putB, putC]
    rfl
   refine pure_ (i := 25) (N := some 41) (v := ?_) (a' := ?_) #[true, true, true, true, true, true, true, true, true, true, true, true, true, true, true, true, true, true, true, true, true, true, true, true, true, true, false, false, false, false, false, false, false, false, false, false, false, false] rfl rfl (by kernel_rfl) (fun _ _ _ h => h) (Or.inl ⟨by rfl, ?_⟩) ?_ ?_
   rotate_left
   ·intro w'
    go_simp
    with_reducible rfl
   rotate_left
   ·simp only [Act.put, putA, putB, putC]
    rfl
   refine pure_ (i := 26) (N := some 42) (v := ?_) (a' := ?_) #[true, true, true, true, true, true, true, true, true, true, true, true, true, true, true, true, true, true, true, true, true, true, true, true, true, true, true, false, false, false, false, false, false, false, false, false, false, false] rfl rfl (by kernel_rfl) (fun _ _ _ h => h) (Or.inl ⟨by rfl, ?_⟩) ?_ ?_
   rotate_left
   ·intro w'
    go_simp
    with_reducible rfl
   rotate_left
   ·simp only [Act.put, putA, putB, putC]
    rfl
   refine pure_ (i := 27) (N := some 43) (v := ?_) (a' := ?_) #[true, true, true, true, true, true, true, true, true, true, true, true, true, true, true, true, true, true, true, true, true, true, true, true, true, true, true, true, false, false, false, false, false, false, false, false, false, false] rfl rfl (by kernel_rfl) (fun _ _ _ h => h) (Or.inl ⟨by rfl, ?_⟩) ?_ ?_
   rotate_left
   ·intro w'
    go_simp
    with_reducible rfl
   rotate_left
   ·simp only [Act.put, putA, putB, putC]
    rfl
   refine pure_ (i := 28) (N := some 44) (v := ?_) (a' := ?_) #[true, true, true, true, true, true, true, true, true, true, true, true, true, true, true, true, true, true, true, true, true, true, true, true, true, true, true, true, true, false, false, false, false, false, false, false, false, false] rfl rfl (by kernel_rfl) (fun _ _ _ h => h) (Or.inl ⟨by rfl, ?_⟩) ?_ ?_
   rotate_left
   ·intro w'
    go_simp
    with_reducible rfl
   rotate_left
   ·simp only [Act.put, putA, putB, putC]
    rfl
   refine pure_ (i := 29) (N := some 45) (v := ?_) (a' := ?_) #[true, true, true, true, true, true, true, true, true, true, true, true, true, true, true, true, true, true, true, true, true, true, true, true, true, true, true, true, true, true, false, false, false, false, false, false, false, false] rfl rfl (by kernel_rfl) (fun _ _ _ h => h) (Or.inl ⟨by rfl, ?_⟩) ?_ ?_
   rotate_left
   ·intro w'
    go_simp
    with_reducible rfl
   rotate_left
   ·simp only [Act.put, putA, putB, putC]
    rfl
   refine take_ (i := 30) (N := some 46) (v := ?_) (a' := ?_) #[true, true, true, true, true, true, true, true, true, true, true, true, true, true, true, true, true, true, true, true, true, true, true, true, true, true, true, true, true, true, true, false, false, false, false, false, false, false] rfl rfl (by kernel_rfl) (fun _ _ _ h => h) (Or.inl ⟨by rfl, ?_⟩) hHeld ?_ ?_
   rotate_left
   ·rintro w' ⟨s0, s1, s2, s3, s4, s5, s6, s7, s8, s9, s10, s11, s12, s13, s14, s15, s16, s17, s18, s19, s20, s21, s22, s23, s24, s25⟩
    go_simp
    with_reducible rfl
   rotate_left
   ·simp only [Act.put, putA, putB, putC]
    rfl
   refine pure_ (i := 31) (N := some 47) (v := ?_) (a' := ?_) #[true, true, true, true, true, true, true, true, true, true, true, true, true, true, true, true, true, true, true, true, true, true, true, true, true, true, true, true, true, true, true, true, false, false, false, false, false, false] rfl rfl (by kernel_rfl) (fun _ _ _ h => h) (Or.inl ⟨by rfl, ?_⟩) ?_ ?_
   rotate_left
   ·intro w'
    go_simp
    with_reducible rfl
   rotate_left
   ·simp only [Act.put, putA, putB, putC]
    rfl
   refine pure_ (i := 32) (N := some 48) (v := ?_) (a' := ?_) #[true, true, true, true, true, true, true, true, true, true, true, true, true, true, true, true, true, true, true, true, true, true, true, true, true, true, true, true, true, true, true, true, true, false, false, false, false, false] rfl rfl (by kernel_rfl) (fun _ _ _ h => h) (Or.inl ⟨by rfl, ?_⟩) ?_ ?_
   rotate_left
   ·intro w'
    go_simp
    with_reducible rfl
   rotate_left
   ·simp only [Act.put, putA, putB, putC]
    rfl
   refine pure_ (i := 33) (N := some 49) (v := ?_) (a' := ?_) #[true, true, true, true, true, true, true, true, true, true, true, true, true, true, true, true, true, true, true, true, true, true, true, true, true, true, true, true, true, true, true, true, true, true, false, false, false, false] rfl rfl (by kernel_rfl) (fun _ _ _ h => h) (Or.inl ⟨by rfl, ?_⟩) ?_ ?_
   rotate_left
   ·intro w'
    go_simp
    with_reducible rfl
   rotate_left
   ·simp only [Act.put, putA, putB, putC]
    rfl
   refine pure_ (i := 34) (N := some 50) (v := ?_) (a' := ?_) #[true, true, true, true, true, true, true, true, true, true, true, true, true, true, true, true, true, true, true, true, true, true, true, true, true, true, true, true, true, true, true, true, true, true, true, false, false, false] rfl rfl (by kernel_rfl) (fun _ _ _ h => h) (Or.inl ⟨by rfl, ?_⟩) ?_ ?_
   rotate_left
   ·intro w'
    go_simp
    with_reducible rfl
   rotate_left
   ·simp only [Act.put, putA, putB, putC]
    rfl
   refine take_ (i := 35) (N := some 51) (v := ?_) (a' := ?_) #[true, true, true, true, true, true, true, true, true, true, true, true, true, true, true, true, true, true, true, true, true, true, true, true, true, true, true, true, true, true, true, true, true, true, true, true, false, false] rfl rfl (by kernel_rfl) (fun _ _ _ h => h) (Or.inl ⟨by rfl, ?_⟩) hHeld ?_ ?_
   rotate_left
   ·rintro w' ⟨s0, s1, s2, s3, s4, s5, s6, s7, s8, s9, s10, s11, s12, s13, s14, s15, s16, s17, s18, s19, s20, s21, s22, s23, s24, s25⟩
    go_simp
    with_reducible rfl
   rotate_left
   ·simp only [Act.put, putA, putB, putC]
    rfl
   refine pure_ (i := 36) (N := some 52) (v := ?_) (a' := ?_) #[true, true, true, true, true, true, true, true, true, true, true, true, true, true, true, true, true, true, true, true, true, true, true, true, true, true, true, true, true, true, true, true, true, true, true, true, true, false] rfl rfl (by kernel_rfl) (fun _ _ _ h => h) (Or.inl ⟨by rfl, ?_⟩) ?_ ?_
   rotate_left
   ·intro w'
    go_simp
    with_reducible rfl
   rotate_left
   ·simp only [Act.put, putA, putB, putC]
    rfl
   refine pure_ (i := 37) (N := some 53) (v := ?_) (a' := ?_) #[true, true, true, true, true, true, true, true, true, true, true, true, true, true, true, true, true, true, true, true, true, true, true, true, true, true, true, true, true, true, true, true, true, true, true, true, true, true] rfl rfl (by kernel_rfl) (fun _ _ _ h => h) (Or.inl ⟨by rfl, ?_⟩) ?_ ?_
   rotate_left
   ·intro w'
    go_simp
    with_reducible rfl
   rotate_left
   ·simp only [Act.put, putA, putB, putC]
    rfl
   refine done_ (by kernel_rfl) ?_
   go_wp2_with fail
   go_roundg k
   case measure => omega
   case rel => exact ⟨j + 1, by first | rfl | (simp; done), by omega, Aside0.mk (V'.out.trans (H.all.mono V'.out.size))⟩
end Go.Proofs.YtjjfkmniffbgkaaDoor

/- The law of split, in plain lists: what play needs of a step. No program. -/
namespace Go.Proofs.YtjjfkmniffbgkaaDoor
set_option linter.unusedVariables false
set_option linter.unusedSimpArgs false
open Go.RowKit Go.Proofs.YtjjfkmniffbgkaaDoorW.PrintWords
theorem nextN_sets {b : List Int} (hl : b.length ≤ 16393) {x : Rs} (h : (nextN b).1 = some x) : x.1.sets.length ≤ 1000000 := by
 unfold nextN at h
 cases hx : nextB b with
 | none => rw [hx] at h; cases h
 | some v =>
  obtain ⟨x', b', y⟩ := v
  rw [hx] at h
  obtain rfl : x' = x := by simpa using h
  unfold nextB at hx
  split at hx
  ·cases hx
  ·split at hx
   ·cases hx
   ·split at hx
    ·obtain ⟨rfl, _, _⟩ : _ ∧ _ ∧ _ := by simpa using hx
     simp
    ·have hg := getFr_sets (b.take (headN b).toNat)
     rw [List.length_take] at hg
     split at hx
     ·obtain ⟨rfl, _, _⟩ : _ ∧ _ ∧ _ := by simpa using hx
      omega
     ·obtain ⟨rfl, _, _⟩ : _ ∧ _ ∧ _ := by simpa using hx
      omega
theorem nextS_sets {s : Sp} (hl : s.b.length ≤ 16393) {x : Rs} (h : (nextS s).1 = some x) : x.1.sets.length ≤ 1000000 := by
 unfold nextS at h
 split at h
 ·split at h
  ·obtain rfl : (noneF, 1, 1) = x := by simpa using h
   simp
  ·cases h
 ·split at h
  ·split at h
   ·obtain rfl : (noneF, 1, 1) = x := by simpa using h
    simp
   ·split at h
    ·cases h
    ·exact nextN_sets (by rw [List.length_drop]; omega) h
  ·exact nextN_sets hl h
structure PInv (w W : World) (g : Nat) (r : List Own) (p : Bool) (full : List Int) (vs vo : Value) (es : List FE) (s : Sp) (rest : List Int) (A : Option Addr) (c : Nat) : Prop where
 H : Hold w W [] ([spO g vs s, spR vs s, rowO vo es] ++ (rowT es ++ r))
 rd : ∀ (W' : World) (l' : List Own), Hold w W' [] (l' ++ r) → ReadsInt W' .u8 A rest.length rest
 le : rest.length ≤ c
 inv : SInv p full (es.map FE.x) s rest
 sets : ∀ e ∈ es, e.x.1.sets.length ≤ 1000000
 sum : es.length + spM s + rest.length ≤ full.length + 1
theorem PInv.badw {w W : World} {g : Nat} {r : List Own} {p : Bool} {full : List Int} {vs vo : Value} {es : List FE} {s : Sp} {rest : List Int} {A : Option Addr} {c : Nat} (h : PInv w W g r p full vs vo es s rest A c) : s.bad = true → s.waits = false := fun hb => (h.inv.bad hb).1
theorem PInv.more {w W W1 : World} {g : Nat} {r : List Own} {p : Bool} {full : List Int} {vs vo vs1 vo1 : Value} {es : List FE} {s : Sp} {rest : List Int} {A : Option Addr} {c : Nat} (h : PInv w W g r p full vs vo es s rest A c) (e : FE) (hx : (nextS s).1 = some e.x)
  (H : Hold w W1 [] ([spO g vs1 (nextS s).2, spR vs1 (nextS s).2, rowO vo1 (es ++ [e])] ++ (rowT (es ++ [e]) ++ r))) : PInv w W1 g r p full vs1 vo1 (es ++ [e]) (nextS s).2 rest A c ∧ spM (nextS s).2 < spM s := by
 have hless := nextS_less h.inv.bb h.badw hx
 refine ⟨⟨H, h.rd, h.le, by rw [List.map_append]; exact h.inv.next.1 _ hx, fun e' he' => ?_, ?_⟩, hless.1⟩
 ·rcases List.mem_append.1 he' with he' | he'
  ·exact h.sets e' he'
  ·obtain rfl := List.mem_singleton.1 he'
   exact nextS_sets h.inv.le hx
 ·have := h.sum
  have h2 := hless.1
  rw [List.length_append, List.length_singleton]
  omega
theorem PInv.nomore {w W W1 : World} {g : Nat} {r : List Own} {p : Bool} {full : List Int} {vs vo vs1 vo1 : Value} {es : List FE} {s : Sp} {rest : List Int} {A : Option Addr} {c : Nat} (h : PInv w W g r p full vs vo es s rest A c) (hx : (nextS s).1 = none)
  (H : Hold w W1 [] ([spO g vs1 (nextS s).2, spR vs1 (nextS s).2, rowO vo1 es] ++ (rowT es ++ r))) :
  PInv w W1 g r p full vs1 vo1 es (nextS s).2 rest A c ∧ ((nextS s).2.bad = true ∨ ((nextS s).2.bad = false ∧ (nextS s).2.b.length < 16393 ∧ nextS (nextS s).2 = (.none, (nextS s).2))) := by
 cases hb : s.bad with
 | true =>
  have e := nextS_badly hb (h.badw hb)
  rw [e] at H ⊢
  exact ⟨⟨H, h.rd, h.le, h.inv, h.sets, h.sum⟩, .inl hb⟩
 | false =>
  have hn := nextS_none hx hb
  refine ⟨⟨H, h.rd, h.le, h.inv.next.2 hx, h.sets, ?_⟩, .inr hn⟩
  have := h.sum
  have h2 : spM (nextS s).2 ≤ spM s := nextS_le hx hb
  omega
where
 nextS_le {s : Sp} (hx : (nextS s).1 = Option.none) (hb : s.bad = false) : spM (nextS s).2 ≤ spM s := by
  obtain ⟨b, w, y⟩ := s
  simp only at hb
  subst hb
  unfold nextS at hx ⊢
  simp only [Bool.false_eq_true, if_false] at hx ⊢
  cases w with
  | false =>
   simp only [Bool.false_eq_true, if_false] at hx ⊢
   rw [(nextN_none hx).1]
   exact Nat.le_refl _
  | true =>
   simp only [if_true] at hx ⊢
   cases hp : preOk b with
   | false => rw [hp] at hx; simp at hx
   | true =>
    rw [hp] at hx
    simp only [Bool.true_eq_false, if_false] at hx ⊢
    by_cases h24 : b.length < 24
    ·rw [if_pos h24]
     exact Nat.le_refl _
    ·rw [if_neg h24] at hx ⊢
     rw [(nextN_none hx).1]
     simp [spM]
theorem PInv.feed {w W W1 : World} {g : Nat} {r : List Own} {p : Bool} {full : List Int} {vs vo vs1 : Value} {es : List FE} {s : Sp} {rest : List Int} {A A1 : Option Addr} {c c1 : Nat} (h : PInv w W g r p full vs vo es s rest A c) (hb : s.bad = false) (n k : Nat) (hn : n ≤ rest.length) (hk : feedN s (rest.take n) = k)
  (H : Hold w W1 [] ([spO g vs1 ⟨s.b ++ (rest.take n).take k, s.waits, false⟩, spR vs1 ⟨s.b ++ (rest.take n).take k, s.waits, false⟩, rowO vo es] ++ (rowT es ++ r))) (rd : ∀ (W' : World) (l' : List Own), Hold w W' [] (l' ++ r) → ReadsInt W' .u8 A1 (rest.drop k).length (rest.drop k)) (le : (rest.drop k).length ≤ c1) :
  PInv w W1 g r p full vs1 vo es ⟨s.b ++ (rest.take n).take k, s.waits, false⟩ (rest.drop k) A1 c1 := by
 have hk' : k ≤ n ∧ s.b.length + k ≤ 16393 := by
  have h1 := h.inv.le
  unfold feedN at hk
  rw [List.length_take] at hk
  omega
 have e : (rest.take n).take k = rest.take k := by rw [List.take_take, Nat.min_eq_left hk'.1]
 rw [e] at H ⊢
 refine ⟨H, rd, le, h.inv.feed k hb hk'.2, h.sets, ?_⟩
 have := h.sum
 unfold spM at this ⊢
 rw [hb] at this
 simp only [Bool.false_eq_true, if_false, List.length_append, List.length_take, List.length_drop] at this ⊢
 omega
end Go.Proofs.YtjjfkmniffbgkaaDoor

/- louverlaw08.play, walked. (This text is printed by wip/gen/split10.py.) -/
namespace Go.Proofs.YtjjfkmniffbgkaaDoor
set_option linter.unusedVariables false
set_option linter.unusedSimpArgs false
open Go.RowKit Go.Proofs.YtjjfkmniffbgkaaDoorW.PrintWords Go.Proofs.YtjjfkmniffbgkaaDoorW.PrintLast Go.Proofs.YtjjfkmniffbgkaaDoorW.PrintMore Go.Proofs.YtjjfkmniffbgkaaDoor.QFrmA Go.Proofs.YtjjfkmniffbgkaaDoor.Given Go.Extern.Stop Go.Stop Go.Extern Go.Maps
attribute [local go_sem] max2_int min2_int max_two min_two
attribute [local go_sem high] eqFault
theorem Tryd.infoF : (Tryd.prog.info? 45).map (fun i => (i.zero, i.size, i.bytes)) = some (some (.agg (fC ⟨0, 0, 0, [], 0, 0, 0, 0, false, 0, []⟩ nilS nilS 0 0)), 13, 88) := by kernel_rfl
theorem Hold.assoc {w W : World} {t : List Nat} {a b r : List Own} (H : Hold w W t (a ++ (b ++ r))) : Hold w W t ((a ++ b) ++ r) := by rw [List.append_assoc]; exact H
theorem rowO_more (v : Value) (es : List FE) (e : FE) : Own.row 45 13 v (es.length + 1) (es.flatMap FE.cells ++ e.cells) = rowO v (es ++ [e]) := by
 unfold rowO
 rw [List.length_append, List.flatMap_append]
 simp
structure PHead (w W : World) (g : Nat) (r : List Own) (p : Bool) (full : List Int) (vs vo : Value) (es : List FE) (s : Sp) (rest : List Int) (A : Option Addr) (c : Nat) (j k : Nat) : Prop where
 P : PInv w W g r p full vs vo es s rest A c
 fuel : 2 * rest.length + (if 16393 ≤ s.b.length then 1 else 0) ≤ k
 jk : j + k ≤ 2 * full.length + 2
 fin : rest = [] → s.bad = false → nextS s = (none, s)
def PlayEnd (w : World) (g : Nat) (r : List Own) (p : Bool) (full : List Int) (e : Ending) (w' : World) : Prop :=
 ∃ vs vo es s, e = .returned (.tuple #[vo, .bool true]) ∧ (∃ A c, vo = .slice A es.length c) ∧ Hold w w' [] ([spO g vs s, spR vs s, rowO vo es] ++ (rowT es ++ r)) ∧ (∀ e ∈ es, e.x.1.sets.length ≤ 1000000) ∧ es.length ≤ full.length + 1 ∧ Byte8 s.b ∧ s.b.length ≤ 16393 ∧ nextS s = (none, s) ∧ allP p full = (es.map FE.x, s.b.length, s.bad)
theorem PInv.end_ {w W : World} {g : Nat} {r : List Own} {p : Bool} {full : List Int} {vs vo : Value} {es : List FE} {s : Sp} {rest : List Int} {A : Option Addr} {c : Nat} (h : PInv w W g r p full vs vo es s rest A c) (hv : ∃ A c, vo = .slice A es.length c) (hb : s.bad = true ∨ (rest = [] ∧ nextS s = (none, s))) : PlayEnd w g r p full (.returned (.tuple #[vo, .bool true])) W := by
 refine ⟨vs, vo, es, s, rfl, hv, h.H, h.sets, by have := h.sum; omega, h.inv.bb, h.inv.le, ?_, ?_⟩
 ·rcases hb with hb | ⟨_, hn⟩
  ·exact nextS_badly hb (h.badw hb)
  ·exact hn
 ·cases hbad : s.bad with
  | true =>
   obtain ⟨_, h2, h3⟩ := h.inv.bad hbad
   rw [h3, h2]
   rfl
  | false =>
   rcases hb with hb | ⟨rfl, hn⟩
   ·rw [hbad] at hb; cases hb
   ·exact h.inv.done hbad hn
set_option maxHeartbeats 16000000 in
set_option maxRecDepth 100000 in
theorem play_calls (w W : World) (g : Nat) (r : List Own) (hgv : GV w) (p : Bool) (full : List Int) (hby : Byte8 full) (hlen : full.length ≤ 10000000) (A : Option Addr) (c : Nat) (hc : full.length ≤ c) (hrd : ∀ (W' : World) (l' : List Own), Hold w W' [] (l' ++ r) → ReadsInt W' .u8 A full.length full) (As : Option Addr) (cs : Nat) (ns : List Int) (hns : Byte8 ns) (hrs : ∀ (W' : World) (l' : List Own), Hold w W' [] (l' ++ r) → ReadsInt W' .u8 As ns.length ns) (often : Int) (ho : 0 ≤ often ∧ often ≤ 255) (H0 : Hold w W [] ([spO g nilS ⟨[], p, false⟩, spR nilS ⟨[], p, false⟩] ++ r)) :
  Calls Tryd.prog 34 #[.pointer (some ⟨g, 0, none⟩), .slice A full.length c, .slice As ns.length cs, .int .u8 often] W (PlayEnd w g r p full) := by
 refine of_post0 fun R hRR => ?_
 have HP := Lib.hid hRR
 have HGV := Lib.hid hgv
 have HRS := Lib.hid (And.intro hrs hns)
 have HST := Lib.hid (And.intro hrd (And.intro hc hby))
 have H := H0
 clear hRR hgv hrs hns hrd hc hby H0
 go_enter Tryd.func34, Tryd.ntmps34
 go_wp2_with (first
  | ((with_reducible refine is_lit rfl ?_); refine emptyrow_h H rfl 45 13 (by first | (go_simp; done) | (go_simp; rfl)) ?_; clear H; intro go w_ H))
 go_loopg [1, 10, 11] (2 * full.length + 2) (fun k v1 v10 v11 wr => ∃ (j : Nat) (rest : List Int) (Ab : Option Addr) (cb : Nat) (vs : Value) (es : List FE) (s : Sp) (Ao : Option Addr) (co : Nat), v1 = .slice Ab rest.length cb ∧ v10 = .slice Ao es.length co ∧ v11 = .int .i64 (j : Int) ∧ Aside0 (PHead w wr g r p full vs (.slice Ao es.length co) es s rest Ab cb j k))
 case atStart =>
  refine ⟨0, full, A, c, nilS, [], ⟨[], p, false⟩, some ⟨go, 0, none⟩, 0, rfl, rfl, rfl, Aside0.mk ⟨⟨H.want (Want.take (by repeat (first | exact Pull.head | apply Pull.tail)) (Want.take (by repeat (first | exact Pull.head | apply Pull.tail)) (Want.take (by repeat (first | exact Pull.head | apply Pull.tail)) (Want.done (by repeat (first | exact Suf.refl | apply Suf.cons)))))), HST.out.1, HST.out.2.1, SInv.start p full HST.out.2.2, fun e he => (by cases he), by simp [spM]; omega⟩, ?_, ?_, fun h _ => ?_⟩⟩
  ·simp
  ·simp
  ·cases p <;> rfl
 case round =>
  obtain ⟨j, rest, Ab, cb, vs, es, s, Ao, co, rfl, rfl, rfl, hP⟩ := hrel
  have HPH := Lib.hid hP.out
  clear hP H
  have H := HPH.out.P.H
  by_cases hr0 : rest.length = 0
  ·have d0 : decide ((0 : Int) < (rest.length : Int)) = false := decide_eq_false (by omega)
   have d1 : decide (0 < rest.length) = false := decide_eq_false (by omega)
   go_wp2_with fail
   refine HP.out _ _ (HPH.out.P.end_ ⟨_, _, rfl⟩ ?_)
   have hr : rest = [] := List.eq_nil_of_length_eq_zero hr0
   cases hb : s.bad with
   | true => exact .inl rfl
   | false => exact .inr ⟨hr, HPH.out.fin hr hb⟩
  ·have d0 : decide ((0 : Int) < (rest.length : Int)) = true := decide_eq_true (by omega)
   have d1 : decide (0 < rest.length) = true := decide_eq_true (by omega)
   have hjk := HPH.out.jk
   have hfu := HPH.out.fuel
   go_upto_if 28 with fail
   go_cut [12] from 20 to 111 (fun v12 wc => ∃ n : Nat, v12 = .int .i64 (n : Int) ∧ 1 ≤ n ∧ n ≤ rest.length ∧ wc = wr)
   case first =>
    by_cases hjn : j < ns.length
    ·have d2 : decide ((j : Int) < (ns.length : Int)) = true := decide_eq_true (by omega)
     have d3 : decide (j < ns.length) = true := decide_eq_true hjn
     obtain ⟨ad, rfl, hcell⟩ := (HRS.out.1 wr _ (Hold.assoc H)).at_ (j : Int) (by omega) (by omega)
     have hx : 0 ≤ rd ns (j : Int) ∧ rd ns (j : Int) ≤ 255 := by
      unfold rd
      rw [List.getD_eq_getElem?_getD, Int.toNat_natCast, List.getElem?_eq_getElem hjn]
      exact HRS.out.2 _ (List.getElem_mem hjn)
     generalize rd ns (j : Int) = x at hcell hx
     rw [Int.toNat_natCast] at hcell
     obtain ⟨n, hn⟩ : ∃ n : Nat, n = min rest.length (1 + x.toNat) := ⟨_, rfl⟩
     have hmn : (if 1 + x < (rest.length : Int) then 1 + x else (rest.length : Int)) = (n : Int) := by split <;> omega
     have d4 : (j : Int) < (ns.length : Int) := by omega
     go_wp2_with fail
     go_meet
     exact ⟨n, by first | rfl | (simp; omega), by omega, by omega, rfl⟩
    ·have d2 : decide ((j : Int) < (ns.length : Int)) = false := decide_eq_false (by omega)
     have d3 : decide (j < ns.length) = false := decide_eq_false hjn
     go_wp2_with fail
     go_meet
     exact ⟨rest.length, by first | rfl | simp, by omega, Nat.le_refl _, rfl⟩
   case rest =>
    obtain ⟨n, rfl, hn1, hn2, rfl⟩ := hcut
    have hle := HPH.out.P.le
    obtain ⟨i0, hi, _, hsz, _⟩ := info_parts Tryd.infoB8
    obtain ⟨hcut, hrX, hcX⟩ := print_take_int (P := Tryd.prog) (k := .u8) 35 5 Tryd.underlying35 hi hsz Ab cb rest (n : Int) (by omega) (by omega) hle
    rw [Int.toNat_natCast] at hcut hrX hcX
    have q1 : (n : Int) ≤ (rest.length : Int) := by omega
    have q2 : wrap64 ((j : Int) + 1) = ((j + 1 : Nat) : Int) := by rw [wrap_okF (by omega) (by omega)]; omega
    obtain ⟨X, hX⟩ : ∃ X, rest.take n = X := ⟨_, rfl⟩
    rw [hX] at hcut hrX hcX
    have hXl : X.length = n := by rw [← hX, List.length_take]; omega
    cases hbad : s.bad with
    | true =>
     obtain ⟨hw0, hb0, _⟩ := HPH.out.P.inv.bad hbad
     obtain ⟨sb, sw, sy⟩ := s
     simp only at hw0 hb0 hbad
     subst hw0 hb0 hbad
     obtain ⟨A0, hcut0, hr0', hm0⟩ := print_drop_of (P := Tryd.prog) (Value.int .u8) (0 : Int) 35 5 .i64 Tryd.underlying35 hi hsz Ab cb rest 0 (by decide) (by omega) hle
     rw [show (0 : Int).toNat = 0 from rfl] at hcut0
     generalize rest.drop 0 = rest0 at hcut0
     have q3 : (if (16393 : Int) < (n : Int) then (16393 : Int) else (n : Int)) = (if (16393 : Int) < (n : Int) then (16393 : Int) else (n : Int)) := rfl
     clear hX hXl hrX hcX hr0' hm0 hi hsz q3
     go_wp2_with (first
      | (go_at_call 37; refine (bad_calls _ g _ _ _ (H.blk (by repeat (first | exact List.Mem.head _ | apply List.Mem.tail)))).mono ?_; rintro e_ w_ ⟨rfl, h_⟩; replace H := H.below h_; clear h_)
      | (go_at_call 38; refine (held_calls _ g _ ⟨[], false, true⟩ (H.sp (s := ⟨[], false, true⟩) (by repeat (first | exact List.Mem.head _ | apply List.Mem.tail)) (by repeat (first | exact List.Mem.head _ | apply List.Mem.tail)))).mono ?_; rintro e_ w_ ⟨rfl, h_⟩; replace H := H.below h_; clear h_)
      | (go_at_call 40; refine (feed_bad _ g _ ⟨[], false, true⟩ (H.sp (s := ⟨[], false, true⟩) (by repeat (first | exact List.Mem.head _ | apply List.Mem.tail)) (by repeat (first | exact List.Mem.head _ | apply List.Mem.tail))) rfl _ _ _).mono ?_; rintro e_ w_ ⟨rfl, h_⟩; replace H := H.below h_; clear h_))
     all_goals exact HP.out _ _ (PInv.end_ ⟨H, HPH.out.P.rd, HPH.out.P.le, HPH.out.P.inv, HPH.out.P.sets, HPH.out.P.sum⟩ ⟨_, _, rfl⟩ (.inl rfl))
    | false =>
     have hsl := HPH.out.P.inv.le
     obtain ⟨sb, sw, sy⟩ := s
     simp only at hbad hsl
     subst hbad
     obtain ⟨k, hk⟩ : ∃ k, feedN ⟨sb, sw, false⟩ X = k := ⟨_, rfl⟩
     have hkk : k = min n (16393 - sb.length) := by rw [← hk]; unfold feedN; simp only; omega
     have HPF := Lib.hid (fun (W1 : World) (vs1 : Value) (A1 : Option Addr) (c1 : Nat) => HPH.out.P.feed (W1 := W1) (vs1 := vs1) (A1 := A1) (c1 := c1) rfl n k hn2 (by rw [hX]; exact hk))
     have HFD := Lib.hid (fun (W1 : World) (v1 : Value) (h : IsSp W1 g v1 ⟨sb, sw, false⟩) (hR : ReadsInt W1 .u8 Ab X.length X) => feed_good W1 g v1 ⟨sb, sw, false⟩ h rfl hsl Ab cb X hR hcX)
     rw [hk] at HFD
     rw [hX] at HPF
     obtain ⟨A3, hcut3, hr3, hm3⟩ := print_drop_of (P := Tryd.prog) (Value.int .u8) (0 : Int) 35 5 .i64 Tryd.underlying35 hi hsz Ab cb rest (k : Int) (by omega) (by omega) hle
     rw [Int.toNat_natCast] at hcut3 hr3 hm3
     have q4 : (k : Int) ≤ (rest.length : Int) := by omega
     obtain ⟨b2, hb2⟩ : ∃ b2, sb ++ X.take k = b2 := ⟨_, rfl⟩
     have hb2l : b2.length = sb.length + k := by rw [← hb2, List.length_append, List.length_take]; omega
     rw [hb2] at HFD HPF
     obtain ⟨rest2, hr2⟩ : ∃ rest2, rest.drop k = rest2 := ⟨_, rfl⟩
     have hr2l : rest2.length = rest.length - k := by rw [← hr2, List.length_drop]
     rw [hr2] at hcut3 hr3 hm3 HPF
     have q3 : (if 16393 - (sb.length : Int) < (n : Int) then 16393 - (sb.length : Int) else (n : Int)) = (k : Int) := by split <;> omega
     have q5 : decide ((16393 : Int) < (b2.length : Int)) = false := decide_eq_false (by omega)
     have q6 : decide (16393 < b2.length) = false := decide_eq_false (by omega)
     have HRX := Lib.hid hrX
     have HR3 := Lib.hid (And.intro hr3 hm3)
     have HLN := Lib.hid (And.intro hXl (And.intro hb2l (And.intro hr2l hkk)))
     clear hX hXl hrX hcX hk hb2 hr2 hr3 hm3 hi hsz hb2l hr2l hle hkk
     go_upto_region 11 with (first
      | (go_at_call 38; refine (held_calls _ g _ ⟨sb, sw, false⟩ (H.sp (s := ⟨sb, sw, false⟩) (by repeat (first | exact List.Mem.head _ | apply List.Mem.tail)) (by repeat (first | exact List.Mem.head _ | apply List.Mem.tail)))).mono ?_; rintro e_ w_ ⟨rfl, h_⟩; replace H := H.below h_; clear h_)
      | (go_at_call 40; refine (HFD.out _ _ (H.sp (s := ⟨sb, sw, false⟩) (by repeat (first | exact List.Mem.head _ | apply List.Mem.tail)) (by repeat (first | exact List.Mem.head _ | apply List.Mem.tail))) (HRX.out _ (HPH.out.P.rd _ _ (Hold.assoc H)))).mono ?_; rintro e_ w_ ⟨vs2, rfl, h_⟩; replace H := Hold.call (H.pull2 (by repeat (first | exact Pull.head | apply Pull.tail)) (by repeat (first | exact Pull.head | apply Pull.tail))) h_; clear h_))
     go_upto_block 2 with (first
      | (go_at_call 37; refine (bad_calls _ g _ _ _ (H.blk (by repeat (first | exact List.Mem.head _ | apply List.Mem.tail)))).mono ?_; rintro e_ w_ ⟨rfl, h_⟩; replace H := H.below h_; clear h_)
      | (go_at_call 38; refine (held_calls _ g _ ⟨b2, sw, false⟩ (H.sp (s := ⟨b2, sw, false⟩) (by repeat (first | exact List.Mem.head _ | apply List.Mem.tail)) (by repeat (first | exact List.Mem.head _ | apply List.Mem.tail)))).mono ?_; rintro e_ w_ ⟨rfl, h_⟩; replace H := H.below h_; clear h_))
     have P2 := Lib.hid (HPF.out _ _ _ _ H (fun W' l' h => HR3.out.1 W' (HPH.out.P.rd W' l' h)) HR3.out.2)
     obtain ⟨K0, hK0⟩ : ∃ K0, gk = K0 := ⟨_, rfl⟩
     go_cut [10] from 20 to 111 (fun v10 wc => ∃ (vs3 : Value) (es3 : List FE) (s3 : Sp) (Ao3 : Option Addr) (co3 : Nat), v10 = .slice Ao3 es3.length co3 ∧ Aside0 (PInv w wc g r p full vs3 (.slice Ao3 es3.length co3) es3 s3 rest2 A3 (cb - k)) ∧ Aside0 ((k = n ∧ rest2.length ≠ 0) ∨ (s3.bad = true ∨ (s3.bad = false ∧ s3.b.length < 16393 ∧ nextS s3 = (none, s3)))))
     case first =>
      go_wp2_with fail
      go_loopg [10] (spM ⟨b2, sw, false⟩) (fun kk v10 wr2 => ∃ (vs3 : Value) (es3 : List FE) (s3 : Sp) (Ao3 : Option Addr) (co3 : Nat), v10 = .slice Ao3 es3.length co3 ∧ Aside0 (PInv w wr2 g r p full vs3 (.slice Ao3 es3.length co3) es3 s3 rest2 A3 (cb - k)) ∧ spM s3 ≤ kk)
      case atStart => exact ⟨vs2, es, ⟨b2, sw, false⟩, Ao, co, rfl, Aside0.mk P2.out, Nat.le_refl _⟩
      case round =>
       obtain ⟨vs3, es3, s3, Ao3, co3, rfl, hP3, hM3⟩ := hrel
       have HP3 := Lib.hid hP3.out
       clear hP3 H
       have H := HP3.out.H
       go_upto_region 18 with fail
       go_cut [85] from 67 to 102 (fun v85 wc => ∃ C : Bool, v85 = .bool C ∧ (C = false → k = n ∧ rest2.length ≠ 0) ∧ wc = wr)
       case first =>
        have hkn := HLN.out.2.2.2
        by_cases c1 : k < n
        ·have d1 : decide ((k : Int) < (n : Int)) = true := decide_eq_true (by omega)
         have d2 : decide (k < n) = true := decide_eq_true c1
         clear hkn
         go_wp2_with fail
         go_meet
         exact ⟨true, rfl, (fun h => by cases h), rfl⟩
        ·have d1 : decide ((k : Int) < (n : Int)) = false := decide_eq_false (by omega)
         have d2 : decide (k < n) = false := decide_eq_false c1
         have hkn2 : k = n := by omega
         have HKN := Lib.hid hkn2
         clear hkn hkn2
         by_cases c2 : often = 0
         ·have d3 : (often == 0) = true := by simpa using c2
          have d4 : decide (often = 0) = true := decide_eq_true c2
          clear c2
          go_wp2_with fail
          go_meet
          exact ⟨true, rfl, (fun h => by cases h), rfl⟩
         ·have d3 : (often == 0) = false := by simpa using c2
          have d4 : decide (often = 0) = false := decide_eq_false c2
          have HC2 := Lib.hid c2
          go_wp2_with fail
          ·go_meet
           exact ⟨true, rfl, (fun h => by cases h), rfl⟩
          ·go_meet
           exact ⟨_, rfl, (fun h => ⟨HKN.out, by intro h0; simp at h; exact h.2 (List.eq_nil_of_length_eq_zero h0)⟩), rfl⟩
       case rest =>
        obtain ⟨C, rfl, hC, rfl⟩ := hcut
        have HCC := Lib.hid hC
        clear hC
        have hes : es3.length ≤ 10000001 := by have := HP3.out.sum; omega
        cases C with
        | false =>
         go_wp2_with fail
         go_meet
         exact ⟨vs3, es3, s3, Ao3, co3, rfl, Aside0.mk HP3.out, Aside0.mk (.inl (by first | exact HCC.out rfl | exact HCC.out trivial | exact HCC.out))⟩
        | true =>
         have hnx := fun (W1 : World) (v1 : Value) (h : IsSp W1 g v1 s3) (hg : ∀ W2, Kept W1 W2 (ats [spO g v1 s3, spR v1 s3]) → GV W2) => next_calls W1 g v1 s3 h hg HP3.out.inv.bb HP3.out.inv.le
         obtain ⟨s4, hs4⟩ : ∃ s4, (nextS s3).2 = s4 := ⟨_, rfl⟩
         cases hN : (nextS s3).1 with
         | none =>
          have hmr := fun (W1 : World) (vs1 vo1 : Value) => HP3.out.nomore (W1 := W1) (vs1 := vs1) (vo1 := vo1) hN
          rw [hN, hs4] at hnx
          rw [hs4] at hmr
          simp only [Option.getD_none, Option.isSome_none] at hnx
          have HNX := Lib.hid hnx
          have HMR := Lib.hid hmr
          clear hnx hmr hs4 hN
          go_wp2_with (first
           | (go_at_call 39; refine (HNX.out _ _ (H.sp (s := s3) (by repeat (first | exact List.Mem.head _ | apply List.Mem.tail)) (by repeat (first | exact List.Mem.head _ | apply List.Mem.tail))) (Hold.gv H HGV.out (Want.take (by repeat (first | exact Pull.head | apply Pull.tail)) (Want.take (by repeat (first | exact Pull.head | apply Pull.tail)) (Want.done (by repeat (first | exact Suf.refl | apply Suf.cons))))))).mono ?_; rintro e_ w_ ⟨vs4, Ap, cp, Bp, mp, rfl, h_⟩; replace H := Hold.call (H.pull2 (by repeat (first | exact Pull.head | apply Pull.tail)) (by repeat (first | exact Pull.head | apply Pull.tail))) h_; clear h_)
           | ((with_reducible refine is_alloc (ty := 38) rfl ?_); refine alloc_h H rfl rfl (cs := (frC ⟨0, 0, 0, [], 0, 0, 0, 0, false, 0, []⟩ nilS nilS).toList) (by first | (go_simp; done) | (go_simp; rfl)) ?_; clear H; intro gF w_ H)
           | ((with_reducible refine is_alloc (ty := 24) rfl ?_); refine alloc_h H rfl rfl (cs := [.int .u8 0, .int .u32 0]) (by first | (go_simp; done) | (go_simp; rfl)) ?_; clear H; intro gE w_ H)
           | ((with_reducible refine is_store rfl ?_); (try simp only [Act.put, putA, putB, putC]); refine store_h H rfl rfl rfl rfl rfl (by repeat (first | exact Put.head | apply Put.tail)) (by kernel_rfl) (Nat.le_of_ble_eq_true rfl) rfl ?_; clear H; intro w_ H; simp only [setC, Value.cells, List.toList_toArray] at H))
          go_meet
          have h_ := HMR.out _ _ _ (H.want (Want.take (by repeat (first | exact Pull.head | apply Pull.tail)) (Want.take (by repeat (first | exact Pull.head | apply Pull.tail)) (Want.take (by repeat (first | exact Pull.head | apply Pull.tail)) (Want.done (by repeat (first | exact Suf.refl | apply Suf.cons)))))))
          exact ⟨_, es3, s4, Ao3, co3, rfl, Aside0.mk h_.1, Aside0.mk (.inr h_.2)⟩
         | some x =>
          have hmr := fun (e : FE) (he : e.x = x) (W1 : World) (vs1 vo1 : Value) => HP3.out.more (W1 := W1) (vs1 := vs1) (vo1 := vo1) e (by rw [he]; exact hN)
          rw [hN, hs4] at hnx
          rw [hs4] at hmr
          simp only [Option.getD_some, Option.isSome_some] at hnx
          obtain ⟨F, sc, cd⟩ := x
          have HNX := Lib.hid hnx
          have HMR := Lib.hid (And.intro hmr hM3)
          clear hnx hmr hs4 hN hM3
          go_wp2_with (first
           | (go_at_call 39; refine (HNX.out _ _ (H.sp (s := s3) (by repeat (first | exact List.Mem.head _ | apply List.Mem.tail)) (by repeat (first | exact List.Mem.head _ | apply List.Mem.tail))) (Hold.gv H HGV.out (Want.take (by repeat (first | exact Pull.head | apply Pull.tail)) (Want.take (by repeat (first | exact Pull.head | apply Pull.tail)) (Want.done (by repeat (first | exact Suf.refl | apply Suf.cons))))))).mono ?_; rintro e_ w_ ⟨vs4, Ap, cp, Bp, mp, rfl, h_⟩; replace H := Hold.call (H.pull2 (by repeat (first | exact Pull.head | apply Pull.tail)) (by repeat (first | exact Pull.head | apply Pull.tail))) h_; clear h_)
           | ((with_reducible refine is_alloc (ty := 38) rfl ?_); refine alloc_h H rfl rfl (cs := (frC ⟨0, 0, 0, [], 0, 0, 0, 0, false, 0, []⟩ nilS nilS).toList) (by first | (go_simp; done) | (go_simp; rfl)) ?_; clear H; intro gF w_ H)
           | ((with_reducible refine is_alloc (ty := 24) rfl ?_); refine alloc_h H rfl rfl (cs := [.int .u8 0, .int .u32 0]) (by first | (go_simp; done) | (go_simp; rfl)) ?_; clear H; intro gE w_ H)
           | ((with_reducible refine is_store (ty := 38) rfl ?_); refine store_h H rfl rfl rfl rfl (u := .agg (frC F (.slice Ap F.data.length cp) (.slice Bp F.sets.length mp))) rfl (by repeat (first | exact Put.head | apply Put.tail)) (by kernel_rfl) (Nat.le_of_ble_eq_true rfl) rfl ?_; clear H; intro w_ H; simp only [setC, Value.cells, List.toList_toArray] at H)
           | ((with_reducible refine is_store (ty := 24) rfl ?_); refine store_h H rfl rfl rfl rfl (u := .agg #[.int .u8 sc, .int .u32 cd]) rfl (by repeat (first | exact Put.head | apply Put.tail)) (by kernel_rfl) (Nat.le_of_ble_eq_true rfl) rfl ?_; clear H; intro w_ H; simp only [setC, Value.cells, List.toList_toArray] at H)
           | ((with_reducible refine is_load (ty := 38) rfl ?_); refine load_h H rfl rfl rfl (by repeat (first | exact List.Mem.head _ | apply List.Mem.tail)) (by kernel_rfl) (by kernel_rfl) ?_)
           | ((with_reducible refine is_load rfl ?_); refine loadf_h H rfl rfl rfl (by repeat (first | exact List.Mem.head _ | apply List.Mem.tail)) rfl (by kernel_rfl) ?_)
           | ((with_reducible refine is_lit rfl ?_); refine onerow_h H rfl (e := 45) (cs := (fC F (.slice Ap F.data.length cp) (.slice Bp F.sets.length mp) sc cd).toList) (by first | (go_simp; done) | (go_simp; rfl)) ?_; clear H; intro gl w_ H)
           | ((with_reducible refine is_call rfl ?_); refine appends_h H rfl rfl Tryd.underlying61 Tryd.infoF rfl (by decide) rfl rfl (g := gl) (by repeat (first | exact List.Mem.head _ | apply List.Mem.tail)) rfl rfl (fun y => (by repeat (first | exact Put.head | apply Put.tail))) (by omega) (by omega) ?_; clear H; intro vo4 w_ H))
          obtain ⟨A4, c4, e4⟩ := own_slice (H.ok (.row 45 13 vo4 (es3.length + 1) (es3.flatMap FE.cells ++ (FE.mk (F, sc, cd) Ap cp Bp mp).cells)) (by repeat (first | exact List.Mem.head _ | apply List.Mem.tail)))
          subst e4
          have h_ := HMR.out.1 ⟨(F, sc, cd), Ap, cp, Bp, mp⟩ rfl _ vs4 (.slice A4 (es3.length + 1) c4) (by rw [rowT_more, ← rowO_more]; exact H.want (Want.take (by repeat (first | exact Pull.head | apply Pull.tail)) (Want.take (by repeat (first | exact Pull.head | apply Pull.tail)) (Want.take (by repeat (first | exact Pull.head | apply Pull.tail)) (Want.take (by repeat (first | exact Pull.head | apply Pull.tail)) (Want.done (by repeat (first | exact Suf.refl | apply Suf.cons))))))))
          have hm4 := HMR.out.2
          obtain ⟨kk, hkk2⟩ : ∃ kk, gk = kk + 1 := ⟨gk - 1, by have := h_.2; omega⟩
          go_roundg kk
          case measure => omega
          case rel => exact ⟨vs4, es3 ++ [⟨(F, sc, cd), Ap, cp, Bp, mp⟩], s4, A4, c4, by simp, Aside0.mk (by have h2_ := h_.1; rw [show (.slice A4 (es3.length + 1) c4 : Value) = .slice A4 (es3 ++ [(⟨(F, sc, cd), Ap, cp, Bp, mp⟩ : FE)]).length c4 by simp] at h2_; exact h2_), by have := h_.2; omega⟩
     case rest =>
      obtain ⟨vs3, es3, s3, Ao3, co3, rfl, hP3, hD3⟩ := hcut
      have HP3 := Lib.hid hP3.out
      have hkn := HLN.out.2.2.2
      have hr2l := HLN.out.2.2.1
      have hbl : k < n → s3.b.length < 16393 := fun hlt => by
       rcases hD3.out with ⟨h1, _⟩ | h1 | ⟨_, h1, _⟩
       ·omega
       ·rw [(HP3.out.inv.bad h1).2.1]
        decide
       ·exact h1
      have hfin : rest2 = [] → s3.bad = false → nextS s3 = (none, s3) := fun h0 hb => by
       rcases hD3.out with ⟨_, h1⟩ | h1 | ⟨_, _, h1⟩
       ·rw [h0] at h1
        exact absurd rfl h1
       ·rw [hb] at h1
        cases h1
       ·exact h1
      have hf1 : k < n → 2 * rest2.length + (if 16393 ≤ s3.b.length then 1 else 0) < gk := fun hlt => by
       have h1 := hbl hlt
       rw [if_neg (by omega)]
       split at hfu <;> omega
      have hf2 : ¬ k < n → 2 * rest2.length + (if 16393 ≤ s3.b.length then 1 else 0) < gk := fun hlt => by
       split at hfu <;> split <;> omega
      have HFN := Lib.hid (And.intro hfin (And.intro hf1 (And.intro hf2 hjk)))
      clear hfin hf1 hf2 hD3 hP3 H hkn hr2l hfu hjk
      have H := HP3.out.H
      by_cases c1 : k < n
      ·have d1 : decide ((k : Int) < (n : Int)) = true := decide_eq_true (by omega)
       have d2 : decide (k < n) = true := decide_eq_true c1
       have d3 : decide ((16393 : Int) ≤ (s3.b.length : Int)) = false := decide_eq_false (by have := hbl c1; omega)
       have d4 : decide (16393 ≤ s3.b.length) = false := decide_eq_false (by have := hbl c1; omega)
       clear hbl
       go_wp2_with (first
        | (go_at_call 38; refine (held_calls _ g _ s3 (H.sp (s := s3) (by repeat (first | exact List.Mem.head _ | apply List.Mem.tail)) (by repeat (first | exact List.Mem.head _ | apply List.Mem.tail)))).mono ?_; rintro e_ w_ ⟨rfl, h_⟩; replace H := H.below h_; clear h_))
       have hlt := HFN.out.2.1 c1
       go_roundg (gk - 1)
       case measure => omega
       case rel => exact ⟨j + 1, rest2, A3, cb - k, vs3, es3, s3, Ao3, co3, rfl, rfl, by simp, Aside0.mk ⟨⟨H, HP3.out.rd, HP3.out.le, HP3.out.inv, HP3.out.sets, HP3.out.sum⟩, by omega, by have := HFN.out.2.2.2; omega, HFN.out.1⟩⟩
      ·have d1 : decide ((k : Int) < (n : Int)) = false := decide_eq_false (by omega)
       have d2 : decide (k < n) = false := decide_eq_false c1
       clear hbl
       go_wp2_with fail
       have hlt := HFN.out.2.2.1 c1
       go_roundg (gk - 1)
       case measure => omega
       case rel => exact ⟨j + 1, rest2, A3, cb - k, vs3, es3, s3, Ao3, co3, rfl, rfl, by simp, Aside0.mk ⟨⟨H, HP3.out.rd, HP3.out.le, HP3.out.inv, HP3.out.sets, HP3.out.sum⟩, by omega, by have := HFN.out.2.2.2; omega, HFN.out.1⟩⟩
end Go.Proofs.YtjjfkmniffbgkaaDoor

/- SplitNil, walked. (This text is printed by wip/gen/split7.py.) -/
namespace Go.Proofs.YtjjfkmniffbgkaaDoor
set_option linter.unusedVariables false
set_option linter.unusedSimpArgs false
open Go.RowKit Go.Proofs.YtjjfkmniffbgkaaDoorW.PrintWords Go.Proofs.YtjjfkmniffbgkaaDoorW.PrintLast Go.Proofs.YtjjfkmniffbgkaaDoorW.PrintMore Go.Proofs.YtjjfkmniffbgkaaDoor.QFrmA Go.Proofs.YtjjfkmniffbgkaaDoor.Given Go.Extern.Stop Go.Stop Go.Extern Go.Maps
attribute [local go_sem high] eqFault
theorem rpre_calls (w : World) : Calls Tryd.prog 42 #[] w fun e w' => e = .returned (.string (strOfNums pre24)) ∧ Below w.heap.size w w' := by
 go_enter Tryd.func42, Tryd.ntmps42
 go_wp2
 go_ret
 exact ⟨by rw [pre_str]; rfl, Below.refl _ _⟩
end Go.Proofs.YtjjfkmniffbgkaaDoor

/- The reference of frames: Number. -/
namespace Go.Proofs.YtjjfkmniffbgkaaDoor
set_option linter.unusedVariables false
set_option linter.unusedSimpArgs false
open Go.RowKit Go.Proofs.YtjjfkmniffbgkaaDoorW.PrintWords Go.Proofs.YtjjfkmniffbgkaaDoorW.PrintLast Go.Proofs.YtjjfkmniffbgkaaDoorW.PrintMore Go.Proofs.YtjjfkmniffbgkaaDoor.QFrmA Go.Proofs.YtjjfkmniffbgkaaDoor.Given Go.Extern.Stop Go.Stop Go.Extern Go.Maps
theorem strs_append (a b : List Int) : strOfNums a ++ strOfNums b = strOfNums (a ++ b) := by
 refine bytes_ext ?_
 simp [strOfNums]
end Go.Proofs.YtjjfkmniffbgkaaDoor
