/- Texts of this claim, put together: Split5, Split6, Split9, OpenFrs, HoldS, RfMayD, RfPut. -/
import Derived.Test.YtjjfkmniffbgkaaDoorMSplitFrames9
import Derived.Lib.SlBytesConst
import Derived.Test.YtjjfkmniffbgkaaDoorMSplitFrames8
import Derived.Test.YtjjfkmniffbgkaaDoorMSplitFrames7
import Derived.Lib.AppendStr
import Derived.Deep.CutRange
import Derived.Test.YtjjfkmniffbgkaaDoorMSplitFrames0
/- The chapter's frame (SETTINGS without anything), put: walked as it stands. (This text is printed by wip/gen/split5.py.) -/
namespace Go.Proofs.YtjjfkmniffbgkaaDoor
set_option linter.unusedVariables false
set_option linter.unusedSimpArgs false
open Go.RowKit Go.Proofs.YtjjfkmniffbgkaaDoorW.PrintWords Go.Proofs.YtjjfkmniffbgkaaDoorW.PrintLast Go.Proofs.YtjjfkmniffbgkaaDoorW.PrintMore Go.Proofs.YtjjfkmniffbgkaaDoor.QFrmA Go.Proofs.YtjjfkmniffbgkaaDoor.Given Go.Extern.Stop Go.Stop Go.Extern Go.Maps
attribute [local go_sem] max2_int min2_int max_two min_two
set_option maxHeartbeats 4000000 in
set_option maxRecDepth 100000 in
theorem pads0 (w : World) : Calls Tryd.prog 48 #[.int .u8 4] w fun e w' => e = .returned (.bool false) ∧ Below w.heap.size w w' := by
 refine of_post0 fun R hRR => ?_
 have HP := Lib.hid hRR
 clear hRR
 have H : Hold w w [] [] := Hold.nothing (Kept.refl _ _)
 go_enter Tryd.func48, Tryd.ntmps48
 go_wp2_with (first
  | ((with_reducible refine is_box rfl ?_); refine box_h H rfl rfl rfl rfl ?_; clear H; intro g w_ H)
  | ((with_reducible refine is_load (ty := 38) rfl ?_); refine load_h H rfl rfl rfl (by repeat (first | exact List.Mem.head _ | apply List.Mem.tail)) (by kernel_rfl) (by kernel_rfl) ?_)
  | ((with_reducible refine is_load (ty := 38) rfl ?_); refine load_g H rfl rfl (by repeat (first | exact List.Mem.head _ | apply List.Mem.tail)) (by kernel_rfl) (by kernel_rfl) (by rfl) ?_)
  | ((with_reducible refine is_load rfl ?_); refine loadf_h H rfl rfl rfl (by repeat (first | exact List.Mem.head _ | apply List.Mem.tail)) rfl (by kernel_rfl) ?_)
  | ((with_reducible refine is_load rfl ?_); refine loadf_g H rfl rfl (by repeat (first | exact List.Mem.head _ | apply List.Mem.tail)) rfl (by kernel_rfl) (by rfl) ?_))
 exact HP.out _ _ ⟨rfl, H.all⟩
set_option maxHeartbeats 4000000 in
set_option maxRecDepth 100000 in
theorem leans0 (w : World) : Calls Tryd.prog 74 #[.agg #[.int .u8 4, .int .u8 0, .int .u32 0, .slice none 0 0, .int .i64 (-1), .int .u32 0, .int .u32 0, .int .u8 0, .bool false, .int .u32 0, .slice none 0 0]] w fun e w' => e = .returned (.bool false) ∧ Below w.heap.size w w' := by
 refine of_post0 fun R hRR => ?_
 have HP := Lib.hid hRR
 clear hRR
 have H : Hold w w [] [] := Hold.nothing (Kept.refl _ _)
 go_enter Tryd.func74, Tryd.ntmps74
 go_wp2_with (first
  | ((with_reducible refine is_box rfl ?_); refine box_h H rfl rfl rfl rfl ?_; clear H; intro g w_ H)
  | ((with_reducible refine is_load (ty := 38) rfl ?_); refine load_h H rfl rfl rfl (by repeat (first | exact List.Mem.head _ | apply List.Mem.tail)) (by kernel_rfl) (by kernel_rfl) ?_)
  | ((with_reducible refine is_load (ty := 38) rfl ?_); refine load_g H rfl rfl (by repeat (first | exact List.Mem.head _ | apply List.Mem.tail)) (by kernel_rfl) (by kernel_rfl) (by rfl) ?_)
  | ((with_reducible refine is_load rfl ?_); refine loadf_h H rfl rfl rfl (by repeat (first | exact List.Mem.head _ | apply List.Mem.tail)) rfl (by kernel_rfl) ?_)
  | ((with_reducible refine is_load rfl ?_); refine loadf_g H rfl rfl (by repeat (first | exact List.Mem.head _ | apply List.Mem.tail)) rfl (by kernel_rfl) (by rfl) ?_))
 exact HP.out _ _ ⟨rfl, H.all⟩
set_option maxHeartbeats 4000000 in
set_option maxRecDepth 100000 in
theorem fields0 (w : World) : Calls Tryd.prog 49 #[.agg #[.int .u8 4, .int .u8 0, .int .u32 0, .slice none 0 0, .int .i64 (-1), .int .u32 0, .int .u32 0, .int .u8 0, .bool false, .int .u32 0, .slice none 0 0]] w fun e w' => e = .returned (.bool true) ∧ Below w.heap.size w w' := by
 refine of_post0 fun R hRR => ?_
 have HP := Lib.hid hRR
 clear hRR
 have H : Hold w w [] [] := Hold.nothing (Kept.refl _ _)
 go_enter Tryd.func49, Tryd.ntmps49
 go_wp2_with (first
  | ((with_reducible refine is_box rfl ?_); refine box_h H rfl rfl rfl rfl ?_; clear H; intro g w_ H)
  | (go_at_call 74; refine (leans0 _).mono ?_; rintro e_ w_ ⟨rfl, h_⟩; replace H := H.below h_; clear h_)
  | ((with_reducible refine is_load (ty := 38) rfl ?_); refine load_h H rfl rfl rfl (by repeat (first | exact List.Mem.head _ | apply List.Mem.tail)) (by kernel_rfl) (by kernel_rfl) ?_)
  | ((with_reducible refine is_load (ty := 38) rfl ?_); refine load_g H rfl rfl (by repeat (first | exact List.Mem.head _ | apply List.Mem.tail)) (by kernel_rfl) (by kernel_rfl) (by rfl) ?_)
  | ((with_reducible refine is_load rfl ?_); refine loadf_h H rfl rfl rfl (by repeat (first | exact List.Mem.head _ | apply List.Mem.tail)) rfl (by kernel_rfl) ?_)
  | ((with_reducible refine is_load rfl ?_); refine loadf_g H rfl rfl (by repeat (first | exact List.Mem.head _ | apply List.Mem.tail)) rfl (by kernel_rfl) (by rfl) ?_))
 exact HP.out _ _ ⟨rfl, H.all⟩
set_option maxHeartbeats 4000000 in
set_option maxRecDepth 100000 in
theorem payload0 (w : World) : Calls Tryd.prog 46 #[.agg #[.int .u8 4, .int .u8 0, .int .u32 0, .slice none 0 0, .int .i64 (-1), .int .u32 0, .int .u32 0, .int .u8 0, .bool false, .int .u32 0, .slice none 0 0]] w fun e w' => e = .returned (.slice none 0 0) ∧ Below w.heap.size w w' := by
 refine of_post0 fun R hRR => ?_
 have HP := Lib.hid hRR
 clear hRR
 have H : Hold w w [] [] := Hold.nothing (Kept.refl _ _)
 go_enter Tryd.func46, Tryd.ntmps46
 go_wp2_with (first
  | ((with_reducible refine is_box rfl ?_); refine box_h H rfl rfl rfl rfl ?_; clear H; intro g w_ H)
  | (go_at_call 74; refine (leans0 _).mono ?_; rintro e_ w_ ⟨rfl, h_⟩; replace H := H.below h_; clear h_)
  | ((with_reducible refine is_load (ty := 38) rfl ?_); refine load_h H rfl rfl rfl (by repeat (first | exact List.Mem.head _ | apply List.Mem.tail)) (by kernel_rfl) (by kernel_rfl) ?_)
  | ((with_reducible refine is_load (ty := 38) rfl ?_); refine load_g H rfl rfl (by repeat (first | exact List.Mem.head _ | apply List.Mem.tail)) (by kernel_rfl) (by kernel_rfl) (by rfl) ?_)
  | ((with_reducible refine is_load rfl ?_); refine loadf_h H rfl rfl rfl (by repeat (first | exact List.Mem.head _ | apply List.Mem.tail)) rfl (by kernel_rfl) ?_)
  | ((with_reducible refine is_load rfl ?_); refine loadf_g H rfl rfl (by repeat (first | exact List.Mem.head _ | apply List.Mem.tail)) rfl (by kernel_rfl) (by rfl) ?_))
 go_loopg [3, 28] 0 (fun k v3 v28 wr => v3 = .slice none 0 0 ∧ v28 = .int .i64 0 ∧ Hold w wr [] [cl g [.int .u8 4, .int .u8 0, .int .u32 0, .slice none 0 0, .int .i64 (-1), .int .u32 0, .int .u32 0, .int .u8 0, .bool false, .int .u32 0, .slice none 0 0] 38])
 case atStart => exact ⟨rfl, rfl, H⟩
 case round =>
  obtain ⟨rfl, rfl, H⟩ := hrel
  go_wp2_with (first
  | (go_at_call 74; refine (leans0 _).mono ?_; rintro e_ w_ ⟨rfl, h_⟩; replace H := H.below h_; clear h_)
  | ((with_reducible refine is_load (ty := 38) rfl ?_); refine load_h H rfl rfl rfl (by repeat (first | exact List.Mem.head _ | apply List.Mem.tail)) (by kernel_rfl) (by kernel_rfl) ?_)
  | ((with_reducible refine is_load (ty := 38) rfl ?_); refine load_g H rfl rfl (by repeat (first | exact List.Mem.head _ | apply List.Mem.tail)) (by kernel_rfl) (by kernel_rfl) (by rfl) ?_)
  | ((with_reducible refine is_load rfl ?_); refine loadf_h H rfl rfl rfl (by repeat (first | exact List.Mem.head _ | apply List.Mem.tail)) rfl (by kernel_rfl) ?_)
  | ((with_reducible refine is_load rfl ?_); refine loadf_g H rfl rfl (by repeat (first | exact List.Mem.head _ | apply List.Mem.tail)) rfl (by kernel_rfl) (by rfl) ?_))
  exact HP.out _ _ ⟨rfl, H.all⟩
set_option maxHeartbeats 4000000 in
set_option maxRecDepth 100000 in
theorem may0 (w : World) : Calls Tryd.prog 22 #[.agg #[.int .u8 4, .int .u8 0, .int .u32 0, .slice none 0 0, .int .i64 (-1), .int .u32 0, .int .u32 0, .int .u8 0, .bool false, .int .u32 0, .slice none 0 0]] w fun e w' => e = .returned (.bool true) ∧ Below w.heap.size w w' := by
 refine of_post0 fun R hRR => ?_
 have HP := Lib.hid hRR
 clear hRR
 have H : Hold w w [] [] := Hold.nothing (Kept.refl _ _)
 go_enter Tryd.func22, Tryd.ntmps22
 go_wp2_with (first
  | ((with_reducible refine is_box rfl ?_); refine box_h H rfl rfl rfl rfl ?_; clear H; intro g w_ H)
  | (go_at_call 48; refine (pads0 _).mono ?_; rintro e_ w_ ⟨rfl, h_⟩; replace H := H.below h_; clear h_)
  | (go_at_call 49; refine (fields0 _).mono ?_; rintro e_ w_ ⟨rfl, h_⟩; replace H := H.below h_; clear h_)
  | (go_at_call 46; refine (payload0 _).mono ?_; rintro e_ w_ ⟨rfl, h_⟩; replace H := H.below h_; clear h_)
  | ((with_reducible refine is_load (ty := 38) rfl ?_); refine load_h H rfl rfl rfl (by repeat (first | exact List.Mem.head _ | apply List.Mem.tail)) (by kernel_rfl) (by kernel_rfl) ?_)
  | ((with_reducible refine is_load (ty := 38) rfl ?_); refine load_g H rfl rfl (by repeat (first | exact List.Mem.head _ | apply List.Mem.tail)) (by kernel_rfl) (by kernel_rfl) (by rfl) ?_)
  | ((with_reducible refine is_load rfl ?_); refine loadf_h H rfl rfl rfl (by repeat (first | exact List.Mem.head _ | apply List.Mem.tail)) rfl (by kernel_rfl) ?_)
  | ((with_reducible refine is_load rfl ?_); refine loadf_g H rfl rfl (by repeat (first | exact List.Mem.head _ | apply List.Mem.tail)) rfl (by kernel_rfl) (by rfl) ?_))
 exact HP.out _ _ ⟨rfl, H.all⟩
theorem reads_one {w : World} {g : Nat} {x : Int} {e : TypeId} (h : w.heap[g]? = some (.cells #[.int .u8 x] e (0, 0))) : ReadsInt w .u8 (some ⟨g, 0, none⟩) 1 [x] := by
 refine ⟨rfl, by decide, fun _ => ⟨_, rfl, fun j hj => ?_⟩⟩
 obtain rfl : j = 0 := by omega
 exact blk_cell h 0
theorem more_zero (xs : List Int) (n : Nat) : (xs ++ List.replicate n 0) ++ [0] = xs ++ List.replicate (n + 1) 0 := by
 rw [List.append_assoc, List.replicate_succ']
set_option maxHeartbeats 4000000 in
set_option maxRecDepth 100000 in
theorem put3_0 (w : World) (v : Value) (xs : List Int) (h : w.ownsRow 0 5 1 v xs.length (nums .u8 xs)) (hx : xs.length ≤ 1000) :
  Calls Tryd.prog 47 #[v, .int .u32 0, .int .i64 3] w fun e w' => ∃ v', e = .returned v' ∧ Hold w w' (ats [nrow 5 v .u8 xs]) [nrow 5 v' .u8 (xs ++ List.replicate 3 0)] := by
 refine of_post0 fun R hRR => ?_
 have HP := Lib.hid hRR
 clear hRR
 have H : Hold w w (ats [nrow 5 v .u8 xs]) [nrow 5 v .u8 xs] := Hold.start (ok1 h) (pair1 _)
 clear h
 go_enter Tryd.func47, Tryd.ntmps47
 go_wp2_with fail
 go_loopg [0, 7] 3 (fun k v0 v7 wr => v7 = .int .i64 (8 * (k : Int) - 8) ∧ k ≤ 3 ∧ Hold w wr (ats [nrow 5 v .u8 xs]) [nrow 5 v0 .u8 (xs ++ List.replicate (3 - k) 0)])
 case atStart => exact ⟨rfl, Nat.le_refl _, by simpa using H⟩
 case round =>
  obtain ⟨rfl, hk, H⟩ := hrel
  have hcase : gk = 0 ∨ gk = 1 ∨ gk = 2 ∨ gk = 3 := by omega
  clear hk
  rcases hcase with rfl | rfl | rfl | rfl
  ·go_wp2_with fail
   exact HP.out _ _ ⟨_, rfl, H⟩
  ·go_wp2_with (first
    | ((with_reducible refine is_lit rfl ?_); refine onerow_h H rfl (e := 5) (cs := [.int .u8 0]) (by first | (go_simp; done) | (go_simp; rfl)) ?_; clear H; intro gl w_ H)
    | ((with_reducible refine is_call rfl ?_); refine append_h H rfl rfl 1 Tryd.underlying35 Tryd.infoB8 (by decide) [0] rfl rfl (fun y => (by repeat (first | exact Put.head | apply Put.tail))) (reads_one (H.blk (g := gl) (by repeat (first | exact List.Mem.head _ | apply List.Mem.tail)))) (by simp; omega) ?_; clear H; intro v1_ w_ H))
   go_roundg 0
   case measure => omega
   case rel => exact ⟨rfl, by decide, by have h_ := H.want (l' := [nrow 5 v1_ .u8 ((xs ++ List.replicate (3 - 1) 0) ++ [0])]) (Want.take (by repeat (first | exact Pull.head | apply Pull.tail)) (Want.done (by repeat (first | exact Suf.refl | apply Suf.cons)))); rw [more_zero] at h_; exact h_⟩
  ·go_wp2_with (first
    | ((with_reducible refine is_lit rfl ?_); refine onerow_h H rfl (e := 5) (cs := [.int .u8 0]) (by first | (go_simp; done) | (go_simp; rfl)) ?_; clear H; intro gl w_ H)
    | ((with_reducible refine is_call rfl ?_); refine append_h H rfl rfl 1 Tryd.underlying35 Tryd.infoB8 (by decide) [0] rfl rfl (fun y => (by repeat (first | exact Put.head | apply Put.tail))) (reads_one (H.blk (g := gl) (by repeat (first | exact List.Mem.head _ | apply List.Mem.tail)))) (by simp; omega) ?_; clear H; intro v1_ w_ H))
   go_roundg 1
   case measure => omega
   case rel => exact ⟨rfl, by decide, by have h_ := H.want (l' := [nrow 5 v1_ .u8 ((xs ++ List.replicate (3 - 2) 0) ++ [0])]) (Want.take (by repeat (first | exact Pull.head | apply Pull.tail)) (Want.done (by repeat (first | exact Suf.refl | apply Suf.cons)))); rw [more_zero] at h_; exact h_⟩
  ·go_wp2_with (first
    | ((with_reducible refine is_lit rfl ?_); refine onerow_h H rfl (e := 5) (cs := [.int .u8 0]) (by first | (go_simp; done) | (go_simp; rfl)) ?_; clear H; intro gl w_ H)
    | ((with_reducible refine is_call rfl ?_); refine append_h H rfl rfl 1 Tryd.underlying35 Tryd.infoB8 (by decide) [0] rfl rfl (fun y => (by repeat (first | exact Put.head | apply Put.tail))) (reads_one (H.blk (g := gl) (by repeat (first | exact List.Mem.head _ | apply List.Mem.tail)))) (by simp; omega) ?_; clear H; intro v1_ w_ H))
   go_roundg 2
   case measure => omega
   case rel => exact ⟨rfl, by decide, by have h_ := H.want (l' := [nrow 5 v1_ .u8 ((xs ++ List.replicate (3 - 3) 0) ++ [0])]) (Want.take (by repeat (first | exact Pull.head | apply Pull.tail)) (Want.done (by repeat (first | exact Suf.refl | apply Suf.cons)))); rw [more_zero] at h_; exact h_⟩
set_option maxHeartbeats 4000000 in
set_option maxRecDepth 100000 in
theorem put4_0 (w : World) (v : Value) (xs : List Int) (h : w.ownsRow 0 5 1 v xs.length (nums .u8 xs)) (hx : xs.length ≤ 1000) :
  Calls Tryd.prog 47 #[v, .int .u32 0, .int .i64 4] w fun e w' => ∃ v', e = .returned v' ∧ Hold w w' (ats [nrow 5 v .u8 xs]) [nrow 5 v' .u8 (xs ++ List.replicate 4 0)] := by
 refine of_post0 fun R hRR => ?_
 have HP := Lib.hid hRR
 clear hRR
 have H : Hold w w (ats [nrow 5 v .u8 xs]) [nrow 5 v .u8 xs] := Hold.start (ok1 h) (pair1 _)
 clear h
 go_enter Tryd.func47, Tryd.ntmps47
 go_wp2_with fail
 go_loopg [0, 7] 4 (fun k v0 v7 wr => v7 = .int .i64 (8 * (k : Int) - 8) ∧ k ≤ 4 ∧ Hold w wr (ats [nrow 5 v .u8 xs]) [nrow 5 v0 .u8 (xs ++ List.replicate (4 - k) 0)])
 case atStart => exact ⟨rfl, Nat.le_refl _, by simpa using H⟩
 case round =>
  obtain ⟨rfl, hk, H⟩ := hrel
  have hcase : gk = 0 ∨ gk = 1 ∨ gk = 2 ∨ gk = 3 ∨ gk = 4 := by omega
  clear hk
  rcases hcase with rfl | rfl | rfl | rfl | rfl
  ·go_wp2_with fail
   exact HP.out _ _ ⟨_, rfl, H⟩
  ·go_wp2_with (first
    | ((with_reducible refine is_lit rfl ?_); refine onerow_h H rfl (e := 5) (cs := [.int .u8 0]) (by first | (go_simp; done) | (go_simp; rfl)) ?_; clear H; intro gl w_ H)
    | ((with_reducible refine is_call rfl ?_); refine append_h H rfl rfl 1 Tryd.underlying35 Tryd.infoB8 (by decide) [0] rfl rfl (fun y => (by repeat (first | exact Put.head | apply Put.tail))) (reads_one (H.blk (g := gl) (by repeat (first | exact List.Mem.head _ | apply List.Mem.tail)))) (by simp; omega) ?_; clear H; intro v1_ w_ H))
   go_roundg 0
   case measure => omega
   case rel => exact ⟨rfl, by decide, by have h_ := H.want (l' := [nrow 5 v1_ .u8 ((xs ++ List.replicate (4 - 1) 0) ++ [0])]) (Want.take (by repeat (first | exact Pull.head | apply Pull.tail)) (Want.done (by repeat (first | exact Suf.refl | apply Suf.cons)))); rw [more_zero] at h_; exact h_⟩
  ·go_wp2_with (first
    | ((with_reducible refine is_lit rfl ?_); refine onerow_h H rfl (e := 5) (cs := [.int .u8 0]) (by first | (go_simp; done) | (go_simp; rfl)) ?_; clear H; intro gl w_ H)
    | ((with_reducible refine is_call rfl ?_); refine append_h H rfl rfl 1 Tryd.underlying35 Tryd.infoB8 (by decide) [0] rfl rfl (fun y => (by repeat (first | exact Put.head | apply Put.tail))) (reads_one (H.blk (g := gl) (by repeat (first | exact List.Mem.head _ | apply List.Mem.tail)))) (by simp; omega) ?_; clear H; intro v1_ w_ H))
   go_roundg 1
   case measure => omega
   case rel => exact ⟨rfl, by decide, by have h_ := H.want (l' := [nrow 5 v1_ .u8 ((xs ++ List.replicate (4 - 2) 0) ++ [0])]) (Want.take (by repeat (first | exact Pull.head | apply Pull.tail)) (Want.done (by repeat (first | exact Suf.refl | apply Suf.cons)))); rw [more_zero] at h_; exact h_⟩
  ·go_wp2_with (first
    | ((with_reducible refine is_lit rfl ?_); refine onerow_h H rfl (e := 5) (cs := [.int .u8 0]) (by first | (go_simp; done) | (go_simp; rfl)) ?_; clear H; intro gl w_ H)
    | ((with_reducible refine is_call rfl ?_); refine append_h H rfl rfl 1 Tryd.underlying35 Tryd.infoB8 (by decide) [0] rfl rfl (fun y => (by repeat (first | exact Put.head | apply Put.tail))) (reads_one (H.blk (g := gl) (by repeat (first | exact List.Mem.head _ | apply List.Mem.tail)))) (by simp; omega) ?_; clear H; intro v1_ w_ H))
   go_roundg 2
   case measure => omega
   case rel => exact ⟨rfl, by decide, by have h_ := H.want (l' := [nrow 5 v1_ .u8 ((xs ++ List.replicate (4 - 3) 0) ++ [0])]) (Want.take (by repeat (first | exact Pull.head | apply Pull.tail)) (Want.done (by repeat (first | exact Suf.refl | apply Suf.cons)))); rw [more_zero] at h_; exact h_⟩
  ·go_wp2_with (first
    | ((with_reducible refine is_lit rfl ?_); refine onerow_h H rfl (e := 5) (cs := [.int .u8 0]) (by first | (go_simp; done) | (go_simp; rfl)) ?_; clear H; intro gl w_ H)
    | ((with_reducible refine is_call rfl ?_); refine append_h H rfl rfl 1 Tryd.underlying35 Tryd.infoB8 (by decide) [0] rfl rfl (fun y => (by repeat (first | exact Put.head | apply Put.tail))) (reads_one (H.blk (g := gl) (by repeat (first | exact List.Mem.head _ | apply List.Mem.tail)))) (by simp; omega) ?_; clear H; intro v1_ w_ H))
   go_roundg 3
   case measure => omega
   case rel => exact ⟨rfl, by decide, by have h_ := H.want (l' := [nrow 5 v1_ .u8 ((xs ++ List.replicate (4 - 4) 0) ++ [0])]) (Want.take (by repeat (first | exact Pull.head | apply Pull.tail)) (Want.done (by repeat (first | exact Suf.refl | apply Suf.cons)))); rw [more_zero] at h_; exact h_⟩
set_option maxHeartbeats 4000000 in
set_option maxRecDepth 100000 in
theorem put0_calls (w : World) : Calls Tryd.prog 21 #[.agg #[.int .u8 4, .int .u8 0, .int .u32 0, .slice none 0 0, .int .i64 (-1), .int .u32 0, .int .u32 0, .int .u8 0, .bool false, .int .u32 0, .slice none 0 0]] w fun e w' => ∃ v', e = .returned v' ∧ Hold w w' [] [nrow 5 v' .u8 [0, 0, 0, 4, 0, 0, 0, 0, 0]] := by
 refine of_post0 fun R hRR => ?_
 have HP := Lib.hid hRR
 clear hRR
 have H : Hold w w [] [] := Hold.nothing (Kept.refl _ _)
 go_enter Tryd.func21, Tryd.ntmps21
 go_upto_region 4 with (first
  | ((with_reducible refine is_box rfl ?_); refine box_h H rfl rfl rfl rfl ?_; clear H; intro g w_ H)
  | (go_at_call 22; refine (may0 _).mono ?_; rintro e_ w_ ⟨rfl, h_⟩; replace H := H.below h_; clear h_)
  | (go_at_call 46; refine (payload0 _).mono ?_; rintro e_ w_ ⟨rfl, h_⟩; replace H := H.below h_; clear h_)
  | ((with_reducible refine is_load (ty := 38) rfl ?_); refine load_h H rfl rfl rfl (by repeat (first | exact List.Mem.head _ | apply List.Mem.tail)) (by kernel_rfl) (by kernel_rfl) ?_)
  | ((with_reducible refine is_load rfl ?_); refine loadf_h H rfl rfl rfl (by repeat (first | exact List.Mem.head _ | apply List.Mem.tail)) rfl (by kernel_rfl) ?_))
 replace H := H.below (below_drew (Below.refl _ _))
 refine start_ (n := 11) (S := fun w' => w'.cell? ⟨g, 0, none⟩ = some (.int .u8 4) ∧ w'.cell? ⟨g, 1, none⟩ = some (.int .u8 0)) (ds := []) #[false, false, false, false, false, false, false, false, false, false, false] (by kernel_rfl) rfl rfl ⟨((H.cell (g := g) (by repeat (first | exact List.Mem.head _ | apply List.Mem.tail)) 0).trans rfl), ((H.cell (g := g) (by repeat (first | exact List.Mem.head _ | apply List.Mem.tail)) 1).trans rfl)⟩ (fun hHeld => ?_)
 generalize World.drew _ = wy at H hHeld ⊢
 refine pure_ (i := 0) (N := some 10) (v := ?_) (a' := ?_) #[true, false, false, false, false, false, false, false, false, false, false] rfl rfl (by kernel_rfl) (fun _ _ _ h => h) (Or.inl ⟨by rfl, ?_⟩) ?_ ?_
 rotate_left
 ·intro w'
  go_simp
  with_reducible rfl
 rotate_left
 ·simp only [Act.put, putA, putB, putC]
  rfl
 refine pure_ (i := 1) (N := some 11) (v := ?_) (a' := ?_) #[true, true, false, false, false, false, false, false, false, false, false] rfl rfl (by kernel_rfl) (fun _ _ _ h => h) (Or.inl ⟨by rfl, ?_⟩) ?_ ?_
 rotate_left
 ·intro w'
  go_simp
  with_reducible rfl
 rotate_left
 ·simp only [Act.put, putA, putB, putC]
  rfl
 refine pure_ (i := 2) (N := some 12) (v := ?_) (a' := ?_) #[true, true, true, false, false, false, false, false, false, false, false] rfl rfl (by kernel_rfl) (fun _ _ _ h => h) (Or.inl ⟨by rfl, ?_⟩) ?_ ?_
 rotate_left
 ·intro w'
  go_simp
  with_reducible rfl
 rotate_left
 ·simp only [Act.put, putA, putB, putC]
  rfl
 refine pure_ (i := 4) (N := some 14) (v := ?_) (a' := ?_) #[true, true, true, false, true, false, false, false, false, false, false] rfl rfl (by kernel_rfl) (fun _ _ _ h => h) (Or.inl ⟨by rfl, ?_⟩) ?_ ?_
 rotate_left
 ·intro w'
  go_simp
  with_reducible rfl
 rotate_left
 ·simp only [Act.put, putA, putB, putC]
  rfl
 refine take_ (i := 5) (N := some 15) (v := ?_) (a' := ?_) #[true, true, true, false, true, true, false, false, false, false, false] rfl rfl (by kernel_rfl) (fun _ _ _ h => h) (Or.inl ⟨by rfl, ?_⟩) hHeld ?_ ?_
 rotate_left
 ·rintro w' ⟨s0, s1⟩
  go_simp
  with_reducible rfl
 rotate_left
 ·simp only [Act.put, putA, putB, putC]
  rfl
 refine pure_ (i := 6) (N := some 16) (v := ?_) (a' := ?_) #[true, true, true, false, true, true, true, false, false, false, false] rfl rfl (by kernel_rfl) (fun _ _ _ h => h) (Or.inl ⟨by rfl, ?_⟩) ?_ ?_
 rotate_left
 ·intro w'
  go_simp
  with_reducible rfl
 rotate_left
 ·simp only [Act.put, putA, putB, putC]
  rfl
 refine take_ (i := 7) (N := some 17) (v := ?_) (a' := ?_) #[true, true, true, false, true, true, true, true, false, false, false] rfl rfl (by kernel_rfl) (fun _ _ _ h => h) (Or.inl ⟨by rfl, ?_⟩) hHeld ?_ ?_
 rotate_left
 ·rintro w' ⟨s0, s1⟩
  go_simp
  with_reducible rfl
 rotate_left
 ·simp only [Act.put, putA, putB, putC]
  rfl
 refine two_ (i := 3) (j := 8) (Ni := some 13) (Nj := some 18) #[true, true, true, true, true, true, true, true, false, false, false] #[true, true, true, false, true, true, true, true, true, false, false] rfl rfl rfl rfl (by kernel_rfl) (by decide) (by decide) (fun K hK => ?_) (fun K hK => ?_)
 ·refine goes_ Tryd.func47 (by kernel_rfl) rfl #[.slice none 0 0, .int .u32 0, .int .i64 3] (by rfl) rfl rfl (by (try simp only [List.map_toArray, List.map_cons, List.map_nil]); first | done | rfl) ?_
  refine (put3_0 _ nilS [] (own_nil _ _ _ _) (by simp)).mono ?_
  rintro e_ w9 ⟨v9, rfl, h_⟩
  replace H := Hold.push H (show Hold _ _ [] [nrow 5 v9 .u8 [0, 0, 0]] from h_)
  clear h_
  refine ⟨_, rfl, ?_⟩
  have hS := Lib.hid (show (fun w' : World => w'.cell? ⟨g, 0, none⟩ = some (.int .u8 4) ∧ w'.cell? ⟨g, 1, none⟩ = some (.int .u8 0)) _ from ⟨((H.cell (g := g) (by repeat (first | exact List.Mem.head _ | apply List.Mem.tail)) 0).trans rfl), ((H.cell (g := g) (by repeat (first | exact List.Mem.head _ | apply List.Mem.tail)) 1).trans rfl)⟩)
  refine hK.out _ _ hS.out (fun hHeld => ?_)
  clear hK K
  clear hS
  refine norm_ (a' := ?_) ?_ ?_
  rotate_left
  ·show Act.put _ (some 13) _ = _
   simp only [Act.put, putA, putB, putC]
   rfl
  refine one_ (i := 8) (N := some 18) #[true, true, true, true, true, true, true, true, true, false, false] rfl rfl (by kernel_rfl) (by decide) (fun K hK => ?_)
  refine lit_o H (by rfl) (e := 5) (k := .u8) [4, 0] (by first | (go_simp; done) | (go_simp; rfl)) (Nat.le_of_ble_eq_true rfl) ?_
  clear H
  intro gl w_ H h_
  clear h_
  have hS := Lib.hid (show (fun w' : World => w'.cell? ⟨g, 0, none⟩ = some (.int .u8 4) ∧ w'.cell? ⟨g, 1, none⟩ = some (.int .u8 0)) _ from ⟨((H.cell (g := g) (by repeat (first | exact List.Mem.head _ | apply List.Mem.tail)) 0).trans rfl), ((H.cell (g := g) (by repeat (first | exact List.Mem.head _ | apply List.Mem.tail)) 1).trans rfl)⟩)
  refine hK.out _ _ hS.out (fun hHeld => ?_)
  clear hK K
  clear hS
  refine norm_ (a' := ?_) ?_ ?_
  rotate_left
  ·show Act.put _ (some 18) _ = _
   simp only [Act.put, putA, putB, putC]
   rfl
  refine one_ (i := 9) (N := some 19) #[true, true, true, true, true, true, true, true, true, true, false] rfl rfl (by kernel_rfl) (by decide) (fun K hK => ?_)
  refine append_o H rfl rfl 1 Tryd.underlying35 Tryd.infoB8 (by decide) [4, 0] rfl rfl (fun y => (by repeat (first | (exact Put.head) | apply Put.tail))) (reads_own (H.row (v := .slice (some ⟨gl, 0, none⟩) 2 2) (e := 5) (k := .u8) (xs := [4, 0]) (by repeat (first | exact List.Mem.head _ | apply List.Mem.tail)))) (by simp) ?_
  clear H
  intro v10 w_ H h_
  clear h_
  have hS := Lib.hid (show (fun w' : World => w'.cell? ⟨g, 0, none⟩ = some (.int .u8 4) ∧ w'.cell? ⟨g, 1, none⟩ = some (.int .u8 0)) _ from ⟨((H.cell (g := g) (by repeat (first | exact List.Mem.head _ | apply List.Mem.tail)) 0).trans rfl), ((H.cell (g := g) (by repeat (first | exact List.Mem.head _ | apply List.Mem.tail)) 1).trans rfl)⟩)
  refine hK.out _ _ hS.out (fun hHeld => ?_)
  clear hK K
  clear hS
  refine norm_ (a' := ?_) ?_ ?_
  rotate_left
  ·show Act.put _ (some 19) _ = _
   simp only [Act.put, putA, putB, putC]
   rfl
  refine pure_ (i := 10) (N := some 4) (v := ?_) (a' := ?_) #[true, true, true, true, true, true, true, true, true, true, true] rfl rfl (by kernel_rfl) (fun _ _ _ h => h) (Or.inl ⟨by rfl, ?_⟩) ?_ ?_
  rotate_left
  ·intro w'
   go_simp
   with_reducible rfl
  rotate_left
  ·simp only [Act.put, putA, putB, putC]
   rfl
  refine done_ (by kernel_rfl) ?_
  go_wp2_with (first
   | (go_at_call 47; refine (put4_0 _ v10 [0, 0, 0, 4, 0] (H.row (by repeat (first | exact List.Mem.head _ | apply List.Mem.tail))) (by simp)).mono ?_; rintro e_ w_ ⟨v11, rfl, h_⟩; replace H := Hold.call (H.pull1 (by repeat (first | exact Pull.head | apply Pull.tail))) (show Hold _ _ _ [nrow 5 v11 .u8 [0, 0, 0, 4, 0, 0, 0, 0, 0]] from h_); clear h_)
   | ((with_reducible refine is_load rfl ?_); refine loadf_h H rfl rfl rfl (by repeat (first | exact List.Mem.head _ | apply List.Mem.tail)) rfl (by kernel_rfl) ?_)
   | ((with_reducible refine is_call rfl ?_); refine append_h H rfl rfl 1 Tryd.underlying35 Tryd.infoB8 (by decide) [] rfl rfl (fun y => (by repeat (first | exact Put.head | apply Put.tail))) ⟨rfl, by decide, fun h => absurd h (by decide)⟩ (by simp) ?_; clear H; intro v12 w_ H))
  exact HP.out _ _ ⟨_, rfl, H.want (l' := [nrow 5 v12 .u8 [0, 0, 0, 4, 0, 0, 0, 0, 0]]) (Want.take (by repeat (first | exact Pull.head | apply Pull.tail)) (Want.done (by repeat (first | exact Suf.refl | apply Suf.cons))))⟩
 ·refine lit_o H (by rfl) (e := 5) (k := .u8) [4, 0] (by first | (go_simp; done) | (go_simp; rfl)) (Nat.le_of_ble_eq_true rfl) ?_
  clear H
  intro gl w_ H h_
  clear h_
  have hS := Lib.hid (show (fun w' : World => w'.cell? ⟨g, 0, none⟩ = some (.int .u8 4) ∧ w'.cell? ⟨g, 1, none⟩ = some (.int .u8 0)) _ from ⟨((H.cell (g := g) (by repeat (first | exact List.Mem.head _ | apply List.Mem.tail)) 0).trans rfl), ((H.cell (g := g) (by repeat (first | exact List.Mem.head _ | apply List.Mem.tail)) 1).trans rfl)⟩)
  refine hK.out _ _ hS.out (fun hHeld => ?_)
  clear hK K
  clear hS
  refine norm_ (a' := ?_) ?_ ?_
  rotate_left
  ·show Act.put _ (some 18) _ = _
   simp only [Act.put, putA, putB, putC]
   rfl
  refine one_ (i := 3) (N := some 13) #[true, true, true, true, true, true, true, true, true, false, false] rfl rfl (by kernel_rfl) (by decide) (fun K hK => ?_)
  refine goes_ Tryd.func47 (by kernel_rfl) rfl #[.slice none 0 0, .int .u32 0, .int .i64 3] (by rfl) rfl rfl (by (try simp only [List.map_toArray, List.map_cons, List.map_nil]); first | done | rfl) ?_
  refine (put3_0 _ nilS [] (own_nil _ _ _ _) (by simp)).mono ?_
  rintro e_ w9 ⟨v9, rfl, h_⟩
  replace H := Hold.push H (show Hold _ _ [] [nrow 5 v9 .u8 [0, 0, 0]] from h_)
  clear h_
  refine ⟨_, rfl, ?_⟩
  have hS := Lib.hid (show (fun w' : World => w'.cell? ⟨g, 0, none⟩ = some (.int .u8 4) ∧ w'.cell? ⟨g, 1, none⟩ = some (.int .u8 0)) _ from ⟨((H.cell (g := g) (by repeat (first | exact List.Mem.head _ | apply List.Mem.tail)) 0).trans rfl), ((H.cell (g := g) (by repeat (first | exact List.Mem.head _ | apply List.Mem.tail)) 1).trans rfl)⟩)
  refine hK.out _ _ hS.out (fun hHeld => ?_)
  clear hK K
  clear hS
  refine norm_ (a' := ?_) ?_ ?_
  rotate_left
  ·show Act.put _ (some 13) _ = _
   simp only [Act.put, putA, putB, putC]
   rfl
  refine one_ (i := 9) (N := some 19) #[true, true, true, true, true, true, true, true, true, true, false] rfl rfl (by kernel_rfl) (by decide) (fun K hK => ?_)
  refine append_o H rfl rfl 1 Tryd.underlying35 Tryd.infoB8 (by decide) [4, 0] rfl rfl (fun y => (by repeat (first | (exact Put.head) | apply Put.tail))) (reads_own (H.row (v := .slice (some ⟨gl, 0, none⟩) 2 2) (e := 5) (k := .u8) (xs := [4, 0]) (by repeat (first | exact List.Mem.head _ | apply List.Mem.tail)))) (by simp) ?_
  clear H
  intro v10 w_ H h_
  clear h_
  have hS := Lib.hid (show (fun w' : World => w'.cell? ⟨g, 0, none⟩ = some (.int .u8 4) ∧ w'.cell? ⟨g, 1, none⟩ = some (.int .u8 0)) _ from ⟨((H.cell (g := g) (by repeat (first | exact List.Mem.head _ | apply List.Mem.tail)) 0).trans rfl), ((H.cell (g := g) (by repeat (first | exact List.Mem.head _ | apply List.Mem.tail)) 1).trans rfl)⟩)
  refine hK.out _ _ hS.out (fun hHeld => ?_)
  clear hK K
  clear hS
  refine norm_ (a' := ?_) ?_ ?_
  rotate_left
  ·show Act.put _ (some 19) _ = _
   simp only [Act.put, putA, putB, putC]
   rfl
  refine pure_ (i := 10) (N := some 4) (v := ?_) (a' := ?_) #[true, true, true, true, true, true, true, true, true, true, true] rfl rfl (by kernel_rfl) (fun _ _ _ h => h) (Or.inl ⟨by rfl, ?_⟩) ?_ ?_
  rotate_left
  ·intro w'
   go_simp
   with_reducible rfl
  rotate_left
  ·simp only [Act.put, putA, putB, putC]
   rfl
  refine done_ (by kernel_rfl) ?_
  go_wp2_with (first
   | (go_at_call 47; refine (put4_0 _ v10 [0, 0, 0, 4, 0] (H.row (by repeat (first | exact List.Mem.head _ | apply List.Mem.tail))) (by simp)).mono ?_; rintro e_ w_ ⟨v11, rfl, h_⟩; replace H := Hold.call (H.pull1 (by repeat (first | exact Pull.head | apply Pull.tail))) (show Hold _ _ _ [nrow 5 v11 .u8 [0, 0, 0, 4, 0, 0, 0, 0, 0]] from h_); clear h_)
   | ((with_reducible refine is_load rfl ?_); refine loadf_h H rfl rfl rfl (by repeat (first | exact List.Mem.head _ | apply List.Mem.tail)) rfl (by kernel_rfl) ?_)
   | ((with_reducible refine is_call rfl ?_); refine append_h H rfl rfl 1 Tryd.underlying35 Tryd.infoB8 (by decide) [] rfl rfl (fun y => (by repeat (first | exact Put.head | apply Put.tail))) ⟨rfl, by decide, fun h => absurd h (by decide)⟩ (by simp) ?_; clear H; intro v12 w_ H))
  exact HP.out _ _ ⟨_, rfl, H.want (l' := [nrow 5 v12 .u8 [0, 0, 0, 4, 0, 0, 0, 0, 0]]) (Want.take (by repeat (first | exact Pull.head | apply Pull.tail)) (Want.done (by repeat (first | exact Suf.refl | apply Suf.cons))))⟩
theorem appendg_h {P : Program} {ops : Array Oper} {rest : List Oper} {o : Oper} {a : Act} {Q : Exit → Act → World → Prop} {w W : World} {t : List Nat} {l : List Own} (H : Hold w W t l) (hgd : o.guard = none) {s x : Operand} {st : TypeId} (ho : o.op = .call { callee := .builtin .append, args := #[s, x], argTypes := #[st, st] })
  {e : TypeId} {k : IntKind} (bytes : Nat) (ht : P.underlying st = some (.slice e)) (hinfo : (P.info? e).map (fun i => (i.zero, i.size, i.bytes)) = some (some (.int k 0), 1, bytes)) (hb0 : 0 < bytes)
  {b ad : Addr} {n m c : Nat} {xs ys : List Int} (hs : a.eval s = .slice (some b) n n) (hx : a.eval x = .slice (some ad) m c) (Hx : ReadsInt W k (some b) n xs) (Hy : ReadsInt W k (some ad) m ys) (hm : 0 < m) (hl : (n + m) * bytes ≤ 140737488355328)
  (h : ∀ v1 w1, Hold w w1 t (nrow e v1 k (xs ++ ys) :: l) → wpList P ops Q rest (a.put o.dst v1) w1) : wpList P ops Q (o :: rest) a W := by
 obtain ⟨i0, hi, hq⟩ := Option.map_eq_some_iff.1 hinfo
 simp only [Prod.mk.injEq] at hq
 obtain ⟨hz, hsz, hby⟩ := hq
 have hn : n + m ≤ 140737488355328 := Nat.le_trans (Nat.le_mul_of_pos_right _ hb0) hl
 have cells : ∀ {B : Addr} {p : Nat} {zs : List Int}, ReadsInt W k (some B) p zs → ∀ j u, (nums k zs)[j]? = some u → W.cell? (B.add j) = some u := fun HR j u hu => by
  have hj := (List.getElem?_eq_some_iff.1 hu).1
  rw [nums_length] at hj
  have hl := HR.1
  obtain ⟨a2, e2, hc⟩ := HR.2.2 (by omega)
  obtain rfl := Option.some.inj e2
  rw [hc j (by omega), ← hu]
  simp [nums, List.getD_eq_getElem?_getD, List.getElem?_eq_getElem hj]
 have hr := run_append_grow (P := P) (w := W) st o.type e i0 (.int k 0) ht hi hz b n n (nums k xs) (by rw [nums_length, Hx.1, hsz, Nat.mul_one]) (cells Hx) ad m c (nums k ys) (by rw [nums_length, Hy.1, hsz, Nat.mul_one]) (cells Hy) (by omega) (by omega) (growslice_fits (by omega) (by rw [hby]; exact hl))
 refine wpList_plain hgd fun K hK => ?_
 unfold Oper.wp execOp
 simp only [ho, resolve, invoke, builtin, Sem.run_bind, Sem.run_pure, Result.andThen_ok, List.map_toArray, List.map_cons, List.map_nil, hs, hx, hr]
 have hge := grownCap_ge W (n + m) n e
 refine hK _ _ (h _ _ (Hold.push (l1 := [_]) H (Hold.made (below_alloc (below_drew (Below.refl _ _)) _) ⟨by rw [nums_length, Nat.mul_one], .inr ⟨W.heap.size, _, _, by rw [List.length_append, Hx.1, Hy.1], Nat.zero_le _, heap_alloc_new W.drew _, by rw [List.length_append, Hx.1, Hy.1]; exact hge, grownCap_le_maxLen W (n + m) n e (by unfold maxLen; omega), ?_, ?_⟩⟩ fun k hk => Nat.le_of_eq (Option.some.inj (Option.mem_toList.1 hk)))))
 ·simp only [Array.size_append, List.size_toArray, size_zeroCells, nums_length, Hx.1, Hy.1]
  show n + m + _ * 1 = _ * 1
  omega
 ·simp only [Array.toList_append, List.append_assoc, Nat.mul_one, nums_append]
  rw [← List.append_assoc]
  exact List.take_left' (by simp [nums_length])
theorem reads_obj {w : World} {g : Nat} {e : TypeId} {r : Nat × Nat} {xs : List Int} (h : w.heap[g]? = some (.cells (nums .u8 xs).toArray e r)) (hl : xs.length ≤ 1000) : ReadsInt w .u8 (some ⟨g, 0, none⟩) xs.length xs := by
 refine ⟨rfl, by omega, fun _ => ⟨_, rfl, fun j hj => ?_⟩⟩
 rw [show (⟨g, 0, none⟩ : Addr).add j = ⟨g, j, none⟩ by simp [Addr.add, eq_comm], cell_of_row w g j _ e r h]
 simp [nums, List.getElem?_map, List.getElem?_eq_getElem hj, List.getD_eq_getElem?_getD]
abbrev preO (g : Nat) : Own := .obj g (.cells (nums .u8 pre24).toArray 5 (24, 25))
set_option maxHeartbeats 4000000 in
set_option maxRecDepth 100000 in
theorem preface_calls (w : World) : Calls Tryd.prog 41 #[] w fun e w' => ∃ g, e = .returned (.slice (some ⟨g, 0, none⟩) 24 24) ∧ Hold w w' [] [preO g] := by
 refine of_post0 fun R hRR => ?_
 have HP := Lib.hid hRR
 clear hRR
 have hcv := Lib.run_convert_bytes_const (P := Tryd.prog) w 35 5 (nums .u8 pre24).toArray 24 24 Tryd.underlying35 Tryd.underlying5
 have H : Hold w (w.alloc (.cells (nums .u8 pre24).toArray 5 (24, 25))) [] [preO w.heap.size] := Hold.made (below_alloc (Below.refl _ _) _) (blk_new w _) fun k hk => Nat.le_of_eq (List.mem_singleton.1 hk).symm
 rw [show (nums .u8 pre24).toArray.size = 24 from rfl] at hcv
 simp only [nums, pre24, List.map_cons, List.map_nil] at hcv
 go_enter Tryd.func41, Tryd.ntmps41
 go_wp2_with fail
 exact HP.out _ _ ⟨_, rfl, H⟩
end Go.Proofs.YtjjfkmniffbgkaaDoor

/- The chapter's example of split, walked. (This text is printed by wip/gen/split6.py.) -/
namespace Go.Proofs.YtjjfkmniffbgkaaDoor
set_option linter.unusedVariables false
set_option linter.unusedSimpArgs false
open Go.RowKit Go.Proofs.YtjjfkmniffbgkaaDoorW.PrintWords Go.Proofs.YtjjfkmniffbgkaaDoorW.PrintLast Go.Proofs.YtjjfkmniffbgkaaDoorW.PrintMore Go.Proofs.YtjjfkmniffbgkaaDoor.QFrmA Go.Proofs.YtjjfkmniffbgkaaDoor.Given Go.Extern.Stop Go.Stop Go.Extern Go.Maps
attribute [local go_sem] max2_int min2_int max_two min_two
attribute [local go_sem high] eqFault
theorem nx1 : nextS ⟨pre24 ++ [0, 0, 0], true, false⟩ = (none, ⟨[0, 0, 0], false, false⟩) := by rfl
theorem fs1 : feedK ⟨[], true, false⟩ (pre24 ++ [0, 0, 0]) = 27 ∧ feedS ⟨[], true, false⟩ (pre24 ++ [0, 0, 0]) = ⟨pre24 ++ [0, 0, 0], true, false⟩ := ⟨rfl, rfl⟩
theorem fs2 : feedK ⟨[0, 0, 0], false, false⟩ [4, 0, 0, 0, 0, 0] = 6 ∧ feedS ⟨[0, 0, 0], false, false⟩ [4, 0, 0, 0, 0, 0] = ⟨[0, 0, 0, 4, 0, 0, 0, 0, 0], false, false⟩ := ⟨rfl, rfl⟩
theorem nx2 : nextS ⟨[0, 0, 0, 4, 0, 0, 0, 0, 0], false, false⟩ = (some (⟨4, 0, 0, [], -1, 0, 0, 0, false, 0, []⟩, 0, 0), ⟨[], false, false⟩) := by rfl
theorem nx1_calls (W : World) (g : Nat) (v : Value) (h : IsSp W g v ⟨pre24 ++ [0, 0, 0], true, false⟩) (hgv : ∀ W1, Kept W W1 (ats [spO g v ⟨pre24 ++ [0, 0, 0], true, false⟩, spR v ⟨pre24 ++ [0, 0, 0], true, false⟩]) → GV W1) :
  Calls Tryd.prog 39 #[.pointer (some ⟨g, 0, none⟩)] W fun e w' => ∃ v' A c B m, e = .returned (.tuple #[.agg #[.int .u8 0, .int .u8 0, .int .u32 0, .slice A 0 c, .int .i64 0, .int .u32 0, .int .u32 0, .int .u8 0, .bool false, .int .u32 0, .slice B 0 m], .agg #[.int .u8 0, .int .u32 0], .bool false]) ∧ Hold W w' (ats [spO g v ⟨pre24 ++ [0, 0, 0], true, false⟩, spR v ⟨pre24 ++ [0, 0, 0], true, false⟩]) [frThing A c B m zeroF, spO g v' ⟨[0, 0, 0], false, false⟩, spR v' ⟨[0, 0, 0], false, false⟩] := by
 have h_ := next_calls W g v _ h hgv (byteB_iff.1 rfl) (by decide)
 rw [nx1] at h_
 exact h_
theorem nx2_calls (W : World) (g : Nat) (v : Value) (h : IsSp W g v ⟨[0, 0, 0, 4, 0, 0, 0, 0, 0], false, false⟩) (hgv : ∀ W1, Kept W W1 (ats [spO g v ⟨[0, 0, 0, 4, 0, 0, 0, 0, 0], false, false⟩, spR v ⟨[0, 0, 0, 4, 0, 0, 0, 0, 0], false, false⟩]) → GV W1) :
  Calls Tryd.prog 39 #[.pointer (some ⟨g, 0, none⟩)] W fun e w' => ∃ v' A c B m, e = .returned (.tuple #[.agg #[.int .u8 4, .int .u8 0, .int .u32 0, .slice A 0 c, .int .i64 (-1), .int .u32 0, .int .u32 0, .int .u8 0, .bool false, .int .u32 0, .slice B 0 m], .agg #[.int .u8 0, .int .u32 0], .bool true]) ∧ Hold W w' (ats [spO g v ⟨[0, 0, 0, 4, 0, 0, 0, 0, 0], false, false⟩, spR v ⟨[0, 0, 0, 4, 0, 0, 0, 0, 0], false, false⟩]) [frThing A c B m ⟨4, 0, 0, [], -1, 0, 0, 0, false, 0, []⟩, spO g v' ⟨[], false, false⟩, spR v' ⟨[], false, false⟩] := by
 have h_ := next_calls W g v _ h hgv (byteB_iff.1 rfl) (by decide)
 rw [nx2] at h_
 exact h_
set_option maxHeartbeats 4000000 in
set_option maxRecDepth 100000 in
theorem fixed8_calls (w : World) (hgv : GV w) : Calls Tryd.prog 32 #[] w fun e w' => e = .returned (.bool true) ∧ Below w.heap.size w w' := by
 refine of_post0 fun R hRR => ?_
 have HP := Lib.hid hRR
 have HGV := Lib.hid hgv
 clear hRR hgv
 have H : Hold w w [] [] := Hold.nothing (Kept.refl _ _)
 go_enter Tryd.func32, Tryd.ntmps32
 go_upto_region 3 with (first
  | (go_at_call 33; refine (new_split _ true).mono ?_; rintro e_ w_ ⟨g, rfl, h_⟩; replace H := Hold.push H h_; clear h_)
  | (go_at_call 41; refine (preface_calls _).mono ?_; rintro e_ w_ ⟨gp, rfl, h_⟩; replace H := Hold.push H h_; clear h_)
  | (go_at_call 21; refine (put0_calls _).mono ?_; rintro e_ w_ ⟨v9, rfl, h_⟩; obtain ⟨A9, c9, rfl⟩ := own_slice (H2_ h_); replace H := Hold.push H h_; clear h_)
  | ((with_reducible refine is_call rfl ?_); (have h_ := reads_own3 (H.row (e := 5) (v := .slice A9 ([0, 0, 0, 4, 0, 0, 0, 0, 0] : List Int).length c9) (k := .u8) (xs := [0, 0, 0, 4, 0, 0, 0, 0, 0]) (by repeat (first | exact List.Mem.head _ | apply List.Mem.tail))); obtain ⟨ad9, rfl, _⟩ := h_.2.2 (by decide)); refine appendg_h H rfl rfl 1 Tryd.underlying35 Tryd.infoB8 (by decide) rfl rfl (reads_obj (H.ok (preO gp) (by repeat (first | exact List.Mem.head _ | apply List.Mem.tail))) (by decide)) h_ (by decide) (by decide) ?_; clear h_ H; intro v2 w_ H))
 obtain ⟨L0, hL0⟩ : ∃ L : List Int, L = (pre24 ++ [0, 0, 0, 4, 0, 0, 0, 0, 0] : List Int) := ⟨_, rfl⟩
 have hl : L0.length = 33 := by rw [hL0]; rfl
 have ht : L0.take 27 = pre24 ++ [0, 0, 0] := by rw [hL0]; rfl
 have hd : L0.drop 27 = [4, 0, 0, 0, 0, 0] := by rw [hL0]; rfl
 rw [← hL0] at H
 clear hL0
 obtain ⟨A2, c2, e2, hR2, hc2⟩ := own_reads2 (H.row (e := 5) (v := v2) (k := .u8) (xs := L0) (by repeat (first | exact List.Mem.head _ | apply List.Mem.tail)))
 obtain ⟨i0, hi, _, hsz, _⟩ := info_parts Tryd.infoB8
 obtain ⟨k1, k3, hcc⟩ := print_take_int (P := Tryd.prog) (k := .u8) 35 5 Tryd.underlying35 hi hsz A2 c2 L0 27 (by decide) (by omega) hc2
 obtain ⟨A3, k2, k4, hcc3⟩ := print_drop_of (P := Tryd.prog) (Value.int .u8) (0 : Int) 35 5 .i64 Tryd.underlying35 hi hsz A2 c2 L0 27 (by decide) (by omega) hc2
 rw [show (27 : Int).toNat = 27 from rfl] at k1 k3 k2 k4 hcc3
 rw [ht] at k1 k3
 rw [hd] at k2 k4 hcc3
 rw [hl] at e2 k1 k2 hc2
 subst e2
 have q1 : ∀ W : World, (Instr.slice 35 (.slice A2 33 c2) none (some (.int .i64 27)) none).run Tryd.prog W = .ok (.slice A2 27 c2) W := k1
 have q2 : ∀ W : World, (Instr.slice 35 (.slice A2 33 c2) (some (.int .i64 27)) none none).run Tryd.prog W = .ok (.slice A3 6 (c2 - 27)) W := k2
 have HK := Lib.hid (And.intro k3 (And.intro k4 (And.intro (show (pre24 ++ [0, 0, 0] : List Int).length ≤ c2 from Nat.le_trans (by decide) hc2) hcc3)))
 clear k1 k2 k3 k4 hcc hcc3 hi hsz hR2 hc2 ht hd
 go_upto_region 6 with (first
  | (go_at_call 40; refine (feed_calls _ g _ ⟨[], true, false⟩ (H.sp (by repeat (first | exact List.Mem.head _ | apply List.Mem.tail)) (by repeat (first | exact List.Mem.head _ | apply List.Mem.tail))) (by decide) A2 c2 (pre24 ++ [0, 0, 0]) (HK.out.1 _ (reads_own3 (H.row (e := 5) (v := .slice A2 33 c2) (k := .u8) (xs := L0) (by repeat (first | exact List.Mem.head _ | apply List.Mem.tail))))) (HK.out.2.2.1)).mono ?_; rintro e_ w_ ⟨v1, rfl, h_⟩; rw [fs1.1]; rw [fs1.2] at h_; replace H := Hold.call (H.pull2 (by repeat (first | exact Pull.head | apply Pull.tail)) (by repeat (first | exact Pull.head | apply Pull.tail))) h_; clear h_))
 go_upto_region 7 with (first
  | (go_at_call 39; refine (nx1_calls _ g _ (H.sp (by repeat (first | exact List.Mem.head _ | apply List.Mem.tail)) (by repeat (first | exact List.Mem.head _ | apply List.Mem.tail))) (Hold.gv H HGV.out (Want.take (by repeat (first | exact Pull.head | apply Pull.tail)) (Want.take (by repeat (first | exact Pull.head | apply Pull.tail)) (Want.done (by repeat (first | exact Suf.refl | apply Suf.cons))))))).mono ?_; rintro e_ w_ ⟨v1, Ap, cp, Bp, mp, rfl, h_⟩; replace H := Hold.call (H.pull2 (by repeat (first | exact Pull.head | apply Pull.tail)) (by repeat (first | exact Pull.head | apply Pull.tail))) h_; clear h_)
  | ((with_reducible refine is_alloc (ty := 38) rfl ?_); refine alloc_h H rfl rfl (cs := (frC ⟨0, 0, 0, [], 0, 0, 0, 0, false, 0, []⟩ nilS nilS).toList) (by first | (go_simp; done) | (go_simp; rfl)) ?_; clear H; intro gF w_ H)
  | ((with_reducible refine is_alloc (ty := 24) rfl ?_); refine alloc_h H rfl rfl (cs := [.int .u8 0, .int .u32 0]) (by first | (go_simp; done) | (go_simp; rfl)) ?_; clear H; intro gE w_ H)
  | ((with_reducible refine is_store (ty := 38) rfl ?_); refine store_h H rfl rfl rfl rfl (u := .agg #[.int .u8 0, .int .u8 0, .int .u32 0, .slice Ap 0 cp, .int .i64 0, .int .u32 0, .int .u32 0, .int .u8 0, .bool false, .int .u32 0, .slice Bp 0 mp]) rfl (by repeat (first | exact Put.head | apply Put.tail)) (by kernel_rfl) (Nat.le_of_ble_eq_true rfl) rfl ?_; clear H; intro w_ H; simp only [setC, Value.cells, List.toList_toArray] at H)
  | ((with_reducible refine is_store (ty := 24) rfl ?_); refine store_h H rfl rfl rfl rfl (u := .agg #[.int .u8 0, .int .u32 0]) rfl (by repeat (first | exact Put.head | apply Put.tail)) (by kernel_rfl) (Nat.le_of_ble_eq_true rfl) rfl ?_; clear H; intro w_ H; simp only [setC, Value.cells, List.toList_toArray] at H))
 go_upto_region 8 with (first
  | (go_at_call 40; refine (feed_calls _ g _ ⟨[0, 0, 0], false, false⟩ (H.sp (by repeat (first | exact List.Mem.head _ | apply List.Mem.tail)) (by repeat (first | exact List.Mem.head _ | apply List.Mem.tail))) (by decide) A3 (c2 - 27) [4, 0, 0, 0, 0, 0] (HK.out.2.1 _ (reads_own3 (H.row (e := 5) (v := .slice A2 33 c2) (k := .u8) (xs := L0) (by repeat (first | exact List.Mem.head _ | apply List.Mem.tail))))) (HK.out.2.2.2)).mono ?_; rintro e_ w_ ⟨v1, rfl, h_⟩; rw [fs2.1]; rw [fs2.2] at h_; replace H := Hold.call (H.pull2 (by repeat (first | exact Pull.head | apply Pull.tail)) (by repeat (first | exact Pull.head | apply Pull.tail))) h_; clear h_))
 go_upto_region 9 with (first
  | (go_at_call 39; refine (nx2_calls _ g _ (H.sp (by repeat (first | exact List.Mem.head _ | apply List.Mem.tail)) (by repeat (first | exact List.Mem.head _ | apply List.Mem.tail))) (Hold.gv H HGV.out (Want.take (by repeat (first | exact Pull.head | apply Pull.tail)) (Want.take (by repeat (first | exact Pull.head | apply Pull.tail)) (Want.done (by repeat (first | exact Suf.refl | apply Suf.cons))))))).mono ?_; rintro e_ w_ ⟨v1, Ap, cp, Bp, mp, rfl, h_⟩; replace H := Hold.call (H.pull2 (by repeat (first | exact Pull.head | apply Pull.tail)) (by repeat (first | exact Pull.head | apply Pull.tail))) h_; clear h_)
  | ((with_reducible refine is_alloc (ty := 38) rfl ?_); refine alloc_h H rfl rfl (cs := (frC ⟨0, 0, 0, [], 0, 0, 0, 0, false, 0, []⟩ nilS nilS).toList) (by first | (go_simp; done) | (go_simp; rfl)) ?_; clear H; intro gF2 w_ H)
  | ((with_reducible refine is_alloc (ty := 24) rfl ?_); refine alloc_h H rfl rfl (cs := [.int .u8 0, .int .u32 0]) (by first | (go_simp; done) | (go_simp; rfl)) ?_; clear H; intro gE2 w_ H)
  | ((with_reducible refine is_store (ty := 38) rfl ?_); refine store_h H rfl rfl rfl rfl (u := .agg #[.int .u8 4, .int .u8 0, .int .u32 0, .slice Ap 0 cp, .int .i64 (-1), .int .u32 0, .int .u32 0, .int .u8 0, .bool false, .int .u32 0, .slice Bp 0 mp]) rfl (by repeat (first | exact Put.head | apply Put.tail)) (by kernel_rfl) (Nat.le_of_ble_eq_true rfl) rfl ?_; clear H; intro w_ H; simp only [setC, Value.cells, List.toList_toArray] at H)
  | ((with_reducible refine is_store (ty := 24) rfl ?_); refine store_h H rfl rfl rfl rfl (u := .agg #[.int .u8 0, .int .u32 0]) rfl (by repeat (first | exact Put.head | apply Put.tail)) (by kernel_rfl) (Nat.le_of_ble_eq_true rfl) rfl ?_; clear H; intro w_ H; simp only [setC, Value.cells, List.toList_toArray] at H))
 go_wp2_with (first
  | ((with_reducible refine is_load (ty := 24) rfl ?_); refine load_g H rfl rfl (by repeat (first | exact List.Mem.head _ | apply List.Mem.tail)) (by kernel_rfl) (by kernel_rfl) (by rfl) ?_)
  | ((with_reducible refine is_load rfl ?_); refine loadf_g H rfl rfl (by repeat (first | exact List.Mem.head _ | apply List.Mem.tail)) rfl (by kernel_rfl) (by rfl) ?_)
  | (go_at_call 38; refine (held_calls _ g _ ⟨[], false, false⟩ (H.sp (by repeat (first | exact List.Mem.head _ | apply List.Mem.tail)) (by repeat (first | exact List.Mem.head _ | apply List.Mem.tail)))).mono ?_; rintro e_ w_ ⟨rfl, h_⟩; replace H := H.below h_; clear h_))
 exact HP.out _ _ ⟨rfl, H.all⟩
end Go.Proofs.YtjjfkmniffbgkaaDoor

/- Rows of frames that are held; louverlaw08.same of two that are the same, walked. (This text is printed by wip/gen/split9.py.) -/
namespace Go.Proofs.YtjjfkmniffbgkaaDoor
set_option linter.unusedVariables false
set_option linter.unusedSimpArgs false
open Go.RowKit Go.Proofs.YtjjfkmniffbgkaaDoorW.PrintWords Go.Proofs.YtjjfkmniffbgkaaDoorW.PrintLast Go.Proofs.YtjjfkmniffbgkaaDoorW.PrintMore Go.Proofs.YtjjfkmniffbgkaaDoor.QFrmA Go.Proofs.YtjjfkmniffbgkaaDoor.Given Go.Extern.Stop Go.Stop Go.Extern Go.Maps
attribute [local go_sem high] eqFault
structure FE where
 x : Rs
 A : Option Addr
 ca : Nat
 B : Option Addr
 mb : Nat
abbrev FE.cells (e : FE) : List Value := (fC e.x.1 (.slice e.A e.x.1.data.length e.ca) (.slice e.B e.x.1.sets.length e.mb) e.x.2.1 e.x.2.2).toList
abbrev FE.thing (e : FE) : Own := frThing e.A e.ca e.B e.mb e.x.1
abbrev rowO (v : Value) (es : List FE) : Own := .row 45 13 v es.length (es.flatMap FE.cells)
def rowT (es : List FE) : List Own := es.reverse.map FE.thing
theorem rowT_more (es : List FE) (e : FE) : rowT (es ++ [e]) = e.thing :: rowT es := by simp [rowT]
theorem rowT_mem {es : List FE} {e : FE} (h : e ∈ es) : e.thing ∈ rowT es := List.mem_map.2 ⟨e, List.mem_reverse.2 h, rfl⟩
def FsRead (w : World) (v : Value) (es : List FE) : Prop := ∀ (i : Nat) (e : FE), es[i]? = some e → ∃ g c, v = .slice (some ⟨g, 0, none⟩) es.length c ∧ (∀ (j : Nat) (u : Value), e.cells[j]? = some u → w.cell? ⟨g, i * 13 + j, none⟩ = some u) ∧
 (ReadsInt w .u8 e.A e.x.1.data.length e.x.1.data ∧ e.x.1.data.length ≤ e.ca) ∧ k99.C w e.B e.x.1.sets.length e.x.1.sets ∧ e.x.1.sets.length ≤ e.mb
theorem FsRead.below {w W : World} {v : Value} {es : List FE} (h : FsRead w v es) (hb : Below w.heap.size w W) : FsRead W v es := fun i e he => by
 obtain ⟨g, c, h1, h2, h3, h4, h5⟩ := h i e he
 exact ⟨g, c, h1, fun j u hu => pw_cell_below hb (h2 j u hu), ⟨h3.1.below hb, h3.2⟩, Kd.C_below h4 hb, h5⟩
theorem flat_at : ∀ (es : List FE) (i j : Nat) (e : FE) (u : Value), es[i]? = some e → e.cells[j]? = some u → (es.flatMap FE.cells)[i * 13 + j]? = some u
 | [], i, j, e, u, h, _ => by simp at h
 | x :: es, 0, j, e, u, h, hu => by
  obtain rfl : x = e := by simpa using h
  have hj : j < x.cells.length := (List.getElem?_eq_some_iff.1 hu).1
  rw [List.flatMap_cons, Nat.zero_mul, Nat.zero_add, List.getElem?_append_left hj]
  exact hu
 | x :: es, i + 1, j, e, u, h, hu => by
  have hx : x.cells.length = 13 := rfl
  rw [List.flatMap_cons, List.getElem?_append_right (by omega), hx, show (i + 1) * 13 + j - 13 = i * 13 + j by omega]
  exact flat_at es i j e u (by simpa using h) hu
theorem Hold.frames {w W : World} {t : List Nat} {l : List Own} (H : Hold w W t l) {v : Value} {es : List FE} (h1 : rowO v es ∈ l) (h2 : ∀ o ∈ rowT es, o ∈ l) : FsRead W v es := fun i e he => by
 have hrow : W.ownsRow 0 45 13 v es.length (es.flatMap FE.cells) := H.ok _ h1
 have hi : i < es.length := (List.getElem?_eq_some_iff.1 he).1
 rcases hrow.2 with ⟨rfl, h0⟩ | ⟨g, cap, cur, rfl, _, hb, hle, _, hsz, htk⟩
 ·omega
 ·obtain ⟨h3, h4⟩ := H.fr (h2 _ (rowT_mem (List.mem_of_getElem? he)))
  refine ⟨g, cap, rfl, fun j u hu => ?_, h3, h4⟩
  have hf := flat_at es i j e u he hu
  have hj : j < 13 := (List.getElem?_eq_some_iff.1 hu).1
  rw [← htk, List.getElem?_take] at hf
  rw [blk_cell hb, ← Array.getElem?_toList]
  split at hf
  ·exact hf
  ·cases hf
set_option maxHeartbeats 16000000 in
set_option maxRecDepth 100000 in
theorem same8_calls (w : World) (v1 v2 : Value) (es es' : List FE) (q1 q2 : Value) (hv1 : ∃ A c, v1 = .slice A es.length c) (hv2 : ∃ A c, v2 = .slice A es'.length c) (hA : FsRead w v1 es) (hB : FsRead w v2 es') (hx : es.map FE.x = es'.map FE.x) (hset : ∀ e ∈ es, e.x.1.sets.length ≤ 1000000) (hl : es.length ≤ 1000000) :
  Calls Tryd.prog 36 #[v1, v2] w fun e w' => e = .returned (.bool true) ∧ Below w.heap.size w w' := by
 refine of_post0 fun R hRR => ?_
 have HP := Lib.hid hRR
 obtain ⟨A1, c1_, rfl⟩ := hv1
 obtain ⟨A2, c2_, rfl⟩ := hv2
 have hll : es'.length = es.length := by have := congrArg List.length hx; simpa using this.symm
 rw [hll]
 have HA := Lib.hid hA
 have HB := Lib.hid hB
 have HX := Lib.hid (And.intro hx (And.intro hset hll))
 clear hRR hA hB hx hset hll
 have V := Aside0.mk (Below.refl w.heap.size w)
 go_enter Tryd.func36, Tryd.ntmps36
 go_wp2_with fail
 go_loopg [13] es.length (fun k v wr => ∃ j : Nat, v = .int .i64 (j : Int) ∧ j + k = es.length ∧ Aside0 (Below w.heap.size w wr))
 case atStart => exact ⟨0, rfl, by omega, V⟩
 case round =>
  obtain ⟨j, rfl, hj, V'⟩ := hrel
  clear V
  cases gk with
  | zero =>
   have d0 : decide ((j : Int) < (es.length : Int)) = false := by rw [decide_eq_false_iff_not]; omega
   have d1 : decide (j < es.length) = false := by rw [decide_eq_false_iff_not]; omega
   clear hj
   go_wp2_with fail
   exact HP.out _ _ ⟨rfl, V'.out⟩
  | succ k =>
   have d2 : j < es.length := by omega
   have d0 : decide ((j : Int) < (es.length : Int)) = true := decide_eq_true (by omega)
   have d1 : decide (j < es.length) = true := decide_eq_true d2
   have d3 : (j : Int) < (es.length : Int) := by omega
   obtain ⟨e, he⟩ : ∃ e, es[j]? = some e := ⟨_, List.getElem?_eq_getElem d2⟩
   obtain ⟨e', he'⟩ : ∃ e', es'[j]? = some e' := ⟨_, List.getElem?_eq_getElem (by rw [HX.out.2.2]; exact d2)⟩
   have hxx : e.x = e'.x := by
    have := congrArg (fun l => l[j]?) HX.out.1
    simpa [he, he'] using this
   have hse := HX.out.2.1 e (List.mem_of_getElem? he)
   obtain ⟨ga, c1', e1, pa, ra⟩ := (HA.out.below V'.out) j e he
   obtain ⟨gb, c2', e2, pb, rb⟩ := (HB.out.below V'.out) j e' he'
   obtain ⟨x, Aa, c1, Ba, m1⟩ := e
   obtain ⟨x', Ab, c2, Bb, m2⟩ := e'
   simp only at hxx hse
   subst hxx
   obtain ⟨F, s, cd⟩ := x
   rw [HX.out.2.2] at e2
   cases e1
   cases e2
   have pa0 := pa 0 _ rfl
   have pb0 := pb 0 _ rfl
   have pa1 := pa 1 _ rfl
   have pb1 := pb 1 _ rfl
   have pa2 := pa 2 _ rfl
   have pb2 := pb 2 _ rfl
   have pa3 := pa 3 _ rfl
   have pb3 := pb 3 _ rfl
   have pa4 := pa 4 _ rfl
   have pb4 := pb 4 _ rfl
   have pa5 := pa 5 _ rfl
   have pb5 := pb 5 _ rfl
   have pa6 := pa 6 _ rfl
   have pb6 := pb 6 _ rfl
   have pa7 := pa 7 _ rfl
   have pb7 := pb 7 _ rfl
   have pa8 := pa 8 _ rfl
   have pb8 := pb 8 _ rfl
   have pa9 := pa 9 _ rfl
   have pb9 := pb 9 _ rfl
   have pa10 := pa 10 _ rfl
   have pb10 := pb 10 _ rfl
   have pa11 := pa 11 _ rfl
   have pb11 := pb 11 _ rfl
   have pa12 := pa 12 _ rfl
   have pb12 := pb 12 _ rfl
   have HS_ := Lib.hid (fun W (hb : Below wr.heap.size wr W) => rsame_calls W F Aa Ab Ba Bb c1 c2 m1 m2 (ra.1.1.below hb) ra.1.2 (rb.1.1.below hb) rb.1.2 (Kd.C_below ra.2.1 hb) (Kd.C_below rb.2.1 hb) hse)
   have H : Hold wr wr [] [] := Hold.nothing (Kept.refl _ _)
   have hw : wrap64 ((j : Int) + 1) = ((j + 1 : Nat) : Int) := by rw [wrap_okF (by omega) (by omega)]; omega
   clear pa pb ra rb hse he he'
   go_upto_region 6 with fail
   replace H := H.below (below_drew (Below.refl _ _))
   refine start_ (n := 38) (S := fun w' => w'.cell? ⟨ga, j * 13, none⟩ = some (.int .u8 F.ty) ∧ w'.cell? ⟨ga, j * 13 + 1, none⟩ = some (.int .u8 F.fl) ∧ w'.cell? ⟨ga, j * 13 + 2, none⟩ = some (.int .u32 F.st) ∧ w'.cell? ⟨ga, j * 13 + 3, none⟩ = some (.slice Aa F.data.length c1) ∧ w'.cell? ⟨ga, j * 13 + 4, none⟩ = some (.int .i64 F.pad) ∧ w'.cell? ⟨ga, j * 13 + 5, none⟩ = some (.int .u32 F.code) ∧ w'.cell? ⟨ga, j * 13 + 6, none⟩ = some (.int .u32 F.oth) ∧ w'.cell? ⟨ga, j * 13 + 7, none⟩ = some (.int .u8 F.wgt) ∧ w'.cell? ⟨ga, j * 13 + 8, none⟩ = some (.bool F.al) ∧ w'.cell? ⟨ga, j * 13 + 9, none⟩ = some (.int .u32 F.win) ∧ w'.cell? ⟨ga, j * 13 + 10, none⟩ = some (.slice Ba F.sets.length m1) ∧ w'.cell? ⟨ga, j * 13 + 11, none⟩ = some (.int .u8 s) ∧ w'.cell? ⟨ga, j * 13 + 12, none⟩ = some (.int .u32 cd) ∧ w'.cell? ⟨gb, j * 13, none⟩ = some (.int .u8 F.ty) ∧ w'.cell? ⟨gb, j * 13 + 1, none⟩ = some (.int .u8 F.fl) ∧ w'.cell? ⟨gb, j * 13 + 2, none⟩ = some (.int .u32 F.st) ∧ w'.cell? ⟨gb, j * 13 + 3, none⟩ = some (.slice Ab F.data.length c2) ∧ w'.cell? ⟨gb, j * 13 + 4, none⟩ = some (.int .i64 F.pad) ∧ w'.cell? ⟨gb, j * 13 + 5, none⟩ = some (.int .u32 F.code) ∧ w'.cell? ⟨gb, j * 13 + 6, none⟩ = some (.int .u32 F.oth) ∧ w'.cell? ⟨gb, j * 13 + 7, none⟩ = some (.int .u8 F.wgt) ∧ w'.cell? ⟨gb, j * 13 + 8, none⟩ = some (.bool F.al) ∧ w'.cell? ⟨gb, j * 13 + 9, none⟩ = some (.int .u32 F.win) ∧ w'.cell? ⟨gb, j * 13 + 10, none⟩ = some (.slice Bb F.sets.length m2) ∧ w'.cell? ⟨gb, j * 13 + 11, none⟩ = some (.int .u8 s) ∧ w'.cell? ⟨gb, j * 13 + 12, none⟩ = some (.int .u32 cd)) (ds := []) #[false, false, false, false, false, false, false, false, false, false, false, false, false, false, false, false, false, false, false, false, false, false, false, false, false, false, false, false, false, false, false, false, false, false, false, false, false, false] (by kernel_rfl) rfl rfl ⟨(by first | exact pa0 | simpa using pa0), (by first | exact pa1 | simpa using pa1), (by first | exact pa2 | simpa using pa2), (by first | exact pa3 | simpa using pa3), (by first | exact pa4 | simpa using pa4), (by first | exact pa5 | simpa using pa5), (by first | exact pa6 | simpa using pa6), (by first | exact pa7 | simpa using pa7), (by first | exact pa8 | simpa using pa8), (by first | exact pa9 | simpa using pa9), (by first | exact pa10 | simpa using pa10), (by first | exact pa11 | simpa using pa11), (by first | exact pa12 | simpa using pa12), (by first | exact pb0 | simpa using pb0), (by first | exact pb1 | simpa using pb1), (by first | exact pb2 | simpa using pb2), (by first | exact pb3 | simpa using pb3), (by first | exact pb4 | simpa using pb4), (by first | exact pb5 | simpa using pb5), (by first | exact pb6 | simpa using pb6), (by first | exact pb7 | simpa using pb7), (by first | exact pb8 | simpa using pb8), (by first | exact pb9 | simpa using pb9), (by first | exact pb10 | simpa using pb10), (by first | exact pb11 | simpa using pb11), (by first | exact pb12 | simpa using pb12)⟩ (fun hHeld => ?_)
   generalize World.drew _ = wy at H hHeld ⊢
   refine pure_ (i := 0) (N := some 16) (v := ?_) (a' := ?_) #[true, false, false, false, false, false, false, false, false, false, false, false, false, false, false, false, false, false, false, false, false, false, false, false, false, false, false, false, false, false, false, false, false, false, false, false, false, false] rfl rfl (by kernel_rfl) (fun _ _ _ h => h) (Or.inl ⟨by rfl, ?_⟩) ?_ ?_
   rotate_left
   ·intro w'
    go_simp
    with_reducible rfl
   rotate_left
   ·simp only [Act.put, putA, putB, putC]
    rfl
   refine pure_ (i := 1) (N := some 17) (v := ?_) (a' := ?_) #[true, true, false, false, false, false, false, false, false, false, false, false, false, false, false, false, false, false, false, false, false, false, false, false, false, false, false, false, false, false, false, false, false, false, false, false, false, false] rfl rfl (by kernel_rfl) (fun _ _ _ h => h) (Or.inl ⟨by rfl, ?_⟩) ?_ ?_
   rotate_left
   ·intro w'
    go_simp
    with_reducible rfl
   rotate_left
   ·simp only [Act.put, putA, putB, putC]
    rfl
   refine pure_ (i := 2) (N := some 18) (v := ?_) (a' := ?_) #[true, true, true, false, false, false, false, false, false, false, false, false, false, false, false, false, false, false, false, false, false, false, false, false, false, false, false, false, false, false, false, false, false, false, false, false, false, false] rfl rfl (by kernel_rfl) (fun _ _ _ h => h) (Or.inl ⟨by rfl, ?_⟩) ?_ ?_
   rotate_left
   ·intro w'
    go_simp
    with_reducible rfl
   rotate_left
   ·simp only [Act.put, putA, putB, putC]
    rfl
   refine pure_ (i := 3) (N := some 19) (v := ?_) (a' := ?_) #[true, true, true, true, false, false, false, false, false, false, false, false, false, false, false, false, false, false, false, false, false, false, false, false, false, false, false, false, false, false, false, false, false, false, false, false, false, false] rfl rfl (by kernel_rfl) (fun _ _ _ h => h) (Or.inl ⟨by rfl, ?_⟩) ?_ ?_
   rotate_left
   ·intro w'
    go_simp
    with_reducible rfl
   rotate_left
   ·simp only [Act.put, putA, putB, putC]
    rfl
   refine take_ (i := 4) (N := some 20) (v := ?_) (a' := ?_) #[true, true, true, true, true, false, false, false, false, false, false, false, false, false, false, false, false, false, false, false, false, false, false, false, false, false, false, false, false, false, false, false, false, false, false, false, false, false] rfl rfl (by kernel_rfl) (fun _ _ _ h => h) (Or.inl ⟨by rfl, ?_⟩) hHeld ?_ ?_
   rotate_left
   ·rintro w' ⟨s0, s1, s2, s3, s4, s5, s6, s7, s8, s9, s10, s11, s12, s13, s14, s15, s16, s17, s18, s19, s20, s21, s22, s23, s24, s25⟩
    go_simp
    with_reducible rfl
   rotate_left
   ·simp only [Act.put, putA, putB, putC]
    rfl
   refine pure_ (i := 5) (N := some 21) (v := ?_) (a' := ?_) #[true, true, true, true, true, true, false, false, false, false, false, false, false, false, false, false, false, false, false, false, false, false, false, false, false, false, false, false, false, false, false, false, false, false, false, false, false, false] rfl rfl (by kernel_rfl) (fun _ _ _ h => h) (Or.inl ⟨by rfl, ?_⟩) ?_ ?_
   rotate_left
   ·intro w'
    go_simp
    with_reducible rfl
   rotate_left
   ·simp only [Act.put, putA, putB, putC]
    rfl
   refine pure_ (i := 6) (N := some 22) (v := ?_) (a' := ?_) #[true, true, true, true, true, true, true, false, false, false, false, false, false, false, false, false, false, false, false, false, false, false, false, false, false, false, false, false, false, false, false, false, false, false, false, false, false, false] rfl rfl (by kernel_rfl) (fun _ _ _ h => h) (Or.inl ⟨by rfl, ?_⟩) ?_ ?_
   rotate_left
   ·intro w'
    go_simp
    with_reducible rfl
   rotate_left
   ·simp only [Act.put, putA, putB, putC]
    rfl
   refine pure_ (i := 7) (N := some 23) (v := ?_) (a' := ?_) #[true, true, true, true, true, true, true, true, false, false, false, false, false, false, false, false, false, false, false, false, false, false, false, false, false, false, false, false, false, false, false, false, false, false, false, false, false, false] rfl rfl (by kernel_rfl) (fun _ _ _ h => h) (Or.inl ⟨by rfl, ?_⟩) ?_ ?_
   rotate_left
   ·intro w'
    go_simp
    with_reducible rfl
   rotate_left
   ·simp only [Act.put, putA, putB, putC]
    rfl
   refine pure_ (i := 8) (N := some 24) (v := ?_) (a' := ?_) #[true, true, true, true, true, true, true, true, true, false, false, false, false, false, false, false, false, false, false, false, false, false, false, false, false, false, false, false, false, false, false, false, false, false, false, false, false, false] rfl rfl (by kernel_rfl) (fun _ _ _ h => h) (Or.inl ⟨by rfl, ?_⟩) ?_ ?_
   rotate_left
   ·intro w'
    go_simp
    with_reducible rfl
   rotate_left
   ·simp only [Act.put, putA, putB, putC]
    rfl
   refine take_ (i := 9) (N := some 25) (v := ?_) (a' := ?_) #[true, true, true, true, true, true, true, true, true, true, false, false, false, false, false, false, false, false, false, false, false, false, false, false, false, false, false, false, false, false, false, false, false, false, false, false, false, false] rfl rfl (by kernel_rfl) (fun _ _ _ h => h) (Or.inl ⟨by rfl, ?_⟩) hHeld ?_ ?_
   rotate_left
   ·rintro w' ⟨s0, s1, s2, s3, s4, s5, s6, s7, s8, s9, s10, s11, s12, s13, s14, s15, s16, s17, s18, s19, s20, s21, s22, s23, s24, s25⟩
    go_simp
    with_reducible rfl
   rotate_left
   ·simp only [Act.put, putA, putB, putC]
    rfl
   refine one_ (i := 10) (N := some 26) #[true, true, true, true, true, true, true, true, true, true, true, false, false, false, false, false, false, false, false, false, false, false, false, false, false, false, false, false, false, false, false, false, false, false, false, false, false, false] rfl rfl (by kernel_rfl) (by decide) (fun K hK => ?_)
   refine goes_ Tryd.func28 (by kernel_rfl) rfl #[.agg (frC F (.slice Aa F.data.length c1) (.slice Ba F.sets.length m1)), .agg (frC F (.slice Ab F.data.length c2) (.slice Bb F.sets.length m2))] (by rfl) rfl rfl (by (try simp only [List.map_toArray, List.map_cons, List.map_nil]); first | done | rfl) ?_
   refine (HS_.out _ H.all).mono ?_
   rintro e_ w9 ⟨rfl, h_⟩
   replace H := H.below h_
   refine ⟨_, rfl, ?_⟩
   have hS := Lib.hid (show (fun w' : World => w'.cell? ⟨ga, j * 13, none⟩ = some (.int .u8 F.ty) ∧ w'.cell? ⟨ga, j * 13 + 1, none⟩ = some (.int .u8 F.fl) ∧ w'.cell? ⟨ga, j * 13 + 2, none⟩ = some (.int .u32 F.st) ∧ w'.cell? ⟨ga, j * 13 + 3, none⟩ = some (.slice Aa F.data.length c1) ∧ w'.cell? ⟨ga, j * 13 + 4, none⟩ = some (.int .i64 F.pad) ∧ w'.cell? ⟨ga, j * 13 + 5, none⟩ = some (.int .u32 F.code) ∧ w'.cell? ⟨ga, j * 13 + 6, none⟩ = some (.int .u32 F.oth) ∧ w'.cell? ⟨ga, j * 13 + 7, none⟩ = some (.int .u8 F.wgt) ∧ w'.cell? ⟨ga, j * 13 + 8, none⟩ = some (.bool F.al) ∧ w'.cell? ⟨ga, j * 13 + 9, none⟩ = some (.int .u32 F.win) ∧ w'.cell? ⟨ga, j * 13 + 10, none⟩ = some (.slice Ba F.sets.length m1) ∧ w'.cell? ⟨ga, j * 13 + 11, none⟩ = some (.int .u8 s) ∧ w'.cell? ⟨ga, j * 13 + 12, none⟩ = some (.int .u32 cd) ∧ w'.cell? ⟨gb, j * 13, none⟩ = some (.int .u8 F.ty) ∧ w'.cell? ⟨gb, j * 13 + 1, none⟩ = some (.int .u8 F.fl) ∧ w'.cell? ⟨gb, j * 13 + 2, none⟩ = some (.int .u32 F.st) ∧ w'.cell? ⟨gb, j * 13 + 3, none⟩ = some (.slice Ab F.data.length c2) ∧ w'.cell? ⟨gb, j * 13 + 4, none⟩ = some (.int .i64 F.pad) ∧ w'.cell? ⟨gb, j * 13 + 5, none⟩ = some (.int .u32 F.code) ∧ w'.cell? ⟨gb, j * 13 + 6, none⟩ = some (.int .u32 F.oth) ∧ w'.cell? ⟨gb, j * 13 + 7, none⟩ = some (.int .u8 F.wgt) ∧ w'.cell? ⟨gb, j * 13 + 8, none⟩ = some (.bool F.al) ∧ w'.cell? ⟨gb, j * 13 + 9, none⟩ = some (.int .u32 F.win) ∧ w'.cell? ⟨gb, j * 13 + 10, none⟩ = some (.slice Bb F.sets.length m2) ∧ w'.cell? ⟨gb, j * 13 + 11, none⟩ = some (.int .u8 s) ∧ w'.cell? ⟨gb, j * 13 + 12, none⟩ = some (.int .u32 cd)) _ from ⟨pw_cell_below h_ hHeld.1, pw_cell_below h_ hHeld.2.1, pw_cell_below h_ hHeld.2.2.1, pw_cell_below h_ hHeld.2.2.2.1, pw_cell_below h_ hHeld.2.2.2.2.1, pw_cell_below h_ hHeld.2.2.2.2.2.1, pw_cell_below h_ hHeld.2.2.2.2.2.2.1, pw_cell_below h_ hHeld.2.2.2.2.2.2.2.1, pw_cell_below h_ hHeld.2.2.2.2.2.2.2.2.1, pw_cell_below h_ hHeld.2.2.2.2.2.2.2.2.2.1, pw_cell_below h_ hHeld.2.2.2.2.2.2.2.2.2.2.1, pw_cell_below h_ hHeld.2.2.2.2.2.2.2.2.2.2.2.1, pw_cell_below h_ hHeld.2.2.2.2.2.2.2.2.2.2.2.2.1, pw_cell_below h_ hHeld.2.2.2.2.2.2.2.2.2.2.2.2.2.1, pw_cell_below h_ hHeld.2.2.2.2.2.2.2.2.2.2.2.2.2.2.1, pw_cell_below h_ hHeld.2.2.2.2.2.2.2.2.2.2.2.2.2.2.2.1, pw_cell_below h_ hHeld.2.2.2.2.2.2.2.2.2.2.2.2.2.2.2.2.1, pw_cell_below h_ hHeld.2.2.2.2.2.2.2.2.2.2.2.2.2.2.2.2.2.1, pw_cell_below h_ hHeld.2.2.2.2.2.2.2.2.2.2.2.2.2.2.2.2.2.2.1, pw_cell_below h_ hHeld.2.2.2.2.2.2.2.2.2.2.2.2.2.2.2.2.2.2.2.1, pw_cell_below h_ hHeld.2.2.2.2.2.2.2.2.2.2.2.2.2.2.2.2.2.2.2.2.1, pw_cell_below h_ hHeld.2.2.2.2.2.2.2.2.2.2.2.2.2.2.2.2.2.2.2.2.2.1, pw_cell_below h_ hHeld.2.2.2.2.2.2.2.2.2.2.2.2.2.2.2.2.2.2.2.2.2.2.1, pw_cell_below h_ hHeld.2.2.2.2.2.2.2.2.2.2.2.2.2.2.2.2.2.2.2.2.2.2.2.1, pw_cell_below h_ hHeld.2.2.2.2.2.2.2.2.2.2.2.2.2.2.2.2.2.2.2.2.2.2.2.2.1, pw_cell_below h_ hHeld.2.2.2.2.2.2.2.2.2.2.2.2.2.2.2.2.2.2.2.2.2.2.2.2.2⟩)
   clear h_
   refine hK.out _ _ hS.out (fun hHeld => ?_)
   clear hK K
   clear hS
   refine norm_ (a' := ?_) ?_ ?_
   rotate_left
   ·show Act.put _ (some 26) _ = _
    simp only [Act.put, putA, putB, putC]
    rfl
   refine pure_ (i := 11) (N := some 27) (v := ?_) (a' := ?_) #[true, true, true, true, true, true, true, true, true, true, true, true, false, false, false, false, false, false, false, false, false, false, false, false, false, false, false, false, false, false, false, false, false, false, false, false, false, false] rfl rfl (by kernel_rfl) (fun _ _ _ h => h) (Or.inl ⟨by rfl, ?_⟩) ?_ ?_
   rotate_left
   ·intro w'
    go_simp
    with_reducible rfl
   rotate_left
   ·simp only [Act.put, putA, putB, putC]
    rfl
   refine pure_ (i := 12) (N := some 28) (v := ?_) (a' := ?_) #[true, true, true, true, true, true, true, true, true, true, true, true, true, false, false, false, false, false, false, false, false, false, false, false, false, false, false, false, false, false, false, false, false, false, false, false, false, false] rfl rfl (by kernel_rfl) (fun _ _ _ h => h) (Or.inl ⟨by rfl, ?_⟩) ?_ ?_
   rotate_left
   ·intro w'
    go_simp
    with_reducible rfl
   rotate_left
   ·simp only [Act.put, putA, putB, putC]
    rfl
   refine pure_ (i := 13) (N := some 29) (v := ?_) (a' := ?_) #[true, true, true, true, true, true, true, true, true, true, true, true, true, true, false, false, false, false, false, false, false, false, false, false, false, false, false, false, false, false, false, false, false, false, false, false, false, false] rfl rfl (by kernel_rfl) (fun _ _ _ h => h) (Or.inl ⟨by rfl, ?_⟩) ?_ ?_
   rotate_left
   ·intro w'
    go_simp
    with_reducible rfl
   rotate_left
   ·simp only [Act.put, putA, putB, putC]
    rfl
   refine pure_ (i := 14) (N := some 30) (v := ?_) (a' := ?_) #[true, true, true, true, true, true, true, true, true, true, true, true, true, true, true, false, false, false, false, false, false, false, false, false, false, false, false, false, false, false, false, false, false, false, false, false, false, false] rfl rfl (by kernel_rfl) (fun _ _ _ h => h) (Or.inl ⟨by rfl, ?_⟩) ?_ ?_
   rotate_left
   ·intro w'
    go_simp
    with_reducible rfl
   rotate_left
   ·simp only [Act.put, putA, putB, putC]
    rfl
   refine pure_ (i := 15) (N := some 31) (v := ?_) (a' := ?_) #[true, true, true, true, true, true, true, true, true, true, true, true, true, true, true, true, false, false, false, false, false, false, false, false, false, false, false, false, false, false, false, false, false, false, false, false, false, false] rfl rfl (by kernel_rfl) (fun _ _ _ h => h) (Or.inl ⟨by rfl, ?_⟩) ?_ ?_
   rotate_left
   ·intro w'
    go_simp
    with_reducible rfl
   rotate_left
   ·simp only [Act.put, putA, putB, putC]
    rfl
   refine pure_ (i := 16) (N := some 32) (v := ?_) (a' := ?_) #[true, true, true, true, true, true, true, true, true, true, true, true, true, true, true, true, true, false, false, false, false, false, false, false, false, false, false, false, false, false, false, false, false, false, false, false, false, false] rfl rfl (by kernel_rfl) (fun _ _ _ h => h) (Or.inl ⟨by rfl, ?_⟩) ?_ ?_
   rotate_left
   ·intro w'
    go_simp
    with_reducible rfl
   rotate_left
   ·simp only [Act.put, putA, putB, putC]
    rfl
   refine take_ (i := 17) (N := some 33) (v := ?_) (a' := ?_) #[true, true, true, true, true, true, true, true, true, true, true, true, true, true, true, true, true, true, false, false, false, false, false, false, false, false, false, false, false, false, false, false, false, false, false, false, false, false] rfl rfl (by kernel_rfl) (fun _ _ _ h => h) (Or.inl ⟨by rfl, ?_⟩) hHeld ?_ ?_
   rotate_left
   ·rintro w' ⟨s0, s1, s2, s3, s4, s5, s6, s7, s8, s9, s10, s11, s12, s13, s14, s15, s16, s17, s18, s19, s20, s21, s22, s23, s24, s25⟩
    go_simp
    with_reducible rfl
   rotate_left
   ·simp only [Act.put, putA, putB, putC]
    rfl
   refine pure_ (i := 18) (N := some 34) (v := ?_) (a' := ?_) #[true, true, true, true, true, true, true, true, true, true, true, true, true, true, true, true, true, true, true, false, false, false, false, false, false, false, false, false, false, false, false, false, false, false, false, false, false, false] rfl rfl (by kernel_rfl) (fun _ _ _ h => h) (Or.inl ⟨by rfl, ?_⟩) ?_ ?_
   rotate_left
   ·intro w'
    go_simp
    with_reducible rfl
   rotate_left
   ·simp only [Act.put, putA, putB, putC]
    rfl
   refine pure_ (i := 19) (N := some 35) (v := ?_) (a' := ?_) #[true, true, true, true, true, true, true, true, true, true, true, true, true, true, true, true, true, true, true, true, false, false, false, false, false, false, false, false, false, false, false, false, false, false, false, false, false, false] rfl rfl (by kernel_rfl) (fun _ _ _ h => h) (Or.inl ⟨by rfl, ?_⟩) ?_ ?_
   rotate_left
   ·intro w'
    go_simp
    with_reducible rfl
   rotate_left
   ·simp only [Act.put, putA, putB, putC]
    rfl
   refine pure_ (i := 20) (N := some 36) (v := ?_) (a' := ?_) #[true, true, true, true, true, true, true, true, true, true, true, true, true, true, true, true, true, true, true, true, true, false, false, false, false, false, false, false, false, false, false, false, false, false, false, false, false, false] rfl rfl (by kernel_rfl) (fun _ _ _ h => h) (Or.inl ⟨by rfl, ?_⟩) ?_ ?_
   rotate_left
   ·intro w'
    go_simp
    with_reducible rfl
   rotate_left
   ·simp only [Act.put, putA, putB, putC]
    rfl
   refine pure_ (i := 21) (N := some 37) (v := ?_) (a' := ?_) #[true, true, true, true, true, true, true, true, true, true, true, true, true, true, true, true, true, true, true, true, true, true, false, false, false, false, false, false, false, false, false, false, false, false, false, false, false, false] rfl rfl (by kernel_rfl) (fun _ _ _ h => h) (Or.inl ⟨by rfl, ?_⟩) ?_ ?_
   rotate_left
   ·intro w'
    go_simp
    with_reducible rfl
   rotate_left
   ·simp only [Act.put, putA, putB, putC]
    rfl
   refine take_ (i := 22) (N := some 38) (v := ?_) (a' := ?_) #[true, true, true, true, true, true, true, true, true, true, true, true, true, true, true, true, true, true, true, true, true, true, true, false, false, false, false, false, false, false, false, false, false, false, false, false, false, false] rfl rfl (by kernel_rfl) (fun _ _ _ h => h) (Or.inl ⟨by rfl, ?_⟩) hHeld ?_ ?_
   rotate_left
   ·rintro w' ⟨s0, s1, s2, s3, s4, s5, s6, s7, s8, s9, s10, s11, s12, s13, s14, s15, s16, s17, s18, s19, s20, s21, s22, s23, s24, s25⟩
    go_simp
    with_reducible rfl
   rotate_left
   ·simp only [Act.put, putA, putB, putC]
    rfl
   refine pure_ (i := 23) (N := some 39) (v := ?_) (a' := ?_) #[true, true, true, true, true, true, true, true, true, true, true, true, true, true, true, true, true, true, true, true, true, true, true, true, false, false, false, false, false, false, false, false, false, false, false, false, false, false] rfl rfl (by kernel_rfl) (fun _ _ _ h => h) (Or.inl ⟨by rfl, ?_⟩) ?_ ?_
   rotate_left
   ·intro w'
    go_simp
    with_reducible rfl
   rotate_left
   ·simp only [Act.put, putA, putB, putC]
    rfl
   refine pure_ (i := 24) (N := some 40) (v := ?_) (a' := ?_) #[true, true, true, true, true, true, true, true, true, true, true, true, true, true, true, true, true, true, true, true, true, true, true, true, true, false, false, false, false, false, false, false, false, false, false, false, false, false] rfl rfl (by kernel_rfl) (fun _ _ _ h => h) (Or.inl ⟨by rfl, ?_⟩) ?_ ?_
   rotate_left
   ·intro w'
    go_simp
    with_reducible rfl
   rotate_left
   ·simp only [Act.put, putA, putB, putC]
    rfl
   refine pure_ (i := 25) (N := some 41) (v := ?_) (a' := ?_) #[true, true, true, true, true, true, true, true, true, true, true, true, true, true, true, true, true, true, true, true, true, true, true, true, true, true, false, false, false, false, false, false, false, false, false, false, false, false] rfl rfl (by kernel_rfl) (fun _ _ _ h => h) (Or.inl ⟨by rfl, ?_⟩) ?_ ?_
   rotate_left
   ·intro w'
    go_simp
    with_reducible rfl
   rotate_left
   ·simp only [Act.put, putA, putB, putC]
    rfl
   refine pure_ (i := 26) (N := some 42) (v := ?_) (a' := ?_) #[true, true, true, true, true, true, true, true, true, true, true, true, true, true, true, true, true, true, true, true, true, true, true, true, true, true, true, false, false, false, false, false, false, false, false, false, false, false] rfl rfl (by kernel_rfl) (fun _ _ _ h => h) (Or.inl ⟨by rfl, ?_⟩) ?_ ?_
   rotate_left
   ·intro w'
    go_simp
    with_reducible rfl
   rotate_left
   ·simp only [Act.put, putA, putB, putC]
    rfl
   refine pure_ (i := 27) (N := some 43) (v := ?_) (a' := ?_) #[true, true, true, true, true, true, true, true, true, true, true, true, true, true, true, true, true, true, true, true, true, true, true, true, true, true, true, true, false, false, false, false, false, false, false, false, false, false] rfl rfl (by kernel_rfl) (fun _ _ _ h => h) (Or.inl ⟨by rfl, ?_⟩) ?_ ?_
   rotate_left
   ·intro w'
    go_simp
    with_reducible rfl
   rotate_left
   ·simp only [Act.put, putA, putB, putC]
    rfl
   refine pure_ (i := 28) (N := some 44) (v := ?_) (a' := ?_) #[true, true, true, true, true, true, true, true, true, true, true, true, true, true, true, true, true, true, true, true, true, true, true, true, true, true, true, true, true, false, false, false, false, false, false, false, false, false] rfl rfl (by kernel_rfl) (fun _ _ _ h => h) (Or.inl ⟨by rfl, ?_⟩) ?_ ?_
   rotate_left
   ·intro w'
    go_simp
    with_reducible rfl
   rotate_left
   ·simp only [Act.put, putA, putB, putC]
    rfl
   refine pure_ (i := 29) (N := some 45) (v := ?_) (a' := ?_) #[true, true, true, true, true, true, true, true, true, true, true, true, true, true, true, true, true, true, true, true, true, true, true, true, true, true, true, true, true, true, false, false, false, false, false, false, false, false] rfl rfl (by kernel_rfl) (fun _ _ _ h => h) (Or.inl ⟨by rfl, ?_⟩) ?_ ?_
   rotate_left
   ·intro w'
    go_simp
    with_reducible rfl
   rotate_left
   ·simp only [Act.put, putA, putB, putC]
    rfl
   refine take_ (i := 30) (N := some 46) (v := ?_) (a' := ?_) #[true, true, true, true, true, true, true, true, true, true, true, true, true, true, true, true, true, true, true, true, true, true, true, true, true, true, true, true, true, true, true, false, false, false, false, false, false, false] rfl rfl (by kernel_rfl) (fun _ _ _ h => h) (Or.inl ⟨by rfl, ?_⟩) hHeld ?_ ?_
   rotate_left
   ·rintro w' ⟨s0, s1, s2, s3, s4, s5, s6, s7, s8, s9, s10, s11, s12, s13, s14, s15, s16, s17, s18, s19, s20, s21, s22, s23, s24, s25⟩
    go_simp
    with_reducible rfl
   rotate_left
   ·simp only [Act.put, putA, putB, putC]
    rfl
   refine pure_ (i := 31) (N := some 47) (v := ?_) (a' := ?_) #[true, true, true, true, true, true, true, true, true, true, true, true, true, true, true, true, true, true, true, true, true, true, true, true, true, true, true, true, true, true, true, true, false, false, false, false, false, false] rfl rfl (by kernel_rfl) (fun _ _ _ h => h) (Or.inl ⟨by rfl, ?_⟩) ?_ ?_
   rotate_left
   ·intro w'
    go_simp
    with_reducible rfl
   rotate_left
   ·simp only [Act.put, putA, putB, putC]
    rfl
   refine pure_ (i := 32) (N := some 48) (v := ?_) (a' := ?_) #[true, true, true, true, true, true, true, true, true, true, true, true, true, true, true, true, true, true, true, true, true, true, true, true, true, true, true, true, true, true, true, true, true, false, false, false, false, false] rfl rfl (by kernel_rfl) (fun _ _ _ h => h) (Or.inl ⟨by rfl, ?_⟩) ?_ ?_
   rotate_left
   ·intro w'
    go_simp
    with_reducible rfl
   rotate_left
   ·simp only [Act.put, putA, putB, putC]
    rfl
   refine pure_ (i := 33) (N := some 49) (v := ?_) (a' := ?_) #[true, true, true, true, true, true, true, true, true, true, true, true, true, true, true, true, true, true, true, true, true, true, true, true, true, true, true, true, true, true, true, true, true, true, false, false, false, false] rfl rfl (by kernel_rfl) (fun _ _ _ h => h) (Or.inl ⟨by rfl, ?_⟩) ?_ ?_
   rotate_left
   ·intro w'
    go_simp
    with_reducible rfl
   rotate_left
   ·simp only [Act.put, putA, putB, putC]
    rfl
   refine pure_ (i := 34) (N := some 50) (v := ?_) (a' := ?_) #[true, true, true, true, true, true, true, true, true, true, true, true, true, true, true, true, true, true, true, true, true, true, true, true, true, true, true, true, true, true, true, true, true, true, true, false, false, false] rfl rfl (by kernel_rfl) (fun _ _ _ h => h) (Or.inl ⟨by rfl, ?_⟩) ?_ ?_
   rotate_left
   ·intro w'
    go_simp
    with_reducible rfl
   rotate_left
   ·simp only [Act.put, putA, putB, putC]
    rfl
   refine take_ (i := 35) (N := some 51) (v := ?_) (a' := ?_) #[true, true, true, true, true, true, true, true, true, true, true, true, true, true, true, true, true, true, true, true, true, true, true, true, true, true, true, true, true, true, true, true, true, true, true, true, false, false] rfl rfl (by kernel_rfl) (fun _ _ _ h => h) (Or.inl ⟨by rfl, ?_⟩) hHeld ?_ ?_
   rotate_left
   ·rintro w' ⟨s0, s1, s2, s3, s4, s5, s6, s7, s8, s9, s10, s11, s12, s13, s14, s15, s16, s17, s18, s19, s20, s21, s22, s23, s24, s25⟩
    go_simp
    with_reducible rfl
   rotate_left
   ·simp only [Act.put, putA, putB, putC]
    rfl
   refine pure_ (i := 36) (N := some 52) (v := ?_) (a' := ?_) #[true, true, true, true, true, true, true, true, true, true, true, true, true, true, true, true, true, true, true, true, true, true, true, true, true, true, true, true, true, true, true, true, true, true, true, true, true, false] rfl rfl (by kernel_rfl) (fun _ _ _ h => h) (Or.inl ⟨by rfl, ?_⟩) ?_ ?_
   rotate_left
   ·intro w'
    go_simp
    with_reducible rfl
   rotate_left
   ·simp only [Act.put, putA, putB, putC]
    rfl
   refine pure_ (i := 37) (N := some 53) (v := ?_) (a' := ?_) #[true, true, true, true, true, true, true, true, true, true, true, true, true, true, true, true, true, true, true, true, true, true, true, true, true, true, true, true, true, true, true, true, true, true, true, true, true, true] rfl rfl (by kernel_rfl) (fun _ _ _ h => h) (Or.inl ⟨by rfl, ?_⟩) ?_ ?_
   rotate_left
   ·intro w'
    go_simp
    with_reducible rfl
   rotate_left
   ·simp only [Act.put, putA, putB, putC]
    rfl
   refine done_ (by kernel_rfl) ?_
   go_wp2_with fail
   go_roundg k
   case measure => omega
   case rel => exact ⟨j + 1, by first | rfl | (simp; done), by omega, Aside0.mk (V'.out.trans (H.all.mono V'.out.size))⟩
end Go.Proofs.YtjjfkmniffbgkaaDoor

/- A row of frames that came in, opened; a struct of it loaded. -/
namespace Go.Proofs.YtjjfkmniffbgkaaDoor
set_option linter.unusedVariables false
set_option linter.unusedSimpArgs false
open Go.RowKit Go.ChangeShapes Go.WideShapes Go.Deep Go.Joins Go.Proofs.YtjjfkmniffbgkaaDoorW.PrintWords Go.Proofs.YtjjfkmniffbgkaaDoorW.PrintLast Go.Proofs.YtjjfkmniffbgkaaDoorW.PrintMore Go.Proofs.YtjjfkmniffbgkaaDoor.QFrmA
theorem list_load_at {P : Program} {ops : Array Oper} {rest : List Oper} {o : Oper} {a : Act} {w : World} {Q : Exit → Act → World → Prop} (hgd : o.guard = none) {ty : TypeId} {x : Operand} (ho : o.op = .load ty x) {ad : Addr} (hx : a.eval x = .pointer (some ad)) (cs : List Value)
  (hc : ∀ j v, cs[j]? = some v → w.cell? (ad.add j) = some v) (hd : (P.underlying ty).map (·.isRow) = some true) (hi : (P.info? ty).map (·.size) = some cs.length) (h : wpList P ops Q rest (a.put o.dst (.agg cs.toArray)) w) : wpList P ops Q (o :: rest) a w := by
 obtain ⟨d, hu, hr⟩ := Option.map_eq_some_iff.1 hd
 have hl : (loadCells ad cs.length).run P w = .ok cs.toArray w := run_loadCells_list (P := P) w ad cs hc
 have hv : (loadVar ty ad).run P w = .ok (.agg cs.toArray) w := by
  cases hq : P.info? ty with
  | none => simp [hq] at hi
  | some i =>
   have hs : i.size = cs.length := by simpa [hq] using hi
   have hagg : (isAgg ty).run P w = .ok true w := by
    unfold isAgg
    rw [Sem.run_bind, run_underlying hu w]
    cases d <;> simp_all
   simp [loadVar, Sem.run_bind, hagg, sizeOf, typeInfo, hq, hs, hl]
 refine wpList_plain hgd fun K hK => ?_
 unfold Oper.wp execOp
 simp only [ho, hx, Instr.loadAt, Instr.sureAddr, Sem.run_bind, Sem.run_pure, Result.andThen_ok, hv]
 exact hK _ _ h
abbrev FE.frc (e : FE) : List Value := (frC e.x.1 (.slice e.A e.x.1.data.length e.ca) (.slice e.B e.x.1.sets.length e.mb)).toList
def FsIn (w : World) (A : Option Addr) (l : List FE) : Prop := ∀ (i : Nat) (e : FE), l[i]? = some e → ∃ a, A = some a ∧ (∀ (j : Nat) (u : Value), e.frc[j]? = some u → w.cell? ((a.add (i * 11)).add j) = some u) ∧
 (ReadsInt w .u8 e.A e.x.1.data.length e.x.1.data ∧ e.x.1.data.length ≤ e.ca) ∧ (k99.C w e.B e.x.1.sets.length e.x.1.sets ∧ e.x.1.sets.length ≤ e.mb) ∧ FrWf e.x.1 ∧ e.x.2 = (0, 0)
theorem FsIn.below {w W : World} {A : Option Addr} {l : List FE} (h : FsIn w A l) (hb : Below w.heap.size w W) : FsIn W A l := fun i e he => by
 obtain ⟨a, h1, h2, h3, h4, h5⟩ := h i e he
 exact ⟨a, h1, fun j u hu => pw_cell_below hb (h2 j u hu), ⟨h3.1.below hb, h3.2⟩, ⟨Kd.C_below h4.1 hb, h4.2⟩, h5⟩
set_option maxRecDepth 100000 in
theorem open_frs {H : Type} {enc : TypeId × Value → H} {W : World} {b0 : Nat} {v : Value} {d : DataW H} {p : List MemPlace} (hv : Value.okWide Tryd.prog W .any b0 72 v)
  (h : DataW.Trod enc Tryd.prog W 0 (fun _ => true) true 72 v d p) : ∃ (A : Option Addr) (l : List FE) (c : Nat), v = .slice A l.length c ∧ l.length ≤ 9223372036854775807 ∧ FsIn W A l := by
 obtain ⟨A, n, cap, rfl⟩ := okWide_slice Tryd.underlying72 hv
 obtain ⟨fuel, hf⟩ := h
 rcases open_slice Tryd.underlying72 hf with ⟨hcs, _⟩ | ⟨a, len, cap', m, k, D, Pl, hcs, hb, hl, hm, hmm, hx, hi⟩
 ·simp [Value.cells] at hcs
  obtain ⟨rfl, rfl, rfl⟩ := hcs
  exact ⟨none, [], 0, rfl, Nat.zero_le _, fun i e he => by simp at he⟩
 ·simp [Value.cells] at hcs
  obtain ⟨rfl, rfl, rfl⟩ := hcs
  unfold maxLen at hm
  have hC : Tryd.prog.cellsOf 38 = 11 := by kernel_rfl
  have hat : ∀ i, i < n → ∃ e : FE, (∀ (j : Nat) (u : Value), e.frc[j]? = some u → W.cell? ((a.add (i * 11)).add j) = some u) ∧
   (ReadsInt W .u8 e.A e.x.1.data.length e.x.1.data ∧ e.x.1.data.length ≤ e.ca) ∧ (k99.C W e.B e.x.1.sets.length e.x.1.sets ∧ e.x.1.sets.length ≤ e.mb) ∧ FrWf e.x.1 ∧ e.x.2 = (0, 0) := by
   intro i hin
   obtain ⟨cs', hc, ht⟩ := hi i (by simp at hmm; omega)
   rw [hC] at hc
   obtain ⟨_, hcl, hat⟩ := World.cells?_some hc
   obtain ⟨F, A1, B1, c1, m1, rfl, h1, h2, h3, h4, h5⟩ := open_fr_cells ht
   refine ⟨⟨(F, 0, 0), A1, c1, B1, m1⟩, fun j u hj => ?_, ⟨h1, h2⟩, ⟨h3, h4⟩, h5, rfl⟩
   have hlt : j < 11 := (List.getElem?_eq_some_iff.1 hj).1
   exact (hat j hlt).trans hj
  have hex : ∃ l : List FE, l.length = n ∧ ∀ i e, l[i]? = some e → (∀ (j : Nat) (u : Value), e.frc[j]? = some u → W.cell? ((a.add (i * 11)).add j) = some u) ∧
   (ReadsInt W .u8 e.A e.x.1.data.length e.x.1.data ∧ e.x.1.data.length ≤ e.ca) ∧ (k99.C W e.B e.x.1.sets.length e.x.1.sets ∧ e.x.1.sets.length ≤ e.mb) ∧ FrWf e.x.1 ∧ e.x.2 = (0, 0) := by
   clear hf hi hl hm hmm hx hb hv
   induction n with
   | zero => exact ⟨[], rfl, fun i e h => by simp at h⟩
   | succ n ih =>
    obtain ⟨l, hl, hc⟩ := ih (fun i h => hat i (by omega))
    obtain ⟨e, he⟩ := hat n (by omega)
    refine ⟨l ++ [e], by simp [hl], fun i e' h => ?_⟩
    by_cases hlt : i < l.length
    ·rw [List.getElem?_append_left hlt] at h
     exact hc i e' h
    ·have hi : i < (l ++ [e]).length := (List.getElem?_eq_some_iff.1 h).1
     have e1 : i = n := by simp at hi; omega
     subst e1
     rw [List.getElem?_append_right (by omega), hl, Nat.sub_self] at h
     obtain rfl : e = e' := by simpa using h
     exact he
  obtain ⟨l, rfl, hc⟩ := hex
  exact ⟨some a, l, cap, rfl, by omega, fun i e he => ⟨a, rfl, hc i e he⟩⟩
end Go.Proofs.YtjjfkmniffbgkaaDoor

/- What a walk holds: a text's bytes put to a row. -/
namespace Go.Proofs.YtjjfkmniffbgkaaDoor
set_option linter.unusedVariables false
set_option linter.unusedSimpArgs false
open Go.Lib Go.RowKit Go.Proofs.YtjjfkmniffbgkaaDoorW.PrintWords Go.Proofs.YtjjfkmniffbgkaaDoorW.PrintLast Go.Proofs.YtjjfkmniffbgkaaDoorW.PrintMore Go.Proofs.YtjjfkmniffbgkaaDoor.QFrmA Go.Proofs.YtjjfkmniffbgkaaDoor.Given Go.Extern.Stop Go.Stop Go.Extern Go.Maps
theorem strCells_nums {l : List Int} (h : Byte8 l) : strCells (strOfNums l) = nums .u8 l := by
 have e := back_list l h
 have e2 : (strOfNums l).data.toList = l.map fun n => UInt8.ofNat n.toNat := by simp [strOfNums]
 unfold strCells
 rw [e2]
 conv => rhs; rw [← e]
 simp [nums]
def IsB (ob : Own) (v : Value) (xs : List Int) : Prop := (∃ g, ob = preO g ∧ v = .slice (some ⟨g, 0, none⟩) 24 24 ∧ xs = pre24) ∨ ob = nrow 5 v .u8 xs
theorem strrow_run {P : Program} {W : World} {st u ty e : TypeId} (ht : P.underlying st = some (.slice e)) (hu : P.underlying u = some .string) (hinfo : (P.info? e).map (fun i => (i.zero, i.size, i.bytes)) = some (some (.int .u8 0), 1, 1))
  {v : Value} {xs ys : List Int} (hy : Byte8 ys) (h0 : 0 < xs.length) (hl : xs.length + ys.length ≤ 140737488350000) (hB : W.ownsRow 0 e 1 v xs.length (nums .u8 xs) ∨ ∃ g r, v = .slice (some ⟨g, 0, none⟩) xs.length xs.length ∧ W.heap[g]? = some (.cells (nums .u8 xs).toArray e r) ∧ 0 < ys.length) :
  ∃ v1 w1, (Builtin.append_ #[st, u] ty #[v, .string (strOfNums ys)]).run P W = .ok v1 w1 ∧ w1.ownsRow 0 e 1 v1 (xs ++ ys).length (nums .u8 (xs ++ ys)) ∧ W.grownBy w1 v.ownBlock ∧ (∀ k, v1.ownBlock = some k → W.heap.size ≤ k ∨ v.ownBlock = some k) := by
 obtain ⟨i0, hi, hq⟩ := Option.map_eq_some_iff.1 hinfo
 simp only [Prod.mk.injEq] at hq
 obtain ⟨hz, hsz, hby⟩ := hq
 have hs := str_size ys
 have hlen : (nums .u8 (xs ++ ys)).length = (xs ++ ys).length * 1 := by rw [nums_length, Nat.mul_one]
 have grown : ∀ g cap, (∀ j w_, (nums .u8 xs)[j]? = some w_ → W.cell? ((⟨g, 0, none⟩ : Addr).add j) = some w_) → cap < xs.length + ys.length → ∃ v1 w1, (Builtin.append_ #[st, u] ty #[.slice (some ⟨g, 0, none⟩) xs.length cap, .string (strOfNums ys)]).run P W = .ok v1 w1 ∧ w1.ownsRow 0 e 1 v1 (xs ++ ys).length (nums .u8 (xs ++ ys)) ∧ W.grownBy w1 (some g) ∧ (∀ k, v1.ownBlock = some k → W.heap.size ≤ k ∨ (some g : Option Nat) = some k) := by
  intro g cap hc hlt
  have hr := run_append_grow_string (P := P) (w := W) st u ty e i0 (.int .u8 0) ht hu hi hz ⟨g, 0, none⟩ xs.length cap (nums .u8 xs) (by rw [hsz, nums_length, Nat.mul_one]) hc (strOfNums ys) (by omega) (by omega) (by rw [hby]; exact growslice_fits (by omega) (by omega))
  rw [strCells_nums hy, hs] at hr
  have hge := grownCap_ge W (xs.length + ys.length) cap e
  have hcm : grownCap W (xs.length + ys.length) cap e ≤ maxLen := grownCap_le_maxLen W _ cap e (by unfold maxLen; omega)
  refine ⟨_, _, hr, ⟨hlen, .inr ⟨W.heap.size, _, _, by rw [List.length_append], Nat.zero_le _, heap_alloc_new W.drew _, by rw [List.length_append]; exact hge, hcm, ?_, ?_⟩⟩, ⟨rfl, rfl, rfl, by simp, fun k hk _ => heap_alloc_old W.drew _ hk⟩, fun k hk => .inl (Nat.le_of_eq (Option.some.inj hk))⟩
  ·have hz1 : (Value.int IntKind.u8 0).cells.size = 1 := rfl
   simp only [Array.size_append, List.size_toArray, size_zeroCells, hz1, nums_length]
   omega
  ·simp only [Array.toList_append, List.append_assoc]
   rw [← List.append_assoc, ← nums_append, ← hlen]
   exact List.take_left
 rcases hB with hB | ⟨g, r, rfl, hg, h1⟩
 ·rcases hB.2 with ⟨_, h2⟩ | ⟨g, cap, cur, rfl, _, hg, hle, hcm, hcs, htk⟩
  ·omega
  ·by_cases hroom : xs.length + ys.length ≤ cap
   ·have hcs' : cur.size = cap := by simpa using hcs
    have hr := run_append_room_string (P := P) (w := W) st u ty e i0 ht hu hi hsz g xs.length cap cur hg (strOfNums ys) (by omega) (by omega)
    rw [strCells_nums hy, hs] at hr
    refine ⟨_, _, hr, ⟨hlen, .inr ⟨g, cap, _, by rw [List.length_append], Nat.zero_le _, setRow_heap W g cur _ e _ hg, by rw [List.length_append]; exact hroom, hcm, ?_, ?_⟩⟩, ⟨rfl, rfl, rfl, by simp, fun k _ hk => setRow_other W g k _ (fun e => hk (by simp [Value.ownBlock, e]))⟩, fun k hk => .inr hk⟩
    ·simp only [List.size_toArray, List.length_append, List.length_take, List.length_drop, Array.length_toList, nums_length]
     omega
    ·have ht' : cur.toList.take xs.length = nums .u8 xs := by simpa using htk
     rw [ht', ← nums_append, ← hlen]
     exact List.take_left
   ·exact grown g cap (hB.cells (g := g) rfl) (by omega)
 ·exact grown g xs.length (fun j w_ hw => by
   rw [show (⟨g, 0, none⟩ : Addr).add j = ⟨g, j, none⟩ by simp [Addr.add, eq_comm], cell_of_row W g j _ e r hg]
   simpa using hw) (by omega)
theorem appendstr_h {P : Program} {ops : Array Oper} {rest : List Oper} {o : Oper} {a : Act} {Q : Exit → Act → World → Prop} {w W : World} {t : List Nat} {l : List Own} (H : Hold w W t l) (hgd : o.guard = none) {s x : Operand} {st u : TypeId} (ho : o.op = .call { callee := .builtin .append, args := #[s, x], argTypes := #[st, u] })
  (ht : P.underlying st = some (.slice 5)) (hu : P.underlying u = some .string) (hinfo : (P.info? 5).map (fun i => (i.zero, i.size, i.bytes)) = some (some (.int .u8 0), 1, 1))
  {v : Value} {ob : Own} {xs ys : List Int} (hs : a.eval s = v) (hx : a.eval x = .string (strOfNums ys)) (hB : IsB ob v xs) (hy : Byte8 ys) (h0 : 0 < xs.length) (h1 : 0 < ys.length) (hl : xs.length + ys.length ≤ 140737488350000)
  {f : Own → List Own} (hm : ∀ y, Put l ob y (f y))
  (h : ∀ v1 w1, Hold w w1 t (f (nrow 5 v1 .u8 (xs ++ ys))) → wpList P ops Q rest (a.put o.dst v1) w1) : wpList P ops Q (o :: rest) a W := by
 obtain ⟨r, hp1, _⟩ := (hm ob).perm
 have hok : ob.ok W := H.ok _ (hp1.mem_iff.2 (List.Mem.head _))
 have hat : ∀ k, v.ownBlock = some k → k ∈ ob.at_ := by
  rcases hB with ⟨g, rfl, rfl, rfl⟩ | rfl
  ·exact fun k hk => List.mem_singleton.2 (Option.some.inj hk).symm
  ·exact fun k hk => Option.mem_toList.2 hk
 obtain ⟨v1, w1, hrun, h2, h3, h5⟩ := strrow_run (P := P) (ty := o.type) (W := W) (v := v) (xs := xs) ht hu hinfo hy h0 hl (by
  rcases hB with ⟨g, rfl, rfl, rfl⟩ | rfl
  ·exact .inr ⟨g, _, rfl, hok, h1⟩
  ·exact .inl hok)
 refine wpList_plain hgd fun K hK => ?_
 unfold Oper.wp execOp
 simp only [ho, resolve, invoke, builtin, Sem.run_bind, Sem.run_pure, Result.andThen_ok, List.map_toArray, List.map_cons, List.map_nil, hs, hx, hrun]
 refine hK _ _ (h v1 w1 (H.put (hm _) (Hold.turned h3.os h3.tape h3.output h3.size (fun k hk hne => h3.block k hk fun e => hne (hat k e.symm)) h2 fun k hk => ?_)))
 rcases h5 k (Option.mem_toList.1 hk) with h' | h'
 ·exact .inl h'
 ·exact .inr (hat k h')
end Go.Proofs.YtjjfkmniffbgkaaDoor

/- The reference of frames: what May tells. (This text is printed by wip/gen/rmay.py.) -/
namespace Go.Proofs.YtjjfkmniffbgkaaDoor
set_option linter.unusedVariables false
set_option linter.unusedSimpArgs false
open Go.RowKit Go.Proofs.YtjjfkmniffbgkaaDoorW.PrintWords Go.Proofs.YtjjfkmniffbgkaaDoorW.PrintLast Go.Proofs.YtjjfkmniffbgkaaDoorW.PrintMore Go.Proofs.YtjjfkmniffbgkaaDoor.QFrmA Go.Proofs.YtjjfkmniffbgkaaDoor.Given Go.Extern.Stop Go.Stop Go.Extern Go.Maps
def mayPad (F : Fr) : Bool := (decide (F.ty = 0 ∨ F.ty = 1 ∨ F.ty = 5) && (F.fl.tdiv 8 % 2 == 1))
def mayT2 (F : Fr) (pd : Bool) : Bool := ((pd && (decide (F.pad < 0) || decide (255 < F.pad))) || ((!pd) && (F.pad != -1)))
def mayT4 (F : Fr) : Bool := ((decide (2147483647 < F.st) || decide (2147483647 < F.oth)) || decide (2147483647 < F.win))
def mayT6 (F : Fr) : Bool := ((((F.wgt != 0) || F.al) && (!leansB F.ty F.fl)) || ((((F.oth != 0) && (!leansB F.ty F.fl)) && (F.ty != 5)) && (F.ty != 7)))
def mayT8 (F : Fr) : Bool := (((((F.code != 0) && (F.ty != 3)) && (F.ty != 7)) || ((F.win != 0) && (F.ty != 8))) || (decide (0 < (F.sets.length : Int)) && (F.ty != 4)))
def mayT10 (F : Fr) : Bool := ((decide (0 < (F.data.length : Int)) && ((((F.ty == 2) || (F.ty == 3)) || (F.ty == 4)) || (F.ty == 8))) || ((F.ty == 6) && ((F.data.length : Int) != 8)))
def mayT12 (F : Fr) : Bool := ((decide ((F.data.length : Int) ≤ 16384) && decide ((F.sets.length : Int) ≤ 3000)) && decide (((rpayL F).length : Int) ≤ 16384))
def rmayB (F : Fr) : Bool := if mayT2 F (mayPad F) = true then false else if mayT4 F = true then false else if mayT6 F = true then false else if mayT8 F = true then false else if mayT10 F = true then false else mayT12 F

def rputL (F : Fr) : List Int := beL ((rpayL F).length : Int) 3 ++ [F.ty, F.fl] ++ beL F.st 4 ++ rpayL F
set_option maxHeartbeats 8000000 in
set_option maxRecDepth 100000 in
theorem rput_calls (w : World) (F : Fr) (A B : Option Addr) (c m : Nat) (hA : Kd.C (Kd.int .u8) w A F.data.length F.data) (hc : F.data.length ≤ c) (hB : Kd.C k99 w B F.sets.length F.sets) (hm : F.sets.length ≤ m) (h : FrOk F)
  (hp0 : -1 ≤ F.pad) (hp1 : F.pad ≤ 255) (hd : F.data.length ≤ 100000) (hs : F.sets.length ≤ 10000) (hst : 0 ≤ F.st) (hst1 : F.st ≤ 4294967295) (hl : (rpayL F).length ≤ 16384) :
  Calls Tryd.prog 24 #[.agg (frC F (.slice A F.data.length c) (.slice B F.sets.length m))] w fun e w' => e = .returned (.string (strOfNums (rputL F))) ∧ Below w.heap.size w w' := by
 refine of_post0 fun R hRR => ?_
 have HP := Lib.hid hRR
 have HC := Lib.hid (fun W (H : Below w.heap.size w W) => rpay_calls W F A B c m (Kd.C_below hA H) hc (Kd.C_below hB H) hm h hp0 hp1 hd hs)
 have hzp := str_size (rpayL F)
 have HE := Lib.hid (show strOfNums (rputL F) = strOfNums (beL ((rpayL F).length : Int) 3) ++ strOfNums [F.ty, F.fl] ++ strOfNums (beL F.st 4) ++ strOfNums (rpayL F) by unfold rputL; simp only [strs_append])
 generalize (rpayL F).length = n at hzp hl HE
 have u1 : IntKind.u64.wrap ((n : Nat) : Int) = (n : Int) := u64_wrap (by omega) (by omega)
 have u2 : IntKind.u64.wrap F.st = F.st := u64_wrap hst (by omega)
 have N3 := Lib.hid (fun W => rnumber_calls W (n : Int) 3 (by decide) (by omega) (by omega))
 have N4 := Lib.hid (fun W => rnumber_calls W F.st 4 (by decide) hst (by omega))
 have z3 : (strOfNums (beL (n : Int) 3)).size = 3 := by rw [str_size, beL_length]
 have z4 : (strOfNums (beL F.st 4)).size = 4 := by rw [str_size, beL_length]
 have z2 : (strOfNums [F.ty, F.fl]).size = 2 := by rw [str_size]; rfl
 generalize strOfNums (beL (n : Int) 3) = s3 at N3 z3 HE
 generalize strOfNums (beL F.st 4) = s4 at N4 z4 HE
 generalize strOfNums (rpayL F) = sP at HC hzp HE
 have c1 := eq_false (Nat.not_lt.2 (show s3.size + (strOfNums [F.ty, F.fl]).size ≤ 9223372036854775807 by rw [z3, z2]; decide))
 have c2 := eq_false (Nat.not_lt.2 (show s3.size + (strOfNums [F.ty, F.fl]).size + s4.size ≤ 9223372036854775807 by rw [z3, z2, z4]; decide))
 have c3 := eq_false (Nat.not_lt.2 (show s3.size + (strOfNums [F.ty, F.fl]).size + s4.size + n ≤ 9223372036854775807 by rw [z3, z2, z4]; omega))
 clear hRR h hA hc hB hm hp0 hp1 hd hs hst hst1 hl z3 z4 z2
 have H : Hold w w [] [] := Hold.nothing (Kept.refl _ _)
 go_enter Tryd.func24, Tryd.ntmps24
 go_upto_region 2 with (first
  | (refine box_h H rfl rfl rfl rfl ?_; clear H; intro g w_ H)
  | (refine load_h H rfl rfl rfl (by repeat (first | exact List.Mem.head _ | apply List.Mem.tail)) (by kernel_rfl) (by kernel_rfl) ?_)
  | (go_at_call 52; refine (HC.out _ H.all).mono ?_; rintro e_ w_ ⟨rfl, h_⟩; replace H := H.below h_; clear h_))
 replace H := H.below (below_drew (Below.refl _ _))
 refine start_ (n := 19) (S := fun w' => w'.cell? ⟨g, 0, none⟩ = some (.int .u8 F.ty) ∧ w'.cell? ⟨g, 1, none⟩ = some (.int .u8 F.fl) ∧ w'.cell? ⟨g, 2, none⟩ = some (.int .u32 F.st)) (ds := []) #[false, false, false, false, false, false, false, false, false, false, false, false, false, false, false, false, false, false, false] (by kernel_rfl) rfl rfl ⟨((H.cell (by repeat (first | exact List.Mem.head _ | apply List.Mem.tail)) 0).trans rfl), ((H.cell (by repeat (first | exact List.Mem.head _ | apply List.Mem.tail)) 1).trans rfl), ((H.cell (by repeat (first | exact List.Mem.head _ | apply List.Mem.tail)) 2).trans rfl)⟩ (fun hHeld => ?_)
 generalize World.drew _ = wy at H hHeld ⊢
 refine pure_ (i := 0) (N := some 6) (v := ?_) (a' := ?_) #[true, false, false, false, false, false, false, false, false, false, false, false, false, false, false, false, false, false, false] rfl rfl (by kernel_rfl) (fun _ _ _ h => h) (Or.inl ⟨by rfl, ?_⟩) ?_ ?_
 rotate_left
 ·intro w'
  go_simp
  with_reducible rfl
 rotate_left
 ·simp only [Act.put, putA, putB, putC]
  rfl
 refine pure_ (i := 1) (N := some 7) (v := ?_) (a' := ?_) #[true, true, false, false, false, false, false, false, false, false, false, false, false, false, false, false, false, false, false] rfl rfl (by kernel_rfl) (fun _ _ _ h => h) (Or.inl ⟨by rfl, ?_⟩) ?_ ?_
 rotate_left
 ·intro w'
  go_simp
  with_reducible rfl
 rotate_left
 ·simp only [Act.put, putA, putB, putC]
  rfl
 refine pure_ (i := 2) (N := some 8) (v := ?_) (a' := ?_) #[true, true, true, false, false, false, false, false, false, false, false, false, false, false, false, false, false, false, false] rfl rfl (by kernel_rfl) (fun _ _ _ h => h) (Or.inl ⟨by rfl, ?_⟩) ?_ ?_
 rotate_left
 ·intro w'
  go_simp
  with_reducible rfl
 rotate_left
 ·simp only [Act.put, putA, putB, putC]
  rfl
 refine pure_ (i := 4) (N := some 10) (v := ?_) (a' := ?_) #[true, true, true, false, true, false, false, false, false, false, false, false, false, false, false, false, false, false, false] rfl rfl (by kernel_rfl) (fun _ _ _ h => h) (Or.inl ⟨by rfl, ?_⟩) ?_ ?_
 rotate_left
 ·intro w'
  go_simp
  with_reducible rfl
 rotate_left
 ·simp only [Act.put, putA, putB, putC]
  rfl
 refine take_ (i := 5) (N := some 11) (v := ?_) (a' := ?_) #[true, true, true, false, true, true, false, false, false, false, false, false, false, false, false, false, false, false, false] rfl rfl (by kernel_rfl) (fun _ _ _ h => h) (Or.inl ⟨by rfl, ?_⟩) hHeld ?_ ?_
 rotate_left
 ·rintro w' ⟨s0, s1, s2⟩
  go_simp
  with_reducible rfl
 rotate_left
 ·simp only [Act.put, putA, putB, putC]
  rfl
 refine pure_ (i := 6) (N := some 12) (v := ?_) (a' := ?_) #[true, true, true, false, true, true, true, false, false, false, false, false, false, false, false, false, false, false, false] rfl rfl (by kernel_rfl) (fun _ _ _ h => h) (Or.inl ⟨by rfl, ?_⟩) ?_ ?_
 rotate_left
 ·intro w'
  go_simp
  with_reducible rfl
 rotate_left
 ·simp only [Act.put, putA, putB, putC]
  rfl
 refine take_ (i := 7) (N := some 13) (v := ?_) (a' := ?_) #[true, true, true, false, true, true, true, true, false, false, false, false, false, false, false, false, false, false, false] rfl rfl (by kernel_rfl) (fun _ _ _ h => h) (Or.inl ⟨by rfl, ?_⟩) hHeld ?_ ?_
 rotate_left
 ·rintro w' ⟨s0, s1, s2⟩
  go_simp
  with_reducible rfl
 rotate_left
 ·simp only [Act.put, putA, putB, putC]
  rfl
 refine pure_ (i := 11) (N := some 17) (v := ?_) (a' := ?_) #[true, true, true, false, true, true, true, true, false, false, false, true, false, false, false, false, false, false, false] rfl rfl (by kernel_rfl) (fun _ _ _ h => h) (Or.inl ⟨by rfl, ?_⟩) ?_ ?_
 rotate_left
 ·intro w'
  go_simp
  with_reducible rfl
 rotate_left
 ·simp only [Act.put, putA, putB, putC]
  rfl
 refine take_ (i := 12) (N := some 18) (v := ?_) (a' := ?_) #[true, true, true, false, true, true, true, true, false, false, false, true, true, false, false, false, false, false, false] rfl rfl (by kernel_rfl) (fun _ _ _ h => h) (Or.inl ⟨by rfl, ?_⟩) hHeld ?_ ?_
 rotate_left
 ·rintro w' ⟨s0, s1, s2⟩
  go_simp
  with_reducible rfl
 rotate_left
 ·simp only [Act.put, putA, putB, putC]
  rfl
 refine pure_ (i := 13) (N := some 19) (v := ?_) (a' := ?_) #[true, true, true, false, true, true, true, true, false, false, false, true, true, true, false, false, false, false, false] rfl rfl (by kernel_rfl) (fun _ _ _ h => h) (Or.inl ⟨by rfl, ?_⟩) ?_ ?_
 rotate_left
 ·intro w'
  go_simp
  with_reducible rfl
 rotate_left
 ·simp only [Act.put, putA, putB, putC]
  rfl
 refine pure_ (i := 16) (N := some 22) (v := ?_) (a' := ?_) #[true, true, true, false, true, true, true, true, false, false, false, true, true, true, false, false, true, false, false] rfl rfl (by kernel_rfl) (fun _ _ _ h => h) (Or.inl ⟨by rfl, ?_⟩) ?_ ?_
 rotate_left
 ·intro w'
  go_simp
  with_reducible rfl
 rotate_left
 ·simp only [Act.put, putA, putB, putC]
  rfl
 refine two_ (i := 3) (j := 8) (Ni := some 9) (Nj := some 14) #[true, true, true, true, true, true, true, true, false, false, false, true, true, true, false, false, true, false, false] #[true, true, true, false, true, true, true, true, true, false, false, true, true, true, false, false, true, false, false] rfl rfl rfl rfl (by kernel_rfl) (by decide) (by decide) (fun K hK => ?_) (fun K hK => ?_)
 ·refine goes_ Tryd.func30 (by kernel_rfl) rfl #[.int .u64 (n : Int), .int .i64 ((3 : Nat) : Int)] (by rfl) rfl rfl (by (try simp only [List.map_toArray, List.map_cons, List.map_nil]); first | done | rfl) ?_
  refine (N3.out _).mono ?_
  rintro e_ w9 ⟨rfl, h_⟩
  replace H := H.below h_
  refine ⟨_, rfl, ?_⟩
  have hS := Lib.hid (show (fun w' : World => w'.cell? ⟨g, 0, none⟩ = some (.int .u8 F.ty) ∧ w'.cell? ⟨g, 1, none⟩ = some (.int .u8 F.fl) ∧ w'.cell? ⟨g, 2, none⟩ = some (.int .u32 F.st)) _ from ⟨pw_cell_below h_ hHeld.1, pw_cell_below h_ hHeld.2.1, pw_cell_below h_ hHeld.2.2⟩)
  clear h_
  refine hK.out _ _ hS.out (fun hHeld => ?_)
  clear hK K
  clear hS
  refine norm_ (a' := ?_) ?_ ?_
  rotate_left
  ·show Act.put _ (some 9) _ = _
   simp only [Act.put, putA, putB, putC]
   rfl
  refine two_ (i := 8) (j := 14) (Ni := some 14) (Nj := some 20) #[true, true, true, true, true, true, true, true, true, false, false, true, true, true, false, false, true, false, false] #[true, true, true, true, true, true, true, true, false, false, false, true, true, true, true, false, true, false, false] rfl rfl rfl rfl (by kernel_rfl) (by decide) (by decide) (fun K hK => ?_) (fun K hK => ?_)
  ·refine lit_o H (by rfl) (e := 5) (k := .u8) [F.ty, F.fl] (by first | (go_simp; done) | (go_simp; rfl)) (Nat.le_of_ble_eq_true rfl) ?_
   clear H
   intro g_ w_ H h_
   have hS := Lib.hid (show (fun w' : World => w'.cell? ⟨g, 0, none⟩ = some (.int .u8 F.ty) ∧ w'.cell? ⟨g, 1, none⟩ = some (.int .u8 F.fl) ∧ w'.cell? ⟨g, 2, none⟩ = some (.int .u32 F.st)) _ from ⟨pw_cell_below h_ hHeld.1, pw_cell_below h_ hHeld.2.1, pw_cell_below h_ hHeld.2.2⟩)
   clear h_
   refine hK.out _ _ hS.out (fun hHeld => ?_)
   clear hK K
   clear hS
   refine norm_ (a' := ?_) ?_ ?_
   rotate_left
   ·show Act.put _ (some 14) _ = _
    simp only [Act.put, putA, putB, putC]
    rfl
   refine two_ (i := 9) (j := 14) (Ni := some 15) (Nj := some 20) #[true, true, true, true, true, true, true, true, true, true, false, true, true, true, false, false, true, false, false] #[true, true, true, true, true, true, true, true, true, false, false, true, true, true, true, false, true, false, false] rfl rfl rfl rfl (by kernel_rfl) (by decide) (by decide) (fun K hK => ?_) (fun K hK => ?_)
   ·refine conv_o H (by rfl) rfl rfl (by repeat (first | exact List.Mem.head _ | apply List.Mem.tail)) Tryd.underlying35 Tryd.underlying5 Tryd.underlying9 ?_
    refine hK.out _ _ hHeld (fun hHeld => ?_)
    clear hK K
    refine norm_ (a' := ?_) ?_ ?_
    rotate_left
    ·show Act.put _ (some 15) _ = _
     simp only [Act.put, putA, putB, putC]
     rfl
    refine pure_ (i := 10) (N := some 16) (v := ?_) (a' := ?_) #[true, true, true, true, true, true, true, true, true, true, true, true, true, true, false, false, true, false, false] rfl rfl (by kernel_rfl) (fun _ _ _ h => h) (Or.inl ⟨by rfl, ?_⟩) ?_ ?_
    rotate_left
    ·intro w'
     go_simp
     with_reducible rfl
    rotate_left
    ·simp only [Act.put, putA, putB, putC]
     rfl
    refine one_ (i := 14) (N := some 20) #[true, true, true, true, true, true, true, true, true, true, true, true, true, true, true, false, true, false, false] rfl rfl (by kernel_rfl) (by decide) (fun K hK => ?_)
    refine goes_ Tryd.func30 (by kernel_rfl) rfl #[.int .u64 F.st, .int .i64 ((4 : Nat) : Int)] (by rfl) rfl rfl (by (try simp only [List.map_toArray, List.map_cons, List.map_nil]); first | done | rfl) ?_
    refine (N4.out _).mono ?_
    rintro e_ w9 ⟨rfl, h_⟩
    replace H := H.below h_
    refine ⟨_, rfl, ?_⟩
    have hS := Lib.hid (show (fun w' : World => w'.cell? ⟨g, 0, none⟩ = some (.int .u8 F.ty) ∧ w'.cell? ⟨g, 1, none⟩ = some (.int .u8 F.fl) ∧ w'.cell? ⟨g, 2, none⟩ = some (.int .u32 F.st)) _ from ⟨pw_cell_below h_ hHeld.1, pw_cell_below h_ hHeld.2.1, pw_cell_below h_ hHeld.2.2⟩)
    clear h_
    refine hK.out _ _ hS.out (fun hHeld => ?_)
    clear hK K
    clear hS
    refine norm_ (a' := ?_) ?_ ?_
    rotate_left
    ·show Act.put _ (some 20) _ = _
     simp only [Act.put, putA, putB, putC]
     rfl
    refine pure_ (i := 15) (N := some 21) (v := ?_) (a' := ?_) #[true, true, true, true, true, true, true, true, true, true, true, true, true, true, true, true, true, false, false] rfl rfl (by kernel_rfl) (fun _ _ _ h => h) (Or.inl ⟨by rfl, ?_⟩) ?_ ?_
    rotate_left
    ·intro w'
     go_simp
     with_reducible rfl
    rotate_left
    ·simp only [Act.put, putA, putB, putC]
     rfl
    refine pure_ (i := 17) (N := some 23) (v := ?_) (a' := ?_) #[true, true, true, true, true, true, true, true, true, true, true, true, true, true, true, true, true, true, false] rfl rfl (by kernel_rfl) (fun _ _ _ h => h) (Or.inl ⟨by rfl, ?_⟩) ?_ ?_
    rotate_left
    ·intro w'
     go_simp
     with_reducible rfl
    rotate_left
    ·simp only [Act.put, putA, putB, putC]
     rfl
    refine pure_ (i := 18) (N := some 2) (v := ?_) (a' := ?_) #[true, true, true, true, true, true, true, true, true, true, true, true, true, true, true, true, true, true, true] rfl rfl (by kernel_rfl) (fun _ _ _ h => h) (Or.inl ⟨by rfl, ?_⟩) ?_ ?_
    rotate_left
    ·intro w'
     go_simp
     with_reducible rfl
    rotate_left
    ·simp only [Act.put, putA, putB, putC]
     rfl
    refine done_ (by kernel_rfl) ?_
    go_wp2_with fail
    exact HP.out _ _ ⟨by rw [HE.out]; rfl, H.all⟩
   ·refine goes_ Tryd.func30 (by kernel_rfl) rfl #[.int .u64 F.st, .int .i64 ((4 : Nat) : Int)] (by rfl) rfl rfl (by (try simp only [List.map_toArray, List.map_cons, List.map_nil]); first | done | rfl) ?_
    refine (N4.out _).mono ?_
    rintro e_ w9 ⟨rfl, h_⟩
    replace H := H.below h_
    refine ⟨_, rfl, ?_⟩
    have hS := Lib.hid (show (fun w' : World => w'.cell? ⟨g, 0, none⟩ = some (.int .u8 F.ty) ∧ w'.cell? ⟨g, 1, none⟩ = some (.int .u8 F.fl) ∧ w'.cell? ⟨g, 2, none⟩ = some (.int .u32 F.st)) _ from ⟨pw_cell_below h_ hHeld.1, pw_cell_below h_ hHeld.2.1, pw_cell_below h_ hHeld.2.2⟩)
    clear h_
    refine hK.out _ _ hS.out (fun hHeld => ?_)
    clear hK K
    clear hS
    refine norm_ (a' := ?_) ?_ ?_
    rotate_left
    ·show Act.put _ (some 20) _ = _
     simp only [Act.put, putA, putB, putC]
     rfl
    refine one_ (i := 9) (N := some 15) #[true, true, true, true, true, true, true, true, true, true, false, true, true, true, true, false, true, false, false] rfl rfl (by kernel_rfl) (by decide) (fun K hK => ?_)
    refine conv_o H (by rfl) rfl rfl (by repeat (first | exact List.Mem.head _ | apply List.Mem.tail)) Tryd.underlying35 Tryd.underlying5 Tryd.underlying9 ?_
    refine hK.out _ _ hHeld (fun hHeld => ?_)
    clear hK K
    refine norm_ (a' := ?_) ?_ ?_
    rotate_left
    ·show Act.put _ (some 15) _ = _
     simp only [Act.put, putA, putB, putC]
     rfl
    refine pure_ (i := 10) (N := some 16) (v := ?_) (a' := ?_) #[true, true, true, true, true, true, true, true, true, true, true, true, true, true, true, false, true, false, false] rfl rfl (by kernel_rfl) (fun _ _ _ h => h) (Or.inl ⟨by rfl, ?_⟩) ?_ ?_
    rotate_left
    ·intro w'
     go_simp
     with_reducible rfl
    rotate_left
    ·simp only [Act.put, putA, putB, putC]
     rfl
    refine pure_ (i := 15) (N := some 21) (v := ?_) (a' := ?_) #[true, true, true, true, true, true, true, true, true, true, true, true, true, true, true, true, true, false, false] rfl rfl (by kernel_rfl) (fun _ _ _ h => h) (Or.inl ⟨by rfl, ?_⟩) ?_ ?_
    rotate_left
    ·intro w'
     go_simp
     with_reducible rfl
    rotate_left
    ·simp only [Act.put, putA, putB, putC]
     rfl
    refine pure_ (i := 17) (N := some 23) (v := ?_) (a' := ?_) #[true, true, true, true, true, true, true, true, true, true, true, true, true, true, true, true, true, true, false] rfl rfl (by kernel_rfl) (fun _ _ _ h => h) (Or.inl ⟨by rfl, ?_⟩) ?_ ?_
    rotate_left
    ·intro w'
     go_simp
     with_reducible rfl
    rotate_left
    ·simp only [Act.put, putA, putB, putC]
     rfl
    refine pure_ (i := 18) (N := some 2) (v := ?_) (a' := ?_) #[true, true, true, true, true, true, true, true, true, true, true, true, true, true, true, true, true, true, true] rfl rfl (by kernel_rfl) (fun _ _ _ h => h) (Or.inl ⟨by rfl, ?_⟩) ?_ ?_
    rotate_left
    ·intro w'
     go_simp
     with_reducible rfl
    rotate_left
    ·simp only [Act.put, putA, putB, putC]
     rfl
    refine done_ (by kernel_rfl) ?_
    go_wp2_with fail
    exact HP.out _ _ ⟨by rw [HE.out]; rfl, H.all⟩
  ·refine goes_ Tryd.func30 (by kernel_rfl) rfl #[.int .u64 F.st, .int .i64 ((4 : Nat) : Int)] (by rfl) rfl rfl (by (try simp only [List.map_toArray, List.map_cons, List.map_nil]); first | done | rfl) ?_
   refine (N4.out _).mono ?_
   rintro e_ w9 ⟨rfl, h_⟩
   replace H := H.below h_
   refine ⟨_, rfl, ?_⟩
   have hS := Lib.hid (show (fun w' : World => w'.cell? ⟨g, 0, none⟩ = some (.int .u8 F.ty) ∧ w'.cell? ⟨g, 1, none⟩ = some (.int .u8 F.fl) ∧ w'.cell? ⟨g, 2, none⟩ = some (.int .u32 F.st)) _ from ⟨pw_cell_below h_ hHeld.1, pw_cell_below h_ hHeld.2.1, pw_cell_below h_ hHeld.2.2⟩)
   clear h_
   refine hK.out _ _ hS.out (fun hHeld => ?_)
   clear hK K
   clear hS
   refine norm_ (a' := ?_) ?_ ?_
   rotate_left
   ·show Act.put _ (some 20) _ = _
    simp only [Act.put, putA, putB, putC]
    rfl
   refine one_ (i := 8) (N := some 14) #[true, true, true, true, true, true, true, true, true, false, false, true, true, true, true, false, true, false, false] rfl rfl (by kernel_rfl) (by decide) (fun K hK => ?_)
   refine lit_o H (by rfl) (e := 5) (k := .u8) [F.ty, F.fl] (by first | (go_simp; done) | (go_simp; rfl)) (Nat.le_of_ble_eq_true rfl) ?_
   clear H
   intro g_ w_ H h_
   have hS := Lib.hid (show (fun w' : World => w'.cell? ⟨g, 0, none⟩ = some (.int .u8 F.ty) ∧ w'.cell? ⟨g, 1, none⟩ = some (.int .u8 F.fl) ∧ w'.cell? ⟨g, 2, none⟩ = some (.int .u32 F.st)) _ from ⟨pw_cell_below h_ hHeld.1, pw_cell_below h_ hHeld.2.1, pw_cell_below h_ hHeld.2.2⟩)
   clear h_
   refine hK.out _ _ hS.out (fun hHeld => ?_)
   clear hK K
   clear hS
   refine norm_ (a' := ?_) ?_ ?_
   rotate_left
   ·show Act.put _ (some 14) _ = _
    simp only [Act.put, putA, putB, putC]
    rfl
   refine one_ (i := 9) (N := some 15) #[true, true, true, true, true, true, true, true, true, true, false, true, true, true, true, false, true, false, false] rfl rfl (by kernel_rfl) (by decide) (fun K hK => ?_)
   refine conv_o H (by rfl) rfl rfl (by repeat (first | exact List.Mem.head _ | apply List.Mem.tail)) Tryd.underlying35 Tryd.underlying5 Tryd.underlying9 ?_
   refine hK.out _ _ hHeld (fun hHeld => ?_)
   clear hK K
   refine norm_ (a' := ?_) ?_ ?_
   rotate_left
   ·show Act.put _ (some 15) _ = _
    simp only [Act.put, putA, putB, putC]
    rfl
   refine pure_ (i := 10) (N := some 16) (v := ?_) (a' := ?_) #[true, true, true, true, true, true, true, true, true, true, true, true, true, true, true, false, true, false, false] rfl rfl (by kernel_rfl) (fun _ _ _ h => h) (Or.inl ⟨by rfl, ?_⟩) ?_ ?_
   rotate_left
   ·intro w'
    go_simp
    with_reducible rfl
   rotate_left
   ·simp only [Act.put, putA, putB, putC]
    rfl
   refine pure_ (i := 15) (N := some 21) (v := ?_) (a' := ?_) #[true, true, true, true, true, true, true, true, true, true, true, true, true, true, true, true, true, false, false] rfl rfl (by kernel_rfl) (fun _ _ _ h => h) (Or.inl ⟨by rfl, ?_⟩) ?_ ?_
   rotate_left
   ·intro w'
    go_simp
    with_reducible rfl
   rotate_left
   ·simp only [Act.put, putA, putB, putC]
    rfl
   refine pure_ (i := 17) (N := some 23) (v := ?_) (a' := ?_) #[true, true, true, true, true, true, true, true, true, true, true, true, true, true, true, true, true, true, false] rfl rfl (by kernel_rfl) (fun _ _ _ h => h) (Or.inl ⟨by rfl, ?_⟩) ?_ ?_
   rotate_left
   ·intro w'
    go_simp
    with_reducible rfl
   rotate_left
   ·simp only [Act.put, putA, putB, putC]
    rfl
   refine pure_ (i := 18) (N := some 2) (v := ?_) (a' := ?_) #[true, true, true, true, true, true, true, true, true, true, true, true, true, true, true, true, true, true, true] rfl rfl (by kernel_rfl) (fun _ _ _ h => h) (Or.inl ⟨by rfl, ?_⟩) ?_ ?_
   rotate_left
   ·intro w'
    go_simp
    with_reducible rfl
   rotate_left
   ·simp only [Act.put, putA, putB, putC]
    rfl
   refine done_ (by kernel_rfl) ?_
   go_wp2_with fail
   exact HP.out _ _ ⟨by rw [HE.out]; rfl, H.all⟩
 ·refine lit_o H (by rfl) (e := 5) (k := .u8) [F.ty, F.fl] (by first | (go_simp; done) | (go_simp; rfl)) (Nat.le_of_ble_eq_true rfl) ?_
  clear H
  intro g_ w_ H h_
  have hS := Lib.hid (show (fun w' : World => w'.cell? ⟨g, 0, none⟩ = some (.int .u8 F.ty) ∧ w'.cell? ⟨g, 1, none⟩ = some (.int .u8 F.fl) ∧ w'.cell? ⟨g, 2, none⟩ = some (.int .u32 F.st)) _ from ⟨pw_cell_below h_ hHeld.1, pw_cell_below h_ hHeld.2.1, pw_cell_below h_ hHeld.2.2⟩)
  clear h_
  refine hK.out _ _ hS.out (fun hHeld => ?_)
  clear hK K
  clear hS
  refine norm_ (a' := ?_) ?_ ?_
  rotate_left
  ·show Act.put _ (some 14) _ = _
   simp only [Act.put, putA, putB, putC]
   rfl
  refine two_ (i := 3) (j := 9) (Ni := some 9) (Nj := some 15) #[true, true, true, true, true, true, true, true, true, false, false, true, true, true, false, false, true, false, false] #[true, true, true, false, true, true, true, true, true, true, false, true, true, true, false, false, true, false, false] rfl rfl rfl rfl (by kernel_rfl) (by decide) (by decide) (fun K hK => ?_) (fun K hK => ?_)
  ·refine goes_ Tryd.func30 (by kernel_rfl) rfl #[.int .u64 (n : Int), .int .i64 ((3 : Nat) : Int)] (by rfl) rfl rfl (by (try simp only [List.map_toArray, List.map_cons, List.map_nil]); first | done | rfl) ?_
   refine (N3.out _).mono ?_
   rintro e_ w9 ⟨rfl, h_⟩
   replace H := H.below h_
   refine ⟨_, rfl, ?_⟩
   have hS := Lib.hid (show (fun w' : World => w'.cell? ⟨g, 0, none⟩ = some (.int .u8 F.ty) ∧ w'.cell? ⟨g, 1, none⟩ = some (.int .u8 F.fl) ∧ w'.cell? ⟨g, 2, none⟩ = some (.int .u32 F.st)) _ from ⟨pw_cell_below h_ hHeld.1, pw_cell_below h_ hHeld.2.1, pw_cell_below h_ hHeld.2.2⟩)
   clear h_
   refine hK.out _ _ hS.out (fun hHeld => ?_)
   clear hK K
   clear hS
   refine norm_ (a' := ?_) ?_ ?_
   rotate_left
   ·show Act.put _ (some 9) _ = _
    simp only [Act.put, putA, putB, putC]
    rfl
   refine two_ (i := 9) (j := 14) (Ni := some 15) (Nj := some 20) #[true, true, true, true, true, true, true, true, true, true, false, true, true, true, false, false, true, false, false] #[true, true, true, true, true, true, true, true, true, false, false, true, true, true, true, false, true, false, false] rfl rfl rfl rfl (by kernel_rfl) (by decide) (by decide) (fun K hK => ?_) (fun K hK => ?_)
   ·refine conv_o H (by rfl) rfl rfl (by repeat (first | exact List.Mem.head _ | apply List.Mem.tail)) Tryd.underlying35 Tryd.underlying5 Tryd.underlying9 ?_
    refine hK.out _ _ hHeld (fun hHeld => ?_)
    clear hK K
    refine norm_ (a' := ?_) ?_ ?_
    rotate_left
    ·show Act.put _ (some 15) _ = _
     simp only [Act.put, putA, putB, putC]
     rfl
    refine pure_ (i := 10) (N := some 16) (v := ?_) (a' := ?_) #[true, true, true, true, true, true, true, true, true, true, true, true, true, true, false, false, true, false, false] rfl rfl (by kernel_rfl) (fun _ _ _ h => h) (Or.inl ⟨by rfl, ?_⟩) ?_ ?_
    rotate_left
    ·intro w'
     go_simp
     with_reducible rfl
    rotate_left
    ·simp only [Act.put, putA, putB, putC]
     rfl
    refine one_ (i := 14) (N := some 20) #[true, true, true, true, true, true, true, true, true, true, true, true, true, true, true, false, true, false, false] rfl rfl (by kernel_rfl) (by decide) (fun K hK => ?_)
    refine goes_ Tryd.func30 (by kernel_rfl) rfl #[.int .u64 F.st, .int .i64 ((4 : Nat) : Int)] (by rfl) rfl rfl (by (try simp only [List.map_toArray, List.map_cons, List.map_nil]); first | done | rfl) ?_
    refine (N4.out _).mono ?_
    rintro e_ w9 ⟨rfl, h_⟩
    replace H := H.below h_
    refine ⟨_, rfl, ?_⟩
    have hS := Lib.hid (show (fun w' : World => w'.cell? ⟨g, 0, none⟩ = some (.int .u8 F.ty) ∧ w'.cell? ⟨g, 1, none⟩ = some (.int .u8 F.fl) ∧ w'.cell? ⟨g, 2, none⟩ = some (.int .u32 F.st)) _ from ⟨pw_cell_below h_ hHeld.1, pw_cell_below h_ hHeld.2.1, pw_cell_below h_ hHeld.2.2⟩)
    clear h_
    refine hK.out _ _ hS.out (fun hHeld => ?_)
    clear hK K
    clear hS
    refine norm_ (a' := ?_) ?_ ?_
    rotate_left
    ·show Act.put _ (some 20) _ = _
     simp only [Act.put, putA, putB, putC]
     rfl
    refine pure_ (i := 15) (N := some 21) (v := ?_) (a' := ?_) #[true, true, true, true, true, true, true, true, true, true, true, true, true, true, true, true, true, false, false] rfl rfl (by kernel_rfl) (fun _ _ _ h => h) (Or.inl ⟨by rfl, ?_⟩) ?_ ?_
    rotate_left
    ·intro w'
     go_simp
     with_reducible rfl
    rotate_left
    ·simp only [Act.put, putA, putB, putC]
     rfl
    refine pure_ (i := 17) (N := some 23) (v := ?_) (a' := ?_) #[true, true, true, true, true, true, true, true, true, true, true, true, true, true, true, true, true, true, false] rfl rfl (by kernel_rfl) (fun _ _ _ h => h) (Or.inl ⟨by rfl, ?_⟩) ?_ ?_
    rotate_left
    ·intro w'
     go_simp
     with_reducible rfl
    rotate_left
    ·simp only [Act.put, putA, putB, putC]
     rfl
    refine pure_ (i := 18) (N := some 2) (v := ?_) (a' := ?_) #[true, true, true, true, true, true, true, true, true, true, true, true, true, true, true, true, true, true, true] rfl rfl (by kernel_rfl) (fun _ _ _ h => h) (Or.inl ⟨by rfl, ?_⟩) ?_ ?_
    rotate_left
    ·intro w'
     go_simp
     with_reducible rfl
    rotate_left
    ·simp only [Act.put, putA, putB, putC]
     rfl
    refine done_ (by kernel_rfl) ?_
    go_wp2_with fail
    exact HP.out _ _ ⟨by rw [HE.out]; rfl, H.all⟩
   ·refine goes_ Tryd.func30 (by kernel_rfl) rfl #[.int .u64 F.st, .int .i64 ((4 : Nat) : Int)] (by rfl) rfl rfl (by (try simp only [List.map_toArray, List.map_cons, List.map_nil]); first | done | rfl) ?_
    refine (N4.out _).mono ?_
    rintro e_ w9 ⟨rfl, h_⟩
    replace H := H.below h_
    refine ⟨_, rfl, ?_⟩
    have hS := Lib.hid (show (fun w' : World => w'.cell? ⟨g, 0, none⟩ = some (.int .u8 F.ty) ∧ w'.cell? ⟨g, 1, none⟩ = some (.int .u8 F.fl) ∧ w'.cell? ⟨g, 2, none⟩ = some (.int .u32 F.st)) _ from ⟨pw_cell_below h_ hHeld.1, pw_cell_below h_ hHeld.2.1, pw_cell_below h_ hHeld.2.2⟩)
    clear h_
    refine hK.out _ _ hS.out (fun hHeld => ?_)
    clear hK K
    clear hS
    refine norm_ (a' := ?_) ?_ ?_
    rotate_left
    ·show Act.put _ (some 20) _ = _
     simp only [Act.put, putA, putB, putC]
     rfl
    refine one_ (i := 9) (N := some 15) #[true, true, true, true, true, true, true, true, true, true, false, true, true, true, true, false, true, false, false] rfl rfl (by kernel_rfl) (by decide) (fun K hK => ?_)
    refine conv_o H (by rfl) rfl rfl (by repeat (first | exact List.Mem.head _ | apply List.Mem.tail)) Tryd.underlying35 Tryd.underlying5 Tryd.underlying9 ?_
    refine hK.out _ _ hHeld (fun hHeld => ?_)
    clear hK K
    refine norm_ (a' := ?_) ?_ ?_
    rotate_left
    ·show Act.put _ (some 15) _ = _
     simp only [Act.put, putA, putB, putC]
     rfl
    refine pure_ (i := 10) (N := some 16) (v := ?_) (a' := ?_) #[true, true, true, true, true, true, true, true, true, true, true, true, true, true, true, false, true, false, false] rfl rfl (by kernel_rfl) (fun _ _ _ h => h) (Or.inl ⟨by rfl, ?_⟩) ?_ ?_
    rotate_left
    ·intro w'
     go_simp
     with_reducible rfl
    rotate_left
    ·simp only [Act.put, putA, putB, putC]
     rfl
    refine pure_ (i := 15) (N := some 21) (v := ?_) (a' := ?_) #[true, true, true, true, true, true, true, true, true, true, true, true, true, true, true, true, true, false, false] rfl rfl (by kernel_rfl) (fun _ _ _ h => h) (Or.inl ⟨by rfl, ?_⟩) ?_ ?_
    rotate_left
    ·intro w'
     go_simp
     with_reducible rfl
    rotate_left
    ·simp only [Act.put, putA, putB, putC]
     rfl
    refine pure_ (i := 17) (N := some 23) (v := ?_) (a' := ?_) #[true, true, true, true, true, true, true, true, true, true, true, true, true, true, true, true, true, true, false] rfl rfl (by kernel_rfl) (fun _ _ _ h => h) (Or.inl ⟨by rfl, ?_⟩) ?_ ?_
    rotate_left
    ·intro w'
     go_simp
     with_reducible rfl
    rotate_left
    ·simp only [Act.put, putA, putB, putC]
     rfl
    refine pure_ (i := 18) (N := some 2) (v := ?_) (a' := ?_) #[true, true, true, true, true, true, true, true, true, true, true, true, true, true, true, true, true, true, true] rfl rfl (by kernel_rfl) (fun _ _ _ h => h) (Or.inl ⟨by rfl, ?_⟩) ?_ ?_
    rotate_left
    ·intro w'
     go_simp
     with_reducible rfl
    rotate_left
    ·simp only [Act.put, putA, putB, putC]
     rfl
    refine done_ (by kernel_rfl) ?_
    go_wp2_with fail
    exact HP.out _ _ ⟨by rw [HE.out]; rfl, H.all⟩
  ·refine conv_o H (by rfl) rfl rfl (by repeat (first | exact List.Mem.head _ | apply List.Mem.tail)) Tryd.underlying35 Tryd.underlying5 Tryd.underlying9 ?_
   refine hK.out _ _ hHeld (fun hHeld => ?_)
   clear hK K
   refine norm_ (a' := ?_) ?_ ?_
   rotate_left
   ·show Act.put _ (some 15) _ = _
    simp only [Act.put, putA, putB, putC]
    rfl
   refine one_ (i := 3) (N := some 9) #[true, true, true, true, true, true, true, true, true, true, false, true, true, true, false, false, true, false, false] rfl rfl (by kernel_rfl) (by decide) (fun K hK => ?_)
   refine goes_ Tryd.func30 (by kernel_rfl) rfl #[.int .u64 (n : Int), .int .i64 ((3 : Nat) : Int)] (by rfl) rfl rfl (by (try simp only [List.map_toArray, List.map_cons, List.map_nil]); first | done | rfl) ?_
   refine (N3.out _).mono ?_
   rintro e_ w9 ⟨rfl, h_⟩
   replace H := H.below h_
   refine ⟨_, rfl, ?_⟩
   have hS := Lib.hid (show (fun w' : World => w'.cell? ⟨g, 0, none⟩ = some (.int .u8 F.ty) ∧ w'.cell? ⟨g, 1, none⟩ = some (.int .u8 F.fl) ∧ w'.cell? ⟨g, 2, none⟩ = some (.int .u32 F.st)) _ from ⟨pw_cell_below h_ hHeld.1, pw_cell_below h_ hHeld.2.1, pw_cell_below h_ hHeld.2.2⟩)
   clear h_
   refine hK.out _ _ hS.out (fun hHeld => ?_)
   clear hK K
   clear hS
   refine norm_ (a' := ?_) ?_ ?_
   rotate_left
   ·show Act.put _ (some 9) _ = _
    simp only [Act.put, putA, putB, putC]
    rfl
   refine pure_ (i := 10) (N := some 16) (v := ?_) (a' := ?_) #[true, true, true, true, true, true, true, true, true, true, true, true, true, true, false, false, true, false, false] rfl rfl (by kernel_rfl) (fun _ _ _ h => h) (Or.inl ⟨by rfl, ?_⟩) ?_ ?_
   rotate_left
   ·intro w'
    go_simp
    with_reducible rfl
   rotate_left
   ·simp only [Act.put, putA, putB, putC]
    rfl
   refine one_ (i := 14) (N := some 20) #[true, true, true, true, true, true, true, true, true, true, true, true, true, true, true, false, true, false, false] rfl rfl (by kernel_rfl) (by decide) (fun K hK => ?_)
   refine goes_ Tryd.func30 (by kernel_rfl) rfl #[.int .u64 F.st, .int .i64 ((4 : Nat) : Int)] (by rfl) rfl rfl (by (try simp only [List.map_toArray, List.map_cons, List.map_nil]); first | done | rfl) ?_
   refine (N4.out _).mono ?_
   rintro e_ w9 ⟨rfl, h_⟩
   replace H := H.below h_
   refine ⟨_, rfl, ?_⟩
   have hS := Lib.hid (show (fun w' : World => w'.cell? ⟨g, 0, none⟩ = some (.int .u8 F.ty) ∧ w'.cell? ⟨g, 1, none⟩ = some (.int .u8 F.fl) ∧ w'.cell? ⟨g, 2, none⟩ = some (.int .u32 F.st)) _ from ⟨pw_cell_below h_ hHeld.1, pw_cell_below h_ hHeld.2.1, pw_cell_below h_ hHeld.2.2⟩)
   clear h_
   refine hK.out _ _ hS.out (fun hHeld => ?_)
   clear hK K
   clear hS
   refine norm_ (a' := ?_) ?_ ?_
   rotate_left
   ·show Act.put _ (some 20) _ = _
    simp only [Act.put, putA, putB, putC]
    rfl
   refine pure_ (i := 15) (N := some 21) (v := ?_) (a' := ?_) #[true, true, true, true, true, true, true, true, true, true, true, true, true, true, true, true, true, false, false] rfl rfl (by kernel_rfl) (fun _ _ _ h => h) (Or.inl ⟨by rfl, ?_⟩) ?_ ?_
   rotate_left
   ·intro w'
    go_simp
    with_reducible rfl
   rotate_left
   ·simp only [Act.put, putA, putB, putC]
    rfl
   refine pure_ (i := 17) (N := some 23) (v := ?_) (a' := ?_) #[true, true, true, true, true, true, true, true, true, true, true, true, true, true, true, true, true, true, false] rfl rfl (by kernel_rfl) (fun _ _ _ h => h) (Or.inl ⟨by rfl, ?_⟩) ?_ ?_
   rotate_left
   ·intro w'
    go_simp
    with_reducible rfl
   rotate_left
   ·simp only [Act.put, putA, putB, putC]
    rfl
   refine pure_ (i := 18) (N := some 2) (v := ?_) (a' := ?_) #[true, true, true, true, true, true, true, true, true, true, true, true, true, true, true, true, true, true, true] rfl rfl (by kernel_rfl) (fun _ _ _ h => h) (Or.inl ⟨by rfl, ?_⟩) ?_ ?_
   rotate_left
   ·intro w'
    go_simp
    with_reducible rfl
   rotate_left
   ·simp only [Act.put, putA, putB, putC]
    rfl
   refine done_ (by kernel_rfl) ?_
   go_wp2_with fail
   exact HP.out _ _ ⟨by rw [HE.out]; rfl, H.all⟩
end Go.Proofs.YtjjfkmniffbgkaaDoor
