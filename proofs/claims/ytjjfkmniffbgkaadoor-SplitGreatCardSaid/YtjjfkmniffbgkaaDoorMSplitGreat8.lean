/- The statement of louver/louverlaw08.SplitGreat: for every input it returns true, and each argument reads behind the call as it read before; no other condition than the row's own. -/
import Derived.Test.YtjjfkmniffbgkaaDoorMSplitGreat7
import Derived.Test.YtjjfkmniffbgkaaDoorMSplitGreat2
import Derived.Test.YtjjfkmniffbgkaaDoorRows
import Derived.LaidHandle
import Derived.LaidLaws
import Derived.Stop.Joined
import Derived.Test.YtjjfkmniffbgkaaDoorCards
import Derived.Test.YtjjfkmniffbgkaaDoorTie
import Derived.WalkKit
import Derived.ProofKit
import Derived.OpenShut
import Derived.ShutString
import Derived.ChangeOld
import Derived.Below
import Derived.SizedLaws
import Derived.Carry
import Derived.Deep.DeepHandedRow
import Derived.Test.YtjjfkmniffbgkaaDoorMSplitGreat0
/- SplitGreat, walked. (This text is printed by wip/gen/split8.py.) -/
namespace Go.Proofs.YtjjfkmniffbgkaaDoor
set_option linter.unusedVariables false
set_option linter.unusedSimpArgs false
open Go.RowKit Go.Proofs.YtjjfkmniffbgkaaDoorW.PrintWords Go.Proofs.YtjjfkmniffbgkaaDoorW.PrintLast Go.Proofs.YtjjfkmniffbgkaaDoorW.PrintMore Go.Proofs.YtjjfkmniffbgkaaDoor.QFrmA Go.Proofs.YtjjfkmniffbgkaaDoor.Given Go.Extern.Stop Go.Stop Go.Extern Go.Maps
attribute [local go_sem high] eqFault
theorem u64_w8 {n : Int} (h0 : 0 ≤ n) (h1 : n ≤ 18446744073709551615) : IntKind.u64.wrap n = n := by
 simp [IntKind.wrap, IntKind.bits, IntKind.signed]
 omega
theorem valL_be3 {n : Int} (h : 0 ≤ n ∧ n ≤ 16777215) : valL (beL n 3) = n := by
 simp [valL, valFrom, beL]
 omega
abbrev gL (z : Nat) (t : List Int) : List Int := beL (z : Int) 3 ++ [0, 0, 0, 0, 0, 1] ++ t
theorem gL_len (z : Nat) (t : List Int) : (gL z t).length = 9 + t.length := by
 simp [beL_length]
 omega
theorem gL_head (z : Nat) (t : List Int) (hz : z ≤ 16777215) : headN (gL z t) = ((9 + z : Nat) : Int) := by
 have h3 : (gL z t).take 3 = beL (z : Int) 3 := by
  show (beL (z : Int) 3 ++ [0, 0, 0, 0, 0, 1] ++ t).take 3 = _
  rw [List.append_assoc, List.take_append_of_le_length (by rw [beL_length]; exact Nat.le_refl 3), List.take_of_length_le (by rw [beL_length]; exact Nat.le_refl 3)]
 unfold headN
 rw [if_neg (by rw [gL_len]; omega), h3, valL_be3 (by omega)]
 omega
theorem gL_byte (z : Nat) (t : List Int) (ht : Byte8 t) : Byte8 (gL z t) := fun x hx => by
 rcases List.mem_append.1 hx with hx | hx
 ·rcases List.mem_append.1 hx with hx | hx
  ·exact beL_byte _ _ x hx
  ·simp only [List.mem_cons, List.not_mem_nil, or_false] at hx
   omega
 ·exact ht x hx
theorem gL_over (z : Nat) (h0 : 16385 ≤ z) (h1 : z ≤ 40000) : nextS ⟨gL z [], false, false⟩ = (some (hdF (gL z []), 1, 6), ⟨[], false, true⟩) := by
 unfold nextS nextN nextB
 simp only [Bool.false_eq_true, if_false]
 rw [if_neg (by rw [gL_len]; simp), gL_head z [] (by omega), if_neg (by omega), if_pos (by omega)]
theorem gL_drop (z : Nat) (t : List Int) : (gL z t).drop 9 = t := by
 rw [List.drop_append, List.drop_of_length_le (by simp [beL_length])]
 simp [beL_length]
theorem gL_get (z : Nat) (t : List Int) (hz : z ≤ 16384) (ht : t.length = z) : getFr (gL z t) = (⟨0, 0, 1, t, -1, 0, 0, 0, false, 0, []⟩, 0, 0) := by
 have hb : beL (z : Int) 3 = [((z : Int) / 65536) % 256, ((z : Int) / 256) % 256, (z : Int) % 256] := by simp [beL]
 have e3 : (gL z t).getD 3 0 = 0 := by unfold gL; rw [hb]; rfl
 have e4 : (gL z t).getD 4 0 = 0 := by unfold gL; rw [hb]; rfl
 have e5 : valL (((gL z t).take 9).drop 5) % 2147483648 = 1 := by unfold gL; rw [hb]; rfl
 unfold getFr
 rw [if_neg (by rw [gL_head z t (by omega), gL_len, ht]; simp), if_neg (by rw [gL_len]; omega), e3, e4, e5, if_neg (by decide), gL_drop]
 have : readR ⟨0, 0, 1, [], -1, 0, 0, 0, false, 0, []⟩ t = .ok ⟨0, 0, 1, t, -1, 0, 0, 0, false, 0, []⟩ := by
  have hbit : Go.bits .and .u8 0 8 = 0 := by decide
  have hu : unpadR 0 0 (-1) t = .ok 0 t.length (-1) := by
   unfold unpadR
   rw [if_neg (fun h => h.2 hbit)]
  show (match unpadR 0 0 (-1) t with
   | .bad code => Frd.bad 1 code
   | .ok from_ n p => bodyR ⟨0, 0, 1, [], p, 0, 0, 0, false, 0, []⟩ ((t.drop from_).take n)) = _
  rw [hu]
  simp only [List.drop_zero, List.take_length]
  unfold bodyR
  simp [shortR, leansB, leastR]
 rw [this]
theorem gL_good (z : Nat) (t : List Int) (hz : z ≤ 16384) (ht : t.length = z) : nextS ⟨gL z t, false, false⟩ = (some (⟨0, 0, 1, t, -1, 0, 0, 0, false, 0, []⟩, 0, 0), ⟨[], false, false⟩) := by
 have hl : (gL z t).length = 9 + z := by rw [gL_len, ht]
 unfold nextS nextN nextB
 simp only [Bool.false_eq_true, if_false]
 rw [if_neg (by rw [hl]; omega), gL_head z t (by omega), if_neg (by rw [hl]; omega), if_neg (by omega), Int.toNat_natCast, ← hl, List.take_length, gL_get z t hz ht, if_neg (by simp), List.drop_length]
theorem next_at {L : List Int} {x : Rs} {s2 : Sp} (hb : Byte8 L) (hl : L.length ≤ 16393) (hx : nextS ⟨L, false, false⟩ = (some x, s2)) (W : World) (g : Nat) (v : Value) (h : IsSp W g v ⟨L, false, false⟩) (hgv : ∀ W1, Kept W W1 (ats [spO g v ⟨L, false, false⟩, spR v ⟨L, false, false⟩]) → GV W1) :
  Calls Tryd.prog 39 #[.pointer (some ⟨g, 0, none⟩)] W (NextP W g v ⟨L, false, false⟩ x true s2) := by
 have h_ := next_calls W g v _ h hgv hb hl
 rw [hx] at h_
 exact h_
set_option maxHeartbeats 4000000 in
set_option maxRecDepth 100000 in
theorem great_over (n : Int) (hn : 0 ≤ n ∧ n ≤ 65535) (w : World) (hgv : GV w) : Calls Tryd.prog 12 #[.int .u16 n, .bool true] w fun e w' => e = .returned (.bool true) ∧ Below w.heap.size w w' := by
 refine of_post0 fun R hRR => ?_
 have HP := Lib.hid hRR
 have HGV := Lib.hid hgv
 obtain ⟨z, hz⟩ := Int.eq_ofNat_of_zero_le (show 0 ≤ n % 16385 + 16385 by omega)
 have z0 : 16385 ≤ z := by omega
 have z1 : z ≤ 40000 := by omega
 obtain ⟨L, hL9⟩ : ∃ L, beL (z : Int) 3 ++ [0, 0, 0, 0, 0, 1] = L := ⟨_, rfl⟩
 have hL : gL z [] = L := by rw [← hL9]; simp
 have hLl : L.length = 9 := by rw [← hL, gL_len]; rfl
 have hLb : Byte8 L := by rw [← hL]; exact gL_byte z [] (fun x hx => by cases hx)
 have hs : strOfNums (beL (z : Int) 3) ++ (⟨#[0, 0, 0, 0, 0, 1]⟩ : ByteArray) = strOfNums L := by
  rw [show (⟨#[0, 0, 0, 0, 0, 1]⟩ : ByteArray) = strOfNums [0, 0, 0, 0, 0, 1] from rfl, strs_append, ← hL9]
 have hu : IntKind.u64.wrap (z : Int) = (z : Int) := u64_w8 (by omega) (by omega)
 have HN := Lib.hid (fun W => rnumber_calls W (z : Int) 3 (by decide) (by omega) (by omega))
 have c1 : (9223372036854775807 < (strOfNums (beL (z : Int) 3)).size + 6) = False := eq_false (by rw [str_size, beL_length]; decide)
 generalize strOfNums (beL (z : Int) 3) = s3 at HN hs c1
 have hx := gL_over z z0 z1
 rw [hL] at hx
 have HX := Lib.hid (next_at hLb (by omega) hx)
 have HF := Lib.hid (show feedK ⟨[], false, false⟩ L = 9 ∧ feedS ⟨[], false, false⟩ L = ⟨L, false, false⟩ by
  have e : feedN ⟨[], false, false⟩ L = 9 := by unfold feedN; rw [hLl]; rfl
  have e2 : L.take 9 = L := by rw [← hLl, List.take_length]
  unfold feedK feedS
  simp [e, e2])
 have HL := Lib.hid (And.intro (show (strOfNums L).size = L.length from str_size L) (And.intro (bytes_str hLb) (show L.length ≤ 9223372036854775807 by omega)))
 generalize hdF L = F at HX
 clear hRR hgv hL hL9 hx hLl
 have H : Hold w w [] [] := Hold.nothing (Kept.refl _ _)
 go_enter Tryd.func12, Tryd.ntmps12
 go_upto_region 8 with (first
  | (go_at_call 33; refine (new_split _ false).mono ?_; rintro e_ w_ ⟨g, rfl, h_⟩; replace H := Hold.push H h_; clear h_)
  | (go_at_call 30; refine (HN.out _).mono ?_; rintro e_ w_ ⟨rfl, h_⟩; replace H := H.below h_; clear h_)
  | ((with_reducible refine is_conv rfl ?_); refine bytes_h H rfl rfl L rfl Tryd.underlying9 Tryd.underlying35 Tryd.underlying5 HL.out.1 HL.out.2.1 HL.out.2.2 ?_; clear H; intro gb cb hcb_ w_ H; have HCB := Lib.hid hcb_; clear hcb_)
  | (go_at_call 40; refine (feed_calls _ g _ ⟨[], false, false⟩ (H.sp (by repeat (first | exact List.Mem.head _ | apply List.Mem.tail)) (by repeat (first | exact List.Mem.head _ | apply List.Mem.tail))) (by decide) _ cb L (H.rd (by repeat (first | exact List.Mem.head _ | apply List.Mem.tail))) HCB.out).mono ?_; rintro e_ w_ ⟨v1, rfl, h_⟩; rw [HF.out.1]; rw [HF.out.2] at h_; replace H := Hold.call (H.pull2 (by repeat (first | exact Pull.head | apply Pull.tail)) (by repeat (first | exact Pull.head | apply Pull.tail))) h_; clear h_))
 go_upto_region 9 with (first
  | (go_at_call 39; refine (HX.out _ g _ (H.sp (s := ⟨L, false, false⟩) (by repeat (first | exact List.Mem.head _ | apply List.Mem.tail)) (by repeat (first | exact List.Mem.head _ | apply List.Mem.tail))) (Hold.gv H HGV.out (Want.take (by repeat (first | exact Pull.head | apply Pull.tail)) (Want.take (by repeat (first | exact Pull.head | apply Pull.tail)) (Want.done (by repeat (first | exact Suf.refl | apply Suf.cons))))))).mono ?_; rintro e_ w_ ⟨v1, Ap, cp, Bp, mp, rfl, h_⟩; replace H := Hold.call (H.pull2 (by repeat (first | exact Pull.head | apply Pull.tail)) (by repeat (first | exact Pull.head | apply Pull.tail))) h_; clear h_)
  | ((with_reducible refine is_alloc (ty := 38) rfl ?_); refine alloc_h H rfl rfl (cs := (frC ⟨0, 0, 0, [], 0, 0, 0, 0, false, 0, []⟩ nilS nilS).toList) (by first | (go_simp; done) | (go_simp; rfl)) ?_; clear H; intro gF w_ H)
  | ((with_reducible refine is_alloc (ty := 24) rfl ?_); refine alloc_h H rfl rfl (cs := [.int .u8 0, .int .u32 0]) (by first | (go_simp; done) | (go_simp; rfl)) ?_; clear H; intro gE w_ H)
  | ((with_reducible refine is_store (ty := 38) rfl ?_); refine store_h H rfl rfl rfl rfl (u := .agg (frC F (.slice Ap F.data.length cp) (.slice Bp F.sets.length mp))) rfl (by repeat (first | exact Put.head | apply Put.tail)) (by kernel_rfl) (Nat.le_of_ble_eq_true rfl) rfl ?_; clear H; intro w_ H; simp only [setC, Value.cells, List.toList_toArray] at H)
  | ((with_reducible refine is_store (ty := 24) rfl ?_); refine store_h H rfl rfl rfl rfl (u := .agg #[.int .u8 1, .int .u32 6]) rfl (by repeat (first | exact Put.head | apply Put.tail)) (by kernel_rfl) (Nat.le_of_ble_eq_true rfl) rfl ?_; clear H; intro w_ H; simp only [setC, Value.cells, List.toList_toArray] at H))
 go_wp2_with (first
  | (go_at_call 32; refine (fixed8_calls _ (GV.below HGV.out H.all)).mono ?_; rintro e_ w_ ⟨rfl, h_⟩; replace H := H.below h_; clear h_)
  | ((with_reducible refine is_load (ty := 24) rfl ?_); refine load_g H rfl rfl (by repeat (first | exact List.Mem.head _ | apply List.Mem.tail)) (by kernel_rfl) (by kernel_rfl) (by rfl) ?_)
  | ((with_reducible refine is_load rfl ?_); refine loadf_g H rfl rfl (by repeat (first | exact List.Mem.head _ | apply List.Mem.tail)) rfl (by kernel_rfl) (by rfl) ?_)
  | (go_at_call 37; refine (bad_calls _ g _ _ _ (H.blk (by repeat (first | exact List.Mem.head _ | apply List.Mem.tail)))).mono ?_; rintro e_ w_ ⟨rfl, h_⟩; replace H := H.below h_; clear h_))
 exact HP.out _ _ ⟨rfl, H.all⟩
theorem next_good {L t : List Int} (hb : Byte8 L) (hl : L.length ≤ 16393) (hx : nextS ⟨L, false, false⟩ = (some (⟨0, 0, 1, t, -1, 0, 0, 0, false, 0, []⟩, 0, 0), ⟨[], false, false⟩)) (W : World) (g : Nat) (v : Value) (h : IsSp W g v ⟨L, false, false⟩) (hgv : ∀ W1, Kept W W1 (ats [spO g v ⟨L, false, false⟩, spR v ⟨L, false, false⟩]) → GV W1) :
  Calls Tryd.prog 39 #[.pointer (some ⟨g, 0, none⟩)] W fun e w' => ∃ v' Ap cp Bp mp, e = .returned (.tuple #[.agg #[.int .u8 0, .int .u8 0, .int .u32 1, .slice Ap t.length cp, .int .i64 (-1), .int .u32 0, .int .u32 0, .int .u8 0, .bool false, .int .u32 0, .slice Bp 0 mp], .agg #[.int .u8 0, .int .u32 0], .bool true]) ∧ Hold W w' (ats [spO g v ⟨L, false, false⟩, spR v ⟨L, false, false⟩]) [frThing Ap cp Bp mp ⟨0, 0, 1, t, -1, 0, 0, 0, false, 0, []⟩, spO g v' ⟨[], false, false⟩, spR v' ⟨[], false, false⟩] := next_at hb hl hx W g v h hgv
set_option maxHeartbeats 4000000 in
set_option maxRecDepth 100000 in
theorem great_good (n : Int) (hn : 0 ≤ n ∧ n ≤ 65535) (w : World) (hgv : GV w) : Calls Tryd.prog 12 #[.int .u16 n, .bool false] w fun e w' => e = .returned (.bool true) ∧ Below w.heap.size w w' := by
 refine of_post0 fun R hRR => ?_
 have HP := Lib.hid hRR
 have HGV := Lib.hid hgv
 obtain ⟨z, hz⟩ := Int.eq_ofNat_of_zero_le (show 0 ≤ n % 16385 by omega)
 have z1 : z ≤ 16384 := by omega
 obtain ⟨t, ht⟩ : ∃ t : List Int, List.replicate z 0 = t := ⟨_, rfl⟩
 have htl : t.length = z := by rw [← ht, List.length_replicate]
 have htb : Byte8 t := fun x hx => by rw [← ht] at hx; have := List.eq_of_mem_replicate hx; omega
 obtain ⟨L9, hL9⟩ : ∃ L, beL (z : Int) 3 ++ [0, 0, 0, 0, 0, 1] = L := ⟨_, rfl⟩
 obtain ⟨L, hLt⟩ : ∃ L, L9 ++ t = L := ⟨_, rfl⟩
 have hL : gL z t = L := by rw [← hLt, ← hL9]
 have h9 : L9.length = 9 := by rw [← hL9, List.length_append, beL_length]; rfl
 have hLl : L.length = 9 + z := by rw [← hL, gL_len, htl]
 have hLb : Byte8 L := by rw [← hL]; exact gL_byte z t htb
 have hs : strOfNums (beL (z : Int) 3) ++ (⟨#[0, 0, 0, 0, 0, 1]⟩ : ByteArray) = strOfNums L9 := by
  rw [show (⟨#[0, 0, 0, 0, 0, 1]⟩ : ByteArray) = strOfNums [0, 0, 0, 0, 0, 1] from rfl, strs_append, ← hL9]
 have hu : IntKind.u64.wrap (z : Int) = (z : Int) := u64_w8 (by omega) (by omega)
 have HN := Lib.hid (fun W => rnumber_calls W (z : Int) 3 (by decide) (by omega) (by omega))
 have c1 : (9223372036854775807 < (strOfNums (beL (z : Int) 3)).size + 6) = False := eq_false (by rw [str_size, beL_length]; decide)
 generalize strOfNums (beL (z : Int) 3) = s3 at HN hs c1
 have hs2 : strOfNums L9 ++ strOfNums t = strOfNums L := by rw [strs_append, hLt]
 have c2 : (9223372036854775807 < (strOfNums L9).size + (strOfNums t).size) = False := eq_false (by rw [str_size, str_size]; omega)
 have hx := gL_good z t z1 htl
 rw [hL] at hx
 have HX := Lib.hid (next_good hLb (by omega) hx)
 have HF := Lib.hid (show feedK ⟨[], false, false⟩ L = L.length ∧ feedS ⟨[], false, false⟩ L = ⟨L, false, false⟩ by
  have e : feedN ⟨[], false, false⟩ L = L.length := by unfold feedN; simp only [List.length_nil]; omega
  unfold feedK feedS
  simp [e])
 have hsz : (strOfNums L).size = L.length := str_size L
 have HL := Lib.hid (And.intro hsz (And.intro (bytes_str hLb) (show L.length ≤ 9223372036854775807 by omega)))
 have HT := Lib.hid (And.intro ht htl)
 have HZ := Lib.hid z1
 have htz : (t.length : Int) = (z : Int) := by omega
 clear hRR hgv hL hL9 hLt hx hLl h9 hLb htb ht htl
 have H : Hold w w [] [] := Hold.nothing (Kept.refl _ _)
 go_enter Tryd.func12, Tryd.ntmps12
 go_upto_region 13 with (first
  | (go_at_call 33; refine (new_split _ false).mono ?_; rintro e_ w_ ⟨g, rfl, h_⟩; replace H := Hold.push H h_; clear h_)
  | (go_at_call 30; refine (HN.out _).mono ?_; rintro e_ w_ ⟨rfl, h_⟩; replace H := H.below h_; clear h_)
  | ((with_reducible refine is_make rfl ?_); refine makeb_h H rfl rfl z rfl rfl Tryd.underlying35 Tryd.infoB8 (by omega) ?_; clear H; intro gw w_ H; rw [HT.out.1] at H)
  | ((with_reducible refine is_conv rfl ?_); refine conv_h H rfl rfl (v := .slice (some ⟨gw, 0, none⟩) z z) rfl (by repeat (first | exact List.Mem.head _ | apply List.Mem.tail)) Tryd.underlying35 Tryd.underlying5 Tryd.underlying9 ?_)
  | ((with_reducible refine is_conv rfl ?_); refine bytes_h H rfl rfl L rfl Tryd.underlying9 Tryd.underlying35 Tryd.underlying5 HL.out.1 HL.out.2.1 HL.out.2.2 ?_; clear H; intro gb cb hcb_ w_ H; have HCB := Lib.hid hcb_; clear hcb_)
  | (go_at_call 40; refine (feed_calls _ g _ ⟨[], false, false⟩ (H.sp (by repeat (first | exact List.Mem.head _ | apply List.Mem.tail)) (by repeat (first | exact List.Mem.head _ | apply List.Mem.tail))) (by decide) _ cb L (H.rd (by repeat (first | exact List.Mem.head _ | apply List.Mem.tail))) HCB.out).mono ?_; rintro e_ w_ ⟨v1, rfl, h_⟩; rw [HF.out.1]; rw [HF.out.2] at h_; replace H := Hold.call (H.pull2 (by repeat (first | exact Pull.head | apply Pull.tail)) (by repeat (first | exact Pull.head | apply Pull.tail))) h_; clear h_))
 go_upto_region 14 with (first
  | (go_at_call 39; refine (HX.out _ g _ (H.sp (s := ⟨L, false, false⟩) (by repeat (first | exact List.Mem.head _ | apply List.Mem.tail)) (by repeat (first | exact List.Mem.head _ | apply List.Mem.tail))) (Hold.gv H HGV.out (Want.take (by repeat (first | exact Pull.head | apply Pull.tail)) (Want.take (by repeat (first | exact Pull.head | apply Pull.tail)) (Want.done (by repeat (first | exact Suf.refl | apply Suf.cons))))))).mono ?_; rintro e_ w_ ⟨v1, Ap, cp, Bp, mp, rfl, h_⟩; replace H := Hold.call (H.pull2 (by repeat (first | exact Pull.head | apply Pull.tail)) (by repeat (first | exact Pull.head | apply Pull.tail))) h_; clear h_)
  | ((with_reducible refine is_alloc (ty := 38) rfl ?_); refine alloc_h H rfl rfl (cs := (frC ⟨0, 0, 0, [], 0, 0, 0, 0, false, 0, []⟩ nilS nilS).toList) (by first | (go_simp; done) | (go_simp; rfl)) ?_; clear H; intro gF w_ H)
  | ((with_reducible refine is_alloc (ty := 24) rfl ?_); refine alloc_h H rfl rfl (cs := [.int .u8 0, .int .u32 0]) (by first | (go_simp; done) | (go_simp; rfl)) ?_; clear H; intro gE w_ H)
  | ((with_reducible refine is_store (ty := 38) rfl ?_); refine store_h H rfl rfl rfl rfl (u := .agg #[.int .u8 0, .int .u8 0, .int .u32 1, .slice Ap t.length cp, .int .i64 (-1), .int .u32 0, .int .u32 0, .int .u8 0, .bool false, .int .u32 0, .slice Bp 0 mp]) rfl (by repeat (first | exact Put.head | apply Put.tail)) (by kernel_rfl) (Nat.le_of_ble_eq_true rfl) rfl ?_; clear H; intro w_ H; simp only [setC, Value.cells, List.toList_toArray] at H)
  | ((with_reducible refine is_store (ty := 24) rfl ?_); refine store_h H rfl rfl rfl rfl (u := .agg #[.int .u8 0, .int .u32 0]) rfl (by repeat (first | exact Put.head | apply Put.tail)) (by kernel_rfl) (Nat.le_of_ble_eq_true rfl) rfl ?_; clear H; intro w_ H; simp only [setC, Value.cells, List.toList_toArray] at H))
 go_wp2_with (first
  | (go_at_call 32; refine (fixed8_calls _ (GV.below HGV.out H.all)).mono ?_; rintro e_ w_ ⟨rfl, h_⟩; replace H := H.below h_; clear h_)
  | ((with_reducible refine is_load (ty := 24) rfl ?_); refine load_g H rfl rfl (by repeat (first | exact List.Mem.head _ | apply List.Mem.tail)) (by kernel_rfl) (by kernel_rfl) (by rfl) ?_)
  | ((with_reducible refine is_load rfl ?_); refine loadf_g H rfl rfl (by repeat (first | exact List.Mem.head _ | apply List.Mem.tail)) rfl (by kernel_rfl) (by rfl) ?_)
  | (go_at_call 38; refine (held_calls _ g _ ⟨[], false, false⟩ (H.sp (by repeat (first | exact List.Mem.head _ | apply List.Mem.tail)) (by repeat (first | exact List.Mem.head _ | apply List.Mem.tail)))).mono ?_; rintro e_ w_ ⟨rfl, h_⟩; replace H := H.below h_; clear h_))
 exact HP.out _ _ ⟨rfl, H.all⟩
theorem splitGreat_walk (n : Int) (ov : Bool) (w : World) (w0 : (Lit.int .u16 n).wf = true) (hgv : GV w) : Calls Tryd.prog 12 #[.int .u16 n, .bool ov] w fun e w' => e = .returned (.bool true) ∧ Below w.heap.size w w' := by
 simp [Lit.wf, IntKind.min, IntKind.max, IntKind.signed, IntKind.bits] at w0
 cases ov with
 | true => exact great_over n ⟨by omega, by omega⟩ w hgv
 | false => exact great_good n ⟨by omega, by omega⟩ w hgv
end Go.Proofs.YtjjfkmniffbgkaaDoor

/- From the row's list to the cell of errors.errorType; bounds of numbers that came in. -/
namespace Go.Proofs.YtjjfkmniffbgkaaDoor
set_option linter.unusedVariables false
set_option linter.unusedSimpArgs false
open Go.RowKit
theorem Tryd.et : Tryd.prog.globalNamed "errors.errorType" = some 1 := by kernel_rfl
theorem Tryd.rt : (Tryd.prog.cutTypes.find? (·.1 == "internal/reflectlite.rtype")).map (·.2) = some 130 := by kernel_rfl
theorem Tryd.oneRow : ((List.range 182).filter fun t => Tryd.prog.rowNamed t [101, 114, 114, 111, 114]) = [28] := by kernel_rfl
theorem Tryd.sizeT : Tryd.prog.types.size = 182 := by kernel_rfl
theorem gv_of_laid {W : World} (h : laidMetH Tryd.prog [("errors.errorType", Rows.laid_errors_errorType)] W) : GV W := by
 have h' : laidMet Tryd.prog [] W ∧ handlesMet Tryd.prog [("errors.errorType", Rows.laid_errors_errorType)] W := h
 obtain ⟨name, u, ty, e1, e2, e3, e4, e5⟩ := h'.2 _ (List.mem_singleton.2 rfl)
 have en : name = [101, 114, 114, 111, 114] := (Option.some.inj e1).symm
 subst en
 obtain rfl := Option.some.inj (Tryd.rt.symm.trans e2)
 have hm : ty ∈ (List.range 182).filter fun t => Tryd.prog.rowNamed t [101, 114, 114, 111, 114] := List.mem_filter.2 ⟨List.mem_range.2 (by rw [← Tryd.sizeT]; exact e3), e4⟩
 rw [Tryd.oneRow] at hm
 obtain rfl := List.mem_singleton.1 hm
 have hh : typeHandle Tryd.prog 28 = hOf 28 := by kernel_rfl
 rw [hh] at e5
 unfold GV
 simpa using World.var?_cell Tryd.et e5 0
end Go.Proofs.YtjjfkmniffbgkaaDoor

/- The statement of louver/louverlaw08.SplitGreat: for every input it returns true, and each argument reads behind the call as it read before; no other condition than the row's own. -/
namespace Go.Proofs.YtjjfkmniffbgkaaDoor.splitGreat
set_option linter.unusedVariables false
set_option linter.unusedSimpArgs false
open Go.ChangeShapes Go.WideShapes Go.ChangeAt Go.RowKit
open Go.ChangeMaps (open_string shut_string)
set_option linter.unusedVariables false
theorem own : ownKnob Tryd.prog.godebug = none := by kernel_rfl
theorem laidOut : laidOutB Tryd.prog = true := by kernel_rfl
set_option maxRecDepth 100000 in
theorem contract (H : Type) (enc : TypeId × Value → H) (W : World) (base : Nat) (args : Array Value) (ds gs : List (DataW H)) (before : List MemPlace)
  (hval : ∀ (j : Nat) t v, Tryd.f12.params[j]? = some t → args[j]? = some v → Value.okWide Tryd.prog W .any base t v)
  (hW : DataW.Whole enc Tryd.prog Tryd.f12.params.toList Rows.splitGreatSpec.vars false W args.toList ds gs before)
  (hsz : (DataW.weightsEach Tryd.prog (Tryd.f12.params.toList ++ Rows.splitGreatSpec.plain.varTypes Tryd.prog) (ds ++ gs)).all (· ≤ reachBytes) = true)
  (hL : laidMetH Tryd.prog Rows.splitGreatRow.laid W) (hS : W.ShapedOpen Tryd.prog) :
  Calls Tryd.prog 12 args W fun e W' => ∃ v, e = .returned v ∧ Rows.splitGreatSpec.post enc Tryd.prog Tryd.f12 false true false false W args v W' := by
 have hW' := hW
 obtain ⟨p, q, hA0, hV, rfl, hfz, hnd⟩ := hW
 have hA : DataW.TrodAll enc Tryd.prog W 0 (fun _ => true) true Tryd.f12.params.toList args.toList ds p := hA0
 rw [Tryd.params12] at hA hval hsz
 obtain ⟨v0, vs0, d0, ds0, p0, q0, hargs, rfl, rfl, h0, r0⟩ := trodAll_cons hA
 obtain ⟨v1, vs1, d1, ds1, p1, q1, rfl, rfl, rfl, h1, r1⟩ := trodAll_cons r0
 obtain ⟨rfl, rfl, rfl⟩ := trodAll_nil r1
 obtain rfl : args = #[v0, v1] := by cases args; simp_all
 obtain ⟨rfl, rfl⟩ := trodVars_none hV
 obtain ⟨a0, rfl, rfl, rfl, w0⟩ := open_int Tryd.underlying52 (hval 0 52 v0 rfl rfl) h0
 obtain ⟨a1, rfl, rfl, rfl⟩ := open_bool Tryd.underlying4 (hval 1 4 v1 rfl rfl) h1
 clear hA0 hval
 refine (splitGreat_walk a0 a1 W w0 (gv_of_laid hL)).mono fun e W' ⟨he, bel⟩ => ?_
 subst he
 exact ⟨_, rfl, _, _, _, [], _, [], hW', trodAll_mk1 (shut_bool Tryd.underlying4 _), (trodAll_cons_mk (shut_int Tryd.underlying52 w0) (trodAll_cons_mk (shut_bool Tryd.underlying4 _) trodAll_mk0)), rfl, bel.frame _, fun h => by cases h⟩
noncomputable def laidWorld (os : Os) : World :=
 { World.holding Tryd.prog os ⟨#[], #[], []⟩ with heap := (World.holding Tryd.prog os ⟨#[], #[], []⟩).heap.modify 1 fun
   | .cells _ t frozen => .cells #[.iface 130 (.agg #[.pointer (some ⟨5, 28, none⟩)])] t frozen
   | o => o }
set_option maxRecDepth 100000 in
theorem laid_met (os : Os) (args : Array Value) : laidMetH Tryd.prog Rows.splitGreatRow.laid ((laidWorld os).forCall (fun _ _ => 0) ⟨#[], args, []⟩).memory := laidMetH_of_parts (laidMet_nil _ _) (by kernel_rfl)
set_option maxRecDepth 100000 in
theorem lifted (os : Os) (started : os.Started) (H : Type) (enc : TypeId × Value → H) (F : Stop.Interp) :
  ReturnsInHanded {} Tryd.checked os 12 .any ((OpenSpec.ofChange Rows.splitGreatSpec).preRow enc Tryd.prog Tryd.f12 Rows.splitGreatRow.domain false Rows.splitGreatRow.laid) (((OpenSpec.ofChange Rows.splitGreatSpec).at F).post enc Tryd.prog Tryd.f12 false true false false) := by
 refine returnsInHanded_of_row (C := Tryd.checked) (s := (OpenSpec.ofChange Rows.splitGreatSpec)) own started (by kernel_rfl) Tryd.func12
  (witness_row_at (enc := enc) (C := Tryd.checked) false (laidWorld os) #[.int .u16 0, .bool false] rfl (by kernel_rfl) (by kernel_rfl) (by kernel_rfl)
   (OpenSpec.preRow_of_cond 8 (x := ([.lit (.int .u16 0), .lit (.bool false)], [], [])) (by kernel_rfl) (by kernel_rfl) (fun k hk => by cases hk) (by kernel_rfl) (laid_met os _))) ?_
 intro W base args ds gs before hval hW _ hcond hsz hL hS _
 exact contract H enc W base args ds gs before hval hW hsz hL hS
theorem said : Rows.SplitGreatSaid :=
 OpenClaim.holds_of_cond 12 Tryd.f12 rfl rfl rfl rfl rfl rfl rfl ⟨rfl, rfl, rfl, rfl, rfl⟩ rfl rfl rfl rfl rfl (by kernel_rfl) Tryd.func12 (by kernel_rfl)
  (of_decide_eq_true (by kernel_rfl)) (by unfold Func.isWrapper; first | (rw [if_pos (by decide +kernel)]; kernel_rfl) | (rw [if_neg (by decide +kernel)]; exact ⟨rfl, rfl⟩))
  (fun os started H enc _ F => by rw [OpenClaim.pre_eq_preRow]; exact lifted os started H enc F)
theorem plain (f : FuncId) (fn : Func) (hf : Tryd.pinned.checked.prog.funcNamed "louver/louverlaw08.SplitGreat" = some f) (hfn : Tryd.pinned.checked.prog.funcs[f]? = some fn) :
  true = Tryd.pinned.checked.prog.looks [] ∧ ∀ (j : Nat) t, fn.params[j]? = some t → Tryd.pinned.checked.prog.wantsStandIn t = false := by
 obtain rfl : f = 12 := Option.some.inj ((show Tryd.prog.funcNamed "louver/louverlaw08.SplitGreat" = some 12 by kernel_rfl).symm.trans hf) |>.symm
 obtain rfl : fn = Tryd.f12 := (Option.some.inj (Tryd.func12.symm.trans hfn)).symm
 refine ⟨by kernel_rfl, fun j t ht => ?_⟩
 rw [Tryd.params12] at ht
 have hm := Array.mem_of_getElem? ht
 have hall : ∀ t ∈ #[52, 4], Tryd.prog.wantsStandIn t = false := by intro t h; simp only [List.mem_toArray, List.mem_cons, List.not_mem_nil, or_false] at h; rcases h with rfl | rfl <;> kernel_rfl
 exact hall t hm
theorem card : Rows.SplitGreatCardSaid :=
 Claim7.holds_tied_plain_at .later [] _ _ _ _ said (fun _ h => by cases h) (by kernel_rfl) (fun _ h => by cases h) splitGreat_row_tie rfl ⟨rfl, rfl⟩ (by kernel_rfl) rfl plain (by kernel_rfl)
#print axioms card
end Go.Proofs.YtjjfkmniffbgkaaDoor.splitGreat
