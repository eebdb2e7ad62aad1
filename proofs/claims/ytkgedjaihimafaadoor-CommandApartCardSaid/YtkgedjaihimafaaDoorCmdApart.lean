/- The statement CommandApart, over lists. -/
import Derived.Test.YtkgedjaihimafaaDoorCmdPure
namespace Go.Proofs.YtkgedjaihimafaaDoor
set_option linter.unusedVariables false
set_option linter.unusedSimpArgs false
open Go.RowKit Go.Proofs.YtkgedjaihimafaaDoorW.PrintWords Go.Proofs.YtkgedjaihimafaaDoorW.PrintMore Go.Proofs.YtkgedjaihimafaaDoor.QCmd Go.Proofs.YtkgedjaihimafaaDoor.Given

def Byte8 (l : List Int) : Prop := ∀ x ∈ l, 0 ≤ x ∧ x ≤ 255
theorem str_list (l : List Int) : (strOfNums l).toList = l.map fun n => UInt8.ofNat n.toNat := by
  rw [ByteArray.toList_eq]
  simp [strOfNums]
theorem back_list : ∀ (l : List Int), Byte8 l → (l.map fun n => UInt8.ofNat n.toNat).map (fun c => (c.toNat : Int)) = l
  | [], _ => rfl
  | x :: l, h => by
    have h1 := h x (by simp)
    have h2 := back_list l (fun y hy => h y (by simp [hy]))
    simp only [List.map_cons]
    rw [h2]
    congr 1
    rw [UInt8.toNat_ofNat']
    omega
theorem str_inj {a b : List Int} (ha : Byte8 a) (hb : Byte8 b) : ((strOfNums a).toList == (strOfNums b).toList) = decide (a = b) := by
  rw [str_list, str_list, Bool.eq_iff_iff, beq_iff_eq, decide_eq_true_iff]
  constructor
  · intro h
    have := congrArg (List.map (fun c : UInt8 => (c.toNat : Int))) h
    rwa [back_list a ha, back_list b hb] at this
  · intro h
    rw [h]
theorem be_byte (n : Int) : ∀ m, Byte8 (beL n m)
  | 0 => fun x hx => by cases hx
  | m + 1 => fun x hx => by
    rcases List.mem_cons.1 hx with rfl | h
    · omega
    · exact be_byte n m x h
theorem bytes_byte (s : ByteArray) : Byte8 (bytesOf s) := by
  intro x hx
  obtain ⟨c, -, rfl⟩ := List.mem_map.1 hx
  have := c.toNat_lt
  omega
theorem be4_inj {a b : Int} (ha : 0 ≤ a ∧ a ≤ 4294967295) (hb : 0 ≤ b ∧ b ≤ 4294967295) (h : beL a 4 = beL b 4) : a = b := by
  simp [beL] at h
  omega
theorem be8_inj {a b : Int} (ha : 0 ≤ a ∧ a ≤ 18446744073709551615) (hb : 0 ≤ b ∧ b ≤ 18446744073709551615) (h : beL a 8 = beL b 8) : a = b := by
  simp [beL] at h
  omega
theorem bytesOf_inj {s t : ByteArray} (h : bytesOf s = bytesOf t) : s = t := by
  have hi : Function.Injective fun c : UInt8 => (c.toNat : Int) := fun a b e => by
    apply UInt8.toNat_inj.1
    have : (a.toNat : Int) = b.toNat := e
    omega
  exact bytes_ext ((List.map_inj_right (fun _ _ e => hi e)).1 h)

theorem put_byte {kind id seq code : Int} {topic : ByteArray} {pay : List Int} (h : cmdOk kind topic seq code pay = true) (hp : Byte8 pay) : Byte8 (putL kind id topic seq code pay) := by
  have hk : 1 ≤ kind ∧ kind ≤ 8 := by
    unfold cmdOk at h
    simp only [Bool.and_eq_true, decide_eq_true_iff] at h
    exact h.1
  have hcode : kind = 8 → 1 ≤ code ∧ code ≤ 5 := by
    intro h8
    unfold cmdOk at h
    simp only [Bool.and_eq_true, decide_eq_true_iff, h8, if_true] at h
    exact h.2.2.2.1
  intro x hx
  unfold putL at hx
  simp only [List.mem_append] at hx
  rcases hx with (((((hx | hx) | hx) | hx) | hx) | hx) | hx
  · rw [List.mem_singleton.1 hx]; omega
  · exact be_byte id 4 x hx
  · split at hx
    · rw [List.mem_singleton.1 hx]; omega
    · cases hx
  · exact bytes_byte topic x hx
  · split at hx
    · exact be_byte seq 8 x hx
    · cases hx
  · split at hx
    · rename_i h8
      rw [List.mem_singleton.1 hx]
      have := hcode h8
      omega
    · cases hx
  · exact hp x hx

theorem ok_len3 {s : ByteArray} (h : topicOk s = true) : s.size ≤ 64 := by
  unfold topicOk at h
  simp at h
  exact h.1

theorem put_inj {k i q c k' i' q' c' : Int} {t t' : ByteArray} {p p' : List Int} (h : cmdOk k t q c p = true) (h' : cmdOk k' t' q' c' p' = true)
    (hi : 0 ≤ i ∧ i ≤ 4294967295) (hi' : 0 ≤ i' ∧ i' ≤ 4294967295) (hq : 0 ≤ q ∧ q ≤ 18446744073709551615) (hq' : 0 ≤ q' ∧ q' ≤ 18446744073709551615)
    (e : putL k i t q c p = putL k' i' t' q' c' p') : k = k' ∧ i = i' ∧ t = t' ∧ q = q' ∧ c = c' ∧ p = p' := by
  have hkk : k = k' := by
    unfold putL at e
    simp at e
    exact e.1
  subst hkk
  unfold putL at e
  simp only [List.append_assoc, List.cons_append, List.nil_append] at e
  obtain ⟨e1, e2⟩ := List.append_inj (List.cons.inj e).2 (by rw [beL_length, beL_length])
  have hii := be4_inj hi hi' e1
  unfold cmdOk at h h'
  simp only [Bool.and_eq_true, decide_eq_true_iff] at h h'
  obtain ⟨a1, a2, a3, a4, a5⟩ := h
  obtain ⟨b1, b2, b3, b4, b5⟩ := h'
  have hnil : ∀ {s : ByteArray}, s.data.toList = [] → bytesOf s = [] := fun hs => by simp [bytesOf, hs]
  rcases (show k = 1 ∨ k = 2 ∨ k = 3 ∨ k = 4 ∨ k = 5 ∨ k = 6 ∨ k = 7 ∨ k = 8 by omega) with rfl | rfl | rfl | rfl | rfl | rfl | rfl | rfl
  all_goals simp at a2 a3 a4 a5 b2 b3 b4 b5 e2
  · have hb : bytesOf t = bytesOf t' := by simpa [a5, b5] using e2
    exact ⟨rfl, hii, bytesOf_inj hb, by rw [a3, b3], by rw [a4, b4], by rw [a5, b5]⟩
  · exact ⟨rfl, hii, bytes_ext (by simp [a2, b2]), by rw [a3, b3], by rw [a4, b4], by rw [a5, b5]⟩
  · have s1 := (ok_len3 a2)
    have s2 := (ok_len3 b2)
    have hs : t.size = t'.size := by omega
    obtain ⟨e3, e4⟩ := List.append_inj e2.2 (by rw [bytesOf_length, bytesOf_length]; exact hs)
    exact ⟨rfl, hii, bytesOf_inj e3, by rw [a3, b3], by rw [a4, b4], e4⟩
  · have n1 : bytesOf t = [] := by simp [bytesOf, a2]
    have n2 : bytesOf t' = [] := by simp [bytesOf, b2]
    rw [n1, n2, a5, b5] at e2
    exact ⟨rfl, hii, bytes_ext (by simp [a2, b2]), be8_inj hq hq' (by simpa using e2), by rw [a4, b4], by rw [a5, b5]⟩
  · have n1 : bytesOf t = [] := by simp [bytesOf, a2]
    have n2 : bytesOf t' = [] := by simp [bytesOf, b2]
    rw [n1, n2, a5, b5] at e2
    exact ⟨rfl, hii, bytes_ext (by simp [a2, b2]), be8_inj hq hq' (by simpa using e2), by rw [a4, b4], by rw [a5, b5]⟩
  · have n1 : bytesOf t = [] := by simp [bytesOf, a2]
    have n2 : bytesOf t' = [] := by simp [bytesOf, b2]
    rw [n1, n2] at e2
    obtain ⟨e3, e4⟩ := List.append_inj (by simpa using e2) (by rw [beL_length, beL_length])
    exact ⟨rfl, hii, bytes_ext (by simp [a2, b2]), be8_inj hq hq' e3, by rw [a4, b4], e4⟩
  · have n1 : bytesOf t = [] := by simp [bytesOf, a2]
    have n2 : bytesOf t' = [] := by simp [bytesOf, b2]
    rw [n1, n2, a5, b5] at e2
    exact ⟨rfl, hii, bytes_ext (by simp [a2, b2]), be8_inj hq hq' (by simpa using e2), by rw [a4, b4], by rw [a5, b5]⟩
  · have n1 : bytesOf t = [] := by simp [bytesOf, a2]
    have n2 : bytesOf t' = [] := by simp [bytesOf, b2]
    rw [n1, n2, a5, b5] at e2
    exact ⟨rfl, hii, bytes_ext (by simp [a2, b2]), by rw [a3, b3], by simpa using e2, by rw [a5, b5]⟩

theorem ev_fixed22 : Ev (fun k => louverlaw22_fixed.f k) true := by
  unfold louverlaw22_fixed.f
  have h := ev_put 2 5 ⟨#[]⟩ 0 0 [] (by decide) (by decide) (by decide) (by decide) (by decide) (by decide)
  have hok : cmdOk 2 ⟨#[]⟩ 0 0 [] = true := by decide +kernel
  rw [hok] at h
  refine Ev.bind h ?_
  have e : ((strOfNums (if true = true then putL 2 5 ⟨#[]⟩ 0 0 [] else [])).toList == ([2, 0, 0, 0, 5] : List UInt8)) = true := by decide +kernel
  rw [e]
  exact Ev.now true

/-- A command's numbers in their ranges. -/
structure CmdIn (kind id seq code : Int) (topic : ByteArray) (pay : List Int) : Prop where
  k : 0 ≤ kind ∧ kind ≤ 255
  i : 0 ≤ id ∧ id ≤ 4294967295
  q : 0 ≤ seq ∧ seq ≤ 18446744073709551615
  c : 0 ≤ code ∧ code ≤ 255
  p : Byte8 pay

theorem great_some (kind id : Int) (topic : ByteArray) (seq code : Int) (pay : List Int) : louverlaw22_great.f kind id topic seq code pay = some (decide (3000 < topic.size ∨ 9000 < pay.length)) := by
  unfold louverlaw22_great.f
  by_cases h : (topic.size : Int) > 3000
  · rw [if_pos h, decide_eq_true (show 3000 < topic.size ∨ 9000 < pay.length by omega)]
  · rw [if_neg h]
    congr 1
    rw [decide_eq_decide]
    omega

theorem commandApart_pure (k i q c k' i' q' c' : Int) (t t' : ByteArray) (p p' : List Int) (h : CmdIn k i q c t p) (h' : CmdIn k' i' q' c' t' p') :
    ∃ n, louverlaw22_CommandApart.f n k i t q c p k' i' t' q' c' p' = some true := by
  apply Ev.rounds
  have hj1 : Ev (fun n => louverlaw22_CommandApart.j0 n true k i t q c p k' i' t' q' c' p') true := by
    refine Ev.step (f := fun n => (louverlaw22_fixed.f n).bind fun t => some t) (fun n => ?_) (Ev.bind ev_fixed22 (Ev.now true))
    simp only [louverlaw22_CommandApart.j0]
    simp
  unfold louverlaw22_CommandApart.f
  simp only [great_some, Option.bind_some]
  by_cases g1 : 3000 < t.size ∨ 9000 < p.length
  · simp only [g1, decide_true, if_true]
    exact hj1
  · simp only [g1, decide_false, Bool.false_eq_true, if_false]
    by_cases g2 : 3000 < t'.size ∨ 9000 < p'.length
    · simp only [g2, decide_true, if_true]
      exact hj1
    · simp only [g2, decide_false, Bool.false_eq_true, if_false]
      refine Ev.bind (ev_refMay k i t q c p h.k.1 h.c.1 (by omega)) ?_
      cases hok : cmdOk k t q c p
      · simp only [Bool.false_eq_true, if_false]
        exact hj1
      · simp only [if_true]
        refine Ev.bind (ev_refMay k' i' t' q' c' p' h'.k.1 h'.c.1 (by omega)) ?_
        cases hok' : cmdOk k' t' q' c' p'
        · exact hj1
        · refine Ev.step (f := fun n => (command_Put.f n k i t q c p).bind fun t177 => (command_Put.f n k' i' t' q' c' p').bind fun t180 => (louverlaw22_fixed.f n).bind fun t183 => if t183 = true then ((louverref22_Same.f k i t q c p k' i' t' q' c' p').bind fun t184 => some (((strOfNums t177).toList == (strOfNums t180).toList) == t184)) else some false) (fun n => ?_) ?_
          · simp only [louverlaw22_CommandApart.j0]
            simp
          · have p1 := ev_put k i t q c p h.k.1 h.c.1 h.i.1 h.i.2 (by omega) (by omega)
            have p2 := ev_put k' i' t' q' c' p' h'.k.1 h'.c.1 h'.i.1 h'.i.2 (by omega) (by omega)
            rw [hok, if_pos rfl] at p1
            rw [hok', if_pos rfl] at p2
            refine Ev.bind p1 (Ev.bind p2 (Ev.bind ev_fixed22 ?_))
            simp only [if_true]
            have hs : louverref22_Same.f k i t q c p k' i' t' q' c' p' = some (decide (putL k i t q c p = putL k' i' t' q' c' p')) := by
              unfold louverref22_Same.f
              rw [str_inj h.p h'.p, ByteArray.toList_eq, ByteArray.toList_eq]
              by_cases e : putL k i t q c p = putL k' i' t' q' c' p'
              · obtain ⟨r1, r2, r3, r4, r5, r6⟩ := put_inj hok hok' h.i h'.i h.q h'.q e
                subst r1 r2 r3 r4 r5 r6
                simp
              · rw [decide_eq_false e]
                repeat' split
                all_goals first | rfl | skip
                rename_i e1 e2 e3 e4 e5
                congr 1
                rw [decide_eq_false_iff_not]
                intro e6
                apply e
                rw [e1, e2, bytes_ext e3, e4, e5, e6]
            rw [hs, str_inj (put_byte hok h.p) (put_byte hok' h'.p)]
            simp
            exact Ev.now true
end Go.Proofs.YtkgedjaihimafaaDoor
