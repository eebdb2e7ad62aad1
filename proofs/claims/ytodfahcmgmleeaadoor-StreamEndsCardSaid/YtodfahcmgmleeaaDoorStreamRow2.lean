/- A row of operations that came in, opened to its cells. -/
import Derived.Test.YtodfahcmgmleeaaDoorStreamEnds
import Derived.Test.YtodfahcmgmleeaaDoorLaid
import Derived.Deep.Slices
import Derived.ChangeArms
import Derived.ChangeSame
import Derived.Deep.Strs
namespace Go.Proofs.YtodfahcmgmleeaaDoor
open Go.RowKit Go.ChangeShapes Go.WideShapes Go.Deep
theorem add_field' (ad : Addr) (m j : Nat) : ad.add (m + j) = (ad.add m).add j := (add_add _ _ _).symm
set_option maxRecDepth 100000 in
theorem open_ops {H : Type} {enc : TypeId × Value → H} {W : World} {b0 : Nat} {v : Value} {d : DataW H} {p : List MemPlace} (hv : Value.okWide Tryd.prog W .any b0 52 v)
    (h : DataW.Trod enc Tryd.prog W 0 (fun _ => true) true 52 v d p) : ∃ A n cap, v = .slice A n cap ∧ n ≤ 9223372036854775807 ∧ OpsRead W A n := by
  obtain ⟨A, n, cap, rfl⟩ := okWide_slice Tryd.underlying52 hv
  refine ⟨A, n, cap, rfl, ?_⟩
  obtain ⟨fuel, hf⟩ := h
  rcases open_slice Tryd.underlying52 hf with ⟨hcs, _⟩ | ⟨a, len, cap', m, k, D, Pl, hcs, hb, hl, hm, hmm, hx, hi⟩
  · simp [Value.cells] at hcs
    obtain ⟨rfl, rfl, rfl⟩ := hcs
    exact ⟨by omega, fun i hi => absurd hi (by omega)⟩
  · simp [Value.cells] at hcs
    obtain ⟨rfl, rfl, rfl⟩ := hcs
    unfold maxLen at hm
    refine ⟨by omega, fun i hin => ?_⟩
    obtain ⟨cs', hc, ht⟩ := hi i (by simp at hmm; omega)
    have hC : Tryd.prog.cellsOf 54 = 3 := by kernel_rfl
    rw [hC] at hc
    obtain ⟨_, hcl, hat⟩ := World.cells?_some hc
    obtain ⟨y0, y1, y2, q, hy, hlen, h0, h1, h2⟩ := trod_struct3 Tryd.underlying54 ht
    match cs', hcl with
    | [c0, c1, c2], _ =>
      have e1 : Tryd.prog.cellsOf 4 = 1 := by kernel_rfl
      have e2 : Tryd.prog.cellsOf 5 = 1 := by kernel_rfl
      simp [e1, e2] at h0 h1 h2
      obtain ⟨s, hs, _⟩ := DataW.trod_bool Tryd.underlying4 h0
      obtain ⟨kd, hk, _, hwf⟩ := DataW.trod_int Tryd.underlying5 h1
      obtain ⟨e, he, _⟩ := DataW.trod_bool Tryd.underlying4 h2
      have z0 := hat 0 (by decide)
      have z1 := hat 1 (by decide)
      have z2 := hat 2 (by decide)
      simp at hs hk he z0 z1 z2
      subst hs hk he
      refine ⟨a, s, kd, e, rfl, u8_ge hwf, ?_, ?_, ?_⟩
      · simpa [Addr.add] using z0
      · rw [add_field' _ _ _]; exact z1
      · rw [add_field' _ _ _]; exact z2
end Go.Proofs.YtodfahcmgmleeaaDoor
