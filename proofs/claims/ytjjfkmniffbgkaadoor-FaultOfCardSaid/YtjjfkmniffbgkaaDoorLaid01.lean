/- From the row's list to what the walks ask of the world. -/
import Derived.Test.YtjjfkmniffbgkaaDoorFault01
import Derived.Test.YtjjfkmniffbgkaaDoorLaid
import Derived.LaidMore
import Derived.WideLaws
import Derived.OpenShut
import Derived.ChangeArms
namespace Go.Proofs.YtjjfkmniffbgkaaDoor
set_option linter.unusedVariables false
set_option linter.unusedSimpArgs false
open Go.RowKit Go.ChangeShapes Go.WideShapes
theorem handle_of {W : World} {l : List (String × DataW Unit)} (h : handlesMet Tryd.prog l W) (hm : ("errors.errorType", Rows.laid_errors_errorType) ∈ l) : GV W :=
  gv_of_laid ⟨laidMet_nil _ _, fun x hx => by rw [List.mem_singleton.1 hx]; exact h _ hm⟩
set_option maxRecDepth 100000 in
theorem wfact_of_laid {W : World} (h : laidMetH Tryd.prog [("math/bits.deBruijn32tab", Rows.laid_math_bits_deBruijn32tab), ("math/bits.deBruijn64tab", Rows.laid_math_bits_deBruijn64tab), ("internal/strconv.uint64pow10", Rows.laid_internal_strconv_uint64pow10), ("errors.errorType", Rows.laid_errors_errorType), ("louver/fault.names", Rows.laid_louver_fault_names)] W) : WFact W := by
  have h' : laidMet Tryd.prog [("math/bits.deBruijn32tab", Rows.laid_math_bits_deBruijn32tab), ("math/bits.deBruijn64tab", Rows.laid_math_bits_deBruijn64tab), ("internal/strconv.uint64pow10", Rows.laid_internal_strconv_uint64pow10), ("louver/fault.names", Rows.laid_louver_fault_names)] W ∧ handlesMet Tryd.prog [("errors.errorType", Rows.laid_errors_errorType)] W := h
  refine ⟨handle_of h'.2 (List.mem_singleton.2 rfl), ?_⟩
  obtain ⟨ps, ⟨g0, t0, cs0, f0, p0, q0, hg0, ht0, hv0, hd0, ⟨g1, t1, cs1, f1, p1, q1, hg1, ht1, hv1, hd1, ⟨g2, t2, cs2, f2, p2, q2, hg2, ht2, hv2, hd2, ⟨g3, t3, cs3, f3, p3, q3, hg3, ht3, hv3, hd3, _, _⟩, _⟩, _⟩, _⟩, _, _⟩ := h'.1
  have gN : Tryd.prog.globalNamed "louver/fault.names" = some 0 := by kernel_rfl
  have tN : (Tryd.prog.globals[0]?).map (·.type) = some 107 := by kernel_rfl
  obtain rfl := Option.some.inj (gN.symm.trans hg3)
  obtain rfl := Option.some.inj (tN.symm.trans ht3)
  obtain ⟨xs, m1, rfl, hx1, hlen, hn3, hel⟩ := DataW.trod_array Tryd.underlying107 hd3
  have c9 : Tryd.prog.cellsOf 9 = 1 := by kernel_rfl
  have h6 := hel 6 (by decide)
  simp only [Prod.mk.injEq, DataW.agg.injEq] at hx1
  have hx6 : (xs.map (·.1))[6]? = some (.lit (.string [70, 82, 65, 77, 69, 95, 83, 73, 90, 69, 95, 69, 82, 82, 79, 82])) := by
    have ha := hx1.1
    unfold Rows.laid_louver_fault_names at ha
    injection ha with ha
    rw [← ha]
    rfl
  have hxl : 6 < xs.length := by omega
  rw [List.getElem?_eq_getElem hxl] at h6
  obtain ⟨s, e1, e2, -⟩ := DataW.trod_string Tryd.underlying9 h6
  rw [List.getElem?_map, List.getElem?_eq_getElem hxl, e2] at hx6
  have hs : s.data.toList = [70, 82, 65, 77, 69, 95, 83, 73, 90, 69, 95, 69, 82, 82, 79, 82] := by simpa using hx6
  have hs' : s = ⟨#[70, 82, 65, 77, 69, 95, 83, 73, 90, 69, 95, 69, 82, 82, 79, 82]⟩ := by
    cases s
    simp only [ByteArray.mk.injEq]
    apply Array.toList_inj.1
    simpa using hs
  subst hs'
  have hc := World.var?_cell hg3 hv3 6
  rw [c9] at e1
  have e3 : cs3[6]? = some (.string ⟨#[70, 82, 65, 77, 69, 95, 83, 73, 90, 69, 95, 69, 82, 82, 79, 82]⟩) := by
    have e4 := congrArg (fun l : List Value => l[0]?) e1
    simp only [List.getElem?_take, List.getElem?_drop] at e4
    simpa using e4
  rw [hc]
  exact e3
end Go.Proofs.YtjjfkmniffbgkaaDoor
