/-
How much room a text takes that lies in an argument. It holds for every program.
-/
import Derived.Test.YtndephedgodneaaGwH
namespace Go.Proofs.Gv
open Go.ChangeShapes Go.WideShapes Go.ChangeAt Go.RowKit
section
variable {H : Type} {ec : TypeId × Value → H} {P : Program} {w : World}
theorem agg_roomS {t : TypeId} {fs : Array Field} {fd : Field} {i j : Nat} {cs : Array Value} {d : DataW H} {xs : List AV} {l : List UInt8} (hu : P.underlying t = some (.struct fs)) (hi : fs[i]? = some fd) (hj : fd.offset = j) (hc : P.cellsOf fd.type = 1) (hus : P.underlying fd.type = some .string)
    (h : Rd ec P w t (Value.agg cs).cells.toList d) (hV : V lawG w true (.agg xs) (.agg cs)) (hx : xs[j]? = some (.str l)) (hw : ∀ n ∈ d.weights P t, n ≤ reachBytes) : l.length ≤ reachBytes := by
  obtain ⟨f, ps, h⟩ := h
  obtain ⟨ys, n, _, h2, h3, h4, h5⟩ := DataW.trod_struct hu h
  have h6 := h5 i fd hi
  have hlt : i < ys.length := by rw [h4]; exact (Array.getElem?_eq_some_iff.1 hi).1
  rw [List.getElem?_eq_getElem hlt, hc, hj] at h6
  injection h2 with h2 _
  have hcs : (Value.agg cs).cells = cs := rfl
  rw [hcs] at h6
  cases hV with
  | agg r _ _ hl hp =>
    have hj' : j < cs.size := by rw [← hl]; exact (List.getElem?_eq_some_iff.1 hx).1
    have hv := hp j _ cs[j] hx (Array.getElem?_eq_getElem hj')
    have hcell : (cs.toList.drop j).take 1 = [cs[j]] := by
      apply List.ext_getElem?
      intro k
      cases k with
      | zero => simp [List.getElem?_take, List.getElem?_drop, hj']
      | succ k => simp [List.getElem?_take]
    obtain ⟨s, h7, h8, _⟩ := DataW.trod_string hus h6
    rw [hcell] at h7
    injection h7 with h7
    rw [h7] at hv
    have hl : l = s.data.toList := by
      cases hv with
      | str => rfl
    have hy : ys[i].1 = .lit (.string s.data.toList) := by rw [h8]
    refine hw l.length ?_
    rw [h2]
    simp only [DataW.weights, hu]
    refine DataW.weights_mem_each (t := fd.type) (j := i) (d := ys[i].1) (by rw [List.getElem?_map, Array.getElem?_toList, hi]; rfl) (by rw [List.getElem?_map, List.getElem?_eq_getElem hlt]; rfl) _ ?_
    rw [hy, hl]
    simp [DataW.weights]
end
end Go.Proofs.Gv
