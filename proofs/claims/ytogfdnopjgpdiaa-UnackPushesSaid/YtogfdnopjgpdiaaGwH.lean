/-
How much room arguments take: lists within structs, and lists. It holds for every program.
-/
import Derived.Test.YtogfdnopjgpdiaaGwA
namespace Go.Proofs.Gv
open Go.ChangeShapes Go.WideShapes Go.ChangeAt Go.RowKit
section
variable {H : Type} {ec : TypeId × Value → H} {P : Program} {w : World}
theorem list_room {e t : TypeId} {cs : List Value} {v : Value} {d : DataW H} {x : DataW H × List MemPlace} {held : Nat → Bool} {sp : Bool} {f : Nat} {tk : Tk} {zs : List Kd} {es : List (List AV)} (hu : P.underlying t = some (.slice e)) (h : DataW.trod ec P w 0 held sp f t cs = some x) (hc : cs = [v]) (hd : x.1 = d) (hV : V lawG w true (.sl tk zs es) v) (hw : ∀ n ∈ d.weights P t, n ≤ reachBytes) : es.length * P.bytesOf e ≤ reachBytes := by
  subst hd
  rcases DataW.trod_slice hu h with ⟨h1, h2⟩ | ⟨a, len, cap, elems, rest, n, _, h1, h2, _, h3, h4, h5, h6, _⟩
  · rw [hc] at h1
    injection h1 with h1
    subst h1
    cases hV with
    | slnil => simp
  · rw [hc] at h1
    injection h1 with h1
    subst h1
    have h7 := hw ((elems.length + rest.length) * P.bytesOf e) (by rw [h2]; simp [DataW.weights, hu])
    have h8 : es.length ≤ elems.length := by
      cases hV with
      | slnil => simp
      | sl => omega
    exact Nat.le_trans (Nat.mul_le_mul_right _ (by omega)) h7
/-- A list that is an argument. -/
theorem one_room {e t : TypeId} {v : Value} {d : DataW H} {tk : Tk} {zs : List Kd} {es : List (List AV)} (hu : P.underlying t = some (.slice e)) (hv : v.cells = #[v]) (h : Rd ec P w t v.cells.toList d) (hV : V lawG w true (.sl tk zs es) v) (hw : ∀ n ∈ d.weights P t, n ≤ reachBytes) : es.length * P.bytesOf e ≤ reachBytes := by
  obtain ⟨f, ps, h⟩ := h
  exact list_room hu h (by rw [hv]) rfl hV hw
/-- A list that lies in an argument. -/
theorem agg_room {t e : TypeId} {fs : Array Field} {fd : Field} {i j : Nat} {cs : Array Value} {d : DataW H} {xs : List AV} {tk : Tk} {zs : List Kd} {es : List (List AV)} (hu : P.underlying t = some (.struct fs)) (hi : fs[i]? = some fd) (hj : fd.offset = j) (hc : P.cellsOf fd.type = 1) (hue : P.underlying fd.type = some (.slice e))
    (h : Rd ec P w t (Value.agg cs).cells.toList d) (hV : V lawG w true (.agg xs) (.agg cs)) (hx : xs[j]? = some (.sl tk zs es)) (hw : ∀ n ∈ d.weights P t, n ≤ reachBytes) : es.length * P.bytesOf e ≤ reachBytes := by
  obtain ⟨f, ps, h⟩ := h
  obtain ⟨ys, n, _, h2, h3, h4, h5⟩ := DataW.trod_struct hu h
  have h6 := h5 i fd hi
  have hlt : i < ys.length := by rw [h4]; exact (Array.getElem?_eq_some_iff.1 hi).1
  rw [List.getElem?_eq_getElem hlt, hc, hj] at h6
  injection h2 with h2 _
  have hcs : (Value.agg cs).cells = cs := rfl
  rw [hcs] at h6
  cases hV with
  | agg r _ _ hl hp =>
    have hj' : j < cs.size := by rw [← hl]; exact (List.getElem?_eq_some_iff.1 hx).1
    have hv := hp j _ cs[j] hx (Array.getElem?_eq_getElem hj')
    refine list_room (d := ys[i].1) (v := cs[j]) hue h6 ?_ rfl hv fun m hm => hw m ?_
    · apply List.ext_getElem?
      intro k
      cases k with
      | zero => simp [List.getElem?_take, List.getElem?_drop, hj']
      | succ k => simp [List.getElem?_take]
    · rw [h2]
      simp only [DataW.weights, hu]
      refine DataW.weights_mem_each (t := fd.type) (j := i) (d := ys[i].1) (by rw [List.getElem?_map, Array.getElem?_toList, hi]; rfl) (by rw [List.getElem?_map, List.getElem?_eq_getElem hlt]; rfl) _ hm
/-- What one argument takes. -/
theorem each_room {ts : List TypeId} {ds : List (DataW H)} (h : (DataW.weightsEach P ts ds).all (· ≤ reachBytes) = true) {j : Nat} {t : TypeId} {d : DataW H} (ht : ts[j]? = some t) (hd : ds[j]? = some d) : ∀ n ∈ d.weights P t, n ≤ reachBytes := fun n hn => by
  simpa using List.all_eq_true.1 h _ (DataW.weights_mem_each ht hd n hn)
theorem reach_le : reachBytes ≤ 140737488355328 := by decide
end
end Go.Proofs.Gv
