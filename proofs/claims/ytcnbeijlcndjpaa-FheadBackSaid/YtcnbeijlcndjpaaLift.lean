/-
How the arguments of a statement read: what a reading tells of the cells. It holds for every program.
-/
import Derived.Test.YtcnbeijlcndjpaaK
import Derived.Test.YtcnbeijlcndjpaaRows
import Derived.ProofKit
import Derived.OpenShut
import Derived.ShutString
import Derived.ChangeOld
import Derived.Below
import Derived.SizedLaws
namespace Go.Proofs.Ytcnbeijlcndjpaa
open Go.ChangeShapes Go.WideShapes Go.ChangeAt Go.RowKit

section
variable {H : Type} (ec : TypeId × Value → H) (P : Program) (w : World)
/-- The cells cs, of type t, read as the datum d. -/
def Rd (t : TypeId) (cs : List Value) (d : DataW H) : Prop := ∃ fuel ps, DataW.trod ec P w 0 (fun _ => true) true fuel t cs = some (d, ps)
/-- The fields of a struct: their types, where they begin, how many cells they have. -/
def layout (t : TypeId) : Option (List (TypeId × Nat × Nat)) :=
  match P.underlying t with
  | some (.struct fs) => some (fs.toList.map fun f => (f.type, f.offset, P.cellsOf f.type))
  | _ => none
variable {ec P w} {t : TypeId} {cs : List Value} {d : DataW H}
theorem Rd.int {k : IntKind} (hu : P.underlying t = some (.int k)) (h : Rd ec P w t cs d) : ∃ n, cs = [.int k n] ∧ (Lit.int k n).wf = true := by
  obtain ⟨f, ps, h⟩ := h
  obtain ⟨n, h1, _, h3⟩ := DataW.trod_int hu h
  exact ⟨n, h1, h3⟩
theorem Rd.bool (hu : P.underlying t = some .bool) (h : Rd ec P w t cs d) : ∃ b, cs = [.bool b] := by
  obtain ⟨f, ps, h⟩ := h
  obtain ⟨n, h1, _⟩ := DataW.trod_bool hu h
  exact ⟨n, h1⟩
theorem Rd.string (hu : P.underlying t = some .string) (h : Rd ec P w t cs d) : ∃ s : ByteArray, cs = [.string s] ∧ s.size ≤ maxLen ∧ d = .lit (.string s.data.toList) := by
  obtain ⟨f, ps, h⟩ := h
  obtain ⟨s, h1, h2, h3⟩ := DataW.trod_string hu h
  injection h2 with h2 _
  exact ⟨s, h1, h3, h2⟩
theorem Rd.fields {L : List (TypeId × Nat × Nat)} (hL : layout P t = some L) (h : Rd ec P w t cs d) :
    cs.length = P.cellsOf t ∧ ∀ x ∈ L, ∃ d', Rd ec P w x.1 ((cs.drop x.2.1).take x.2.2) d' := by
  obtain ⟨f, ps, h⟩ := h
  unfold layout at hL
  split at hL
  · rename_i fs hfs
    injection hL with hL
    subst hL
    obtain ⟨xs, n, _, _, h3, h4, h5⟩ := DataW.trod_struct hfs h
    refine ⟨h3, fun x hx => ?_⟩
    obtain ⟨fd, hfd, rfl⟩ := List.mem_map.1 hx
    obtain ⟨i, hi⟩ := List.getElem?_of_mem hfd
    have hi' : fs[i]? = some fd := by simpa using hi
    have h6 := h5 i fd hi'
    have hlt : i < xs.length := by rw [h4]; exact (Array.getElem?_eq_some_iff.1 hi').1
    rw [List.getElem?_eq_getElem hlt] at h6
    exact ⟨_, n, _, h6⟩
  · cases hL
theorem Rd.slice {e : TypeId} (hu : P.underlying t = some (.slice e)) (h : Rd ec P w t cs d) :
    cs = [.slice none 0 0] ∨ ∃ (a : Addr) (len cap : Nat) (elems spare : List (DataW H)), cs = [.slice (some a) len cap] ∧ d = .slice elems spare ∧ elems.length = len ∧ len ≤ cap ∧ cap ≤ maxLen ∧
      ∀ i, i < len → ∃ cs' d', w.cells? 0 (a.add (i * P.cellsOf e)) (P.cellsOf e) = some cs' ∧ Rd ec P w e cs' d' := by
  obtain ⟨f, ps, h⟩ := h
  rcases DataW.trod_slice hu h with ⟨h1, _⟩ | ⟨a, len, cap, elems, rest, n, _, h1, h2, _, h3, h4, h5, h6, _⟩
  · exact .inl h1
  · injection h2 with h2 _
    refine .inr ⟨a, len, cap, _, _, h1, h2, by simpa using h5, h3, h4, fun i hi => ?_⟩
    have h7 := h6 i hi
    rw [List.getElem?_eq_getElem (by omega)] at h7
    cases hc : w.cells? 0 (a.add (i * P.cellsOf e)) (P.cellsOf e) with
    | none => rw [hc] at h7; simp at h7
    | some cs' => rw [hc] at h7; exact ⟨cs', _, rfl, n, _, h7⟩

theorem list_of {α : Type} (n : Nat) (p : Nat → α → Prop) (h : ∀ i, i < n → ∃ x, p i x) : ∃ l : List α, l.length = n ∧ ∀ i x, l[i]? = some x → p i x := by
  induction n with
  | zero => exact ⟨[], rfl, fun i x h => by simp at h⟩
  | succ n ih =>
    obtain ⟨l, h1, h2⟩ := ih (fun i hi => h i (by omega))
    obtain ⟨x, hx⟩ := h n (by omega)
    refine ⟨l ++ [x], by simp [h1], fun i y hy => ?_⟩
    by_cases hi : i < n
    · rw [List.getElem?_append_left (by omega)] at hy
      exact h2 i y hy
    · rw [List.getElem?_append_right (by omega)] at hy
      have : i - l.length = 0 := by
        have := (List.getElem?_eq_some_iff.1 hy).1
        simp at this
        omega
      rw [this] at hy
      simp at hy
      subst hy
      have : i = n := by omega
      subst this
      exact hx

/-- A slice reads as a list. -/
theorem Rd.sl {α : Type} {enc : α → List Value} {sz : Nat} {ok : α → Prop} {e : TypeId} (hu : P.underlying t = some (.slice e)) (hsz : P.cellsOf e = sz) (hpos : 0 < sz) (henc : ∀ x : α, (enc x).length = sz)
    (hel : ∀ cs' d', Rd ec P w e cs' d' → ∃ x, cs' = enc x ∧ ok x) (h : Rd ec P w t cs d) :
    ∃ A n c l, cs = [.slice A n c] ∧ n ≤ c ∧ c ≤ maxLen ∧ Sl enc sz w A n l ∧ (∀ x ∈ l, ok x) ∧ (n = 0 ∨ ∃ elems spare, d = .slice elems spare ∧ elems.length = n) := by
  rcases Rd.slice hu h with h1 | ⟨a, len, cap, elems, spare, h1, hd, hdl, h2, h3, h4⟩
  · exact ⟨none, 0, 0, [], h1, Nat.le_refl _, by simp [maxLen], Sl.nil, (by simp), .inl rfl⟩
  · rw [hsz] at h4
    obtain ⟨l, hl, hp⟩ := list_of len (fun i x => (∀ j u, (enc x)[j]? = some u → w.cell? ((a.add (i * sz)).add j) = some u) ∧ ok x) (fun i hi => by
      obtain ⟨cs', d', hc, hr⟩ := h4 i hi
      obtain ⟨x, rfl, hx⟩ := hel cs' d' hr
      refine ⟨x, fun j u hj => ?_, hx⟩
      have := (World.cells?_some hc).2.2 j (by rw [← henc x]; exact (List.getElem?_eq_some_iff.1 hj).1)
      rw [this, hj])
    refine ⟨some a, len, cap, l, h1, h2, h3, ⟨hl, fun hn => ?_⟩, fun x hx => ?_, .inr ⟨elems, spare, hd, hdl⟩⟩
    · have h0 : 0 < l.length := by omega
      have hq := (hp 0 l[0] (List.getElem?_eq_getElem h0)).1 0 ((enc l[0])[0]'(by rw [henc]; exact hpos)) (List.getElem?_eq_getElem _)
      have ha : ((a.add (0 * sz)).add 0) = a := by simp [Addr.add]
      rw [ha] at hq
      have hsp : a.spot = none := by
        unfold World.cell? at hq
        split at hq
        · cases hs : a.spot with
          | none => rfl
          | some _ => rw [hs] at hq; simp at hq
        · cases hq
      obtain ⟨b, o, s⟩ := a
      simp at hsp
      subst hsp
      refine ⟨b, o, rfl, World.block_lt_of_cell? w _ hq, fun i x hx j u hu => ?_⟩
      have := (hp i x hx).1 j u hu
      rw [add_plain, add_plain] at this
      exact this
    · obtain ⟨i, hi⟩ := List.getElem?_of_mem hx
      exact (hp i x hi).2
end
end Go.Proofs.Ytcnbeijlcndjpaa
