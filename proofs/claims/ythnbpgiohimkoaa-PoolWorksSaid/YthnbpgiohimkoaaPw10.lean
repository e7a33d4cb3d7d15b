import Derived.Test.YthnbpgiohimkoaaPw09
import Derived.Laws.MakeOwn
import Derived.Lib.AppendStr
set_option linter.unusedVariables false
namespace Go.Proofs.Gv
open Go.RowKit
section
variable {P : Program} {w : World}
theorem frozen_none {b o : Nat} {cur : Array Value} {ty : TypeId} {fz : Nat × Nat} (h : w.heap[b]? = some (.cells cur ty fz)) (hf : FzOK fz cur.size) (ho : o < cur.size) : w.frozen? ⟨b, o, none⟩ = false := by
 simp only [World.frozen?, h]
 rcases hf with rfl | hf
 ·simp
 ·simp; omega
theorem run_storeFz (g o : Nat) (t : TypeId) (fz : Nat × Nat) : ∀ (vs : List Value) (i : Nat) (cur : Array Value) (w : World), w.heap[g]? = some (.cells cur t fz) → FzOK fz cur.size → o + i + vs.length ≤ cur.size → (∀ v ∈ vs, v.oneCell' = true) →
  (storeCells ⟨g, o, none⟩ vs i).run P w = .ok () (w.setRow g (cur.toList.take (o + i) ++ vs ++ cur.toList.drop (o + i + vs.length)).toArray)
 | [], i, cur, w, hg, _, _, _ => by
   simp only [storeCells, List.append_nil, List.length_nil, Nat.add_zero, List.take_append_drop, Array.toArray_toList]
   rw [setRow_self w g cur t fz hg]
   rfl
 | v :: rest, i, cur, w, hg, hz, hl, h1 => by
   have hi : o + i < cur.size := by simp at hl; omega
   have hadd : (⟨g, o, none⟩ : Addr).add i = ⟨g, o + i, none⟩ := by unfold Addr.add; split <;> simp_all
   have hcell : w.cell? ⟨g, o + i, none⟩ = some cur[o + i] := by simp [World.cell?, hg, hi]
   have hfro : w.frozen? ⟨g, o + i, none⟩ = false := frozen_none hg hz hi
   have hst : (store ((⟨g, o, none⟩ : Addr).add i) v).run P w = .ok () (w.setRow g (cur.setIfInBounds (o + i) v)) := by
    rw [hadd, run_store P w _ v _ (h1 v (by simp)), hcell]
    simp [hfro, setCell_eq_setRow w g (o + i) cur t fz v hg]
   have ih := run_storeFz g o t fz rest (i + 1) (cur.setIfInBounds (o + i) v) (w.setRow g (cur.setIfInBounds (o + i) v)) (setRow_heap w g cur _ t _ hg) (by simpa using hz) (by simp at hl ⊢; omega) (fun x hx => h1 x (by simp [hx]))
   simp only [storeCells, Sem.run_bind, hst, Result.andThen_ok, ih, setRow_setRow]
   congr 3
   have e := list_seg_step cur.toList (o + i) v rest (by simp at hl ⊢; omega)
   simpa [Array.toList_setIfInBounds, Nat.add_assoc] using e
theorem run_storeAt {g o : Nat} {vs : List Value} {cur : Array Value} (hg : BlkAt w g cur) (hl : o + vs.length ≤ cur.size) (h1 : ∀ v ∈ vs, v.oneCell' = true) :
  (storeCells ⟨g, o, none⟩ vs).run P w = .ok () (w.setRow g (cur.toList.take o ++ vs ++ cur.toList.drop (o + vs.length)).toArray) := by
 obtain ⟨ty, fz, h, hz⟩ := hg
 have := run_storeFz (P := P) g o ty fz vs 0 cur w h hz (by simpa using hl) h1
 simpa using this
theorem BlkAt.set {g : Nat} {cur vs' : Array Value} (hg : BlkAt w g cur) (h : vs'.size = cur.size) : BlkAt (w.setRow g vs') g vs' := by
 obtain ⟨ty, fz, h1, hz⟩ := hg
 exact ⟨ty, fz, setRow_heap w g cur vs' ty fz h1, by rw [h]; exact hz⟩
structure Src (P : Program) (u : TypeId) (sz : Nat) (src : Value) (n : Nat) (news : List Value) (w : World) : Prop where
 ty : (∃ e, P.underlying u = some (.slice e)) ∨ P.underlying u = some .string
 len : ∀ w', (Builtin.lenOf src).run P w' = .ok n w'
 cells : ∀ w' : World, w'.heap = w.heap → (Builtin.firstCells sz n src).run P w' = .ok news.toArray w'
 size : news.length = n * sz
theorem app_room {t u ty e : TypeId} {i : TypeInfo} (ht : P.underlying t = some (.slice e)) (hi : P.info? e = some i) {src : Value} {n : Nat} {news : List Value} (hs : Src P u i.size src n news w)
  {g off sLen sCap : Nat} {cur : Array Value} (hg : BlkAt w g cur) (h1 : ∀ v ∈ news, v.oneCell' = true) (hroom : sLen + n ≤ sCap) (hfit : off + sLen * i.size + news.length ≤ cur.size) :
  (Builtin.append_ #[t, u] ty #[.slice (some ⟨g, off, none⟩) sLen sCap, src]).run P w =
    .ok (.slice (some ⟨g, off, none⟩) (sLen + n) sCap) (w.setRow g (cur.toList.take (off + sLen * i.size) ++ news ++ cur.toList.drop (off + sLen * i.size + news.length)).toArray) := by
 have hf := hs.cells w rfl
 have hl := hs.len w
 have hst := run_storeAt (P := P) (o := off + sLen * i.size) hg hfit h1
 rcases hs.ty with ⟨e', hu⟩ | hu <;> simp [Builtin.append_, run_underlying ht, run_underlying hu, sizeOf, typeInfo, hi, hl, hroom, hf, addr_add, hst]
theorem app_grow {t u ty e : TypeId} {i : TypeInfo} {z : Value} (ht : P.underlying t = some (.slice e)) (hi : P.info? e = some i) (hz : i.zero = some z) {src : Value} {n : Nat} {news : List Value} (hs : Src P u i.size src n news w)
  {b : Addr} {sLen sCap : Nat} {olds : List Value} (hlo : olds.length = sLen * i.size) (holds : ∀ j v, olds[j]? = some v → w.cell? (b.add j) = some v)
  (hg : sCap < sLen + n) (h63 : ((sLen + n : Nat) : Int) ≤ 9223372036854775807) (hfit : Builtin.nextslicecap (sLen + n) sCap * i.bytes ≤ 281474976710656) :
  (Builtin.append_ #[t, u] ty #[.slice (some b) sLen sCap, src]).run P w =
    .ok (.slice (some ⟨w.heap.size, 0, none⟩) (sLen + n) (grownCap w (sLen + n) sCap e))
     (w.drew.alloc (.cells (olds.toArray ++ news.toArray ++ Builtin.zeroCells z.cells (grownCap w (sLen + n) sCap e - (sLen + n))) e)) := by
 have hn : ¬ (sLen + n ≤ sCap) := by omega
 have h63' : ¬ (9223372036854775807 < ((sLen : Int) + (n : Int))) := by omega
 have h48' : ¬ (281474976710656 < Builtin.nextslicecap (sLen + n) sCap * i.bytes) := by omega
 have hf := hs.cells w.drew rfl
 have hl := hs.len w
 have hfo := run_firstCells_some (P := P) w.drew i.size sLen b sLen sCap olds hlo (by simpa using holds)
 rcases hs.ty with ⟨e', hu⟩ | hu <;> simp [Builtin.append_, run_underlying ht, run_underlying hu, sizeOf, typeInfo, zeroValue, hi, hz, hl, hn, h63', h48', Question.forced, hf, hfo, Go.newRow, grownCap]
 all_goals
  congr 2
  apply Array.ext'
  simp [List.append_assoc]
theorem app_zero {t u ty e : TypeId} {i : TypeInfo} {z : Value} (ht : P.underlying t = some (.slice e)) (hi : P.info? e = some i) (hz : i.zero = some z) {src : Value} {n : Nat} {news : List Value} (hs : Src P u i.size src n news w)
  {A : Option Addr} (h0 : 0 < n) (h63 : (n : Int) ≤ 9223372036854775807) (h48 : n * i.bytes ≤ 281474976710656) :
  (Builtin.append_ #[t, u] ty #[.slice A 0 0, src]).run P w =
    .ok (.slice (some ⟨w.heap.size, 0, none⟩) n (grownCap w n 0 e)) (w.drew.alloc (.cells (news.toArray ++ Builtin.zeroCells z.cells (grownCap w n 0 e - n)) e)) := by
 have hn : n ≠ 0 := by omega
 have h63' : ¬ (9223372036854775807 < (n : Int)) := by omega
 have h48' : ¬ (281474976710656 < Builtin.nextslicecap n 0 * i.bytes) := by rw [nextslicecap_zero h0]; omega
 have hf := hs.cells w.drew rfl
 have hl := hs.len w
 cases A with
 | none => rcases hs.ty with ⟨e', hu⟩ | hu <;> simp [Builtin.append_, run_underlying ht, run_underlying hu, sizeOf, typeInfo, zeroValue, hi, hz, hl, hn, h63', h48', Question.forced, hf, Go.newRow, grownCap, run_firstCells_none]
 | some b =>
   have hfo := run_firstCells_some (P := P) w.drew i.size 0 b 0 0 [] (by simp) (by simp)
   rcases hs.ty with ⟨e', hu⟩ | hu <;> simp [Builtin.append_, run_underlying ht, run_underlying hu, sizeOf, typeInfo, zeroValue, hi, hz, hl, hn, h63', h48', Question.forced, hf, Go.newRow, grownCap, hfo]
theorem app_none {t u ty e : TypeId} {i : TypeInfo} (ht : P.underlying t = some (.slice e)) (hi : P.info? e = some i) {src : Value} {news : List Value} (hs : Src P u i.size src 0 news w) {A : Option Addr} {n c : Nat} (hnc : n ≤ c) :
  (Builtin.append_ #[t, u] ty #[.slice A n c, src]).run P w = .ok (.slice A n c) w := by
 have hf := hs.cells w rfl
 have hl := hs.len w
 have hnews : news = [] := List.eq_nil_of_length_eq_zero (by have := hs.size; omega)
 subst hnews
 cases A <;> rcases hs.ty with ⟨e', hu⟩ | hu <;> simp [Builtin.append_, run_underlying ht, run_underlying hu, sizeOf, typeInfo, hi, hl, hnc, hf, storeCells]
end
end Go.Proofs.Gv
