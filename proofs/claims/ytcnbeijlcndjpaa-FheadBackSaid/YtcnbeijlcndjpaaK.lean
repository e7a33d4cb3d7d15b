/-
Words and laws used by all walks of this seat: slices that read as lists, rows that the call owns, and append onto them.
It holds for every program.
-/
import Derived.Test.YtcnbeijlcndjpaaChecked
import Derived.WalkKit
import Derived.WalkLawsBesides
import Derived.WalkSpells
import Derived.Deep.QuietTactic
import Derived.BigQuiet
import Derived.Deep.RegionHeld3
import Derived.Deep.DeepCutAuto
import Derived.Deep.AppendLies
import Derived.Deep.Draws
import Derived.Lib.Hide
import Derived.StillTailTactics
namespace Go.Proofs.Ytcnbeijlcndjpaa
open Go.RowKit

theorem bcell {W w1 : World} (hb : Below W.heap.size W w1) : (∀ b o, b < W.heap.size → w1.cell? ⟨b, o, none⟩ = W.cell? ⟨b, o, none⟩) ∧ (∀ b o, b < W.heap.size → w1.frozen? ⟨b, o, none⟩ = W.frozen? ⟨b, o, none⟩) :=
  ⟨fun b o h => hb.cell (p := ⟨b, o, none⟩) h, fun b o h => hb.frozen (p := ⟨b, o, none⟩) h⟩

theorem bstep {w W w' : World} (hb : Below W.heap.size W w') (h : Below w.heap.size w W) : Below w.heap.size w w' := h.trans (hb.mono h.size)
theorem bstep_at {B : Nat} {w W w' : World} (hb : Below W.heap.size W w') (h : Below B w W) (hB : B ≤ W.heap.size) : Below B w w' := h.trans (hb.mono hB)
theorem below_drewN {B : Nat} {a w : World} (h : Below B a w) (n : Nat) : Below B a (w.drewN n) := ⟨h.os, h.tape, h.output, h.size, h.block⟩

/-- A variable that lies in memory: block g holds the cells cs. -/
def Box (w : World) (g : Nat) (cs : Array Value) : Prop := g < w.heap.size ∧ ∀ o, w.cell? ⟨g, o, none⟩ = cs[o]?
theorem Box.new (w : World) (cs : Array Value) (t : TypeId) : Box (w.alloc (.cells cs t)) w.heap.size cs :=
  ⟨by simp, fun o => cell_of_row _ _ o cs t (0, 0) (heap_alloc_new w _)⟩
theorem Box.below {w w1 : World} {g : Nat} {cs : Array Value} (h : Box w g cs) (hb : Below w.heap.size w w1) : Box w1 g cs :=
  ⟨Nat.lt_of_lt_of_le h.1 hb.size, fun o => (hb.cell (p := ⟨g, o, none⟩) h.1).trans (h.2 o)⟩

theorem Box.far {w : World} {g : Nat} {cs : Array Value} (h : Box w g cs) {p : Addr} (hp : g ≠ p.block) (u : Value) : Box (w.setCell p u) g cs :=
  ⟨by simpa using h.1, fun o => (World.cell?_of_block (w := w) (a := ⟨g, o, none⟩) (Below.heap_setCell w p u g hp)).trans (h.2 o)⟩

section
variable {α : Type} (enc : α → List Value) (sz : Nat)

/-- The slice value '.slice A n c' reads as the list l. -/
def Sl (w : World) (A : Option Addr) (n : Nat) (l : List α) : Prop :=
  l.length = n ∧ (0 < n → ∃ b o, A = some ⟨b, o, none⟩ ∧ b < w.heap.size ∧ ∀ i x, l[i]? = some x → ∀ j u, (enc x)[j]? = some u → w.cell? ⟨b, o + i * sz + j, none⟩ = some u)

variable {enc sz}
theorem Sl.nil {w : World} {A : Option Addr} : Sl enc sz w A 0 [] := ⟨rfl, fun h => absurd h (by omega)⟩
theorem Sl.at_ {w : World} {A : Option Addr} {n : Nat} {l : List α} (h : Sl enc sz w A n l) {k : Nat} (hk : k < n) :
    ∃ b o, A = some ⟨b, o, none⟩ ∧ b < w.heap.size ∧ ∀ i x, l[i]? = some x → ∀ j u, (enc x)[j]? = some u → w.cell? ⟨b, o + i * sz + j, none⟩ = some u := h.2 (by omega)
theorem Sl.keep {w w' : World} {A : Option Addr} {n : Nat} {l : List α} (h : Sl enc sz w A n l) (hs : w.heap.size ≤ w'.heap.size)
    (hk : ∀ b o, b < w.heap.size → w'.cell? ⟨b, o, none⟩ = w.cell? ⟨b, o, none⟩) : Sl enc sz w' A n l :=
  ⟨h.1, fun hn => by
    obtain ⟨b, o, e, hb, hc⟩ := h.2 hn
    exact ⟨b, o, e, by omega, fun i x hx j u hu => (hk _ _ hb).trans (hc i x hx j u hu)⟩⟩
theorem Sl.below {w w' : World} {A : Option Addr} {n : Nat} {l : List α} (h : Sl enc sz w A n l) (hb : Below w.heap.size w w') : Sl enc sz w' A n l :=
  h.keep hb.size fun b o hlt => hb.cell (p := ⟨b, o, none⟩) hlt

theorem Sl.sub {w : World} {b o n : Nat} {l : List α} (h : Sl enc sz w (some ⟨b, o, none⟩) n l) (i m : Nat) (him : i + m ≤ n) : Sl enc sz w (some ⟨b, o + i * sz, none⟩) m ((l.drop i).take m) := by
  have hl := h.1
  refine ⟨by simp; omega, fun hm => ?_⟩
  obtain ⟨b', o', e, hb, hc⟩ := h.2 (by omega)
  injection e with e
  injection e with e1 e2 _
  subst e1 e2
  refine ⟨b, o + i * sz, rfl, hb, fun k x hx j u hu => ?_⟩
  rw [List.getElem?_take] at hx
  split at hx
  · rw [List.getElem?_drop] at hx
    have := hc (i + k) x hx j u hu
    rw [Nat.add_mul] at this
    rw [Nat.add_assoc o]
    exact this
  · cases hx

/-- A row that the call owns, from block 'base' on, holds the list l. -/
def Own (enc : α → List Value) (sz base : Nat) (e : TypeId) (w : World) (v : Value) (n : Nat) (l : List α) : Prop :=
  l.length = n ∧ w.ownsRow base e sz v n (l.flatMap enc)

theorem flatMap_len (henc : ∀ x : α, (enc x).length = sz) (l : List α) : (l.flatMap enc).length = l.length * sz := by
  induction l with
  | nil => simp
  | cons x l ih => simp [List.flatMap_cons, henc, ih, Nat.add_mul]; omega

theorem flatMap_at (henc : ∀ x : α, (enc x).length = sz) : ∀ (l : List α) (i : Nat) (x : α), l[i]? = some x → ∀ j u, (enc x)[j]? = some u → (l.flatMap enc)[i * sz + j]? = some u := by
  intro l
  induction l with
  | nil => intro i x h; simp at h
  | cons y l ih =>
    intro i x h j u hu
    rw [List.flatMap_cons]
    cases i with
    | zero =>
      simp at h
      subst h
      have hj : j < (enc y).length := (List.getElem?_eq_some_iff.1 hu).1
      rw [Nat.zero_mul, Nat.zero_add, List.getElem?_append_left hj]
      exact hu
    | succ i =>
      simp at h
      have := ih i x h j u hu
      rw [List.getElem?_append_right (by rw [henc, Nat.add_mul]; omega), henc]
      rw [show (i + 1) * sz + j - sz = i * sz + j from by rw [Nat.add_mul]; omega]
      exact this

theorem Own.nil (w : World) (base : Nat) (e : TypeId) : Own enc sz base e w (.slice none 0 0) 0 [] := ⟨rfl, World.ownsRow_nil w base e sz⟩
theorem Own.sl (henc : ∀ x : α, (enc x).length = sz) {base : Nat} {e : TypeId} {w : World} {A : Option Addr} {c n : Nat} {l : List α} (h : Own enc sz base e w (.slice A n c) n l) : Sl enc sz w A n l := by
  refine ⟨h.1, fun hn => ?_⟩
  obtain ⟨g, cap, hv, _, hlt⟩ := h.2.form hn
  injection hv with hA _ _
  subst hA
  refine ⟨g, 0, rfl, hlt, fun i x hx j u hu => ?_⟩
  have h1 := h.2.cells (g := g) rfl (i * sz + j) u (flatMap_at henc l i x hx j u hu)
  have e1 : (⟨g, 0, none⟩ : Addr).add (i * sz + j) = ⟨g, 0 + i * sz + j, none⟩ := by
    unfold Addr.add
    split
    · rename_i h0
      simp [h0]
    · simp [Nat.add_assoc]
  rw [e1] at h1
  exact h1
theorem Own.mono {base base' : Nat} {e : TypeId} {w : World} {v : Value} {n : Nat} {l : List α} (h : Own enc sz base e w v n l) (hb : base' ≤ base) : Own enc sz base' e w v n l := by
  refine ⟨h.1, h.2.1, ?_⟩
  rcases h.2.2 with h1 | ⟨g, cap, cur, hv, hg, r⟩
  · exact .inl h1
  · exact .inr ⟨g, cap, cur, hv, Nat.le_trans hb hg, r⟩
theorem Own.isSlice {base : Nat} {e : TypeId} {w : World} {v : Value} {n : Nat} {l : List α} (h : Own enc sz base e w v n l) : ∃ A c, v = .slice A n c ∧ n ≤ c ∧ c ≤ maxLen := by
  rcases h.2.2 with ⟨rfl, rfl⟩ | ⟨g, cap, cur, rfl, _, _, h1, h2, _⟩
  · exact ⟨none, 0, rfl, Nat.le_refl _, by simp [maxLen]⟩
  · exact ⟨_, cap, rfl, h1, h2⟩
theorem Own.below {base : Nat} {e : TypeId} {w w' : World} {v : Value} {n : Nat} {l : List α} (h : Own enc sz base e w v n l) (hb : Below w.heap.size w w') : Own enc sz base e w' v n l := by
  refine ⟨h.1, h.2.1, ?_⟩
  rcases h.2.2 with h1 | ⟨g, cap, cur, hv, hg, hh, r⟩
  · exact .inl h1
  · refine .inr ⟨g, cap, cur, hv, hg, ?_, r⟩
    rw [hb.block g (Array.getElem?_eq_some_iff.1 hh).1]
    exact hh

theorem Own.lit (henc : ∀ x : α, (enc x).length = sz) (w : World) {base : Nat} (e : TypeId) {cs : Array Value} {n : Nat} (l : List α) (h : cs.toList = l.flatMap enc) (hn : l.length = n) (hb : base ≤ w.heap.size) (hm : n ≤ maxLen) :
    Own enc sz base e (w.alloc (.cells cs e)) (.slice (some ⟨w.heap.size, 0, none⟩) n n) n l := by
  refine ⟨hn, ?_⟩
  rw [← h]
  refine World.ownsRow_lit w cs n hb hm ?_
  rw [← Array.length_toList, h, flatMap_len henc, hn]
theorem below_alloc (w : World) (o : Obj) : Below w.heap.size w (w.alloc o) := (Below.refl _ _).alloc (Nat.le_refl _) o
theorem le_maxLen {n : Nat} (h : n ≤ 9223372036854775807) : n ≤ maxLen := by simp only [maxLen]; omega

theorem enc_cells (henc : ∀ x : α, (enc x).length = sz) {w : World} {b o : Nat} {l : List α}
    (h : ∀ i x, l[i]? = some x → ∀ j u, (enc x)[j]? = some u → w.cell? ⟨b, o + i * sz + j, none⟩ = some u) :
    ∀ j u, (l.flatMap enc)[j]? = some u → w.cell? ((⟨b, o, none⟩ : Addr).add j) = some u := by
  have e1 : ∀ k, (⟨b, o, none⟩ : Addr).add k = ⟨b, o + k, none⟩ := by intro k; unfold Addr.add; split <;> simp_all
  intro j u hu
  rw [e1]
  have key : ∀ (l : List α) (j : Nat), (l.flatMap enc)[j]? = some u → ∃ i x k, l[i]? = some x ∧ (enc x)[k]? = some u ∧ j = i * sz + k := by
    intro l
    induction l with
    | nil => intro j h; simp at h
    | cons y l ih =>
      intro j hj
      rw [List.flatMap_cons] at hj
      by_cases hlt : j < (enc y).length
      · rw [List.getElem?_append_left hlt] at hj
        exact ⟨0, y, j, rfl, hj, by simp⟩
      · rw [List.getElem?_append_right (by omega), henc] at hj
        obtain ⟨i, x, k, h1, h2, h3⟩ := ih _ hj
        rw [henc] at hlt
        exact ⟨i + 1, x, k, by simpa using h1, h2, by rw [Nat.add_mul]; omega⟩
  obtain ⟨i, x, k, h1, h2, rfl⟩ := key l j hu
  rw [← Nat.add_assoc]
  exact h i x h1 k u h2

theorem add_plain (b o k : Nat) : (⟨b, o, none⟩ : Addr).add k = ⟨b, o + k, none⟩ := by unfold Addr.add; split <;> simp_all

/-- A new block reads as what was laid into it. -/
theorem Sl.fresh (henc : ∀ x : α, (enc x).length = sz) (w : World) (e : TypeId) {cs : Array Value} {n : Nat} (l : List α) (h : cs.toList = l.flatMap enc) (hn : l.length = n) : Sl enc sz (w.alloc (.cells cs e)) (some ⟨w.heap.size, 0, none⟩) n l := by
  refine ⟨hn, fun _ => ⟨w.heap.size, 0, rfl, by simp, fun i x hx j u hu => ?_⟩⟩
  have h1 := flatMap_at henc l i x hx j u hu
  rw [← h] at h1
  rw [cell_of_row (w.alloc (.cells cs e)) w.heap.size _ cs e (0, 0) (heap_alloc_new w _)]
  rw [Nat.zero_add]
  simpa using h1

theorem Sl.pre {w : World} {A : Option Addr} {n m : Nat} {l lm : List α} (h : Sl enc sz w A (n + m) (l ++ lm)) (hl : l.length = n) : Sl enc sz w A n l := by
  refine ⟨hl, fun hn => ?_⟩
  obtain ⟨b, o, rfl, hb, hc⟩ := h.2 (by omega)
  refine ⟨b, o, rfl, hb, fun i x hx j u hu => hc i x ?_ j u hu⟩
  rw [List.getElem?_append_left (by have := (List.getElem?_eq_some_iff.1 hx).1; exact this)]
  exact hx

/-- A block that is known whole reads as what it holds. -/
theorem Sl.ofBlock (henc : ∀ x : α, (enc x).length = sz) {w : World} {g : Nat} {e : TypeId} {n : Nat} (l : List α) (h : w.heap[g]? = some (.cells (l.flatMap enc).toArray e (0, 0))) (hn : l.length = n) : Sl enc sz w (some ⟨g, 0, none⟩) n l := by
  refine ⟨hn, fun _ => ⟨g, 0, rfl, (Array.getElem?_eq_some_iff.1 h).1, fun i x hx j u hu => ?_⟩⟩
  have h1 := flatMap_at henc l i x hx j u hu
  rw [cell_of_row w g _ _ e (0, 0) h, Nat.zero_add]
  simpa using h1

/-- What an append leaves: the new value owns all; of what was there only the old row may have turned, behind its end; the old value reads as it did. -/
structure Apped (enc : α → List Value) (sz base : Nat) (e : TypeId) (w : World) (v : Value) (n : Nat) (l : List α) (m : Nat) (lm : List α) (v' : Value) (w' : World) : Prop where
  own : Own enc sz base e w' v' (n + m) (l ++ lm)
  below : Below base w w'
  grown : w.grownBy w' v.ownBlock
  lies : v'.ownBlock = v.ownBlock ∨ v'.ownBlock = some w.heap.size
  old : ∀ A c, v = .slice A n c → Sl enc sz w' A n l

/-- append onto a row that the call owns, from whatever slice. -/
theorem run_app {P : Program} (henc : ∀ x : α, (enc x).length = sz) (hone : ∀ x : α, ∀ u ∈ enc x, u.oneCell' = true) (w : World) (base : Nat) (t ty e : TypeId) (i : TypeInfo) (z : Value) (bytes : Nat) (ht : P.underlying t = some (.slice e)) (hi : P.info? e = some i) (hz : i.zero = some z)
    (hsize : i.size = sz) (hby : i.bytes = bytes) (hzs : z.cells.size = sz) (hsz : 0 < sz)
    (v : Value) (n : Nat) (l : List α) (hown : Own enc sz base e w v n l) (A : Option Addr) (m c : Nat) (lm : List α) (hsrc : Sl enc sz w A m lm)
    (h63 : n + m ≤ maxLen) (hbytes : (n + m) * bytes ≤ 140737488355328) (hbase : base ≤ w.heap.size) :
    ∃ v' w', (Builtin.append_ #[t, t] ty #[v, .slice A m c]).run P w = .ok v' w' ∧ Apped enc sz base e w v n l m lm v' w' := by
  subst hsize
  subst hby
  have h1 : ∀ u ∈ lm.flatMap enc, u.oneCell' = true := by
    intro u hu
    obtain ⟨x, _, hx⟩ := List.mem_flatMap.1 hu
    exact hone x u hx
  have hsmall : n + m ≤ 9223372036854775807 := by simp only [maxLen] at h63; omega
  have hlen : (l.flatMap enc).length = n * i.size := by rw [flatMap_len henc, hown.1]
  have hlen2 : (lm.flatMap enc).length = m * i.size := by rw [flatMap_len henc, hsrc.1]
  have hll : (l ++ lm).length = n + m := by rw [List.length_append, hown.1, hsrc.1]
  have hflat : (l ++ lm).flatMap enc = l.flatMap enc ++ lm.flatMap enc := List.flatMap_append
  have hlow : ∀ k, v.ownBlock = some k → base ≤ k := fun k hk => (hown.2.lt k hk).1
  have same : ∀ v', v' = v → m = 0 → Apped enc i.size base e w v n l m lm v' w := by
    rintro v' rfl rfl
    have hn : lm = [] := List.eq_nil_of_length_eq_zero hsrc.1
    subst hn
    exact ⟨by simpa using hown, Below.refl _ _, World.grownBy.refl w _, .inl rfl, fun A c he => by subst he; exact hown.sl henc⟩
  have moved : ∀ old, old < n + m → Apped enc i.size base e w v n l m lm (.slice (some ⟨w.heap.size, 0, none⟩) (n + m) (grownCap w (n + m) old e))
      (w.drew.alloc (.cells ((l.flatMap enc).toArray ++ (lm.flatMap enc).toArray ++ Builtin.zeroCells z.cells (grownCap w (n + m) old e - (n + m))) e)) := by
    intro old ho
    have hge := grownCap_ge w (n + m) old e
    have hcm : grownCap w (n + m) old e ≤ maxLen := grownCap_le_maxLen w (n + m) old e h63
    have hb : ∀ B, B ≤ w.heap.size → Below B w (w.drew.alloc (.cells ((l.flatMap enc).toArray ++ (lm.flatMap enc).toArray ++ Builtin.zeroCells z.cells (grownCap w (n + m) old e - (n + m))) e)) :=
      fun B hB => ((Below.refl B w).drew).alloc hB _
    refine ⟨⟨hll, by rw [hflat, List.length_append, hlen, hlen2, ← Nat.add_mul], .inr ⟨w.heap.size, _, _, rfl, hbase, heap_alloc_new w.drew _, hge, hcm, ?_, ?_⟩⟩, hb base hbase, ⟨rfl, rfl, rfl, by simp, fun k hk _ => heap_alloc_old w.drew _ hk⟩, .inr rfl, fun A c he => ?_⟩
    · simp only [Array.size_append, List.size_toArray, size_zeroCells, hzs, hlen, hlen2, ← Nat.add_mul]
      congr 1
      omega
    · rw [hflat]
      simp only [Array.toList_append, List.append_assoc]
      rw [← List.append_assoc, Nat.add_mul, ← hlen, ← hlen2, ← List.length_append]
      exact List.take_left
    · subst he
      exact (hown.sl henc).below (hb _ (Nat.le_refl _))
  rcases Nat.eq_zero_or_pos m with hm | hm
  · subst hm
    have hn : lm = [] := List.eq_nil_of_length_eq_zero hsrc.1
    subst hn
    refine ⟨v, w, ?_, same v rfl rfl⟩
    rcases A with _ | ad
    · rcases hown.2.2 with ⟨rfl, rfl⟩ | ⟨g, cap, cur, rfl, _, _, hnc, _⟩
      · simp [Builtin.append_, run_underlying ht, sizeOf, typeInfo, hi, Builtin.lenOf, Builtin.firstCells]
      · simp [Builtin.append_, run_underlying ht, sizeOf, typeInfo, hi, Builtin.lenOf, Builtin.firstCells, hnc, storeCells]
    · rcases hown.2.2 with ⟨rfl, rfl⟩ | ⟨g, cap, cur, rfl, _, _, hnc, _⟩
      · simp [Builtin.append_, run_underlying ht, sizeOf, typeInfo, hi, Builtin.lenOf, Builtin.firstCells, loadCells, loadCellsFrom]
      · simp [Builtin.append_, run_underlying ht, sizeOf, typeInfo, hi, Builtin.lenOf, Builtin.firstCells, hnc, storeCells, loadCells, loadCellsFrom]
  · obtain ⟨b, o, rfl, _, hc⟩ := hsrc.2 hm
    have hnews := enc_cells henc hc
    rcases hown.2.2 with ⟨rfl, rfl⟩ | ⟨g, cap, cur, rfl, hbg, hg, hnc, hcm, hcs, htake⟩
    · have hx : l = [] := List.eq_nil_of_length_eq_zero hown.1
      subst hx
      have hr := run_append_nil (P := P) w t ty e i z ht hi hz ⟨b, o, none⟩ m c (lm.flatMap enc) hlen2 hnews hm (by omega) (by have hbb := hbytes; simp only [Nat.zero_add] at hbb; omega)
      have hmv := moved 0 (by omega)
      simp only [Nat.zero_add, List.nil_append, List.flatMap_nil, Array.empty_append] at hmv ⊢
      exact ⟨_, _, hr, hmv⟩
    · by_cases hroom : n + m ≤ cap
      · have hfit : n * i.size + (lm.flatMap enc).length ≤ cur.size := by rw [hlen2, hcs, ← Nat.add_mul]; exact Nat.mul_le_mul_right _ hroom
        have hr := run_append_room (P := P) w t ty e i ht hi g n cap cur hg ⟨b, o, none⟩ m c (lm.flatMap enc) hlen2 hnews h1 hroom hfit
        have hgr : w.grownBy (w.setRow g (cur.toList.take (n * i.size) ++ lm.flatMap enc ++ cur.toList.drop (n * i.size + (lm.flatMap enc).length)).toArray) (some g) :=
          ⟨rfl, rfl, rfl, by simp, fun k _ hk => setRow_other w g k _ (fun e => hk (by simp [e]))⟩
        have ho : Own enc i.size base e (w.setRow g (cur.toList.take (n * i.size) ++ lm.flatMap enc ++ cur.toList.drop (n * i.size + (lm.flatMap enc).length)).toArray) (.slice (some ⟨g, 0, none⟩) (n + m) cap) (n + m) (l ++ lm) := by
          refine ⟨hll, by rw [hflat, List.length_append, hlen, hlen2, ← Nat.add_mul], .inr ⟨g, cap, _, rfl, hbg, setRow_heap w g cur _ e _ hg, hroom, hcm, ?_, ?_⟩⟩
          · simp only [List.size_toArray, List.length_append, List.length_take, List.length_drop, Array.length_toList]
            omega
          · rw [htake, hflat, Nat.add_mul, ← hlen, ← hlen2, ← List.length_append]
            exact List.take_left
        refine ⟨_, _, hr, ho, (Below.refl base w).grown hgr hbase (fun k hk => hlow k hk), hgr, .inl rfl, fun A c he => ?_⟩
        injection he with he _ _
        subst he
        exact Sl.pre (ho.sl henc) hown.1
      · have holds : ∀ j u, (l.flatMap enc)[j]? = some u → w.cell? ((⟨g, 0, none⟩ : Addr).add j) = some u := hown.2.cells (g := g) rfl
        have hr := run_append_grow (P := P) w t ty e i z ht hi hz ⟨g, 0, none⟩ n cap (l.flatMap enc) hlen holds ⟨b, o, none⟩ m c (lm.flatMap enc) hlen2 hnews (by omega) (by omega) (growslice_fits (by omega) hbytes)
        exact ⟨_, _, hr, moved cap (by omega)⟩

/-- append onto a slice that came from elsewhere and has no spare room: it moves. -/
theorem run_app_full {P : Program} (henc : ∀ x : α, (enc x).length = sz) (w : World) (base : Nat) (t ty e : TypeId) (i : TypeInfo) (z : Value) (bytes : Nat) (ht : P.underlying t = some (.slice e)) (hi : P.info? e = some i) (hz : i.zero = some z)
    (hsize : i.size = sz) (hby : i.bytes = bytes) (hzs : z.cells.size = sz)
    (b0 o0 n c0 : Nat) (l : List α) (hdst : Sl enc sz w (some ⟨b0, o0, none⟩) n l) (hn : 0 < n) (b o m c : Nat) (lm : List α) (hsrc : Sl enc sz w (some ⟨b, o, none⟩) m lm) (hm : 0 < m) (hfull : c0 < n + m)
    (h63 : n + m ≤ maxLen) (hbytes : (n + m) * bytes ≤ 140737488355328) (hbase : base ≤ w.heap.size) :
    ∃ v' w', (Builtin.append_ #[t, t] ty #[.slice (some ⟨b0, o0, none⟩) n c0, .slice (some ⟨b, o, none⟩) m c]).run P w = .ok v' w' ∧ Own enc sz base e w' v' (n + m) (l ++ lm) ∧ Below w.heap.size w w' := by
  subst hsize
  subst hby
  have hsmall : n + m ≤ 9223372036854775807 := by simp only [maxLen] at h63; omega
  have hlen : (l.flatMap enc).length = n * i.size := by rw [flatMap_len henc, hdst.1]
  have hlen2 : (lm.flatMap enc).length = m * i.size := by rw [flatMap_len henc, hsrc.1]
  have hll : (l ++ lm).length = n + m := by rw [List.length_append, hdst.1, hsrc.1]
  have hflat : (l ++ lm).flatMap enc = l.flatMap enc ++ lm.flatMap enc := List.flatMap_append
  obtain ⟨b', o', e1, _, hc1⟩ := hdst.2 hn
  obtain ⟨b'', o'', e2, _, hc2⟩ := hsrc.2 hm
  injection e1 with e1
  injection e1 with e11 e12 _
  injection e2 with e2
  injection e2 with e21 e22 _
  subst e11 e12 e21 e22
  have hr := run_append_grow (P := P) w t ty e i z ht hi hz ⟨b0, o0, none⟩ n c0 (l.flatMap enc) hlen (enc_cells henc hc1) ⟨b, o, none⟩ m c (lm.flatMap enc) hlen2 (enc_cells henc hc2) hfull (by omega) (growslice_fits hfull hbytes)
  have hge := grownCap_ge w (n + m) c0 e
  have hcm : grownCap w (n + m) c0 e ≤ maxLen := grownCap_le_maxLen w (n + m) c0 e h63
  refine ⟨_, _, hr, ⟨hll, by rw [hflat, List.length_append, hlen, hlen2, ← Nat.add_mul], .inr ⟨w.heap.size, _, _, rfl, hbase, heap_alloc_new w.drew _, hge, hcm, ?_, ?_⟩⟩, ((Below.refl _ w).drew).alloc (Nat.le_refl _) _⟩
  · simp only [Array.size_append, List.size_toArray, size_zeroCells, hzs, hlen, hlen2, ← Nat.add_mul]
    congr 1
    omega
  · rw [hflat]
    simp only [Array.toList_append, List.append_assoc]
    rw [← List.append_assoc, Nat.add_mul, ← hlen, ← hlen2, ← List.length_append]
    exact List.take_left

theorem wpList_app_full {P : Program} {ops : Array Oper} {rest : List Oper} {o' : Oper} {a : Act} {Q : Exit → Act → World → Prop} (w : World) (hgd : o'.guard = none) (s x : Operand) (t : TypeId)
    (ho : o'.op = .call { callee := .builtin .append, args := #[s, x], argTypes := #[t, t] })
    (henc : ∀ x : α, (enc x).length = sz) (base : Nat) (e : TypeId) (i : TypeInfo) (z : Value) (bytes : Nat) (ht : P.underlying t = some (.slice e)) (hi : P.info? e = some i) (hz : i.zero = some z)
    (hsize : i.size = sz) (hby : i.bytes = bytes) (hzs : z.cells.size = sz)
    (b0 o0 n c0 : Nat) (l : List α) (hs : a.eval s = .slice (some ⟨b0, o0, none⟩) n c0) (hdst : Sl enc sz w (some ⟨b0, o0, none⟩) n l) (hn : 0 < n) (b o m c : Nat) (lm : List α) (hx : a.eval x = .slice (some ⟨b, o, none⟩) m c) (hsrc : Sl enc sz w (some ⟨b, o, none⟩) m lm) (hm : 0 < m) (hfull : c0 < n + m)
    (h63 : n + m ≤ maxLen) (hbytes : (n + m) * bytes ≤ 140737488355328) (hbase : base ≤ w.heap.size)
    (h : ∀ v' w', Own enc sz base e w' v' (n + m) (l ++ lm) → Below w.heap.size w w' → wpList P ops Q rest (a.put o'.dst v') w') :
    wpList P ops Q (o' :: rest) a w := by
  refine wpList_plain hgd fun K hK => ?_
  obtain ⟨v', w', hr, h2, h3⟩ := run_app_full (P := P) henc w base t o'.type e i z bytes ht hi hz hsize hby hzs b0 o0 n c0 l hdst hn b o m c lm hsrc hm hfull h63 hbytes hbase
  unfold Oper.wp execOp
  simp only [ho, resolve, invoke, builtin, Sem.run_bind, Sem.run_pure, Result.andThen_ok, List.map_toArray, List.map_cons, List.map_nil, hs, hx, hr]
  exact hK _ _ (h v' w' h2 h3)

theorem wpList_app {P : Program} {ops : Array Oper} {rest : List Oper} {o : Oper} {a : Act} {Q : Exit → Act → World → Prop} (w : World) (hgd : o.guard = none) (s x : Operand) (t : TypeId)
    (ho : o.op = .call { callee := .builtin .append, args := #[s, x], argTypes := #[t, t] })
    (henc : ∀ x : α, (enc x).length = sz) (hone : ∀ x : α, ∀ u ∈ enc x, u.oneCell' = true) (base : Nat) (e : TypeId) (i : TypeInfo) (z : Value) (bytes : Nat) (ht : P.underlying t = some (.slice e)) (hi : P.info? e = some i) (hz : i.zero = some z)
    (hsize : i.size = sz) (hby : i.bytes = bytes) (hzs : z.cells.size = sz) (hsz : 0 < sz)
    (v : Value) (n : Nat) (l : List α) (hs : a.eval s = v) (hown : Own enc sz base e w v n l) (A : Option Addr) (m c : Nat) (lm : List α) (hx : a.eval x = .slice A m c) (hsrc : Sl enc sz w A m lm)
    (h63 : n + m ≤ maxLen) (hbytes : (n + m) * bytes ≤ 140737488355328) (hbase : base ≤ w.heap.size)
    (h : ∀ v' w', Apped enc sz base e w v n l m lm v' w' → wpList P ops Q rest (a.put o.dst v') w') :
    wpList P ops Q (o :: rest) a w := by
  refine wpList_plain hgd fun K hK => ?_
  obtain ⟨v', w', hr, h2⟩ := run_app (P := P) henc hone w base t o.type e i z bytes ht hi hz hsize hby hzs hsz v n l hown A m c lm hsrc h63 hbytes hbase
  unfold Oper.wp execOp
  simp only [ho, resolve, invoke, builtin, Sem.run_bind, Sem.run_pure, Result.andThen_ok, List.map_toArray, List.map_cons, List.map_nil, hs, hx, hr]
  exact hK _ _ (h v' w' h2)

theorem wp_app {P : Program} {o : Oper} {a : Act} {K : Act → World → Prop} {Q : Exit → Act → World → Prop} (w : World) (s x : Operand) (t : TypeId)
    (ho : o.op = .call { callee := .builtin .append, args := #[s, x], argTypes := #[t, t] })
    (henc : ∀ x : α, (enc x).length = sz) (hone : ∀ x : α, ∀ u ∈ enc x, u.oneCell' = true) (base : Nat) (e : TypeId) (i : TypeInfo) (z : Value) (bytes : Nat) (ht : P.underlying t = some (.slice e)) (hi : P.info? e = some i) (hz : i.zero = some z)
    (hsize : i.size = sz) (hby : i.bytes = bytes) (hzs : z.cells.size = sz) (hsz : 0 < sz)
    (v : Value) (n : Nat) (l : List α) (hs : a.eval s = v) (hown : Own enc sz base e w v n l) (A : Option Addr) (m c : Nat) (lm : List α) (hx : a.eval x = .slice A m c) (hsrc : Sl enc sz w A m lm)
    (h63 : n + m ≤ maxLen) (hbytes : (n + m) * bytes ≤ 140737488355328) (hbase : base ≤ w.heap.size)
    (h : ∀ v' w', Apped enc sz base e w v n l m lm v' w' → K (a.put o.dst v') w') :
    Oper.wp P o a w K Q := by
  obtain ⟨v', w', hr, h2⟩ := run_app (P := P) henc hone w base t o.type e i z bytes ht hi hz hsize hby hzs hsz v n l hown A m c lm hsrc h63 hbytes hbase
  unfold Oper.wp execOp
  simp only [ho, resolve, invoke, builtin, Sem.run_bind, Sem.run_pure, Result.andThen_ok, List.map_toArray, List.map_cons, List.map_nil, hs, hx, hr]
  exact h v' w' h2
end

theorem step_of_wp {P : Program} {ops : Array Oper} {o : Oper} {a : Act} {w : World} {K : Act → World → Prop} {Q : Exit → Act → World → Prop} {E : Prop} (hgd : o.guard = none) (h : Oper.wp P o a w K Q) :
    if Region.wanted o (yielded ops a.tmps) = true then Oper.wp P o a w K Q else E := by
  have hw : Region.wanted o (yielded ops a.tmps) = true := by simp [Region.wanted, hgd]
  rw [if_pos hw]
  exact h

/-- What a region that makes memory keeps: all that was there. -/
theorem keepS {w1 w' : World} (h : Below w1.heap.size w1 w') : Below w1.heap.size w1 w' ∧ ∀ b o, b < w1.heap.size → w'.cell? ⟨b, o, none⟩ = w1.cell? ⟨b, o, none⟩ :=
  ⟨h, fun b o hb => h.cell (p := ⟨b, o, none⟩) hb⟩

/-- A byte, a number, a text as cells. -/
def eByte (b : UInt8) : List Value := [.int .u8 (b.toNat : Int)]
def eInt (n : Int) : List Value := [.int .i64 n]
def eStr (s : ByteArray) : List Value := [.string s]
theorem eByte_len (b : UInt8) : (eByte b).length = 1 := rfl
theorem eInt_len (n : Int) : (eInt n).length = 1 := rfl
theorem eStr_len (s : ByteArray) : (eStr s).length = 1 := rfl
theorem eByte_one (b : UInt8) : ∀ u ∈ eByte b, u.oneCell' = true := by intro u hu; simp [eByte] at hu; subst hu; rfl
theorem eInt_one (n : Int) : ∀ u ∈ eInt n, u.oneCell' = true := by intro u hu; simp [eInt] at hu; subst hu; rfl
theorem eStr_one (s : ByteArray) : ∀ u ∈ eStr s, u.oneCell' = true := by intro u hu; simp [eStr] at hu; subst hu; rfl

/-- The cells of bytes, one by one. -/
theorem Sl.byte {w : World} {b o n : Nat} {l : List UInt8} (h : Sl eByte 1 w (some ⟨b, o, none⟩) n l) {i : Nat} (hi : i < n) : w.cell? ⟨b, o + i, none⟩ = some (.int .u8 ((l.getD i 0).toNat : Int)) := by
  obtain ⟨b', o', e, _, hc⟩ := h.2 (by omega)
  injection e with e
  injection e with e1 e2 _
  subst e1 e2
  have hl : i < l.length := by have := h.1; omega
  have := hc i l[i] (List.getElem?_eq_getElem hl) 0 (.int .u8 (l[i].toNat : Int)) (by simp [eByte])
  simpa [List.getD, List.getElem?_eq_getElem hl] using this

theorem strOfNums_bytes (l : List UInt8) : strOfNums (l.map fun b => (b.toNat : Int)) = ⟨l.toArray⟩ := by
  unfold strOfNums
  congr 1
  congr 1
  rw [List.map_map]
  conv => rhs; rw [← List.map_id l]
  apply List.map_congr_left
  intro b _
  simp

/-- 'string(b)' of bytes, in whatever world they lie. -/
theorem Sl.toStr {P : Program} {w : World} {A : Option Addr} {n c : Nat} {l : List UInt8} (h : Sl eByte 1 w A n l) (src e : TypeId) (hs : P.underlying src = some (.slice e)) (he : P.underlying e = some (.int .u8)) (dst : TypeId) (hd : P.underlying dst = some .string) :
    (convert src dst (.slice A n c)).run P w = .ok (.string ⟨l.toArray⟩) w := by
  rcases Nat.eq_zero_or_pos n with h0 | h0
  · subst h0
    have hl : l = [] := List.eq_nil_of_length_eq_zero h.1
    subst hl
    rcases A with _ | ad
    · exact run_convert_bytes_nil w src e hs he 0 c dst hd
    · rw [run_convert_bytes_string w src dst e _ 0 c hs he hd]
      have hl : (loadCells ad 0).run P w = .ok #[] w := by simp [loadCells, loadCellsFrom]
      rw [run_bytesToString w ad 0 c [] (by simpa using hl)]
      rfl
  · obtain ⟨b, o, rfl, _, _⟩ := h.2 h0
    rw [run_convert_bytes_arg w src e hs he b o n c (l.map fun b => (b.toNat : Int)) (by simpa using h.1) ?_ dst hd, strOfNums_bytes]
    intro i hi
    have hl : i < l.length := by have := h.1; omega
    rw [h.byte hi]
    simp [List.getD, hl]
end Go.Proofs.Ytcnbeijlcndjpaa
