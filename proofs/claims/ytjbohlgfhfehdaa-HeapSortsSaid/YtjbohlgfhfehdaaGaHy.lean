/-
What slices.SortFunc leaves in a row of one's own.
-/
import Derived.Test.YtjbohlgfhfehdaaGaHp3
import Derived.Test.YtjbohlgfhfehdaaGpHB
import Derived.Shelf.GgSortFunc.InsertionK
namespace Go.Proofs.Gv
open Go.Proofs Go.Sort Go.RowKit
set_option linter.unusedVariables false
def encI (x : It) : List Value := [.int .i64 x.1, .int .i64 x.2]
abbrev KI : List Kd := [.int .i64, .int .i64]
def rowI (x : It) : List AV := [.int .i64 x.1, .int .i64 x.2]
def pairI (e : List AV) : It := (intOf (e.getD 0 .junk), intOf (e.getD 1 .junk))
theorem rowI_of {e : List AV} (h : okRow KI e = true) : e = rowI (pairI e) := by
  have hl : e.length = 2 := okRow_len _ _ h
  match e, hl, h with
  | [x, y], _, h =>
    simp only [okRow, Bool.and_true, Bool.and_eq_true] at h
    obtain ⟨h1, h2⟩ := h
    cases x <;> simp [isKind] at h1
    cases y <;> simp [isKind] at h2
    subst h1 h2
    rfl
theorem rowsI_of {es : List (List AV)} (h : ∀ e ∈ es, okRow KI e = true) : es = (es.map pairI).map rowI := by
  rw [List.map_map]
  conv => lhs; rw [← List.map_id es]
  exact List.map_congr_left fun e he => rowI_of (h e he)
theorem okRowI (x : It) : okRow KI (rowI x) = true := by rfl
theorem flat_get (l : List It) (t : Nat) (ht : t < l.length * 2) : ∃ k : Int, flatF 2 (l.map rowI) t = some (.int .i64 k) ∧ (flatK encI 2 l.toArray)[t]! = .int .i64 k := by
  have h1 : t / 2 < l.length := by omega
  rw [get_flatK _ _ _ _ (by simpa using ht)]
  have e1 : l.toArray[t / 2]! = l[t / 2] := by simp [h1]
  have e2 : (l.map rowI)[t / 2]? = some (rowI l[t / 2]) := by simp [h1]
  unfold flatF
  rw [e1, e2, Option.bind_some]
  have h2 : t % 2 < 2 := Nat.mod_lt _ (by omega)
  generalize t % 2 = m at h2
  match m, h2 with
  | 0, _ => exact ⟨_, rfl, rfl⟩
  | 1, _ => exact ⟨_, rfl, rfl⟩
theorem V.intV {G : Gh} {w : World} {r : Bool} {k : IntKind} {n : Int} {v : Value} (h : V G w r (.int k n) v) : v = .int k n := by cases h; rfl
theorem rel_of {B : Bs} {s : St} {a : Act} {w : World} {G : Gh} (h : Rel B s a w G) {k : Blk} {r : AV} {v : Value} (hv : V G w true r v) (hk : BlkOK G w 0 k) : Rel B ⟨[r], [k]⟩ { tmps := #[v], defers := [] } w G :=
  ⟨rfl, rfl, fun i x u hx hu => by
    cases i with
    | zero => simp at hx hu; subst hx hu; exact hv
    | succ i => simp at hx, fun d k' hk' => by
    cases d with
    | zero => simp at hk'; subst hk'; exact hk
    | succ d => simp at hk', h.os, h.tape, h.output, h.size, h.par, h.old, h.nl⟩
theorem sort27_of {es : List (List AV)} (hn : es.length ≤ 1000000)
    (hS : ∀ (blk off cap : Nat) (d : Array It) (w : World), HoldsK encI 2 w blk off d → blk < w.heap.size → d.size < 4611686018427387904 → Calls Try.prog 27 #[.slice (some ⟨blk, off, none⟩) d.size cap, .func (.func 28) #[] #[]] w fun e w' => e = .returned (.tuple #[]) ∧ ∃ n os, w' = sortWorldK encI 2 w blk off n (sortL d.toList).toArray os)
    (hZ : ∀ (p : Option Addr) (cap : Nat) (fv : Value) (w : World), Calls Try.prog 27 #[.slice p 0 cap, fv] w fun e w' => e = .returned (.tuple #[]) ∧ w' = w) :
    FnOK Try.prog 27 [.rf 0 KI, .fn 28 []] [.row KI es] (.tup []) [.row KI ((sortL (es.map pairI)).map rowI)] := by
  intro B vals w G hr e0 e1 e2 e3
  have hrow := hr.vb 0 _ rfl
  obtain ⟨l⟩ := vals
  have hlen : 2 = l.length := hr.len
  match l, hlen with
  | [v0, v1], _ =>
    have hv0 := hr.vt 0 _ v0 rfl rfl
    have hv1 := hr.vt 1 _ v1 rfl rfl
    have h1 : v1 = .func (.func 28) #[] #[] := by
      cases hv1 with
      | fn _ _ _ vs hl _ =>
        have : vs = #[] := by
          apply Array.eq_empty_of_size_eq_zero
          exact hl.symm
        rw [this]
    subst h1
    have htup : ∀ (G : Gh) (w : World), V G w true (.tup []) (.tuple #[]) := fun G w => .tup true [] #[] rfl fun i x v h => by cases h
    obtain ⟨hok, hz, hnm, hcase⟩ := hrow
    cases hv0 with
    | rfnil _ _ A h0 =>
      rw [hnm] at h0
      have hes := List.eq_nil_of_length_eq_zero h0
      subst hes
      refine (hZ A 0 _ w).mono fun e w' ⟨he, hw⟩ => ?_
      subst hw
      exact ⟨_, G, he, rel_of hr (htup _ _) (hr.vb 0 _ rfl)⟩
    | rf _ _ n c p hp hn' hc hpc hm =>
      rcases hcase with ⟨_, h5⟩ | ⟨p', h5, h6, hown, vs, hat, hcap, hone, hcells⟩
      · rw [h5] at hp; cases hp
      · rw [h5] at hp
        injection hp with hp
        subst hp
        rw [hnm] at hn'
        subst hn'
        have hes := rowsI_of hok
        generalize hl : es.map pairI = l at hes ⊢
        have hll : l.length = es.length := by rw [← hl, List.length_map]
        obtain ⟨ty, fz, hheap, hfz⟩ := hat
        have hb : p'.b < w.heap.size := lt_of_heap hheap
        replace hcap : p'.o + p'.cap * 2 ≤ vs.size := hcap
        have hcm : es.length * 2 ≤ p'.cap * 2 := Nat.mul_le_mul_right _ h6
        have hH : HoldsK encI 2 w p'.b p'.o l.toArray := by
          intro j hj
          rw [size_flatK] at hj
          have hj' : j < l.length * 2 := by simpa using hj
          obtain ⟨k, k1, k2⟩ := flat_get l j hj'
          have hlt : p'.o + j < vs.size := by omega
          have hge : vs[p'.o + j]? = some vs[p'.o + j] := Array.getElem?_eq_getElem hlt
          have hV := hcells (p'.o + j) (.int .i64 k) _ (by show p'.o + j < p'.o + p'.cap * 2; omega) (by rw [flatO_add, hes]; exact k1) hge
          refine ⟨?_, ?_⟩
          · show w.cell? ⟨p'.b, p'.o + j, none⟩ = some (flatK encI 2 l.toArray)[j]!
            rw [k2, BlkAt.cell ⟨ty, fz, hheap, hfz⟩, hge, hV.intV]
          · simp only [World.frozen?, hheap]
            rcases hfz with rfl | hfz
            · simp
            · simp; omega
        have hd : l.toArray.size = es.length := by simp [hll]
        have hcall := hS p'.b p'.o c l.toArray w hH hb (by rw [hd]; omega)
        rw [hd] at hcall
        refine hcall.mono fun e w' ⟨he, n, os, hw⟩ => ?_
        have hsl : (sortL l).length = l.length := (sortL_perm l).length_eq
        generalize hsrt : sortL l = m at hw hsl ⊢
        replace hw : w' = grow (mapBlock (Sort.ahead w n) p'.b (putCells id p'.o (flatK encI 2 m.toArray))) os := by rw [hw]; rfl
        have hheap' : w'.heap = (w.heap.modify p'.b (onCells (putCells id p'.o (flatK encI 2 m.toArray)))) ++ os := by rw [hw]; rfl
        have hsz : w.heap.size ≤ w'.heap.size := by rw [hheap']; simp
        have hoth : ∀ b, b < w.heap.size → b ≠ p'.b → w'.heap[b]? = w.heap[b]? := fun b hb1 hb2 => by
          rw [hheap', Array.getElem?_append_left (by simpa using hb1), Array.getElem?_modify, if_neg (Ne.symm hb2)]
        have hblk : w'.heap[p'.b]? = some (.cells (putCells id p'.o (flatK encI 2 m.toArray) vs) ty fz) := by
          rw [hheap', Array.getElem?_append_left (by simpa using hb), Array.getElem?_modify, if_pos rfl, hheap]
          rfl
        have hps : (putCells id p'.o (flatK encI 2 m.toArray) vs).size = vs.size := by simp [putCells]
        let G' : Gh := { own := fun b => if b < w.heap.size then G.own b else .ext, nm := G.nm }
        have hst : Stay G G' w w' := ⟨hsz, fun b t hb1 hi => by
          have hne : b ≠ p'.b := by
            rintro rfl
            unfold Im at hi
            rw [hown] at hi
            rcases hi with hi | ⟨_, hi⟩ <;> cases hi
          refine ⟨?_, hoth b hb1 hne⟩
          show Im (fun b => if b < w.heap.size then G.own b else .ext) t b
          unfold Im at hi ⊢
          simp only [hb1, if_true]
          exact hi⟩
        have hget : ∀ u, u < vs.size → (putCells id p'.o (flatK encI 2 m.toArray) vs)[u]? = if p'.o ≤ u ∧ u < p'.o + m.length * 2 then some (flatK encI 2 m.toArray)[u - p'.o]! else vs[u]? := fun u hu => by
          simp only [putCells, Array.getElem?_mapIdx, Array.getElem?_eq_getElem hu, Option.map_some, size_flatK, List.size_toArray, id]
          split <;> rfl
        have hfin : BlkOK G' w' 0 (.row KI (m.map rowI)) := by
          refine ⟨fun e he => ?_, by decide, ?_, .inr ⟨p', h5, ?_, ?_, _, ⟨ty, fz, hblk, ?_⟩, ?_, fun v hv => ?_, fun t x v ht hx hv => ?_⟩⟩
          · obtain ⟨y, _, rfl⟩ := List.mem_map.1 he
            exact okRowI y
          · show (G.nm 0).1 = _
            rw [hnm, List.length_map, hsl, hll]
          · rw [List.length_map, hsl, hll]; exact h6
          · show (if p'.b < w.heap.size then G.own p'.b else .ext) = _
            rw [if_pos hb]; exact hown
          · rcases hfz with hfz | hfz
            · exact .inl hfz
            · exact .inr (by rw [hps]; exact hfz)
          · rw [hps]; exact hcap
          · obtain ⟨u, hu, rfl⟩ := Array.mem_iff_getElem.1 hv
            have hu' : u < vs.size := by rw [hps] at hu; exact hu
            have hg := hget u hu'
            rw [Array.getElem?_eq_getElem hu] at hg
            split at hg
            · rename_i hc
              obtain ⟨k, _, k2⟩ := flat_get m (u - p'.o) (by omega)
              rw [k2] at hg
              injection hg with hg
              rw [hg]; rfl
            · rw [Array.getElem?_eq_getElem hu'] at hg
              injection hg with hg
              rw [hg]
              exact hone _ (Array.getElem_mem hu')
          · replace hx : flatO p'.o 2 (m.map rowI) t = some x := hx
            replace ht : t < p'.o + p'.cap * 2 := ht
            unfold flatO at hx
            split at hx
            · cases hx
            · rename_i hge
              obtain ⟨e, g1, g2⟩ := flatF_inv hx
              have g3 := (List.getElem?_eq_some_iff.1 g1).1
              rw [List.length_map] at g3
              have hlt : t - p'.o < m.length * 2 := by omega
              obtain ⟨k, k1, k2⟩ := flat_get m (t - p'.o) hlt
              rw [k1] at hx
              injection hx with hx
              rw [hget t (by omega), if_pos (by omega), k2] at hv
              injection hv with hv
              subst hx hv
              exact .int _ _ _
        refine ⟨_, G', he, rfl, rfl, fun i x u hx hu => ?_, fun d k' hk' => ?_, ?_, ?_, ?_, Nat.le_trans hr.size hsz, hr.par, fun b hb1 hb2 => ?_, fun b hb1 => ?_⟩
        · cases i with
          | zero => simp at hx hu; subst hx hu; exact htup _ _
          | succ i => simp at hx
        · cases d with
          | zero => simp at hk'; subst hk'; exact hfin
          | succ d => simp at hk'
        · rw [hw]; exact hr.os
        · rw [hw]; exact hr.tape
        · rw [hw]; exact hr.output
        · obtain ⟨q1, q2⟩ := hr.old b hb1 hb2
          have hbw : b < w.heap.size := Nat.lt_of_lt_of_le hb1 hr.size
          refine ⟨by show (if b < w.heap.size then G.own b else .ext) = _; rw [if_pos hbw]; exact q1, ?_⟩
          rw [hoth b hbw (by
            rintro rfl
            rw [hown] at q1
            exact hb2 0 q1.symm)]
          exact q2
        · replace hb1 : (if b < w.heap.size then G.own b else .ext) = .lent := hb1
          split at hb1
          · exact hr.nl b hb1
          · cases hb1
end Go.Proofs.Gv
