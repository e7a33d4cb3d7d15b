import Derived.Test.YthnbpgiohimkoaaPw07
set_option linter.unusedVariables false
namespace Go.Proofs.Gv
open Go.RowKit
section
variable {P : Program} {a : Act} {w : World} {G : Gh} {o : Oper} {u : List Wr} {rr : Bool} {B : Bs} {s : St}
def CellsR (G : Gh) (w : World) (rr : Bool) (cs : List AV) (vs : Array Value) : Prop :=
 cs.length = vs.size ∧ ∀ (i : Nat) (x : AV) (v : Value), cs[i]? = some x → vs[i]? = some v → V G w rr x v ∧ v.oneCell' = true
theorem cell1_one {x : AV} {v : Value} (h : cell1 x = true) (hv : V G w rr x v) : v.oneCell' = true ∧ v.cells = #[v] := by
 cases hv <;> first | (simp [cell1] at h; done) | exact ⟨rfl, rfl⟩
theorem cellsA_ok {A : AV} {xs : List AV} {v : Value} (h : cellsA A = some xs) (hv : V G w rr A v) : CellsR G w rr xs v.cells := by
 unfold cellsA at h
 split at h
 ·rename_i cs
  split at h
  ·rename_i hall
   injection h with h
   subst h
   obtain ⟨vs, rfl, hl, hvv⟩ := hv.agg_inv
   refine ⟨hl, fun i x v hx hv => ?_⟩
   have h1 := hvv i x v hx hv
   exact ⟨h1, (cell1_one (List.all_eq_true.1 hall x (List.mem_of_getElem? hx)) h1).1⟩
  ·cases h
 ·split at h
  ·rename_i hc
   injection h with h
   subst h
   have h1 := cell1_one hc hv
   rw [h1.2]
   refine ⟨rfl, fun i x v' hx hv' => ?_⟩
   cases i with
   | zero =>
     simp at hx hv'
     subst hx hv'
     exact ⟨hv, h1.1⟩
   | succ i => simp at hx
  ·cases h
theorem foldl_set (off : Nat) : ∀ (l : List Value) (k : Nat) (cells : Array Value), ∀ i, ((l.zipIdx k).foldl (fun (cs : Array Value) (x : Value × Nat) => cs.setIfInBounds (off + x.2) x.1) cells)[i]? = if off + k ≤ i ∧ i < off + k + l.length ∧ i < cells.size then l[i - off - k]? else cells[i]? := by
 intro l
 induction l with
 | nil => intro k cells i; simp; omega
 | cons v l ih =>
   intro k cells i
   simp only [List.zipIdx_cons, List.foldl_cons]
   rw [ih (k + 1)]
   simp only [Array.size_setIfInBounds, List.length_cons]
   by_cases h1 : off + (k + 1) ≤ i ∧ i < off + (k + 1) + l.length ∧ i < cells.size
   ·rw [if_pos h1, if_pos ⟨by omega, by omega, h1.2.2⟩]
    rw [show i - off - k = (i - off - (k + 1)) + 1 from by omega, List.getElem?_cons_succ]
   ·rw [if_neg h1]
    by_cases h2 : i = off + k ∧ i < cells.size
    ·obtain ⟨rfl, h2⟩ := h2
     rw [if_pos ⟨by omega, by omega, h2⟩, Array.getElem?_setIfInBounds, if_pos rfl, if_pos h2]
     simp
    ·by_cases h3 : off + k ≤ i ∧ i < off + k + (l.length + 1) ∧ i < cells.size
     ·omega
     ·rw [if_neg h3, Array.getElem?_setIfInBounds]
      by_cases h4 : off + k = i
      ·rw [if_pos h4]
       have : ¬ i < cells.size := fun h => h2 ⟨h4.symm, h⟩
       have h5 : ¬ off + k < cells.size := by omega
       rw [if_neg h5, Array.getElem?_eq_none (by omega)]
      ·rw [if_neg h4]
theorem over_get (cs xs : List AV) (off i : Nat) (h : off + xs.length ≤ cs.length) : (over cs off xs)[i]? = if off ≤ i ∧ i < off + xs.length then xs[i - off]? else cs[i]? := by
 unfold over
 have hl : (cs.take off).length = off := by simp; omega
 by_cases h1 : i < off
 ·rw [if_neg (by omega), List.append_assoc, List.getElem?_append_left (by omega), List.getElem?_take, if_pos h1]
 ·by_cases h2 : i < off + xs.length
  ·rw [if_pos ⟨by omega, h2⟩, List.getElem?_append_left (by simp; omega), List.getElem?_append_right (by omega), hl]
  ·rw [if_neg (by omega), List.getElem?_append_right (by simp; omega), List.getElem?_drop]
   congr 1
   simp
   omega
theorem over_len (cs xs : List AV) (off : Nat) (h : off + xs.length ≤ cs.length) : (over cs off xs).length = cs.length := by
 unfold over
 simp
 omega
theorem CellsR.over {rr : Bool} {cs xs : List AV} {vs ws : Array Value} {off : Nat} (h : CellsR G w rr cs vs) (k : CellsR G w rr xs ws) (hle : off + xs.length ≤ cs.length) :
  CellsR G w rr (Gv.over cs off xs) (ws.zipIdx.foldl (fun (cs : Array Value) (x : Value × Nat) => cs.setIfInBounds (off + x.2) x.1) vs) := by
 have hfold : (ws.zipIdx.foldl (fun (cs : Array Value) (x : Value × Nat) => cs.setIfInBounds (off + x.2) x.1) vs) = ((ws.toList.zipIdx 0).foldl (fun (cs : Array Value) (x : Value × Nat) => cs.setIfInBounds (off + x.2) x.1) vs) := by
  rw [← Array.foldl_toList, Array.toList_zipIdx]
 rw [hfold]
 have hget := foldl_set off ws.toList 0 vs
 have hsize : ((ws.toList.zipIdx 0).foldl (fun (cs : Array Value) (x : Value × Nat) => cs.setIfInBounds (off + x.2) x.1) vs).size = vs.size := by
  have gen : ∀ (l : List (Value × Nat)) (cs : Array Value), (l.foldl (fun (cs : Array Value) (x : Value × Nat) => cs.setIfInBounds (off + x.2) x.1) cs).size = cs.size := by
   intro l
   induction l with
   | nil => intro cs; rfl
   | cons x l ih => intro cs; rw [List.foldl_cons, ih]; simp
  exact gen _ _
 refine ⟨by rw [over_len _ _ _ hle, hsize, h.1], fun i x v hx hv => ?_⟩
 rw [over_get _ _ _ _ hle] at hx
 rw [hget i] at hv
 have hkl : xs.length = ws.toList.length := by rw [k.1]; simp
 by_cases hin : off ≤ i ∧ i < off + xs.length
 ·rw [if_pos hin] at hx
  rw [if_pos ⟨by omega, by omega, by have := h.1; omega⟩] at hv
  exact k.2 (i - off) x v hx (by simpa using hv)
 ·rw [if_neg hin] at hx
  rw [if_neg (by omega)] at hv
  exact h.2 i x v hx hv
theorem fill_ok {rr : Bool} {pl : Nat → Option (Nat × Nat)} : ∀ (ps : List (Nat × AV)) (qs : List (Nat × Value)) (cs cs' : List AV) (vs : Array Value), ps.length = qs.length → (∀ (k : Nat) (p : Nat × AV) (q : Nat × Value), ps[k]? = some p → qs[k]? = some q → p.1 = q.1 ∧ V G w rr p.2 q.2) →
  CellsR G w rr cs vs → overAll pl cs ps = some cs' → ∃ vs', Instr.fill pl vs qs = some vs' ∧ CellsR G w rr cs' vs' := by
 intro ps
 induction ps with
 | nil =>
   intro qs cs cs' vs hl _ hr h
   simp [overAll] at h
   subst h
   cases qs with
   | nil => exact ⟨vs, rfl, hr⟩
   | cons q qs => simp at hl
 | cons p ps ih =>
   intro qs cs cs' vs hl hpq hr h
   cases qs with
   | nil => simp at hl
   | cons q qs =>
     obtain ⟨i, A⟩ := p
     obtain ⟨i', v⟩ := q
     obtain ⟨rfl, hv⟩ := hpq 0 (i, A) (i', v) rfl rfl
     unfold overAll at h
     split at h
     ·rename_i off n xs hpl hxs
      split at h
      ·rename_i hn
       obtain ⟨hn1, hn2⟩ := hn
       have hc := cellsA_ok hxs hv
       have hsz : v.cells.size = n := by rw [← hc.1]; exact hn1
       have hr2 := hr.over (off := off) hc (by omega)
       obtain ⟨vs', h1, h2⟩ := ih qs _ cs' _ (by simpa using hl) (fun k p q h1 h2 => hpq (k + 1) p q (by simpa using h1) (by simpa using h2)) hr2 h
       refine ⟨vs', ?_, h2⟩
       unfold Instr.fill
       rw [hpl]
       simp only
       rw [if_neg]
       ·exact h1
       ·have := hr.1
        simp
        omega
      ·cases h
     ·cases h
theorem zeroA_ok {rr : Bool} {t : TypeId} {cs : List AV} (h : (zeroA P t).bind cellsA = some cs) : ∃ z, (zeroValue t).run P w = .ok z w ∧ CellsR G w rr cs z.cells := by
 cases hz : zeroA P t with
 | none => rw [hz] at h; cases h
 | some A =>
   rw [hz] at h
   unfold zeroA at hz
   cases hi : P.info? t with
   | none => rw [hi] at hz; cases hz
   | some i =>
     rw [hi] at hz
     cases hzz : i.zero with
     | none => simp [hzz] at hz
     | some z =>
       simp [hzz] at hz
       subst hz
       exact ⟨z, by simp [zeroValue, typeInfo, hi, hzz], cellsA_ok h (v2a_ok z)⟩
theorem run_mapM_list {α β : Type} (P : Program) (w : World) (f : α → Sem β) (h : α → β) : ∀ (l : List α), (∀ x ∈ l, (f x).run P w = .ok (h x) w) → (l.mapM f).run P w = .ok (l.map h) w := by
 intro l
 induction l with
 | nil => intro _; simp
 | cons x l ih =>
   intro hx
   rw [List.mapM_cons, Sem.run_bind, hx x (List.mem_cons_self ..)]
   simp only [Result.andThen_ok, Sem.run_bind, ih (fun y hy => hx y (List.mem_cons_of_mem _ hy)), Sem.run_pure, List.map_cons]
theorem run_mapM_array {α β : Type} (P : Program) (w : World) (f : α → Sem β) (h : α → β) (l : Array α) (hx : ∀ x ∈ l.toList, (f x).run P w = .ok (h x) w) : (l.mapM f).run P w = .ok (l.toList.map h).toArray w := by
 have h1 := run_mapM_list P w f h l.toList hx
 rw [Array.mapM_eq_mapM_toList]
 show (Functor.map List.toArray (List.mapM f l.toList)).run P w = _
 have hb : (Functor.map List.toArray (List.mapM f l.toList)) = (List.mapM f l.toList >>= fun x => pure x.toArray) := rfl
 rw [hb, Sem.run_bind, h1]
 rfl
theorem ok_build {t : TypeId} {ps : Array (Nat × Operand)} {g : Operand → AV} (ho : o.op = .build t ps) (hg : ∀ y : Operand, V G w true (g y) (a.eval y))
  (hc : cBuild P o.dst t (ps.toList.map fun p => (p.1, g p.2)) = some (true, u)) : Quiet P o a w G u := by
 have hV : ∀ (k : Nat) (p : Nat × AV) (q : Nat × Value), (ps.toList.map fun p => (p.1, g p.2))[k]? = some p → (ps.map fun (p : Nat × Operand) => (p.1, a.eval p.2)).toList[k]? = some q → p.1 = q.1 ∧ V G w true p.2 q.2 := by
  intro k p q h1 h2
  simp only [List.getElem?_map, Array.toList_map] at h1 h2
  cases hk : ps.toList[k]? with
  | none => rw [hk] at h1; cases h1
  | some r =>
    rw [hk] at h1 h2
    simp at h1 h2
    subst h1 h2
    exact ⟨rfl, hg r.2⟩
 have hlen : (ps.toList.map fun p => (p.1, g p.2)).length = (ps.map fun (p : Nat × Operand) => (p.1, a.eval p.2)).toList.length := by simp
 have fin : ∀ (vs : Array Value) (cs : List AV) d, o.dst = some d → (Instr.build t (ps.map fun (i, x) => (i, a.eval x))).run P w = .ok (.agg vs) w → CellsR G w true cs vs → u = [.put d (.agg cs)] → Quiet P o a w G u := by
  intro vs cs d hd hr hcs hu
  refine ⟨d, .agg cs, .agg vs, hd, hu, by simp [execOp, ho, hr], (.agg _ _ _ hcs.1 fun i x v hx hv => (hcs.2 i x v hx hv).1)⟩
 unfold cBuild at hc
 split at hc
 ·rename_i d cs fs hd hz hu
  split at hc
  ·rename_i hall
   split at hc
   ·rename_i cs' hov
    injection hc with hc
    injection hc with _ hc
    obtain ⟨z, hz1, hz2⟩ := zeroA_ok (P := P) (w := w) (G := G) (rr := true) hz
    have hpl : (fun f => (fieldOf P t f).map fun x => x.2) = (fun i => (fs.toList.map fun f => (f.offset, (szOf P f.type).getD 0)).toArray[i]?) := by
     funext f
     unfold fieldOf
     simp only [hu, List.getElem?_toArray, List.getElem?_map, Array.getElem?_toList]
     cases hf : fs[f]? with
     | none => rfl
     | some x =>
       obtain ⟨n, hn⟩ := Option.isSome_iff_exists.1 (List.all_eq_true.1 hall x (by rw [← Array.getElem?_toList] at hf; exact List.mem_of_getElem? hf))
       simp [hn]
    rw [hpl] at hov
    obtain ⟨vs', h1, h2⟩ := fill_ok _ _ _ _ _ hlen hV hz2 hov
    refine fin vs' cs' d hd ?_ h2 hc.symm
    unfold Instr.build
    rw [Sem.run_bind, hz1]
    simp only [Result.andThen_ok]
    rw [Sem.run_bind, run_underlying hu]
    simp only [Result.andThen_ok]
    rw [Sem.run_bind, run_mapM_array P w _ (fun f => (f.offset, (szOf P f.type).getD 0)) fs (fun f hf => by
     obtain ⟨n, hn⟩ := Option.isSome_iff_exists.1 (List.all_eq_true.1 hall f hf)
     rw [Sem.run_bind, szOf_run hn, hn]
     rfl)]
    simp only [Result.andThen_ok]
    have h1' : Instr.fill (fun x => (fs.toList.map fun f => (f.offset, (szOf P f.type).getD 0)).toArray[x]?) z.cells (ps.map fun (i, x) => (i, a.eval x)).toList = some vs' := h1
    rw [h1']
    rfl
   ·cases hc
  ·cases hc
 ·rename_i d cs n e hd hz hu
  split at hc
  ·rename_i sz hsz
   split at hc
   ·rename_i cs' hov
    injection hc with hc
    injection hc with _ hc
    obtain ⟨z, hz1, hz2⟩ := zeroA_ok (P := P) (w := w) (G := G) (rr := true) hz
    obtain ⟨vs', h1, h2⟩ := fill_ok _ _ _ _ _ hlen hV hz2 hov
    refine fin vs' cs' d hd ?_ h2 hc.symm
    unfold Instr.build
    rw [Sem.run_bind, hz1]
    simp only [Result.andThen_ok]
    rw [Sem.run_bind, run_underlying hu]
    simp only [Result.andThen_ok]
    rw [Sem.run_bind, szOf_run hsz]
    simp only [Result.andThen_ok]
    have h1' : Instr.fill (fun i => some (i * sz, sz)) z.cells (ps.map fun (i, x) => (i, a.eval x)).toList = some vs' := h1
    rw [h1']
    rfl
   ·cases hc
  ·cases hc
 ·cases hc
theorem load_run {t : TypeId} {ag : Bool} {n : Nat} {xs : List AV} {r : AV} {b off : Nat} {uu : Nat → Value} (hag : aggOf P t = some ag) (hn : szOf P t = some n) (hasm : asm ag xs = some r) (hl : xs.length = n)
  (hcell : ∀ (j : Nat) (x : AV), xs[j]? = some x → w.cell? ⟨b, off + j, none⟩ = some (uu j) ∧ V G w true x (uu j)) : ∃ v, (Instr.loadAt t (.pointer (some ⟨b, off, none⟩))).run P w = .ok v w ∧ V G w true r v := by
 unfold asm at hasm
 split at hasm
 ·injection hasm with hasm
  subst hasm
  refine ⟨.agg ((List.range n).map uu).toArray, ?_, .agg _ _ _ (by simp [hl]) (fun i x v hx hv => ?_)⟩
  ·simp only [Instr.loadAt, Instr.sureAddr]
   rw [Sem.run_bind, Sem.run_pure]
   simp only [Result.andThen_ok]
   unfold loadVar
   rw [Sem.run_bind, aggOf_run hag]
   simp only [Result.andThen_ok, if_true]
   rw [Sem.run_bind, szOf_run hn]
   simp only [Result.andThen_ok]
   rw [Sem.run_bind, run_loadCells w _ n uu (fun j hj => by
    have hj' : j < xs.length := by omega
    rw [addr_add]
    exact (hcell j xs[j] (List.getElem?_eq_getElem hj')).1)]
   rfl
  ·have hi : i < n := by have := (List.getElem?_eq_some_iff.1 hx).1; omega
   have hv' : v = uu i := by
    simp [hi] at hv
    exact hv.symm
   subst hv'
   exact (hcell i x hx).2
 ·rename_i x
  injection hasm with hasm
  subst hasm
  have h0 := hcell 0 x rfl
  refine ⟨uu 0, ?_, h0.2⟩
  simp only [Instr.loadAt, Instr.sureAddr]
  rw [Sem.run_bind, Sem.run_pure]
  simp only [Result.andThen_ok]
  unfold loadVar
  rw [Sem.run_bind, aggOf_run hag]
  simp only [Result.andThen_ok, Bool.false_eq_true, if_false]
  rw [run_load, show off = off + 0 from rfl, h0.1]
 ·cases hasm
theorem flatF_at {sz : Nat} {es : List (List AV)} {i j : Nat} (hj : j < sz) : flatF sz es (i * sz + j) = (es[i]?).bind (·[j]?) := by
 unfold flatF
 have h1 : (i * sz + j) / sz = i := by
  rw [Nat.add_comm, Nat.add_mul_div_right _ _ (by omega), Nat.div_eq_of_lt hj]
  omega
 have h2 : (i * sz + j) % sz = j := by
  rw [Nat.add_comm, Nat.add_mul_mod_self_right, Nat.mod_eq_of_lt hj]
 rw [h1, h2]
theorem idx_lt {i n j sz : Nat} (hi : i < n) (hj : j < sz) : i * sz + j < n * sz := by
 have : (i + 1) * sz ≤ n * sz := Nat.mul_le_mul_right _ hi
 rw [Nat.add_mul] at this
 omega
theorem row_cell {q : Nat} {zs : List Kd} {es : List (List AV)} (h : BlkOK G w q (.row zs es)) {p : Pl} (hp : (G.nm q).2 = some p) {i j : Nat} {e : List AV} {x : AV} (hi : es[i]? = some e) (hj : e[j]? = some x) :
  ∃ v, w.cell? ⟨p.b, p.o + i * zs.length + j, none⟩ = some v ∧ v.oneCell' = true ∧ V G w false x v := by
 obtain ⟨h1, h2, h3, h4⟩ := h
 rcases h4 with ⟨_, h5⟩ | ⟨p', h5, h6, h7, vs, h8, h9, h10, h11⟩
 ·rw [h5] at hp; cases hp
 ·rw [h5] at hp
  injection hp with hp
  subst hp
  have hil : i < es.length := (List.getElem?_eq_some_iff.1 hi).1
  have hjl : j < zs.length := by
   have := (List.getElem?_eq_some_iff.1 hj).1
   rwa [okRow_len _ _ (h1 e (List.mem_of_getElem? hi))] at this
  have hlt := idx_lt hil hjl
  have hlt'' : i * zs.length + j < p'.cap * zs.length := Nat.lt_of_lt_of_le hlt (Nat.mul_le_mul_right _ h6)
  have hlt' : p'.o + i * zs.length + j < p'.o + p'.cap * zs.length := by omega
  have hv : vs[p'.o + i * zs.length + j]? = some vs[p'.o + i * zs.length + j] := Array.getElem?_eq_getElem (by omega)
  refine ⟨_, h8.cell.trans hv, h10 _ (Array.getElem_mem _), h11 _ x _ hlt' ?_ hv⟩
  rw [Nat.add_assoc, flatO_add, flatF_at hjl, hi]
  exact hj
theorem cellsAt_ok (h : Rel B s a w G) {n : Nat} {X : AV} {xs : List AV} {v : Value} (hc : cellsAt s n X = some xs) (hx : V G w true X v) :
  ∃ (b off : Nat) (uu : Nat → Value), v = .pointer (some ⟨b, off, none⟩) ∧ xs.length = n ∧ ∀ (j : Nat) (x : AV), xs[j]? = some x → w.cell? ⟨b, off + j, none⟩ = some (uu j) ∧ V G w true x (uu j) := by
 unfold cellsAt at hc
 split at hc
 ·rename_i q off
  split at hc
  ·rename_i cs hq
   split at hc
   ·rename_i hle
    have hle := Nat.le_of_ble_eq_true hle
    injection hc with hc
    subst hc
    obtain ⟨p, hp, hv⟩ := hx.hp_inv
    have hb := h.blk q
    rw [hq] at hb
    obtain ⟨p', h1, _, _, vs, h2, h3, _, h5⟩ := hb
    rw [h1] at hp
    injection hp with hp
    subst hp
    refine ⟨p'.b, off, fun j => (vs[off + j]?).getD undef, hv, by simp; omega, fun j x hj => ?_⟩
    rw [List.getElem?_take] at hj
    split at hj
    ·rename_i hjn
     rw [List.getElem?_drop] at hj
     have hu : vs[off + j]? = some vs[off + j] := Array.getElem?_eq_getElem (by omega)
     refine ⟨by rw [h2.cell]; simp only [hu, Option.getD_some], ?_⟩
     simp only [hu, Option.getD_some]
     exact h5 _ _ _ (by omega) hj hu
    ·cases hj
   ·cases hc
  ·cases hc
 ·rename_i q zs i off
  split at hc
  ·rename_i es hes
   split at hc
   ·rename_i hle
    have hle := Nat.le_of_ble_eq_true hle
    injection hc with hc
    subst hc
    obtain ⟨p, hp, hi, hv⟩ := hx.ep_inv
    have hrow := h.row hes
    rw [hrow.2.2.1] at hi
    have hge : es[i]? = some es[i] := List.getElem?_eq_getElem hi
    have hgd : es.getD i [] = es[i] := by simp [List.getD, hge]
    have hok := hrow.1 _ (List.getElem_mem hi)
    have hlen := okRow_len _ _ hok
    rw [hgd]
    refine ⟨p.b, p.o + i * zs.length + off, fun j => (w.cell? ⟨p.b, p.o + i * zs.length + off + j, none⟩).getD undef, hv, by simp [fitRow_len]; omega, fun j x hj => ?_⟩
    rw [List.getElem?_take] at hj
    split at hj
    ·rename_i hjn
     rw [List.getElem?_drop] at hj
     have hz : (es[i])[off + j]? = some (es[i])[off + j] := List.getElem?_eq_getElem (by omega)
     obtain ⟨v', h1, _, h3⟩ := row_cell hrow hp hge hz
     rw [← Nat.add_assoc] at h1
     refine ⟨by simp only [h1, Option.getD_some], ?_⟩
     simp only [h1, Option.getD_some]
     exact (fitV hok hj hz h3).mono
    ·cases hj
   ·cases hc
  ·cases hc
 ·rename_i t cs
  split at hc
  ·rename_i hle
   have hle := Nat.le_of_ble_eq_true hle
   injection hc with hc
   subst hc
   obtain ⟨b, q, uu, hv, hb, hi, hr, hcell⟩ := hx.ip_inv
   refine ⟨b, q, uu, hv, by simp; omega, fun j x hj => ?_⟩
   rw [List.getElem?_take] at hj
   split at hj
   ·have := hcell j x hj
    exact ⟨this.1, this.2.2.mono⟩
   ·cases hj
  ·cases hc
 ·cases hc
theorem getK_mem {es : List (List AV)} {k : Int} (h : hasK es k = true) : getK es k ∈ es ∧ keyA (getK es k) = k := by
 unfold hasK at h
 unfold getK
 rw [List.any_eq_true] at h
 obtain ⟨e, he, hk⟩ := h
 cases hf : es.find? fun e => keyA e == k with
 | none =>
   rw [List.find?_eq_none] at hf
   exact absurd hk (hf e he)
 | some e' => exact ⟨List.mem_of_find?_eq_some hf, by simpa using List.find?_some hf⟩
theorem okRow_tail {z : Kd} {zs : List Kd} {e : List AV} (h : okRow (z :: zs) e = true) : ∃ x xs, e = x :: xs ∧ isKind z x = true ∧ okRow zs xs = true := by
 cases e with
 | nil => simp [okRow] at h
 | cons x xs =>
   simp only [okRow, Bool.and_eq_true] at h
   exact ⟨x, xs, rfl, h⟩
theorem elt_cell {q : Nat} {p : Pl} {zs : List Kd} {es : List (List AV)} {pd : Option (Int × Nat)} (hT : TblOK G w q p zs es pd) {k : Int} (hk : hasK es k = true) : G.own (p.tb k) = .box q ∧ ∃ vs, BlkAt w (p.tb k) vs ∧ zs.length ≤ vs.size ∧ (∀ v ∈ vs, v.oneCell' = true) ∧
  okRow zs ((getK es k).drop 1) = true ∧ ∀ (j : Nat) (x : AV), (eltOf zs es k)[j]? = some x → ∃ v, vs[j]? = some v ∧ V G w false x v := by
 obtain ⟨hm, hkk⟩ := getK_mem hk
 have hrow := hT.rows _ hm
 obtain ⟨y, ys, e1, _, hok⟩ := okRow_tail hrow
 obtain ⟨h1, vs, h2, h3, h4, h5⟩ := hT.elt _ hm
 rw [hkk] at h1 h2
 have hd : (getK es k).drop 1 = ys := by rw [e1]; rfl
 refine ⟨h1, vs, h2, h3, h4, by rw [hd]; exact hok, fun j x hx => ?_⟩
 unfold eltOf at hx
 rw [hd] at hx
 have hj : j < zs.length := by
  have := (List.getElem?_eq_some_iff.1 hx).1
  rwa [fitRow_len] at this
 have hjl : j < ys.length := by rw [okRow_len _ _ hok]; exact hj
 have hy : ys[j]? = some ys[j] := List.getElem?_eq_getElem hjl
 have hv : vs[j]? = some vs[j] := Array.getElem?_eq_getElem (by omega)
 refine ⟨_, hv, ?_⟩
 have hV := h5 j ys[j] _ hj (by show (getK es k)[j + 1]? = _; rw [e1]; simp) hv
 exact fitV hok hx hy hV
theorem ok_load (h : Rel B s a w G) {t : TypeId} {x : Operand} {X : AV} (ho : o.op = .load t x) (hx : V G w true X (a.eval x)) (hc : cLoad P s o.dst t X = some (true, u)) : Quiet P o a w G u := by
 unfold cLoad at hc
 split at hc
 ·rename_i ag n hag hn
  split at hc
  ·rename_i q zs k off
   split at hc
   ·rename_i es hes
    split at hc
    ·rename_i hle
     have hle := Nat.le_of_ble_eq_true hle
     split at hc
     ·rename_i r hr
      obtain ⟨hb, d', hd', rfl⟩ := rCond_inv hc
      obtain ⟨p, hp, hv⟩ := hx.mt_inv
      have hT := h.blk q
      rw [tblOf_inv hes] at hT
      obtain ⟨_, p', hp', hT⟩ := hT
      rw [hp'] at hp
      injection hp with hp
      subst hp
      obtain ⟨_, vs, h2, h3, h4, hok, h5⟩ := elt_cell hT hb
      have hl : (((eltOf zs es k).drop off).take n).length = n := by
       unfold eltOf
       simp [fitRow_len]; omega
      obtain ⟨v, h6, h7⟩ := load_run (b := p'.tb k) (off := off) (uu := fun j => (vs[off + j]?).getD undef) (G := G) (w := w) hag hn hr hl fun j x hj => by
       rw [List.getElem?_take] at hj
       split at hj
       ·rw [List.getElem?_drop] at hj
        obtain ⟨v, h8, h9⟩ := h5 _ _ hj
        rw [h2.cell, h8]
        exact ⟨rfl, h9.mono⟩
       ·cases hj
      refine ⟨d', r, v, hd', rfl, ?_, h7⟩
      simp [execOp, ho, hv, h6]
     ·cases hc
    ·cases hc
   ·cases hc
  split at hc
  ·rename_i xs hxs
   split at hc
   ·rename_i r hr
    obtain ⟨b, off, uu, hv, hl, hcell⟩ := cellsAt_ok h hxs hx
    obtain ⟨v, h1, h2⟩ := load_run hag hn hr hl hcell
    refine Quiet.mk1 rfl hc (v := v) ⟨?_, h2⟩
    simp [execOp, ho, hv, h1]
   ·cases hc
  ·cases hc
 ·cases hc
end
end Go.Proofs.Gv
