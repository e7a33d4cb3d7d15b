import Derived.Test.YthnbpgiohimkoaaPw14
set_option linter.unusedVariables false
namespace Go.Proofs.Gv
open Go.RowKit
section
variable {P : Program} {B : Bs} {s : St} {a : Act} {w w' : World} {G : Gh} {o : Oper} {u : List Wr} {K : Act → World → Prop} {Q : Exit → Act → World → Prop} {idOf : Nat → Option Nat}
theorem made_one {z : Array Value} (h : ∀ v ∈ z, v.oneCell' = true) (n : Nat) (hz : 0 < z.size) : ∀ v ∈ madeCells z n, v.oneCell' = true := by
 intro v hv
 unfold madeCells at hv
 rw [Array.mem_map] at hv
 obtain ⟨i, _, rfl⟩ := hv
 have hlt : i % z.size < z.size := Nat.mod_lt _ hz
 have e : z[i % z.size]! = z[i % z.size] := by simp [getElem!_pos, hlt]
 rw [e]
 exact h _ (Array.getElem_mem hlt)
theorem made_cells {z : List AV} {zv : Array Value} {n : Nat} (hz : CellsR G w true z zv) (hp : AV.pureL z = true) (hpos : 0 < z.length) : ∀ (t : Nat) (x : AV) (v : Value), flatF z.length (List.replicate n z) t = some x → (madeCells zv (n * z.length))[t]? = some v → V G w false x v := by
 intro t x v hx hv
 have h1 := flatF_replicate hx
 unfold madeCells at hv
 rw [Array.getElem?_map, Array.getElem?_range] at hv
 split at hv
 ·simp only [Option.map_some, Option.some.injEq] at hv
  have hlt : t % zv.size < zv.size := Nat.mod_lt _ (by rw [← hz.1]; exact hpos)
  have e1 : zv[t % zv.size]! = zv[t % zv.size] := by simp [getElem!_pos, hlt]
  rw [e1] at hv
  rw [hz.1] at h1
  refine (hz.2 _ x v h1 ?_).1.of_pure (AV.pureL_mem hp h1)
  rw [← hv]
  exact Array.getElem?_eq_getElem hlt
 ·cases hv
theorem ok_make (hid : ∀ d q, idOf d = some q → B.m ≤ q) {t : TypeId} {x y : Operand} (ho : o.op = .makeSlice t x y) (h : Rel B s a w G) (hc : cMake P idOf s o.dst t (evalA s.T x) (evalA s.T y) = some (true, u))
  (hK : ∀ a' w' G', Rel B (s.aps u) a' w' G' → K a' w') : o.wp P a w K Q := by
 have hx := h.eval x
 have hy := h.eval y
 unfold cMake at hc
 split at hc
 ·rename_i e k n k' m hu hA hB
  rw [hA] at hx
  rw [hB] at hy
  split at hc
  ·rename_i i zs z hi hks hzz
   split at hc
   ·rename_i hzok
    simp only [Bool.and_eq_true] at hzok
    obtain ⟨hzok, hzp⟩ := hzok
    have hzl := okRow_len _ _ hzok
    have hz : 0 < zs.length := (kindE_inv hks).2
    have hsz := zero_of hi hks
    obtain ⟨hb, _⟩ := newRow_inv hc
    simp at hb
    obtain ⟨⟨⟨h0, rfl⟩, h1⟩, h2⟩ := hb
    obtain ⟨zv, hz0, hzr⟩ := zero_inv (G := G) (w := w) hi hzz
    have hb48 : (i.bytes : Int) * n ≤ 281474976710656 := by rw [Int.mul_comm]; omega
    have hrun := run_make (P := P) w t e i zv hu hi hz0 k k' n n h0 (Int.le_refl _) hb48 h2
    have hlr : (List.replicate n.toNat z).length = n.toNat := List.length_replicate
    obtain ⟨d', G', hd, hrel⟩ := newRow_ok hid h hc hz (fun e he => by rw [List.eq_of_mem_replicate he]; exact hzok) (v := .slice (some ⟨w.heap.size, 0, none⟩) n.toNat n.toNat) (w' := w.alloc (.cells (madeCells zv.cells (n.toNat * i.size)) e))
     (.inl ⟨n.toNat, _, e, NewBlk.alloc w _ e, by rw [hlr], by rw [hlr]; exact Nat.le_refl _, by simp only [maxLen]; omega, by rw [size_madeCells, hsz]; exact Nat.le_refl _, made_one hzr.one _ (by rw [← hzr.1]; omega), fun t x v hx hv => by
       rw [hsz, ← hzl] at hv
       rw [← hzl] at hx
       exact made_cells hzr hzp (by omega) t x v hx hv⟩)
    refine wp_val (v := .slice (some ⟨w.heap.size, 0, none⟩) n.toNat n.toNat) (w' := w.alloc (.cells (madeCells zv.cells (n.toNat * i.size)) e)) (by simp [execOp, ho, hx.int_inv, hy.int_inv, hrun]) (hK _ _ G' ?_)
    rw [hd]
    exact hrel
   ·cases hc
  ·cases hc
 ·cases hc
structure RowsR (G : Gh) (w : World) (zs : List Kd) (es : List (List AV)) (vs : Array Value) : Prop where
 size : vs.size = es.length * zs.length
 ok : ∀ e ∈ es, okRow zs e = true
 one : ∀ v ∈ vs, v.oneCell' = true
 cells : ∀ (t : Nat) (x : AV) (v : Value), flatF zs.length es t = some x → vs[t]? = some v → V G w false x v
theorem fold_eq (off : Nat) (vs ws : Array Value) (h : off + ws.size ≤ vs.size) : ws.zipIdx.foldl (fun (cs : Array Value) (x : Value × Nat) => cs.setIfInBounds (off + x.2) x.1) vs = (vs.toList.take off ++ ws.toList ++ vs.toList.drop (off + ws.toList.length)).toArray := by
 have hfold : (ws.zipIdx.foldl (fun (cs : Array Value) (x : Value × Nat) => cs.setIfInBounds (off + x.2) x.1) vs) = ((ws.toList.zipIdx 0).foldl (fun (cs : Array Value) (x : Value × Nat) => cs.setIfInBounds (off + x.2) x.1) vs) := by
  rw [← Array.foldl_toList, Array.toList_zipIdx]
 rw [hfold]
 apply Array.ext_getElem?
 intro i
 rw [foldl_set off ws.toList 0 vs i, splice_get (by simpa using h)]
 by_cases h1 : off ≤ i ∧ i < off + ws.toList.length
 ·rw [if_pos h1, if_pos ⟨by omega, by omega, by simp at h1; omega⟩]
  simp
 ·rw [if_neg h1, if_neg (by omega)]
theorem fill_cons {pl : Nat → Option (Nat × Nat)} {vs : Array Value} {i off n : Nat} {v : Value} {qs : List (Nat × Value)} (h : pl i = some (off, n)) (h1 : v.cells.size = n) (h2 : off + v.cells.size ≤ vs.size) :
  Instr.fill pl vs ((i, v) :: qs) = Instr.fill pl (vs.toList.take off ++ v.cells.toList ++ vs.toList.drop (off + v.cells.toList.length)).toArray qs := by
 conv => lhs; unfold Instr.fill
 rw [h]
 simp only
 rw [if_neg (by simp only [ne_eq, Bool.or_eq_true, decide_eq_true_eq, not_or, Decidable.not_not]; omega)]
 have := fold_eq off vs v.cells h2
 rw [← this]
theorem fillE_ok {zs : List Kd} (hz : 0 < zs.length) : ∀ (ps : List (Nat × AV)) (qs : List (Nat × Value)) (es es' : List (List AV)) (vs : Array Value), ps.length = qs.length → (∀ (k : Nat) (p : Nat × AV) (q : Nat × Value), ps[k]? = some p → qs[k]? = some q → p.1 = q.1 ∧ V G w true p.2 q.2) →
  RowsR G w zs es vs → fillE zs es ps = some es' → ∃ vs', Instr.fill (fun i => some (i * zs.length, zs.length)) vs qs = some vs' ∧ RowsR G w zs es' vs' ∧ es'.length = es.length := by
 intro ps
 induction ps with
 | nil =>
   intro qs es es' vs hl _ hr h
   simp [fillE] at h
   subst h
   cases qs with
   | nil => exact ⟨vs, rfl, hr, rfl⟩
   | cons q qs => simp at hl
 | cons p ps ih =>
   intro qs es es' vs hl hpq hr h
   cases qs with
   | nil => simp at hl
   | cons q qs =>
     obtain ⟨i, A⟩ := p
     obtain ⟨i', v⟩ := q
     obtain ⟨rfl, hv⟩ := hpq 0 (i, A) (i', v) rfl rfl
     unfold fillE at h
     split at h
     ·rename_i e xs he hxs
      split at h
      ·rename_i hcond
       simp only [Bool.and_eq_true] at hcond
       obtain ⟨hok, hpure⟩ := hcond
       have hxl := okRow_len _ _ hok
       have hc : CellsR G w true xs v.cells := cellsA_ok hxs hv
       have hil : i < es.length := (List.getElem?_eq_some_iff.1 he).1
       have hvsz : v.cells.size = zs.length := by have := hc.1; omega
       have hle : (i + 1) * zs.length ≤ es.length * zs.length := Nat.mul_le_mul_right _ hil
       rw [Nat.add_mul, Nat.one_mul, ← hr.size] at hle
       have hfit : i * zs.length + v.cells.toList.length ≤ vs.size := by simp only [Array.length_toList]; omega
       have hr2 : RowsR G w zs (es.set i xs) (vs.toList.take (i * zs.length) ++ v.cells.toList ++ vs.toList.drop (i * zs.length + v.cells.toList.length)).toArray := by
        refine ⟨by rw [splice_size hfit, hr.size, List.length_set], fun el hel => ?_, splice_one hr.one (fun y hy => hc.one y (by simpa using hy)), fun t x y hx hy => ?_⟩
        ·rcases List.mem_or_eq_of_mem_set hel with h1 | h1
         ·exact hr.ok el h1
         ·rw [h1]; exact hok
        ·rw [splice_get hfit] at hy
         obtain ⟨el, hel, hex⟩ := flatF_inv hx
         have hmod := Nat.mod_lt t hz
         have hdm := Nat.div_add_mod t zs.length
         rw [List.getElem?_set] at hel
         by_cases hti : i = t / zs.length
         ·rw [if_pos hti, if_pos hil] at hel
          injection hel with hel
          subst hel
          rw [← hti, Nat.mul_comm] at hdm
          rw [if_pos ⟨by omega, by simp only [Array.length_toList]; omega⟩] at hy
          have e1 : t - i * zs.length = t % zs.length := by omega
          rw [e1] at hy
          exact (hc.2 _ _ _ hex (by simpa using hy)).1.of_pure (AV.pureL_mem hpure hex)
         ·rw [if_neg hti] at hel
          rw [if_neg] at hy
          ·exact hr.cells t x y (by unfold flatF; rw [hel]; exact hex) hy
          ·rintro ⟨h7, h8⟩
           apply hti
           simp only [Array.length_toList] at h8
           have e4 : t < (i + 1) * zs.length := by rw [Nat.add_mul]; omega
           have e5 := (Nat.le_div_iff_mul_le hz).2 h7
           have e6 := (Nat.div_lt_iff_lt_mul hz).2 e4
           omega
       obtain ⟨vs', h1, h2, h3⟩ := ih qs _ es' _ (by simpa using hl) (fun k p q h1 h2 => hpq (k + 1) p q (by simpa using h1) (by simpa using h2)) hr2 h
       refine ⟨vs', ?_, h2, by rw [h3, List.length_set]⟩
       rw [fill_cons (off := i * zs.length) (n := zs.length) rfl hvsz (by omega)]
       exact h1
      ·cases h
     ·cases h
theorem ok_buildSlice (hid : ∀ d q, idOf d = some q → B.m ≤ q) {t : TypeId} {n : Nat} {ps : Array (Nat × Operand)} (ho : o.op = .buildSlice t n ps) (h : Rel B s a w G)
  (hc : cBuildSlice P idOf s o.dst t n (ps.toList.map fun p => (p.1, evalA s.T p.2)) = some (true, u)) (hK : ∀ a' w' G', Rel B (s.aps u) a' w' G' → K a' w') : o.wp P a w K Q := by
 have hV : ∀ (k : Nat) (p : Nat × AV) (q : Nat × Value), (ps.toList.map fun p => (p.1, evalA s.T p.2))[k]? = some p → (ps.map fun (p : Nat × Operand) => (p.1, a.eval p.2)).toList[k]? = some q → p.1 = q.1 ∧ V G w true p.2 q.2 := by
  intro k p q h1 h2
  simp only [List.getElem?_map, Array.toList_map] at h1 h2
  cases hk : ps.toList[k]? with
  | none => rw [hk] at h1; cases h1
  | some r =>
    rw [hk] at h1 h2
    simp at h1 h2
    subst h1 h2
    exact ⟨rfl, h.eval r.2⟩
 have hlen : (ps.toList.map fun p => (p.1, evalA s.T p.2)).length = (ps.map fun (p : Nat × Operand) => (p.1, a.eval p.2)).toList.length := by simp
 unfold cBuildSlice at hc
 split at hc
 ·rename_i e hu
  split at hc
  ·rename_i zs z hks hzz
   split at hc
   ·rename_i hcond
    simp only [Bool.and_eq_true, Nat.ble_eq] at hcond
    obtain ⟨⟨hzok, hzp⟩, hcap⟩ := hcond
    split at hc
    ·rename_i es hfill
     have hz : 0 < zs.length := (kindE_inv hks).2
     have hzl := okRow_len _ _ hzok
     have hsz := (kindE_inv hks).1
     obtain ⟨zv, hz1, hzr⟩ := zeroA_ok (P := P) (w := w) (G := G) (rr := true) hzz
     have hrows : RowsR G w zs (List.replicate n z) (madeCells zv.cells (n * zs.length)) := by
      refine ⟨by rw [size_madeCells, List.length_replicate], fun e he => by rw [List.eq_of_mem_replicate he]; exact hzok, made_one hzr.one _ (by rw [← hzr.1]; omega), fun t x v hx hv => ?_⟩
      rw [← hzl] at hx hv
      exact made_cells hzr hzp (by omega) t x v hx hv
     obtain ⟨vs', hf1, hf2, hf3⟩ := fillE_ok hz _ _ _ _ _ hlen hV hrows hfill
     rw [List.length_replicate] at hf3
     have hnb : n ≤ 16777216 := by
      have : n * 1 ≤ n * zs.length := Nat.mul_le_mul_left _ (by omega)
      omega
     obtain ⟨d', G', hd, hrel⟩ := newRow_ok hid h hc hz hf2.ok (v := .slice (some ⟨w.heap.size, 0, none⟩) n n) (w' := w.alloc (.cells vs' e))
      (.inl ⟨n, vs', e, NewBlk.alloc w vs' e, by rw [hf3], by rw [hf3]; exact Nat.le_refl _, by simp only [maxLen]; omega, by rw [hf2.size, hf3]; exact Nat.le_refl _, hf2.one, hf2.cells⟩)
     have hrun : (Instr.buildSlice t n (ps.map fun (i, x) => (i, a.eval x))).run P w = .ok (.slice (some ⟨w.heap.size, 0, none⟩) n n) (w.alloc (.cells vs' e)) := by
      unfold Instr.buildSlice
      rw [Sem.run_bind, run_underlying hu]
      simp only [Result.andThen_ok]
      rw [Sem.run_bind, szOf_run hsz]
      simp only [Result.andThen_ok]
      rw [if_neg (by omega)]
      have hf1' : Instr.fill (fun i => some (i * zs.length, zs.length)) (madeCells zv.cells (n * zs.length)) (ps.map fun (i, x) => (i, a.eval x)).toList = some vs' := hf1
      by_cases h0 : n * zs.length = 0
      ·have hn0 : n = 0 := by
        rcases Nat.mul_eq_zero.1 h0 with h | h
        ·exact h
        ·omega
       subst hn0
       rw [if_pos h0, Sem.run_bind]
       simp only [Sem.run_pure, Result.andThen_ok]
       have hm : ∀ z' : Array Value, (Array.range (0 * zs.length)).map (fun x => z'[x % z'.size]!) = madeCells zv.cells (0 * zs.length) := by intro z'; simp [madeCells]
       rw [hm, hf1']
       simp [Go.newRow]
      ·rw [if_neg h0, Sem.run_bind, hz1]
       simp only [Result.andThen_ok]
       rw [Sem.run_bind]
       simp only [Result.andThen_ok, Sem.run_pure]
       have hm : (Array.range (n * zs.length)).map (fun x => zv.cells[x % zv.cells.size]!) = madeCells zv.cells (n * zs.length) := rfl
       rw [hm, hf1']
       simp [Go.newRow]
     refine wp_val (v := .slice (some ⟨w.heap.size, 0, none⟩) n n) (w' := w.alloc (.cells vs' e)) (by simp [execOp, ho, hrun]) (hK _ _ G' ?_)
     rw [hd]
     exact hrel
    ·cases hc
   ·cases hc
  ·cases hc
 ·cases hc
theorem run_mark {w : World} {b o : Nat} {vs : Array Value} (h : BlkAt w b vs) : ∃ w', (markStringish ⟨b, o, none⟩).run P w = .ok () w' ∧ BlkAt w' b vs ∧ w'.os = w.os ∧ w'.tape = w.tape ∧ w'.output = w.output ∧ w'.heap.size = w.heap.size ∧ ∀ b', b' ≠ b → w'.heap[b']? = w.heap[b']? := by
 obtain ⟨ty, fz, hh, hz⟩ := h
 have hsh : w.shape? b = some (ty, vs.size) := by simp [World.shape?, hh]
 refine ⟨w.freeze ⟨b, vs.size, none⟩ 1, by simp [markStringish, hsh], ?_, rfl, rfl, rfl, by simp [World.freeze], fun b' hb' => ?_⟩
 ·obtain ⟨lo, hi⟩ := fz
  have hlt := (Array.getElem?_eq_some_iff.1 hh).1
  have hv := (Array.getElem?_eq_some_iff.1 hh).2
  refine ⟨ty, if lo == hi then (vs.size, vs.size + 1) else (min lo vs.size, max hi (vs.size + 1)), ?_, ?_⟩
  ·simp [World.freeze, Array.getElem?_modify, hh]
  ·cases hlh : lo == hi with
   | true => exact .inr (by simp)
   | false =>
     rcases hz with hz | hz
     ·injection hz with h1 h2
      subst h1 h2
      simp at hlh
     ·refine .inr ?_
      simp only [Bool.false_eq_true, if_false]
      omega
 ·simp [World.freeze, Array.getElem?_modify, Ne.symm hb']
theorem ok_conv (hid : ∀ d q, idOf d = some q → B.m ≤ q) {src dst : TypeId} {x : Operand} (ho : o.op = .convert src dst x) (h : Rel B s a w G) (hc : cConv P idOf s o.dst src dst (evalA s.T x) = some (true, u))
  (hK : ∀ a' w' G', Rel B (s.aps u) a' w' G' → K a' w') : o.wp P a w K Q := by
 have hx := h.eval x
 have run1 : ∀ v, (convert src dst (a.eval x)).run P w = .ok v w → (execOp a.eval o).run P w = .ok (.value v) w := by
  intro v h
  simp [execOp, ho, h]
 unfold cConv at hc
 split at hc
 ·rename_i k k' k'' n hs hd hA
  rw [hA] at hx
  refine (Quiet.mk1 (P := P) (G := G) (v := .int k' (k'.wrap n)) rfl hc ⟨run1 _ ?_, .int _ _ _⟩).step h hK
  simp [hx.int_inv, convert, run_underlying hs, run_underlying hd, Conv.intToInt]
 ·rename_i l hs hd hA
  rw [hA] at hx
  refine (Quiet.mk1 (P := P) (G := G) (v := .string ⟨l.toArray⟩) rfl hc ⟨run1 _ ?_, .str _ _⟩).step h hK
  simp [hx.str_inv, convert, run_underlying hs, run_underlying hd]
 ·-- a text as bytes
  rename_i e l hs hd hA
  rw [hA] at hx
  split at hc
  ·rename_i he
   obtain ⟨hb, _⟩ := newRow_inv hc
   simp at hb
   have hrun := run_bytes_of_string (P := P) w src dst e ⟨l.toArray⟩ hs hd he
   generalize hcap : grownCap w (⟨l.toArray⟩ : ByteArray).size 0 e = cap at hrun
   have hge : l.length ≤ cap := by rw [← hcap]; exact grownCap_ge _ _ _ _
   have hcm : cap ≤ maxLen := by rw [← hcap]; exact grownCap_le_maxLen _ _ _ _ (by rw [str_size]; simp only [maxLen]; omega)
   have hbs : (bytesRow ⟨l.toArray⟩ cap).size = cap := by
    unfold bytesRow
    simp only [Array.size_append, Array.size_map]
    simp
    have : (⟨l.toArray⟩ : ByteArray).size = l.length := rfl
    omega
   have hN : NewBlk w (w.drew.alloc (.cells (bytesRow ⟨l.toArray⟩ cap) e ((bytesRow ⟨l.toArray⟩ cap).size, (bytesRow ⟨l.toArray⟩ cap).size + 1))) (bytesRow ⟨l.toArray⟩ cap) e :=
    ⟨rfl, rfl, rfl, by simp, fun b hb => Below.heap_alloc w.drew _ b hb, _, heap_alloc_new w.drew _, .inr (Nat.le_refl _)⟩
   have hlen : (l.map ofB).length = l.length := List.length_map _
   have hone : ∀ v ∈ bytesRow ⟨l.toArray⟩ cap, v.oneCell' = true := by
    intro v hv
    unfold bytesRow at hv
    rw [Array.mem_append] at hv
    rcases hv with hv | hv
    ·simp only [Array.mem_map] at hv
     obtain ⟨b, _, rfl⟩ := hv
     rfl
    ·first
      | (have := Array.eq_of_mem_replicate hv; subst this; rfl)
      | (simp at hv; obtain ⟨_, rfl⟩ := hv; rfl)
   have hcells : ∀ (t : Nat) (x : AV) (v : Value), flatF [Kd.int .u8].length (l.map ofB) t = some x → (bytesRow ⟨l.toArray⟩ cap)[t]? = some v → V G w false x v := by
    intro t y v hy hv
    obtain ⟨b, hb', rfl⟩ := flatF_map_ofB l t y hy
    have hil : t < l.length := (List.getElem?_eq_some_iff.1 hb').1
    have : v = .int .u8 (b.toNat : Int) := by
     unfold bytesRow at hv
     rw [Array.getElem?_append_left (by simp; omega)] at hv
     simp [hb'] at hv
     exact hv.symm
    subst this
    exact .int _ _ _
   obtain ⟨d', G', hd', hrel⟩ := newRow_ok hid h hc (by simp) (fun e he => by
    obtain ⟨b, _, rfl⟩ := List.mem_map.1 he
    rfl) (v := .slice (some ⟨w.heap.size, 0, none⟩) l.length cap) (w' := w.drew.alloc (.cells (bytesRow ⟨l.toArray⟩ cap) e ((bytesRow ⟨l.toArray⟩ cap).size, (bytesRow ⟨l.toArray⟩ cap).size + 1)))
    (.inl ⟨cap, _, e, hN, by rw [hlen], by rw [hlen]; exact hge, hcm, by rw [hbs]; simp, hone, hcells⟩)
   refine wp_val (v := .slice (some ⟨w.heap.size, 0, none⟩) l.length cap) (w' := w.drew.alloc (.cells (bytesRow ⟨l.toArray⟩ cap) e ((bytesRow ⟨l.toArray⟩ cap).size, (bytesRow ⟨l.toArray⟩ cap).size + 1))) (by
    simp only [execOp, ho, hx.str_inv]
    rw [Sem.run_bind, hrun]
    rfl) (hK _ _ G' ?_)
   rw [hd']
   exact hrel
  ·cases hc
 ·rename_i A e hs hd
  split at hc
  ·rename_i es he hes
   refine (Quiet.mk' (P := P) (G := G) (v := .string ⟨(es.map byteOf).toArray⟩) rfl hc fun hb => ⟨run1 _ ?_, .str _ _⟩).step h hK
   obtain ⟨h1, A, c, hv, h2⟩ := elsOf_ok h hes hx
   rw [hv]
   by_cases hne : es = []
   ·subst hne
    cases A with
    | none => exact run_convert_bytes_nil w src e hs he 0 c dst hd
    | some ad => exact run_convert_bytes_back w src dst e ad c [] hs he hd (by simp)
   ·obtain ⟨b, off, rfl, h3⟩ := h2 hne
    have hl : es.length = (es.map byteOf).length := by simp
    rw [hl]
    refine run_convert_bytes_back w src dst e _ c (es.map byteOf) hs he hd (fun j hj => ?_)
    have hj' : j < es.length := by simpa using hj
    have hge : es[j]? = some es[j] := List.getElem?_eq_getElem hj'
    have hB : isB es[j] = true := List.all_eq_true.1 hb _ (List.getElem_mem hj')
    have hok := h1 _ (List.getElem_mem hj')
    rw [addr_add]
    generalize he' : es[j] = el at hge hB hok
    have hel := okRow_len _ _ hok
    obtain ⟨y, rfl⟩ : ∃ y, el = [y] := by
     cases el with
     | nil => simp at hel
     | cons y el => cases el with
       | nil => exact ⟨y, rfl⟩
       | cons z el => simp at hel
    obtain ⟨n, rfl⟩ : ∃ n, y = .int .u8 n := by
     simp only [okRow, Bool.and_true] at hok
     cases y <;> simp [isKind] at hok
     subst hok
     exact ⟨_, rfl⟩
    obtain ⟨v, h4, _, h5⟩ := h3 j 0 _ _ hge rfl
    rw [h5.int_inv] at h4
    simp only [List.length_singleton, Nat.mul_one, Nat.add_zero] at h4
    rw [h4]
    simp [isB, intOf] at hB
    simp [he', byteOf, intOf]
    omega
  ·cases hc
 ·-- a row of bytes, marked as a constant text's
  rename_i e0 e q zs hs hd hA
  rw [hA] at hx
  split at hc
  ·rename_i es d he hes hdd
   split at hc
   ·rename_i hsd
    split at hc
    rotate_left
    ·-- it keeps its number
     injection hc with hc
     injection hc with hb hc
     have hne : 0 < es.length := by simpa using hb
     have hrow := h.row hes
     obtain ⟨h1, h2, h3, h4⟩ := hrow
     rcases h4 with ⟨h4, _⟩ | ⟨p, h4, h5, hown, vs, hh, hsz, hone, hcells⟩
     ·subst h4
      simp at hne
     ·generalize hv : a.eval x = vx at hx run1
      cases hx with
      | rf _ _ n c p' hp hn hc' hpc hm =>
        rw [h4] at hp
        injection hp with hp
        subst hp
        rw [h3] at hn
        subst hn
        obtain ⟨w', hr, hb1, hb2, hb3, hb4, hb5, hb6⟩ := run_mark (P := P) (o := p.o) hh
        have hrel := h.rewrite hown hb2 hb3 hb4 (by omega) (fun b' hb' _ => hb6 b' hb') (.row zs es) fun hst => by
         refine ⟨h1, h2, h3, .inr ⟨p, h4, h5, hown, vs, hb1, hsz, hone, fun t x v ht hx hvx => ?_⟩⟩
         have key := hcells t x v ht hx hvx
         exact key.upd hst (by rw [(key.flat rfl).1]; simp)
        refine wp_val (v := .slice (some ⟨p.b, p.o, none⟩) es.length c) (w' := w') ?_ (hK _ _ G ?_)
        ·subst hsd
         have hee := hs.symm.trans hd
         injection hee with hee
         injection hee with hee
         subst hee
         simp [execOp, ho, hv, convert, run_underlying hs, run_underlying he, hr]
        ·rw [hdd, ← hc]
         exact hrel.put d (.rf q zs) _ (.rf q zs es.length c p h4 h3.symm hc' hpc hm)
      | rfnil _ _ A h0 => omega
    injection hc with hc
    injection hc with hb hc
    have hne : 0 < es.length := by simpa using hb
    have hrow := h.row hes
    obtain ⟨h1, h2, h3, h4⟩ := hrow
    rcases h4 with ⟨h4, _⟩ | ⟨p, h4, h5, hown, vs, hh, hsz, hone, hcells⟩
    ·subst h4
     simp at hne
    ·generalize hv : a.eval x = vx at hx run1
     cases hx with
     | rf _ _ n c p' hp hn hc' hpc hm =>
       rw [h4] at hp
       injection hp with hp
       subst hp
       rw [h3] at hn
       subst hn
       obtain ⟨w', hr, hb1, hb2, hb3, hb4, hb5, hb6⟩ := run_mark (P := P) (o := p.o) hh
       have hap : AppV G w w' q zs es (.slice (some ⟨p.b, p.o, none⟩) es.length c) :=
        .inr ⟨p.b, c, vs, e, p.o, rfl, hc', hm, hb1, Nat.le_trans (Nat.add_le_add_left (Nat.mul_le_mul_right _ hpc) _) hsz, hone, fun t x v hx hvx => by
         have hlt : t < p.cap * zs.length := by
          have hlt' : t / zs.length < es.length := by
           unfold flatF at hx
           cases hq : es[t / zs.length]? with
           | none => rw [hq] at hx; cases hx
           | some e' => exact (List.getElem?_eq_some_iff.1 hq).1
          have h7 : t < es.length * zs.length := (Nat.div_lt_iff_lt_mul h2).1 hlt'
          exact Nat.lt_of_lt_of_le h7 (Nat.mul_le_mul_right _ h5)
         exact hcells (p.o + t) x v (by omega) (by rw [flatO_add]; exact hx) hvx, .inr ⟨hown, hb2, hb3, hb4, by omega, fun b' hb' _ => hb6 b' hb'⟩⟩
       obtain ⟨d', G', hd', hrel⟩ := appRow_ok (idOf := fun _ => none) (alt := fun _ => none) (fun _ _ h => by cases h) (fun _ _ h => by cases h) h (d := some d) (x := .tmp 0) (b := true) h2 h1 (u := u) (by
        simp only [appRow, Option.map_none]
        rw [hc]) hap
       refine wp_val (v := .slice (some ⟨p.b, p.o, none⟩) es.length c) (w' := w') ?_ (hK _ _ G' ?_)
       ·subst hsd
        have hee := hs.symm.trans hd
        injection hee with hee
        injection hee with hee
        subst hee
        simp [execOp, ho, hv, convert, run_underlying hs, run_underlying he, hr]
       ·rw [hdd, hd']
        exact hrel
     | rfnil _ _ A h0 => omega
   ·cases hc
  ·cases hc
 ·cases hc
theorem ok_arrSlice {t : TypeId} {x : Operand} {n : Nat} {e : TypeId} (ho : o.op = .slice t x none none none) (h : Rel B s a w G) {q : Nat} {cs : List AV} {zs : List Kd} {d : Nat} (hA : evalA s.T x = .hp q 0) (hu : P.underlying t = some (.array n e)) (hq : s.c q = .var cs) (hk : kindE P e = some zs) (hd : o.dst = some d)
  (hzl : zs.length = 1) (hn : cs.length = n) (hnb : n ≤ 16777216) (hall : ∀ x ∈ cs, okRow zs [x] = true ∧ x.pure = true) (hK : ∀ a' w' G', Rel B (s.aps [.blk q (.row zs (cs.map fun x => [x])), .put d (.rf q zs)]) a' w' G' → K a' w') : o.wp P a w K Q := by
 have hx := h.eval x
 rw [hA] at hx
 obtain ⟨pl, hpl, hv⟩ := hx.hp_inv
 have hb := h.blk q
 rw [hq] at hb
 obtain ⟨p', h1, ⟨hcap, ho0⟩, hown, vs, hat, hsz, hone, hcells⟩ := hb
 rw [h1] at hpl
 injection hpl with hpl
 subst hpl
 have hel : P.elem t = e := by simp [Program.elem, hu]
 have har : P.arrayLen t = n := by simp [Program.arrayLen, hu]
 have hrun : (execOp a.eval o).run P w = .ok (.value (.slice (some ⟨p'.b, 0, none⟩) n n)) w := by
  simp only [execOp, ho, hv, Option.map_none]
  simp [Instr.sliceAt, run_underlying hu, Instr.sureAddr, Instr.sliceBounds, szOf_run (kindE_inv hk).1, Addr.add]
 have hl : (cs.map fun x => [x]).length = cs.length := List.length_map _
 have hb2 : BlkOK G w q (.row zs (cs.map fun x => [x])) := by
  refine ⟨fun e he => ?_, by omega, by rw [h1, hl], .inr ⟨p', by rw [h1], by rw [hl, hcap]; exact Nat.le_refl _, hown, vs, hat, by rw [hzl, hcap, ho0]; simpa using hsz, hone, fun t y v ht hy hv' => ?_⟩⟩
  ·obtain ⟨y, hy, rfl⟩ := List.mem_map.1 he
   exact (hall y hy).1
  ·rw [hzl, ho0] at hy ht
   rw [flatO_zero] at hy
   unfold flatF at hy
   rw [Nat.div_one, Nat.mod_one, List.getElem?_map] at hy
   cases hc : cs[t]? with
   | none => rw [hc] at hy; cases hy
   | some y' =>
     rw [hc] at hy
     simp at hy
     subst hy
     exact (hcells t y' v (by have := (List.getElem?_eq_some_iff.1 hc).1; omega) hc hv').of_pure (hall y' (List.mem_of_getElem? hc)).2
 refine wp_val hrun (hK _ _ G ?_)
 rw [hd]
 exact (h.setB q _ hb2).put d (.rf q zs) (.slice (some ⟨p'.b, 0, none⟩) n n) (ho0 ▸ .rf q zs n n p' (by rw [h1]) (by rw [h1, hn]) (Nat.le_refl _) (by omega) (by
  simp only [maxLen]; omega))
end
end Go.Proofs.Gv
