import Derived.Test.YthnbpgiohimkoaaPw13
set_option linter.unusedVariables false
namespace Go.Proofs.Gv
open Go.RowKit
section
variable {P : Program} {B : Bs} {s : St} {a : Act} {w w' : World} {G : Gh} {o : Oper} {u : List Wr} {K : Act → World → Prop} {Q : Exit → Act → World → Prop} {idOf : Nat → Option Nat}
theorem setK_mem {es : List (List AV)} {k : Int} {row e : List AV} (h : e ∈ setK es k row) : (e = row ∧ ∃ e0 ∈ es, keyA e0 = k) ∨ (e ∈ es ∧ keyA e ≠ k) := by
 unfold setK at h
 obtain ⟨e0, h0, rfl⟩ := List.mem_map.1 h
 cases hk : keyA e0 == k with
 | true => exact .inl ⟨rfl, e0, h0, by simpa using hk⟩
 | false => exact .inr ⟨h0, by simpa using hk⟩
theorem ok_store {t : TypeId} {p x : Operand} (ho : o.op = .store t p x) (hdst : o.dst = none) (h : Rel B s a w G) (hc : cStore P s t (evalA s.T p) (evalA s.T x) = some (true, u))
  (hK : ∀ a' w' G', Rel B (s.aps u) a' w' G' → K a' w') : o.wp P a w K Q := by
 have hp := h.eval p
 have hx := h.eval x
 unfold cStore at hc
 split at hc
 ·rename_i A q off n xs hA hn hxs
  rw [hA] at hp
  have hcr := cellsA_ok hxs hx
  split at hc
  ·rename_i cs hq
   split at hc
   ·rename_i hcond
    simp only [Bool.and_eq_true, Nat.beq_eq, Nat.ble_eq, Nat.blt_eq] at hcond
    obtain ⟨hl, hle, hpos⟩ := hcond
    injection hc with hc
    injection hc with _ hc
    subst hc
    obtain ⟨pl, hpl, hv⟩ := hp.hp_inv
    have hb := h.blk q
    rw [hq] at hb
    obtain ⟨p', h1, hcap, hown, vs, hat, hsz, hone, hcells⟩ := hb
    rw [h1] at hpl
    injection hpl with hpl
    subst hpl
    have hnl : (a.eval x).cells.toList.length = n := by simp only [Array.length_toList]; have := hcr.1; omega
    have hfit : off + (a.eval x).cells.toList.length ≤ vs.size := by omega
    have hst := run_storeAt (P := P) (w := w) hat hfit (fun v hv => hcr.one v (by simpa using hv))
    have hrun : (execOp a.eval o).run P w = .ok .skip (w.setRow p'.b (vs.toList.take off ++ (a.eval x).cells.toList ++ vs.toList.drop (off + (a.eval x).cells.toList.length)).toArray) := by
     have hsz2 : (a.eval x).cells.size = n := by simpa using hnl
     simp only [execOp, ho, hv, Instr.storeAt, Instr.sureAddr]
     simp [storeVar, szOf_run hn, hsz2, hst]
    refine wp_skip' hrun (hK _ _ G ?_)
    rw [hdst]
    have hap : s.aps [.cel q off xs] = s.ap (.blk q (.var (over cs off xs))) := by
     have hble : Nat.ble (off + xs.length) cs.length = true := Nat.ble_eq_true_of_le (by omega)
     show s.ap (.cel q off xs) = _
     simp only [St.ap, hq, hble, cond_true]
    rw [hap]
    refine h.rewriteRow hown _ _ fun hstay => ⟨p', ?_, ?_, hown, _, hat.set (splice_size hfit), ?_, splice_one hone (fun v hv => hcr.one v (by simpa using hv)), fun i y v hi hy hv' => ?_⟩
    ·rw [h1, over_len _ _ _ (by omega)]
    ·exact ⟨by rw [hcap.1, over_len _ _ _ (by omega)], hcap.2⟩
    ·rw [splice_size hfit, over_len _ _ _ (by omega)]
     exact hsz
    ·rw [over_len _ _ _ (by omega)] at hi
     rw [splice_get hfit] at hv'
     replace hy : (over cs off xs)[i]? = some y := hy
     rw [over_get _ _ _ _ (by omega)] at hy
     have hxl : xs.length = (a.eval x).cells.toList.length := by rw [hnl, hl]
     by_cases hin : off ≤ i ∧ i < off + xs.length
     ·rw [if_pos hin] at hy
      rw [if_pos (by omega)] at hv'
      exact (hcr.2 _ _ _ hy (by simpa using hv')).1.upd hstay fun _ _ => rfl
     ·rw [if_neg hin] at hy
      rw [if_neg (by omega)] at hv'
      exact (hcells _ _ _ hi hy hv').upd hstay fun _ _ => rfl
   ·cases hc
  ·cases hc
 ·rename_i A q zs i off n xs hA hn hxs
  rw [hA] at hp
  have hcr := cellsA_ok hxs hx
  split at hc
  ·rename_i es hes
   split at hc
   ·rename_i hcond
    simp only [Bool.and_eq_true, Nat.beq_eq, Nat.ble_eq, Nat.blt_eq] at hcond
    obtain ⟨hl, hle, hpos, hokn, hpure⟩ := hcond
    injection hc with hc
    injection hc with _ hc
    subst hc
    obtain ⟨pl, hpl, hi, hv⟩ := hp.ep_inv
    have hrow := h.row hes
    obtain ⟨hok, hz, hlen, hcase⟩ := hrow
    rcases hcase with ⟨_, h5⟩ | ⟨p', h5, h6, hown, vs, hat, hcap, hone, hcells⟩
    ·rw [h5] at hpl; cases hpl
    ·rw [h5] at hpl
     injection hpl with hpl
     subst hpl
     rw [hlen] at hi
     have hge : es[i]? = some es[i] := List.getElem?_eq_getElem hi
     have hgd : es.getD i [] = es[i] := by simp [List.getD, hge]
     rw [hgd] at hokn hK
     have hoke := hok _ (List.getElem_mem hi)
     have hel := okRow_len _ _ hoke
     have hfl : (fitRow zs es[i]).length = zs.length := fitRow_len _ _
     have hnl : (a.eval x).cells.toList.length = n := by simp only [Array.length_toList]; have := hcr.1; omega
     have hile : (i + 1) * zs.length ≤ p'.cap * zs.length := Nat.mul_le_mul_right _ (by omega)
     rw [Nat.add_mul, Nat.one_mul] at hile
     have hfit : p'.o + i * zs.length + off + (a.eval x).cells.toList.length ≤ vs.size := by omega
     have hst := run_storeAt (P := P) (w := w) hat hfit (fun v hv => hcr.one v (by simpa using hv))
     have hrun : (execOp a.eval o).run P w = .ok .skip (w.setRow p'.b (vs.toList.take (p'.o + i * zs.length + off) ++ (a.eval x).cells.toList ++ vs.toList.drop (p'.o + i * zs.length + off + (a.eval x).cells.toList.length)).toArray) := by
      have hsz2 : (a.eval x).cells.size = n := by simpa using hnl
      simp only [execOp, ho, hv, Instr.storeAt, Instr.sureAddr]
      simp [storeVar, szOf_run hn, hsz2, hst]
     refine wp_skip' hrun (hK _ _ G ?_)
     rw [hdst]
     refine h.rewriteRow hown _ _ fun hstay => ⟨fun e he => ?_, hz, by rw [hlen, List.length_set], .inr ⟨p', h5, by rw [List.length_set]; exact h6, hown, _, hat.set (splice_size hfit), by rw [splice_size hfit]; exact hcap, splice_one hone (fun v hv => hcr.one v (by simpa using hv)), fun t0 y v ht0 hy0 hv0 => ?_⟩⟩
     ·rcases List.mem_or_eq_of_mem_set he with he | he
      ·exact hok e he
      ·rw [he]; exact hokn
     ·have hge0 : p'.o ≤ t0 := by
       unfold flatO at hy0
       split at hy0
       ·cases hy0
       ·omega
      obtain ⟨t, rfl⟩ : ∃ t, t0 = p'.o + t := ⟨t0 - p'.o, by omega⟩
      rw [flatO_add] at hy0
      have hy := hy0
      have hv' := hv0
      rw [splice_get hfit] at hv'
      obtain ⟨e, he, hex⟩ := flatF_inv hy
      have hmod := Nat.mod_lt t hz
      have hdm := Nat.div_add_mod t zs.length
      have hxl : xs.length = (a.eval x).cells.toList.length := by rw [hnl, hl]
      have key : V G w false y v := by
       rw [List.getElem?_set] at he
       by_cases hti : i = t / zs.length
       ·rw [if_pos hti, if_pos hi] at he
        injection he with he
        subst he
        rw [← hti, Nat.mul_comm] at hdm
        rw [over_get _ _ _ _ (by omega)] at hex
        by_cases hin : off ≤ t % zs.length ∧ t % zs.length < off + xs.length
        ·rw [if_pos hin] at hex
         rw [if_pos (by omega)] at hv'
         have e1 : p'.o + t - (p'.o + i * zs.length + off) = t % zs.length - off := by omega
         rw [e1] at hv'
         exact (hcr.2 _ _ _ hex (by simpa using hv')).1.of_pure (AV.pureL_mem hpure hex)
        ·rw [if_neg hin] at hex
         rw [if_neg (by omega)] at hv'
         have hz' : (es[i])[t % zs.length]? = some (es[i])[t % zs.length] := List.getElem?_eq_getElem (by omega)
         refine fitV hoke hex hz' (hcells (p'.o + t) _ v ht0 ?_ hv')
         rw [flatO_add]
         unfold flatF
         rw [← hti, hge]
         exact hz'
       ·rw [if_neg hti] at he
        rw [if_neg] at hv'
        ·exact hcells (p'.o + t) y v ht0 (by rw [flatO_add]; unfold flatF; rw [he]; exact hex) hv'
        ·rintro ⟨h7, h8⟩
         apply hti
         have e3 : i * zs.length ≤ t := by omega
         have e4 : t < (i + 1) * zs.length := by rw [Nat.add_mul]; omega
         have e5 := (Nat.le_div_iff_mul_le hz).2 e3
         have e6 := (Nat.div_lt_iff_lt_mul hz).2 e4
         omega
      exact key.upd hstay fun _ _ => rfl
   ·cases hc
  ·cases hc
 ·rename_i A q zs k off n xs hA hn hxs
  rw [hA] at hp
  have hcr := cellsA_ok hxs hx
  split at hc
  ·rename_i es hes
   split at hc
   ·rename_i hcond
    simp only [Bool.and_eq_true, Nat.beq_eq, Nat.ble_eq, Nat.blt_eq] at hcond
    obtain ⟨hl, hle, hpos, hokn, hpure⟩ := hcond
    injection hc with hc
    injection hc with hb hc
    subst hc
    obtain ⟨pl, hpl, hv⟩ := hp.mt_inv
    have hT := h.blk q
    rw [tblOf_inv hes] at hT
    obtain ⟨hz, p', hp', hT⟩ := hT
    rw [hp'] at hpl
    injection hpl with hpl
    subst hpl
    obtain ⟨hown, vs, hat, hzl, hone, hok, hcell⟩ := elt_cell hT hb
    have hel : (eltOf zs es k).length = zs.length := fitRow_len _ _
    have hnl : (a.eval x).cells.toList.length = n := by simp only [Array.length_toList]; have := hcr.1; omega
    have hfit : off + (a.eval x).cells.toList.length ≤ vs.size := by omega
    have hst := run_storeAt (P := P) (w := w) hat hfit (fun v hv => hcr.one v (by simpa using hv))
    have hrun : (execOp a.eval o).run P w = .ok .skip (w.setRow (p'.tb k) (vs.toList.take off ++ (a.eval x).cells.toList ++ vs.toList.drop (off + (a.eval x).cells.toList.length)).toArray) := by
     have hsz2 : (a.eval x).cells.size = n := by simpa using hnl
     simp only [execOp, ho, hv, Instr.storeAt, Instr.sureAddr]
     simp [storeVar, szOf_run hn, hsz2, hst]
    refine wp_skip' hrun (hK _ _ G ?_)
    rw [hdst]
    have hxl : xs.length = (a.eval x).cells.toList.length := by rw [hnl, hl]
    have hkr : keyA (.int .i64 k :: over (eltOf zs es k) off xs) = k := rfl
    generalize hrow : (AV.int IntKind.i64 k :: over (eltOf zs es k) off xs) = row at hkr ⊢
    obtain ⟨ents, clk, tl, e1, e2, e3⟩ := hT.heap
    have hne : p'.b ≠ p'.tb k := by
     intro e
     obtain ⟨ty, fz, hh, _⟩ := hat
     rw [← e, e1] at hh
     cases hh
    refine h.rewriteRow hown _ _ fun hstay => ⟨hz, p', hp', hT.own, ⟨ents, clk, tl, by rw [setRow_other w (p'.tb k) p'.b _ hne]; exact e1, ?_, e3⟩, fun e he => ?_, ?_, fun e he => ?_, fun e he e' he' => ?_⟩
    ·rw [e2]
     congr 1
     unfold setK
     rw [List.map_map]
     refine List.map_congr_left fun e _ => ?_
     show entA p' e = entA p' (bif keyA e == k then row else e)
     cases hk : keyA e == k with
     | false => rfl
     | true =>
       have : keyA e = k := by simpa using hk
       unfold entA
       simp only [cond_true, hkr, this]
    ·rcases setK_mem he with ⟨rfl, _⟩ | ⟨he, _⟩
     ·rw [← hrow]
      simp only [okRow, isKind, decide_true, Bool.true_and]
      exact hokn
     ·exact hT.rows _ he
    ·unfold setK
     rw [List.pairwise_map]
     refine hT.keys.imp fun {x y} hxy => ?_
     have hkk : ∀ e : List AV, keyA (bif keyA e == k then row else e) = keyA e := fun e => by
      cases hk : keyA e == k with
      | false => rfl
      | true => simpa [hkr] using (show keyA e = k by simpa using hk).symm
     rw [hkk, hkk]
     exact hxy
    ·rcases setK_mem he with ⟨rfl, _⟩ | ⟨he, hek⟩
     ·rw [hkr]
      refine ⟨hown, _, hat.set (splice_size hfit), by rw [splice_size hfit]; exact hzl, splice_one hone (fun v hv => hcr.one v (by simpa using hv)), fun j y v hj hy hv' => ?_⟩
      rw [splice_get hfit] at hv'
      replace hy : e[j + 1]? = some y := hy
      rw [← hrow] at hy
      simp only [List.getElem?_cons_succ] at hy
      rw [over_get _ _ _ _ (by omega)] at hy
      have key : V G w false y v := by
       by_cases hin : off ≤ j ∧ j < off + xs.length
       ·rw [if_pos hin] at hy
        rw [if_pos (by omega)] at hv'
        exact (hcr.2 _ _ _ hy (by simpa using hv')).1.of_pure (AV.pureL_mem hpure hy)
       ·rw [if_neg hin] at hy
        rw [if_neg (by omega)] at hv'
        obtain ⟨v', h8, h9⟩ := hcell _ _ hy
        rw [h8] at hv'
        injection hv' with hv'
        subst hv'
        exact h9
      exact key.upd hstay fun _ _ => rfl
     ·have hne2 : p'.tb (keyA e) ≠ p'.tb k := by
       obtain ⟨m1, m2⟩ := getK_mem hb
       have := hT.inj e he _ m1 (by rw [m2]; exact hek)
       rwa [m2] at this
      exact (hT.elt e he).flat hstay rfl (setRow_other w (p'.tb k) (p'.tb (keyA e)) _ hne2)
    ·have hkk : ∀ e ∈ setK es k row, ∃ e0 ∈ es, keyA e = keyA e0 := fun e he => by
      rcases setK_mem he with ⟨rfl, e0, h0, h1⟩ | ⟨he, _⟩
      ·exact ⟨e0, h0, by rw [hkr, h1]⟩
      ·exact ⟨e, he, rfl⟩
     obtain ⟨e0, h0, h1⟩ := hkk e he
     obtain ⟨e0', h0', h1'⟩ := hkk e' he'
     rw [h1, h1']
     exact hT.inj e0 h0 e0' h0'
   ·cases hc
  ·cases hc
 ·cases hc
theorem flatF_replicate {n sz : Nat} {z : List AV} {t : Nat} {x : AV} (h : flatF sz (List.replicate n z) t = some x) : z[t % sz]? = some x := by
 obtain ⟨e, h1, h2⟩ := flatF_inv h
 rw [List.getElem?_replicate] at h1
 split at h1
 ·injection h1 with h1
  subst h1
  exact h2
 ·cases h1
theorem zeros_cells {z : List AV} {zv : Value} {n : Nat} (hz : CellsR G w true z zv.cells) (hp : AV.pureL z = true) : ∀ (t : Nat) (x : AV) (v : Value), flatF z.length (List.replicate n z) t = some x → (Builtin.zeroCells zv.cells n)[t]? = some v → V G w false x v := by
 intro t x v hx hv
 have h1 := flatF_replicate hx
 unfold Builtin.zeroCells at hv
 rw [Array.getElem?_map, Array.getElem?_range] at hv
 split at hv
 ·rename_i ht
  simp only [Option.map_some, Option.some.injEq] at hv
  have hpos : 0 < zv.cells.size := by
   apply Nat.pos_of_ne_zero
   intro h0
   rw [h0] at ht
   simp at ht
  have hlt : t % zv.cells.size < zv.cells.size := Nat.mod_lt _ hpos
  have e1 : zv.cells[t % zv.cells.size]! = zv.cells[t % zv.cells.size] := by simp [getElem!_pos, hlt]
  rw [e1] at hv
  rw [hz.1] at h1
  refine (hz.2 _ x v h1 ?_).1.of_pure (AV.pureL_mem hp h1)
  rw [← hv]
  exact Array.getElem?_eq_getElem hlt
 ·cases hv
theorem Rel.putD {s' : St} (h : Rel B s' a w G) (d : Option Nat) {ws : Wr} (e : s' = s.ap ws) : Rel B (s.aps (ws :: putD d)) (a.put d (.tuple #[])) w G := by
 subst e
 cases d with
 | some d => exact h.put d (.tup []) (.tuple #[]) (.tup _ _ _ rfl (by simp))
 | none => exact h
theorem ok_clear {t : TypeId} {x : Operand} (ho : o.op = .call { callee := .builtin .clear, args := #[x], argTypes := #[t] }) (h : Rel B s a w G) (hc : cClear P s o.dst t (evalA s.T x) = some (true, u))
  (hK : ∀ a' w' G', Rel B (s.aps u) a' w' G' → K a' w') : o.wp P a w K Q := by
 have hx := h.eval x
 have run1 : ∀ v w', (Builtin.clear_ #[t] o.type #[a.eval x]).run P w = .ok v w' → (execOp a.eval o).run P w = .ok (.value v) w' := by
  intro v w' h
  simp [execOp, ho, resolve, invoke, builtin, h]
 unfold cClear at hc
 split at hc
 ·rename_i e ht
  split at hc
  ·rename_i zs z hks hzz
   have hz : 0 < zs.length := (kindE_inv hks).2
   split at hc
   ·rename_i hzok
    simp only [Bool.and_eq_true] at hzok
    obtain ⟨hzok, hzp⟩ := hzok
    have hzl := okRow_len _ _ hzok
    obtain ⟨zv, hz0, hzr⟩ := zeroA_ok (P := P) (w := w) (G := G) (rr := true) hzz
    have run2 : ∀ (b off n c : Nat) (vs : Array Value), BlkAt w b vs → off + n * zs.length ≤ vs.size → (Builtin.clear_ #[t] o.type #[.slice (some ⟨b, off, none⟩) n c]).run P w = .ok (.tuple #[]) (w.setRow b (vs.toList.take off ++ (Builtin.zeroCells zv.cells n).toList ++ vs.toList.drop (off + (Builtin.zeroCells zv.cells n).toList.length)).toArray) := by
     intro b off n c vs hat hfit
     have hl : (Builtin.zeroCells zv.cells n).toList.length = n * zs.length := by
      rw [Array.length_toList, size_zeroCells, ← hzr.1, hzl]
     rcases Nat.eq_zero_or_pos n with h0 | h0
     ·subst h0
      have : (Builtin.zeroCells zv.cells 0).toList = [] := List.eq_nil_of_length_eq_zero (by rw [hl]; simp)
      rw [this]
      simp only [List.append_nil, List.length_nil, Nat.add_zero, List.take_append_drop, Array.toArray_toList]
      obtain ⟨ty, fz, hh, _⟩ := hat
      rw [setRow_self w b vs ty fz hh]
      simp [Builtin.clear_, run_underlying ht]
     ·have hst := run_storeAt (P := P) (w := w) (o := off) (vs := (Builtin.zeroCells zv.cells n).toList) hat (by rw [hl]; exact hfit) (fun v hv => zeros_one hzr.one n v (by simpa using hv))
      have hn : n ≠ 0 := by omega
      obtain ⟨m, rfl⟩ : ∃ m, n = m + 1 := ⟨n - 1, by omega⟩
      simp [Builtin.clear_, run_underlying ht, hz0, hst]
    have run0 : ∀ A c, (Builtin.clear_ #[t] o.type #[.slice A 0 c]).run P w = .ok (.tuple #[]) w := by
     intro A c
     cases A <;> simp [Builtin.clear_, run_underlying ht]
    have hzc : ∀ (n : Nat) (es : List (List AV)) (j : Nat) (q : Nat) (p : Pl), BlkOK G w q (.row zs es) → (G.nm q).2 = some p → j + n ≤ es.length → ∃ vs, BlkAt w p.b vs ∧ G.own p.b = .box q ∧ p.o + j * zs.length + n * zs.length ≤ vs.size ∧
      (Stay G G w (w.setRow p.b (vs.toList.take (p.o + j * zs.length) ++ (Builtin.zeroCells zv.cells n).toList ++ vs.toList.drop (p.o + j * zs.length + (Builtin.zeroCells zv.cells n).toList.length)).toArray) → BlkOK G (w.setRow p.b (vs.toList.take (p.o + j * zs.length) ++ (Builtin.zeroCells zv.cells n).toList ++ vs.toList.drop (p.o + j * zs.length + (Builtin.zeroCells zv.cells n).toList.length)).toArray) q (.row zs (es.take j ++ List.replicate n z ++ es.drop (j + n)))) := by
     intro n es j q p hrow hp hjn
     have hl : (Builtin.zeroCells zv.cells n).toList.length = (List.replicate n z).length * zs.length := by
      rw [Array.length_toList, size_zeroCells, ← hzr.1, hzl, List.length_replicate]
     obtain ⟨vs, h1, h2, h3, h4⟩ := row_splice (j := j) (xs := List.replicate n z) (news := (Builtin.zeroCells zv.cells n).toList) hrow hp (fun e he => by rw [List.eq_of_mem_replicate he]; exact hzok) (by simpa using hjn) hl (fun v hv => zeros_one hzr.one n v (by simpa using hv)) (fun t x v hx hv => by
      rw [← hzl] at hx
      exact zeros_cells hzr hzp t x v hx (by simpa using hv))
     rw [List.length_replicate] at hl h4
     exact ⟨vs, h1, h2, by rw [hl] at h3; exact h3, h4⟩
    split at hc
    ·rename_i q zs' hA
     rw [hA] at hx
     split at hc
     ·rename_i he
      obtain rfl := Kd.eqL_of _ _ he
      split at hc
      ·rename_i es hes
       injection hc with hc
       injection hc with _ hc
       subst hc
       have hrow := h.row hes
       generalize a.eval x = vx at hx run1
       cases hx with
       | rf _ _ n c p hp hn hcc hpc hm =>
         rw [hrow.2.2.1] at hn
         subst hn
         obtain ⟨vs, h1, h2, h3, h4⟩ := hzc es.length es 0 q p hrow hp (by omega)
         simp only [Nat.zero_mul, Nat.add_zero] at h3 h4
         have hr := run2 p.b p.o es.length c vs h1 h3
         refine wp_val (run1 _ _ hr) (hK _ _ G ?_)
         have h5 := h.rewriteRow h2 _ _ h4
         exact h5.putD _ (by simp [St.ap])
       | rfnil _ _ A0 h0 =>
         rw [hrow.2.2.1] at h0
         have := List.eq_nil_of_length_eq_zero h0
         subst this
         refine wp_val (run1 _ _ (run0 A0 0)) (hK _ _ G ?_)
         exact (h.setB q (.row zs []) hrow).putD _ (by simp [St.ap])
      ·cases hc
     ·cases hc
    ·rename_i q zs' j n cp hA
     rw [hA] at hx
     split at hc
     ·rename_i he
      obtain rfl := Kd.eqL_of _ _ he
      split at hc
      ·rename_i es hes
       injection hc with hc
       injection hc with _ hc
       subst hc
       have hrow := h.row hes
       generalize a.eval x = vx at hx run1
       cases hx with
       | rs _ _ _ _ _ c p hp hi hn hcp hpc hm =>
         rw [hrow.2.2.1] at hi
         obtain ⟨vs, h1, h2, h3, h4⟩ := hzc n es j q p hrow hp (by omega)
         have hr := run2 p.b (p.o + j * zs.length) n c vs h1 h3
         refine wp_val (run1 _ _ hr) (hK _ _ G ?_)
         exact (h.rewriteRow h2 _ _ h4).putD _ (by simp [St.ap])
       | rsnil _ _ _ _ _ A0 hi hn hcp =>
         subst hn
         refine wp_val (run1 _ _ (run0 A0 0)) (hK _ _ G ?_)
         exact (h.setB q (.row zs es) hrow).putD _ (by simp [St.ap])
      ·cases hc
     ·cases hc
    ·cases hc
   ·cases hc
  ·cases hc
 ·cases hc
end
end Go.Proofs.Gv
