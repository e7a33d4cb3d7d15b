import Derived.Test.YthnbpgiohimkoaaPw18
set_option linter.unusedVariables false
namespace Go.Proofs.Gv
open Go.RowKit
section
variable {X : Cfg} {B : Bs} {s : St} {a : Act} {w w' : World} {G G' : Gh} {o : Oper} {u : List Wr} {K : Act → World → Prop} {Q : Exit → Act → World → Prop}
structure IdOK (X : Cfg) (B : Bs) : Prop where
 m : B.m = X.m
 ids : ∀ d q, X.idOf d = some q → X.m ≤ q
 alts : ∀ d q, X.alt d = some q → X.m ≤ q
theorem IdOK.id (h : IdOK X B) : ∀ d q, X.idOf d = some q → B.m ≤ q := fun d q hq => by rw [h.m]; exact h.ids d q hq
theorem IdOK.id2 (h : IdOK X B) : ∀ d q, X.alt d = some q → B.m ≤ q := fun d q hq => by rw [h.m]; exact h.alts d q hq
theorem Rel.pad {T : List AV} {C C' : List Blk} (h : Rel B ⟨T, C⟩ a w G) (hC : ∀ (d : Nat) (k : Blk), C'[d]? = some k → C[d]? = some k ∨ k = .dead) : Rel B ⟨T, C'⟩ a w G := by
 refine ⟨h.defers, h.len, h.vt, fun d k hk => ?_, h.os, h.tape, h.output, h.size, h.par, h.old, h.nl⟩
 rcases hC d k hk with h1 | rfl
 ·exact h.vb d k h1
 ·trivial
theorem pad_get {C : List Blk} {n m d : Nat} {k : Blk} (h : ((C ++ List.replicate n Blk.dead).take m)[d]? = some k) : C[d]? = some k ∨ k = .dead := by
 rw [List.getElem?_take] at h
 split at h
 ·by_cases hd : d < C.length
  ·rw [List.getElem?_append_left hd] at h; exact .inl h
  ·rw [List.getElem?_append_right (by omega), List.getElem?_replicate] at h
   split at h
   ·injection h with h; exact .inr h.symm
   ·cases h
 ·cases h
theorem pad_get' {C : List Blk} {n m d : Nat} {k : Blk} (h : ((C ++ List.replicate n Blk.dead).take m)[d]? = some k) : (C.take m)[d]? = some k ∨ k = .dead := by
 have h0 := h
 rw [List.getElem?_take] at h
 split at h
 ·rename_i hm
  rcases pad_get h0 with h1 | h1
  ·exact .inl (by rw [List.getElem?_take, if_pos hm]; exact h1)
  ·exact .inr h1
 ·cases h
theorem backA_spec {X : Cfg} {s : St} {d : Nat} {nl : Bool} {ρ : List Nat} {b b' : Bool} {r : AV} {outs : List Blk} {u : List Wr} (hclo : ∀ q ∈ ρ, (∀ r ∈ (s.c q).refs, r ∈ ρ) ∧ q < s.C.length)
  (h : backA X s d nl ρ b r (ρ.map fun q => (s.C.getD q .dead).ren (ixOf ρ)) outs = some (b', u)) : ∃ u', backB X s d nl ρ b r (unk (ρ.map fun q => (s.C.getD q .dead).ren (ixOf ρ)) outs) = some (b', u') ∧ s.aps u' = s.aps u := by
 unfold backA at h
 unfold unk
 cases hr : isRo outs with
 | false =>
   rw [hr] at h
   exact ⟨u, h, rfl⟩
 | true =>
   rw [hr] at h
   dsimp only at h ⊢
   split at h
   ·rename_i hrid
    split at h
    ·rename_i b1 u1 hb
     injection h with h
     injection h with h1 h2
     subst h1 h2
     refine ⟨u1, hb, ?_⟩
     unfold backB at hb
     rw [hrid] at hb
     dsimp only at hb
     split at hb
     ·injection hb with hb
      injection hb with _ hb
      subst hb
      simp only [List.append_nil, frzR]
      unfold St.aps
      rw [List.foldl_append]
      have e := aps_same ρ (((ρ.map fun q => (s.C.getD q .dead).ren (ixOf ρ)) ++ List.replicate ρ.length Blk.dead).take ρ.length |>.map (Blk.ren (atIx ρ))) s ?_
      ·unfold St.aps at e
       rw [e]
      ·intro j q k h1 h2
       have hj := (List.getElem?_eq_some_iff.1 h1).1
       have hq := List.mem_of_getElem? h1
       rw [List.getElem?_map, List.getElem?_take, if_pos hj, List.getElem?_append_left (by simpa using hj), List.getElem?_map, h1] at h2
       simp only [Option.map_some, Option.some.injEq] at h2
       have hin : ∀ p ∈ (s.C.getD q .dead).refs, atIx ρ (ixOf ρ p) = p := by
        intro p hp
        have hp' := (hclo q hq).1 p hp
        obtain ⟨hlt, e⟩ := ixOf_spec hp'
        rw [atIx_lt hlt, e]
       rw [Blk.ren_inv _ _ _ hin] at h2
       subst h2
       have hl := (hclo q hq).2
       rw [List.getElem?_eq_getElem hl]
       simp [List.getD, List.getElem?_eq_getElem hl]
     ·cases hb
    ·cases h
   ·cases h
theorem ok_call {c : Call} {fo : Operand} (hcc : c.callee = .value fo) (ho : o.op = .call c) (hΓ : GamOK X.P X.gam) (hI : IdOK X B) (h : Rel B s a w G) (hc : cCall X s o.dst (evalA s.T fo) (c.args.toList.map (evalA s.T)) = some (true, u))
  (hK : ∀ a' w' G', Rel B (s.aps u) a' w' G' → K a' w') : o.wp X.P a w K Q := by
 unfold cCall at hc
 split at hc
 ·rename_i d f caps hd hfn
  split at hc
  ·cases hc
  ·rename_i as' lent hlend
   dsimp only at hc
   generalize hρ : reach s.C (as'.length + s.C.length * s.C.length + 64) (AV.refsL as') [] = ρ at hc
   split at hc
   ·rename_i hcond
    simp only [Bool.and_eq_true] at hcond
    obtain ⟨hsub, hclo, hdis, hnd⟩ := hcond
    have hsub := subL_spec hsub
    have hdis := disj_spec hdis
    have hnd := nodupL_spec hnd
    have hclo : ∀ q ∈ ρ, (∀ r ∈ (s.c q).refs, r ∈ ρ) ∧ q < s.C.length := by
     intro q hq
     have := List.all_eq_true.1 hclo q hq
     simp only [Bool.and_eq_true, Nat.blt_eq] at this
     exact ⟨subL_spec this.1, this.2⟩
    split at hc
    ·rename_i b r outs0 hg
     obtain ⟨u', hc', hu⟩ := backA_spec hclo hc
     clear hc
     rw [← hu] at hK
     clear hu
     have hΓ1 : b = true → Enters X.P f ∧ FnOK X.P f (AV.renL (ixOf ρ) as') (ρ.map fun q => (s.C.getD q .dead).ren (ixOf ρ)) r (unk (ρ.map fun q => (s.C.getD q .dead).ren (ixOf ρ)) outs0) := fun hb => by
      subst hb
      exact hΓ f _ _ r outs0 hg
     generalize unk (ρ.map fun q => (s.C.getD q .dead).ren (ixOf ρ)) outs0 = outs at hc' hΓ1
     clear hg
     have hc := hc'
     clear hc'
     unfold backB at hc
     dsimp only at hc
     generalize hr1 : frzR (X.rid d) ρ.length outs r = r1 at hc
     generalize hκ : ρ ++ X.rid d = κ at hc
     split at hc
     ·rename_i hcond2
      simp only [Bool.and_eq_true, Nat.beq_eq, List.all_eq_true] at hcond2
      obtain ⟨hlen, hrh, hoh, hrr, hor, hndκ, hnew⟩ := hcond2
      injection hc with hc
      injection hc with hb hc
      subst hb
      subst hc
      obtain ⟨hent, hok⟩ := hΓ1 rfl
      have hfo : ∃ vs : Array Value, a.eval fo = .func (.func f) #[] vs ∧ caps.length = vs.size ∧ ∀ (i : Nat) (x : AV) (v : Value), caps[i]? = some x → vs[i]? = some v → V G w true x v := by
       have h1 := h.eval fo
       generalize evalA s.T fo = A at hfn h1
       cases A <;> simp [fnOf] at hfn
       obtain ⟨rfl, rfl⟩ := hfn
       generalize a.eval fo = y at h1 ⊢
       cases h1 with
       | fn _ _ _ vs hl hv => exact ⟨vs, rfl, hl, hv⟩
      obtain ⟨vs, hfo, hvl, hvv⟩ := hfo
      have hrun : (execOp a.eval o).run X.P w = .ok (.enter f (c.args.map a.eval ++ vs)) w := by
       simp only [execOp, ho]
       rw [Sem.run_bind]
       have h1 : (resolve a.eval c o.type).run X.P w = .ok { target := .fn (.func f) vs, args := c.args.map a.eval } w := by
        simp [resolve, hcc, hfo, Deferred.ofValue]
       rw [h1]
       simp only [Result.andThen_ok, invoke]
       exact hent (c.args.map a.eval ++ vs) w
      obtain ⟨hll, hli⟩ := lendAs_ok h (ρ := ρ) (lent := lent) _ _ _ hlend
      have hla : (c.args.toList.map (evalA s.T)).length = c.args.size := by simp
      have hargs : ∀ (i : Nat) (x : AV) (v : Value), (c.args.toList.map (evalA s.T) ++ caps)[i]? = some x → (c.args.map a.eval ++ vs)[i]? = some v → V G w true x v := by
       intro i x v hx hv
       by_cases hi : i < c.args.size
       ·rw [List.getElem?_append_left (by omega)] at hx
        rw [Array.getElem?_append_left (by simpa using hi)] at hv
        rw [List.getElem?_map, Array.getElem?_toList] at hx
        rw [Array.getElem?_map] at hv
        cases hci : c.args[i]? with
        | none => rw [hci] at hx; cases hx
        | some y =>
          rw [hci] at hx hv
          injection hx with hx
          injection hv with hv
          subst hx hv
          exact h.eval y
       ·rw [List.getElem?_append_right (by omega), hla] at hx
        rw [Array.getElem?_append_right (by simpa using hi)] at hv
        simp only [Array.size_map] at hv
        exact hvv _ x v hx hv
      have hentry : Rel { w0 := w, own0 := (inG G ρ lent).own, m := ρ.length, nm0 := (inG G ρ lent).nm } ⟨AV.renL (ixOf ρ) as', ρ.map fun q => (s.C.getD q .dead).ren (ixOf ρ)⟩ { tmps := c.args.map a.eval ++ vs, defers := [] } w (inG G ρ lent) := by
       refine ⟨rfl, ?_, fun i x v hx hv => ?_, fun j k hk => ?_, rfl, rfl, rfl, Nat.le_refl _, fun _ _ => rfl, fun _ _ _ => ⟨rfl, rfl⟩, fun _ h => h⟩
       ·rw [AV.renL_eq, List.length_map, hll]
        simp [hvl]
       ·replace hx : (AV.renL (ixOf ρ) as')[i]? = some x := hx
        rw [AV.renL_eq, List.getElem?_map] at hx
        cases hai : as'[i]? with
        | none => rw [hai] at hx; cases hx
        | some y =>
          rw [hai] at hx
          injection hx with hx
          subst hx
          have hil : i < (c.args.toList.map (evalA s.T) ++ caps).length := by have := (List.getElem?_eq_some_iff.1 hai).1; omega
          have hz := List.getElem?_eq_getElem hil
          exact hli (fun q hq => ⟨hq, hdis q hq⟩) hsub i y v _ hai hz (hargs i _ v hz hv)
       ·replace hk : (ρ.map fun q => (s.C.getD q .dead).ren (ixOf ρ))[j]? = some k := hk
        rw [List.getElem?_map] at hk
        cases hj : ρ[j]? with
        | none => rw [hj] at hk; cases hk
        | some q =>
          rw [hj] at hk
          injection hk with hk
          subst hk
          have hjl := (List.getElem?_eq_some_iff.1 hj).1
          have hjq := (List.getElem?_eq_some_iff.1 hj).2
          have h9 := BlkOK.into (lent := lent) h hnd hjl (hclo _ (List.getElem_mem hjl)).1
          rw [hjq] at h9
          exact h9
      have hcall := hok _ (c.args.map a.eval ++ vs) w _ hentry rfl rfl (by simp) rfl
      unfold Oper.wp
      rw [hrun, Oper.upon_enter]
      refine Calls.mono hcall fun e w' ⟨v, G', he, hr⟩ => ?_
      subst he
      have hnew' : ∀ q ∈ X.rid d, B.m ≤ q ∧ noRefs q [d] (X.rid d) s = true := by
       intro q hq
       have := hnew q hq
       simp only [Nat.ble_eq, Nat.blt_eq] at this
       rw [hI.m]
       exact ⟨this.1, this.2.2⟩
      have hndκ := nodupL_spec hndκ
      have hfin : ∃ G1, Rel { w0 := w, own0 := (inG G ρ lent).own, m := ρ.length, nm0 := (inG G ρ lent).nm } ⟨[r1], (outs ++ List.replicate κ.length Blk.dead).take κ.length⟩ { tmps := #[v], defers := [] } w' G1 := by
       cases hn : X.rid d with
       | nil =>
         rw [hn] at hr1 hκ
         simp only [List.append_nil] at hκ
         subst hr1 hκ
         exact ⟨_, (frz_ok hr ρ.length).pad fun d k hk => pad_get' hk⟩
       | cons q0 l0 =>
         rw [hn] at hr1
         subst hr1
         exact ⟨G', hr.pad fun d k hk => pad_get hk⟩
      obtain ⟨G1, hr'⟩ := hfin
      subst hκ
      refine hK _ _ (outG lent.isEmpty G G1 w.heap.size ρ (ρ ++ X.rid d)) ?_
      rw [hd]
      exact call_back (d := d) (nl := lent.isEmpty) h (new := X.rid d) hdis hr' (fun hn => List.isEmpty_iff.1 hn) hndκ hlen (by simpa only [Bool.or_eq_true] using hrh) (fun k hk => by
       simp only [Bool.or_eq_true, List.all_eq_true] at hoh
       exact hoh.imp id fun hoh => hoh k hk) (fun q hq => by simpa using hrr q hq) (fun k hk q hq => by simpa using hor k hk q hq) hnew'
     ·cases hc
    ·cases hc
   ·cases hc
 ·cases hc
theorem toList_one {α : Type} {x : Array α} {y : α} (h : x.toList = [y]) : x = #[y] := by
 cases x; simp_all
theorem toList_two {α : Type} {x : Array α} {y z : α} (h : x.toList = [y, z]) : x = #[y, z] := by
 cases x; simp_all
theorem comp_sound (hΓ : GamOK X.P X.gam) (hI : IdOK X B) (h : Rel B s a w G) (hc : comp X o s = some (true, u))
  (hK : ∀ a' w' G', Rel B (s.aps u) a' w' G' → K a' w') : o.wp X.P a w K Q := by
 have hid := hI.id
 obtain ⟨dst, op, type, pos, after, guard⟩ := o
 unfold comp at hc
 dsimp only at hc
 cases op with
 | move x => exact (ok_move (P := X.P) (.inl rfl) (h.eval x) hc).step h hK
 | assign x => exact (ok_move (P := X.P) (.inr rfl) (h.eval x) hc).step h hK
 | pick c x y => exact (ok_pick (P := X.P) rfl (h.eval c) (h.eval x) (h.eval y) hc).step h hK
 | alloc e =>
   dsimp only at hc
   split at hc
   ·rename_i cs hz
    exact ok_alloc hid rfl h hz hc hK
   ·cases hc
 | box e x =>
   dsimp only at hc
   split at hc
   ·rename_i cs hz
    exact ok_box hid rfl h hz hc hK
   ·cases hc
 | build t ps => exact (ok_build (P := X.P) rfl (fun y => h.eval y) hc).step h hK
 | buildSlice t n ps => exact ok_buildSlice hid rfl h hc hK
 | load t x => exact (ok_load (P := X.P) h rfl (h.eval x) hc).step h hK
 | store t p x =>
   dsimp only at hc
   split at hc
   ·exact ok_store rfl rfl h hc hK
   ·cases hc
 | makeMap t r =>
   cases r with
   | none => exact ok_makeMap (P := X.P) hid h rfl hc hK
   | some _ => cases hc
 | lookup t m x ok =>
   cases ok with
   | false => exact (ok_lookup (P := X.P) h rfl hc).step h hK
   | true => cases hc
 | mapUpdate t m x v => exact ok_mapUpdate (P := X.P) h rfl hc hK
 | nilCheck x => exact (ok_nil (P := X.P) rfl (h.eval x) hc).step h hK
 | binOp op t x y yt => exact (ok_bin (P := X.P) rfl (h.eval x) (h.eval y) hc).step h hK
 | unOp op t x => exact (ok_un (P := X.P) rfl (h.eval x) hc).step h hK
 | convert src dst x => exact ok_conv hid rfl h hc hK
 | sliceToArrayPointer t x => exact (ok_arrPtr (P := X.P) rfl (h.eval x) hc).step h hK
 | makeFunc f fs cs =>
   dsimp only at hc
   split at hc
   ·rename_i f' hfs
    exact (ok_makeFunc (P := X.P) h rfl hfs hc).step h hK
   ·cases hc
 | makeSlice t x y => exact ok_make hid rfl h hc hK
 | slice t x lo hi mx =>
   dsimp only at hc
   by_cases hna : ∀ n e, X.P.underlying t ≠ some (.array n e)
   ·exact (ok_slice (P := X.P) h rfl (h.eval x) hna hc).step h hK
   ·obtain ⟨n, e, hu⟩ : ∃ n e, X.P.underlying t = some (.array n e) := Classical.byContradiction fun hno => hna fun n e he => hno ⟨n, e, he⟩
    unfold cSlice at hc
    split at hc
    ·rename_i hu' _; rw [hu] at hu'; cases hu'
    ·rename_i hu' _; rw [hu] at hu'; cases hu'
    ·rename_i hu' _; rw [hu] at hu'; cases hu'
    ·rename_i hu' _; rw [hu] at hu'; cases hu'
    ·rename_i n' e' q hu' hA
     rw [hu] at hu'
     injection hu' with hu'
     injection hu' with e1 e2
     subst e1 e2
     split at hc
     ·rename_i cs hq h1 h2 h3
      split at hc
      ·rename_i zs d hk
       split at hc
       ·rename_i hcond
        simp only [Bool.and_eq_true, Nat.beq_eq, Nat.ble_eq, List.all_eq_true] at hcond
        injection hc with hc
        injection hc with _ hc
        subst hc
        cases lo with
        | some _ => cases h1
        | none => cases hi with
          | some _ => cases h2
          | none => cases mx with
            | some _ => cases h3
            | none => exact ok_arrSlice rfl h hA hu hq hk rfl hcond.1 hcond.2.1 hcond.2.2.1 hcond.2.2.2 hK
       ·cases hc
      ·cases hc
     ·cases hc
    ·rename_i hu' _; rw [hu] at hu'; cases hu'
    ·cases hc
 | fieldAddr t x f => exact (ok_fieldAddr (P := X.P) rfl (h.eval x) hc).step h hK
 | field t x f => exact (ok_field (P := X.P) rfl (h.eval x) hc).step h hK
 | indexAddr t x i => exact (ok_indexAddr (P := X.P) h rfl (h.eval x) (h.eval i) hc).step h hK
 | index t x i => exact (ok_index (P := X.P) rfl (h.eval x) (h.eval i) hc).step h hK
 | extract x i => exact (ok_extract (P := X.P) rfl (h.eval x) hc).step h hK
 | call c =>
   obtain ⟨callee, args, argTypes⟩ := c
   dsimp only at hc
   split at hc
   ·rename_i x t h1 h2
    rw [toList_one h1, toList_one h2]
    exact (ok_len (P := X.P) h rfl (h.eval x) hc).step h hK
   ·rename_i _ x y h1
    rw [toList_two h1]
    exact (ok_minmax (P := X.P) (mx := false) rfl (h.eval x) (h.eval y) hc).step h hK
   ·rename_i _ x y h1
    rw [toList_two h1]
    exact (ok_minmax (P := X.P) (mx := true) rfl (h.eval x) (h.eval y) hc).step h hK
   ·rename_i x y t u' h1 h2
    rw [toList_two h1, toList_two h2]
    exact ok_appendZ hid hI.id2 rfl h hc hK
   ·rename_i x t h1 h2
    rw [toList_one h1, toList_one h2]
    exact ok_clear rfl h hc hK
   ·rename_i m x t t2 h1 h2
    rw [toList_two h1, toList_two h2]
    exact ok_delete (P := X.P) h rfl hc hK
   ·exact ok_call rfl rfl hΓ hI h hc hK
   ·cases hc
 | _ => cases hc
end
end Go.Proofs.Gv
