import Derived.Test.YthnbpgiohimkoaaPw17
set_option linter.unusedVariables false
namespace Go.Proofs.Gv
open Go.RowKit
section
variable {P : Program} {B : Bs} {s : St} {a : Act} {w w' : World} {G G' : Gh} {o : Oper} {u : List Wr} {K : Act → World → Prop} {Q : Exit → Act → World → Prop}
theorem mapT_inv {t : TypeId} {zs : List Kd} (h : mapT P t = some zs) : ∃ kt et e, P.underlying t = some (.map kt et) ∧ P.underlying kt = some (.int .i64) ∧ (∀ w, (zeroValue et).run P w = .ok (.pointer none) w) ∧ kindE P e = some zs := by
 unfold mapT at h
 split at h
 ·rename_i kt et hu
  split at h
  ·rename_i h1 h2 e h3 h4 h5
   refine ⟨kt, et, _, hu, h3, fun w => ?_, h⟩
   unfold zeroA at h4
   cases hi : P.info? et with
   | none => rw [hi] at h4; cases h4
   | some i =>
     rw [hi] at h4
     simp only [Option.bind_some] at h4
     cases hz : i.zero with
     | none => rw [hz] at h4; cases h4
     | some z =>
       rw [hz] at h4
       simp only [Option.map_some, Option.some.injEq] at h4
       have : z = .pointer none := by
        unfold v2a at h4
        split at h4
        ·cases h4
        ·unfold v2a0 at h4
         split at h4 <;> first | rfl | cases h4
       subst this
       simp [zeroValue, typeInfo, hi, hz]
  ·cases h
 ·cases h
theorem tbl_find {p : Pl} {es : List (List AV)} {ents : Array MapEntry} {kt : TypeId} (hkt : P.underlying kt = some (.int .i64)) (he : ents.toList.map (fun m => (m.key, m.val)) = es.map (entA p)) (k : Int) (w : World) :
  (hasK es k = false ∧ (Instr.findKey kt (.int .i64 k) ents.toList).run P w = .ok none w) ∨
  (hasK es k = true ∧ ∃ j e, (Instr.findKey kt (.int .i64 k) ents.toList).run P w = .ok (some (j, .pointer (some ⟨p.tb k, 0, none⟩))) w ∧ es[j]? = some e ∧ keyA e = k) := by
 have hget : ∀ (j : Nat) (m : MapEntry), ents.toList[j]? = some m → ∃ e, es[j]? = some e ∧ m.key = .int .i64 (keyA e) ∧ m.val = .pointer (some ⟨p.tb (keyA e), 0, none⟩) := by
  intro j m hm
  have h1 : (ents.toList.map (fun m => (m.key, m.val)))[j]? = some (m.key, m.val) := by rw [List.getElem?_map, hm]; rfl
  rw [he, List.getElem?_map] at h1
  cases hes : es[j]? with
  | none => rw [hes] at h1; cases h1
  | some e =>
    rw [hes] at h1
    simp only [Option.map_some, Option.some.injEq, entA, Prod.mk.injEq] at h1
    exact ⟨e, rfl, h1.1.symm, h1.2.symm⟩
 have hlen : ents.toList.length = es.length := by
  have := congrArg List.length he
  simpa only [List.length_map] using this
 rcases MapKept.findNow_spec (d := .int .i64) (k := .int .i64 k) rfl ents.toList 0 (fun x hx => by
  obtain ⟨j, hj, rfl⟩ := List.mem_iff_getElem.1 hx
  obtain ⟨e, _, h2, _⟩ := hget j _ (List.getElem?_eq_getElem hj)
  rw [h2]
  exact rfl) with ⟨h1, h2⟩ | ⟨j, m, h1, h2, h3⟩
 ·refine .inl ⟨?_, MapKept.run_findKey hkt h1⟩
  unfold hasK
  rw [List.any_eq_false]
  intro e hem
  obtain ⟨j, hj, rfl⟩ := List.mem_iff_getElem.1 hem
  have hj' : j < ents.toList.length := by omega
  obtain ⟨e', h4, h5, _⟩ := hget j _ (List.getElem?_eq_getElem hj')
  rw [List.getElem?_eq_getElem hj] at h4
  injection h4 with h4
  subst h4
  have := h2 _ (List.getElem_mem hj')
  rw [h5] at this
  simpa using fun e => this (by rw [e])
 ·obtain ⟨e, h4, h5, h6⟩ := hget j m h2
  have hk : keyA e = k := by
   rw [h5] at h3
   injection h3
  refine .inr ⟨?_, j, e, ?_, h4, hk⟩
  ·unfold hasK
   rw [List.any_eq_true]
   exact ⟨e, List.mem_of_getElem? h4, by simpa using hk⟩
  ·have := MapKept.run_findKey (P := P) (w := w) hkt h1
   rw [h6, hk, Nat.zero_add] at this
   exact this
theorem ok_lookup (h : Rel B s a w G) {t : TypeId} {m x : Operand} (ho : o.op = .lookup t m x false) (hc : cLookup P s o.dst t (evalA s.T m) (evalA s.T x) = some (true, u)) : Quiet P o a w G u := by
 have hm := h.eval m
 have hx := h.eval x
 unfold cLookup at hc
 split at hc
 ·rename_i zs' q zs k hT hA hB
  rw [hA] at hm
  rw [hB] at hx
  split at hc
  ·rename_i es hes
   split at hc
   ·rename_i hz
    obtain ⟨p, hv, hnm, hTb⟩ := h.tblV hes hm
    obtain ⟨ents, clk, tl, e1, e2, e3⟩ := hTb.heap
    have htl : tl = [] := e3
    subst htl
    rw [List.append_nil] at e2
    obtain ⟨kt, et, e, hu, hkt, hz0, _⟩ := mapT_inv hT
    have hck := MapKept.run_checkKey (P := P) (w := w) hkt (show MapKept.IsKey (.int .i64) (.int .i64 k) from rfl)
    rcases tbl_find hkt e2 k w with ⟨h1, h2⟩ | ⟨h1, j, e', h2, _, _⟩
    ·rw [h1] at hc
     refine Quiet.mk1 rfl hc (v := .pointer none) ⟨?_, .nilp _⟩
     simp [execOp, ho, hv, hx.int_inv, Instr.lookup, run_underlying hu, MapKept.run_getObj_map e1, hck _ 9999, h2, hz0]
    ·rw [h1] at hc
     refine Quiet.mk1 rfl hc (v := .pointer (some ⟨p.tb k, 0, none⟩)) ⟨?_, .mt _ _ _ _ p (by rw [hnm])⟩
     simp [execOp, ho, hv, hx.int_inv, Instr.lookup, run_underlying hu, MapKept.run_getObj_map e1, hck _ 9999, h2]
   ·cases hc
  ·cases hc
 ·cases hc
theorem ok_makeMap {idOf : Nat → Option Nat} (hid : ∀ d q, idOf d = some q → B.m ≤ q) (h : Rel B s a w G) {t : TypeId} (ho : o.op = .makeMap t none) (hc : cMakeMap P idOf s o.dst t = some (true, u)) (hK : ∀ a' w' G', Rel B (s.aps u) a' w' G' → K a' w') : o.wp P a w K Q := by
 unfold cMakeMap at hc
 split at hc
 ·rename_i zs d hT hd
  split at hc
  ·rename_i q hq
   split at hc
   ·rename_i hno
    injection hc with hc
    injection hc with _ hc
    subst hc
    obtain ⟨kt, et, e, hu, hkt, hz0, hkz⟩ := mapT_inv hT
    have hzl : 0 < zs.length := by
     unfold kindE at hkz
     split at hkz
     ·split at hkz
      ·rename_i hh
       simp only [Bool.and_eq_true, Nat.beq_eq, Nat.blt_eq] at hh
       injection hkz with hkz
       subst hkz
       omega
      ·cases hkz
     ·cases hkz
    have hheap : (w.alloc (.map #[] 0)).heap = w.heap.push (.map #[] 0) := rfl
    have hgr : Grow w (w.alloc (.map #[] 0)) G (ownAt G w.heap.size (.box q)) := by
     refine ⟨rfl, rfl, rfl, by rw [hheap]; simp, fun b hb => ?_, fun b hb => ?_, rfl, fun b hb => ?_⟩
     ·rw [hheap, Array.getElem?_push, if_neg (by omega)]
     ·simp only [ownAt]
      rw [if_neg (by omega)]
     ·simp only [ownAt] at hb
      split at hb
      ·cases hb
      ·exact hb
    have hf := (h.grow hgr).fresh (hid _ _ hq) hno (0, some ⟨w.heap.size, 0, 0, fun _ => 0⟩)
    have hb : BlkOK (nmAt (ownAt G w.heap.size (.box q)) q (0, some ⟨w.heap.size, 0, 0, fun _ => 0⟩)) (w.alloc (.map #[] 0)) q (.tbl zs [] none) := by
     refine ⟨hzl, ⟨w.heap.size, 0, 0, fun _ => 0⟩, by simp [nmAt], by simp [nmAt, ownAt], ⟨#[], 0, [], by rw [hheap]; simp, rfl, rfl⟩, by simp, List.Pairwise.nil, by simp, by simp⟩
    have h6 := (hf.setB q _ hb).put d (.mp q zs) (.map (some w.heap.size)) (.mp q zs ⟨w.heap.size, 0, 0, fun _ => 0⟩ (by simp [nmAt]))
    refine wp_val (v := .map (some w.heap.size)) (w' := w.alloc (.map #[] 0)) (by simp [execOp, ho, Instr.makeMap]) (hK _ _ (nmAt (ownAt G w.heap.size (.box q)) q (0, some ⟨w.heap.size, 0, 0, fun _ => 0⟩)) ?_)
    rw [hd]
    exact h6.congr (by simp [St.aps, St.ap])
   ·cases hc
  ·cases hc
 ·cases hc
theorem setHeap_same (w : World) (b : Nat) (ob : Obj) : (∀ b', b' ≠ b → b' < w.heap.size → ({ w with heap := w.heap.setIfInBounds b ob } : World).heap[b']? = w.heap[b']?) ∧ (b < w.heap.size → ({ w with heap := w.heap.setIfInBounds b ob } : World).heap[b]? = some ob) :=
 ⟨fun b' hb _ => by simp [Array.getElem?_setIfInBounds, Ne.symm hb], fun hb => by simp [hb]⟩
theorem tbl_change {q : Nat} {p : Pl} {zs : List Kd} {es es' : List (List AV)} (hT : TblOK G w q p zs es none) {ob : Obj} (hst : Stay G G w { w with heap := w.heap.setIfInBounds p.b ob }) {ents : Array MapEntry} {clk : Nat} (hob : ob = .map ents clk) (hs : es'.Sublist es) {pd : Option (Int × Nat)} {tl : List (Value × Value)}
  (he : ents.toList.map (fun m => (m.key, m.val)) = es'.map (entA p) ++ tl) (hpd : PendOK G es' pd tl) : TblOK G { w with heap := w.heap.setIfInBounds p.b ob } q p zs es' pd := by
 obtain ⟨ents0, clk0, tl0, h1, _, _⟩ := hT.heap
 have hlt := lt_of_heap' h1
 obtain ⟨hh1, hh2⟩ := setHeap_same w p.b ob
 refine ⟨hT.own, ⟨ents, clk, tl, by rw [hh2 hlt, hob], he, hpd⟩, fun e he => hT.rows e (hs.subset he), hT.keys.sublist hs, fun e he => ?_, fun e he e' he' => hT.inj e (hs.subset he) e' (hs.subset he')⟩
 have hE := hT.elt e (hs.subset he)
 have hb : (eltP p (keyA e)).b ≠ p.b := by
  obtain ⟨_, vs, ⟨ty, fz, h2, _⟩, _⟩ := hE
  intro e
  rw [e, h1] at h2
  cases h2
 have hblt : (eltP p (keyA e)).b < w.heap.size := by obtain ⟨_, vs, h2, _⟩ := hE; exact h2.lt
 exact hE.flat hst rfl (hh1 _ hb hblt)
theorem ok_mapUpdate (h : Rel B s a w G) {t : TypeId} {m x v : Operand} (ho : o.op = .mapUpdate t m x v) (hc : cMapUpdate P s o.dst t (evalA s.T m) (evalA s.T x) (evalA s.T v) = some (true, u)) (hK : ∀ a' w' G', Rel B (s.aps u) a' w' G' → K a' w') : o.wp P a w K Q := by
 have hm := h.eval m
 have hx := h.eval x
 have hv := h.eval v
 unfold cMapUpdate at hc
 split at hc
 ·rename_i zs' q zs k q2 hT hA hB hC hD
  rw [hA] at hm
  rw [hB] at hx
  rw [hC] at hv
  split at hc
  ·rename_i es hes
   split at hc
   ·rename_i hz
    injection hc with hc
    injection hc with hb hc
    subst hc
    simp only [Bool.not_eq_true'] at hb
    obtain ⟨p, hmv, hnm, hTb⟩ := h.tblV hes hm
    obtain ⟨p2, hp2, hvv⟩ := hv.hp_inv
    obtain ⟨ents, clk, tl, e1, e2, e3⟩ := hTb.heap
    have htl : tl = [] := e3
    subst htl
    rw [List.append_nil] at e2
    obtain ⟨kt, et, e, hu, hkt, _, _⟩ := mapT_inv hT
    have hck := MapKept.run_checkKey (P := P) (w := w) hkt (show MapKept.IsKey (.int .i64) (.int .i64 k) from rfl)
    rcases tbl_find hkt e2 k w with ⟨h1, h2⟩ | ⟨h1, _⟩
    ·have hblk := h.blk q
     rw [tblOf_inv hes] at hblk
     have hzl := hblk.1
     have hrun : (execOp a.eval o).run P w = .ok .skip { w with heap := w.heap.setIfInBounds p.b (.map (ents.push { key := .int .i64 k, val := .pointer (some ⟨p2.b, 0, none⟩), born := clk }) (clk + 1)) } := by
      simp [execOp, ho, hmv, hx.int_inv, hvv, Instr.mapUpdate, run_underlying hu, MapKept.run_getObj_map e1, hck _ 9999, h2, MapKept.run_setObj_map _ e1]
     obtain ⟨hh1, _⟩ := setHeap_same w p.b (.map (ents.push { key := .int .i64 k, val := .pointer (some ⟨p2.b, 0, none⟩), born := clk }) (clk + 1))
     refine wp_skip' hrun (hK _ _ G ?_)
     rw [hD]
     refine h.rewrite (w' := { w with heap := w.heap.setIfInBounds p.b (.map (ents.push { key := .int .i64 k, val := .pointer (some ⟨p2.b, 0, none⟩), born := clk }) (clk + 1)) }) hTb.own rfl rfl rfl (by simp) hh1 (.tbl zs es (some (k, q2))) fun hst => ⟨hzl, p, hnm, tbl_change hTb hst rfl (List.Sublist.refl _) (tl := [(.int .i64 k, .pointer (some ⟨p2.b, 0, none⟩))]) ?_ ⟨h1, p2, hp2, rfl⟩⟩
     simp only [Array.toList_push, List.map_append, e2]
     rfl
    ·rw [h1] at hb; cases hb
   ·cases hc
  ·cases hc
 ·cases hc
theorem map_erase {α β : Type} (f : α → β) : ∀ (l : List α) (j : Nat), (l.eraseIdx j).map f = (l.map f).eraseIdx j
 | [], _ => rfl
 | _ :: _, 0 => rfl
 | x :: l, j + 1 => by simp only [List.eraseIdx_cons_succ, List.map_cons, map_erase f l j]
theorem delK_at : ∀ {es : List (List AV)} {j : Nat} {e : List AV} {k : Int}, (es.Pairwise fun e e' => keyA e ≠ keyA e') → es[j]? = some e → keyA e = k → es.eraseIdx j = delK es k := by
 intro es
 induction es with
 | nil => intro j e k _ h; cases h
 | cons x es ih =>
   intro j e k hp hj hk
   rw [List.pairwise_cons] at hp
   unfold delK at ih ⊢
   cases j with
   | zero =>
     simp only [List.getElem?_cons_zero, Option.some.injEq] at hj
     subst hj
     have : ∀ y ∈ es, (!(keyA y == k)) = true := fun y hy => by
      have := hp.1 y hy
      rw [hk] at this
      simpa using fun e => this e.symm
     rw [List.eraseIdx_cons_zero, List.filter_cons_of_neg (by simpa using hk), List.filter_eq_self.2 this]
   | succ j =>
     simp only [List.getElem?_cons_succ] at hj
     have hx : (!(keyA x == k)) = true := by
      have := hp.1 e (List.mem_of_getElem? hj)
      rw [hk] at this
      simpa using this
     rw [List.eraseIdx_cons_succ, List.filter_cons, if_pos hx, ih hp.2 hj hk]
theorem ok_delete (h : Rel B s a w G) {t t2 : TypeId} {m x : Operand} (ho : o.op = .call { callee := .builtin .delete, args := #[m, x], argTypes := #[t, t2] }) (hc : cDelete P s o.dst t (evalA s.T m) (evalA s.T x) = some (true, u)) (hK : ∀ a' w' G', Rel B (s.aps u) a' w' G' → K a' w') : o.wp P a w K Q := by
 have hm := h.eval m
 have hx := h.eval x
 have run1 : ∀ v w', (Builtin.delete_ #[t, t2] o.type #[a.eval m, a.eval x]).run P w = .ok v w' → (execOp a.eval o).run P w = .ok (.value v) w' := by
  intro v w' hr
  simp [execOp, ho, resolve, invoke, builtin, hr]
 unfold cDelete at hc
 split at hc
 ·rename_i zs' q zs k hT hA hB
  rw [hA] at hm
  rw [hB] at hx
  split at hc
  ·rename_i es hes
   split at hc
   ·rename_i hz
    injection hc with hc
    injection hc with _ hc
    subst hc
    obtain ⟨p, hmv, hnm, hTb⟩ := h.tblV hes hm
    obtain ⟨ents, clk, tl, e1, e2, e3⟩ := hTb.heap
    have htl : tl = [] := e3
    subst htl
    rw [List.append_nil] at e2
    obtain ⟨kt, et, e, hu, hkt, _, _⟩ := mapT_inv hT
    have hck := MapKept.run_checkKey (P := P) (w := w) hkt (show MapKept.IsKey (.int .i64) (.int .i64 k) from rfl)
    have hblk := h.blk q
    rw [tblOf_inv hes] at hblk
    have hzl := hblk.1
    have hsub : (delK es k).Sublist es := List.filter_sublist
    have key : ∃ ents' : Array MapEntry, (Builtin.delete_ #[t, t2] o.type #[a.eval m, a.eval x]).run P w = .ok (.tuple #[]) { w with heap := w.heap.setIfInBounds p.b (.map ents' clk) } ∧ ents'.toList.map (fun m => (m.key, m.val)) = (delK es k).map (entA p) := by
     rcases tbl_find hkt e2 k w with ⟨h1, h2⟩ | ⟨h1, j, e', h2, h3, h4⟩
     ·refine ⟨ents, ?_, ?_⟩
      ·simp [hmv, hx.int_inv, Builtin.delete_, run_underlying hu, MapKept.run_getObj_map e1, hck _ 9999, h2, MapKept.run_setObj_map _ e1]
      ·rw [e2]
       have : delK es k = es := by
        unfold delK
        rw [List.filter_eq_self]
        intro y hy
        unfold hasK at h1
        rw [List.any_eq_false] at h1
        simpa using h1 y hy
       rw [this]
     ·refine ⟨ents.eraseIdxIfInBounds j, ?_, ?_⟩
      ·simp [hmv, hx.int_inv, Builtin.delete_, run_underlying hu, MapKept.run_getObj_map e1, hck _ 9999, h2, MapKept.run_setObj_map _ e1]
      ·have hj : j < ents.size := by
        have h5 := congrArg List.length e2
        simp only [List.length_map, Array.length_toList] at h5
        have := (List.getElem?_eq_some_iff.1 h3).1
        omega
       have he' : (ents.eraseIdxIfInBounds j).toList = ents.toList.eraseIdx j := by
        unfold Array.eraseIdxIfInBounds
        rw [dif_pos hj]
        simp
       rw [he', ← delK_at hTb.keys h3 h4, map_erase, e2, ← map_erase]
    obtain ⟨ents', hr, hl⟩ := key
    obtain ⟨hh1, _⟩ := setHeap_same w p.b (.map ents' clk)
    refine wp_val (run1 _ _ hr) (hK _ _ G ?_)
    have h5 := h.rewrite hTb.own (w' := { w with heap := w.heap.setIfInBounds p.b (.map ents' clk) }) rfl rfl rfl (by simp) hh1 (.tbl zs (delK es k) none) fun hst => ⟨hzl, p, hnm, tbl_change hTb hst rfl hsub (tl := []) (by rw [List.append_nil]; exact hl) rfl⟩
    exact h5.putD _ (by simp [St.ap])
   ·cases hc
  ·cases hc
 ·cases hc
end
end Go.Proofs.Gv
