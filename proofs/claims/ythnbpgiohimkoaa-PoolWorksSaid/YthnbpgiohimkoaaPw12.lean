import Derived.Test.YthnbpgiohimkoaaPw11
set_option linter.unusedVariables false
namespace Go.Proofs.Gv
open Go.RowKit
section
variable {P : Program} {B : Bs} {s : St} {a : Act} {w w' : World} {G : Gh} {o : Oper} {u : List Wr} {K : Act → World → Prop} {Q : Exit → Act → World → Prop} {idOf alt : Nat → Option Nat}
def AppV (G : Gh) (w w' : World) (q : Nat) (zs : List Kd) (ys : List (List AV)) (v : Value) : Prop :=
 (ys = [] ∧ (∃ A, v = .slice A 0 0) ∧ w' = w) ∨
 ∃ b c vs e f, v = .slice (some ⟨b, f, none⟩) ys.length c ∧ ys.length ≤ c ∧ c ≤ maxLen ∧ BlkAt w' b vs ∧ f + c * zs.length ≤ vs.size ∧ (∀ v ∈ vs, v.oneCell' = true) ∧
  (∀ (t : Nat) (x : AV) (v : Value), flatF zs.length ys t = some x → vs[f + t]? = some v → V G w false x v) ∧
  ((NewBlk w w' vs e ∧ b = w.heap.size) ∨ (G.own b = .box q ∧ w'.os = w.os ∧ w'.tape = w.tape ∧ w'.output = w.output ∧ w.heap.size ≤ w'.heap.size ∧ ∀ b', b' ≠ b → b' < w.heap.size → w'.heap[b']? = w.heap[b']?))
theorem zeros_one {z : Value} (h : ∀ v ∈ z.cells, v.oneCell' = true) (n : Nat) : ∀ v ∈ Builtin.zeroCells z.cells n, v.oneCell' = true := by
 intro v hv
 unfold Builtin.zeroCells at hv
 rw [Array.mem_map] at hv
 obtain ⟨i, hi, rfl⟩ := hv
 have hi' : i < n * z.cells.size := by simpa using hi
 have hpos : 0 < z.cells.size := by
  apply Nat.pos_of_ne_zero
  intro h0
  rw [h0] at hi'
  simp at hi'
 have hlt : i % z.cells.size < z.cells.size := Nat.mod_lt _ hpos
 have e : z.cells[i % z.cells.size]! = z.cells[i % z.cells.size] := by simp [getElem!_pos, hlt]
 rw [e]
 exact h _ (Array.getElem_mem hlt)
theorem appv_new {zs : List Kd} (hz : 0 < zs.length) {es xs : List (List AV)} {c1 c2 : List Value} {z : Value} {e : TypeId} {cap : Nat} (hzc : z.cells.size = zs.length) (hzo : ∀ v ∈ z.cells, v.oneCell' = true) (hes : ∀ e ∈ es, e.length = zs.length)
  (h1 : c1.length = es.length * zs.length) (ho1 : ∀ v ∈ c1, v.oneCell' = true) (hv1 : ∀ (t : Nat) (x : AV) (v : Value), flatF zs.length es t = some x → c1[t]? = some v → V G w false x v)
  (h2 : c2.length = xs.length * zs.length) (ho2 : ∀ v ∈ c2, v.oneCell' = true) (hv2 : ∀ (t : Nat) (x : AV) (v : Value), flatF zs.length xs t = some x → c2[t]? = some v → V G w false x v)
  (hcap : es.length + xs.length ≤ cap) (hm : cap ≤ maxLen) :
  RowV G w (w.drew.alloc (.cells (c1.toArray ++ c2.toArray ++ Builtin.zeroCells z.cells (cap - (es.length + xs.length))) e)) zs (es ++ xs) (.slice (some ⟨w.heap.size, 0, none⟩) (es.length + xs.length) cap) := by
 have hl : (es ++ xs).length = es.length + xs.length := List.length_append
 have hN := NewBlk.drew w (c1.toArray ++ c2.toArray ++ Builtin.zeroCells z.cells (cap - (es.length + xs.length))) e
 refine .inl ⟨cap, _, e, hN, by rw [hl], by rw [hl]; exact hcap, hm, ?_, ?_, fun t x v hx hv => ?_⟩
 ·simp only [Array.size_append, List.size_toArray, size_zeroCells, hzc, h1, h2, ← Nat.add_mul]
  apply Nat.mul_le_mul_right
  omega
 ·intro v hv
  simp only [Array.mem_append, List.mem_toArray] at hv
  rcases hv with (hv | hv) | hv
  ·exact ho1 v hv
  ·exact ho2 v hv
  ·exact zeros_one hzo _ v hv
 ·refine join_flat (tail := (Builtin.zeroCells z.cells (cap - (es.length + xs.length))).toList) hes hz h1 hv1 h2 hv2 t x v hx ?_
  rw [← Array.getElem?_toList] at hv
  simpa using hv
theorem RowV.app {q : Nat} {zs : List Kd} {ys : List (List AV)} {v : Value} (h : RowV G w w' zs ys v) : AppV G w w' q zs ys v := by
 rcases h with ⟨c, vs, e, h1, h2, h3, h4, h5, h6, h7⟩ | h
 ·exact .inr ⟨_, c, vs, e, 0, h2, h3, h4, h1.at, by rwa [Nat.zero_add], h6, fun t x v hx hv => h7 t x v hx (by rwa [Nat.zero_add] at hv), .inl ⟨h1, rfl⟩⟩
 ·exact .inl h
theorem app_nil_ok {t u' ty e : TypeId} {i : TypeInfo} {z : Value} (ht : P.underlying t = some (.slice e)) (hi : P.info? e = some i) (hz0 : i.zero = some z) {zs : List Kd} (hz : 0 < zs.length) (hsz : i.size = zs.length) (hzc : z.cells.size = zs.length) (hzo : ∀ v ∈ z.cells, v.oneCell' = true)
  {xs : List (List AV)} {src : Value} {news : List Value} (hs : Src P u' zs.length src xs.length news w) (ho : ∀ v ∈ news, v.oneCell' = true) (hv : ∀ (t : Nat) (x : AV) (v : Value), flatF zs.length xs t = some x → news[t]? = some v → V G w false x v)
  (hroom : roomOk xs.length i.bytes = true) (A : Option Addr) :
  ∃ v w', (Builtin.append_ #[t, u'] ty #[.slice A 0 0, src]).run P w = .ok v w' ∧ RowV G w w' zs xs v := by
 obtain ⟨hr1, hr2⟩ := roomOk_inv hroom
 rw [← hsz] at hs
 rcases Nat.eq_zero_or_pos xs.length with h0 | h0
 ·have := List.eq_nil_of_length_eq_zero h0
  subst this
  exact ⟨_, _, app_none ht hi hs (Nat.le_refl _), .inr ⟨rfl, ⟨A, rfl⟩, rfl⟩⟩
 ·refine ⟨_, _, app_zero ht hi hz0 hs h0 (by simp only [maxLen] at hr2; omega) (by omega), ?_⟩
  have hge := grownCap_ge w xs.length 0 e
  have := appv_new (G := G) (w := w) (es := []) (c1 := []) (e := e) (cap := grownCap w xs.length 0 e) hz hzc hzo (by simp) (by simp) (by simp) (by simp [flatF]) (by rw [← hsz]; exact hs.size) ho hv (by simpa using hge) (grownCap_le_maxLen w xs.length 0 e (by simpa using hr2))
  simpa using this
theorem app_rf_ok (h : Rel B s a w G) {q : Nat} {t u' ty e : TypeId} {i : TypeInfo} {z : Value} (ht : P.underlying t = some (.slice e)) (hi : P.info? e = some i) (hz0 : i.zero = some z) {zs : List Kd} (hz : 0 < zs.length) (hsz : i.size = zs.length) (hzc : z.cells.size = zs.length) (hzo : ∀ v ∈ z.cells, v.oneCell' = true)
  {es xs : List (List AV)} (hrow : BlkOK G w q (.row zs es)) {v0 : Value} (hv0 : V G w true (.rf q zs) v0) {src : Value} {news : List Value} (hs : Src P u' zs.length src xs.length news w) (ho : ∀ v ∈ news, v.oneCell' = true) (hv : ∀ (t : Nat) (x : AV) (v : Value), flatF zs.length xs t = some x → news[t]? = some v → V G w false x v)
  (hroom : roomOk (es.length + xs.length) i.bytes = true) :
  ∃ v w', (Builtin.append_ #[t, u'] ty #[v0, src]).run P w = .ok v w' ∧ AppV G w w' q zs (es ++ xs) v := by
 have hes := okRow_lens hrow.1
 cases hv0 with
 | rfnil _ _ A h0 =>
   rw [hrow.2.2.1] at h0
   have := List.eq_nil_of_length_eq_zero h0
   subst this
   obtain ⟨v, w', h1, h2⟩ := app_nil_ok (G := G) (ty := ty) ht hi hz0 hz hsz hzc hzo hs ho hv (by simpa using hroom) A
   exact ⟨v, w', h1, h2.app⟩
 | rf _ _ n c p hp hn hc hpc hm =>
   have hrow' := hrow
   obtain ⟨_, _, hlen, hcase⟩ := hrow'
   rw [hlen] at hn
   subst hn
   obtain ⟨hr1, hr2⟩ := roomOk_inv hroom
   rcases hcase with ⟨_, h5⟩ | ⟨p', h5, h6, hown, vs, hheap, hcap, hone, hcells⟩
   ·rw [h5] at hp; cases hp
   ·rw [h5] at hp
    injection hp with hp
    subst hp
    have hs' := hs
    rw [← hsz] at hs'
    have hcc := Nat.mul_le_mul_right zs.length hpc
    have hce := Nat.mul_le_mul_right zs.length hc
    have hc6 := Nat.mul_le_mul_right zs.length h6
    have hcs : p'.o + c * zs.length ≤ vs.size := by omega
    have hns : p'.o + es.length * zs.length ≤ vs.size := by omega
    have hfl : ∀ (t : Nat) (x : AV) (v : Value), flatF zs.length es t = some x → ((vs.toList.drop p'.o).take (es.length * zs.length))[t]? = some v → V G w false x v := by
     intro t x v hx hv
     rw [List.getElem?_take] at hv
     split at hv
     ·rename_i ht
      rw [List.getElem?_drop, Array.getElem?_toList] at hv
      exact hcells (p'.o + t) x v (by omega) (by rw [flatO_add]; exact hx) hv
     ·cases hv
    by_cases hroom2 : es.length + xs.length ≤ c
    ·have hnl := hs.size
     have hr2' := Nat.mul_le_mul_right zs.length hroom2
     rw [Nat.add_mul, ← hnl] at hr2'
     have hfit : p'.o + es.length * zs.length + news.length ≤ vs.size := by omega
     have hrun := app_room (ty := ty) ht hi hs' (off := p'.o) hheap ho hroom2 (by rw [hsz]; exact hfit)
     rw [hsz] at hrun
     have hat' := hheap.set (vs' := (vs.toList.take (p'.o + es.length * zs.length) ++ news ++ vs.toList.drop (p'.o + es.length * zs.length + news.length)).toArray) (by
      simp only [List.size_toArray, List.length_append, List.length_take, List.length_drop, Array.length_toList]
      omega)
     refine ⟨_, _, hrun, .inr ⟨p'.b, c, _, e, p'.o, by rw [List.length_append], by rw [List.length_append]; exact hroom2, hm, hat', ?_, ?_, fun t x v hx hv' => ?_, .inr ⟨hown, rfl, rfl, rfl, by simp [World.setRow], fun b' hb' _ => setRow_other w p'.b b' _ hb'⟩⟩⟩
     ·simp only [List.size_toArray, List.length_append, List.length_take, List.length_drop, Array.length_toList]
      omega
     ·intro v hv'
      simp only [List.mem_toArray, List.mem_append] at hv'
      rcases hv' with (hv' | hv') | hv'
      ·exact hone v (by simpa using List.mem_of_mem_take hv')
      ·exact ho v hv'
      ·exact hone v (by simpa using List.mem_of_mem_drop hv')
     ·refine join_flat (tail := vs.toList.drop (p'.o + es.length * zs.length + news.length)) hes hz (by simp; omega) hfl hnl hv t x v hx ?_
      rw [List.getElem?_toArray, show vs.toList.take (p'.o + es.length * zs.length) = vs.toList.take p'.o ++ (vs.toList.drop p'.o).take (es.length * zs.length) from List.take_add, List.append_assoc, List.append_assoc, List.getElem?_append_right (by simp; omega)] at hv'
      rw [show p'.o + t - (vs.toList.take p'.o).length = t by simp; omega, ← List.append_assoc] at hv'
      exact hv'
    ·have hge := grownCap_ge w (es.length + xs.length) c e
     have hcm := grownCap_le_maxLen w (es.length + xs.length) c e hr2
     refine ⟨_, _, app_grow ht hi hz0 hs' (olds := (vs.toList.drop p'.o).take (es.length * zs.length)) (by rw [hsz]; simp; omega) (fun j v hj => ?_) (by omega) (by simp only [maxLen] at hr2; omega) (growslice_fits (by omega) hr1), ?_⟩
     ·rw [addr_add, hheap.cell]
      rw [List.getElem?_take] at hj
      split at hj
      ·rwa [List.getElem?_drop, Array.getElem?_toList] at hj
      ·cases hj
     ·exact (appv_new hz hzc hzo hes (by simp; omega) (fun v hv' => hone v (by simpa using List.mem_of_mem_drop (List.mem_of_mem_take hv'))) hfl hs.size ho hv hge hcm).app
theorem touch_stay {b q : Nat} (h : G.own b = .box q) (hsz : w.heap.size ≤ w'.heap.size) (hh : ∀ b', b' ≠ b → b' < w.heap.size → w'.heap[b']? = w.heap[b']?) (O : Owner) : Stay G (ownAt G b O) w w' := by
 refine ⟨hsz, fun b' t hb' hi => ?_⟩
 have : b' ≠ b := by
  rintro rfl
  unfold Im at hi
  rw [h] at hi
  rcases hi with hi | ⟨_, hi⟩ <;> cases hi
 refine ⟨?_, hh b' this hb'⟩
 unfold Im at hi ⊢
 simp only [ownAt, this, if_false]
 exact hi
theorem Rel.place {q b : Nat} {vs : Array Value} {e : TypeId} {G1 : Gh} (h : Rel B s a w G1) (hown1 : G1.own = G.own) (hd : s.c q = .dead) (O : Owner) (hO : O ≠ .lent)
  (hnew : (NewBlk w w' vs e ∧ b = w.heap.size) ∨ (G.own b = .box q ∧ w'.os = w.os ∧ w'.tape = w.tape ∧ w'.output = w.output ∧ w.heap.size ≤ w'.heap.size ∧ ∀ b', b' ≠ b → b' < w.heap.size → w'.heap[b']? = w.heap[b']?)) :
  Rel B s a w' (ownAt G1 b O) ∧ Stay G (ownAt G1 b O) w w' := by
 rcases hnew with ⟨hN, rfl⟩ | ⟨h1, h2, h3, h4, h5, h6⟩
 ·have hg := hN.grow G1 O hO
  refine ⟨h.grow hg, ⟨hg.size, fun b' t hb' hi => ?_⟩⟩
  have hi' : Im G1.own t b' := by rw [hown1]; exact hi
  exact hg.stay.blk b' t hb' hi'
 ·have h1' : G1.own b = .box q := by rw [hown1]; exact h1
  refine ⟨h.touch b q h1' hd O h2 h3 h4 h5 h6 hO, ?_⟩
  have := touch_stay (w := w) (w' := w') h1' h5 h6 O
  refine ⟨this.size, fun b' t hb' hi => ?_⟩
  have hi' : Im G1.own t b' := by rw [hown1]; exact hi
  exact this.blk b' t hb' hi'
theorem row_of {q : Nat} {zs : List Kd} {ys : List (List AV)} {b c f : Nat} {vs : Array Value} {G' : Gh} (hz : 0 < zs.length) (hok : ∀ e ∈ ys, okRow zs e = true) (hown : G'.own b = .box q) (hnm : G'.nm q = (ys.length, some ⟨b, c, f, fun _ => 0⟩)) (hle : ys.length ≤ c) (hh : BlkAt w' b vs) (hsz : f + c * zs.length ≤ vs.size) (hone : ∀ v ∈ vs, v.oneCell' = true)
  (hv : ∀ (t : Nat) (x : AV) (v : Value), flatF zs.length ys t = some x → vs[f + t]? = some v → V G' w' false x v) : BlkOK G' w' q (.row zs ys) :=
 ⟨hok, hz, by rw [hnm], .inr ⟨⟨b, c, f, fun _ => 0⟩, by rw [hnm], hle, hown, vs, hh, hsz, hone, fun t x v _ hx hvx => by
  replace hx : flatO f zs.length ys t = some x := hx
  unfold flatO at hx
  split at hx
  ·cases hx
  ·exact hv (t - f) x v hx (by rwa [show f + (t - f) = t by omega])⟩⟩
theorem getD_set_self {α : Type} (l : List α) (i : Nat) (x d : α) : (l.set i x).getD i d = if i < l.length then x else d := by
 simp only [List.getD_eq_getElem?_getD, List.getElem?_set, if_true]
 split <;> rfl
theorem dead_set {T : List AV} {C : List Blk} {q : Nat} : (St.mk T (C.set q .dead)).c q = .dead := by
 simp only [St.c, getD_set_self]
 split <;> rfl
theorem appRow_ok (hid : ∀ d q, idOf d = some q → B.m ≤ q) (hid2 : ∀ d q, alt d = some q → B.m ≤ q) (h : Rel B s a w G) {b : Bool} {d : Option Nat} {x : Operand} {q : Nat} {zs : List Kd} {ys : List (List AV)} {v : Value} (hz : 0 < zs.length) (hok : ∀ e ∈ ys, okRow zs e = true)
  (hc : appRow idOf alt s b d x q zs ys = some (true, u)) (hr : AppV G w w' q zs ys v) : ∃ d' G', d = some d' ∧ Rel B (s.aps u) (a.put (some d') v) w' G' := by
 unfold appRow at hc
 split at hc
 ·rename_i d' p
  split at hc
  ·rename_i q' hq'
   have hqm : B.m ≤ q' := by
    cases hi : idOf d' with
    | none => rw [hi] at hq'; cases hq'
    | some q1 =>
      rw [hi] at hq'
      injection hq' with hq'
      subst hq'
      unfold pickId
      split
      ·rename_i q2 h2
       show B.m ≤ cond (Nat.beq q q1) q2 q1
       cases Nat.beq q q1 with
       | true => exact hid2 _ _ h2
       | false => exact hid _ _ hi
      ·exact hid _ _ hi
   split at hc
   ·rename_i hcond
    simp only [Bool.and_eq_true, Bool.not_eq_true'] at hcond
    obtain ⟨⟨hno, hqq⟩, hpd⟩ := hcond
    have hqq := Nat.eq_of_beq_eq_true hqq
    subst hqq
    injection hc with hc
    injection hc with _ hc
    subst hc
    have hpd' : p ≠ d' := fun e => by subst e; simp at hpd
    have hfin : ∀ (k : Blk), ((St.mk ([d', p].foldl (fun T i => T.set i .junk) s.T) (s.C.set q' .dead)).ap (.blk q' k)).ap (.put d' (.rf q' zs)) = s.aps [.put p .junk, .blk q' k, .put d' (.rf q' zs)] := by
     intro k
     simp only [List.foldl_cons, List.foldl_nil, St.aps, St.ap, List.set_set]
     rw [List.set_comm _ _ hpd'.symm, List.set_set]
    rcases hr with ⟨rfl, ⟨A, rfl⟩, rfl⟩ | ⟨b', c, vs, e, f, rfl, h1, h2, h3, h4, h5, h6, h7⟩
    ·have hf := h.fresh hqm hno (0, none)
     have h8 := (hf.setB q' (.row zs []) ⟨by simp, hz, by simp [nmAt], .inl ⟨rfl, by simp [nmAt]⟩⟩).put d' (.rf q' zs) (.slice A 0 0) (.rfnil q' zs A (by simp [nmAt]))
     exact ⟨d', _, rfl, h8.congr (hfin _).symm⟩
    ·have hf := h.fresh hqm hno (ys.length, some ⟨b', c, f, fun _ => 0⟩)
     obtain ⟨h8, h9⟩ := Rel.place (G := G) hf rfl dead_set (.box q') (by intro h; cases h) h7
     have hb := row_of (w' := w') (q := q') (vs := vs) (G' := ownAt (nmAt G q' (ys.length, some ⟨b', c, f, fun _ => 0⟩)) b' (.box q')) hz hok (by simp [ownAt]) (by simp [ownAt, nmAt]) h1 h3 h4 h5 (fun t x v hx hv => by
      have hV := h6 t x v hx hv
      exact hV.upd h9 (by rw [(hV.flat rfl).1]; simp))
     have h10 := (h8.setB q' _ hb).put d' (.rf q' zs) (.slice (some ⟨b', f, none⟩) ys.length c) (.rf q' zs ys.length c ⟨b', c, f, fun _ => 0⟩ (by simp [ownAt, nmAt]) (by simp [ownAt, nmAt]) h1 (Nat.le_refl _) h2)
     exact ⟨d', _, rfl, h10.congr (hfin _).symm⟩
   ·split at hc
    ·rename_i hcond
     simp only [Bool.and_eq_true, Bool.not_eq_true'] at hcond
     obtain ⟨hno, hqq⟩ := hcond
     have hne : q' ≠ q := fun e => by subst e; simp at hqq
     injection hc with hc
     injection hc with _ hc
     subst hc
     have hfin : ∀ (k : Blk), (((St.mk ([d'].foldl (fun T i => T.set i .junk) s.T) (s.C.set q' .dead)).ap (.blk q .dead)).ap (.blk q' k)).ap (.put d' (.rf q' zs)) = s.aps [.blk q .dead, .blk q' k, .put d' (.rf q' zs)] := by
      intro k
      simp only [List.foldl_cons, List.foldl_nil, St.aps, St.ap, List.set_set]
      rw [List.set_comm _ _ hne, List.set_set]
     rcases hr with ⟨rfl, ⟨A, rfl⟩, rfl⟩ | ⟨b', c, vs, e, f, rfl, h1, h2, h3, h4, h5, h6, h7⟩
     ·have hf := (h.fresh hqm hno (0, none)).kill q
      have h8 := (hf.setB q' (.row zs []) ⟨by simp, hz, by simp [nmAt], .inl ⟨rfl, by simp [nmAt]⟩⟩).put d' (.rf q' zs) (.slice A 0 0) (.rfnil q' zs A (by simp [nmAt]))
      exact ⟨d', _, rfl, h8.congr (hfin _).symm⟩
     ·have hf := (h.fresh hqm hno (ys.length, some ⟨b', c, f, fun _ => 0⟩)).kill q
      obtain ⟨h8, h9⟩ := Rel.place (G := G) hf rfl dead_set (.box q') (by intro h; cases h) h7
      have hb := row_of (w' := w') (q := q') (vs := vs) (G' := ownAt (nmAt G q' (ys.length, some ⟨b', c, f, fun _ => 0⟩)) b' (.box q')) hz hok (by simp [ownAt]) (by simp [ownAt, nmAt]) h1 h3 h4 h5 (fun t x v hx hv => by
       have hV := h6 t x v hx hv
       exact hV.upd h9 (by rw [(hV.flat rfl).1]; simp))
      have h10 := (h8.setB q' _ hb).put d' (.rf q' zs) (.slice (some ⟨b', f, none⟩) ys.length c) (.rf q' zs ys.length c ⟨b', c, f, fun _ => 0⟩ (by simp [ownAt, nmAt]) (by simp [ownAt, nmAt]) h1 (Nat.le_refl _) h2)
      exact ⟨d', _, rfl, h10.congr (hfin _).symm⟩
    ·cases hc
  ·rename_i hq'
   injection hc with hc
   injection hc with _ hc
   subst hc
   rcases hr with ⟨rfl, ⟨A, rfl⟩, rfl⟩ | ⟨b', c, vs, e, f, rfl, h1, h2, h3, h4, h5, h6, h7⟩
   ·exact ⟨d', _, rfl, ((h.kill q).put d' (.sl .imm zs []) _ (.slnil _ _ _ _ _ (fun _ => rfl) (by simp [maxLen]) (fun h => by cases h))).congr rfl⟩
   ·obtain ⟨h8, h9⟩ := Rel.place (G := G) (h.kill q) rfl dead_set .imm (by intro h; cases h) h7
    refine ⟨d', _, rfl, (h8.put d' (.sl .imm zs ys) _ (slOf' h3 (.inl (by simp [ownAt])) (fun _ => rfl) h1 h2 h4 h5 hok fun t x v hx hv => ?_)).congr rfl⟩
    have hV := h6 t x v hx hv
    exact hV.upd h9 (by rw [(hV.flat rfl).1]; simp)
 ·cases hc
end
end Go.Proofs.Gv
