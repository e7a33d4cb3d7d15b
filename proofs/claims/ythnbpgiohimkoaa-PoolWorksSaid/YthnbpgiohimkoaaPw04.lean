import Derived.Test.YthnbpgiohimkoaaPw03
set_option linter.unusedVariables false
namespace Go.Proofs.Gv
open Go.RowKit
def FzOK (fz : Nat × Nat) (n : Nat) : Prop := fz = (0, 0) ∨ n ≤ fz.1
def BlkAt (w : World) (b : Nat) (vs : Array Value) : Prop := ∃ ty fz, w.heap[b]? = some (.cells vs ty fz) ∧ FzOK fz vs.size
theorem lt_of_heap' {w : World} {b : Nat} {o : Obj} (h : w.heap[b]? = some o) : b < w.heap.size := (Array.getElem?_eq_some_iff.1 h).1
theorem BlkAt.lt {w : World} {b : Nat} {vs : Array Value} (h : BlkAt w b vs) : b < w.heap.size := by
 obtain ⟨ty, fz, h, _⟩ := h
 exact (Array.getElem?_eq_some_iff.1 h).1
theorem BlkAt.congr {w w' : World} {b : Nat} {vs : Array Value} (h : BlkAt w b vs) (hh : w'.heap[b]? = w.heap[b]?) : BlkAt w' b vs := by
 obtain ⟨ty, fz, h, k⟩ := h
 exact ⟨ty, fz, hh.trans h, k⟩
theorem BlkAt.cell {w : World} {b o : Nat} {vs : Array Value} (h : BlkAt w b vs) : w.cell? ⟨b, o, none⟩ = vs[o]? := by
 obtain ⟨ty, fz, h, k⟩ := h
 simp [World.cell?, h]
def CellsOK (G : Gh) (w : World) (d : Nat) (p : Pl) (r : Bool) (n : Nat) (f : Nat → Option AV) : Prop :=
 G.own p.b = .box d ∧ ∃ vs, BlkAt w p.b vs ∧ n ≤ vs.size ∧ (∀ v ∈ vs, v.oneCell' = true) ∧ ∀ (t : Nat) (x : AV) (v : Value), t < n → f t = some x → vs[t]? = some v → V G w r x v
def flatF (sz : Nat) (es : List (List AV)) (t : Nat) : Option AV := (es[t / sz]?).bind (·[t % sz]?)
def flatO (o sz : Nat) (es : List (List AV)) (t : Nat) : Option AV := if t < o then none else flatF sz es (t - o)
theorem flatO_add (o sz : Nat) (es : List (List AV)) (t : Nat) : flatO o sz es (o + t) = flatF sz es t := by
 unfold flatO
 rw [if_neg (by omega), Nat.add_sub_cancel_left]
theorem flatO_zero (sz : Nat) (es : List (List AV)) : flatO 0 sz es = flatF sz es := by
 funext t
 have := flatO_add 0 sz es t
 rwa [Nat.zero_add] at this
def eltP (p : Pl) (k : Int) : Pl := { b := p.tb k, cap := 0 }
def PendOK (G : Gh) (es : List (List AV)) : Option (Int × Nat) → List (Value × Value) → Prop
 | none, tl => tl = []
 | some (k, q2), tl => hasK es k = false ∧ ∃ p2 : Pl, (G.nm q2).2 = some p2 ∧ tl = [(.int .i64 k, .pointer (some ⟨p2.b, 0, none⟩))]
def entA (p : Pl) (e : List AV) : Value × Value := (.int .i64 (keyA e), .pointer (some ⟨p.tb (keyA e), 0, none⟩))
structure TblOK (G : Gh) (w : World) (d : Nat) (p : Pl) (zs : List Kd) (es : List (List AV)) (pd : Option (Int × Nat)) : Prop where
 own : G.own p.b = .box d
 heap : ∃ ents clk tl, w.heap[p.b]? = some (.map ents clk) ∧ ents.toList.map (fun m => (m.key, m.val)) = es.map (entA p) ++ tl ∧ PendOK G es pd tl
 rows : ∀ e ∈ es, okRow (.int .i64 :: zs) e = true
 keys : es.Pairwise fun e e' => keyA e ≠ keyA e'
 elt : ∀ e ∈ es, CellsOK G w d (eltP p (keyA e)) false zs.length (fun j => e[j + 1]?)
 inj : ∀ e ∈ es, ∀ e' ∈ es, keyA e ≠ keyA e' → p.tb (keyA e) ≠ p.tb (keyA e')
def BlkOK (G : Gh) (w : World) (d : Nat) : Blk → Prop
 | .dead => True
 | .var cs => ∃ p : Pl, G.nm d = (cs.length, some p) ∧ (p.cap = cs.length ∧ p.o = 0) ∧ CellsOK G w d p true cs.length (cs[·]?)
 | .row zs es => (∀ e ∈ es, okRow zs e = true) ∧ 0 < zs.length ∧ (G.nm d).1 = es.length ∧ ((es = [] ∧ (G.nm d).2 = none) ∨ ∃ p : Pl, (G.nm d).2 = some p ∧ es.length ≤ p.cap ∧ CellsOK G w d p false (p.o + p.cap * zs.length) (flatO p.o zs.length es))
 | .tbl zs es pd => 0 < zs.length ∧ ∃ p : Pl, G.nm d = (0, some p) ∧ TblOK G w d p zs es pd
structure Bs where
 w0 : World
 own0 : Nat → Owner
 m : Nat
 nm0 : Nat → Nat × Option Pl
structure Rel (B : Bs) (s : St) (a : Act) (w : World) (G : Gh) : Prop where
 defers : a.defers = []
 len : s.T.length = a.tmps.size
 vt : ∀ (i : Nat) (x : AV) (v : Value), s.T[i]? = some x → a.tmps[i]? = some v → V G w true x v
 vb : ∀ (d : Nat) (k : Blk), s.C[d]? = some k → BlkOK G w d k
 os : w.os = B.w0.os
 tape : w.tape = B.w0.tape
 output : w.output = B.w0.output
 size : B.w0.heap.size ≤ w.heap.size
 par : ∀ k, k < B.m → G.nm k = B.nm0 k
 old : ∀ b, b < B.w0.heap.size → (∀ k, B.own0 b ≠ .box k) → G.own b = B.own0 b ∧ w.heap[b]? = B.w0.heap[b]?
 nl : ∀ b, G.own b = .lent → B.own0 b = .lent
theorem v2a0_ok {G : Gh} {w : World} {r : Bool} (v : Value) : V G w r (v2a0 v) v := by
 unfold v2a0
 split
 ·exact .int _ _ _
 ·exact .bool _ _
 ·rename_i s
  have := V.str (G := G) (w := w) r s.data.toList
  simpa using this
 ·exact .nil _
 ·exact .nilp _
 ·exact .nilm _
 ·exact .junk _ _
theorem v2a_ok {G : Gh} {w : World} {r : Bool} (v : Value) : V G w r (v2a v) v := by
 unfold v2a
 split
 ·rename_i cs
  refine .agg _ _ _ (by simp) (fun i x v hx hv => ?_)
  simp only [List.getElem?_map, Array.getElem?_toList, hv, Option.map_some, Option.some.injEq] at hx
  subst hx
  exact v2a0_ok v
 ·exact v2a0_ok v
section
variable {B : Bs} {s s' : St} {a : Act} {w w' : World} {G G' : Gh}
theorem Rel.slot (h : Rel B s a w G) (t : Nat) : V G w true (s.t t) (a.tmps.getD t undef) := by
 unfold St.t
 by_cases ht : t < s.T.length
 ·have h1 : s.T[t]? = some s.T[t] := List.getElem?_eq_getElem ht
  have h2 : a.tmps[t]? = some a.tmps[t]! := by
   rw [Array.getElem?_eq_getElem (by rw [← h.len]; exact ht)]
   simp [getElem!_pos, ← h.len, ht]
  have e1 : s.T.getD t .junk = s.T[t] := by simp [List.getD, h1]
  have e2 : a.tmps.getD t undef = a.tmps[t]! := by simp [h2]
  rw [e1, e2]
  exact h.vt t _ _ h1 h2
 ·have e1 : s.T.getD t .junk = .junk := by simp [List.getD, List.getElem?_eq_none (by omega : s.T.length ≤ t)]
  rw [e1]
  exact .junk _ _
theorem Rel.eval (h : Rel B s a w G) (x : Operand) : V G w true (evalA s.T x) (a.eval x) := by
 cases x with
 | tmp t => exact h.slot t
 | const v => exact v2a_ok v
 | func f => exact .fn _ f [] #[] rfl (by simp)
 | global k => exact .junk _ _
theorem Rel.blk (h : Rel B s a w G) (d : Nat) : BlkOK G w d (s.c d) := by
 unfold St.c
 by_cases ht : d < s.C.length
 ·have h1 : s.C[d]? = some s.C[d] := List.getElem?_eq_getElem ht
  have e1 : s.C.getD d .dead = s.C[d] := by simp [List.getD, h1]
  rw [e1]
  exact h.vb d _ h1
 ·have e1 : s.C.getD d .dead = .dead := by simp [List.getD, List.getElem?_eq_none (by omega : s.C.length ≤ d)]
  rw [e1]
  trivial
theorem CellsOK.upd {d : Nat} {p : Pl} {r : Bool} {n : Nat} {f : Nat → Option AV} (h : CellsOK G w d p r n f) (E : Stay G G' w w') (hown : G'.own p.b = G.own p.b) (hh : w'.heap[p.b]? = w.heap[p.b]?)
  (hf : ∀ t x, f t = some x → ∀ q ∈ x.refs, G'.nm q = G.nm q) : CellsOK G' w' d p r n f := by
 obtain ⟨h1, vs, h2, h3, h4, h5⟩ := h
 exact ⟨hown.trans h1, vs, h2.congr hh, h3, h4, fun t x v ht hx hv => (h5 t x v ht hx hv).upd E (hf t x hx)⟩
theorem CellsOK.flat {d : Nat} {p : Pl} {n : Nat} {f : Nat → Option AV} (h : CellsOK G w d p false n f) (E : Stay G G' w w') (hown : G'.own p.b = G.own p.b) (hh : w'.heap[p.b]? = w.heap[p.b]?) : CellsOK G' w' d p false n f := by
 obtain ⟨h1, vs, h2, h3, h4, h5⟩ := h
 refine ⟨hown.trans h1, vs, h2.congr hh, h3, h4, fun t x v ht hx hv => ?_⟩
 have := h5 t x v ht hx hv
 exact this.upd E (by rw [(this.flat rfl).1]; simp)
theorem TblOK.upd {d d' : Nat} {p : Pl} {zs : List Kd} {es : List (List AV)} {pd : Option (Int × Nat)} (h : TblOK G w d p zs es pd) (E : Stay G G' w w') (f : Nat → Nat) (hown : ∀ b, b < w.heap.size → G.own b = .box d → G'.own b = .box d' ∧ w'.heap[b]? = w.heap[b]?)
  (hnm : ∀ k q, pd = some (k, q) → (G'.nm (f q)).2 = (G.nm q).2) : TblOK G' w' d' p zs es (pd.map fun x => (x.1, f x.2)) := by
 obtain ⟨ents, clk, tl, h1, h2, h3⟩ := h.heap
 have hb := lt_of_heap' h1
 refine ⟨(hown _ hb h.own).1, ⟨ents, clk, tl, (hown _ hb h.own).2.trans h1, h2, ?_⟩, h.rows, h.keys, fun e he => ?_, h.inj⟩
 ·cases pd with
  | none => exact h3
  | some x =>
    obtain ⟨h4, p2, h5, h6⟩ := h3
    exact ⟨h4, p2, (hnm _ _ rfl).trans h5, h6⟩
 ·obtain ⟨k1, vs, k2, k3, k4, k5⟩ := h.elt e he
  have hlt := k2.lt
  refine ⟨(hown _ hlt k1).1, vs, k2.congr (hown _ hlt k1).2, k3, k4, fun t x v ht hx hv => ?_⟩
  have := k5 t x v ht hx hv
  exact this.upd E (by rw [(this.flat rfl).1]; simp)
theorem TblOK.stays {d : Nat} {p : Pl} {zs : List Kd} {es : List (List AV)} {pd : Option (Int × Nat)} (h : TblOK G w d p zs es pd) (E : Stay G G' w w') (hown : ∀ b, b < w.heap.size → G.own b = .box d → G'.own b = .box d ∧ w'.heap[b]? = w.heap[b]?)
  (hnm : ∀ k q, pd = some (k, q) → G'.nm q = G.nm q) : TblOK G' w' d p zs es pd := by
 have := h.upd E id (d' := d) hown (fun k q hq => by rw [id, hnm k q hq])
 have e : (pd.map fun x => (x.1, id x.2)) = pd := by cases pd <;> rfl
 rwa [e] at this
structure Grow (w w' : World) (G G' : Gh) : Prop where
 os : w'.os = w.os
 tape : w'.tape = w.tape
 output : w'.output = w.output
 size : w.heap.size ≤ w'.heap.size
 heap : ∀ b, b < w.heap.size → w'.heap[b]? = w.heap[b]?
 own : ∀ b, b < w.heap.size → G'.own b = G.own b
 nm : G'.nm = G.nm
 nl : ∀ b, G'.own b = .lent → G.own b = .lent
theorem Grow.stay (h : Grow w w' G G') : Stay G G' w w' :=
 ⟨h.size, fun b t hb hi => ⟨by unfold Im at hi ⊢; rw [h.own b hb]; exact hi, h.heap b hb⟩⟩
theorem BlkOK.grow {d : Nat} {k : Blk} (g : Grow w w' G G') (h : BlkOK G w d k) : BlkOK G' w' d k := by
 cases k with
 | dead => trivial
 | var cs =>
   obtain ⟨p, h1, h2, h3⟩ := h
   have hb : p.b < w.heap.size := by obtain ⟨_, vs, hh, _⟩ := h3; exact hh.lt
   exact ⟨p, by rw [g.nm]; exact h1, h2, h3.upd g.stay (g.own _ hb) (g.heap _ hb) fun _ _ _ q _ => by rw [g.nm]⟩
 | tbl zs es pd =>
   obtain ⟨h1, p, h2, h3⟩ := h
   exact ⟨h1, p, by rw [g.nm]; exact h2, h3.stays g.stay (fun b hb ho => ⟨(g.own b hb).trans ho, g.heap b hb⟩) (fun k q _ => by rw [g.nm])⟩
 | row zs es =>
   obtain ⟨h1, h2, h3, h4⟩ := h
   refine ⟨h1, h2, by rw [g.nm]; exact h3, ?_⟩
   rcases h4 with ⟨h4, h5⟩ | ⟨p, h4, h5, h6⟩
   ·exact .inl ⟨h4, by rw [g.nm]; exact h5⟩
   ·have hb : p.b < w.heap.size := by obtain ⟨_, vs, hh, _⟩ := h6; exact hh.lt
    exact .inr ⟨p, by rw [g.nm]; exact h4, h5, h6.flat g.stay (g.own _ hb) (g.heap _ hb)⟩
theorem Rel.grow (h : Rel B s a w G) (g : Grow w w' G G') : Rel B s a w' G' where
 defers := h.defers
 len := h.len
 vt i x v hx hv := (h.vt i x v hx hv).upd g.stay fun q _ => by rw [g.nm]
 vb d k hk := (h.vb d k hk).grow g
 os := g.os.trans h.os
 tape := g.tape.trans h.tape
 output := g.output.trans h.output
 size := Nat.le_trans h.size g.size
 par k hk := by rw [g.nm]; exact h.par k hk
 old b hb hn := by
  have hb' := Nat.lt_of_lt_of_le hb h.size
  obtain ⟨h1, h2⟩ := h.old b hb hn
  exact ⟨(g.own b hb').trans h1, (g.heap b hb').trans h2⟩
 nl b hb := h.nl b (g.nl b hb)
theorem put_tmps (a : Act) (d : Nat) (v : Value) : (a.put (some d) v).tmps = a.tmps.setIfInBounds d v := rfl
theorem Rel.put (h : Rel B s a w G) (d : Nat) (x : AV) (v : Value) (hv : V G w true x v) : Rel B (s.ap (.put d x)) (a.put (some d) v) w G where
 defers := h.defers
 len := by simp only [St.ap, List.length_set, put_tmps, Array.size_setIfInBounds]; exact h.len
 vt i y u hy hu := by
  simp only [St.ap, List.getElem?_set] at hy
  rw [put_tmps, Array.getElem?_setIfInBounds] at hu
  by_cases e : d = i
  ·subst e
   simp only [if_true] at hy hu
   split at hy
   ·split at hu
    ·injection hy with hy
     injection hu with hu
     subst hy hu
     exact hv
    ·cases hu
   ·cases hy
  ·rw [if_neg e] at hy hu
   exact h.vt i y u hy hu
 vb := h.vb
 os := h.os
 tape := h.tape
 output := h.output
 size := h.size
 par := h.par
 old := h.old
 nl := h.nl
theorem Rel.slotW (h : Rel B s a w G) (t : Nat) (x : AV) (hx : ∀ v, a.tmps[t]? = some v → V G w true x v) : Rel B (s.ap (.put t x)) a w G where
 defers := h.defers
 len := by simp only [St.ap, List.length_set]; exact h.len
 vt i y u hy hu := by
  simp only [St.ap, List.getElem?_set] at hy
  by_cases e : t = i
  ·subst e
   simp only [if_true] at hy
   split at hy
   ·injection hy with hy
    subst hy
    exact hx u hu
   ·cases hy
  ·rw [if_neg e] at hy
   exact h.vt i y u hy hu
 vb := h.vb
 os := h.os
 tape := h.tape
 output := h.output
 size := h.size
 par := h.par
 old := h.old
 nl := h.nl
theorem Rel.junk (h : Rel B s a w G) (t : Nat) : Rel B (s.ap (.put t .junk)) a w G := h.slotW t _ fun _ _ => .junk _ _
theorem Rel.setB (h : Rel B s a w G) (q : Nat) (k : Blk) (hk : BlkOK G w q k) : Rel B (s.ap (.blk q k)) a w G where
 defers := h.defers
 len := h.len
 vt := h.vt
 vb d k' hd := by
  simp only [St.ap, List.getElem?_set] at hd
  by_cases e : q = d
  ·subst e
   simp only [if_true] at hd
   split at hd
   ·injection hd with hd
    subst hd
    exact hk
   ·cases hd
  ·rw [if_neg e] at hd
   exact h.vb d k' hd
 os := h.os
 tape := h.tape
 output := h.output
 size := h.size
 par := h.par
 old := h.old
 nl := h.nl
theorem Rel.kill (h : Rel B s a w G) (q : Nat) : Rel B (s.ap (.blk q .dead)) a w G := h.setB q .dead trivial
theorem Rel.rename (h : Rel B s a w G) (q : Nat) (N : Nat × Option Pl) (hq : B.m ≤ q) (ht : ∀ (i : Nat) (x : AV), s.T[i]? = some x → q ∉ x.refs) (hc : ∀ (d : Nat) (k : Blk), s.C[d]? = some k → q ∉ k.refs) (hd : s.c q = .dead) :
  Rel B s a w { G with nm := fun n => if n = q then N else G.nm n } := by
 have E : Stay G { G with nm := fun n => if n = q then N else G.nm n } w w := ⟨Nat.le_refl _, fun _ _ _ h => ⟨h, rfl⟩⟩
 refine ⟨h.defers, h.len, fun i x v hx hv => (h.vt i x v hx hv).upd E fun p hp => ?_, fun d k hk => ?_, h.os, h.tape, h.output, h.size, fun k hk => ?_, h.old, h.nl⟩
 ·have : p ≠ q := fun e => ht i x hx (e ▸ hp)
  simp [this]
 ·by_cases e : d = q
  ·subst e
   have : k = .dead := by
    unfold St.c at hd
    simp only [List.getD, hk, Option.getD_some] at hd
    exact hd
   subst this
   trivial
  ·have h0 := h.vb d k hk
   cases k with
   | dead => trivial
   | var cs =>
     obtain ⟨p, h1, h2, h3⟩ := h0
     refine ⟨p, by simp [e, h1], h2, h3.upd E rfl rfl fun t x hx r hr => ?_⟩
     have : r ≠ q := fun e' => hc d _ hk (e' ▸ AV.mem_refsL hx hr)
     simp [this]
   | tbl zs es pd =>
     obtain ⟨h1, p, h2, h3⟩ := h0
     refine ⟨h1, p, by simp [e, h2], h3.stays E (fun b hb ho => ⟨ho, rfl⟩) (fun k r hr => ?_)⟩
     have hr' : r ≠ q := fun e' => hc d _ hk (by subst e' hr; simp [Blk.refs])
     simp [hr']
   | row zs es =>
     obtain ⟨h1, h2, h3, h4⟩ := h0
     refine ⟨h1, h2, by simp [e, h3], ?_⟩
     rcases h4 with ⟨h4, h5⟩ | ⟨p, h4, h5, h6⟩
     ·exact .inl ⟨h4, by simp [e, h5]⟩
     ·exact .inr ⟨p, by simp [e, h4], h5, h6.flat E rfl rfl⟩
 ·have : k ≠ q := by omega
  simp only [this, if_false]
  exact h.par k hk
theorem Rel.touch (h : Rel B s a w G) (b q : Nat) (hown : G.own b = .box q) (hd : s.c q = .dead) (O : Owner) (hos : w'.os = w.os) (htp : w'.tape = w.tape) (hout : w'.output = w.output) (hsz : w.heap.size ≤ w'.heap.size) (hh : ∀ b', b' ≠ b → b' < w.heap.size → w'.heap[b']? = w.heap[b']?) (hO : O ≠ .lent := by intro h; cases h) :
  Rel B s a w' { G with own := fun n => if n = b then O else G.own n } := by
 have E : Stay G { G with own := fun n => if n = b then O else G.own n } w w' := by
  refine ⟨hsz, fun b' t hb' hi => ?_⟩
  have : b' ≠ b := by
   rintro rfl
   unfold Im at hi
   rw [hown] at hi
   rcases hi with hi | ⟨_, hi⟩ <;> cases hi
  refine ⟨?_, hh b' this hb'⟩
  unfold Im at hi ⊢
  simp only [this, if_false]
  exact hi
 have hne : ∀ d k p, s.C[d]? = some k → k ≠ .dead → G.own p = .box d → p ≠ b := by
  intro d k p hk hkd hp e
  subst e
  rw [hown] at hp
  injection hp with hp
  subst hp
  unfold St.c at hd
  simp only [List.getD, hk, Option.getD_some] at hd
  exact hkd hd
 refine ⟨h.defers, h.len, fun i x v hx hv => (h.vt i x v hx hv).upd E fun _ _ => rfl, fun d k hk => ?_, hos.trans h.os, htp.trans h.tape, hout.trans h.output, Nat.le_trans h.size hsz, h.par, fun b' hb' hn => ?_, fun b' hb' => ?_⟩
 ·have h0 := h.vb d k hk
  cases k with
  | dead => trivial
  | var cs =>
    obtain ⟨p, h1, h2, h3⟩ := h0
    have hp := hne d _ p.b hk (by simp) h3.1
    have hb : p.b < w.heap.size := by obtain ⟨_, vs, hh, _⟩ := h3; exact hh.lt
    exact ⟨p, h1, h2, h3.upd E (by simp [hp]) (hh _ hp hb) fun _ _ _ _ _ => rfl⟩
  | tbl zs es pd =>
    obtain ⟨h1, p, h2, h3⟩ := h0
    refine ⟨h1, p, h2, h3.stays E (fun b' hb' ho => ?_) (fun k q _ => rfl)⟩
    have hp := hne d _ b' hk (by simp) ho
    exact ⟨by simp [hp, ho], hh _ hp hb'⟩
  | row zs es =>
    obtain ⟨h1, h2, h3, h4⟩ := h0
    refine ⟨h1, h2, h3, ?_⟩
    rcases h4 with h4 | ⟨p, h4, h5, h6⟩
    ·exact .inl h4
    ·have hp := hne d _ p.b hk (by simp) h6.1
     have hb : p.b < w.heap.size := by obtain ⟨_, vs, hh, _⟩ := h6; exact hh.lt
     exact .inr ⟨p, h4, h5, h6.flat E (by simp [hp]) (hh _ hp hb)⟩
 ·obtain ⟨h1, h2⟩ := h.old b' hb' hn
  have : b' ≠ b := by
   rintro rfl
   rw [hown] at h1
   exact hn q h1.symm
  exact ⟨by simp only [this, if_false]; exact h1, (hh b' this (Nat.lt_of_lt_of_le hb' h.size)).trans h2⟩
 ·replace hb' : (if b' = b then O else G.own b') = .lent := hb'
  split at hb'
  ·exact absurd hb' hO
  ·exact h.nl b' hb'
end
end Go.Proofs.Gv
