import Derived.Test.YthnbpgiohimkoaaPw23
import Derived.Scope
set_option linter.unusedVariables false
namespace Go.Proofs.Gv
open Go.RowKit
section
variable {X : Cfg} {B : Bs} {s s' : St} {a : Act} {w : World} {G : Gh} {o : Oper} {u : List Wr} {K : Act → World → Prop} {Q : Exit → Act → World → Prop}
def exOf : Ex → Exit
 | .norm => .normal
 | .ret => .ret
 | .exit i => .exit i
theorem Rel.asRow (h : Rel B s a w G) {i q : Nat} {zs : List Kd} (hz : 0 < zs.length) (hq : B.m ≤ q) (hno : noRefs q [i] [q] s = true) (hx : ∀ v, a.tmps[i]? = some v → ∃ A, v = .slice A 0 0) : ∃ G', Rel B ((s.ap (.blk q (.row zs []))).ap (.put i (.rf q zs))) a w G' := by
 have hf := h.fresh hq hno (0, none)
 have h1 := (hf.setB q (.row zs []) ⟨by simp, hz, by simp [nmAt], .inl ⟨rfl, by simp [nmAt]⟩⟩).slotW i (.rf q zs) fun v hv => by
  obtain ⟨A, rfl⟩ := hx v hv
  exact .rfnil q zs A (by simp [nmAt])
 exact ⟨_, h1.congr (by simp [St.ap])⟩
theorem nilV (h : Rel B s a w G) {i : Nat} (hi : isNil (s.t i) = true) : ∀ v, a.tmps[i]? = some v → ∃ A, v = .slice A 0 0 := by
 intro v hv
 obtain ⟨v', h1, h2⟩ := h.some_of (q := i) (fun e => by rw [e] at hi; cases hi)
 rw [hv] at h1
 injection h1 with h1
 subst h1
 generalize s.t i = x at hi h2
 cases x <;> simp [isNil] at hi
 ·exact ⟨none, h2.nil_inv⟩
 ·cases h2 with
  | nilz _ A => exact ⟨A, rfl⟩
theorem Rel.renum (h : Rel B s a w G) {q2 q1 : Nat} (hd : s.c q1 = .dead) (hno : noRefs q1 [] [q1] s = true) (h1 : B.m ≤ q1) (hne : q1 ≠ q2) :
  ∃ G', Rel B ⟨s.T.map (AV.ren (swapQ q2 q1)), ((s.C.set q1 (s.c q2)).set q2 .dead).map (Blk.ren (swapQ q2 q1))⟩ a w G' := by
 let f := swapQ q2 q1
 let G' : Gh := { own := fun b => match G.own b with | .box q => if q = q2 then .box q1 else if q = q1 then .ext else .box q | x => x, nm := fun q => if q = q1 then G.nm q2 else G.nm q }
 have hf2 : f q2 = q1 := by simp [f, swapQ]
 have hfo : ∀ q, q ≠ q2 → f q = q := by
  intro q hq
  show cond (Nat.beq q q2) q1 q = q
  cases hb : Nat.beq q q2 with
  | true => exact absurd (Nat.eq_of_beq_eq_true hb) hq
  | false => rfl
 have hnm : ∀ q, q ≠ q1 → G'.nm (f q) = G.nm q := by
  intro q hq
  by_cases e : q = q2
  ·subst e; rw [hf2]; show (if q1 = q1 then G.nm q else _) = _; rw [if_pos rfl]
  ·rw [hfo q e]; show (if q = q1 then G.nm q2 else G.nm q) = _; rw [if_neg hq]
 have hst : Stay G G' w w := by
  refine ⟨Nat.le_refl _, fun b t hb hi => ⟨?_, rfl⟩⟩
  unfold Im at hi ⊢
  rcases hi with hi | ⟨e, hi⟩
  ·left; show (match G.own b with | .box q => if q = q2 then Owner.box q1 else if q = q1 then .ext else .box q | x => x) = _; rw [hi]
  ·right; refine ⟨e, ?_⟩; show (match G.own b with | .box q => if q = q2 then Owner.box q1 else if q = q1 then .ext else .box q | x => x) = _; rw [hi]
 rw [noRefs_iff] at hno
 have hbox : ∀ (b d : Nat), d ≠ q1 → G.own b = .box d → G'.own b = .box (f d) := by
  intro b d hd1 hb
  show (match G.own b with | .box q => if q = q2 then Owner.box q1 else if q = q1 then .ext else .box q | x => x) = _
  rw [hb]
  by_cases e : d = q2
  ·subst e; rw [hf2]; show (if d = d then Owner.box q1 else _) = _; rw [if_pos rfl]
  ·rw [hfo d e]
   show (if d = q2 then Owner.box q1 else if d = q1 then .ext else .box d) = _
   rw [if_neg e, if_neg hd1]
 have hblk : ∀ (d : Nat) (k : Blk), d ≠ q1 → (∀ q ∈ k.refs, q ≠ q1) → BlkOK G w d k → BlkOK G' w (f d) (k.ren f) := by
  intro d k hd1 hk h0
  cases k with
  | dead => trivial
  | var cs =>
    obtain ⟨p, h3, h4, h5, vs, h6, h7, h8, h9⟩ := h0
    simp only [Blk.ren, AV.renL_eq]
    have hl : (cs.map (AV.ren f)).length = cs.length := List.length_map _
    refine ⟨p, by rw [hnm d hd1, hl]; exact h3, by rw [hl]; exact h4, hbox _ d hd1 h5, vs, h6, by rw [hl]; exact h7, h8, fun t x v ht hx hv => ?_⟩
    replace hx : (cs.map (AV.ren f))[t]? = some x := hx
    rw [List.getElem?_map] at hx
    cases hc : cs[t]? with
    | none => rw [hc] at hx; cases hx
    | some y =>
      rw [hc] at hx
      injection hx with hx
      subst hx
      exact (h9 t y v (by rw [hl] at ht; exact ht) hc hv).ren hst f fun q hq => hnm q (hk q (AV.mem_refsL hc hq))
  | tbl zs es pd =>
    obtain ⟨h3, p, h4, h5⟩ := h0
    have := h5.upd hst f (d' := f d) (fun b _ hb => ⟨hbox b d hd1 hb, rfl⟩) (fun k' r hr => by rw [hnm r (hk r (by subst hr; simp [Blk.refs]))])
    cases pd with
    | none => exact ⟨h3, p, by rw [hnm d hd1]; exact h4, this⟩
    | some x => exact ⟨h3, p, by rw [hnm d hd1]; exact h4, this⟩
  | row zs es =>
    obtain ⟨h3, h4, h5, h6⟩ := h0
    refine ⟨h3, h4, by rw [hnm d hd1]; exact h5, ?_⟩
    rcases h6 with ⟨h6, h7⟩ | ⟨p, h6, h7, h8, vs, h9, h10, h11, h12⟩
    ·exact .inl ⟨h6, by rw [hnm d hd1]; exact h7⟩
    ·refine .inr ⟨p, by rw [hnm d hd1]; exact h6, h7, hbox _ d hd1 h8, vs, h9, h10, h11, fun t x v ht hx hv => ?_⟩
     have := h12 t x v ht hx hv
     exact this.upd hst (by rw [(this.flat rfl).1]; simp)
 refine ⟨G', h.defers, by simp [h.len], fun i x v hx hv => ?_, fun d k hk => ?_, h.os, h.tape, h.output, h.size, fun k hk => ?_, fun b hb hn => ?_, fun b hb => h.nl b ?_⟩
 ·rw [List.getElem?_map] at hx
  cases hc : s.T[i]? with
  | none => rw [hc] at hx; cases hx
  | some y =>
    rw [hc] at hx
    injection hx with hx
    subst hx
    exact (h.vt i y v hc hv).ren hst f fun q hq => hnm q fun e => hno.1 i y hc (by simp) (e ▸ hq)
 ·replace hk : (((s.C.set q1 (s.c q2)).set q2 .dead).map (Blk.ren f))[d]? = some k := hk
  rw [List.getElem?_map] at hk
  cases hc : ((s.C.set q1 (s.c q2)).set q2 .dead)[d]? with
  | none => rw [hc] at hk; cases hk
  | some k0 =>
    rw [hc] at hk
    injection hk with hk
    subst hk
    rw [List.getElem?_set] at hc
    split at hc
    ·split at hc
     ·injection hc with hc; subst hc; trivial
     ·cases hc
    ·rename_i hd2
     rw [List.getElem?_set] at hc
     split at hc
     ·rename_i hd1
      subst hd1
      split at hc
      ·injection hc with hc
       have := hblk q2 (s.c q2) (Ne.symm hne) (fun q hq e => by
        subst e
        by_cases hl : q2 < s.C.length
        ·refine hno.2 q2 (s.c q2) ?_ (by simp [Ne.symm hne]) hq
         simp [St.c, List.getD, hl]
        ·have : s.c q2 = .dead := by simp [St.c, List.getD, List.getElem?_eq_none (by omega : s.C.length ≤ q2)]
         rw [this] at hq
         cases hq) (h.blk q2)
       rw [hf2, hc] at this
       exact this
      ·cases hc
     ·rename_i hd1
      have h0 := h.vb d k0 hc
      have := hblk d k0 (Ne.symm hd1) (fun q hq e => hno.2 d k0 hc (by simp [Ne.symm hd1]) (e ▸ hq)) h0
      rwa [hfo d (Ne.symm hd2)] at this
 ·show (if k = q1 then G.nm q2 else G.nm k) = _
  rw [if_neg (by omega)]
  exact h.par k hk
 ·obtain ⟨h3, h4⟩ := h.old b hb hn
  refine ⟨?_, h4⟩
  show (match G.own b with | .box q => if q = q2 then Owner.box q1 else if q = q1 then .ext else .box q | x => x) = _
  rw [h3]
  cases hO : B.own0 b with
  | box j => exact absurd hO (hn j)
  | imm => rfl
  | lent => rfl
  | ext => rfl
 ·replace hb : (match G.own b with | .box q => if q = q2 then Owner.box q1 else if q = q1 then .ext else .box q | x => x) = .lent := hb
  cases hO : G.own b with
  | box j => rw [hO] at hb; simp only at hb; split at hb <;> first | cases hb | (split at hb <;> cases hb)
  | imm => rw [hO] at hb; cases hb
  | lent => rfl
  | ext => rw [hO] at hb; cases hb
theorem Rel.adv (h : Rel B s a w G) {i q j n cp : Nat} {zs : List Kd} {es : List (List AV)} (hr : rowOf s q zs = some es) (hi : s.t i = .rs q zs j n cp) (hno : noRefs q [i] [q] s = true) (hq : B.m ≤ q) : ∃ G', Rel B ((s.ap (.blk q (.row zs ((es.drop j).take n)))).ap (.put i (.rf q zs))) a w G' := by
 have hrow := h.row hr
 obtain ⟨hok, hz, hlen, hcase⟩ := hrow
 have hok' : ∀ e ∈ (es.drop j).take n, okRow zs e = true := fun e he => hok e (List.mem_of_mem_drop (List.mem_of_mem_take he))
 obtain ⟨v, hav, hv⟩ := h.some_of (q := i) (fun e => by rw [hi] at e; cases e)
 rw [hi] at hv
 cases hv with
 | rsnil _ _ _ _ _ A _ hn _ =>
   subst hn
   have hf := h.fresh hq hno (0, none)
   have h1 := (hf.setB q (.row zs []) ⟨by simp, hz, by simp [nmAt], .inl ⟨rfl, by simp [nmAt]⟩⟩).slotW i (.rf q zs) fun v' hv' => by
    rw [hav] at hv'
    injection hv' with hv'
    subst hv'
    exact .rfnil q zs A (by simp [nmAt])
   exact ⟨_, h1.congr (by simp [St.ap])⟩
 | rs _ _ _ _ _ c p hp hin hn hcp hpc hm =>
   rcases hcase with ⟨_, h5⟩ | ⟨p', h5, h6, hown, vs, hat, hcap, hone, hcells⟩
   ·rw [h5] at hp; cases hp
   ·rw [h5] at hp
    injection hp with hp
    subst hp
    rw [hlen] at hin
    have hl : ((es.drop j).take n).length = n := by simp; omega
    have hmul : (p'.cap - j) * zs.length + j * zs.length = p'.cap * zs.length := by rw [← Nat.add_mul, Nat.sub_add_cancel (by omega)]
    have hf := h.fresh hq hno (n, some ⟨p'.b, p'.cap - j, p'.o + j * zs.length, fun _ => 0⟩)
    have hst := Stay.nm G w q (n, some ⟨p'.b, p'.cap - j, p'.o + j * zs.length, fun _ => 0⟩)
    have h1 := (hf.setB q (.row zs ((es.drop j).take n)) ⟨hok', hz, by rw [hl]; simp [nmAt], .inr ⟨⟨p'.b, p'.cap - j, p'.o + j * zs.length, fun _ => 0⟩, by simp [nmAt], by rw [hl]; show n ≤ p'.cap - j; omega, hown, vs, hat, by show p'.o + j * zs.length + (p'.cap - j) * zs.length ≤ vs.size; omega, hone, fun t x v ht hx hv => by
     replace hx : flatO (p'.o + j * zs.length) zs.length ((es.drop j).take n) t = some x := hx
     replace ht : t < p'.o + j * zs.length + (p'.cap - j) * zs.length := ht
     unfold flatO at hx
     split at hx
     ·cases hx
     ·rename_i hge
      obtain ⟨u, rfl⟩ : ∃ u, t = p'.o + (j * zs.length + u) := ⟨t - (p'.o + j * zs.length), by omega⟩
      rw [show p'.o + (j * zs.length + u) - (p'.o + j * zs.length) = u by omega] at hx
      obtain ⟨e, h7, h8⟩ := flatF_inv hx
      rw [List.getElem?_take] at h7
      split at h7
      ·rw [List.getElem?_drop] at h7
       have h9 : flatF zs.length es (j * zs.length + u) = some x := by
        have hm := Nat.mod_lt u hz
        have hd := Nat.div_add_mod u zs.length
        rw [show j * zs.length + u = (j + u / zs.length) * zs.length + u % zs.length by rw [Nat.add_mul, Nat.mul_comm (u / zs.length)]; omega, flatF_at hm, h7]
        exact h8
       have key := hcells (p'.o + (j * zs.length + u)) x v (by omega) (by rw [flatO_add]; exact h9) hv
       exact key.upd hst (by rw [(key.flat rfl).1]; simp)
      ·cases h7⟩⟩).slotW i (.rf q zs) fun v' hv' => by
     rw [hav] at hv'
     injection hv' with hv'
     subst hv'
     exact .rf q zs n c ⟨p'.b, p'.cap - j, p'.o + j * zs.length, fun _ => 0⟩ (by simp [nmAt]) (by simp [nmAt]) hn (by show c ≤ p'.cap - j; omega) hm
    exact ⟨_, h1.congr (by simp [St.ap])⟩
theorem Rel.cfrz (h : Rel B s a w G) {b off q : Nat} {zs : List Kd} {es : List (List AV)} {cs : List AV} (hb : s.c b = .var cs) (hoff : off < cs.length) (hcell : cs.getD off .junk = .rf q zs) (hr : rowOf s q zs = some es) (hbq : b ≠ q) :
  ∃ G', Rel B ((s.ap (.blk q .dead)).ap (.blk b (.var (cs.set off (.sl .imm zs es))))) a w G' := by
 have hrow := h.row hr
 have hbl : b < s.C.length := by
  apply Classical.byContradiction
  intro hl
  have : s.c b = .dead := by simp [St.c, List.getD, List.getElem?_eq_none (by omega : s.C.length ≤ b)]
  rw [this] at hb
  cases hb
 have hB := h.blk b
 rw [hb] at hB
 obtain ⟨p0, g1, g2, g3, vs0, g4, g5, g6, g7⟩ := hB
 have hge : cs[off]? = some (.rf q zs) := by
  rw [List.getElem?_eq_getElem hoff]
  have : cs.getD off .junk = cs[off] := by simp [List.getD, hoff]
  rw [← this, hcell]
 have hov : vs0[off]? = some vs0[off] := Array.getElem?_eq_getElem (by omega)
 have hV := g7 off _ _ hoff hge hov
 have hk := h.kill q
 have fin : ∀ G', Rel B (s.ap (.blk q .dead)) a w G' → V G' w true (.sl .imm zs es) vs0[off] → (∀ k, G'.nm k = G.nm k) → ∃ G', Rel B ((s.ap (.blk q .dead)).ap (.blk b (.var (cs.set off (.sl .imm zs es))))) a w G' := by
  intro G' hk' hv' hnm
  refine ⟨G', hk'.setB b _ ?_⟩
  have hbb := hk'.vb b (.var cs) (by
   show (s.C.set q .dead)[b]? = _
   rw [List.getElem?_set, if_neg (Ne.symm hbq), List.getElem?_eq_getElem hbl]
   have : s.c b = s.C[b] := by simp [St.c, List.getD, hbl]
   rw [← this, hb])
  obtain ⟨p1, k1, k2, k3, vs1, k4, k5, k6, k7⟩ := hbb
  have hpp : p1 = p0 := by
   rw [hnm, g1] at k1
   injection k1 with _ k1
   injection k1 with k1
   exact k1.symm
  subst hpp
  have hvv : vs1 = vs0 := by
   obtain ⟨_, _, e1, _⟩ := k4
   obtain ⟨_, _, e2, _⟩ := g4
   rw [e1] at e2
   injection e2 with e2
   injection e2
  subst hvv
  refine ⟨p1, by rw [List.length_set] at *; exact k1, by rw [List.length_set] at *; exact k2, k3, vs1, k4, by rw [List.length_set] at *; exact k5, k6, fun t x v ht hx hv => ?_⟩
  replace hx : (cs.set off (.sl .imm zs es))[t]? = some x := hx
  rw [List.length_set] at ht
  rw [List.getElem?_set] at hx
  split at hx
  ·rename_i e
   subst e
   injection hx with hx
   subst hx
   rw [hov] at hv
   injection hv with hv
   subst hv
   exact hv'
  ·exact k7 t x v ht hx hv
 by_cases hp : ∃ p, (G.nm q).2 = some p ∧ G.own p.b = .box q
 ·obtain ⟨p, hp1, hp2⟩ := hp
  have ht := hk.touch (w' := w) p.b q hp2 (by
   simp only [St.c, St.ap, List.getD, List.getElem?_set]
   simp
   split <;> rfl) .imm rfl rfl rfl (Nat.le_refl _) (fun _ _ _ => rfl)
  refine fin _ ht (slFull hrow hV ⟨Nat.le_refl _, fun b t hb him => ⟨?_, rfl⟩⟩ (fun p' hp' _ => ?_) (fun h => by cases h)) (fun _ => rfl)
  ·have : b ≠ p.b := by
    rintro rfl
    unfold Im at him
    rw [hp2] at him
    rcases him with him | ⟨_, him⟩ <;> cases him
   unfold Im at him ⊢
   simp only [this, if_false]
   exact him
  ·rw [hp1] at hp'
   injection hp' with hp'
   subst hp'
   left
   simp
 ·exact fin _ hk (slFull hrow hV (Stay.refl G w) (fun p' hp' ho => absurd ⟨p', hp', ho⟩ hp) (fun h => by cases h)) (fun _ => rfl)
theorem Rel.cadv (h : Rel B s a w G) {b off q j n cp : Nat} {ex : List Nat} {zs : List Kd} {es : List (List AV)} {cs : List AV} (hb : s.c b = .var cs) (hoff : off < cs.length) (hcell : cs.getD off .junk = .rs q zs j n cp) (hr : rowOf s q zs = some es) (hno : noRefs q ex [b, q] s = true)
  (hself : inL q (AV.refsL (cs.set off .junk)) = false) (hq : B.m ≤ q) (hbq : b ≠ q) : ∃ G', Rel B ⟨junkAt ex s.T, (s.C.set q (.row zs ((es.drop j).take n))).set b (.var (cs.set off (.rf q zs)))⟩ a w G' := by
 have hrow := h.row hr
 obtain ⟨hok, hz, hlen, hcase⟩ := hrow
 have hok' : ∀ e ∈ (es.drop j).take n, okRow zs e = true := fun e he => hok e (List.mem_of_mem_drop (List.mem_of_mem_take he))
 have hbl : b < s.C.length := by
  apply Classical.byContradiction
  intro hl
  have : s.c b = .dead := by simp [St.c, List.getD, List.getElem?_eq_none (by omega : s.C.length ≤ b)]
  rw [this] at hb
  cases hb
 have hB := h.blk b
 rw [hb] at hB
 obtain ⟨p0, g1, g2, g3, vs0, g4, g5, g6, g7⟩ := hB
 have hge : cs[off]? = some (.rs q zs j n cp) := by
  rw [List.getElem?_eq_getElem hoff]
  have : cs.getD off .junk = cs[off] := by simp [List.getD, hoff]
  rw [← this, hcell]
 have hov : vs0[off]? = some vs0[off] := Array.getElem?_eq_getElem (by omega)
 have hV := g7 off _ _ hoff hge hov
 have hj1 : Rel B (s.ap (.blk b (.var (cs.set off .junk)))) a w G := by
  refine h.setB b _ ⟨p0, by rw [List.length_set]; exact g1, by rw [List.length_set]; exact g2, g3, vs0, g4, by rw [List.length_set]; exact g5, g6, fun t x v ht hx hv => ?_⟩
  replace hx : (cs.set off .junk)[t]? = some x := hx
  rw [List.length_set] at ht
  rw [List.getElem?_set] at hx
  split at hx
  ·injection hx with hx
   subst hx
   exact .junk _ _
  ·exact g7 t x v ht hx hv
 have hno1 : noRefs q ex [q] (s.ap (.blk b (.var (cs.set off .junk)))) = true := by
  rw [noRefs_iff] at hno ⊢
  refine ⟨hno.1, fun d k hk hd => ?_⟩
  have hk' : (s.C.set b (.var (cs.set off .junk)))[d]? = some k := hk
  rw [List.getElem?_set] at hk'
  split at hk'
  ·injection hk' with hk'
   subst hk'
   intro hm
   rw [show inL q (AV.refsL (cs.set off .junk)) = true from inL_iff.2 hm] at hself
   cases hself
  ·rename_i hdb
   refine hno.2 d k hk' (by simp at hd ⊢; exact ⟨Ne.symm hdb, hd⟩)
 have fin : ∀ (N : Nat × Option Pl), Rel B ⟨ex.foldl (fun T i => T.set i .junk) (s.ap (.blk b (.var (cs.set off .junk)))).T, (s.ap (.blk b (.var (cs.set off .junk)))).C.set q .dead⟩ a w (nmAt G q N) → BlkOK (nmAt G q N) w q (.row zs ((es.drop j).take n)) → V (nmAt G q N) w true (.rf q zs) vs0[off] →
   Rel B ⟨junkAt ex s.T, (s.C.set q (.row zs ((es.drop j).take n))).set b (.var (cs.set off (.rf q zs)))⟩ a w (nmAt G q N) := by
  intro N hf hbq' hcv
  have h2 := hf.setB q _ hbq'
  have hbb := hf.vb b (.var (cs.set off .junk)) (by
   rw [List.getElem?_set, if_neg (Ne.symm hbq)]
   show (s.C.set b (.var (cs.set off .junk)))[b]? = _
   simp [hbl])
  obtain ⟨p1, k1, k2, k3, vs1, k4, k5, k6, k7⟩ := hbb
  have hpp : p1 = p0 := by
   have e : (nmAt G q N).nm b = G.nm b := by simp [nmAt, hbq]
   rw [e, g1] at k1
   injection k1 with _ k1
   injection k1 with k1
   exact k1.symm
  subst hpp
  have hvv : vs1 = vs0 := by
   obtain ⟨_, _, e1, _⟩ := k4
   obtain ⟨_, _, e2, _⟩ := g4
   rw [e1] at e2
   injection e2 with e2
   injection e2
  subst hvv
  have hb3 : BlkOK (nmAt G q N) w b (.var (cs.set off (.rf q zs))) := by
   refine ⟨p1, by rw [List.length_set] at k1 ⊢; exact k1, by rw [List.length_set] at k2 ⊢; exact k2, k3, vs1, k4, by rw [List.length_set] at k5 ⊢; exact k5, k6, fun t x v ht hx hv => ?_⟩
   replace hx : (cs.set off (.rf q zs))[t]? = some x := hx
   rw [List.length_set] at ht
   rw [List.getElem?_set] at hx
   split at hx
   ·rename_i e
    subst e
    injection hx with hx
    subst hx
    rw [hov] at hv
    injection hv with hv
    subst hv
    exact hcv
   ·rename_i e
    refine k7 t x v (by rw [List.length_set]; exact ht) ?_ hv
    show (cs.set off .junk)[t]? = some x
    rw [List.getElem?_set, if_neg e]
    exact hx
  have h3 := h2.setB b _ hb3
  refine h3.congr ?_
  simp only [St.ap, junkAt, List.set_set]
  congr 1
  rw [List.set_comm _ _ hbq, List.set_set]
 cases hvo : vs0[off] with
 | slice A n' c =>
   rw [hvo] at hV fin
   cases hV with
   | rsnil _ _ _ _ _ _ _ hn _ =>
     subst hn
     exact ⟨_, fin (0, none) (hj1.fresh hq hno1 (0, none)) ⟨by simp, hz, by simp [nmAt], .inl ⟨by simp, by simp [nmAt]⟩⟩ (.rfnil q zs A (by simp [nmAt]))⟩
   | rs _ _ _ _ _ _ p hp hin hn hcp hpc hm =>
     rcases hcase with ⟨_, h5⟩ | ⟨p', h5, h6, hown, vs, hat, hcap, hone, hcells⟩
     ·rw [h5] at hp; cases hp
     ·rw [h5] at hp
      injection hp with hp
      subst hp
      rw [hlen] at hin
      have hl : ((es.drop j).take n).length = n := by simp; omega
      have hmul : (p'.cap - j) * zs.length + j * zs.length = p'.cap * zs.length := by rw [← Nat.add_mul, Nat.sub_add_cancel (by omega)]
      have hst := Stay.nm G w q (n, some ⟨p'.b, p'.cap - j, p'.o + j * zs.length, fun _ => 0⟩)
      refine ⟨_, fin (n, some ⟨p'.b, p'.cap - j, p'.o + j * zs.length, fun _ => 0⟩) (hj1.fresh hq hno1 _) ⟨hok', hz, by rw [hl]; simp [nmAt], .inr ⟨⟨p'.b, p'.cap - j, p'.o + j * zs.length, fun _ => 0⟩, by simp [nmAt], by rw [hl]; show n ≤ p'.cap - j; omega, hown, vs, hat, by show p'.o + j * zs.length + (p'.cap - j) * zs.length ≤ vs.size; omega, hone, fun t x v ht hx hv => ?_⟩⟩ ?_⟩
      ·replace hx : flatO (p'.o + j * zs.length) zs.length ((es.drop j).take n) t = some x := hx
       replace ht : t < p'.o + j * zs.length + (p'.cap - j) * zs.length := ht
       unfold flatO at hx
       split at hx
       ·cases hx
       ·rename_i hge
        obtain ⟨u, rfl⟩ : ∃ u, t = p'.o + (j * zs.length + u) := ⟨t - (p'.o + j * zs.length), by omega⟩
        rw [show p'.o + (j * zs.length + u) - (p'.o + j * zs.length) = u by omega] at hx
        obtain ⟨e, h7, h8⟩ := flatF_inv hx
        rw [List.getElem?_take] at h7
        split at h7
        ·rw [List.getElem?_drop] at h7
         have h9 : flatF zs.length es (j * zs.length + u) = some x := by
          have hm := Nat.mod_lt u hz
          have hd := Nat.div_add_mod u zs.length
          rw [show j * zs.length + u = (j + u / zs.length) * zs.length + u % zs.length by rw [Nat.add_mul, Nat.mul_comm (u / zs.length)]; omega, flatF_at hm, h7]
          exact h8
         have key := hcells (p'.o + (j * zs.length + u)) x v (by omega) (by rw [flatO_add]; exact h9) hv
         exact key.upd hst (by rw [(key.flat rfl).1]; simp)
        ·cases h7
      ·exact .rf q zs n c ⟨p'.b, p'.cap - j, p'.o + j * zs.length, fun _ => 0⟩ (by simp [nmAt]) (by simp [nmAt]) hn (by show c ≤ p'.cap - j; omega) hm
 | _ => rw [hvo] at hV; cases hV
theorem noMtL_get {b : Nat} : ∀ {l : List AV}, AV.noMtL b l = true → ∀ (i : Nat) (x : AV), l[i]? = some x → x.noMt b = true := by
 intro l
 induction l with
 | nil => intro _ i x hx; cases hx
 | cons y l ih =>
   intro h i x hx
   simp only [AV.noMtL, Bool.and_eq_true] at h
   cases i with
   | zero => simp at hx; subst hx; exact h.1
   | succ i => exact ih h.2 i x (by simpa using hx)
theorem noMt_ne {b s : Nat} {x : AV} (h : x.noMt b = true) (hx : x.noMt b = !(inL b [s])) : s ≠ b := by
 rw [hx] at h
 intro e
 subst e
 simp [inL] at h
theorem V.abs {G' : Gh} {b q : Nat} {f : Nat → Nat} (E : Stay G G' w w) (hfb : f b = q) (hnm : ∀ n, n ≠ b → n ≠ q → G'.nm (f n) = G.nm n) (hp : ∀ p, (G.nm b).2 = some p → ∃ p', (G'.nm q).2 = some p' ∧ p'.b = p.b) {r : Bool} {x : AV} {v : Value} (h : V G w r x v) : x.noMt b = true → q ∉ x.refs → V G' w r (x.ren f) v := by
 induction h with
 | junk r v => exact fun _ _ => .junk r v
 | int r k n => exact fun _ _ => .int r k n
 | bool r b => exact fun _ _ => .bool r b
 | str r l => exact fun _ _ => .str r l
 | nil r => exact fun _ _ => .nil r
 | nilz r A => exact fun _ _ => .nilz r A
 | nilp r => exact fun _ _ => .nilp r
 | nilm r => exact fun _ _ => .nilm r
 | fn r g cs vs hl h ih =>
   intro hm hq
   simp only [AV.ren, AV.renL_eq]
   refine .fn r g _ vs (by simpa using hl) fun i x v hx hv => ?_
   rw [List.getElem?_map] at hx
   cases hc : cs[i]? with
   | none => rw [hc] at hx; cases hx
   | some y =>
     rw [hc] at hx
     injection hx with hx
     subst hx
     exact ih i y v hc hv (noMtL_get (by simpa only [AV.noMt] using hm) i y hc) fun e => hq (AV.mem_refsL hc e)
 | agg r cs vs hl h ih =>
   intro hm hq
   simp only [AV.ren, AV.renL_eq]
   refine .agg r _ vs (by simpa using hl) fun i x v hx hv => ?_
   rw [List.getElem?_map] at hx
   cases hc : cs[i]? with
   | none => rw [hc] at hx; cases hx
   | some y =>
     rw [hc] at hx
     injection hx with hx
     subst hx
     exact ih i y v hc hv (noMtL_get (by simpa only [AV.noMt] using hm) i y hc) fun e => hq (AV.mem_refsL hc e)
 | tup r cs vs hl h ih =>
   intro hm hq
   simp only [AV.ren, AV.renL_eq]
   refine .tup r _ vs (by simpa using hl) fun i x v hx hv => ?_
   rw [List.getElem?_map] at hx
   cases hc : cs[i]? with
   | none => rw [hc] at hx; cases hx
   | some y =>
     rw [hc] at hx
     injection hx with hx
     subst hx
     exact ih i y v hc hv (noMtL_get (by simpa only [AV.noMt] using hm) i y hc) fun e => hq (AV.mem_refsL hc e)
 | slnil r t sz A c hA hm hn => exact fun _ _ => .slnil r t sz A c hA hm hn
 | sl r t sz es bb o c u hr hc hm hb hi hsz hcell h ih =>
   intro _ _
   refine .sl r t sz es bb o c u hr hc hm hb (E.blk bb t hb hi).1 hsz hcell fun i j e x h1 h2 => ?_
   have h3 := h i j e x h1 h2
   exact h3.upd E (by rw [(h3.flat rfl).1]; simp)
 | ip r t cs bb o u hr hb hi hcell h ih =>
   intro _ _
   refine .ip r t cs bb o u hr hb (E.blk bb t hb hi).1 hcell fun j x h1 => ?_
   have h3 := h j x h1
   exact h3.upd E (by rw [(h3.flat rfl).1]; simp)
 | mp s sz p hs =>
   intro _ hq
   have hsq : s ≠ q := fun e => hq (by subst e; simp [AV.refs])
   by_cases hsb : s = b
   ·subst hsb
    obtain ⟨p', h1, h2⟩ := hp p hs
    simp only [AV.ren, hfb]
    rw [← h2]
    exact .mp _ _ p' h1
   ·exact .mp _ _ p (by rw [hnm s hsb hsq]; exact hs)
 | hp s off p hs => exact fun hm hq => .hp _ _ p (by rw [hnm s (noMt_ne hm rfl) (fun e => hq (by subst e; simp [AV.refs]))]; exact hs)
 | ep s sz i off p hs hi => exact fun hm hq => .ep _ _ _ _ p (by rw [hnm s (noMt_ne hm rfl) (fun e => hq (by subst e; simp [AV.refs]))]; exact hs) (by rw [hnm s (noMt_ne hm rfl) (fun e => hq (by subst e; simp [AV.refs]))]; exact hi)
 | rf s sz n c p hs hn hc hp' hm' => exact fun hm hq => .rf _ _ _ _ p (by rw [hnm s (noMt_ne hm rfl) (fun e => hq (by subst e; simp [AV.refs]))]; exact hs) (by rw [hnm s (noMt_ne hm rfl) (fun e => hq (by subst e; simp [AV.refs]))]; exact hn) hc hp' hm'
 | rfnil s sz A h => exact fun hm hq => .rfnil _ _ A (by rw [hnm s (noMt_ne hm rfl) (fun e => hq (by subst e; simp [AV.refs]))]; exact h)
 | rs s sz i n cp c p hs hi hn hcp hp' hm' => exact fun hm hq => .rs _ _ _ _ _ _ p (by rw [hnm s (noMt_ne hm rfl) (fun e => hq (by subst e; simp [AV.refs]))]; exact hs) (by rw [hnm s (noMt_ne hm rfl) (fun e => hq (by subst e; simp [AV.refs]))]; exact hi) hn hcp hp' hm'
 | rsnil s sz i n cp A hi hn hcp => exact fun hm hq => .rsnil _ _ _ _ _ A (by rw [hnm s (noMt_ne hm rfl) (fun e => hq (by subst e; simp [AV.refs]))]; exact hi) hn hcp
 | mt s sz k o p hs => exact fun hm hq => .mt _ _ _ _ p (by rw [hnm s (noMt_ne hm rfl) (fun e => hq (by subst e; simp [AV.refs]))]; exact hs)
theorem Rel.junkAt (h : Rel B s a w G) : ∀ (ex : List Nat), Rel B ⟨Gv.junkAt ex s.T, s.C⟩ a w G := by
 intro ex
 unfold Gv.junkAt
 induction ex generalizing s with
 | nil => exact h
 | cons i ex ih => exact ih (s := s.ap (.put i .junk)) (h.junk i)
theorem Rel.abs (h : Rel B s a w G) {b q2 q : Nat} {ex : List Nat} {zs : List Kd} {es : List (List AV)} {k : Int} {cs : List AV} (hb : s.c b = .tbl zs es (some (k, q2))) (hv : s.c q2 = .var cs) (hok : okRow zs cs = true) (hpu : AV.pureL cs = true)
  (hnoq : noRefs q [] [q] s = true) (hmq : B.m ≤ q) (hne : b ≠ q2) (hqb : q ≠ b) (hqq : q ≠ q2) (hmt : AV.noMtL b (Gv.junkAt ex s.T) = true) (hmc : (s.C.set b .dead).all (Blk.noMt b) = true) :
  ∃ G', Rel B ⟨(Gv.junkAt ex s.T).map (AV.ren (swapQ b q)), (((s.C.set q (.tbl zs (es ++ [.int .i64 k :: cs]) none)).set b .dead).set q2 .dead).map (Blk.ren (swapQ b q))⟩ a w G' := by
 have hB := h.blk b
 rw [hb] at hB
 obtain ⟨hz, p, hp, hT⟩ := hB
 have hV := h.blk q2
 rw [hv] at hV
 obtain ⟨pv, hpv, _, hcown, vs, hat, hsz, hone, hcells⟩ := hV
 obtain ⟨ents, clk, tl, e1, e2, e3, p2, e4, e5⟩ := hT.heap
 have hpp : p2 = pv := by
  rw [hpv] at e4
  injection e4 with e4
  exact e4.symm
 subst hpp
 let p' : Pl := { p with tb := fun k' => if k' = k then p2.b else p.tb k' }
 let G' : Gh := { own := fun x => match G.own x with | .box d => if d = b ∨ d = q2 then .box q else if d = q then .ext else .box d | o => o, nm := fun n => if n = q then (0, some p') else G.nm n }
 have hst : Stay G G' w w := by
  refine ⟨Nat.le_refl _, fun b' t hb' hi => ⟨?_, rfl⟩⟩
  unfold Im at hi ⊢
  rcases hi with hi | ⟨e, hi⟩
  ·left; show (match G.own b' with | .box d => if d = b ∨ d = q2 then Owner.box q else if d = q then .ext else .box d | o => o) = _; rw [hi]
  ·right; refine ⟨e, ?_⟩; show (match G.own b' with | .box d => if d = b ∨ d = q2 then Owner.box q else if d = q then .ext else .box d | o => o) = _; rw [hi]
 have hfb : swapQ b q b = q := by simp [swapQ]
 have hfo : ∀ n, n ≠ b → swapQ b q n = n := by
  intro n hn
  show cond (Nat.beq n b) q n = n
  cases hbe : Nat.beq n b with
  | true => exact absurd (Nat.eq_of_beq_eq_true hbe) hn
  | false => rfl
 have hnmq : G'.nm q = (0, some p') := by show (if q = q then _ else _) = _; rw [if_pos rfl]
 have hnmo : ∀ n, n ≠ q → G'.nm n = G.nm n := fun n hn => by show (if n = q then _ else G.nm n) = _; rw [if_neg hn]
 have hnm : ∀ n, n ≠ b → n ≠ q → G'.nm (swapQ b q n) = G.nm n := fun n h1 h2 => by rw [hfo n h1, hnmo n h2]
 have hpb : ∀ p0, (G.nm b).2 = some p0 → ∃ p1, (G'.nm q).2 = some p1 ∧ p1.b = p0.b := fun p0 h0 => by
  rw [hp] at h0
  injection h0 with h0
  subst h0
  exact ⟨p', by rw [hnmq], rfl⟩
 have hbox : ∀ (x d : Nat), G.own x = .box d → (d = b ∨ d = q2) → G'.own x = .box q := by
  intro x d hx hd
  show (match G.own x with | .box d => if d = b ∨ d = q2 then Owner.box q else if d = q then .ext else .box d | o => o) = _
  rw [hx]
  show (if d = b ∨ d = q2 then Owner.box q else _) = _
  rw [if_pos hd]
 have hbox2 : ∀ (x d : Nat), G.own x = .box d → d ≠ b → d ≠ q2 → d ≠ q → G'.own x = .box d := by
  intro x d hx h1 h2 h3
  show (match G.own x with | .box d => if d = b ∨ d = q2 then Owner.box q else if d = q then .ext else .box d | o => o) = _
  rw [hx]
  show (if d = b ∨ d = q2 then Owner.box q else if d = q then .ext else .box d) = _
  rw [if_neg (by rintro (h | h); exact h1 h; exact h2 h), if_neg h3]
 rw [noRefs_iff] at hnoq
 have hj := h.junkAt ex
 have hTq : ∀ (i : Nat) (x : AV), (Gv.junkAt ex s.T)[i]? = some x → q ∉ x.refs := by
  have : ∀ (ex : List Nat) (T : List AV), (∀ (i : Nat) (x : AV), T[i]? = some x → q ∉ x.refs) → ∀ (i : Nat) (x : AV), (Gv.junkAt ex T)[i]? = some x → q ∉ x.refs := by
   intro ex
   unfold Gv.junkAt
   induction ex with
   | nil => intro T h; exact h
   | cons j ex ih =>
     intro T hT
     refine ih (T.set j .junk) fun i x hx => ?_
     rw [List.getElem?_set] at hx
     split at hx
     ·split at hx
      ·injection hx with hx
       subst hx
       simp [AV.refs]
      ·cases hx
     ·exact hT i x hx
  exact this ex s.T fun i x hx => hnoq.1 i x hx (by simp)
 have hblk : ∀ (d : Nat) (k0 : Blk), d ≠ b → d ≠ q2 → d ≠ q → k0.noMt b = true → q ∉ k0.refs → BlkOK G w d k0 → BlkOK G' w d (k0.ren (swapQ b q)) := by
  intro d k0 h1 h2 h3 hm hq0 h0
  cases k0 with
  | dead => trivial
  | var cs =>
    obtain ⟨p, h4, h5, h6, vs, h7, h8, h9, h10⟩ := h0
    simp only [Blk.ren, AV.renL_eq]
    have hl : (cs.map (AV.ren (swapQ b q))).length = cs.length := List.length_map _
    refine ⟨p, by rw [hnmo d h3, hl]; exact h4, by rw [hl]; exact h5, hbox2 _ d h6 h1 h2 h3, vs, h7, by rw [hl]; exact h8, h9, fun t x v ht hx hv => ?_⟩
    replace hx : (cs.map (AV.ren (swapQ b q)))[t]? = some x := hx
    rw [List.getElem?_map] at hx
    cases hc : cs[t]? with
    | none => rw [hc] at hx; cases hx
    | some y =>
      rw [hc] at hx
      injection hx with hx
      subst hx
      exact (h10 t y v (by rw [hl] at ht; exact ht) hc hv).abs hst hfb hnm hpb (noMtL_get hm t y hc) fun e => hq0 (AV.mem_refsL hc e)
  | tbl zs es pd =>
    obtain ⟨h4, p, h5, h6⟩ := h0
    have := h6.upd hst (swapQ b q) (d' := d) (fun x _ hx => ⟨hbox2 x d hx h1 h2 h3, rfl⟩) (fun k' r hr => by
     subst hr
     have hrb : r ≠ b := fun e => by
      subst e
      simp [Blk.noMt, Blk.refs, inL] at hm
     have hrq : r ≠ q := fun e => hq0 (by subst e; simp [Blk.refs])
     rw [hnm r hrb hrq])
    cases pd with
    | none => exact ⟨h4, p, by rw [hnmo d h3]; exact h5, this⟩
    | some x => exact ⟨h4, p, by rw [hnmo d h3]; exact h5, this⟩
  | row zs es =>
    obtain ⟨h4, h5, h6, h7⟩ := h0
    refine ⟨h4, h5, by rw [hnmo d h3]; exact h6, ?_⟩
    rcases h7 with ⟨h7, h8⟩ | ⟨p, h7, h8, h9⟩
    ·exact .inl ⟨h7, by rw [hnmo d h3]; exact h8⟩
    ·refine .inr ⟨p, by rw [hnmo d h3]; exact h7, h8, ?_⟩
     exact h9.flat hst (by rw [hbox2 _ d h9.1 h1 h2 h3, h9.1]) rfl
 have hke : ∀ e ∈ es, keyA e ≠ k := by
  intro e he hk
  unfold hasK at e3
  rw [List.any_eq_false] at e3
  exact e3 e he (by simpa using hk)
 have htb : ∀ k', k' ≠ k → p'.tb k' = p.tb k' := fun k' hk' => by show (if k' = k then _ else _) = _; rw [if_neg hk']
 have htk : p'.tb k = p2.b := by show (if k = k then _ else _) = _; rw [if_pos rfl]
 have hnew : BlkOK G' w q (.tbl zs (es ++ [.int .i64 k :: cs]) none) := by
  refine ⟨hz, p', hnmq, hbox _ b hT.own (.inl rfl), ⟨ents, clk, [], e1, ?_, rfl⟩, fun e he => ?_, ?_, fun e he => ?_, fun e he e' he' hkk => ?_⟩
  ·rw [e2, e5, List.append_nil, List.map_append]
   congr 1
   ·refine List.map_congr_left fun e he => ?_
    unfold entA
    rw [htb _ (hke e he)]
   ·show [_] = [(Value.int .i64 k, Value.pointer (some ⟨p'.tb k, 0, none⟩))]
    rw [htk]
  ·rcases List.mem_append.1 he with he | he
   ·exact hT.rows e he
   ·obtain rfl := List.mem_singleton.1 he
    simp only [okRow, isKind, decide_true, Bool.true_and]
    exact hok
  ·rw [List.pairwise_append]
   refine ⟨hT.keys, by simp, fun e he e' he' => ?_⟩
   obtain rfl := List.mem_singleton.1 he'
   exact hke e he
  ·rcases List.mem_append.1 he with he | he
   ·obtain ⟨k1, vs1, k2, k3, k4, k5⟩ := hT.elt e he
    refine ⟨?_, vs1, ?_, k3, k4, fun t x v ht hx hv => ?_⟩
    ·show G'.own (p'.tb (keyA e)) = _
     rw [htb _ (hke e he)]
     exact hbox _ b k1 (.inl rfl)
    ·show BlkAt w (p'.tb (keyA e)) vs1
     rw [htb _ (hke e he)]
     exact k2
    ·have := k5 t x v ht hx hv
     exact this.upd hst (by rw [(this.flat rfl).1]; simp)
   ·obtain rfl := List.mem_singleton.1 he
    refine ⟨?_, vs, ?_, by rw [← okRow_len _ _ hok]; exact hsz, hone, fun t x v ht hx hv => ?_⟩
    ·show G'.own (p'.tb k) = _
     rw [htk]
     exact hbox _ q2 hcown (.inr rfl)
    ·show BlkAt w (p'.tb k) vs
     rw [htk]
     exact hat
    ·replace hx : cs[t]? = some x := hx
     have := (hcells t x v (by rw [okRow_len _ _ hok]; exact ht) hx hv).of_pure (AV.pureL_mem hpu hx)
     exact this.upd hst (by rw [(this.flat rfl).1]; simp)
  ·have hdiff : ∀ e ∈ es, p.tb (keyA e) ≠ p2.b := fun e he hx => by
    have := (hT.elt e he).1
    replace this : G.own (p.tb (keyA e)) = .box b := this
    rw [hx, hcown] at this
    injection this with this
    exact hne this.symm
   rcases List.mem_append.1 he with he | he
   ·rcases List.mem_append.1 he' with he' | he'
    ·rw [htb _ (hke e he), htb _ (hke e' he')]
     exact hT.inj e he e' he' hkk
    ·obtain rfl := List.mem_singleton.1 he'
     rw [htb _ (hke e he)]
     show p.tb (keyA e) ≠ p'.tb k
     rw [htk]
     exact hdiff e he
   ·obtain rfl := List.mem_singleton.1 he
    rcases List.mem_append.1 he' with he' | he'
    ·rw [htb _ (hke e' he')]
     show p'.tb k ≠ _
     rw [htk]
     exact (hdiff e' he').symm
    ·obtain rfl := List.mem_singleton.1 he'
     exact absurd rfl hkk
 refine ⟨G', h.defers, by simp only [List.length_map]; exact hj.len, fun i x v hx hv => ?_, fun d k0 hk => ?_, h.os, h.tape, h.output, h.size, fun k0 hk => ?_, fun b' hb' hn => ?_, fun b' hb' => h.nl b' ?_⟩
 ·replace hx : ((Gv.junkAt ex s.T).map (AV.ren (swapQ b q)))[i]? = some x := hx
  rw [List.getElem?_map] at hx
  cases hc : (Gv.junkAt ex s.T)[i]? with
  | none => rw [hc] at hx; cases hx
  | some y =>
    rw [hc] at hx
    injection hx with hx
    subst hx
    exact (hj.vt i y v hc hv).abs hst hfb hnm hpb (noMtL_get hmt i y hc) (hTq i y hc)
 ·replace hk : ((((s.C.set q (.tbl zs (es ++ [.int .i64 k :: cs]) none)).set b .dead).set q2 .dead).map (Blk.ren (swapQ b q)))[d]? = some k0 := hk
  rw [List.getElem?_map] at hk
  cases hc : (((s.C.set q (.tbl zs (es ++ [.int .i64 k :: cs]) none)).set b .dead).set q2 .dead)[d]? with
  | none => rw [hc] at hk; cases hk
  | some k1 =>
    rw [hc] at hk
    injection hk with hk
    subst hk
    rw [List.getElem?_set] at hc
    split at hc
    ·split at hc
     ·injection hc with hc; subst hc; trivial
     ·cases hc
    ·rename_i hd2
     rw [List.getElem?_set] at hc
     split at hc
     ·split at hc
      ·injection hc with hc; subst hc; trivial
      ·cases hc
     ·rename_i hdb
      rw [List.getElem?_set] at hc
      split at hc
      ·rename_i hdq
       subst hdq
       split at hc
       ·injection hc with hc
        subst hc
        exact hnew
       ·cases hc
      ·rename_i hdq
       have h0 := h.vb d k1 hc
       have hm1 : k1.noMt b = true := by
        rw [List.all_eq_true] at hmc
        refine hmc k1 (List.mem_of_getElem? (i := d) ?_)
        rw [List.getElem?_set, if_neg hdb]
        exact hc
       exact hblk d k1 (Ne.symm hdb) (Ne.symm hd2) (Ne.symm hdq) hm1 (hnoq.2 d k1 hc (by simp [Ne.symm hdq])) h0
 ·rw [hnmo k0 (by omega)]
  exact h.par k0 hk
 ·obtain ⟨h3, h4⟩ := h.old b' hb' hn
  refine ⟨?_, h4⟩
  show (match G.own b' with | .box d => if d = b ∨ d = q2 then Owner.box q else if d = q then .ext else .box d | o => o) = _
  rw [h3]
  cases hO : B.own0 b' with
  | box j => exact absurd hO (hn j)
  | imm => rfl
  | lent => rfl
  | ext => rfl
 ·replace hb' : (match G.own b' with | .box d => if d = b ∨ d = q2 then Owner.box q else if d = q then .ext else .box d | o => o) = .lent := hb'
  cases hO : G.own b' with
  | box j => rw [hO] at hb'; simp only at hb'; split at hb' <;> first | cases hb' | (split at hb' <;> cases hb')
  | imm => rw [hO] at hb'; cases hb'
  | lent => rfl
  | ext => rw [hO] at hb'; cases hb'
theorem nrm1_ok (hm : B.m = X.m) (n : Nrm) (h : Rel B s a w G) : ∃ G', Rel B (nrm1 X s n) a w G' := by
 cases n with
 | slot i q zs =>
   simp only [nrm1]
   cases hc : (isNil (s.t i) && (noRefs q [i] [q] s && (Nat.ble X.m q && (Nat.blt q s.C.length && (Nat.blt i s.T.length && Nat.blt 0 zs.length))))) with
   | false => exact ⟨G, h⟩
   | true =>
     simp only [Bool.and_eq_true, Nat.ble_eq, Nat.blt_eq] at hc
     exact h.asRow hc.2.2.2.2.2 (by rw [hm]; exact hc.2.2.1) hc.2.1 (nilV h hc.1)
 | cell b off q zs =>
   simp only [nrm1]
   split
   ·rename_i cs hb
    cases hc : (isNil (cs.getD off .junk) && (noRefs q [] [q] s && (Nat.ble X.m q && (Nat.blt q s.C.length && (!(Nat.beq b q) && Nat.blt 0 zs.length))))) with
    | false => exact ⟨G, h⟩
    | true =>
      simp only [Bool.and_eq_true, Nat.ble_eq, Nat.blt_eq, Bool.not_eq_true'] at hc
      obtain ⟨hnil, hno, hq, _, hbq, hz⟩ := hc
      have hbq : b ≠ q := fun e => by subst e; simp at hbq
      have hf := h.fresh (by rw [hm]; exact hq) hno (0, none)
      have h1 := hf.setB q (.row zs []) ⟨by simp, hz, by simp [nmAt], .inl ⟨rfl, by simp [nmAt]⟩⟩
      refine ⟨_, (h1.setB b (.var (cs.set off (.rf q zs))) ?_).congr (by simp [St.ap])⟩
      have hlt : b < s.C.length := by
       apply Classical.byContradiction
       intro hl
       have : s.c b = .dead := by simp [St.c, List.getD, List.getElem?_eq_none (by omega : s.C.length ≤ b)]
       rw [this] at hb
       cases hb
      have h2 := h1.vb b (.var cs) (by
       simp only [St.ap, List.getElem?_set, if_neg (Ne.symm hbq)]
       rw [List.getElem?_eq_getElem hlt]
       have : s.c b = s.C[b] := by simp [St.c, List.getD, hlt]
       rw [← this, hb])
      obtain ⟨p, h3, h4, h5, vs, h6, h7, h8, h9⟩ := h2
      refine ⟨p, by rw [List.length_set]; exact h3, by rw [List.length_set]; exact h4, h5, vs, h6, by rw [List.length_set]; exact h7, h8, fun t x v ht hx hv => ?_⟩
      replace hx : (cs.set off (.rf q zs))[t]? = some x := hx
      rw [List.length_set] at ht
      rw [List.getElem?_set] at hx
      split at hx
      ·rename_i e
       subst e
       split at hx
       ·rename_i hl
        injection hx with hx
        subst hx
        have hge : cs[off]? = some cs[off] := List.getElem?_eq_getElem hl
        have hV := h9 off _ v ht hge hv
        have e2 : cs.getD off .junk = cs[off] := by simp [List.getD, hge]
        rw [e2] at hnil
        generalize cs[off] = y at hnil hV
        cases y <;> simp [isNil] at hnil
        ·rw [hV.nil_inv]
         exact .rfnil q zs none (by simp [nmAt])
        ·cases hV with
         | nilz _ A => exact .rfnil q zs A (by simp [nmAt])
       ·rename_i hl
        exact absurd ht hl
      ·exact h9 t x v ht hx hv
   ·exact ⟨G, h⟩
 | ren q2 q1 =>
   simp only [nrm1]
   cases hc : (!(isDead (s.c q2)) && (noRefs q1 [] [q1] s && (Nat.ble X.m q1 && (Nat.blt q1 s.C.length && !(Nat.beq q1 q2))))) with
   | false => exact ⟨G, h⟩
   | true =>
     simp only [Bool.and_eq_true, Nat.ble_eq, Nat.blt_eq, Bool.not_eq_true'] at hc
     obtain ⟨_, hno, h1, hl, hne⟩ := hc
     have hne : q1 ≠ q2 := fun e => by subst e; simp at hne
     have hk := h.kill q1
     have hd : (s.ap (.blk q1 .dead)).c q1 = .dead := by simp [St.c, St.ap, List.getD, hl]
     have hno' : noRefs q1 [] [q1] (s.ap (.blk q1 .dead)) = true := by
      rw [noRefs_iff] at hno ⊢
      refine ⟨hno.1, fun d k hk hd => ?_⟩
      have hk' : (s.C.set q1 .dead)[d]? = some k := hk
      rw [List.getElem?_set, if_neg (fun e => hd (by simp [e]))] at hk'
      exact hno.2 d k hk' hd
     obtain ⟨G', h'⟩ := hk.renum hd hno' (by rw [hm]; exact h1) hne
     have e2 : (s.ap (.blk q1 .dead)).c q2 = s.c q2 := by simp [St.c, St.ap, List.getD, List.getElem?_set, hne]
     refine ⟨G', ?_⟩
     rw [e2] at h'
     have e3 : ((s.ap (.blk q1 .dead)).C.set q1 (s.c q2)) = s.C.set q1 (s.c q2) := by simp [St.ap]
     rw [e3] at h'
     exact h'
 | frz i q =>
   simp only [nrm1]
   split
   ·rename_i q' zs hi
    split
    ·rename_i es hr
     cases hc : (Nat.beq q q' && Nat.blt i s.T.length) with
     | false => exact ⟨G, h⟩
     | true =>
       simp only [Bool.and_eq_true, Nat.blt_eq] at hc
       obtain ⟨hq, hlt⟩ := hc
       obtain rfl := Nat.eq_of_beq_eq_true hq
       have hrow := h.row hr
       have hk := h.kill q
       have hv := h.slot i
       rw [hi] at hv
       have hval : ∀ v, a.tmps[i]? = some v → v = a.tmps.getD i undef := fun v hv => by simp [Array.getD_eq_getD_getElem?, hv]
       by_cases hp : ∃ p, (G.nm q).2 = some p ∧ G.own p.b = .box q
       ·obtain ⟨p, hp1, hp2⟩ := hp
        have ht := hk.touch (w' := w) p.b q hp2 (by
         simp only [St.c, St.ap, List.getD, List.getElem?_set]
         simp
         split <;> rfl) .imm rfl rfl rfl (Nat.le_refl _) (fun _ _ _ => rfl)
        refine ⟨_, ht.slotW i _ fun v hv' => ?_⟩
        rw [hval v hv']
        refine slFull hrow hv ⟨Nat.le_refl _, fun b t hb him => ⟨?_, rfl⟩⟩ (fun p' hp' _ => ?_) (fun h => by cases h)
        ·have : b ≠ p.b := by
          rintro rfl
          unfold Im at him
          rw [hp2] at him
          rcases him with him | ⟨_, him⟩ <;> cases him
         unfold Im at him ⊢
         simp only [this, if_false]
         exact him
        ·rw [hp1] at hp'
         injection hp' with hp'
         subst hp'
         left
         simp
       ·refine ⟨_, hk.slotW i _ fun v hv' => ?_⟩
        rw [hval v hv']
        exact slFull hrow hv (Stay.refl G w) (fun p' hp' ho => absurd ⟨p', hp', ho⟩ hp) (fun h => by cases h)
    ·exact ⟨G, h⟩
   ·exact ⟨G, h⟩
 | cimm b off zs =>
   simp only [nrm1]
   split
   ·rename_i cs hb
    cases hnil : isNil (cs.getD off .junk) with
    | false => exact ⟨G, h⟩
    | true =>
      refine ⟨G, h.setB b (.var (cs.set off (.sl .imm zs []))) ?_⟩
      have h2 := h.blk b
      rw [hb] at h2
      obtain ⟨p, h3, h4, h5, vs, h6, h7, h8, h9⟩ := h2
      refine ⟨p, by rw [List.length_set]; exact h3, by rw [List.length_set]; exact h4, h5, vs, h6, by rw [List.length_set]; exact h7, h8, fun t x v ht hx hv => ?_⟩
      replace hx : (cs.set off (.sl .imm zs []))[t]? = some x := hx
      rw [List.length_set] at ht
      rw [List.getElem?_set] at hx
      split at hx
      ·rename_i e
       subst e
       split at hx
       ·rename_i hl
        injection hx with hx
        subst hx
        have hge : cs[off]? = some cs[off] := List.getElem?_eq_getElem hl
        have hV := h9 off _ v ht hge hv
        have e2 : cs.getD off .junk = cs[off] := by simp [List.getD, hge]
        rw [e2] at hnil
        generalize cs[off] = y at hnil hV
        cases y <;> simp [isNil] at hnil
        ·rw [hV.nil_inv]
         exact .slnil _ _ _ _ _ (fun _ => rfl) (by simp [maxLen]) (fun h => by cases h)
        ·cases hV with
         | nilz _ A => exact .slnil _ _ _ _ _ (fun _ => rfl) (by simp [maxLen]) (fun h => by cases h)
       ·rename_i hl
        exact absurd ht hl
      ·exact h9 t x v ht hx hv
   ·exact ⟨G, h⟩
 | pcell b off q zs => exact ⟨G, h⟩
 | simm i zs =>
   simp only [nrm1]
   cases hnil : isNil (s.t i) with
   | false => exact ⟨G, h⟩
   | true =>
     refine ⟨G, h.slotW i _ fun v hv => ?_⟩
     obtain ⟨A, rfl⟩ := nilV h hnil v hv
     exact .slnil _ _ _ _ _ (fun _ => rfl) (by simp [maxLen]) (fun h => by cases h)
 | adv i q zs =>
   simp only [nrm1]
   split
   ·rename_i q' zs' j n cp hi
    split
    ·rename_i es hr
     cases hc : (Nat.beq q q' && (Kd.eqL zs zs' && (noRefs q [i] [q] s && (Nat.ble X.m q && (Nat.blt q s.C.length && Nat.blt i s.T.length))))) with
     | false => exact ⟨G, h⟩
     | true =>
       simp only [Bool.and_eq_true, Nat.ble_eq, Nat.blt_eq] at hc
       obtain ⟨h1, h2, h3, h4, _, _⟩ := hc
       obtain rfl := Nat.eq_of_beq_eq_true h1
       obtain rfl := Kd.eqL_of _ _ h2
       exact h.adv hr hi h3 (by rw [hm]; exact h4)
    ·exact ⟨G, h⟩
   ·exact ⟨G, h⟩
 | pren b q1 => exact ⟨G, h⟩
 | cfrz b off q =>
   simp only [nrm1]
   split
   ·rename_i cs hb
    split
    ·rename_i q' zs hcell
     split
     ·rename_i es hr
      cases hc : (Nat.beq q q' && (Nat.blt off cs.length && !(Nat.beq b q))) with
      | false => exact ⟨G, h⟩
      | true =>
        simp only [Bool.and_eq_true, Nat.blt_eq, Bool.not_eq_true'] at hc
        obtain ⟨h1, h2, h3⟩ := hc
        obtain rfl := Nat.eq_of_beq_eq_true h1
        exact h.cfrz hb h2 hcell hr (fun e => by subst e; simp at h3)
     ·exact ⟨G, h⟩
    ·exact ⟨G, h⟩
   ·exact ⟨G, h⟩
 | asrs i =>
   simp only [nrm1]
   split
   ·rename_i q zs hi
    split
    ·rename_i es hr
     refine ⟨G, h.slotW i _ fun v hv => ?_⟩
     have hs := h.some_of (q := i) (fun e => by rw [hi] at e; cases e)
     obtain ⟨v', h1, h2⟩ := hs
     rw [hv] at h1
     injection h1 with h1
     subst h1
     rw [hi] at h2
     have hlen := (h.row hr).2.2.1
     cases h2 with
     | rf _ _ n c p hp hn hc hpc hm' =>
       rw [hlen] at hn
       subst hn
       have := V.rs (G := G) (w := w) q zs 0 es.length es.length c p hp (by omega) hc hc (by omega) hm'
       rwa [Nat.zero_mul, Nat.add_zero] at this
     | rfnil _ _ A h0 =>
       rw [hlen] at h0
       rw [h0]
       exact .rsnil _ _ _ _ _ A (Nat.zero_le _) rfl rfl
    ·exact ⟨G, h⟩
   ·exact ⟨G, h⟩
 | cadv b off q ex =>
   simp only [nrm1]
   split
   ·rename_i cs hb
    split
    ·rename_i q' zs j n cp hcell
     split
     ·rename_i es hr
      cases hc : (Nat.beq q q' && (noRefs q ex [b, q] s && (!(inL q (AV.refsL (cs.set off .junk))) && (Nat.ble X.m q && (Nat.blt q s.C.length && (Nat.blt off cs.length && !(Nat.beq b q))))))) with
      | false => exact ⟨G, h⟩
      | true =>
        simp only [Bool.and_eq_true, Nat.ble_eq, Nat.blt_eq, Bool.not_eq_true'] at hc
        obtain ⟨h1, h2, h3, h4, h5, h6, h7⟩ := hc
        obtain rfl := Nat.eq_of_beq_eq_true h1
        exact h.cadv hb h6 hcell hr h2 h3 (by rw [hm]; exact h4) (fun e => by subst e; simp at h7)
     ·exact ⟨G, h⟩
    ·exact ⟨G, h⟩
   ·exact ⟨G, h⟩
 | abs b q2 q ex =>
   simp only [nrm1]
   split
   ·rename_i zs es k q2' cs hb hv
    cases hc : (Nat.beq q2 q2' && ((okRow zs cs && AV.pureL cs) && (noRefs q [] [q] s && (Nat.ble X.m q && (Nat.blt q s.C.length && (!(Nat.beq b q2) && (!(Nat.beq q b) && (!(Nat.beq q q2) &&
     (AV.noMtL b (junkAt ex s.T) && ((s.C.set b .dead).all (Blk.noMt b))))))))))) with
    | false => exact ⟨G, h⟩
    | true =>
      simp only [Bool.and_eq_true, Nat.ble_eq, Nat.blt_eq, Bool.not_eq_true'] at hc
      obtain ⟨h1, ⟨h2, h3⟩, h5, h6, h7, h8, h9, h10, h11, h12⟩ := hc
      obtain rfl := Nat.eq_of_beq_eq_true h1
      exact h.abs hb hv h2 h3 h5 (by rw [hm]; exact h6) (fun e => by subst e; simp at h8) (fun e => by subst e; simp at h9) (fun e => by subst e; simp at h10) h11 h12
   ·exact ⟨G, h⟩
theorem nrms_ok (hm : B.m = X.m) : ∀ (rows : List Nrm) (s : St) (G : Gh), Rel B s a w G → ∃ G', Rel B (nrms X rows s) a w G' := by
 intro rows
 induction rows with
 | nil => intro s G h; exact ⟨G, h⟩
 | cons r rows ih =>
   intro s G h
   obtain ⟨G', h'⟩ := nrm1_ok (X := X) hm r h
   exact ih _ G' h'
theorem maskT_get {keep : List Nat} {T : List AV} {n i : Nat} {x : AV} (hn : n = T.length) (h : (maskT keep T n)[i]? = some x) : x = .junk ∨ T[i]? = some x := by
 unfold maskT at h
 rw [List.getElem?_map] at h
 by_cases hi : i < n
 ·rw [List.getElem?_range hi] at h
  simp only [Option.map_some, Option.some.injEq] at h
  split at h
  ·right
   subst hn
   rw [← h]
   simp [List.getD, hi]
  ·exact .inl h.symm
 ·rw [List.getElem?_eq_none (by simpa using Nat.le_of_not_lt hi)] at h
  cases h
theorem maskC_get {keep : List Nat} {T : List Blk} {n i : Nat} {x : Blk} (hn : n = T.length) (h : (maskC keep T n)[i]? = some x) : x = .dead ∨ T[i]? = some x := by
 unfold maskC at h
 rw [List.getElem?_map] at h
 by_cases hi : i < n
 ·rw [List.getElem?_range hi] at h
  simp only [Option.map_some, Option.some.injEq] at h
  split at h
  ·right
   subst hn
   rw [← h]
   simp [List.getD, hi]
  ·exact .inl h.symm
 ·rw [List.getElem?_eq_none (by simpa using Nat.le_of_not_lt hi)] at h
  cases h
theorem Rel.mask (h : Rel B s a w G) (hm : B.m = X.m) (body : Code) : ∃ G', Rel B (mask X body s) a w G' := by
 unfold Gv.mask
 split
 ·rename_i keep keepB rows hk
  cases hs : sized X s with
  | false => exact ⟨G, h⟩
  | true =>
    simp only [sized, Bool.and_eq_true, Nat.beq_eq] at hs
    refine nrms_ok hm rows _ G ⟨h.defers, ?_, fun i x v hx hv => ?_, fun d k hk => ?_, h.os, h.tape, h.output, h.size, h.par, h.old, h.nl⟩
    ·simp only [maskT, List.length_map, List.length_range]
     rw [← hs.1]
     exact h.len
    ·rcases maskT_get hs.1.symm hx with rfl | h1
     ·exact .junk _ _
     ·exact h.vt i x v h1 hv
    ·rcases maskC_get hs.2.symm hk with rfl | h1
     ·trivial
     ·exact h.vb d k h1
 ·exact ⟨G, h⟩
theorem Rel.clean (h : Rel B s a w G) (κ κb : List Nat) : Rel B (clean κ κb s) a w G := by
 refine ⟨h.defers, ?_, fun i x v hx hv => ?_, fun d k hk => ?_, h.os, h.tape, h.output, h.size, h.par, h.old, h.nl⟩
 ·simp only [Gv.clean, maskT, List.length_map, List.length_range]
  exact h.len
 ·rcases maskT_get rfl hx with rfl | h1
  ·exact .junk _ _
  ·exact h.vt i x v h1 hv
 ·rcases maskC_get rfl hk with rfl | h1
  ·trivial
  ·exact h.vb d k h1
theorem least {p : Nat → Prop} (h : ∃ n, p n) : ∃ n, p n ∧ ∀ m, p m → n ≤ m := by
 obtain ⟨n, hn⟩ := h
 induction n using Nat.strongRecOn with
 | _ n ih =>
   by_cases hm : ∃ m, m < n ∧ p m
   ·obtain ⟨m, h1, h2⟩ := hm
    exact ih m h1 h2
   ·exact ⟨n, hn, fun m hm' => Nat.not_lt.1 fun hlt => hm ⟨m, hlt, hm'⟩⟩
theorem wp_loop_count {P : Program} {c : Code} (J : Nat → Act → World → Prop) {n : Nat} (h0 : J n a w) (round : ∀ n a w, J n a w → ∃ m, n = m + 1 ∧ c.wp P (Exit.then (J m) Q) a w) : (Code.loop c).wp P Q a w := by
 have hμ : ∀ a w, ∃ μ : Nat, (∃ n, J n a w) → J μ a w ∧ ∀ m, J m a w → μ ≤ m := by
  intro a w
  by_cases h : ∃ n, J n a w
  ·obtain ⟨n, h1⟩ := least h
   exact ⟨n, fun _ => h1⟩
  ·exact ⟨0, fun h' => (h h').elim⟩
 let μ : Act → World → Nat := fun a w => Classical.choose (hμ a w)
 have hμs : ∀ a w, (∃ n, J n a w) → J (μ a w) a w ∧ ∀ m, J m a w → μ a w ≤ m := fun a w => Classical.choose_spec (hμ a w)
 refine wp_loop (fun a w => ∃ n, J n a w) μ ⟨n, h0⟩ fun a w hI => ?_
 obtain ⟨h1, h2⟩ := hμs a w hI
 obtain ⟨m, hm, hw⟩ := round _ a w h1
 refine Code.wp_mono (fun e a' w' q => ?_) hw
 cases e with
 | normal =>
   have h3 := (hμs a' w' ⟨m, q⟩).2 m q
   exact ⟨⟨m, q⟩, by omega⟩
 | _ => exact q
theorem bool_evalA (h : Rel B s a w G) {c : Operand} {b : Bool} (hc : evalA s.T c = .bool b) : a.eval c = .bool b := by
 have h1 := h.eval c
 rw [hc] at h1
 exact h1.bool_inv
def LoopsOK (X : Cfg) : Code → Prop
 | .seq a b => LoopsOK X a ∧ LoopsOK X b
 | .cond _ a b => LoopsOK X a ∧ LoopsOK X b
 | .block _ c => LoopsOK X c
 | .scope c => LoopsOK X c
 | .loop c => LoopsOK X c ∧ ∀ (s : St) (alts : List (Bool × Ex × St)) (ex : Ex) (s' : St), lspA X c s = some (true, alts, ex, s') → ∀ (R : Type) (k : Ex → St → Option R) (r : R), altK alts (k ex s') k = some r → ∃ n κ κb, loopN X (fun s k => evCode X c s k) c n s (fun ex s1 => k ex (clean κ κb s1)) = some r
 | _ => True
theorem LoopsOK.none (h : ∀ i s, X.lsp i s = none) : ∀ c, LoopsOK X c := by
 intro c
 induction c with
 | seq a b iha ihb => exact ⟨iha, ihb⟩
 | cond c a b iha ihb => exact ⟨iha, ihb⟩
 | block i c ih => exact ih
 | scope c ih => exact ih
 | loop c ih =>
   refine ⟨ih, fun s alts ex s' hl => ?_⟩
   unfold lspA at hl
   split at hl
   ·rw [h] at hl
    cases hs : sized X s <;> rw [hs] at hl <;> cases hl
   ·cases hl
 | _ => trivial
theorem evCode_sound {R : Type} (hm : X.P.follows .mixedOrders = true) (hΓ : GamOK X.P X.gam) (hI : IdOK X B) {r : R} : ∀ (c : Code) (_ : LoopsOK X c) (s : St) (a : Act) (w : World) (G : Gh) (Q : Exit → Act → World → Prop) (k : Ex → St → Option R), Rel B s a w G → evCode X c s k = some r →
  (∀ ex s' a' w' G', Rel B s' a' w' G' → k ex s' = some r → Q (exOf ex) a' w') → c.wp X.P Q a w := by
 intro c
 induction c with
 | skip => intro _ s a w G Q k h hk hQ; exact wp_skip (hQ .norm s a w G h hk)
 | label l => intro _ s a w G Q k h hk hQ; exact wp_label (hQ .norm s a w G h hk)
 | ret => intro _ s a w G Q k h hk hQ; exact wp_ret (hQ .ret s a w G h hk)
 | exit id => intro _ s a w G Q k h hk hQ; exact wp_exit (hQ (.exit id) s a w G h hk)
 | seq x y ihx ihy =>
   intro hL s a w G Q k h hk hQ
   refine wp_seq (ihx hL.1 s a w G _ _ h hk fun ex s' a' w' G' h' hk' => ?_)
   cases ex with
   | norm => exact ihy hL.2 s' a' w' G' Q k h' hk' hQ
   | ret => exact hQ .ret s' a' w' G' h' hk'
   | exit i => exact hQ (.exit i) s' a' w' G' h' hk'
 | cond c x y ihx ihy =>
   intro hL s a w G Q k h hk hQ
   simp only [evCode] at hk
   split at hk
   ·rename_i b hb
    refine wp_cond (bool_evalA h hb) ?_
    cases b with
    | true => exact ihx hL.1 s a w G Q k h hk hQ
    | false => exact ihy hL.2 s a w G Q k h hk hQ
   ·cases hk
 | scope c ih =>
   intro hL s a w G Q k h hk hQ
   refine wp_scope_straight (ih hL s a w G _ k h hk fun ex s' a' w' G' h' hk' => ?_)
   cases ex with
   | norm => exact hQ .norm s' a' w' G' h' hk'
   | ret => exact hQ .ret s' a' w' G' h' hk'
   | exit i => exact hQ (.exit i) s' a' w' G' h' hk'
 | block id c ih =>
   intro hL s a w G Q k h hk hQ
   refine wp_block (ih hL s a w G _ _ h hk fun ex s' a' w' G' h' hk' => ?_)
   cases ex with
   | norm => exact hQ .norm s' a' w' G' h' hk'
   | ret => exact hQ .ret s' a' w' G' h' hk'
   | exit i =>
     simp only at hk'
     show (if i = id then Q .normal a' w' else Q (.exit i) a' w')
     cases hb : Nat.beq i id with
     | true =>
       rw [hb] at hk'
       rw [if_pos (Nat.eq_of_beq_eq_true hb)]
       exact hQ .norm s' a' w' G' h' hk'
     | false =>
       rw [hb] at hk'
       rw [if_neg (fun e => by subst e; simp at hb)]
       exact hQ (.exit i) s' a' w' G' h' hk'
 | loop body ih =>
   intro hL s a w G Q k h hk hQ
   have hgo : ∀ (k' : Ex → St → Option R), (∀ ex s' a' w' G', Rel B s' a' w' G' → k' ex s' = some r → Q (exOf ex) a' w') → ∀ n, loopN X (fun s k => evCode X body s k) body n s k' = some r → (Code.loop body).wp X.P Q a w := by
    intro k' hQ n hn
    refine wp_loop_count (fun n a w => ∃ s G, loopN X (fun s k => evCode X body s k) body n s k' = some r ∧ Rel B s a w G) (n := n) ⟨s, G, hn, h⟩ fun n a w ⟨s, G, hn, h⟩ => ?_
    cases n with
    | zero => cases hn
    | succ m =>
      obtain ⟨G1, h1⟩ := h.mask (X := X) hI.m body
      refine ⟨m, rfl, ih hL.1 _ a w G1 _ _ h1 hn fun ex s' a' w' G' h' hk' => ?_⟩
      cases ex with
      | norm => exact ⟨s', G', hk', h'⟩
      | ret => exact hQ .ret s' a' w' G' h' hk'
      | exit i => exact hQ (.exit i) s' a' w' G' h' hk'
   simp only [evCode] at hk
   split at hk
   ·rename_i b alts ex s' hl
    cases b with
    | false => cases hk
    | true =>
      obtain ⟨n, κ, κb, hn⟩ := hL.2 s alts ex s' hl R k r hk
      exact hgo _ (fun ex s' a' w' G' h' hk' => hQ ex _ a' w' G' (h'.clean κ κb) hk') n hn
   ·exact hgo k hQ _ hk
 | region id ops dr =>
   intro _ s a w G Q k h hk hQ
   simp only [evCode] at hk
   split at hk
   ·obtain ⟨G1, h1⟩ := nrms_ok (X := X) hI.m (X.pre id) s G h
    exact evReg_sound hm hΓ hI h1 hk fun s' a' w' G' h' hk' => hQ .norm s' a' w' G' h' (by simpa only [forceS_eq] using hk')
   ·rename_i l _
    cases hok : okJ X ops dr s l with
    | false => rw [hok] at hk; cases hk
    | true =>
      rw [hok] at hk
      exact evJoin_sound hm hΓ hI h hok fun a' w' G' h' => hQ .norm _ a' w' G' h' hk
 | _ => intro _ s a w G Q k h hk hQ; simp [evCode] at hk
end
end Go.Proofs.Gv
