/-
Code.
-/
import Derived.Test.YtjbohlgfhfehdaaGvW
import Derived.Scope
namespace Go.Proofs.Gv
open Go.RowKit
section
variable {X : Cfg} {B : Bs} {s s' : St} {a : Act} {w : World} {G : Gh} {o : Oper} {u : List Wr} {K : Act → World → Prop} {Q : Exit → Act → World → Prop}
def exOf : Ex → Exit
  | .norm => .normal
  | .ret => .ret
  | .exit i => .exit i
/-- A slot that is nil is a row of nothing. -/
theorem Rel.asRow (h : Rel B s a w G) {i q : Nat} {zs : List Kd} (hz : 0 < zs.length) (hq : B.m ≤ q) (hno : noRefs q [i] [q] s = true) (hx : ∀ v, a.tmps[i]? = some v → ∃ A, v = .slice A 0 0) : ∃ G', Rel B ((s.ap (.blk q (.row zs []))).ap (.put i (.rf q zs))) a w G' := by
  have hf := h.fresh hq hno (0, none)
  have h1 := (hf.setB q (.row zs []) ⟨by simp, hz, by simp [nmAt], .inl ⟨rfl, by simp [nmAt]⟩⟩).slotW i (.rf q zs) fun v hv => by
    obtain ⟨A, rfl⟩ := hx v hv
    exact .rfnil q zs A (by simp [nmAt])
  exact ⟨_, h1.congr (by simp [St.ap])⟩
theorem nilV (h : Rel B s a w G) {i : Nat} (hi : isNil (s.t i) = true) : ∀ v, a.tmps[i]? = some v → ∃ A, v = .slice A 0 0 := by
  intro v hv
  obtain ⟨v', h1, h2⟩ := h.some_of (q := i) (fun e => by rw [e] at hi; cases hi)
  rw [hv] at h1
  injection h1 with h1
  subst h1
  generalize s.t i = x at hi h2
  cases x <;> simp [isNil] at hi
  · exact ⟨none, h2.nil_inv⟩
  · cases h2 with
    | nilz _ A => exact ⟨A, rfl⟩
/-- A number gives way to another one. -/
theorem Rel.renum (h : Rel B s a w G) {q2 q1 : Nat} (hd : s.c q1 = .dead) (hno : noRefs q1 [] [q1] s = true) (h1 : B.m ≤ q1) (h2 : B.m ≤ q2) (hne : q1 ≠ q2) :
    ∃ G', Rel B ⟨s.T.map (AV.ren (swapQ q2 q1)), ((s.C.set q1 (s.c q2)).set q2 .dead).map (Blk.ren (swapQ q2 q1))⟩ a w G' := by
  let f := swapQ q2 q1
  let G' : Gh := { own := fun b => match G.own b with | .box q => if q = q2 then .box q1 else if q = q1 then .ext else .box q | x => x, nm := fun q => if q = q1 then G.nm q2 else G.nm q }
  have hf2 : f q2 = q1 := by simp [f, swapQ]
  have hfo : ∀ q, q ≠ q2 → f q = q := by
    intro q hq
    show cond (Nat.beq q q2) q1 q = q
    cases hb : Nat.beq q q2 with
    | true => exact absurd (Nat.eq_of_beq_eq_true hb) hq
    | false => rfl
  have hnm : ∀ q, q ≠ q1 → G'.nm (f q) = G.nm q := by
    intro q hq
    by_cases e : q = q2
    · subst e; rw [hf2]; show (if q1 = q1 then G.nm q else _) = _; rw [if_pos rfl]
    · rw [hfo q e]; show (if q = q1 then G.nm q2 else G.nm q) = _; rw [if_neg hq]
  have hst : Stay G G' w w := by
    refine ⟨Nat.le_refl _, fun b t hb hi => ⟨?_, rfl⟩⟩
    unfold Im at hi ⊢
    rcases hi with hi | ⟨e, hi⟩
    · left; show (match G.own b with | .box q => if q = q2 then Owner.box q1 else if q = q1 then .ext else .box q | x => x) = _; rw [hi]
    · right; refine ⟨e, ?_⟩; show (match G.own b with | .box q => if q = q2 then Owner.box q1 else if q = q1 then .ext else .box q | x => x) = _; rw [hi]
  rw [noRefs_iff] at hno
  have hbox : ∀ (b d : Nat), d ≠ q1 → G.own b = .box d → G'.own b = .box (f d) := by
    intro b d hd1 hb
    show (match G.own b with | .box q => if q = q2 then Owner.box q1 else if q = q1 then .ext else .box q | x => x) = _
    rw [hb]
    by_cases e : d = q2
    · subst e; rw [hf2]; show (if d = d then Owner.box q1 else _) = _; rw [if_pos rfl]
    · rw [hfo d e]
      show (if d = q2 then Owner.box q1 else if d = q1 then .ext else .box d) = _
      rw [if_neg e, if_neg hd1]
  have hblk : ∀ (d : Nat) (k : Blk), d ≠ q1 → (∀ q ∈ k.refs, q ≠ q1) → BlkOK G w d k → BlkOK G' w (f d) (k.ren f) := by
    intro d k hd1 hk h0
    cases k with
    | dead => trivial
    | var cs =>
      obtain ⟨p, h3, h4, h5, vs, h6, h7, h8, h9⟩ := h0
      simp only [Blk.ren, AV.renL_eq]
      have hl : (cs.map (AV.ren f)).length = cs.length := List.length_map _
      refine ⟨p, by rw [hnm d hd1, hl]; exact h3, by rw [hl]; exact h4, hbox _ d hd1 h5, vs, h6, by rw [hl]; exact h7, h8, fun t x v ht hx hv => ?_⟩
      replace hx : (cs.map (AV.ren f))[t]? = some x := hx
      rw [List.getElem?_map] at hx
      cases hc : cs[t]? with
      | none => rw [hc] at hx; cases hx
      | some y =>
        rw [hc] at hx
        injection hx with hx
        subst hx
        exact (h9 t y v (by rw [hl] at ht; exact ht) hc hv).ren hst f fun q hq => hnm q (hk q (AV.mem_refsL hc hq))
    | row zs es =>
      obtain ⟨h3, h4, h5, h6⟩ := h0
      refine ⟨h3, h4, by rw [hnm d hd1]; exact h5, ?_⟩
      rcases h6 with ⟨h6, h7⟩ | ⟨p, h6, h7, h8, vs, h9, h10, h11, h12⟩
      · exact .inl ⟨h6, by rw [hnm d hd1]; exact h7⟩
      · refine .inr ⟨p, by rw [hnm d hd1]; exact h6, h7, hbox _ d hd1 h8, vs, h9, h10, h11, fun t x v ht hx hv => ?_⟩
        have := h12 t x v ht hx hv
        exact this.upd hst (by rw [(this.flat rfl).1]; simp)
  refine ⟨G', h.defers, by simp [h.len], fun i x v hx hv => ?_, fun d k hk => ?_, h.os, h.tape, h.output, h.size, fun k hk => ?_, fun b hb hn => ?_, fun b hb => h.nl b ?_⟩
  · rw [List.getElem?_map] at hx
    cases hc : s.T[i]? with
    | none => rw [hc] at hx; cases hx
    | some y =>
      rw [hc] at hx
      injection hx with hx
      subst hx
      exact (h.vt i y v hc hv).ren hst f fun q hq => hnm q fun e => hno.1 i y hc (by simp) (e ▸ hq)
  · replace hk : (((s.C.set q1 (s.c q2)).set q2 .dead).map (Blk.ren f))[d]? = some k := hk
    rw [List.getElem?_map] at hk
    cases hc : ((s.C.set q1 (s.c q2)).set q2 .dead)[d]? with
    | none => rw [hc] at hk; cases hk
    | some k0 =>
      rw [hc] at hk
      injection hk with hk
      subst hk
      rw [List.getElem?_set] at hc
      split at hc
      · split at hc
        · injection hc with hc; subst hc; trivial
        · cases hc
      · rename_i hd2
        rw [List.getElem?_set] at hc
        split at hc
        · rename_i hd1
          subst hd1
          split at hc
          · injection hc with hc
            have := hblk q2 (s.c q2) (Ne.symm hne) (fun q hq e => by
              subst e
              by_cases hl : q2 < s.C.length
              · refine hno.2 q2 (s.c q2) ?_ (by simp [Ne.symm hne]) hq
                simp [St.c, List.getD, hl]
              · have : s.c q2 = .dead := by simp [St.c, List.getD, List.getElem?_eq_none (by omega : s.C.length ≤ q2)]
                rw [this] at hq
                cases hq) (h.blk q2)
            rw [hf2, hc] at this
            exact this
          · cases hc
        · rename_i hd1
          have h0 := h.vb d k0 hc
          have := hblk d k0 (Ne.symm hd1) (fun q hq e => hno.2 d k0 hc (by simp [Ne.symm hd1]) (e ▸ hq)) h0
          rwa [hfo d (Ne.symm hd2)] at this
  · show (if k = q1 then G.nm q2 else G.nm k) = _
    rw [if_neg (by omega)]
    exact h.par k hk
  · obtain ⟨h3, h4⟩ := h.old b hb hn
    refine ⟨?_, h4⟩
    show (match G.own b with | .box q => if q = q2 then Owner.box q1 else if q = q1 then .ext else .box q | x => x) = _
    rw [h3]
    cases hO : B.own0 b with
    | box j => exact absurd hO (hn j)
    | imm => rfl
    | lent => rfl
    | ext => rfl
  · replace hb : (match G.own b with | .box q => if q = q2 then Owner.box q1 else if q = q1 then .ext else .box q | x => x) = .lent := hb
    cases hO : G.own b with
    | box j => rw [hO] at hb; simp only at hb; split at hb <;> first | cases hb | (split at hb <;> cases hb)
    | imm => rw [hO] at hb; cases hb
    | lent => rfl
    | ext => rw [hO] at hb; cases hb
/-- A part of a row becomes the row. -/
theorem Rel.adv (h : Rel B s a w G) {i q j n cp : Nat} {zs : List Kd} {es : List (List AV)} (hr : rowOf s q zs = some es) (hi : s.t i = .rs q zs j n cp) (hno : noRefs q [i] [q] s = true) (hq : B.m ≤ q) : ∃ G', Rel B ((s.ap (.blk q (.row zs ((es.drop j).take n)))).ap (.put i (.rf q zs))) a w G' := by
  have hrow := h.row hr
  obtain ⟨hok, hz, hlen, hcase⟩ := hrow
  have hok' : ∀ e ∈ (es.drop j).take n, okRow zs e = true := fun e he => hok e (List.mem_of_mem_drop (List.mem_of_mem_take he))
  obtain ⟨v, hav, hv⟩ := h.some_of (q := i) (fun e => by rw [hi] at e; cases e)
  rw [hi] at hv
  cases hv with
  | rsnil _ _ _ _ _ A _ hn _ =>
    subst hn
    have hf := h.fresh hq hno (0, none)
    have h1 := (hf.setB q (.row zs []) ⟨by simp, hz, by simp [nmAt], .inl ⟨rfl, by simp [nmAt]⟩⟩).slotW i (.rf q zs) fun v' hv' => by
      rw [hav] at hv'
      injection hv' with hv'
      subst hv'
      exact .rfnil q zs A (by simp [nmAt])
    exact ⟨_, h1.congr (by simp [St.ap])⟩
  | rs _ _ _ _ _ c p hp hin hn hcp hpc hm =>
    rcases hcase with ⟨_, h5⟩ | ⟨p', h5, h6, hown, vs, hat, hcap, hone, hcells⟩
    · rw [h5] at hp; cases hp
    · rw [h5] at hp
      injection hp with hp
      subst hp
      rw [hlen] at hin
      have hl : ((es.drop j).take n).length = n := by simp; omega
      have hmul : (p'.cap - j) * zs.length + j * zs.length = p'.cap * zs.length := by rw [← Nat.add_mul, Nat.sub_add_cancel (by omega)]
      have hf := h.fresh hq hno (n, some ⟨p'.b, p'.cap - j, p'.o + j * zs.length⟩)
      have hst := Stay.nm G w q (n, some ⟨p'.b, p'.cap - j, p'.o + j * zs.length⟩)
      have h1 := (hf.setB q (.row zs ((es.drop j).take n)) ⟨hok', hz, by rw [hl]; simp [nmAt], .inr ⟨⟨p'.b, p'.cap - j, p'.o + j * zs.length⟩, by simp [nmAt], by rw [hl]; show n ≤ p'.cap - j; omega, hown, vs, hat, by show p'.o + j * zs.length + (p'.cap - j) * zs.length ≤ vs.size; omega, hone, fun t x v ht hx hv => by
        replace hx : flatO (p'.o + j * zs.length) zs.length ((es.drop j).take n) t = some x := hx
        replace ht : t < p'.o + j * zs.length + (p'.cap - j) * zs.length := ht
        unfold flatO at hx
        split at hx
        · cases hx
        · rename_i hge
          obtain ⟨u, rfl⟩ : ∃ u, t = p'.o + (j * zs.length + u) := ⟨t - (p'.o + j * zs.length), by omega⟩
          rw [show p'.o + (j * zs.length + u) - (p'.o + j * zs.length) = u by omega] at hx
          obtain ⟨e, h7, h8⟩ := flatF_inv hx
          rw [List.getElem?_take] at h7
          split at h7
          · rw [List.getElem?_drop] at h7
            have h9 : flatF zs.length es (j * zs.length + u) = some x := by
              have hm := Nat.mod_lt u hz
              have hd := Nat.div_add_mod u zs.length
              rw [show j * zs.length + u = (j + u / zs.length) * zs.length + u % zs.length by rw [Nat.add_mul, Nat.mul_comm (u / zs.length)]; omega, flatF_at hm, h7]
              exact h8
            have key := hcells (p'.o + (j * zs.length + u)) x v (by omega) (by rw [flatO_add]; exact h9) hv
            exact key.upd hst (by rw [(key.flat rfl).1]; simp)
          · cases h7⟩⟩).slotW i (.rf q zs) fun v' hv' => by
        rw [hav] at hv'
        injection hv' with hv'
        subst hv'
        exact .rf q zs n c ⟨p'.b, p'.cap - j, p'.o + j * zs.length⟩ (by simp [nmAt]) (by simp [nmAt]) hn (by show c ≤ p'.cap - j; omega) hm
      exact ⟨_, h1.congr (by simp [St.ap])⟩
theorem nrm1_ok (hm : B.m = X.m) (n : Nrm) (h : Rel B s a w G) : ∃ G', Rel B (nrm1 X s n) a w G' := by
  cases n with
  | slot i q zs =>
    simp only [nrm1]
    cases hc : (isNil (s.t i) && (noRefs q [i] [q] s && (Nat.ble X.m q && (Nat.blt q s.C.length && (Nat.blt i s.T.length && Nat.blt 0 zs.length))))) with
    | false => exact ⟨G, h⟩
    | true =>
      simp only [Bool.and_eq_true, Nat.ble_eq, Nat.blt_eq] at hc
      exact h.asRow hc.2.2.2.2.2 (by rw [hm]; exact hc.2.2.1) hc.2.1 (nilV h hc.1)
  | cell b off q zs =>
    simp only [nrm1]
    split
    · rename_i cs hb
      cases hc : (isNil (cs.getD off .junk) && (noRefs q [] [q] s && (Nat.ble X.m q && (Nat.blt q s.C.length && (!(Nat.beq b q) && Nat.blt 0 zs.length))))) with
      | false => exact ⟨G, h⟩
      | true =>
        simp only [Bool.and_eq_true, Nat.ble_eq, Nat.blt_eq, Bool.not_eq_true'] at hc
        obtain ⟨hnil, hno, hq, _, hbq, hz⟩ := hc
        have hbq : b ≠ q := fun e => by subst e; simp at hbq
        have hf := h.fresh (by rw [hm]; exact hq) hno (0, none)
        have h1 := hf.setB q (.row zs []) ⟨by simp, hz, by simp [nmAt], .inl ⟨rfl, by simp [nmAt]⟩⟩
        refine ⟨_, (h1.setB b (.var (cs.set off (.rf q zs))) ?_).congr (by simp [St.ap])⟩
        have hlt : b < s.C.length := by
          apply Classical.byContradiction
          intro hl
          have : s.c b = .dead := by simp [St.c, List.getD, List.getElem?_eq_none (by omega : s.C.length ≤ b)]
          rw [this] at hb
          cases hb
        have h2 := h1.vb b (.var cs) (by
          simp only [St.ap, List.getElem?_set, if_neg (Ne.symm hbq)]
          rw [List.getElem?_eq_getElem hlt]
          have : s.c b = s.C[b] := by simp [St.c, List.getD, hlt]
          rw [← this, hb])
        obtain ⟨p, h3, h4, h5, vs, h6, h7, h8, h9⟩ := h2
        refine ⟨p, by rw [List.length_set]; exact h3, by rw [List.length_set]; exact h4, h5, vs, h6, by rw [List.length_set]; exact h7, h8, fun t x v ht hx hv => ?_⟩
        replace hx : (cs.set off (.rf q zs))[t]? = some x := hx
        rw [List.length_set] at ht
        rw [List.getElem?_set] at hx
        split at hx
        · rename_i e
          subst e
          split at hx
          · rename_i hl
            injection hx with hx
            subst hx
            have hge : cs[off]? = some cs[off] := List.getElem?_eq_getElem hl
            have hV := h9 off _ v ht hge hv
            have e2 : cs.getD off .junk = cs[off] := by simp [List.getD, hge]
            rw [e2] at hnil
            generalize cs[off] = y at hnil hV
            cases y <;> simp [isNil] at hnil
            · rw [hV.nil_inv]
              exact .rfnil q zs none (by simp [nmAt])
            · cases hV with
              | nilz _ A => exact .rfnil q zs A (by simp [nmAt])
          · rename_i hl
            exact absurd ht hl
        · exact h9 t x v ht hx hv
    · exact ⟨G, h⟩
  | ren q2 q1 =>
    simp only [nrm1]
    cases hc : (!(isDead (s.c q2)) && (noRefs q1 [] [q1] s && (Nat.ble X.m q1 && (Nat.ble X.m q2 && (Nat.blt q1 s.C.length && !(Nat.beq q1 q2)))))) with
    | false => exact ⟨G, h⟩
    | true =>
      simp only [Bool.and_eq_true, Nat.ble_eq, Nat.blt_eq, Bool.not_eq_true'] at hc
      obtain ⟨_, hno, h1, h2, hl, hne⟩ := hc
      have hne : q1 ≠ q2 := fun e => by subst e; simp at hne
      have hk := h.kill q1
      have hd : (s.ap (.blk q1 .dead)).c q1 = .dead := by simp [St.c, St.ap, List.getD, hl]
      have hno' : noRefs q1 [] [q1] (s.ap (.blk q1 .dead)) = true := by
        rw [noRefs_iff] at hno ⊢
        refine ⟨hno.1, fun d k hk hd => ?_⟩
        have hk' : (s.C.set q1 .dead)[d]? = some k := hk
        rw [List.getElem?_set, if_neg (fun e => hd (by simp [e]))] at hk'
        exact hno.2 d k hk' hd
      obtain ⟨G', h'⟩ := hk.renum hd hno' (by rw [hm]; exact h1) (by rw [hm]; exact h2) hne
      have e2 : (s.ap (.blk q1 .dead)).c q2 = s.c q2 := by simp [St.c, St.ap, List.getD, List.getElem?_set, hne]
      refine ⟨G', ?_⟩
      rw [e2] at h'
      have e3 : ((s.ap (.blk q1 .dead)).C.set q1 (s.c q2)) = s.C.set q1 (s.c q2) := by simp [St.ap]
      rw [e3] at h'
      exact h'
  | frz i q =>
    simp only [nrm1]
    split
    · rename_i q' zs hi
      split
      · rename_i es hr
        cases hc : (Nat.beq q q' && Nat.blt i s.T.length) with
        | false => exact ⟨G, h⟩
        | true =>
          simp only [Bool.and_eq_true, Nat.blt_eq] at hc
          obtain ⟨hq, hlt⟩ := hc
          obtain rfl := Nat.eq_of_beq_eq_true hq
          have hrow := h.row hr
          have hk := h.kill q
          have hv := h.slot i
          rw [hi] at hv
          have hval : ∀ v, a.tmps[i]? = some v → v = a.tmps.getD i undef := fun v hv => by simp [Array.getD_eq_getD_getElem?, hv]
          by_cases hp : ∃ p, (G.nm q).2 = some p ∧ G.own p.b = .box q
          · obtain ⟨p, hp1, hp2⟩ := hp
            have ht := hk.touch (w' := w) p.b q hp2 (by
              simp only [St.c, St.ap, List.getD, List.getElem?_set]
              simp
              split <;> rfl) .imm rfl rfl rfl (Nat.le_refl _) (fun _ _ _ => rfl)
            refine ⟨_, ht.slotW i _ fun v hv' => ?_⟩
            rw [hval v hv']
            refine slFull hrow hv ⟨Nat.le_refl _, fun b t hb him => ⟨?_, rfl⟩⟩ (fun p' hp' _ => ?_) (fun h => by cases h)
            · have : b ≠ p.b := by
                rintro rfl
                unfold Im at him
                rw [hp2] at him
                rcases him with him | ⟨_, him⟩ <;> cases him
              unfold Im at him ⊢
              simp only [this, if_false]
              exact him
            · rw [hp1] at hp'
              injection hp' with hp'
              subst hp'
              left
              simp
          · refine ⟨_, hk.slotW i _ fun v hv' => ?_⟩
            rw [hval v hv']
            exact slFull hrow hv (Stay.refl G w) (fun p' hp' ho => absurd ⟨p', hp', ho⟩ hp) (fun h => by cases h)
      · exact ⟨G, h⟩
    · exact ⟨G, h⟩
  | cimm b off zs =>
    simp only [nrm1]
    split
    · rename_i cs hb
      cases hnil : isNil (cs.getD off .junk) with
      | false => exact ⟨G, h⟩
      | true =>
        refine ⟨G, h.setB b (.var (cs.set off (.sl .imm zs []))) ?_⟩
        have h2 := h.blk b
        rw [hb] at h2
        obtain ⟨p, h3, h4, h5, vs, h6, h7, h8, h9⟩ := h2
        refine ⟨p, by rw [List.length_set]; exact h3, by rw [List.length_set]; exact h4, h5, vs, h6, by rw [List.length_set]; exact h7, h8, fun t x v ht hx hv => ?_⟩
        replace hx : (cs.set off (.sl .imm zs []))[t]? = some x := hx
        rw [List.length_set] at ht
        rw [List.getElem?_set] at hx
        split at hx
        · rename_i e
          subst e
          split at hx
          · rename_i hl
            injection hx with hx
            subst hx
            have hge : cs[off]? = some cs[off] := List.getElem?_eq_getElem hl
            have hV := h9 off _ v ht hge hv
            have e2 : cs.getD off .junk = cs[off] := by simp [List.getD, hge]
            rw [e2] at hnil
            generalize cs[off] = y at hnil hV
            cases y <;> simp [isNil] at hnil
            · rw [hV.nil_inv]
              exact .slnil _ _ _ _ _ (fun _ => rfl) (by simp [maxLen]) (fun h => by cases h)
            · cases hV with
              | nilz _ A => exact .slnil _ _ _ _ _ (fun _ => rfl) (by simp [maxLen]) (fun h => by cases h)
          · rename_i hl
            exact absurd ht hl
        · exact h9 t x v ht hx hv
    · exact ⟨G, h⟩
  | pcell b off q zs => exact ⟨G, h⟩
  | simm i zs =>
    simp only [nrm1]
    cases hnil : isNil (s.t i) with
    | false => exact ⟨G, h⟩
    | true =>
      refine ⟨G, h.slotW i _ fun v hv => ?_⟩
      obtain ⟨A, rfl⟩ := nilV h hnil v hv
      exact .slnil _ _ _ _ _ (fun _ => rfl) (by simp [maxLen]) (fun h => by cases h)
  | adv i q zs =>
    simp only [nrm1]
    split
    · rename_i q' zs' j n cp hi
      split
      · rename_i es hr
        cases hc : (Nat.beq q q' && (Kd.eqL zs zs' && (noRefs q [i] [q] s && (Nat.ble X.m q && (Nat.blt q s.C.length && Nat.blt i s.T.length))))) with
        | false => exact ⟨G, h⟩
        | true =>
          simp only [Bool.and_eq_true, Nat.ble_eq, Nat.blt_eq] at hc
          obtain ⟨h1, h2, h3, h4, _, _⟩ := hc
          obtain rfl := Nat.eq_of_beq_eq_true h1
          obtain rfl := Kd.eqL_of _ _ h2
          exact h.adv hr hi h3 (by rw [hm]; exact h4)
      · exact ⟨G, h⟩
    · exact ⟨G, h⟩
theorem nrms_ok (hm : B.m = X.m) : ∀ (rows : List Nrm) (s : St) (G : Gh), Rel B s a w G → ∃ G', Rel B (nrms X rows s) a w G' := by
  intro rows
  induction rows with
  | nil => intro s G h; exact ⟨G, h⟩
  | cons r rows ih =>
    intro s G h
    obtain ⟨G', h'⟩ := nrm1_ok (X := X) hm r h
    exact ih _ G' h'
theorem maskT_get {keep : List Nat} {T : List AV} {n i : Nat} {x : AV} (hn : n = T.length) (h : (maskT keep T n)[i]? = some x) : x = .junk ∨ T[i]? = some x := by
  unfold maskT at h
  rw [List.getElem?_map] at h
  by_cases hi : i < n
  · rw [List.getElem?_range hi] at h
    simp only [Option.map_some, Option.some.injEq] at h
    split at h
    · right
      subst hn
      rw [← h]
      simp [List.getD, hi]
    · exact .inl h.symm
  · rw [List.getElem?_eq_none (by simpa using Nat.le_of_not_lt hi)] at h
    cases h
theorem maskC_get {keep : List Nat} {T : List Blk} {n i : Nat} {x : Blk} (hn : n = T.length) (h : (maskC keep T n)[i]? = some x) : x = .dead ∨ T[i]? = some x := by
  unfold maskC at h
  rw [List.getElem?_map] at h
  by_cases hi : i < n
  · rw [List.getElem?_range hi] at h
    simp only [Option.map_some, Option.some.injEq] at h
    split at h
    · right
      subst hn
      rw [← h]
      simp [List.getD, hi]
    · exact .inl h.symm
  · rw [List.getElem?_eq_none (by simpa using Nat.le_of_not_lt hi)] at h
    cases h
theorem Rel.mask (h : Rel B s a w G) (hm : B.m = X.m) (body : Code) : ∃ G', Rel B (mask X body s) a w G' := by
  unfold Gv.mask
  split
  · rename_i keep keepB rows hk
    cases hs : sized X s with
    | false => exact ⟨G, h⟩
    | true =>
      simp only [sized, Bool.and_eq_true, Nat.beq_eq] at hs
      refine nrms_ok hm rows _ G ⟨h.defers, ?_, fun i x v hx hv => ?_, fun d k hk => ?_, h.os, h.tape, h.output, h.size, h.par, h.old, h.nl⟩
      · simp only [maskT, List.length_map, List.length_range]
        rw [← hs.1]
        exact h.len
      · rcases maskT_get hs.1.symm hx with rfl | h1
        · exact .junk _ _
        · exact h.vt i x v h1 hv
      · rcases maskC_get hs.2.symm hk with rfl | h1
        · trivial
        · exact h.vb d k h1
  · exact ⟨G, h⟩
theorem Rel.clean (h : Rel B s a w G) (κ κb : List Nat) : Rel B (clean κ κb s) a w G := by
  refine ⟨h.defers, ?_, fun i x v hx hv => ?_, fun d k hk => ?_, h.os, h.tape, h.output, h.size, h.par, h.old, h.nl⟩
  · simp only [Gv.clean, maskT, List.length_map, List.length_range]
    exact h.len
  · rcases maskT_get rfl hx with rfl | h1
    · exact .junk _ _
    · exact h.vt i x v h1 hv
  · rcases maskC_get rfl hk with rfl | h1
    · trivial
    · exact h.vb d k h1
theorem least {p : Nat → Prop} (h : ∃ n, p n) : ∃ n, p n ∧ ∀ m, p m → n ≤ m := by
  obtain ⟨n, hn⟩ := h
  induction n using Nat.strongRecOn with
  | _ n ih =>
    by_cases hm : ∃ m, m < n ∧ p m
    · obtain ⟨m, h1, h2⟩ := hm
      exact ih m h1 h2
    · exact ⟨n, hn, fun m hm' => Nat.not_lt.1 fun hlt => hm ⟨m, hlt, hm'⟩⟩
theorem wp_loop_count {P : Program} {c : Code} (J : Nat → Act → World → Prop) {n : Nat} (h0 : J n a w) (round : ∀ n a w, J n a w → ∃ m, n = m + 1 ∧ c.wp P (Exit.then (J m) Q) a w) : (Code.loop c).wp P Q a w := by
  have hμ : ∀ a w, ∃ μ : Nat, (∃ n, J n a w) → J μ a w ∧ ∀ m, J m a w → μ ≤ m := by
    intro a w
    by_cases h : ∃ n, J n a w
    · obtain ⟨n, h1⟩ := least h
      exact ⟨n, fun _ => h1⟩
    · exact ⟨0, fun h' => (h h').elim⟩
  let μ : Act → World → Nat := fun a w => Classical.choose (hμ a w)
  have hμs : ∀ a w, (∃ n, J n a w) → J (μ a w) a w ∧ ∀ m, J m a w → μ a w ≤ m := fun a w => Classical.choose_spec (hμ a w)
  refine wp_loop (fun a w => ∃ n, J n a w) μ ⟨n, h0⟩ fun a w hI => ?_
  obtain ⟨h1, h2⟩ := hμs a w hI
  obtain ⟨m, hm, hw⟩ := round _ a w h1
  refine Code.wp_mono (fun e a' w' q => ?_) hw
  cases e with
  | normal =>
    have h3 := (hμs a' w' ⟨m, q⟩).2 m q
    exact ⟨⟨m, q⟩, by omega⟩
  | _ => exact q
theorem bool_evalA (h : Rel B s a w G) {c : Operand} {b : Bool} (hc : evalA s.T c = .bool b) : a.eval c = .bool b := by
  have h1 := h.eval c
  rw [hc] at h1
  exact h1.bool_inv
/-- What is known of loops holds. -/
def LoopsOK (X : Cfg) : Code → Prop
  | .seq a b => LoopsOK X a ∧ LoopsOK X b
  | .cond _ a b => LoopsOK X a ∧ LoopsOK X b
  | .block _ c => LoopsOK X c
  | .scope c => LoopsOK X c
  | .loop c => LoopsOK X c ∧ ∀ (s : St) (alts : List (Bool × Ex × St)) (ex : Ex) (s' : St), lspA X c s = some (true, alts, ex, s') → ∀ (R : Type) (k : Ex → St → Option R) (r : R), altK alts (k ex s') k = some r → ∃ n κ κb, loopN X (fun s k => evCode X c s k) c n s (fun ex s1 => k ex (clean κ κb s1)) = some r
  | _ => True
theorem LoopsOK.none (h : ∀ i s, X.lsp i s = none) : ∀ c, LoopsOK X c := by
  intro c
  induction c with
  | seq a b iha ihb => exact ⟨iha, ihb⟩
  | cond c a b iha ihb => exact ⟨iha, ihb⟩
  | block i c ih => exact ih
  | scope c ih => exact ih
  | loop c ih =>
    refine ⟨ih, fun s alts ex s' hl => ?_⟩
    unfold lspA at hl
    split at hl
    · rw [h] at hl
      cases hs : sized X s <;> rw [hs] at hl <;> cases hl
    · cases hl
  | _ => trivial
theorem evCode_sound {R : Type} (hm : X.P.follows .mixedOrders = true) (hΓ : GamOK X.P X.gam) (hI : IdOK X B) {r : R} : ∀ (c : Code) (_ : LoopsOK X c) (s : St) (a : Act) (w : World) (G : Gh) (Q : Exit → Act → World → Prop) (k : Ex → St → Option R), Rel B s a w G → evCode X c s k = some r →
    (∀ ex s' a' w' G', Rel B s' a' w' G' → k ex s' = some r → Q (exOf ex) a' w') → c.wp X.P Q a w := by
  intro c
  induction c with
  | skip => intro _ s a w G Q k h hk hQ; exact wp_skip (hQ .norm s a w G h hk)
  | label l => intro _ s a w G Q k h hk hQ; exact wp_label (hQ .norm s a w G h hk)
  | ret => intro _ s a w G Q k h hk hQ; exact wp_ret (hQ .ret s a w G h hk)
  | exit id => intro _ s a w G Q k h hk hQ; exact wp_exit (hQ (.exit id) s a w G h hk)
  | seq x y ihx ihy =>
    intro hL s a w G Q k h hk hQ
    refine wp_seq (ihx hL.1 s a w G _ _ h hk fun ex s' a' w' G' h' hk' => ?_)
    cases ex with
    | norm => exact ihy hL.2 s' a' w' G' Q k h' hk' hQ
    | ret => exact hQ .ret s' a' w' G' h' hk'
    | exit i => exact hQ (.exit i) s' a' w' G' h' hk'
  | cond c x y ihx ihy =>
    intro hL s a w G Q k h hk hQ
    simp only [evCode] at hk
    split at hk
    · rename_i b hb
      refine wp_cond (bool_evalA h hb) ?_
      cases b with
      | true => exact ihx hL.1 s a w G Q k h hk hQ
      | false => exact ihy hL.2 s a w G Q k h hk hQ
    · cases hk
  | scope c ih =>
    intro hL s a w G Q k h hk hQ
    refine wp_scope_straight (ih hL s a w G _ k h hk fun ex s' a' w' G' h' hk' => ?_)
    cases ex with
    | norm => exact hQ .norm s' a' w' G' h' hk'
    | ret => exact hQ .ret s' a' w' G' h' hk'
    | exit i => exact hQ (.exit i) s' a' w' G' h' hk'
  | block id c ih =>
    intro hL s a w G Q k h hk hQ
    refine wp_block (ih hL s a w G _ _ h hk fun ex s' a' w' G' h' hk' => ?_)
    cases ex with
    | norm => exact hQ .norm s' a' w' G' h' hk'
    | ret => exact hQ .ret s' a' w' G' h' hk'
    | exit i =>
      simp only at hk'
      show (if i = id then Q .normal a' w' else Q (.exit i) a' w')
      cases hb : Nat.beq i id with
      | true =>
        rw [hb] at hk'
        rw [if_pos (Nat.eq_of_beq_eq_true hb)]
        exact hQ .norm s' a' w' G' h' hk'
      | false =>
        rw [hb] at hk'
        rw [if_neg (fun e => by subst e; simp at hb)]
        exact hQ (.exit i) s' a' w' G' h' hk'
  | loop body ih =>
    intro hL s a w G Q k h hk hQ
    have hgo : ∀ (k' : Ex → St → Option R), (∀ ex s' a' w' G', Rel B s' a' w' G' → k' ex s' = some r → Q (exOf ex) a' w') → ∀ n, loopN X (fun s k => evCode X body s k) body n s k' = some r → (Code.loop body).wp X.P Q a w := by
      intro k' hQ n hn
      refine wp_loop_count (fun n a w => ∃ s G, loopN X (fun s k => evCode X body s k) body n s k' = some r ∧ Rel B s a w G) (n := n) ⟨s, G, hn, h⟩ fun n a w ⟨s, G, hn, h⟩ => ?_
      cases n with
      | zero => cases hn
      | succ m =>
        obtain ⟨G1, h1⟩ := h.mask (X := X) hI.m body
        refine ⟨m, rfl, ih hL.1 _ a w G1 _ _ h1 hn fun ex s' a' w' G' h' hk' => ?_⟩
        cases ex with
        | norm => exact ⟨s', G', hk', h'⟩
        | ret => exact hQ .ret s' a' w' G' h' hk'
        | exit i => exact hQ (.exit i) s' a' w' G' h' hk'
    simp only [evCode] at hk
    split at hk
    · rename_i b alts ex s' hl
      cases b with
      | false => cases hk
      | true =>
        obtain ⟨n, κ, κb, hn⟩ := hL.2 s alts ex s' hl R k r hk
        exact hgo _ (fun ex s' a' w' G' h' hk' => hQ ex _ a' w' G' (h'.clean κ κb) hk') n hn
    · exact hgo k hQ _ hk
  | region id ops dr =>
    intro _ s a w G Q k h hk hQ
    simp only [evCode] at hk
    split at hk
    · obtain ⟨G1, h1⟩ := nrms_ok (X := X) hI.m (X.pre id) s G h
      exact evReg_sound hm hΓ hI h1 hk fun s' a' w' G' h' hk' => hQ .norm s' a' w' G' h' (by simpa only [forceS_eq] using hk')
    · rename_i l _
      cases hok : okJ X ops dr s l with
      | false => rw [hok] at hk; cases hk
      | true =>
        rw [hok] at hk
        exact evJoin_sound hm hΓ hI h hok fun a' w' G' h' => hQ .norm _ a' w' G' h' hk
  | _ => intro _ s a w G Q k h hk hQ; simp [evCode] at hk
end
end Go.Proofs.Gv
