import Derived.Test.YthnbpgiohimkoaaPw15
set_option linter.unusedVariables false
namespace Go.Proofs.Gv
open Go.RowKit
def FnOK (P : Program) (f : FuncId) (T0 : List AV) (C0 : List Blk) (r : AV) (outs : List Blk) : Prop :=
 ∀ (B : Bs) (vals : Array Value) (w : World) (G : Gh), Rel B ⟨T0, C0⟩ { tmps := vals, defers := [] } w G → B.w0 = w → B.own0 = G.own → B.m = C0.length → B.nm0 = G.nm →
  Calls P f vals w fun e w' => ∃ v G', e = .returned v ∧ Rel B ⟨[r], outs⟩ { tmps := #[v], defers := [] } w' G'
def Enters (P : Program) (f : FuncId) : Prop := ∀ (args : Array Value) (w : World), (callFunc f args).run P w = .ok (.enter f args) w
def GamOK (P : Program) (gam : Gam) : Prop := ∀ f T0 C0 r outs, gam f T0 C0 = some (true, r, outs) → Enters P f ∧ FnOK P f T0 C0 r (unk C0 outs)
theorem FnOK.unk {P : Program} {f : FuncId} {T0 : List AV} {C0 : List Blk} {r : AV} {outs : List Blk} (h : FnOK P f T0 C0 r outs) : FnOK P f T0 C0 r (unk C0 outs) := by
 unfold Gv.unk
 cases hr : isRo outs with
 | false => exact h
 | true =>
   unfold isRo at hr
   split at hr
   ·intro B vals w G h0 h1 h2 h3 h4
    refine (h B vals w G h0 h1 h2 h3 h4).mono fun e w' ⟨v, G', he, hr⟩ => ?_
    have := (hr.vb 0 _ rfl).2.1
    simp at this
   ·cases hr
def roM (ro : Bool) (C0 : List Blk) (x : Option (Bool × AV × List Blk)) : Option (Bool × AV × List Blk) :=
 match ro with
 | false => x
 | true => match x with
   | some (b, r, outs) => cond (Blk.eqL outs C0) (some (b, r, [.row [] []])) (some (b, r, outs))
   | none => none
theorem roM_ok {P : Program} {f : FuncId} {T0 : List AV} {C0 : List Blk} {ro : Bool} {x : Option (Bool × AV × List Blk)} {r : AV} {outs : List Blk} (h : ∀ r outs, x = some (true, r, outs) → FnOK P f T0 C0 r (unk C0 outs)) (hx : roM ro C0 x = some (true, r, outs)) : FnOK P f T0 C0 r (unk C0 outs) := by
 unfold roM at hx
 split at hx
 ·exact h r outs hx
 ·split at hx
  ·rename_i b r' outs'
   cases he : Blk.eqL outs' C0 with
   | false => rw [he] at hx; exact h r outs hx
   | true =>
     rw [he] at hx
     simp only [cond_true, Option.some.injEq, Prod.mk.injEq] at hx
     obtain ⟨rfl, rfl, rfl⟩ := hx
     have e := Blk.eqL_of _ _ he
     subst e
     have h1 := h r' outs' rfl
     have e2 : Gv.unk outs' outs' = outs' := by unfold Gv.unk; split <;> rfl
     rw [e2] at h1
     exact h1
  ·cases hx
theorem AV.ren_inv (f g : Nat → Nat) : ∀ a : AV, (∀ q ∈ a.refs, g (f q) = q) → (a.ren f).ren g = a := by
 refine @AV.rec (fun a => (∀ q ∈ a.refs, g (f q) = q) → (a.ren f).ren g = a) (fun l => (∀ q ∈ AV.refsL l, g (f q) = q) → AV.renL g (AV.renL f l) = l) (fun _ => True) ?_ ?_ ?_ ?_ ?_ ?_ ?_ ?_ ?_ ?_ ?_ ?_ ?_ ?_ ?_ ?_ ?_ ?_ ?_ ?_ ?_ ?_ ?_ <;> simp_all [AV.ren, AV.renL, AV.refs, AV.refsL]
theorem Blk.ren_inv (f g : Nat → Nat) (k : Blk) (h : ∀ q ∈ k.refs, g (f q) = q) : (k.ren f).ren g = k := by
 cases k with
 | dead => rfl
 | row => rfl
 | var cs =>
   have := AV.ren_inv f g (.agg cs) (by simpa only [AV.refs, Blk.refs] using h)
   simp only [AV.ren, AV.agg.injEq] at this
   simp only [Blk.ren, this]
 | tbl zs es pd =>
   cases pd with
   | none => rfl
   | some p => simp only [Blk.ren, h p.2 (by simp [Blk.refs])]
theorem aps_same : ∀ (κ : List Nat) (l : List Blk) (s : St), (∀ (j q : Nat) (k : Blk), κ[j]? = some q → l[j]? = some k → s.C[q]? = some k) → s.aps (blkWs κ l) = s := by
 intro κ
 induction κ with
 | nil => intro l s _; rfl
 | cons q κ ih =>
   intro l s h
   cases l with
   | nil => rfl
   | cons k l =>
     have h0 := h 0 q k rfl rfl
     have e : s.ap (.blk q k) = s := by
      cases s with
      | mk T C =>
        simp only [St.ap]
        have : C.set q k = C := by
         apply List.ext_getElem?
         intro i
         rw [List.getElem?_set]
         split
         ·rename_i e
          subst e
          replace h0 : C[q]? = some k := h0
          rw [h0]
          simp [(List.getElem?_eq_some_iff.1 h0).1]
         ·rfl
        rw [this]
     show (s.ap (.blk q k)).aps (blkWs κ l) = s
     rw [e]
     exact ih l s fun j q' k' h1 h2 => h (j + 1) q' k' (by simpa using h1) (by simpa using h2)
theorem ixOf_spec {ρ : List Nat} {q : Nat} (h : q ∈ ρ) : ∃ hlt : ixOf ρ q < ρ.length, ρ[ixOf ρ q] = q := by
 have hlt : ixOf ρ q < ρ.length := List.findIdx_lt_length_of_exists ⟨q, h, Nat.beq_refl q⟩
 refine ⟨hlt, ?_⟩
 have := List.findIdx_getElem (p := Nat.beq q) (w := hlt)
 exact (Nat.eq_of_beq_eq_true this).symm
theorem nodupL_spec : ∀ {l : List Nat}, nodupL l = true → l.Nodup := by
 intro l
 induction l with
 | nil => intro _; exact List.nodup_nil
 | cons x l ih =>
   intro h
   simp only [nodupL, Bool.and_eq_true, Bool.not_eq_true'] at h
   refine List.nodup_cons.2 ⟨fun hm => ?_, ih h.2⟩
   have h1 := h.1
   rw [inL_iff.2 hm] at h1
   cases h1
theorem ixOf_at {ρ : List Nat} (h : ρ.Nodup) {j : Nat} (hj : j < ρ.length) : ixOf ρ ρ[j] = j := by
 obtain ⟨hlt, e⟩ := ixOf_spec (List.getElem_mem hj)
 exact (List.getElem_inj h).1 e
theorem atIx_lt {κ : List Nat} {j : Nat} (h : j < κ.length) : atIx κ j = κ[j] := by simp [atIx, List.getD, List.getElem?_eq_getElem h]
theorem subL_spec {l ρ : List Nat} (h : subL l ρ = true) : ∀ q ∈ l, q ∈ ρ := fun q hq => inL_iff.1 (List.all_eq_true.1 h q hq)
theorem disj_spec {l ρ : List Nat} (h : disj l ρ = true) : ∀ q ∈ l, q ∉ ρ := fun q hq hm => by
 have := List.all_eq_true.1 h q hq
 rw [inL_iff.2 hm] at this
 cases this
section
variable {P : Program} {B : Bs} {s : St} {a : Act} {w w' : World} {G G' : Gh} {o : Oper} {u : List Wr} {K : Act → World → Prop} {Q : Exit → Act → World → Prop}
theorem AV.heldL_mem {l : List AV} (h : AV.heldL l = true) {i : Nat} {x : AV} (hx : l[i]? = some x) : x.held = true := by
 induction l generalizing i with
 | nil => cases hx
 | cons y l ih =>
   simp only [AV.heldL, Bool.and_eq_true] at h
   cases i with
   | zero => simp at hx; subst hx; exact h.1
   | succ i => exact ih h.2 (by simpa using hx)
theorem V.renH (hsz : w.heap.size ≤ w'.heap.size) (hE : ∀ b, b < w.heap.size → G.own b = .imm → G'.own b = .imm ∧ w'.heap[b]? = w.heap[b]?) (f : Nat → Nat) {r : Bool} {a : AV} {v : Value} (h : V G w r a v) (hh : r = false ∨ a.held = true) (hf : ∀ s ∈ a.refs, G'.nm (f s) = G.nm s) : V G' w' r (a.ren f) v := by
 have hIm : ∀ {b : Nat} {t : Tk}, t = .imm → b < w.heap.size → Im G.own t b → Im G'.own t b ∧ w'.heap[b]? = w.heap[b]? := by
  intro b t ht hb hi
  subst ht
  rcases hi with hi | ⟨hi, _⟩
  ·exact ⟨.inl (hE b hb hi).1, (hE b hb hi).2⟩
  ·exact absurd rfl hi
 have hcl : ∀ {b o : Nat}, w'.heap[b]? = w.heap[b]? → w'.cell? ⟨b, o, none⟩ = w.cell? ⟨b, o, none⟩ := fun h => World.cell?_of_block (w := w) (a := ⟨_, _, none⟩) h
 induction h with
 | junk r v => exact .junk r v
 | int r k n => exact .int r k n
 | bool r b => exact .bool r b
 | str r l => exact .str r l
 | nil r => exact .nil r
 | nilz r A => exact .nilz r A
 | nilp r => exact .nilp r
 | nilm r => exact .nilm r
 | fn r g cs vs hl h ih =>
   simp only [AV.ren, AV.renL_eq]
   refine .fn r g _ vs (by simpa using hl) fun i x v hx hv => ?_
   rw [List.getElem?_map] at hx
   cases hc : cs[i]? with
   | none => rw [hc] at hx; cases hx
   | some y =>
     rw [hc] at hx
     injection hx with hx
     subst hx
     exact ih i y v hc hv (hh.imp id fun h => AV.heldL_mem (by simpa only [AV.held] using h) hc) fun s hs => hf s (AV.mem_refsL hc hs)
 | agg r cs vs hl h ih =>
   simp only [AV.ren, AV.renL_eq]
   refine .agg r _ vs (by simpa using hl) fun i x v hx hv => ?_
   rw [List.getElem?_map] at hx
   cases hc : cs[i]? with
   | none => rw [hc] at hx; cases hx
   | some y =>
     rw [hc] at hx
     injection hx with hx
     subst hx
     exact ih i y v hc hv (hh.imp id fun h => AV.heldL_mem (by simpa only [AV.held] using h) hc) fun s hs => hf s (AV.mem_refsL hc hs)
 | tup r cs vs hl h ih =>
   simp only [AV.ren, AV.renL_eq]
   refine .tup r _ vs (by simpa using hl) fun i x v hx hv => ?_
   rw [List.getElem?_map] at hx
   cases hc : cs[i]? with
   | none => rw [hc] at hx; cases hx
   | some y =>
     rw [hc] at hx
     injection hx with hx
     subst hx
     exact ih i y v hc hv (hh.imp id fun h => AV.heldL_mem (by simpa only [AV.held] using h) hc) fun s hs => hf s (AV.mem_refsL hc hs)
 | slnil r t sz A c hA hm hn => exact .slnil r t sz A c hA hm hn
 | sl r t sz es b o c u hr hc hm hb hi hsz' hcell h ih =>
   have ht : t = .imm := by
    rcases hh with hh | hh
    ·exact hr hh
    ·cases t with
     | imm => rfl
     | _ => simp [AV.held] at hh
   obtain ⟨h1, h2⟩ := hIm ht hb hi
   refine .sl r t sz es b o c u hr hc hm (Nat.lt_of_lt_of_le hb hsz) h1 hsz' (fun i j e x h3 h4 => ?_) fun i j e x h3 h4 => ?_
   ·rw [hcl h2]; exact hcell i j e x h3 h4
   ·have h5 := (h i j e x h3 h4).flat rfl
    have h6 := ih i j e x h3 h4 (.inl rfl) (by rw [h5.1]; simp)
    rwa [h5.2 f] at h6
 | ip r t cs b o u hr hb hi hcell h ih =>
   have ht : t = .imm := by
    rcases hh with hh | hh
    ·exact hr hh
    ·cases t with
     | imm => rfl
     | _ => simp [AV.held] at hh
   obtain ⟨h1, h2⟩ := hIm ht hb hi
   refine .ip r t cs b o u hr (Nat.lt_of_lt_of_le hb hsz) h1 (fun j x h3 => ?_) fun j x h3 => ?_
   ·rw [hcl h2]; exact hcell j x h3
   ·have h5 := (h j x h3).flat rfl
    have h6 := ih j x h3 (.inl rfl) (by rw [h5.1]; simp)
    rwa [h5.2 f] at h6
 | hp s off p hs => exact .hp _ _ p (by rw [hf s (List.mem_singleton.2 rfl)]; exact hs)
 | ep s sz i off p hs hi => exact .ep _ _ _ _ p (by rw [hf s (List.mem_singleton.2 rfl)]; exact hs) (by rw [hf s (List.mem_singleton.2 rfl)]; exact hi)
 | rf s sz n c p hs hn hc hp hm => exact .rf _ _ _ _ p (by rw [hf s (List.mem_singleton.2 rfl)]; exact hs) (by rw [hf s (List.mem_singleton.2 rfl)]; exact hn) hc hp hm
 | rfnil s sz A h => exact .rfnil _ _ A (by rw [hf s (List.mem_singleton.2 rfl)]; exact h)
 | rs s sz i n cp c p hs hi hn hcp hp hm => exact .rs _ _ _ _ _ _ p (by rw [hf s (List.mem_singleton.2 rfl)]; exact hs) (by rw [hf s (List.mem_singleton.2 rfl)]; exact hi) hn hcp hp hm
 | rsnil s sz i n cp A hi hn hcp => exact .rsnil _ _ _ _ _ A (by rw [hf s (List.mem_singleton.2 rfl)]; exact hi) hn hcp
 | mp s sz p hs => exact .mp _ _ p (by rw [hf s (List.mem_singleton.2 rfl)]; exact hs)
 | mt s sz k o p hs => exact .mt _ _ _ _ p (by rw [hf s (List.mem_singleton.2 rfl)]; exact hs)
theorem slPart {q i n cp : Nat} {zs : List Kd} {es : List (List AV)} {t : Tk} {rr : Bool} {v : Value} (hrow : BlkOK G w q (.row zs es)) (hv : V G w true (.rs q zs i n cp) v) (E : Stay G G' w w) (hi : ∀ p : Pl, (G.nm q).2 = some p → G.own p.b = .box q → Im G'.own t p.b) (hr : rr = false → t = .imm) (ht : t ≠ .nn := by decide) : V G' w rr (.sl t zs ((es.drop i).take n)) v := by
 cases hv with
 | rsnil _ _ _ _ _ A _ hn hcp =>
   subst hn
   have : (es.drop i).take 0 = [] := by simp
   rw [this]
   exact .slnil _ _ _ _ _ (fun _ => rfl) (by simp [maxLen]) (fun h => absurd h ht)
 | rs _ _ _ _ _ c p hp hin hn hcp hpc hm =>
   have hrow' := hrow
   obtain ⟨hok, hz, hlen, hcase⟩ := hrow'
   rw [hlen] at hin
   have hl : ((es.drop i).take n).length = n := by simp; omega
   rcases hcase with ⟨_, h5⟩ | ⟨p', h5, h6, hown, vs, hat, hcap, hone, hcells⟩
   ·rw [h5] at hp; cases hp
   ·have hp' := hp
    rw [h5] at hp
    injection hp with hp
    subst hp
    have hrc : ∀ (k j : Nat) (e : List AV) (x : AV), ((es.drop i).take n)[k]? = some e → e[j]? = some x → ∃ v, w.cell? ⟨p'.b, p'.o + i * zs.length + k * zs.length + j, none⟩ = some v ∧ v.oneCell' = true ∧ V G w false x v := by
     intro k j e x h1 h2
     rw [List.getElem?_take] at h1
     split at h1
     ·rw [List.getElem?_drop] at h1
      have := row_cell hrow hp' h1 h2
      rwa [Nat.add_mul, ← Nat.add_assoc] at this
     ·cases h1
    have := V.sl (G := G') (w := w) rr t zs ((es.drop i).take n) p'.b (p'.o + i * zs.length) c (fun k j => (w.cell? ⟨p'.b, p'.o + i * zs.length + k * zs.length + j, none⟩).getD undef) hr (by omega) hm hat.lt (hi p' h5 hown) (fun e he => hok e (List.mem_of_mem_drop (List.mem_of_mem_take he)))
     (fun k j e x h1 h2 => by
       obtain ⟨v, h3, h4, _⟩ := hrc k j e x h1 h2
       simp only [h3, Option.getD_some]
       exact ⟨trivial, h4⟩)
     (fun k j e x h1 h2 => by
       obtain ⟨v, h3, _, h4⟩ := hrc k j e x h1 h2
       simp only [h3, Option.getD_some]
       exact h4.upd E (by rw [(h4.flat rfl).1]; simp))
    rw [hl] at this
    exact this
theorem slFull {q : Nat} {zs : List Kd} {es : List (List AV)} {t : Tk} {rr : Bool} {v : Value} (hrow : BlkOK G w q (.row zs es)) (hv : V G w true (.rf q zs) v) (E : Stay G G' w w) (hi : ∀ p : Pl, (G.nm q).2 = some p → G.own p.b = .box q → Im G'.own t p.b) (hr : rr = false → t = .imm) (ht : t ≠ .nn := by decide) : V G' w rr (.sl t zs es) v := by
 obtain ⟨hok, hz, hlen, hcase⟩ := hrow
 cases hv with
 | rfnil _ _ A h0 =>
   rw [hlen] at h0
   have := List.eq_nil_of_length_eq_zero h0
   subst this
   exact .slnil _ _ _ _ _ (fun _ => rfl) (by simp [maxLen]) (fun h => absurd h ht)
 | rf _ _ n c p hp hn hc hpc hm =>
   rw [hlen] at hn
   subst hn
   rcases hcase with ⟨_, h5⟩ | ⟨p', h5, h6, hown, vs, hat, hcap, hone, hcells⟩
   ·rw [h5] at hp; cases hp
   ·rw [h5] at hp
    injection hp with hp
    subst hp
    refine slOf' hat (hi p' h5 hown) hr hc hm (Nat.le_trans (Nat.add_le_add_left (Nat.mul_le_mul_right _ hpc) _) hcap) hone hok fun t x v hx hv => ?_
    have ht : t < p'.cap * zs.length := by
     obtain ⟨e, h1, h2⟩ := flatF_inv hx
     have h3 : t / zs.length < es.length := (List.getElem?_eq_some_iff.1 h1).1
     exact Nat.lt_of_lt_of_le ((Nat.div_lt_iff_lt_mul hz).1 h3) (Nat.mul_le_mul_right _ h6)
    have := hcells (p'.o + t) x v (by omega) (by rw [flatO_add]; exact hx) hv
    exact this.upd E (by rw [(this.flat rfl).1]; simp)
def inOwn (G : Gh) (ρ lent : List Nat) (b : Nat) : Owner :=
 match G.own b with
 | .box q => if q ∈ ρ then .box (ixOf ρ q) else if q ∈ lent then .lent else .ext
 | x => x
def inG (G : Gh) (ρ lent : List Nat) : Gh := { own := inOwn G ρ lent, nm := fun j => G.nm (ρ.getD j 0) }
theorem in_stay (G : Gh) (w : World) (ρ lent : List Nat) : Stay G (inG G ρ lent) w w := by
 refine ⟨Nat.le_refl _, fun b t hb hi => ⟨?_, rfl⟩⟩
 unfold Im at hi ⊢
 simp only [inG, inOwn]
 rcases hi with hi | ⟨h1, h2⟩
 ·rw [hi]; exact .inl rfl
 ·rw [h2]; exact .inr ⟨h1, rfl⟩
theorem in_nm {ρ lent : List Nat} {q : Nat} (h : q ∈ ρ) : (inG G ρ lent).nm (ixOf ρ q) = G.nm q := by
 obtain ⟨hlt, e⟩ := ixOf_spec h
 simp only [inG, List.getD, List.getElem?_eq_getElem hlt, Option.getD_some, e]
theorem lend0_ok (h : Rel B s a w G) {x y : AV} {l ρ lent : List Nat} (hc : lend0 s x = some (y, l)) {v : Value} (hv : V G w true x v) (hl : ∀ q ∈ l, q ∈ lent ∧ q ∉ ρ) (hy : ∀ q ∈ y.refs, q ∈ ρ) : V (inG G ρ lent) w true (y.ren (ixOf ρ)) v := by
 have hown : ∀ (q : Nat), q ∈ l → ∀ p : Pl, (G.nm q).2 = some p → G.own p.b = .box q → Im (inG G ρ lent).own .lent p.b := by
  intro q hq p _ ho
  refine .inr ⟨by simp, ?_⟩
  simp only [inG, inOwn, ho]
  rw [if_neg (hl q hq).2, if_pos (hl q hq).1]
 unfold lend0 at hc
 split at hc
 ·rename_i q zs
  cases hr : rowOf s q zs with
  | none => rw [hr] at hc; cases hc
  | some es =>
    rw [hr] at hc
    injection hc with hc
    injection hc with h1 h2
    subst h1 h2
    exact slFull (h.row hr) hv (in_stay G w ρ lent) (hown q (List.mem_singleton.2 rfl)) (fun h => by cases h)
 ·rename_i q zs i n cp
  cases hr : rowOf s q zs with
  | none => rw [hr] at hc; cases hc
  | some es =>
    rw [hr] at hc
    injection hc with hc
    injection hc with h1 h2
    subst h1 h2
    exact slPart (h.row hr) hv (in_stay G w ρ lent) (hown q (List.mem_singleton.2 rfl)) (fun h => by cases h)
 ·injection hc with hc
  injection hc with h1 h2
  subst h1 h2
  exact hv.ren (in_stay G w ρ lent) _ fun q hq => in_nm (hy q hq)
theorem lendL_ok (h : Rel B s a w G) {ρ lent : List Nat} : ∀ (xs ys : List AV) (l : List Nat), lendL s xs = some (ys, l) → ys.length = xs.length ∧ ((∀ q ∈ l, q ∈ lent ∧ q ∉ ρ) → (∀ q ∈ AV.refsL ys, q ∈ ρ) → ∀ (i : Nat) (y : AV) (v : Value) (x : AV), ys[i]? = some y → xs[i]? = some x → V G w true x v → V (inG G ρ lent) w true (y.ren (ixOf ρ)) v) := by
 intro xs
 induction xs with
 | nil => intro ys l hc; simp [lendL] at hc; obtain ⟨rfl, rfl⟩ := hc; exact ⟨rfl, fun _ _ i y v x h1 => by cases h1⟩
 | cons x xs ih =>
   intro ys l hc
   unfold lendL at hc
   split at hc
   ·rename_i y p m q h1 h2
    injection hc with hc
    injection hc with h3 h4
    subst h3 h4
    obtain ⟨hl, hi⟩ := ih m q h2
    refine ⟨by simp [hl], fun hl' hy i y' v x' h5 h6 hv => ?_⟩
    cases i with
    | zero =>
      simp at h5 h6
      subst h5 h6
      exact lend0_ok h h1 hv (fun q hq => hl' q (List.mem_append_left _ hq)) (fun q hq => hy q (by simp only [AV.refsL]; exact List.mem_append_left _ hq))
    | succ i => exact hi (fun q hq => hl' q (List.mem_append_right _ hq)) (fun q hq => hy q (by simp only [AV.refsL]; exact List.mem_append_right _ hq)) i y' v x' (by simpa using h5) (by simpa using h6) hv
   ·cases hc
theorem lend1_ok (h : Rel B s a w G) {x y : AV} {l ρ lent : List Nat} (hc : lend1 s x = some (y, l)) {v : Value} (hv : V G w true x v) (hl : ∀ q ∈ l, q ∈ lent ∧ q ∉ ρ) (hy : ∀ q ∈ y.refs, q ∈ ρ) : V (inG G ρ lent) w true (y.ren (ixOf ρ)) v := by
 unfold lend1 at hc
 split at hc
 ·rename_i cs
  cases hL : lendL s cs with
  | none => rw [hL] at hc; cases hc
  | some p =>
    obtain ⟨ys, l'⟩ := p
    rw [hL] at hc
    injection hc with hc
    injection hc with h1 h2
    subst h1 h2
    obtain ⟨hlen, hi⟩ := lendL_ok h (ρ := ρ) (lent := lent) cs ys l' hL
    obtain ⟨vs, rfl, hsz, hvv⟩ := hv.agg_inv
    simp only [AV.ren, AV.renL_eq]
    refine .agg _ _ _ (by simp [hlen, hsz]) fun i z v hz hv' => ?_
    rw [List.getElem?_map] at hz
    cases hyi : ys[i]? with
    | none => rw [hyi] at hz; cases hz
    | some y =>
      rw [hyi] at hz
      injection hz with hz
      subst hz
      have hil : i < cs.length := by have := (List.getElem?_eq_some_iff.1 hyi).1; omega
      exact hi hl hy i y v cs[i] hyi (List.getElem?_eq_getElem hil) (hvv i _ v (List.getElem?_eq_getElem hil) hv')
 ·exact lend0_ok h hc hv hl hy
theorem lendAs_ok (h : Rel B s a w G) {ρ lent : List Nat} {by' : Bool} : ∀ (xs ys : List AV) (l : List Nat), lendAs s by' xs = some (ys, l) → ys.length = xs.length ∧ ((∀ q ∈ l, q ∈ lent ∧ q ∉ ρ) → (∀ q ∈ AV.refsL ys, q ∈ ρ) → ∀ (i : Nat) (y : AV) (v : Value) (x : AV), ys[i]? = some y → xs[i]? = some x → V G w true x v → V (inG G ρ lent) w true (y.ren (ixOf ρ)) v) := by
 intro xs
 induction xs with
 | nil => intro ys l hc; simp [lendAs] at hc; obtain ⟨rfl, rfl⟩ := hc; exact ⟨rfl, fun _ _ i y v x h1 => by cases h1⟩
 | cons x xs ih =>
   intro ys l hc
   unfold lendAs at hc
   split at hc
   ·rename_i y p m q h1 h2
    injection hc with hc
    injection hc with h3 h4
    subst h3 h4
    obtain ⟨hl, hi⟩ := ih m q h2
    refine ⟨by simp [hl], fun hl' hy i y' v x' h5 h6 hv => ?_⟩
    cases i with
    | zero =>
      simp at h5 h6
      subst h5 h6
      cases by' with
      | true =>
        injection h1 with h1
        injection h1 with e1 e2
        subst e1 e2
        exact hv.ren (in_stay G w ρ lent) _ fun q hq => in_nm (hy q (by simp only [AV.refsL]; exact List.mem_append_left _ hq))
      | false => exact lend1_ok h h1 hv (fun q hq => hl' q (List.mem_append_left _ hq)) (fun q hq => hy q (by simp only [AV.refsL]; exact List.mem_append_left _ hq))
    | succ i => exact hi (fun q hq => hl' q (List.mem_append_right _ hq)) (fun q hq => hy q (by simp only [AV.refsL]; exact List.mem_append_right _ hq)) i y' v x' (by simpa using h5) (by simpa using h6) hv
   ·cases hc
theorem BlkOK.into (h : Rel B s a w G) {ρ lent : List Nat} (hnd : ρ.Nodup) {j : Nat} (hj : j < ρ.length) (hcl : ∀ q ∈ (s.c ρ[j]).refs, q ∈ ρ) : BlkOK (inG G ρ lent) w j ((s.c ρ[j]).ren (ixOf ρ)) := by
 have h0 := h.blk ρ[j]
 have hmem : ρ[j] ∈ ρ := List.getElem_mem hj
 have hix := ixOf_at hnd hj
 have hnm : (inG G ρ lent).nm j = G.nm ρ[j] := by
  have := in_nm (G := G) (lent := lent) hmem
  rwa [hix] at this
 have hown : ∀ b, G.own b = .box ρ[j] → (inG G ρ lent).own b = .box j := by
  intro b hb
  simp only [inG, inOwn, hb]
  rw [if_pos hmem, hix]
 cases hk : s.c ρ[j] with
 | dead => trivial
 | var cs =>
   rw [hk] at h0 hcl
   obtain ⟨p, h1, h2, h3, vs, h4, h5, h6, h7⟩ := h0
   simp only [Blk.ren, AV.renL_eq]
   have hl : (cs.map (AV.ren (ixOf ρ))).length = cs.length := List.length_map _
   refine ⟨p, by rw [hnm, hl]; exact h1, by rw [hl]; exact h2, hown _ h3, vs, h4, by rw [hl]; exact h5, h6, fun t x v ht hx hv => ?_⟩
   replace hx : (cs.map (AV.ren (ixOf ρ)))[t]? = some x := hx
   rw [List.getElem?_map] at hx
   cases hc : cs[t]? with
   | none => rw [hc] at hx; cases hx
   | some y =>
     rw [hc] at hx
     injection hx with hx
     subst hx
     exact (h7 t y v (by rw [hl] at ht; exact ht) hc hv).ren (in_stay G w ρ lent) _ fun q hq => in_nm (hcl q (AV.mem_refsL hc hq))
 | tbl zs es pd =>
   rw [hk] at h0 hcl
   obtain ⟨h1, p, h2, h3⟩ := h0
   have := h3.upd (in_stay G w ρ lent) (ixOf ρ) (d' := j) (fun b _ ho => ⟨hown b ho, rfl⟩) (fun k q hq => by
    rw [in_nm (hcl q (by subst hq; simp [Blk.refs]))])
   cases pd with
   | none => exact ⟨h1, p, by rw [hnm]; exact h2, this⟩
   | some x => exact ⟨h1, p, by rw [hnm]; exact h2, this⟩
 | row zs es =>
   rw [hk] at h0
   obtain ⟨h1, h2, h3, h4⟩ := h0
   refine ⟨h1, h2, by rw [hnm]; exact h3, ?_⟩
   rcases h4 with ⟨h4, h5⟩ | ⟨p, h4, h5, h6, vs, h7, h8, h9, h10⟩
   ·exact .inl ⟨h4, by rw [hnm]; exact h5⟩
   ·refine .inr ⟨p, by rw [hnm]; exact h4, h5, hown _ h6, vs, h7, h8, h9, fun t x v ht hx hv => ?_⟩
    have := h10 t x v ht hx hv
    exact this.upd (in_stay G w ρ lent) (by rw [(this.flat rfl).1]; simp)
end
end Go.Proofs.Gv
