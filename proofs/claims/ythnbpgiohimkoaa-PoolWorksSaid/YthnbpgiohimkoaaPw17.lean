import Derived.Test.YthnbpgiohimkoaaPw16
set_option linter.unusedVariables false
namespace Go.Proofs.Gv
open Go.RowKit
section
variable {P : Program} {B : Bs} {s : St} {a : Act} {w w' : World} {G G' : Gh} {o : Oper} {u : List Wr} {K : Act → World → Prop} {Q : Exit → Act → World → Prop}
theorem TblOK.conv {d d' : Nat} {p : Pl} {zs : List Kd} {es : List (List AV)} {pd : Option (Int × Nat)} (h : TblOK G w d p zs es pd) (f : Nat → Nat) (hown : ∀ b, G.own b = .box d → G'.own b = .box d') (hv : ∀ (x : AV) (v : Value), V G w false x v → V G' w false x v)
  (hnm : ∀ k q, pd = some (k, q) → (G'.nm (f q)).2 = (G.nm q).2) : TblOK G' w d' p zs es (pd.map fun x => (x.1, f x.2)) := by
 obtain ⟨ents, clk, tl, h1, h2, h3⟩ := h.heap
 refine ⟨hown _ h.own, ⟨ents, clk, tl, h1, h2, ?_⟩, h.rows, h.keys, fun e he => ?_, h.inj⟩
 ·cases pd with
  | none => exact h3
  | some x =>
    obtain ⟨h4, p2, h5, h6⟩ := h3
    exact ⟨h4, p2, (hnm _ _ rfl).trans h5, h6⟩
 ·obtain ⟨k1, vs, k2, k3, k4, k5⟩ := h.elt e he
  exact ⟨hown _ k1, vs, k2, k3, k4, fun t x v ht hx hvx => hv x v (k5 t x v ht hx hvx)⟩
def frzG (G : Gh) (m : Nat) : Gh := { own := fun b => match G.own b with | .box j => if m ≤ j then .imm else .box j | x => x, nm := G.nm }
theorem frz_stay (G : Gh) (w : World) (m : Nat) : Stay G (frzG G m) w w := by
 refine ⟨Nat.le_refl _, fun b t hb hi => ⟨?_, rfl⟩⟩
 unfold Im at hi ⊢
 simp only [frzG]
 rcases hi with hi | ⟨h1, h2⟩
 ·rw [hi]; exact .inl rfl
 ·rw [h2]; exact .inr ⟨h1, rfl⟩
theorem frz0_ok (h : Rel B s a w G) (m : Nat) {x : AV} {v : Value} (hv : V G w true x v) : V (frzG G m) w true (frz0 m s.C x) v := by
 have same : V (frzG G m) w true x v := hv.upd (frz_stay G w m) fun _ _ => rfl
 have hown : ∀ (q : Nat), m ≤ q → ∀ p : Pl, (G.nm q).2 = some p → G.own p.b = .box q → Im (frzG G m).own .imm p.b := by
  intro q hq p _ ho
  refine .inl ?_
  simp only [frzG, ho]
  rw [if_pos hq]
 unfold frz0
 split
 ·rename_i q zs
  split
  ·rename_i zs' es hq he
   cases hk : Kd.eqL zs zs' with
   | false => exact same
   | true =>
     obtain rfl := Kd.eqL_of _ _ hk
     have hb := h.blk q
     have he' : s.c q = .row zs es := he
     rw [he'] at hb
     exact slFull hb hv (frz_stay G w m) (hown q (Nat.le_of_ble_eq_true hq)) (fun h => by cases h)
  ·exact same
 ·rename_i q zs i n cp
  split
  ·rename_i zs' es hq he
   cases hk : Kd.eqL zs zs' with
   | false => exact same
   | true =>
     obtain rfl := Kd.eqL_of _ _ hk
     have hb := h.blk q
     have he' : s.c q = .row zs es := he
     rw [he'] at hb
     exact slPart hb hv (frz_stay G w m) (hown q (Nat.le_of_ble_eq_true hq)) (fun h => by cases h)
  ·exact same
 ·exact same
theorem frz1_ok (h : Rel B s a w G) (m : Nat) {x : AV} {v : Value} (hv : V G w true x v) : V (frzG G m) w true (frz1 m s.C x) v := by
 unfold frz1
 split
 ·rename_i cs
  obtain ⟨vs, rfl, hl, hvv⟩ := hv.agg_inv
  refine .agg _ _ _ (by simpa using hl) fun i y v hy hv' => ?_
  rw [List.getElem?_map] at hy
  cases hc : cs[i]? with
  | none => rw [hc] at hy; cases hy
  | some z =>
    rw [hc] at hy
    injection hy with hy
    subst hy
    exact frz0_ok h m (hvv i z v hc hv')
 ·exact frz0_ok h m hv
theorem frz2_ok (h : Rel B s a w G) (m : Nat) {x : AV} {v : Value} (hv : V G w true x v) : V (frzG G m) w true (frz2 m s.C x) v := by
 unfold frz2
 split
 ·rename_i cs
  cases hv with
  | tup _ _ vs hl hvv =>
    refine .tup _ _ _ (by simpa using hl) fun i y v hy hv' => ?_
    rw [List.getElem?_map] at hy
    cases hc : cs[i]? with
    | none => rw [hc] at hy; cases hy
    | some z =>
      rw [hc] at hy
      injection hy with hy
      subst hy
      exact frz1_ok h m (hvv i z v hc hv')
 ·exact frz1_ok h m hv
theorem frz_ok {r : AV} {outs : List Blk} {v : Value} (h : Rel B ⟨[r], outs⟩ { tmps := #[v], defers := [] } w G) (m : Nat) : Rel B ⟨[frz2 m outs r], outs.take m⟩ { tmps := #[v], defers := [] } w (frzG G m) := by
 refine ⟨rfl, rfl, fun i x u hx hu => ?_, fun d k hk => ?_, h.os, h.tape, h.output, h.size, h.par, fun b hb hn => ?_, fun b hb => h.nl b ?_⟩
 ·cases i with
  | zero =>
    simp at hx hu
    subst hx hu
    exact frz2_ok h m (h.vt 0 r v rfl rfl)
  | succ i => simp at hx
 ·replace hk : (outs.take m)[d]? = some k := hk
  rw [List.getElem?_take] at hk
  split at hk
  ·rename_i hd
   have h0 := h.vb d k hk
   have hown : ∀ b, G.own b = .box d → (frzG G m).own b = .box d := by
    intro b hb
    simp only [frzG, hb]
    rw [if_neg (by omega)]
   cases k with
   | dead => trivial
   | var cs =>
     obtain ⟨p, h1, h2, h3⟩ := h0
     exact ⟨p, h1, h2, h3.upd (frz_stay G w m) (by rw [hown _ h3.1, h3.1]) rfl fun _ _ _ _ _ => rfl⟩
   | tbl zs es pd =>
     obtain ⟨h1, p, h2, h3⟩ := h0
     exact ⟨h1, p, h2, h3.stays (frz_stay G w m) (fun b _ hb => ⟨hown b hb, rfl⟩) (fun _ _ _ => rfl)⟩
   | row zs es =>
     obtain ⟨h1, h2, h3, h4⟩ := h0
     refine ⟨h1, h2, h3, ?_⟩
     rcases h4 with h4 | ⟨p, h4, h5, h6⟩
     ·exact .inl h4
     ·exact .inr ⟨p, h4, h5, h6.flat (frz_stay G w m) (by rw [hown _ h6.1, h6.1]) rfl⟩
  ·cases hk
 ·obtain ⟨h1, h2⟩ := h.old b hb hn
  refine ⟨?_, h2⟩
  show (match G.own b with | .box j => if m ≤ j then Owner.imm else .box j | x => x) = _
  rw [h1]
  cases hO : B.own0 b with
  | box j => exact absurd hO (hn j)
  | imm => rfl
  | lent => rfl
  | ext => rfl
 ·replace hb : (match G.own b with | .box j => if m ≤ j then Owner.imm else .box j | x => x) = .lent := hb
  cases hO : G.own b with
  | box j => rw [hO] at hb; simp only at hb; split at hb <;> cases hb
  | imm => rw [hO] at hb; cases hb
  | lent => rfl
  | ext => rw [hO] at hb; cases hb
theorem blkWs_get : ∀ (κ : List Nat) (l : List Blk) (s : St), κ.Nodup → κ.length = l.length → (s.aps (blkWs κ l)).T = s.T ∧ ∀ (d : Nat) (k : Blk), (s.aps (blkWs κ l)).C[d]? = some k → (∃ j : Nat, κ[j]? = some d ∧ l[j]? = some k) ∨ (d ∉ κ ∧ s.C[d]? = some k) := by
 intro κ
 induction κ with
 | nil => intro l s _ _; exact ⟨rfl, fun d k h => .inr ⟨by simp, h⟩⟩
 | cons q κ ih =>
   intro l s hnd hl
   cases l with
   | nil => simp at hl
   | cons k0 l =>
     obtain ⟨h1, h2⟩ := List.nodup_cons.1 hnd
     obtain ⟨h3, h4⟩ := ih l (s.ap (.blk q k0)) h2 (by simpa using hl)
     refine ⟨h3, fun d k hk => ?_⟩
     rcases h4 d k hk with ⟨j, h5, h6⟩ | ⟨h5, h6⟩
     ·exact .inl ⟨j + 1, by simpa using h5, by simpa using h6⟩
     ·simp only [St.ap, List.getElem?_set] at h6
      by_cases e : q = d
      ·subst e
       simp only [if_true] at h6
       split at h6
       ·injection h6 with h6
        exact .inl ⟨0, rfl, by simp [h6]⟩
       ·cases h6
      ·rw [if_neg e] at h6
       exact .inr ⟨by simp [h5, Ne.symm e], h6⟩
def passed (G : Gh) (ρ : List Nat) (b : Nat) : Bool :=
 match G.own b with
 | .box q => inL q ρ
 | _ => false
def convO (nl : Bool) (κ : List Nat) : Owner → Owner
 | .box j => if j < κ.length then .box (atIx κ j) else .ext
 | .imm => .imm
 | .lent => cond nl .lent .ext
 | .ext => .ext
def outG (nl : Bool) (G G' : Gh) (n : Nat) (ρ κ : List Nat) : Gh :=
 { own := fun b => if b < n ∧ passed G ρ b = false then G.own b else convO nl κ (G'.own b), nm := fun q => if q ∈ κ then G'.nm (ixOf κ q) else G.nm q }
theorem not_passed {ρ lent : List Nat} {b : Nat} (h : passed G ρ b = false) : ∀ k, inOwn G ρ lent b ≠ .box k := by
 intro k hk
 unfold inOwn at hk
 unfold passed at h
 split at hk
 ·rename_i q hq
  rw [hq] at h
  replace h : inL q ρ = false := h
  have hn : q ∉ ρ := fun hm => by rw [inL_iff.2 hm] at h; cases h
  rw [if_neg hn] at hk
  split at hk <;> cases hk
 ·rename_i x hx
  exact hx k hk
theorem call_back (h : Rel B s a w G) {ρ lent new : List Nat} (hdis : ∀ q ∈ lent, q ∉ ρ) {r : AV} {outs : List Blk} {v : Value} {d : Nat} (hr : Rel { w0 := w, own0 := (inG G ρ lent).own, m := ρ.length, nm0 := (inG G ρ lent).nm } ⟨[r], outs⟩ { tmps := #[v], defers := [] } w' G')
  {nl : Bool} (hnl : nl = true → lent = []) (hnd : (ρ ++ new).Nodup) (hlen : outs.length = (ρ ++ new).length) (hrh : nl = true ∨ r.held = true) (hoh : ∀ k ∈ outs, nl = true ∨ k.held = true) (hrr : ∀ q ∈ r.refs, q < (ρ ++ new).length) (hor : ∀ k ∈ outs, ∀ q ∈ k.refs, q < (ρ ++ new).length)
  (hnew : ∀ q ∈ new, B.m ≤ q ∧ noRefs q [d] new s = true) :
  Rel B (s.aps (blkWs (ρ ++ new) (outs.map (Blk.ren (atIx (ρ ++ new)))) ++ [.put d (r.ren (atIx (ρ ++ new)))])) (a.put (some d) v) w' (outG nl G G' w.heap.size ρ (ρ ++ new)) := by
 generalize hκ : ρ ++ new = κ at *
 have hρκ : ∀ q ∈ ρ, q ∈ κ := fun q hq => by rw [← hκ]; exact List.mem_append_left _ hq
 have hsz : w.heap.size ≤ w'.heap.size := hr.size
 have hold : ∀ b, b < w.heap.size → passed G ρ b = false → (outG nl G G' w.heap.size ρ κ).own b = G.own b ∧ w'.heap[b]? = w.heap[b]? := by
  intro b hb hp
  refine ⟨by simp only [outG]; rw [if_pos ⟨hb, hp⟩], (hr.old b hb (not_passed hp)).2⟩
 have hE : Stay G (outG nl G G' w.heap.size ρ κ) w w' := by
  refine ⟨hsz, fun b t hb hi => ?_⟩
  have hp : passed G ρ b = false := by
   unfold passed
   rcases hi with hi | ⟨_, hi⟩ <;> rw [hi]
  obtain ⟨h1, h2⟩ := hold b hb hp
  refine ⟨?_, h2⟩
  unfold Im
  rw [h1]
  exact hi
 have hixρ : ∀ q ∈ ρ, ixOf κ q = ixOf ρ q := by
  intro q hq
  obtain ⟨hlt, e⟩ := ixOf_spec hq
  have h1 : κ[ixOf ρ q]? = some q := by
   rw [← hκ, List.getElem?_append_left hlt, List.getElem?_eq_getElem hlt, e]
  have h2 := (List.getElem?_eq_some_iff.1 h1).1
  have h3 := ixOf_at hnd h2
  rw [(List.getElem?_eq_some_iff.1 h1).2] at h3
  exact h3
 have hnmρ : ∀ q ∈ ρ, (outG nl G G' w.heap.size ρ κ).nm q = G.nm q := by
  intro q hq
  simp only [outG]
  rw [if_pos (hρκ q hq), hixρ q hq]
  obtain ⟨hlt, e⟩ := ixOf_spec hq
  have := hr.par (ixOf ρ q) hlt
  rw [this]
  exact in_nm (lent := lent) hq
 have hnm : ∀ q, q ∉ new → (outG nl G G' w.heap.size ρ κ).nm q = G.nm q := by
  intro q hq
  by_cases hm : q ∈ ρ
  ·exact hnmρ q hm
  ·simp only [outG]
   rw [if_neg]
   rw [← hκ]
   simp [hm, hq]
 have hback : ∀ b, b < w'.heap.size → G'.own b = .imm → (outG nl G G' w.heap.size ρ κ).own b = .imm ∧ w'.heap[b]? = w'.heap[b]? := by
  intro b hb hi
  refine ⟨?_, rfl⟩
  simp only [outG]
  split
  ·rename_i hc
   have h1 := (hr.old b hc.1 (not_passed hc.2)).1
   rw [hi] at h1
   have h2 : inOwn G ρ lent b = .imm := h1.symm
   unfold inOwn at h2
   split at h2
   ·rename_i q hq
    split at h2
    ·cases h2
    ·split at h2 <;> cases h2
   ·exact h2
  ·rw [hi]; rfl
 have hnm' : ∀ j, j < κ.length → (outG nl G G' w.heap.size ρ κ).nm (atIx κ j) = G'.nm j := by
  intro j hj
  simp only [outG]
  rw [atIx_lt hj, if_pos (List.getElem_mem hj), ixOf_at hnd hj]
 have hin : nl = true → ∀ b, G'.own b = .lent → G.own b = .lent := by
  intro hn b hb
  have h2 : inOwn G ρ lent b = .lent := hr.nl b hb
  rw [hnl hn] at h2
  unfold inOwn at h2
  split at h2
  ·split at h2
   ·cases h2
   ·simp at h2
  ·exact h2
 have hlb : nl = true → ∀ b, G'.own b = .lent → (outG nl G G' w.heap.size ρ κ).own b = .lent := by
  intro hn b hb
  simp only [outG]
  split
  ·exact hin hn b hb
  ·rw [hb, hn]; rfl
 have hV : ∀ {x : AV} {v : Value}, V G' w' true x v → (nl = true ∨ x.held = true) → (∀ q ∈ x.refs, q < κ.length) → V (outG nl G G' w.heap.size ρ κ) w' true (x.ren (atIx κ)) v := by
  intro x v hv hh hq
  rcases hh with hn | hh
  ·refine hv.ren ⟨Nat.le_refl _, fun b t hb hi => ⟨?_, rfl⟩⟩ _ fun q hq' => hnm' q (hq q hq')
   rcases hi with hi | ⟨h1, hi⟩
   ·exact .inl (hback b hb hi).1
   ·exact .inr ⟨h1, hlb hn b hi⟩
  ·exact hv.renH (Nat.le_refl _) hback _ (.inr hh) fun q hq' => hnm' q (hq q hq')
 have hbox : ∀ (b j : Nat), j < κ.length → G'.own b = .box j → (outG nl G G' w.heap.size ρ κ).own b = .box (atIx κ j) := by
  intro b j hj ho
  simp only [outG]
  split
  ·rename_i hc
   have h1 := (hr.old b hc.1 (not_passed hc.2)).1
   rw [ho] at h1
   exact absurd h1.symm (not_passed hc.2 j)
  ·rw [ho]
   simp only [convO]
   rw [if_pos hj]
 have hget := blkWs_get κ (outs.map (Blk.ren (atIx κ))) s hnd (by rw [List.length_map, hlen])
 have hap : s.aps (blkWs κ (outs.map (Blk.ren (atIx κ))) ++ [.put d (r.ren (atIx κ))]) = (s.aps (blkWs κ (outs.map (Blk.ren (atIx κ))))).ap (.put d (r.ren (atIx κ))) := by
  simp [St.aps, List.foldl_append]
 rw [hap]
 generalize hs1 : s.aps (blkWs κ (outs.map (Blk.ren (atIx κ)))) = s1 at hget ⊢
 obtain ⟨hT, hC⟩ := hget
 have hnoT : ∀ q ∈ new, ∀ (i : Nat) (x : AV), s.T[i]? = some x → i ≠ d → q ∉ x.refs := by
  intro q hq i x hx hi
  have h1 := (hnew q hq).2
  simp only [noRefs, Bool.and_eq_true] at h1
  exact noRefT_spec _ _ h1.1 i x hx (by simpa using hi)
 have hnoC : ∀ q ∈ new, ∀ (i : Nat) (k : Blk), s.C[i]? = some k → i ∉ new → q ∉ k.refs := by
  intro q hq i x hx hi
  have h1 := (hnew q hq).2
  simp only [noRefs, Bool.and_eq_true] at h1
  exact noRefC_spec _ _ h1.2 i x hx (by simpa using hi)
 refine ⟨h.defers, ?_, fun i x u hx hu => ?_, fun q k hk => ?_, hr.os.trans h.os, hr.tape.trans h.tape, hr.output.trans h.output, Nat.le_trans h.size hsz, fun k hk => ?_, fun b hb hn => ?_, fun b hb => ?_⟩
 ·simp only [St.ap, List.length_set, hT, put_tmps, Array.size_setIfInBounds]
  exact h.len
 ·simp only [St.ap, List.getElem?_set, hT] at hx
  rw [put_tmps, Array.getElem?_setIfInBounds] at hu
  by_cases e : d = i
  ·subst e
   simp only [if_true] at hx hu
   split at hx
   ·split at hu
    ·injection hx with hx
     injection hu with hu
     subst hx hu
     exact hV (hr.vt 0 r v rfl rfl) hrh hrr
    ·cases hu
   ·cases hx
  ·rw [if_neg e] at hx hu
   exact (h.vt i x u hx hu).upd hE fun q hq => hnm q fun hm => hnoT q hm i x hx (Ne.symm e) hq
 ·replace hk : s1.C[q]? = some k := hk
  rcases hC q k hk with ⟨j, h1, h2⟩ | ⟨h1, h2⟩
  ·have hj : j < κ.length := (List.getElem?_eq_some_iff.1 h1).1
   have hjq : atIx κ j = q := by rw [atIx_lt hj]; exact (List.getElem?_eq_some_iff.1 h1).2
   rw [List.getElem?_map] at h2
   cases ho : outs[j]? with
   | none => rw [ho] at h2; cases h2
   | some k0 =>
     rw [ho] at h2
     injection h2 with h2
     subst h2
     have hmem := List.mem_of_getElem? ho
     have hkh := hoh k0 hmem
     have hkr := hor k0 hmem
     have h0 := hr.vb j k0 ho
     subst hjq
     cases k0 with
     | dead => trivial
     | var cs =>
       obtain ⟨p, h3, h4, h5, vs, h6, h7, h8, h9⟩ := h0
       simp only [Blk.ren, AV.renL_eq]
       have hl : (cs.map (AV.ren (atIx κ))).length = cs.length := List.length_map _
       refine ⟨p, by rw [hnm' j hj, hl]; exact h3, by rw [hl]; exact h4, hbox _ j hj h5, vs, h6, by rw [hl]; exact h7, h8, fun t x v ht hx hv => ?_⟩
       replace hx : (cs.map (AV.ren (atIx κ)))[t]? = some x := hx
       rw [List.getElem?_map] at hx
       cases hc : cs[t]? with
       | none => rw [hc] at hx; cases hx
       | some y =>
         rw [hc] at hx
         injection hx with hx
         subst hx
         exact hV (h9 t y v (by rw [hl] at ht; exact ht) hc hv) (hkh.imp id fun hkh => AV.heldL_mem (by simpa only [Blk.held] using hkh) hc) fun q hq => hkr q (AV.mem_refsL hc hq)
     | tbl zs es pd =>
       obtain ⟨h3, p, h4, h5⟩ := h0
       have := h5.conv (atIx κ) (fun b hb => hbox b j hj hb) (fun x v hx => by
        have h14 := hx.flat rfl
        have := hx.renH (Nat.le_refl _) hback id (.inl rfl) (by rw [h14.1]; simp)
        rwa [h14.2] at this) (fun k r hr => by rw [hnm' r (hkr r (by subst hr; simp [Blk.refs]))])
       cases pd with
       | none => exact ⟨h3, p, by rw [hnm' j hj]; exact h4, this⟩
       | some x => exact ⟨h3, p, by rw [hnm' j hj]; exact h4, this⟩
     | row zs es =>
       obtain ⟨h3, h4, h5, h6⟩ := h0
       refine ⟨h3, h4, by rw [hnm' j hj]; exact h5, ?_⟩
       rcases h6 with ⟨h6, h7⟩ | ⟨p, h6, h7, h8, vs, h9, h10, h11, h12⟩
       ·exact .inl ⟨h6, by rw [hnm' j hj]; exact h7⟩
       ·refine .inr ⟨p, by rw [hnm' j hj]; exact h6, h7, hbox _ j hj h8, vs, h9, h10, h11, fun t x v ht hx hv => ?_⟩
        have h13 := h12 t x v ht hx hv
        have h14 := h13.flat rfl
        have := h13.renH (Nat.le_refl _) hback id (.inl rfl) (by rw [h14.1]; simp)
        rwa [h14.2] at this
  ·have h0 := h.vb q k h2
   have hqρ : q ∉ ρ := fun hm => h1 (hρκ q hm)
   have hqn : q ∉ new := fun hm => h1 (by rw [← hκ]; exact List.mem_append_right _ hm)
   have hpb : ∀ b, G.own b = .box q → passed G ρ b = false := by
    intro b hb
    unfold passed
    rw [hb]
    show inL q ρ = false
    cases hi : inL q ρ with
    | true => exact absurd (inL_iff.1 hi) hqρ
    | false => rfl
   cases k with
   | dead => trivial
   | var cs =>
     obtain ⟨p, h3, h4, h5⟩ := h0
     have hb : p.b < w.heap.size := by obtain ⟨_, vs, hh, _⟩ := h5; exact hh.lt
     obtain ⟨h6, h7⟩ := hold p.b hb (hpb _ h5.1)
     exact ⟨p, by rw [hnm q hqn]; exact h3, h4, h5.upd hE h6 h7 fun t x hx r hr' => hnm r fun hm => hnoC r hm q _ h2 hqn (AV.mem_refsL hx hr')⟩
   | tbl zs es pd =>
     obtain ⟨h3, p, h4, h5⟩ := h0
     exact ⟨h3, p, by rw [hnm q hqn]; exact h4, h5.stays hE (fun b hb ho => by
      obtain ⟨h6, h7⟩ := hold b hb (hpb b ho)
      exact ⟨h6.trans ho, h7⟩) (fun k r hr => hnm r fun hm => hnoC r hm q _ h2 hqn (by subst hr; simp [Blk.refs]))⟩
   | row zs es =>
     obtain ⟨h3, h4, h5, h6⟩ := h0
     refine ⟨h3, h4, by rw [hnm q hqn]; exact h5, ?_⟩
     rcases h6 with ⟨h6, h7⟩ | ⟨p, h6, h7, h8⟩
     ·exact .inl ⟨h6, by rw [hnm q hqn]; exact h7⟩
     ·have hb : p.b < w.heap.size := by obtain ⟨_, vs, hh, _⟩ := h8; exact hh.lt
      obtain ⟨h9, h10⟩ := hold p.b hb (hpb _ h8.1)
      exact .inr ⟨p, by rw [hnm q hqn]; exact h6, h7, h8.flat hE h9 h10⟩
 ·rw [hnm k fun hm => by have := (hnew k hm).1; omega]
  exact h.par k hk
 ·obtain ⟨h1, h2⟩ := h.old b hb hn
  have hp : passed G ρ b = false := by
   unfold passed
   rw [h1]
   split
   ·rename_i q hq; exact absurd hq (hn q)
   ·rfl
  obtain ⟨h3, h4⟩ := hold b (Nat.lt_of_lt_of_le hb h.size) hp
  exact ⟨h3.trans h1, h4.trans h2⟩
 ·apply h.nl
  simp only [outG] at hb
  split at hb
  ·exact hb
  ·cases hO : G'.own b with
   | box j => rw [hO] at hb; simp only [convO] at hb; split at hb <;> cases hb
   | imm => rw [hO] at hb; cases hb
   | lent =>
     rw [hO] at hb
     cases nl with
     | false => cases hb
     | true => exact hin rfl b hO
   | ext => rw [hO] at hb; cases hb
end
end Go.Proofs.Gv
