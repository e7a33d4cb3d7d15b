import Derived.Test.YthnbpgiohimkoaaPw10
set_option linter.unusedVariables false
namespace Go.Proofs.Gv
open Go.RowKit
section
variable {P : Program} {B : Bs} {s : St} {a : Act} {w w' : World} {G : Gh} {o : Oper} {u : List Wr} {K : Act → World → Prop} {Q : Exit → Act → World → Prop} {idOf : Nat → Option Nat}
def ElsV (G : Gh) (w : World) (sz : Nat) (xs : List (List AV)) (v : Value) : Prop :=
 ∃ A c, v = .slice A xs.length c ∧ (xs ≠ [] → ∃ b off, A = some ⟨b, off, none⟩ ∧ ∀ (i j : Nat) (e : List AV) (x : AV), xs[i]? = some e → e[j]? = some x → ∃ v, w.cell? ⟨b, off + i * sz + j, none⟩ = some v ∧ v.oneCell' = true ∧ V G w false x v)
theorem elsOf_ok (h : Rel B s a w G) {zs : List Kd} {A : AV} {xs : List (List AV)} {v : Value} (hc : elsOf s zs A = some xs) (hv : V G w true A v) : (∀ e ∈ xs, okRow zs e = true) ∧ ElsV G w zs.length xs v := by
 unfold elsOf at hc
 split at hc
 ·rename_i t zs' es
  split at hc
  ·rename_i he
   obtain rfl := Kd.eqL_of _ _ he
   injection hc with hc
   subst hc
   cases hv with
   | slnil _ _ _ A c hA hm _ => exact ⟨by simp, A, c, rfl, fun h => absurd rfl h⟩
   | sl _ _ _ _ b off c uu hr hcc hm hb hi hsz hcell hvv => exact ⟨hsz, _, c, rfl, fun _ => ⟨b, off, rfl, fun i j e x h1 h2 => ⟨uu i j, (hcell i j e x h1 h2).1, (hcell i j e x h1 h2).2, hvv i j e x h1 h2⟩⟩⟩
  ·cases hc
 ·injection hc with hc
  subst hc
  exact ⟨by simp, none, 0, hv.nil_inv, fun h => absurd rfl h⟩
 ·injection hc with hc
  subst hc
  cases hv with
  | nilz _ A => exact ⟨by simp, A, 0, rfl, fun h => absurd rfl h⟩
 ·rename_i q zs'
  split at hc
  ·rename_i he
   obtain rfl := Kd.eqL_of _ _ he
   have hrow := h.row hc
   refine ⟨hrow.1, ?_⟩
   cases hv with
   | rf _ _ n c p hs hn hcc hp hm =>
     rw [hrow.2.2.1] at hn
     subst hn
     refine ⟨_, c, rfl, fun _ => ⟨p.b, p.o, rfl, fun i j e x h1 h2 => ?_⟩⟩
     exact row_cell hrow hs h1 h2
   | rfnil _ _ A h0 =>
     rw [hrow.2.2.1] at h0
     have := List.eq_nil_of_length_eq_zero h0
     subst this
     exact ⟨A, 0, rfl, fun h => absurd rfl h⟩
  ·cases hc
 ·rename_i q zs' i0 n cp
  split at hc
  ·rename_i he
   obtain rfl := Kd.eqL_of _ _ he
   cases hr : rowOf s q zs with
   | none => rw [hr] at hc; cases hc
   | some es =>
     rw [hr] at hc
     injection hc with hc
     subst hc
     have hrow := h.row hr
     refine ⟨fun e he => hrow.1 e (List.mem_of_mem_drop (List.mem_of_mem_take he)), ?_⟩
     cases hv with
     | rs _ _ _ _ _ c p hs hi hn hcp hp hm =>
       rw [hrow.2.2.1] at hi
       have hl : ((es.drop i0).take n).length = n := by simp; omega
       refine ⟨_, c, by rw [hl], fun _ => ⟨p.b, p.o + i0 * zs.length, rfl, fun i j e x h1 h2 => ?_⟩⟩
       rw [List.getElem?_take] at h1
       split at h1
       ·rw [List.getElem?_drop] at h1
        have := row_cell hrow hs h1 h2
        rwa [Nat.add_mul, ← Nat.add_assoc] at this
       ·cases h1
     | rsnil _ _ _ _ _ A hi hn hcp =>
       subst hn
       exact ⟨A, 0, by simp, fun h => absurd (by simp) h⟩
  ·cases hc
 ·cases hc
theorem ElsV.cells {sz : Nat} (hsz : 0 < sz) {xs : List (List AV)} {v : Value} (h : ElsV G w sz xs v) (hl : ∀ e ∈ xs, e.length = sz) : ∃ (A : Option Addr) (c : Nat) (news : List Value), v = .slice A xs.length c ∧ news.length = xs.length * sz ∧ (∀ v ∈ news, v.oneCell' = true) ∧
  (∀ (t : Nat) (x : AV) (v : Value), flatF sz xs t = some x → news[t]? = some v → V G w false x v) ∧ (xs ≠ [] → ∃ b off, A = some ⟨b, off, none⟩ ∧ ∀ (j : Nat) (v : Value), news[j]? = some v → w.cell? ⟨b, off + j, none⟩ = some v) := by
 obtain ⟨A, c, hv, hx⟩ := h
 by_cases hne : xs = []
 ·subst hne
  exact ⟨A, c, [], hv, by simp, by simp, by simp [flatF], fun h => absurd rfl h⟩
 ·obtain ⟨b, off, hA, hcell⟩ := hx hne
  have key : ∀ t, t < xs.length * sz → ∃ x v, flatF sz xs t = some x ∧ w.cell? ⟨b, off + t, none⟩ = some v ∧ v.oneCell' = true ∧ V G w false x v := by
   intro t ht
   have hi : t / sz < xs.length := Nat.div_lt_of_lt_mul (by rw [Nat.mul_comm]; exact ht)
   have hj : t % sz < sz := Nat.mod_lt _ hsz
   have he := List.getElem?_eq_getElem hi
   have hel : (xs[t / sz]).length = sz := hl _ (List.getElem_mem hi)
   have hx := List.getElem?_eq_getElem (show t % sz < (xs[t / sz]).length by omega)
   obtain ⟨v, h1, h2, h3⟩ := hcell _ _ _ _ he hx
   have hk : off + t / sz * sz + t % sz = off + t := by
    have := Nat.div_add_mod t sz
    rw [Nat.mul_comm] at this
    omega
   rw [hk] at h1
   refine ⟨_, v, ?_, h1, h2, h3⟩
   unfold flatF
   rw [he]
   exact hx
  refine ⟨A, c, (List.range (xs.length * sz)).map fun t => (w.cell? ⟨b, off + t, none⟩).getD undef, hv, by simp, fun v hv => ?_, fun t x v hx hv => ?_, fun _ => ⟨b, off, hA, fun j v hv => ?_⟩⟩
  ·obtain ⟨t, ht, rfl⟩ := List.mem_map.1 hv
   obtain ⟨x, v, h1, h2, h3, _⟩ := key t (List.mem_range.1 ht)
   simp only [h2, Option.getD_some]
   exact h3
  ·have ht : t < xs.length * sz := by have := (List.getElem?_eq_some_iff.1 hv).1; simpa using this
   obtain ⟨x', v', h1, h2, h3, h4⟩ := key t ht
   rw [h1] at hx
   injection hx with hx
   subst hx
   simp [ht] at hv
   rw [h2] at hv
   simp at hv
   subst hv
   exact h4
  ·have ht : j < xs.length * sz := by have := (List.getElem?_eq_some_iff.1 hv).1; simpa using this
   obtain ⟨x', v', h1, h2, h3, h4⟩ := key j ht
   simp [ht] at hv
   rw [h2] at hv ⊢
   simpa using hv
theorem okRow_lens {zs : List Kd} {xs : List (List AV)} (h : ∀ e ∈ xs, okRow zs e = true) : ∀ e ∈ xs, e.length = zs.length := fun e he => okRow_len _ _ (h e he)
theorem flatF_map_ofB (l : List UInt8) (t : Nat) (x : AV) (h : flatF 1 (l.map ofB) t = some x) : ∃ b, l[t]? = some b ∧ x = .int .u8 (b.toNat : Int) := by
 unfold flatF at h
 rw [Nat.div_one, Nat.mod_one, List.getElem?_map] at h
 cases hb : l[t]? with
 | none => rw [hb] at h; cases h
 | some b =>
   rw [hb] at h
   simp [ofB] at h
   exact ⟨b, rfl, h.symm⟩
theorem srcOf_ok (h : Rel B s a w G) {t u' : TypeId} {e : TypeId} (ht : P.underlying t = some (.slice e)) {zs : List Kd} (hz : 0 < zs.length) {A : AV} {xs : List (List AV)} {v : Value} (hc : srcOf P s t u' zs A = some xs) (hv : V G w true A v) :
  (∀ e ∈ xs, okRow zs e = true) ∧ ∃ news, Src P u' zs.length v xs.length news w ∧ (∀ v ∈ news, v.oneCell' = true) ∧ (∀ (t : Nat) (x : AV) (v : Value), flatF zs.length xs t = some x → news[t]? = some v → V G w false x v) := by
 unfold srcOf at hc
 split at hc
 ·rename_i htu
  subst htu
  obtain ⟨h1, h2⟩ := elsOf_ok h hc hv
  obtain ⟨A, c, news, rfl, hl, ho, hvv, hcell⟩ := h2.cells hz (okRow_lens h1)
  refine ⟨h1, news, ⟨.inl ⟨e, ht⟩, fun w' => rfl, fun w' hw' => ?_, hl⟩, ho, hvv⟩
  by_cases hne : xs = []
  ·subst hne
   have : news = [] := List.eq_nil_of_length_eq_zero (by simpa using hl)
   subst this
   cases A with
   | none => rfl
   | some b => exact run_firstCells_some (P := P) w' zs.length 0 b 0 c [] (by simp) (by simp)
  ·obtain ⟨b, off, rfl, hcl⟩ := hcell hne
   refine run_firstCells_some (P := P) w' zs.length xs.length ⟨b, off, none⟩ xs.length c news hl fun j v hj => ?_
   rw [addr_add]
   have := hcl j v hj
   unfold World.cell? at this ⊢
   rw [hw']
   exact this
 ·split at hc
  ·rename_i l hu
   split at hc
   ·rename_i he
    obtain rfl := Kd.eqL_of _ _ he
    injection hc with hc
    subst hc
    refine ⟨fun e he => ?_, Lib.strCells ⟨l.toArray⟩, ⟨.inr hu, fun w' => ?_, fun w' _ => ?_, ?_⟩, Lib.strCells_oneCell _, fun t x v hx hvx => ?_⟩
    ·obtain ⟨b, _, rfl⟩ := List.mem_map.1 he
     rfl
    ·rw [hv.str_inv]
     simp [Builtin.lenOf, str_size]
    ·rw [hv.str_inv]
     have := Lib.run_firstCells_string (P := P) w' 1 ⟨l.toArray⟩
     rw [str_size] at this
     simpa using this
    ·rw [Lib.strCells_length, str_size]; simp
    ·obtain ⟨b, hb, rfl⟩ := flatF_map_ofB l t x hx
     have : v = .int .u8 (b.toNat : Int) := by
      simp [Lib.strCells, hb] at hvx
      exact hvx.symm
     subst this
     exact .int _ _ _
   ·cases hc
  ·cases hc
theorem kindE_inv {e : TypeId} {zs : List Kd} (h : kindE P e = some zs) : szOf P e = some zs.length ∧ 0 < zs.length := by
 unfold kindE at h
 split at h
 ·rename_i zs' n h1 h2
  split at h
  ·rename_i hb
   simp only [Bool.and_eq_true] at hb
   injection h with h
   subst h
   have e1 := Nat.eq_of_beq_eq_true hb.1
   have e2 : 0 < n := by simpa using hb.2
   subst e1
   exact ⟨h2, e2⟩
  ·cases h
 ·cases h
theorem roomOk_inv {n b : Nat} (h : roomOk n b = true) : n * b ≤ 140737488355328 ∧ n ≤ maxLen := by
 simp only [roomOk, Bool.and_eq_true, decide_eq_true_eq] at h
 refine ⟨h.1, ?_⟩
 simp only [maxLen]
 omega
theorem zero_of {e : TypeId} {i : TypeInfo} {zs : List Kd} (hi : P.info? e = some i) (hk : kindE P e = some zs) : i.size = zs.length := by
 have := (kindE_inv hk).1
 unfold szOf at this
 rw [hi] at this
 simpa using this
theorem join_flat {sz : Nat} {es xs : List (List AV)} {c1 c2 tail : List Value} (hl : ∀ e ∈ es, e.length = sz) (hsz : 0 < sz) (h1 : c1.length = es.length * sz)
  (hv1 : ∀ (t : Nat) (x : AV) (v : Value), flatF sz es t = some x → c1[t]? = some v → V G w false x v) (hc2 : c2.length = xs.length * sz) (hv2 : ∀ (t : Nat) (x : AV) (v : Value), flatF sz xs t = some x → c2[t]? = some v → V G w false x v) :
  ∀ (t : Nat) (x : AV) (v : Value), flatF sz (es ++ xs) t = some x → (c1 ++ c2 ++ tail)[t]? = some v → V G w false x v := by
 intro t x v hx hv
 obtain ⟨e, he, hex⟩ := flatF_inv hx
 have hmod := Nat.mod_lt t hsz
 by_cases ht : t < es.length * sz
 ·have hi : t / sz < es.length := Nat.div_lt_of_lt_mul (by rw [Nat.mul_comm]; exact ht)
  rw [List.getElem?_append_left hi] at he
  rw [List.append_assoc, List.getElem?_append_left (by omega)] at hv
  refine hv1 t x v ?_ hv
  unfold flatF
  rw [he]
  exact hex
 ·have hi : es.length ≤ t / sz := (Nat.le_div_iff_mul_le hsz).2 (by omega)
  rw [List.getElem?_append_right hi] at he
  have hlt : t / sz - es.length < xs.length := (List.getElem?_eq_some_iff.1 he).1
  have ht2 : t - es.length * sz < xs.length * sz := by
   have h3 : t / sz < es.length + xs.length := by omega
   have h4 : t < (es.length + xs.length) * sz := (Nat.div_lt_iff_lt_mul hsz).1 h3
   rw [Nat.add_mul] at h4
   omega
  rw [List.append_assoc, List.getElem?_append_right (by omega), h1, List.getElem?_append_left (by omega)] at hv
  refine hv2 _ x v ?_ hv
  have e1 : (t - es.length * sz) / sz = t / sz - es.length := by rw [Nat.mul_comm, Nat.sub_mul_div]
  have e2 : (t - es.length * sz) % sz = t % sz := by
   have h5 := Nat.div_add_mod t sz
   have h6 := Nat.div_add_mod (t - es.length * sz) sz
   rw [e1] at h6
   have h7 : sz * (t / sz - es.length) = sz * (t / sz) - sz * es.length := Nat.mul_sub _ _ _
   have h8 : sz * es.length ≤ sz * (t / sz) := Nat.mul_le_mul_left _ hi
   rw [Nat.mul_comm es.length sz] at *
   omega
  unfold flatF
  rw [e1, e2, he]
  exact hex
end
end Go.Proofs.Gv
