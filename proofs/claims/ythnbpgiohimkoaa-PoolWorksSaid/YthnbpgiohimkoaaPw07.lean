import Derived.Test.YthnbpgiohimkoaaPw06
import Derived.Laws.Cover3
set_option linter.unusedVariables false
namespace Go.Proofs.Gv
open Go.RowKit
section
variable {P : Program} {a : Act} {w : World} {G : Gh} {o : Oper} {u : List Wr} {rr : Bool} {B : Bs} {s : St}
theorem V.ip_inv {t : Tk} {cs : List AV} {v : Value} (h : V G w rr (.ip t cs) v) : ∃ (b off : Nat) (u : Nat → Value), v = .pointer (some ⟨b, off, none⟩) ∧ b < w.heap.size ∧ Im G.own t b ∧ (rr = false → t = .imm) ∧ (∀ (j : Nat) (x : AV), cs[j]? = some x → w.cell? ⟨b, off + j, none⟩ = some (u j) ∧ (u j).oneCell' = true ∧ V G w false x (u j)) := by
 cases h with
 | ip _ _ _ b off u hr hb hi hcell h => exact ⟨b, off, u, rfl, hb, hi, hr, fun j x hj => ⟨(hcell j x hj).1, (hcell j x hj).2, h j x hj⟩⟩
theorem V.ip_drop {t : Tk} {cs : List AV} {b off : Nat} {u : Nat → Value} (k : Nat) (hr : rr = false → t = .imm) (hb : b < w.heap.size) (hi : Im G.own t b) (h : ∀ (j : Nat) (x : AV), cs[j]? = some x → w.cell? ⟨b, off + j, none⟩ = some (u j) ∧ (u j).oneCell' = true ∧ V G w false x (u j)) :
  V G w rr (.ip t (cs.drop k)) (.pointer (some ⟨b, off + k, none⟩)) := by
 refine .ip _ _ _ _ _ (fun j => u (k + j)) hr hb hi (fun j x hj => ?_) (fun j x hj => ?_)
 ·rw [List.getElem?_drop] at hj
  have := h _ _ hj
  rw [Nat.add_assoc]
  exact ⟨this.1, this.2.1⟩
 ·rw [List.getElem?_drop] at hj
  exact (h _ _ hj).2.2
theorem V.hp_inv {q off : Nat} {v : Value} (h : V G w rr (.hp q off) v) : ∃ p : Pl, (G.nm q).2 = some p ∧ v = .pointer (some ⟨p.b, off, none⟩) := by
 cases h with
 | hp _ _ p hs => exact ⟨p, hs, rfl⟩
theorem V.mt_inv {q off : Nat} {k : Int} {zs : List Kd} {v : Value} (h : V G w rr (.mt q zs k off) v) : ∃ p : Pl, (G.nm q).2 = some p ∧ v = .pointer (some ⟨p.tb k, off, none⟩) := by
 cases h with
 | mt _ _ _ _ p hs => exact ⟨p, hs, rfl⟩
theorem V.ep_inv {q i off : Nat} {zs : List Kd} {v : Value} (h : V G w rr (.ep q zs i off) v) : ∃ p : Pl, (G.nm q).2 = some p ∧ i < (G.nm q).1 ∧ v = .pointer (some ⟨p.b, p.o + i * zs.length + off, none⟩) := by
 cases h with
 | ep _ _ _ _ p hs hi => exact ⟨p, hs, hi, rfl⟩
theorem fieldOf_inv {t : TypeId} {f : Nat} {r : TypeId × Nat × Nat} (h : fieldOf P t f = some r) : ∃ fs x, P.underlying t = some (.struct fs) ∧ fs[f]? = some x ∧ szOf P x.type = some r.2.2 ∧ r.1 = x.type ∧ r.2.1 = x.offset := by
 unfold fieldOf at h
 split at h
 ·rename_i fs hu
  split at h
  ·rename_i x hx
   cases hs : szOf P x.type with
   | none => rw [hs] at h; cases h
   | some n =>
     rw [hs] at h
     simp at h
     subst h
     exact ⟨fs, x, hu, hx, hs, rfl, rfl⟩
  ·cases h
 ·cases h
theorem run_fieldAt {t : TypeId} {f : Nat} {r : TypeId × Nat × Nat} (h : fieldOf P t f = some r) (hn : r.2.2 ≠ 0) (b off : Nat) : (Instr.fieldAt t (.pointer (some ⟨b, off, none⟩)) f).run P w = .ok (.pointer (some ⟨b, off + r.2.1, none⟩)) w := by
 obtain ⟨fs, x, hu, hx, hs, h1, h2⟩ := fieldOf_inv h
 simp [Instr.fieldAt, run_underlying hu, hx, Instr.sureAddr, fieldPlace, szOf_run hs, hn, addr_add, h2]
theorem ok_fieldAddr {t : TypeId} {f : Nat} {x : Operand} {X : AV} (ho : o.op = .fieldAddr t x f) (hx : V G w true X (a.eval x)) (hc : cFieldAddr P o.dst t f X = some (true, u)) : Quiet P o a w G u := by
 unfold cFieldAddr at hc
 split at hc
 ·rename_i r ft off n q q0 hf
  split at hc
  ·cases hc
  ·rename_i hn
   obtain ⟨p, hs, hv⟩ := hx.hp_inv
   refine Quiet.mk1 rfl hc (v := .pointer (some ⟨p.b, q0 + off, none⟩)) ⟨?_, .hp _ _ p hs⟩
   simp [execOp, ho, hv, run_fieldAt hf hn]
 ·rename_i r ft off n q zs i q0 hf
  split at hc
  ·cases hc
  ·rename_i hn
   obtain ⟨p, hs, hi, hv⟩ := hx.ep_inv
   refine Quiet.mk1 rfl hc (v := .pointer (some ⟨p.b, p.o + i * zs.length + (q0 + off), none⟩)) ⟨?_, .ep _ _ _ _ p hs hi⟩
   simp [execOp, ho, hv, run_fieldAt hf hn, Nat.add_assoc]
 ·rename_i r ft off n t' cs hf
  split at hc
  ·cases hc
  ·rename_i hn
   obtain ⟨b, q, uu, hv, hb, hi, hr, hcell⟩ := hx.ip_inv
   refine Quiet.mk1 rfl hc (v := .pointer (some ⟨b, q + off, none⟩)) ⟨?_, V.ip_drop off hr hb hi hcell⟩
   simp [execOp, ho, hv, run_fieldAt hf hn]
 ·rename_i r ft off n s' zs k q0 hf
  split at hc
  ·cases hc
  ·rename_i hn
   obtain ⟨p, hs, hv⟩ := hx.mt_inv
   refine Quiet.mk1 rfl hc (v := .pointer (some ⟨p.tb k, q0 + off, none⟩)) ⟨?_, .mt _ _ _ _ p hs⟩
   simp [execOp, ho, hv, run_fieldAt hf hn]
 ·cases hc
theorem ok_field {t : TypeId} {f : Nat} {x : Operand} {X : AV} (ho : o.op = .field t x f) (hx : V G w true X (a.eval x)) (hc : cField P o.dst t f X = some (true, u)) : Quiet P o a w G u := by
 unfold cField at hc
 split at hc
 ·rename_i r ft off n cs hf
  split at hc
  ·rename_i A hA
   obtain ⟨vs, hv, hl, hvv⟩ := hx.agg_inv
   obtain ⟨v, h1, h2⟩ := partA_ok hA hl hvv
   obtain ⟨fs, y, hu, hy, hs, h3, h4⟩ := fieldOf_inv hf
   simp only at h3 h4
   subst h3 h4
   refine Quiet.mk1 rfl hc (v := v) ⟨?_, h2⟩
   simp [execOp, ho, hv, Instr.field, run_underlying hu, hy, asAgg, h1]
  ·cases hc
 ·cases hc
theorem rowOf_inv {q : Nat} {zs : List Kd} {es : List (List AV)} (h : rowOf s q zs = some es) : s.c q = .row zs es := by
 unfold rowOf at h
 split at h
 ·rename_i zs' es' hq
  split at h
  ·rename_i he
   injection h with h
   subst h
   rw [hq, Kd.eqL_of _ _ he]
  ·cases h
 ·cases h
theorem Rel.row (h : Rel B s a w G) {q : Nat} {zs : List Kd} {es : List (List AV)} (hq : rowOf s q zs = some es) : BlkOK G w q (.row zs es) := by
 have := h.blk q
 rwa [rowOf_inv hq] at this
theorem fitV {zs : List Kd} {xs : List AV} (hok : okRow zs xs = true) {j : Nat} {x y : AV} (hx : (fitRow zs xs)[j]? = some x) (hy : xs[j]? = some y) {v : Value} (hv : V G w rr y v) : V G w rr x v := by
 rw [fitRow_get] at hx
 cases hz : zs[j]? with
 | none => rw [hz] at hx; cases hx
 | some z =>
   rw [hz] at hx
   injection hx with hx
   subst hx
   have e : xs.getD j .junk = y := by simp [List.getD, hy]
   rw [e]
   exact hv.fit (okRow_get zs xs hok j z y hz hy)
theorem ok_indexAddr (h : Rel B s a w G) {t : TypeId} {x i : Operand} {X Y : AV} (ho : o.op = .indexAddr t x i) (hx : V G w true X (a.eval x)) (hi : V G w true Y (a.eval i)) (hc : cIndexAddr P s o.dst t X Y = some (true, u)) : Quiet P o a w G u := by
 unfold cIndexAddr at hc
 split at hc
 ·rename_i e tk zs es k n hu
  split at hc
  ·rename_i hsz
   refine Quiet.mk' (v := .pointer (match a.eval x with | .slice (some ad) _ _ => some (ad.add (n.toNat * zs.length)) | _ => none)) rfl hc (fun hb => ?_)
   simp at hb
   obtain ⟨h0, h1⟩ := hb
   cases hV' : a.eval x with
   | slice A len c =>
     rw [hV'] at hx
     cases hx with
     | slnil => simp at h1; omega
     | sl _ _ _ _ b off _ uu hr hcc hm hbb hii hszz hcell hv =>
       refine ⟨?_, ?_⟩
       ·simp only [execOp, ho, hV', hi.int_inv]
        rw [Sem.run_bind, run_indexAt_slice w t _ _ _ _ _ (by rw [elem_of hu]; exact hu), if_pos ⟨h0, h1⟩, elem_of hu, szOf_run hsz]
        rfl
       ·simp only [addr_add]
        have hlt : n.toNat < es.length := by omega
        have hge : es[n.toNat]? = some es[n.toNat] := List.getElem?_eq_getElem hlt
        have hgd : es.getD n.toNat [] = es[n.toNat] := by simp [List.getD, hge]
        rw [hgd]
        have hok := hszz _ (List.getElem_mem hlt)
        have hlen := okRow_len _ _ hok
        have hget : ∀ (j : Nat) (y : AV), (fitRow zs es[n.toNat])[j]? = some y → ∃ z, (es[n.toNat])[j]? = some z := by
         intro j y hj
         have hj' : j < zs.length := by have := (List.getElem?_eq_some_iff.1 hj).1; rwa [fitRow_len] at this
         exact ⟨_, List.getElem?_eq_getElem (by omega)⟩
        refine .ip _ _ _ _ _ (uu n.toNat) hr hbb hii (fun j y hj => ?_) (fun j y hj => ?_)
        ·obtain ⟨z, hz⟩ := hget j y hj
         exact hcell _ _ _ _ hge hz
        ·obtain ⟨z, hz⟩ := hget j y hj
         exact fitV hok hj hz (hv _ _ _ _ hge hz)
   | _ => rw [hV'] at hx; cases hx
  ·cases hc
 ·rename_i e q zs k n hu
  split at hc
  ·rename_i es hes
   split at hc
   ·rename_i hsz
    have hrow := h.row hes
    obtain ⟨A, c, hv, hc1, _⟩ := hx.rf_slice
    rw [hrow.2.2.1] at hv hc1
    refine Quiet.mk' (v := .pointer (match a.eval x with | .slice (some ad) _ _ => some (ad.add (n.toNat * zs.length)) | _ => none)) rfl hc (fun hb => ?_)
    simp at hb
    obtain ⟨h0, h1⟩ := hb
    cases hx' : a.eval x with
    | slice A len c =>
      rw [hx'] at hx hv
      injection hv with e1 e2 e3
      cases hx with
      | rf _ _ _ _ p hs hn hcc hp hm =>
        refine ⟨?_, ?_⟩
        ·simp only [execOp, ho, hx', hi.int_inv]
         rw [Sem.run_bind, run_indexAt_slice w t _ _ _ _ _ (by rw [elem_of hu]; exact hu), if_pos ⟨h0, by rw [e2]; exact h1⟩, elem_of hu, szOf_run hsz]
         rfl
        ·simp only [addr_add]
         have := V.ep (G := G) (w := w) q zs n.toNat 0 p hs (by rw [hrow.2.2.1]; omega)
         simpa using this
      | rfnil _ _ _ h0 => rw [hrow.2.2.1] at h0; omega
    | _ => rw [hx'] at hx; cases hx
   ·cases hc
  ·cases hc
 ·rename_i e q zs j n0 cp k n hu
  split at hc
  ·rename_i hsz
   refine Quiet.mk' (v := .pointer (match a.eval x with | .slice (some ad) _ _ => some (ad.add (n.toNat * zs.length)) | _ => none)) rfl hc (fun hb => ?_)
   simp at hb
   obtain ⟨h0, h1⟩ := hb
   cases hx' : a.eval x with
   | slice A len c =>
     rw [hx'] at hx
     cases hx with
     | rs _ _ _ _ _ _ p hs hj hn hcp hp hm =>
       refine ⟨?_, ?_⟩
       ·simp only [execOp, ho, hx', hi.int_inv]
        rw [Sem.run_bind, run_indexAt_slice w t _ _ _ _ _ (by rw [elem_of hu]; exact hu), if_pos ⟨h0, h1⟩, elem_of hu, szOf_run hsz]
        rfl
       ·simp only [addr_add]
        have := V.ep (G := G) (w := w) q zs (n.toNat + j) 0 p hs (by omega)
        rw [show p.o + j * zs.length + n.toNat * zs.length = p.o + (n.toNat + j) * zs.length from by rw [Nat.add_mul]; omega]
        simpa using this
     | rsnil => omega
   | _ => rw [hx'] at hx; cases hx
  ·cases hc
 ·rename_i n e q q0 k i' hu
  split at hc
  ·rename_i sz hsz
   split at hc
   ·rename_i hb
    obtain ⟨p, hs, hv⟩ := hx.hp_inv
    refine Quiet.mk1 rfl hc (v := .pointer (some ⟨p.b, q0 + i'.toNat * sz, none⟩)) ⟨?_, .hp _ _ p hs⟩
    have hel : P.elem t = e := by simp [Program.elem, hu]
    have har : P.arrayLen t = n := by simp [Program.arrayLen, hu]
    simp only [execOp, ho, hv, hi.int_inv]
    rw [Sem.run_bind, run_indexAt_array w t _ _ _ (by rw [hel, har]; exact hu), har, if_pos hb, hel, szOf_run hsz]
    simp [addr_add]
   ·cases hc
  ·cases hc
 ·rename_i n e tk cs k i' hu
  split at hc
  ·rename_i sz hsz
   obtain ⟨b, q, uu, hv, hb, hii, hr, hcell⟩ := hx.ip_inv
   refine Quiet.mk' rfl hc (v := .pointer (some ⟨b, q + i'.toNat * sz, none⟩)) (fun hbb => ⟨?_, V.ip_drop _ hr hb hii hcell⟩)
   simp at hbb
   have hel : P.elem t = e := by simp [Program.elem, hu]
   have har : P.arrayLen t = n := by simp [Program.arrayLen, hu]
   simp only [execOp, ho, hv, hi.int_inv]
   rw [Sem.run_bind, run_indexAt_array w t _ _ _ (by rw [hel, har]; exact hu), har, if_pos hbb, hel, szOf_run hsz]
   simp [addr_add]
  ·cases hc
 ·cases hc
theorem ok_index {t : TypeId} {x i : Operand} {X Y : AV} (ho : o.op = .index t x i) (hx : V G w true X (a.eval x)) (hi : V G w true Y (a.eval i)) (hc : cIndex P o.dst t X Y = some (true, u)) : Quiet P o a w G u := by
 unfold cIndex at hc
 split at hc
 ·rename_i l k n hu
  refine Quiet.mk' rfl hc (fun hb => ⟨?_, .int _ _ _⟩)
  simp at hb
  have hlt : n.toNat < l.length := by omega
  simp only [execOp, ho, hx.str_inv, hi.int_inv]
  rw [Sem.run_bind, run_index_string w t _ _ _ hu, dif_pos ⟨hb.1, by rw [str_size]; exact hb.2⟩]
  simp [List.getD, List.getElem?_eq_getElem hlt, ByteArray.getElem_eq_getElem_data]
 ·rename_i n e cs k i' hu
  split at hc
  ·rename_i sz z hag hsz hz
   split at hc
   ·rename_i hg
    simp only [Bool.and_eq_true] at hg
    obtain ⟨hg1, hg2, hg3⟩ := hg
    have hg1 := Nat.eq_of_beq_eq_true hg1
    have hg2 := Nat.eq_of_beq_eq_true hg2
    subst hg1
    obtain ⟨vs, hv, hl, hvv⟩ := hx.agg_inv
    by_cases hb : 0 ≤ i' ∧ i' < (n : Int)
    ·have hlt : i'.toNat < cs.length := by omega
     have hvs : i'.toNat < vs.size := by omega
     have hget : vs[i'.toNat]? = some vs[i'.toNat] := Array.getElem?_eq_getElem hvs
     have h2 := hvv i'.toNat _ _ (List.getElem?_eq_getElem hlt) hget
     have hk : isKind z cs[i'.toNat] = true := by
      have := List.all_eq_true.1 hg3 cs[i'.toNat] (List.getElem_mem hlt)
      exact this
     have e1 : cs.getD i'.toNat .junk = cs[i'.toNat] := by simp [List.getD, List.getElem?_eq_getElem hlt]
     refine Quiet.mk' rfl hc (fun _ => ⟨?_, by rw [e1]; exact h2.fit hk⟩)
     simp only [execOp, ho, hv, hi.int_inv]
     simp [Instr.index, asIntOf, run_underlying hu, hb, szOf_run hsz, part, aggOf_run hag, hget, go_sem]
    ·have : (decide (0 ≤ i') && decide (i' < (n : Int))) = false := by simpa using hb
     obtain ⟨h9, _⟩ := rCond_inv hc
     rw [this] at h9
     cases h9
   ·cases hc
  ·cases hc
 ·cases hc
theorem flatMap_get {α : Type} {sz : Nat} (f : Nat → List α) (hf : ∀ j, (f j).length = sz) : ∀ (n t : Nat), ((List.range n).flatMap f)[t]? = if t < n * sz then (f (t / sz))[t % sz]? else none := by
 intro n
 induction n with
 | zero => intro t; simp
 | succ n ih =>
   intro t
   rw [List.range_succ, List.flatMap_append]
   have hl : ((List.range n).flatMap f).length = n * sz := by
    clear ih
    induction n with
    | zero => simp
    | succ n ih2 => rw [List.range_succ, List.flatMap_append, List.length_append, ih2, Nat.succ_mul]; simp [hf]
   by_cases h1 : t < n * sz
   ·rw [List.getElem?_append_left (by omega), ih, if_pos h1, if_pos (by rw [Nat.succ_mul]; omega)]
   ·rw [List.getElem?_append_right (by omega), hl]
    by_cases h2 : t < (n + 1) * sz
    ·rw [if_pos h2]
     have h3 : t = (t - n * sz) + n * sz := by omega
     have h4 : t - n * sz < sz := by rw [Nat.succ_mul] at h2; omega
     have h5 : t / sz = n := by
      rw [h3, Nat.add_mul_div_right _ _ (by omega), Nat.div_eq_of_lt h4]
      omega
     have h6 : t % sz = t - n * sz := by
      conv => lhs; rw [h3]
      rw [Nat.add_mul_mod_self_right, Nat.mod_eq_of_lt h4]
     rw [h5, h6]
     simp
    ·rw [if_neg h2, List.getElem?_eq_none]
     simp [hf]
     rw [Nat.succ_mul] at h2
     omega
theorem ok_arrPtr {t : TypeId} {x : Operand} {X : AV} (ho : o.op = .sliceToArrayPointer t x) (hx : V G w true X (a.eval x)) (hc : cArrPtr P o.dst t X = some (true, u)) : Quiet P o a w G u := by
 unfold cArrPtr at hc
 split at hc
 ·rename_i n e tk zs es hu
  split at hc
  ·rename_i hsz
   obtain ⟨hsz, hn0⟩ := hsz
   refine Quiet.mk' (v := .pointer (match a.eval x with | .slice A _ _ => A | _ => none)) rfl hc (fun hb => ?_)
   simp at hb
   cases hV' : a.eval x with
   | slice A len c =>
     rw [hV'] at hx
     have hlen : len = es.length := by
      obtain ⟨A', c', e1, _⟩ := hx.sl_slice
      injection e1
     refine ⟨?_, ?_⟩
     ·simp only [execOp, ho, hV']
      rw [Sem.run_bind, run_arrayAt w t e n A len c hu (by omega)]
      rfl
     ·cases hx with
      | slnil => simp at hb; omega
      | sl _ _ _ _ b off _ uu hr hcc hm hbb hii hszz hcell hv =>
        have key : ∀ (j : Nat) (y : AV), ((List.range n).flatMap fun j => fitRow zs (es.getD j []))[j]? = some y → ∃ z, ∃ hlt : j / zs.length < es.length, (es[j / zs.length])[j % zs.length]? = some z ∧ (fitRow zs es[j / zs.length])[j % zs.length]? = some y := by
         intro j y hj
         rw [flatMap_get (sz := zs.length) _ (fun j => fitRow_len _ _)] at hj
         split at hj
         ·rename_i hjn
          have h1 : j / zs.length < n := Nat.div_lt_of_lt_mul (by rw [Nat.mul_comm]; exact hjn)
          have hlt : j / zs.length < es.length := by omega
          have hge : es[j / zs.length]? = some es[j / zs.length] := List.getElem?_eq_getElem hlt
          have hgd : es.getD (j / zs.length) [] = es[j / zs.length] := by simp [List.getD, hge]
          rw [hgd] at hj
          have hok := hszz _ (List.getElem_mem hlt)
          have hl := okRow_len _ _ hok
          have hj' : j % zs.length < zs.length := by have := (List.getElem?_eq_some_iff.1 hj).1; rwa [fitRow_len] at this
          exact ⟨_, hlt, List.getElem?_eq_getElem (by omega), hj⟩
         ·cases hj
        have hidx : ∀ j, off + j / zs.length * zs.length + j % zs.length = off + j := by
         intro j
         have := Nat.div_add_mod j zs.length
         rw [Nat.mul_comm] at this
         omega
        refine .ip _ _ _ _ _ (fun j => uu (j / zs.length) (j % zs.length)) hr hbb hii (fun j y hj => ?_) (fun j y hj => ?_)
        ·obtain ⟨z, hlt, h1, h2⟩ := key j y hj
         have := hcell _ _ _ _ (List.getElem?_eq_getElem hlt) h1
         rw [hidx] at this
         exact this
        ·obtain ⟨z, hlt, h1, h2⟩ := key j y hj
         exact fitV (hszz _ (List.getElem_mem hlt)) h2 h1 (hv _ _ _ _ (List.getElem?_eq_getElem hlt) h1)
   | _ => rw [hV'] at hx; cases hx
  ·cases hc
 ·cases hc
theorem ok_extract {x : Operand} {ix : Nat} {X : AV} (ho : o.op = .extract x ix) (hx : V G w true X (a.eval x)) (hc : cExtract o.dst ix X = some (true, u)) : Quiet P o a w G u := by
 unfold cExtract at hc
 split at hc
 ·rename_i rs
  split at hc
  ·rename_i r hr
   generalize hv : a.eval x = v at hx
   cases hx with
   | tup _ _ vs hl hvv =>
     have hi : ix < rs.length := (List.getElem?_eq_some_iff.1 hr).1
     have hxv : vs[ix]? = some vs[ix] := Array.getElem?_eq_getElem (by omega)
     refine Quiet.mk1 rfl hc (v := vs[ix]) ⟨?_, hvv ix r _ hr hxv⟩
     simp [execOp, ho, hv, Instr.extract, hxv]
  ·cases hc
 ·cases hc
theorem ok_move {x : Operand} {X : AV} (ho : o.op = .move x ∨ o.op = .assign x) (hx : V G w true X (a.eval x)) (hc : rOne o.dst X = some (true, u)) : Quiet P o a w G u := by
 refine Quiet.mk1 rfl hc (v := a.eval x) ⟨?_, hx⟩
 rcases ho with ho | ho <;> simp [execOp, ho]
theorem ok_makeFunc (h : Rel B s a w G) {f : FuncId} {fs cs : Array Operand} (ho : o.op = .makeFunc (.func f) fs cs) (hfs : fs.toList = []) (hc : rOne o.dst (.fn f (cs.toList.map (evalA s.T))) = some (true, u)) : Quiet P o a w G u := by
 have hfs' : fs = #[] := by cases fs; simp_all
 refine Quiet.mk1 rfl hc (v := .func (.func f) #[] (cs.map a.eval)) ⟨?_, .fn _ _ _ _ (by simp) fun i x v hx hv => ?_⟩
 ·simp [execOp, ho, hfs', Instr.makeFunc]
 ·rw [List.getElem?_map] at hx
  rw [Array.getElem?_map] at hv
  cases hci : cs[i]? with
  | none => rw [hci] at hv; cases hv
  | some y =>
    rw [Array.getElem?_toList, hci] at hx
    rw [hci] at hv
    injection hx with hx
    injection hv with hv
    subst hx hv
    exact h.eval y
end
end Go.Proofs.Gv
