import Derived.Test.YthnbpgiohimkoaaPw08
set_option linter.unusedVariables false
namespace Go.Proofs.Gv
open Go.RowKit
theorem wp_val {P : Program} {o : Oper} {a : Act} {w w' : World} {v : Value} {K : Act → World → Prop} {Q : Exit → Act → World → Prop} (h : (execOp a.eval o).run P w = .ok (.value v) w') (hK : K (a.put o.dst v) w') : o.wp P a w K Q := by
 unfold Oper.wp
 rw [h]
 exact hK
theorem wp_skip' {P : Program} {o : Oper} {a : Act} {w w' : World} {K : Act → World → Prop} {Q : Exit → Act → World → Prop} (h : (execOp a.eval o).run P w = .ok .skip w') (hK : K (a.put o.dst undef) w') : o.wp P a w K Q := by
 unfold Oper.wp
 rw [h]
 exact hK
theorem inL_iff {i : Nat} {l : List Nat} : inL i l = true ↔ i ∈ l := by
 unfold inL
 rw [List.any_eq_true]
 exact ⟨fun ⟨x, hx, h⟩ => Nat.eq_of_beq_eq_true h ▸ hx, fun h => ⟨i, h, Nat.beq_refl i⟩⟩
theorem noRefT_spec {d : Nat} {ex : List Nat} : ∀ (T : List AV) (k : Nat), noRefT d ex k T = true → ∀ (i : Nat) (x : AV), T[i]? = some x → k + i ∉ ex → d ∉ x.refs := by
 intro T
 induction T with
 | nil => intro k _ i x h; cases h
 | cons y T ih =>
   intro k h i x hx hn
   simp only [noRefT, Bool.and_eq_true, Bool.or_eq_true, Bool.not_eq_true'] at h
   cases i with
   | zero =>
     simp at hx
     subst hx
     rcases h.1 with h1 | h1
     ·exact absurd (inL_iff.1 h1) hn
     ·exact fun hm => by rw [inL_iff.2 hm] at h1; cases h1
   | succ i => exact ih (k + 1) h.2 i x (by simpa using hx) (by rw [show k + 1 + i = k + (i + 1) from by omega]; exact hn)
theorem noRefC_spec {d : Nat} {ex : List Nat} : ∀ (T : List Blk) (k : Nat), noRefC d ex k T = true → ∀ (i : Nat) (x : Blk), T[i]? = some x → k + i ∉ ex → d ∉ x.refs := by
 intro T
 induction T with
 | nil => intro k _ i x h; cases h
 | cons y T ih =>
   intro k h i x hx hn
   simp only [noRefC, Bool.and_eq_true, Bool.or_eq_true, Bool.not_eq_true'] at h
   cases i with
   | zero =>
     simp at hx
     subst hx
     rcases h.1 with h1 | h1
     ·exact absurd (inL_iff.1 h1) hn
     ·exact fun hm => by rw [inL_iff.2 hm] at h1; cases h1
   | succ i => exact ih (k + 1) h.2 i x (by simpa using hx) (by rw [show k + 1 + i = k + (i + 1) from by omega]; exact hn)
structure NewBlk (w w' : World) (cs : Array Value) (e : TypeId) : Prop where
 os : w'.os = w.os
 tape : w'.tape = w.tape
 output : w'.output = w.output
 size : w'.heap.size = w.heap.size + 1
 heap : ∀ b, b < w.heap.size → w'.heap[b]? = w.heap[b]?
 new : ∃ fz, w'.heap[w.heap.size]? = some (.cells cs e fz) ∧ FzOK fz cs.size
theorem NewBlk.alloc (w : World) (cs : Array Value) (e : TypeId) : NewBlk w (w.alloc (.cells cs e)) cs e :=
 ⟨rfl, rfl, rfl, by simp, fun b hb => Below.heap_alloc w _ b hb, _, heap_alloc_new w _, .inl rfl⟩
theorem NewBlk.drew (w : World) (cs : Array Value) (e : TypeId) : NewBlk w (w.drew.alloc (.cells cs e)) cs e :=
 ⟨rfl, rfl, rfl, by simp, fun b hb => Below.heap_alloc w.drew _ b hb, _, heap_alloc_new w.drew _, .inl rfl⟩
theorem NewBlk.at {w w' : World} {cs : Array Value} {e : TypeId} (h : NewBlk w w' cs e) : BlkAt w' w.heap.size cs := by
 obtain ⟨fz, h1, h2⟩ := h.new
 exact ⟨e, fz, h1, h2⟩
section
variable {P : Program} {B : Bs} {s : St} {a : Act} {w w' : World} {G : Gh} {o : Oper} {u : List Wr} {K : Act → World → Prop} {Q : Exit → Act → World → Prop} {idOf : Nat → Option Nat}
theorem Quiet.step (hq : Quiet P o a w G u) (h : Rel B s a w G) (hK : ∀ a' w' G', Rel B (s.aps u) a' w' G' → K a' w') : o.wp P a w K Q := by
 obtain ⟨d, x, v, hd, rfl, hr, hv⟩ := hq
 refine wp_val hr (hK _ _ G ?_)
 rw [hd]
 exact h.put d x v hv
def ownAt (G : Gh) (b : Nat) (O : Owner) : Gh := { G with own := fun n => if n = b then O else G.own n }
def nmAt (G : Gh) (q : Nat) (N : Nat × Option Pl) : Gh := { G with nm := fun n => if n = q then N else G.nm n }
theorem Stay.nm (G : Gh) (w : World) (q : Nat) (N : Nat × Option Pl) : Stay G (nmAt G q N) w w := ⟨Nat.le_refl _, fun _ _ _ h => ⟨h, rfl⟩⟩
theorem NewBlk.grow {cs : Array Value} {e : TypeId} (h : NewBlk w w' cs e) (G : Gh) (O : Owner) (hO : O ≠ .lent := by intro h; cases h) : Grow w w' G (ownAt G w.heap.size O) :=
 ⟨h.os, h.tape, h.output, by rw [h.size]; omega, h.heap, fun b hb => by
  show (if b = w.heap.size then O else G.own b) = _
  rw [if_neg (by omega)], rfl, fun b hb => by
  replace hb : (if b = w.heap.size then O else G.own b) = .lent := hb
  split at hb
  ·exact absurd hb hO
  ·exact hb⟩
def RowV (G : Gh) (w w' : World) (zs : List Kd) (es : List (List AV)) (v : Value) : Prop :=
 (∃ c vs e, NewBlk w w' vs e ∧ v = .slice (some ⟨w.heap.size, 0, none⟩) es.length c ∧ es.length ≤ c ∧ c ≤ maxLen ∧ c * zs.length ≤ vs.size ∧ (∀ v ∈ vs, v.oneCell' = true) ∧ ∀ (t : Nat) (x : AV) (v : Value), flatF zs.length es t = some x → vs[t]? = some v → V G w false x v) ∨
   (es = [] ∧ (∃ A, v = .slice A 0 0) ∧ w' = w)
theorem flatF_inv {sz : Nat} {es : List (List AV)} {t : Nat} {x : AV} (h : flatF sz es t = some x) : ∃ e, es[t / sz]? = some e ∧ e[t % sz]? = some x := by
 unfold flatF at h
 cases he : es[t / sz]? with
 | none => rw [he] at h; cases h
 | some e => rw [he] at h; exact ⟨e, rfl, h⟩
theorem slOf' {vs : Array Value} {b c o : Nat} {t : Tk} {zs : List Kd} {es : List (List AV)} {rr : Bool} (hh : BlkAt w b vs) (hi : Im G.own t b) (hr : rr = false → t = .imm) (hc : es.length ≤ c) (hm : c ≤ maxLen) (hsz : o + c * zs.length ≤ vs.size) (hone : ∀ v ∈ vs, v.oneCell' = true)
  (hok : ∀ e ∈ es, okRow zs e = true) (hv : ∀ (t : Nat) (x : AV) (v : Value), flatF zs.length es t = some x → vs[o + t]? = some v → V G w false x v) : V G w rr (.sl t zs es) (.slice (some ⟨b, o, none⟩) es.length c) := by
 have key : ∀ (i j : Nat) (e : List AV) (x : AV), es[i]? = some e → e[j]? = some x → ∃ v, vs[o + (i * zs.length + j)]? = some v ∧ flatF zs.length es (i * zs.length + j) = some x := by
  intro i j e x hi hj
  have hil : i < es.length := (List.getElem?_eq_some_iff.1 hi).1
  have hjl : j < zs.length := by
   have := (List.getElem?_eq_some_iff.1 hj).1
   rwa [okRow_len _ _ (hok e (List.mem_of_getElem? hi))] at this
  have hlt := Nat.lt_of_lt_of_le (idx_lt hil hjl) (Nat.mul_le_mul_right zs.length hc)
  refine ⟨_, Array.getElem?_eq_getElem (by omega), ?_⟩
  rw [flatF_at hjl, hi]
  exact hj
 refine .sl rr t zs es b o c (fun i j => (vs[o + (i * zs.length + j)]?).getD undef) hr hc hm hh.lt hi hok (fun i j e x hi hj => ?_) (fun i j e x hi hj => ?_)
 ·obtain ⟨v, h1, h2⟩ := key i j e x hi hj
  rw [Nat.add_assoc]
  refine ⟨by rw [hh.cell]; simp only [h1, Option.getD_some], ?_⟩
  simp only [h1, Option.getD_some]
  exact hone v (Array.mem_of_getElem? h1)
 ·obtain ⟨v, h1, h2⟩ := key i j e x hi hj
  simp only [h1, Option.getD_some]
  exact hv _ x v h2 h1
theorem slOf {vs : Array Value} {b c : Nat} {t : Tk} {zs : List Kd} {es : List (List AV)} {rr : Bool} (hh : BlkAt w b vs) (hi : Im G.own t b) (hr : rr = false → t = .imm) (hc : es.length ≤ c) (hm : c ≤ maxLen) (hsz : c * zs.length ≤ vs.size) (hone : ∀ v ∈ vs, v.oneCell' = true)
  (hok : ∀ e ∈ es, okRow zs e = true) (hv : ∀ (t : Nat) (x : AV) (v : Value), flatF zs.length es t = some x → vs[t]? = some v → V G w false x v) : V G w rr (.sl t zs es) (.slice (some ⟨b, 0, none⟩) es.length c) :=
 slOf' hh hi hr hc hm (by rwa [Nat.zero_add]) hone hok fun t x v hx hy => hv t x v hx (by rwa [Nat.zero_add] at hy)
theorem Rel.congr {s' : St} (h : Rel B s a w G) (e : s' = s) : Rel B s' a w G := e ▸ h
theorem Rel.fresh (h : Rel B s a w G) {q : Nat} (hq : B.m ≤ q) {ex : List Nat} (hno : noRefs q ex [q] s = true) (N : Nat × Option Pl) : Rel B ⟨ex.foldl (fun T i => T.set i .junk) s.T, s.C.set q .dead⟩ a w (nmAt G q N) := by
 simp only [noRefs, Bool.and_eq_true] at hno
 have hT := noRefT_spec _ _ hno.1
 have hC := noRefC_spec _ _ hno.2
 have hj : ∀ (ex : List Nat) (s : St), Rel B s a w G → Rel B ⟨ex.foldl (fun T i => T.set i .junk) s.T, s.C⟩ a w G := by
  intro ex
  induction ex with
  | nil => intro s h; exact h
  | cons i ex ih => intro s h; exact ih (s.ap (.put i .junk)) (h.junk i)
 have h1 := (hj ex s h).kill q
 have hget : ∀ (ex : List Nat) (T : List AV) (i : Nat) (x : AV), (ex.foldl (fun T i => T.set i .junk) T)[i]? = some x → x = .junk ∨ (i ∉ ex ∧ T[i]? = some x) := by
  intro ex
  induction ex with
  | nil => intro T i x h; exact .inr ⟨by simp, h⟩
  | cons k ex ih =>
    intro T i x h
    rcases ih _ i x h with h1 | ⟨h1, h2⟩
    ·exact .inl h1
    ·rw [List.getElem?_set] at h2
     by_cases e : k = i
     ·rw [if_pos e] at h2
      split at h2
      ·injection h2 with h2; exact .inl h2.symm
      ·cases h2
     ·rw [if_neg e] at h2
      exact .inr ⟨by simp [h1, Ne.symm e], h2⟩
 refine h1.rename q N hq (fun i x hx => ?_) (fun d k hk => ?_) ?_
 ·rcases hget ex s.T i x hx with rfl | ⟨h2, h3⟩
  ·simp [AV.refs]
  ·exact hT i x h3 (by simpa using h2)
 ·simp only [St.ap, List.getElem?_set] at hk
  by_cases e : q = d
  ·rw [if_pos e] at hk
   split at hk
   ·injection hk with hk; subst hk; simp [Blk.refs]
   ·cases hk
  ·rw [if_neg e] at hk
   exact hC d k hk (by simp [Ne.symm e])
 ·simp only [St.c, St.ap, List.getD_eq_getElem?_getD, List.getElem?_set]
  simp only [if_true]
  split <;> rfl
theorem newRow_inv {b : Bool} {d : Option Nat} {zs : List Kd} {es : List (List AV)} (h : newRow idOf s b d zs es = some (true, u)) : b = true ∧ ∃ d', d = some d' ∧ ((∃ q, idOf d' = some q ∧ noRefs q [d'] [q] s = true ∧ u = [.blk q (.row zs es), .put d' (.rf q zs)]) ∨ (idOf d' = none ∧ u = [.put d' (.sl .imm zs es)])) := by
 unfold newRow at h
 split at h
 ·rename_i d'
  split at h
  ·rename_i q hq
   split at h
   ·rename_i hn
    injection h with h
    injection h with h1 h2
    exact ⟨h1, d', rfl, .inl ⟨q, hq, hn, h2.symm⟩⟩
   ·cases h
  ·rename_i hq
   injection h with h
   injection h with h1 h2
   exact ⟨h1, d', rfl, .inr ⟨hq, h2.symm⟩⟩
 ·cases h
theorem newRow_ok (hid : ∀ d q, idOf d = some q → B.m ≤ q) (h : Rel B s a w G) {b : Bool} {d : Option Nat} {zs : List Kd} {es : List (List AV)} {v : Value} (hc : newRow idOf s b d zs es = some (true, u)) (hz : 0 < zs.length) (hok : ∀ e ∈ es, okRow zs e = true) (hr : RowV G w w' zs es v) :
  ∃ d' G', d = some d' ∧ Rel B (s.aps u) (a.put (some d') v) w' G' := by
 obtain ⟨_, d', rfl, hcase⟩ := newRow_inv hc
 rcases hcase with ⟨q, hq, hno, rfl⟩ | ⟨hq, rfl⟩
 ·rcases hr with ⟨c, vs, e, hw, rfl, h1, h2, h3, h4, h5⟩ | ⟨rfl, ⟨A, rfl⟩, rfl⟩
  ·have hg := h.grow (hw.grow G (.box q))
   have hf := hg.fresh (hid _ _ hq) hno (es.length, some ⟨w.heap.size, c, 0, fun _ => 0⟩)
   have hb : BlkOK (nmAt (ownAt G w.heap.size (.box q)) q (es.length, some ⟨w.heap.size, c, 0, fun _ => 0⟩)) w' q (.row zs es) := by
    refine ⟨hok, hz, by simp [nmAt], .inr ⟨⟨w.heap.size, c, 0, fun _ => 0⟩, by simp [nmAt], h1, by simp [nmAt, ownAt], vs, hw.at, by rw [Nat.zero_add]; exact h3, h4, fun t x v ht hx hv => ?_⟩⟩
    rw [flatO_zero] at hx
    have hV := h5 t x v hx hv
    exact hV.upd ((hw.grow G (.box q)).stay.trans (Stay.nm _ _ q _)) (by rw [(hV.flat rfl).1]; simp)
   have h6 := (hf.setB q _ hb).put d' (.rf q zs) (.slice (some ⟨w.heap.size, 0, none⟩) es.length c) (.rf q zs es.length c ⟨w.heap.size, c, 0, fun _ => 0⟩ (by simp [nmAt]) (by simp [nmAt]) h1 (Nat.le_refl _) h2)
   exact ⟨d', _, rfl, h6.congr (by simp [St.aps, St.ap])⟩
  ·have hf := h.fresh (hid _ _ hq) hno (0, none)
   have h6 := (hf.setB q (.row zs []) ⟨by simp, hz, by simp [nmAt], .inl ⟨rfl, by simp [nmAt]⟩⟩).put d' (.rf q zs) (.slice A 0 0) (.rfnil q zs A (by simp [nmAt]))
   exact ⟨d', _, rfl, h6.congr (by simp [St.aps, St.ap])⟩
 ·rcases hr with ⟨c, vs, e, hw, rfl, h1, h2, h3, h4, h5⟩ | ⟨rfl, ⟨A, rfl⟩, rfl⟩
  ·have hgr := hw.grow G .imm
   have hg := h.grow hgr
   refine ⟨d', _, rfl, hg.put d' (.sl .imm zs es) _ (slOf hw.at (.inl (by simp [ownAt])) (fun _ => rfl) h1 h2 h3 h4 hok fun t x v hx hv => ?_)⟩
   have hV := h5 t x v hx hv
   exact hV.upd hgr.stay (by rw [(hV.flat rfl).1]; simp)
  ·exact ⟨d', _, rfl, h.put d' (.sl .imm zs []) _ (.slnil _ _ _ _ _ (fun _ => rfl) (by simp [maxLen]) (fun h => by cases h))⟩
theorem run_newVar (P : Program) (w : World) (t : TypeId) (v : Value) : (Go.newVar t v).run P w = .ok ⟨w.heap.size, 0, none⟩ (w.alloc (.cells v.cells t)) := by
 simp [Go.newVar, Go.newRow]
theorem newVar_ok (hid : ∀ d q, idOf d = some q → B.m ≤ q) (h : Rel B s a w G) {d : Option Nat} {cs : List AV} {vs : Array Value} {e : TypeId} (hc : newVar idOf s d cs = some (true, u)) (hw : NewBlk w w' vs e) (hcs : CellsR G w true cs vs) (hone : ∀ v ∈ vs, v.oneCell' = true) :
  ∃ d' G', d = some d' ∧ Rel B (s.aps u) (a.put (some d') (.pointer (some ⟨w.heap.size, 0, none⟩))) w' G' := by
 unfold newVar at hc
 split at hc
 ·rename_i d'
  split at hc
  ·rename_i q hq
   split at hc
   ·rename_i hn
    simp only [Bool.and_eq_true, Bool.not_eq_true'] at hn
    obtain ⟨hno, hself⟩ := hn
    injection hc with hc
    injection hc with _ hc
    subst hc
    have hg := h.grow (hw.grow G (.box q))
    have hf := hg.fresh (hid _ _ hq) hno (cs.length, some ⟨w.heap.size, cs.length, 0, fun _ => 0⟩)
    have hb : BlkOK (nmAt (ownAt G w.heap.size (.box q)) q (cs.length, some ⟨w.heap.size, cs.length, 0, fun _ => 0⟩)) w' q (.var cs) := by
     refine ⟨⟨w.heap.size, cs.length, 0, fun _ => 0⟩, by simp [nmAt], ⟨rfl, rfl⟩, by simp [nmAt, ownAt], vs, hw.at, by rw [hcs.1]; exact Nat.le_refl _, hone, fun t x v ht hx hv => ?_⟩
     have hV := (hcs.2 t x v hx hv).1
     refine hV.upd ((hw.grow G (.box q)).stay.trans (Stay.nm _ _ q _)) fun r hr => ?_
     have hne : r ≠ q := by
      rintro rfl
      have := AV.mem_refsL hx hr
      rw [inL_iff.2 this] at hself
      cases hself
     simp [nmAt, ownAt, hne]
    have h6 := (hf.setB q _ hb).put d' (.hp q 0) (.pointer (some ⟨w.heap.size, 0, none⟩)) (.hp q 0 ⟨w.heap.size, cs.length, 0, fun _ => 0⟩ (by simp [nmAt]))
    exact ⟨d', _, rfl, h6.congr (by simp [St.aps, St.ap])⟩
   ·cases hc
  ·cases hc
 ·cases hc
theorem CellsR.one {cs : List AV} {vs : Array Value} {rr : Bool} (h : CellsR G w rr cs vs) : ∀ v ∈ vs, v.oneCell' = true := by
 intro v hv
 obtain ⟨i, hi⟩ := List.getElem?_of_mem (Array.mem_toList_iff.2 hv)
 have hi' : i < cs.length := by have := (List.getElem?_eq_some_iff.1 hi).1; have := h.1; simp at *; omega
 exact (h.2 i cs[i] v (List.getElem?_eq_getElem hi') (by simpa using hi)).2
theorem ok_alloc (hid : ∀ d q, idOf d = some q → B.m ≤ q) {e : TypeId} {cs : List AV} (ho : o.op = .alloc e) (h : Rel B s a w G) (hz : (zeroA P e).bind cellsA = some cs) (hc : newVar idOf s o.dst cs = some (true, u)) (hK : ∀ a' w' G', Rel B (s.aps u) a' w' G' → K a' w') : o.wp P a w K Q := by
 obtain ⟨z, hz1, hz2⟩ := zeroA_ok (P := P) (w := w) (G := G) (rr := true) hz
 obtain ⟨d', G', hd, hr⟩ := newVar_ok hid h hc (NewBlk.alloc w z.cells e) hz2 hz2.one
 have hrun : (execOp a.eval o).run P w = .ok (.value (.pointer (some ⟨w.heap.size, 0, none⟩))) (w.alloc (.cells z.cells e)) := by
  simp [execOp, ho, Instr.alloc, hz1, run_newVar]
 refine wp_val hrun (hK _ _ G' ?_)
 rw [hd]
 exact hr
theorem ok_box (hid : ∀ d q, idOf d = some q → B.m ≤ q) {e : TypeId} {x : Operand} {cs : List AV} (ho : o.op = .box e x) (h : Rel B s a w G) (hz : cellsA (evalA s.T x) = some cs) (hc : newVar idOf s o.dst cs = some (true, u)) (hK : ∀ a' w' G', Rel B (s.aps u) a' w' G' → K a' w') : o.wp P a w K Q := by
 have hz2 := cellsA_ok hz (h.eval x)
 obtain ⟨d', G', hd, hr⟩ := newVar_ok hid h hc (NewBlk.alloc w (a.eval x).cells e) hz2 hz2.one
 have hrun : (execOp a.eval o).run P w = .ok (.value (.pointer (some ⟨w.heap.size, 0, none⟩))) (w.alloc (.cells (a.eval x).cells e)) := by
  simp [execOp, ho, Instr.box, run_newVar]
 refine wp_val hrun (hK _ _ G' ?_)
 rw [hd]
 exact hr
end
end Go.Proofs.Gv
