import Derived.Test.YthnbpgiohimkoaaPw20
set_option linter.unusedVariables false
namespace Go.Proofs.Gv
open Go.RowKit
section
variable {X : Cfg} {B : Bs} {s s' : St} {a : Act} {w : World} {G : Gh} {o : Oper} {u : List Wr} {K : Act → World → Prop} {Q : Exit → Act → World → Prop}
def maskAt (cs : List AV) (j : Nat) : List AV := (List.range cs.length).map fun i => if i = j then cs.getD i .junk else .junk
def cellOf (k : Blk) (j : Nat) : Blk :=
 match k with
 | .var cs => .var (maskAt cs j)
 | k => k
theorem maskAt_congr {cs cs' : List AV} {j : Nat} (hl : cs.length = cs'.length) (hj : cs[j]? = cs'[j]?) : maskAt cs j = maskAt cs' j := by
 unfold maskAt
 rw [hl]
 refine List.map_congr_left fun i _ => ?_
 by_cases h : i = j
 ·subst h
  simp only [if_true, List.getD_eq_getElem?_getD, hj]
 ·simp [h]
theorem maskAt_inv {cs cs' : List AV} {j : Nat} (h : maskAt cs j = maskAt cs' j) : cs.length = cs'.length ∧ cs[j]? = cs'[j]? := by
 have hl : cs.length = cs'.length := by
  have := congrArg List.length h
  simpa [maskAt] using this
 refine ⟨hl, ?_⟩
 by_cases hj : j < cs.length
 ·have h1 := congrArg (fun l => l[j]?) h
  simp only [maskAt] at h1
  rw [List.getElem?_map, List.getElem?_map, List.getElem?_range hj, List.getElem?_range (by omega)] at h1
  simp only [Option.map_some, if_true, List.getD_eq_getElem?_getD, Option.some.injEq] at h1
  rw [List.getElem?_eq_getElem hj, List.getElem?_eq_getElem (by omega)] at h1 ⊢
  simpa using h1
 ·rw [List.getElem?_eq_none (by omega), List.getElem?_eq_none (by omega)]
theorem cellOf_var {cs : List AV} {k : Blk} {j : Nat} (h : cellOf (.var cs) j = cellOf k j) : ∃ cs', k = .var cs' ∧ cs.length = cs'.length ∧ cs[j]? = cs'[j]? := by
 cases k with
 | var cs' =>
   simp only [cellOf, Blk.var.injEq] at h
   exact ⟨cs', rfl, maskAt_inv h⟩
 | _ => cases h
theorem cellOf_dead {k : Blk} {j : Nat} (h : cellOf .dead j = cellOf k j) : k = .dead := by cases k <;> first | rfl | cases h
theorem cellOf_row {zs : List Kd} {es : List (List AV)} {k : Blk} {j : Nat} (h : cellOf (.row zs es) j = cellOf k j) : k = .row zs es := by
 cases k with
 | row zs' es' => exact h.symm
 | _ => cases h
theorem cellOf_tbl {zs : List Kd} {es : List (List AV)} {pd : Option (Int × Nat)} {k : Blk} {j : Nat} (h : cellOf (.tbl zs es pd) j = cellOf k j) : k = .tbl zs es pd := by
 cases k with
 | tbl zs' es' pd' => exact h.symm
 | _ => cases h
theorem cellOf_all {k k' : Blk} (h : ∀ j, cellOf k j = cellOf k' j) : k = k' := by
 cases k with
 | dead => exact (cellOf_dead (h 0)).symm
 | row zs es => exact (cellOf_row (h 0)).symm
 | tbl zs es pd => exact (cellOf_tbl (h 0)).symm
 | var cs =>
   obtain ⟨cs', rfl, hl, _⟩ := cellOf_var (h 0)
   congr 1
   refine List.ext_getElem? fun j => ?_
   obtain ⟨cs2, e, _, hj⟩ := cellOf_var (h j)
   injection e with e
   subst e
   exact hj
def St.lo (s : St) : Lo → AV ⊕ Blk
 | .t i => .inl (s.t i)
 | .r b => .inr (s.c b)
 | .c b j => .inr (cellOf (s.c b) j)
theorem lo_t {t : Nat} (h : s.lo (.t t) = s'.lo (.t t)) : s.t t = s'.t t := by
 simpa [St.lo] using h
theorem lo_c {b : Nat} (h : s.lo (.r b) = s'.lo (.r b)) : s.c b = s'.c b := by
 simpa [St.lo] using h
theorem lo_cell {b j : Nat} (h : s.lo (.c b j) = s'.lo (.c b j)) : cellOf (s.c b) j = cellOf (s'.c b) j := by
 simpa [St.lo] using h
theorem cellsAt_hp {q off n : Nat} (h : ∀ l ∈ cellsR q off n, s.lo l = s'.lo l) : cellsAt s n (.hp q off) = cellsAt s' n (.hp q off) := by
 have h0 := lo_cell (h (.c q off) List.mem_cons_self)
 have hj : ∀ j, j < n → cellOf (s.c q) (off + j) = cellOf (s'.c q) (off + j) := fun j hj => lo_cell (h (.c q (off + j)) (List.mem_cons_of_mem _ (List.mem_map.2 ⟨j, List.mem_range.2 hj, rfl⟩)))
 unfold cellsAt
 simp only
 cases hk : s.c q with
 | dead => rw [hk] at h0; rw [cellOf_dead h0]
 | row zs es => rw [hk] at h0; rw [cellOf_row h0]
 | tbl zs es pd => rw [hk] at h0; rw [cellOf_tbl h0]
 | var cs =>
   rw [hk] at h0 hj
   obtain ⟨cs', e, hl, _⟩ := cellOf_var h0
   rw [e] at hj ⊢
   simp only [hl]
   split
   ·congr 1
    refine List.ext_getElem? fun j => ?_
    rw [List.getElem?_take, List.getElem?_take]
    split
    ·rename_i hjn
     rw [List.getElem?_drop, List.getElem?_drop]
     obtain ⟨cs2, e2, _, h3⟩ := cellOf_var (hj j hjn)
     injection e2 with e2
     subst e2
     exact h3
    ·rfl
   ·rfl
theorem rowOf_local {q : Nat} (h : s.c q = s'.c q) (zs : List Kd) : rowOf s q zs = rowOf s' q zs := by
 unfold rowOf
 rw [h]
theorem tblOf_local {q : Nat} (h : s.c q = s'.c q) (zs : List Kd) : tblOf s q zs = tblOf s' q zs := by
 unfold tblOf
 rw [h]
theorem cellsAt_local {A : AV} (n : Nat) (h : ∀ q ∈ A.refs, s.c q = s'.c q) : cellsAt s n A = cellsAt s' n A := by
 cases A with
 | hp q off => unfold cellsAt; simp only; rw [h q (by simp [AV.refs])]
 | ep q zs i off => unfold cellsAt; simp only; rw [rowOf_local (h q (by simp [AV.refs]))]
 | _ => rfl
theorem elsOf_local {A : AV} (zs : List Kd) (h : ∀ q ∈ A.refs, s.c q = s'.c q) : elsOf s zs A = elsOf s' zs A := by
 cases A with
 | rf q zs' => unfold elsOf; simp only; rw [rowOf_local (h q (by simp [AV.refs]))]
 | rs q zs' i n cp => unfold elsOf; simp only; rw [rowOf_local (h q (by simp [AV.refs]))]
 | _ => rfl
theorem lend0_local {A : AV} (h : ∀ q ∈ A.refs, s.c q = s'.c q) : lend0 s A = lend0 s' A := by
 cases A with
 | rf q zs' => unfold lend0; simp only; rw [rowOf_local (h q (by simp [AV.refs]))]
 | rs q zs' i n cp => unfold lend0; simp only; rw [rowOf_local (h q (by simp [AV.refs]))]
 | _ => rfl
theorem lendL_local : ∀ {l : List AV}, (∀ q ∈ AV.refsL l, s.c q = s'.c q) → lendL s l = lendL s' l := by
 intro l
 induction l with
 | nil => intro _; rfl
 | cons x l ih =>
   intro h
   unfold lendL
   rw [lend0_local fun q hq => h q (by simp only [AV.refsL]; exact List.mem_append_left _ hq), ih fun q hq => h q (by simp only [AV.refsL]; exact List.mem_append_right _ hq)]
theorem lend1_local {A : AV} (h : ∀ q ∈ A.refs, s.c q = s'.c q) : lend1 s A = lend1 s' A := by
 cases A with
 | agg cs => unfold lend1; simp only; rw [lendL_local h]
 | rf q zs' => unfold lend1; exact lend0_local h
 | rs q zs' i n cp => unfold lend1; exact lend0_local h
 | _ => rfl
theorem lendAs_local {by' : Bool} : ∀ {l : List AV}, (∀ q ∈ AV.refsL l, s.c q = s'.c q) → lendAs s by' l = lendAs s' by' l := by
 intro l
 induction l with
 | nil => intro _; rfl
 | cons x l ih =>
   intro h
   unfold lendAs
   rw [lend1_local fun q hq => h q (by simp only [AV.refsL]; exact List.mem_append_left _ hq), ih fun q hq => h q (by simp only [AV.refsL]; exact List.mem_append_right _ hq)]
theorem reach_acc (C : List Blk) : ∀ (n : Nat) (todo acc : List Nat), ∀ q ∈ acc, q ∈ reach C n todo acc := by
 intro n
 induction n with
 | zero => intro todo acc q hq; cases todo <;> exact hq
 | succ n ih =>
   intro todo acc q hq
   cases todo with
   | nil => exact hq
   | cons x todo =>
     unfold reach
     cases inL x acc with
     | true => exact ih _ _ q hq
     | false => exact ih _ _ q (List.mem_append_left _ hq)
theorem reach_local {C C' : List Blk} : ∀ (n : Nat) (todo acc : List Nat), (∀ q ∈ reach C n todo acc, C.getD q .dead = C'.getD q .dead) → reach C n todo acc = reach C' n todo acc := by
 intro n
 induction n with
 | zero => intro todo acc _; cases todo <;> rfl
 | succ n ih =>
   intro todo acc h
   cases todo with
   | nil => rfl
   | cons x todo =>
     unfold reach at h ⊢
     cases hx : inL x acc with
     | true => rw [hx] at h; exact ih _ _ h
     | false =>
       rw [hx] at h
       simp only [cond_false] at h ⊢
       rw [← h x (reach_acc C n _ _ x (by simp))]
       exact ih _ _ h
theorem opt_map_congr {α β : Type} {f g : α → β} {x : Option α} (h : ∀ y ∈ x.toList, f y = g y) : x.map f = x.map g := by
 cases x with
 | none => rfl
 | some y => simp [h y (by simp)]
theorem newRow_local {idOf : Nat → Option Nat} {b : Bool} {d : Option Nat} {zs : List Kd} {es : List (List AV)} (h : ∀ d' q, d = some d' → idOf d' = some q → noRefs q [d'] [q] s = noRefs q [d'] [q] s') : newRow idOf s b d zs es = newRow idOf s' b d zs es := by
 unfold newRow
 cases d with
 | none => rfl
 | some d =>
   simp only
   cases hq : idOf d with
   | none => rfl
   | some q => simp only; rw [h d q rfl hq]
theorem noRefs_iff {d : Nat} {ex exb : List Nat} : noRefs d ex exb s = true ↔ (∀ (i : Nat) (x : AV), s.T[i]? = some x → i ∉ ex → d ∉ x.refs) ∧ ∀ (i : Nat) (k : Blk), s.C[i]? = some k → i ∉ exb → d ∉ k.refs := by
 constructor
 ·intro h
  simp only [noRefs, Bool.and_eq_true] at h
  exact ⟨fun i x hx hi => noRefT_spec _ _ h.1 i x hx (by simpa using hi), fun i k hk hi => noRefC_spec _ _ h.2 i k hk (by simpa using hi)⟩
 ·rintro ⟨h1, h2⟩
  have t1 : ∀ (T : List AV) (k : Nat), (∀ (i : Nat) (x : AV), T[i]? = some x → k + i ∉ ex → d ∉ x.refs) → noRefT d ex k T = true := by
   intro T
   induction T with
   | nil => intro k _; rfl
   | cons x T ih =>
     intro k h
     simp only [noRefT, Bool.and_eq_true, Bool.or_eq_true, Bool.not_eq_true']
     refine ⟨?_, ih (k + 1) fun i y hy hi => h (i + 1) y (by simpa using hy) (by rw [show k + (i + 1) = k + 1 + i from by omega]; exact hi)⟩
     by_cases hk : k ∈ ex
     ·exact .inl (inL_iff.2 hk)
     ·right
      cases hi : inL d x.refs with
      | false => rfl
      | true => exact absurd (inL_iff.1 hi) (h 0 x rfl hk)
  have t2 : ∀ (T : List Blk) (k : Nat), (∀ (i : Nat) (x : Blk), T[i]? = some x → k + i ∉ exb → d ∉ x.refs) → noRefC d exb k T = true := by
   intro T
   induction T with
   | nil => intro k _; rfl
   | cons x T ih =>
     intro k h
     simp only [noRefC, Bool.and_eq_true, Bool.or_eq_true, Bool.not_eq_true']
     refine ⟨?_, ih (k + 1) fun i y hy hi => h (i + 1) y (by simpa using hy) (by rw [show k + (i + 1) = k + 1 + i from by omega]; exact hi)⟩
     by_cases hk : k ∈ exb
     ·exact .inl (inL_iff.2 hk)
     ·right
      cases hi : inL d x.refs with
      | false => rfl
      | true => exact absurd (inL_iff.1 hi) (h 0 x rfl hk)
  simp only [noRefs, Bool.and_eq_true]
  exact ⟨t1 s.T 0 (by simpa using h1), t2 s.C 0 (by simpa using h2)⟩
theorem bool_eq {a b : Bool} (h : a = true ↔ b = true) : a = b := by
 cases a <;> cases b <;> simp_all
theorem noRefs_one {d e p : Nat} {exb : List Nat} (h : noRefs d [e, p] exb s = true) (h' : noRefs d [e, p] exb s' = true) (hl : s.T.length = s'.T.length) (hp : s.t p = s'.t p) : noRefs d [e] exb s = noRefs d [e] exb s' := by
 have key : ∀ {s s' : St}, noRefs d [e, p] exb s = true → noRefs d [e, p] exb s' = true → s.T.length = s'.T.length → s.t p = s'.t p → noRefs d [e] exb s = true → noRefs d [e] exb s' = true := by
  intro s s' h h' hl hp h1
  rw [noRefs_iff] at h h' h1 ⊢
  refine ⟨fun i x hx hi => ?_, h'.2⟩
  by_cases hip : i = p
  ·subst hip
   have hil : i < s'.T.length := (List.getElem?_eq_some_iff.1 hx).1
   have e1 : s'.t i = x := by simp [St.t, List.getD, hx]
   have e2 : s.T[i]? = some (s.t i) := by simp [St.t, List.getD, show i < s.T.length by omega]
   rw [← e1, ← hp]
   exact h1.1 i _ e2 hi
  ·exact h'.1 i x hx (by simp at hi ⊢; exact ⟨hi, hip⟩)
 exact bool_eq ⟨key h h' hl hp, key h' h hl.symm hp.symm⟩
theorem cMapUpdate_local {P : Program} {q : Nat} {zs : List Kd} {d : Option Nat} {t : TypeId} {x v : AV} (h : tblOf s q zs = tblOf s' q zs) : cMapUpdate P s d t (.mp q zs) x v = cMapUpdate P s' d t (.mp q zs) x v := by
 unfold cMapUpdate
 cases mapT P t with
 | none => rfl
 | some zs' =>
   cases x with
   | int k n =>
     cases v with
     | hp q2 off => cases k <;> cases off <;> cases d <;> first | rfl | (simp only; rw [h])
     | _ => cases k <;> rfl
   | _ => rfl
theorem cDelete_local {P : Program} {A x : AV} (d : Option Nat) (t : TypeId) (h : ∀ q ∈ A.refs, s.c q = s'.c q) : cDelete P s d t A x = cDelete P s' d t A x := by
 unfold cDelete
 cases A with
 | mp q zs =>
   have h4 := tblOf_local (h q (by simp [AV.refs])) zs
   cases mapT P t with
   | none => rfl
   | some zs' =>
     cases x with
     | int k n => cases k <;> first | rfl | (simp only; rw [h4])
     | _ => rfl
 | _ => cases mapT P t <;> rfl
theorem cLen_local {P : Program} {A : AV} (d : Option Nat) (t : TypeId) (h : ∀ q ∈ A.refs, s.c q = s'.c q) : cLen P s d t A = cLen P s' d t A := by
 have h1 : lenA s A = lenA s' A := by
  cases A with
  | rf q zs => unfold lenA; simp only; rw [rowOf_local (h q (by simp [AV.refs]))]
  | _ => rfl
 have h2 : lenM s A = lenM s' A := by
  cases A with
  | mp q zs => unfold lenM; simp only; rw [tblOf_local (h q (by simp [AV.refs]))]
  | _ => rfl
 unfold cLen
 cases P.underlying t with
 | none => rfl
 | some D => cases D <;> first | rfl | (simp only; rw [h1]) | (simp only; rw [h2]) | (cases A <;> rfl)
theorem srcOf_local {P : Program} {A : AV} (t u' : TypeId) (zs : List Kd) (h : ∀ q ∈ A.refs, s.c q = s'.c q) : srcOf P s t u' zs A = srcOf P s' t u' zs A := by
 unfold srcOf
 rw [elsOf_local zs h]
theorem cClear_local {P : Program} {A : AV} (d : Option Nat) (t : TypeId) (h : ∀ q ∈ A.refs, s.c q = s'.c q) : cClear P s d t A = cClear P s' d t A := by
 unfold cClear
 cases P.underlying t with
 | none => rfl
 | some D =>
   cases D with
   | slice e =>
     simp only
     cases kindE P e with
     | none => rfl
     | some zs =>
       cases (zeroA P e).bind cellsA with
       | none => rfl
       | some z =>
         simp only
         cases A with
         | rf q zs' => simp only; rw [rowOf_local (h q (by simp [AV.refs]))]
         | rs q zs' i n cp => simp only; rw [rowOf_local (h q (by simp [AV.refs]))]
         | _ => rfl
   | _ => rfl
theorem appRow_local {idOf alt : Nat → Option Nat} {b : Bool} {d : Option Nat} {x : Operand} {q : Nat} {zs : List Kd} {es : List (List AV)} (h : ∀ d' q' p, d = some d' → (idOf d').map (fun q1 => pickId q1 (alt d') q) = some q' → x = .tmp p → noRefs q' [d', p] [q'] s = noRefs q' [d', p] [q'] s' ∧ noRefs q' [d'] [q'] s = noRefs q' [d'] [q'] s') : appRow idOf alt s b d x q zs es = appRow idOf alt s' b d x q zs es := by
 unfold appRow
 cases d with
 | none => rfl
 | some d =>
   cases x with
   | tmp p =>
     simp only
     cases hq : (idOf d).map (fun q1 => pickId q1 (alt d) q) with
     | none => rfl
     | some q' => simp only; rw [(h d q' p rfl hq rfl).1, (h d q' p rfl hq rfl).2]
   | _ => rfl
theorem cAppend_local {P : Program} {idOf alt : Nat → Option Nat} {A C : AV} (d : Option Nat) (t u' : TypeId) (x : Operand) (h : ∀ q ∈ A.refs, s.c q = s'.c q) (hC : ∀ q ∈ C.refs, s.c q = s'.c q)
  (hr : isNil A = true → ∀ b zs es, newRow idOf s b d zs es = newRow idOf s' b d zs es) (ha : ∀ b q zs zs' es, A = .rf q zs' → appRow idOf alt s b d x q zs es = appRow idOf alt s' b d x q zs es) : cAppend P idOf alt s d t u' x A C = cAppend P idOf alt s' d t u' x A C := by
 unfold cAppend
 cases P.underlying t with
 | none => rfl
 | some D =>
   cases D with
   | slice e =>
     simp only
     cases P.info? e with
     | none => rfl
     | some i =>
       cases kindE P e with
       | none => rfl
       | some zs =>
         cases (zeroA P e).bind cellsA with
         | none => rfl
         | some z =>
           simp only
           rw [srcOf_local t u' zs hC]
           split
           ·rfl
           ·cases srcOf P s' t u' zs C with
            | none => rfl
            | some xs =>
              simp only
              cases A with
              | nil => simp only [hr rfl]
              | nilz => simp only [hr rfl]
              | rf q zs' => simp only; rw [rowOf_local (h q (by simp [AV.refs]))]; simp only [ha _ q _ zs' _ rfl]
              | rs q zs' i n cp => simp only; rw [rowOf_local (h q (by simp [AV.refs]))]
              | _ => rfl
   | _ => rfl
theorem cAppendZ_local {P : Program} {idOf alt : Nat → Option Nat} {A C : AV} (d : Option Nat) (t u' : TypeId) (x : Operand) (h : ∀ q ∈ A.refs, s.c q = s'.c q) (hC : ∀ q ∈ C.refs, s.c q = s'.c q)
  (hr : isNil A = true → ∀ b zs es, newRow idOf s b d zs es = newRow idOf s' b d zs es) (ha : ∀ b q zs zs' es, A = .rf q zs' → appRow idOf alt s b d x q zs es = appRow idOf alt s' b d x q zs es) : cAppendZ P idOf alt s d t u' x A C = cAppendZ P idOf alt s' d t u' x A C := by
 unfold cAppendZ
 split
 ·rename_i k kk n hu
  cases strTy P with
  | none => rfl
  | some us =>
    dsimp only
    rw [cAppend_local d t us x h (fun q hq => by cases hq) hr ha]
 ·exact cAppend_local d t u' x h hC hr ha
theorem comp_local (hT : s.T.length = s'.T.length) (hC : s.C.length = s'.C.length) (hag : ∀ l ∈ (opnds o.op).flatMap rdX ++ (memRd X o.op s ++ callRd X o s), s.lo l = s'.lo l) (hn : ∀ q ∈ nfA X o s, noRefs q (exA o) (nfA X o s) s = true ∧ noRefs q (exA o) (nfA X o s) s' = true) : comp X o s = comp X o s' := by
 have hag1 : ∀ l ∈ (opnds o.op).flatMap rdX, s.lo l = s'.lo l := fun l hl => hag l (List.mem_append_left _ hl)
 have hag2 : ∀ l ∈ memRd X o.op s, s.lo l = s'.lo l := fun l hl => hag l (List.mem_append_right _ (List.mem_append_left _ hl))
 have he : ∀ x ∈ opnds o.op, evalA s.T x = evalA s'.T x := by
  intro x hx
  cases x with
  | tmp t => exact lo_t (hag1 _ (List.mem_flatMap.2 ⟨_, hx, by simp [rdX]⟩))
  | _ => rfl
 have hr1 : ∀ x : Operand, (∀ l ∈ refR s x, s.lo l = s'.lo l) → ∀ q ∈ (evalA s.T x).refs, s.c q = s'.c q := by
  intro x hx q hq
  cases x with
  | tmp t =>
    refine lo_c (hx _ ?_)
    simp only [refR, List.mem_map]
    exact ⟨q, hq, rfl⟩
  | const v =>
    have := (v2a_ok (G := ⟨fun _ => .imm, fun _ => (0, none)⟩) (w := default) (r := false) v).flat rfl
    simp only [evalA, this.1] at hq
    cases hq
  | func f => simp [evalA, AV.refs, AV.refsL] at hq
  | global k => simp [evalA, AV.refs] at hq
 have hr : memRd X o.op s = (opnds o.op).flatMap (refR s) → ∀ x ∈ opnds o.op, ∀ q ∈ (evalA s.T x).refs, s.c q = s'.c q := by
  intro hm x hx
  refine hr1 x fun l hl => hag2 l ?_
  rw [hm]
  exact List.mem_flatMap.2 ⟨x, hx, hl⟩
 have hone : ∀ d, o.dst = some d → exOp o.op = [] → ∀ q, nfA X o s = [q] → noRefs q [d] [q] s = noRefs q [d] [q] s' := by
  intro d hd hex q hq
  have := hn q (by rw [hq]; simp)
  rw [hq] at this
  simp only [exA, hd, hex, oneL, List.append_nil] at this
  rw [this.1, this.2]
 obtain ⟨dst, op, ty, pos, after, guard⟩ := o
 simp only at he hr hone hag2
 have hrow : ∀ (b : Bool) (zs : List Kd) (es : List (List AV)), exOp op = [] → (∀ d q, dst = some d → X.idOf d = some q → nfA X ⟨dst, op, ty, pos, after, guard⟩ s = [q]) → newRow X.idOf s b dst zs es = newRow X.idOf s' b dst zs es := by
  intro b zs es hex hnf
  exact newRow_local fun d q hd hq => hone d hd hex q (hnf d q hd hq)
 have hvar : ∀ (cs : List AV), exOp op = [] → (∀ d q, dst = some d → X.idOf d = some q → nfA X ⟨dst, op, ty, pos, after, guard⟩ s = [q]) → newVar X.idOf s dst cs = newVar X.idOf s' dst cs := by
  intro cs hex hnf
  unfold newVar
  cases dst with
  | none => rfl
  | some d =>
    simp only
    cases hq : X.idOf d with
    | none => rfl
    | some q => simp only; rw [hone d rfl hex q (hnf d q rfl hq)]
 unfold comp
 dsimp only
 cases op with
 | move x => simp [he x (by simp [opnds])]
 | assign x => simp [he x (by simp [opnds])]
 | pick c x y => simp [he c (by simp [opnds]), he x (by simp [opnds]), he y (by simp [opnds])]
 | alloc e =>
   dsimp only
   cases (zeroA X.P e).bind cellsA with
   | none => rfl
   | some cs => exact hvar cs rfl fun d q hd hq => by simp [nfA, hd, hq, oneL]
 | box e x =>
   dsimp only
   rw [he x (by simp [opnds])]
   cases cellsA (evalA s'.T x) with
   | none => rfl
   | some cs => exact hvar cs rfl fun d q hd hq => by simp [nfA, hd, hq, oneL]
 | build t ps =>
   have h3 : (ps.toList.map fun p => (p.1, evalA s.T p.2)) = ps.toList.map fun p => (p.1, evalA s'.T p.2) := List.map_congr_left fun p hp => by rw [he p.2 (List.mem_map.2 ⟨p, hp, rfl⟩)]
   simp only [h3]
 | buildSlice t n ps =>
   have h3 : (ps.toList.map fun p => (p.1, evalA s.T p.2)) = ps.toList.map fun p => (p.1, evalA s'.T p.2) := List.map_congr_left fun p hp => by rw [he p.2 (List.mem_map.2 ⟨p, hp, rfl⟩)]
   simp only [h3, cBuildSlice, hrow _ _ _ rfl fun d q hd hq => by simp [nfA, hd, hq, oneL]]
 | load t x =>
   dsimp only
   rw [← he x (by simp [opnds])]
   have h3 : ∀ n, szOf X.P t = some n → cellsAt s n (evalA s.T x) = cellsAt s' n (evalA s.T x) := by
    intro n hn
    simp only [memRd, hn] at hag2
    cases hA : evalA s.T x with
    | hp q off =>
      rw [hA] at hag2
      exact cellsAt_hp hag2
    | _ =>
      rw [hA] at hag2
      exact cellsAt_local n (by rw [← hA]; exact hr1 x hag2)
   have h4 : ∀ q zs k off n, szOf X.P t = some n → evalA s.T x = .mt q zs k off → tblOf s q zs = tblOf s' q zs := by
    intro q zs k off n hn hA
    simp only [memRd, hn, hA] at hag2
    exact tblOf_local (hr1 x hag2 q (by rw [hA]; simp [AV.refs])) zs
   unfold cLoad
   cases aggOf X.P t with
   | none => rfl
   | some ag =>
     cases hn : szOf X.P t with
     | none => rfl
     | some n =>
       have h5 := h3 n hn
       have h6 := fun q zs k off => h4 q zs k off n hn
       generalize evalA s.T x = A at h5 h6
       cases A with
       | mt q zs k off => simp only [h6 q zs k off rfl]
       | _ => simp only [h5]
 | store t p x =>
   cases dst with
   | some d => rfl
   | none =>
     have h1 := he p (by simp [opnds])
     have h2 := he x (by simp [opnds])
     dsimp only
     rw [← h1, ← h2]
     simp only [memRd] at hag2
     have h3 := hr1 p
     generalize hA : evalA s.T p = A at h3 hag2
     cases A with
     | hp q off =>
       have h0 := lo_cell (hag2 (.c q off) List.mem_cons_self)
       unfold cStore
       cases szOf X.P t with
       | none => rfl
       | some n =>
         cases cellsA (evalA s.T x) with
         | none => rfl
         | some xs =>
           simp only
           cases hk : s.c q with
           | dead => rw [hk] at h0; rw [cellOf_dead h0]
           | row zs es => rw [hk] at h0; rw [cellOf_row h0]
           | tbl zs es pd => rw [hk] at h0; rw [cellOf_tbl h0]
           | var cs =>
             rw [hk] at h0
             obtain ⟨cs', e, hl, _⟩ := cellOf_var h0
             rw [e]
             simp only [hl]
     | ep q zs i off =>
       have h4 := rowOf_local (h3 hag2 q (by simp [AV.refs])) zs
       unfold cStore
       cases szOf X.P t <;> cases cellsA (evalA s.T x) <;> first | rfl | (simp only; rw [h4])
     | mt q zs k off =>
       have h4 := tblOf_local (h3 hag2 q (by simp [AV.refs])) zs
       unfold cStore
       cases szOf X.P t <;> cases cellsA (evalA s.T x) <;> first | rfl | (simp only; rw [h4])
     | _ => rfl
 | makeMap t r =>
   cases r with
   | some _ => rfl
   | none =>
     dsimp only
     unfold cMakeMap
     cases mapT X.P t with
     | none => rfl
     | some zs =>
       cases dst with
       | none => rfl
       | some d =>
         simp only
         cases hq : X.idOf d with
         | none => rfl
         | some q => simp only; rw [hone d rfl rfl q (by simp [nfA, hq, oneL])]
 | lookup t m x ok =>
   cases ok with
   | true => rfl
   | false =>
     dsimp only
     have h3 := hr rfl m (by simp [opnds])
     rw [← he m (by simp [opnds]), ← he x (by simp [opnds])]
     generalize evalA s.T m = A at h3
     unfold cLookup
     cases A with
     | mp q zs =>
       have h4 := tblOf_local (h3 q (by simp [AV.refs])) zs
       cases mapT X.P t <;> cases evalA s.T x <;> first | rfl | (simp only; rw [h4]) | (rename_i k _; cases k <;> first | rfl | (simp only; rw [h4]))
     | _ => cases mapT X.P t <;> cases evalA s.T x <;> rfl
 | mapUpdate t m x v =>
   dsimp only
   have h3 := hr rfl m (by simp [opnds])
   rw [← he m (by simp [opnds]), ← he x (by simp [opnds]), ← he v (by simp [opnds])]
   generalize evalA s.T m = A at h3
   generalize evalA s.T x = X1
   generalize evalA s.T v = X2
   cases A with
   | mp q zs =>
     have h4 := tblOf_local (h3 q (by simp [AV.refs])) zs
     exact cMapUpdate_local h4
   | _ => unfold cMapUpdate; cases mapT X.P t <;> rfl
 | nilCheck x => simp [he x (by simp [opnds])]
 | binOp op t x y yt => simp [he x (by simp [opnds]), he y (by simp [opnds])]
 | unOp op t x => simp [he x (by simp [opnds])]
 | convert c d x =>
   dsimp only
   rw [← he x (by simp [opnds])]
   have h3 := hr rfl x (by simp [opnds])
   have h4 : ∀ b zs es, newRow X.idOf s b dst zs es = newRow X.idOf s' b dst zs es := fun b zs es => hrow b zs es rfl fun d q hd hq => by simp [nfA, hd, hq, oneL]
   unfold cConv
   generalize evalA s.T x = A at h3
   have h5 := elsOf_local [.int .u8] h3
   cases X.P.underlying c with
   | none => rfl
   | some D1 =>
     cases X.P.underlying d with
     | none => cases D1 <;> rfl
     | some D2 => cases D1 <;> cases D2 <;> first | rfl | (cases A <;> rfl) | (simp only; rw [h5]) | (cases A <;> first | rfl | (simp only [h4]; done) | (simp only; rw [rowOf_local (h3 _ (by simp [AV.refs])) _]))
 | sliceToArrayPointer t x => simp [he x (by simp [opnds])]
 | makeFunc f fs cs =>
   have h3 : cs.toList.map (evalA s.T) = cs.toList.map (evalA s'.T) := List.map_congr_left fun y hy => he y (by simp only [opnds]; exact List.mem_append_right _ hy)
   simp only [h3]
 | makeSlice t x y =>
   simp only [cMake, he x (by simp [opnds]), he y (by simp [opnds]), hrow _ _ _ rfl fun d q hd hq => by simp [nfA, hd, hq, oneL]]
 | slice t x lo hi mx =>
   dsimp only
   have h1 := he x (by simp [opnds])
   have h3 := hr rfl x (by simp [opnds])
   rw [opt_map_congr (x := lo) (f := evalA s.T) (g := evalA s'.T) (fun y hy => he y (by simp [opnds] at hy ⊢; exact .inr (.inl hy))),
    opt_map_congr (x := hi) (f := evalA s.T) (g := evalA s'.T) (fun y hy => he y (by simp [opnds] at hy ⊢; exact .inr (.inr (.inl hy)))),
    opt_map_congr (x := mx) (f := evalA s.T) (g := evalA s'.T) (fun y hy => he y (by simp [opnds] at hy ⊢; exact .inr (.inr (.inr hy)))), ← h1]
   generalize evalA s.T x = A at h3
   cases A with
   | hp q off =>
     have h4 := h3 q (by simp [AV.refs])
     unfold cSlice
     cases off <;> (cases X.P.underlying t with
      | none => rfl
      | some D => cases D <;> first | rfl | (simp only; rw [h4]))
   | rf q zs =>
     have h4 := rowOf_local (h3 q (by simp [AV.refs])) zs
     unfold cSlice
     cases X.P.underlying t with
     | none => rfl
     | some D => cases D <;> first | rfl | (simp only; rw [h4])
   | rs q zs i n cp =>
     have h4 := rowOf_local (h3 q (by simp [AV.refs])) zs
     unfold cSlice
     cases X.P.underlying t with
     | none => rfl
     | some D => cases D <;> first | rfl | (simp only; rw [h4])
   | _ =>
     unfold cSlice
     cases X.P.underlying t with
     | none => rfl
     | some D => cases D <;> rfl
 | fieldAddr t x f => simp [he x (by simp [opnds])]
 | field t x f => simp [he x (by simp [opnds])]
 | indexAddr t x i =>
   dsimp only
   have h3 := hr rfl x (by simp [opnds])
   rw [← he x (by simp [opnds]), ← he i (by simp [opnds])]
   generalize evalA s.T x = A at h3
   cases A with
   | rf q zs =>
     have h4 := rowOf_local (h3 q (by simp [AV.refs])) zs
     unfold cIndexAddr
     cases X.P.underlying t with
     | none => rfl
     | some D => cases D <;> cases evalA s.T i <;> first | rfl | (simp only; rw [h4])
   | _ =>
     unfold cIndexAddr
     cases X.P.underlying t with
     | none => rfl
     | some D => cases D <;> cases evalA s.T i <;> rfl
 | index t x i => simp [he x (by simp [opnds]), he i (by simp [opnds])]
 | extract x i => simp [he x (by simp [opnds])]
 | call c =>
   obtain ⟨callee, args, tys⟩ := c
   cases callee with
   | value f =>
     dsimp only
     have hmatch : ∀ {α : Type} (t : List Operand → α), True := fun _ => trivial
     have h1 : args.toList.map (evalA s.T) = args.toList.map (evalA s'.T) := List.map_congr_left fun x hx => he x (by simp only [opnds]; exact List.mem_cons_of_mem _ hx)
     have h2 := he f (by simp [opnds])
     have hcr : ∀ l ∈ callRd X ⟨dst, .call ⟨.value f, args, tys⟩, ty, pos, after, guard⟩ s, s.lo l = s'.lo l := fun l hl => hag l (List.mem_append_right _ (List.mem_append_right _ hl))
     have hfr := hr rfl f (by simp [opnds])
     unfold cCall
     rw [← h1, ← h2]
     cases dst with
     | none => rfl
     | some d =>
       cases hfn : fnOf (evalA s.T f) with
       | none => rfl
       | some p =>
         obtain ⟨f', caps⟩ := p
         dsimp only
         have hcaps : ∀ q ∈ AV.refsL caps, s.c q = s'.c q := by
          intro q hq
          refine hfr q ?_
          generalize evalA s.T f = A at hfn
          cases A <;> simp [fnOf] at hfn
          obtain ⟨rfl, rfl⟩ := hfn
          exact hq
         have hall : ∀ q ∈ AV.refsL (args.toList.map (evalA s.T) ++ caps), s.c q = s'.c q := by
          intro q hq
          rw [AV.refsL_eq, List.flatMap_append, List.mem_append, ← AV.refsL_eq caps] at hq
          rcases hq with hq | hq
          ·obtain ⟨x, hx, hxq⟩ := List.mem_flatMap.1 hq
           obtain ⟨y, hy, rfl⟩ := List.mem_map.1 hx
           exact hr rfl y (by simp only [opnds]; exact List.mem_cons_of_mem _ hy) q hxq
          ·exact hcaps q hq
         rw [← lendAs_local (by' := X.byref f') hall]
         unfold callRd at hcr
         dsimp only at hcr
         rw [hfn] at hcr
         dsimp only at hcr
         cases hle : lendAs s (X.byref f') (args.toList.map (evalA s.T) ++ caps) with
         | none => rfl
         | some p =>
           obtain ⟨as', lent⟩ := p
           rw [hle] at hcr
           dsimp only at hcr ⊢
           have hrc : ∀ q ∈ reach s.C (as'.length + s.C.length * s.C.length + 64) (AV.refsL as') [], s.C.getD q .dead = s'.C.getD q .dead := fun q hq => lo_c (hcr (.r q) (List.mem_map.2 ⟨q, hq, rfl⟩))
           have hre := reach_local (C' := s'.C) _ _ _ hrc
           rw [← hC, ← hre]
           generalize hρ : reach s.C (as'.length + s.C.length * s.C.length + 64) (AV.refsL as') [] = ρ at hrc
           have e1 : closedR s.C ρ = closedR s'.C ρ := by
            unfold closedR
            rw [← hC]
            apply bool_eq
            simp only [List.all_eq_true]
            constructor
            ·intro h q hq; rw [← hrc q hq]; exact h q hq
            ·intro h q hq; rw [hrc q hq]; exact h q hq
           have e2 : (ρ.map fun q => (s.C.getD q .dead).ren (ixOf ρ)) = ρ.map fun q => (s'.C.getD q .dead).ren (ixOf ρ) := List.map_congr_left fun q hq => by rw [hrc q hq]
           rw [e1, e2]
           have e3' : ∀ (nl : Bool) (b : Bool) (r : AV) (outs : List Blk), backB X s d nl ρ b r outs = backB X s' d nl ρ b r outs := by
            intro nl b r outs
            unfold backB
            dsimp only
            have e4 : ((X.rid d).all fun q => Nat.ble X.m q && (Nat.blt q s.C.length && noRefs q [d] (X.rid d) s)) = (X.rid d).all fun q => Nat.ble X.m q && (Nat.blt q s'.C.length && noRefs q [d] (X.rid d) s') := by
             apply bool_eq
             simp only [List.all_eq_true]
             have hq2 : ∀ q ∈ X.rid d, noRefs q [d] (X.rid d) s = true ∧ noRefs q [d] (X.rid d) s' = true := by
              intro q hq
              have := hn q (by simpa [nfA] using hq)
              simpa [nfA, exA, exOp, oneL] using this
             constructor
             ·intro h q hq
              have h5 := h q hq
              simp only [Bool.and_eq_true] at h5 ⊢
              exact ⟨h5.1, by rw [← hC]; exact h5.2.1, (hq2 q hq).2⟩
             ·intro h q hq
              have h5 := h q hq
              simp only [Bool.and_eq_true] at h5 ⊢
              exact ⟨h5.1, by rw [hC]; exact h5.2.1, (hq2 q hq).1⟩
            rw [e4]
           have e3 : ∀ (nl : Bool) (b : Bool) (r : AV) (C0 outs : List Blk), backA X s d nl ρ b r C0 outs = backA X s' d nl ρ b r C0 outs := by
            intro nl b r C0 outs
            unfold backA
            simp only [e3']
           simp only [e3]
   | invoke _ _ => rfl
   | builtin b =>
     have h1 : ∀ x ∈ args.toList, evalA s.T x = evalA s'.T x := fun x hx => he x (by simpa only [opnds] using hx)
     have h2 : ∀ x ∈ args.toList, ∀ q ∈ (evalA s.T x).refs, s.c q = s'.c q := fun x hx => hr rfl x (by simpa only [opnds] using hx)
     dsimp only
     have key : ∀ (x : Operand) (rest : List Operand) (q : Nat), b = .append → args.toList = x :: rest → ∀ d, dst = some d → nfA X ⟨dst, .call ⟨.builtin b, args, tys⟩, ty, pos, after, guard⟩ s = [q] →
       (∀ p, x = .tmp p → noRefs q [d, p] [q] s = noRefs q [d, p] [q] s' ∧ noRefs q [d] [q] s = noRefs q [d] [q] s') ∧ ((∀ p, x ≠ .tmp p) → noRefs q [d] [q] s = noRefs q [d] [q] s') := by
      intro x rest q hb hargs d hd hq
      subst hb
      have h5 := hn q (by rw [hq]; simp)
      rw [hq] at h5
      simp only [exA, exOp, hd, oneL, hargs] at h5
      refine ⟨fun p hp => ?_, fun hp => ?_⟩
      ·subst hp
       simp only [List.singleton_append] at h5
       refine ⟨by rw [h5.1, h5.2], noRefs_one h5.1 h5.2 hT ?_⟩
       exact lo_t (hag1 _ (List.mem_flatMap.2 ⟨.tmp p, by simp [opnds, hargs], by simp [rdX]⟩))
      ·cases x with
       | tmp p => exact absurd rfl (hp p)
       | _ => simp only [List.append_nil] at h5; rw [h5.1, h5.2]
     have happ : ∀ (x y : Operand) (rest : List Operand), b = .append → args.toList = x :: rest → (isNil (evalA s.T x) = true → ∀ bb zs es, newRow X.idOf s bb dst zs es = newRow X.idOf s' bb dst zs es) ∧ ∀ bb q zs zs' es, evalA s.T x = .rf q zs' → appRow X.idOf X.alt s bb dst x q zs es = appRow X.idOf X.alt s' bb dst x q zs es := by
      intro x y rest hb hargs
      refine ⟨fun hnil bb zs es => newRow_local fun d q hd hq => ?_, fun bb q zs zs' es hA => appRow_local fun d q' p hd hq hx => ?_⟩
      ·have hk := key x rest q hb hargs d hd (by
        subst hb
        simp only [nfA, hd, hq, hargs]
        cases hA : evalA s.T x <;> rw [hA] at hnil <;> first | rfl | cases hnil)
       cases x with
       | tmp p => exact (hk.1 p rfl).2
       | _ => exact hk.2 (fun p h => by cases h)
      ·refine (key x rest q' hb hargs d hd ?_).1 p hx
       subst hb
       cases hi : X.idOf d with
       | none => rw [hi] at hq; cases hq
       | some q1 =>
         rw [hi] at hq
         injection hq with hq
         simp only [nfA, hd, hi, hargs, hA]
         rw [← hq]
     clear key
     generalize hargs : args.toList = as at h1 h2 happ ⊢
     generalize tys.toList = ts
     rcases as with _ | ⟨x, _ | ⟨y, _ | ⟨z, as⟩⟩⟩
     ·cases b <;> rfl
     ·have e1 := h1 x (by simp)
      have e2 := h2 x (by simp)
      rcases ts with _ | ⟨t, _ | ⟨t', ts⟩⟩
      ·cases b <;> rfl
      ·cases b <;> first | rfl | (simp only; rw [← e1]; exact cLen_local _ _ e2) | (simp only; rw [← e1]; exact cClear_local _ _ e2)
      ·cases b <;> rfl
     ·have e1 := h1 x (by simp)
      have e2 := h2 x (by simp)
      have e3 := h1 y (by simp)
      have e4 := h2 y (by simp)
      have mm : ∀ m : Bool, cMinMax m dst (evalA s.T x) (evalA s.T y) = cMinMax m dst (evalA s'.T x) (evalA s'.T y) := fun m => by rw [e1, e3]
      rcases ts with _ | ⟨t, _ | ⟨t', _ | ⟨t'', ts⟩⟩⟩
      ·cases b <;> first | rfl | exact mm _
      ·cases b <;> first | rfl | exact mm _
      ·cases b <;> first | rfl | exact mm _ | (simp only; rw [← e1, ← e3]; exact cDelete_local _ _ e2) | (simp only; rw [← e1, ← e3]; exact cAppendZ_local _ _ _ _ e2 e4 (fun hnil bb zs es => (happ x y [y] rfl rfl).1 hnil bb zs es) (fun bb q zs zs' es hA => (happ x y [y] rfl rfl).2 bb q zs zs' es hA))
      ·cases b <;> first | rfl | exact mm _
     ·cases b <;> rfl
 | _ => rfl
end
end Go.Proofs.Gv
