import Derived.Test.YthnbpgiohimkoaaPw26
import Derived.ProofKit
import Derived.OpenShut
import Derived.ChangeOld
import Derived.SizedLaws
set_option linter.unusedVariables false
namespace Go.Proofs.Gv
open Go.ChangeShapes Go.WideShapes Go.ChangeAt Go.RowKit
def kdF (P : Program) (k : TypeId → Option (List Kd)) : Nat → List Field → Option (List Kd)
 | _, [] => some []
 | o, x :: l => match k x.type with
   | some a => match Nat.beq x.offset o && Nat.beq (P.cellsOf x.type) a.length with
     | true => (kdF P k (o + a.length) l).map (a ++ ·)
     | false => none
   | none => none
def kdR (P : Program) : Nat → TypeId → Option (List Kd)
 | 0, _ => none
 | d + 1, t => match P.underlying t with
   | some (.int k) => some [.int k]
   | some .bool => some [.bool]
   | some .string => some [.str]
   | some (.slice e) => match kdR P d e with
     | some zs => match Nat.beq (P.cellsOf e) zs.length && Nat.blt 0 zs.length with
       | true => some [.sl zs]
       | false => none
     | none => none
   | some (.struct fs) => match kdF P (kdR P d) 0 fs.toList with
     | some zs => match Nat.beq (P.cellsOf t) zs.length with
       | true => some zs
       | false => none
     | none => none
   | some (.array n e) => match kdR P d e with
     | some zs => match Nat.beq (P.cellsOf t) (n * zs.length) && Nat.beq (P.cellsOf e) zs.length with
       | true => some (List.replicate n zs).flatten
       | false => none
     | none => none
   | _ => none
 mutual
def okK : Kd → AV → Prop
 | .any, _ => False
 | .int k, x => ∃ n, x = .int k n ∧ (Lit.int k n).wf = true
 | .bool, x => ∃ b, x = .bool b
 | .str, x => ∃ l, x = .str l ∧ l.length ≤ maxLen
 | .sl zs, x => ∃ es, x = .sl .imm zs es ∧ es.length ≤ maxLen ∧ ∀ e ∈ es, okKL zs e
def okKL : List Kd → List AV → Prop
 | [], xs => xs = []
 | z :: zs, xs => ∃ x xs', xs = x :: xs' ∧ okK z x ∧ okKL zs xs'
 end
theorem okKL_len : ∀ {zs : List Kd} {xs : List AV}, okKL zs xs → xs.length = zs.length := by
 intro zs
 induction zs with
 | nil => intro xs h; simp only [okKL] at h; subst h; rfl
 | cons z zs ih =>
   intro xs h
   simp only [okKL] at h
   obtain ⟨x, xs', rfl, _, h⟩ := h
   simp [ih h]
theorem okKL_row : ∀ {zs : List Kd} {xs : List AV}, okKL zs xs → okRow zs xs = true := by
 intro zs
 induction zs with
 | nil => intro xs h; simp only [okKL] at h; subst h; rfl
 | cons z zs ih =>
   intro xs h
   simp only [okKL] at h
   obtain ⟨x, xs', rfl, h1, h⟩ := h
   simp only [okRow, ih h, Bool.and_true]
   cases z with
   | any => rfl
   | int k => simp only [okK] at h1; obtain ⟨n, rfl, _⟩ := h1; simp [isKind]
   | bool => simp only [okK] at h1; obtain ⟨n, rfl⟩ := h1; rfl
   | str => simp only [okK] at h1; obtain ⟨n, rfl, _⟩ := h1; rfl
   | sl zs' =>
     simp only [okK] at h1
     obtain ⟨n, rfl, _⟩ := h1
     have key : ∀ z : Kd, Kd.eq z z = true := by
      intro z
      refine Kd.rec (motive_1 := fun z => Kd.eq z z = true) (motive_2 := fun l => Kd.eqL l l = true) ?_ ?_ ?_ ?_ ?_ ?_ ?_ z <;> intros <;> simp_all [Kd.eq, Kd.eqL]
     have key2 : ∀ l : List Kd, Kd.eqL l l = true := by
      intro l
      induction l with
      | nil => rfl
      | cons a l ih => simp [Kd.eqL, key, ih]
     simp only [isKind, key2]
theorem okKL_append : ∀ {zs : List Kd} {xs : List AV} {zs' : List Kd} {xs' : List AV}, okKL zs xs → okKL zs' xs' → okKL (zs ++ zs') (xs ++ xs') := by
 intro zs
 induction zs with
 | nil => intro xs zs' xs' h h'; simp only [okKL] at h; subst h; exact h'
 | cons z zs ih =>
   intro xs zs' xs' h h'
   simp only [okKL] at h
   obtain ⟨x, xs1, rfl, h1, h⟩ := h
   exact ⟨x, xs1 ++ xs', rfl, h1, ih h h'⟩
theorem okK_one {z : Kd} {x : AV} {v : Value} {G : Gh} {w : World} {r : Bool} (h : okK z x) (hv : V G w r x v) : v.oneCell' = true := by
 cases z with
 | any => exact h.elim
 | int k => simp only [okK] at h; obtain ⟨n, rfl, _⟩ := h; cases hv; rfl
 | bool => simp only [okK] at h; obtain ⟨n, rfl⟩ := h; cases hv; rfl
 | str => simp only [okK] at h; obtain ⟨n, rfl, _⟩ := h; cases hv; rfl
 | sl zs => simp only [okK] at h; obtain ⟨n, rfl, _⟩ := h; cases hv <;> rfl
theorem okKL_get : ∀ {zs : List Kd} {xs : List AV}, okKL zs xs → ∀ {j : Nat} {x : AV}, xs[j]? = some x → ∃ z, okK z x := by
 intro zs
 induction zs with
 | nil => intro xs h; simp only [okKL] at h; subst h; intro j x hx; simp at hx
 | cons z zs ih =>
   intro xs h
   simp only [okKL] at h
   obtain ⟨x0, xs', rfl, h1, h⟩ := h
   intro j x hx
   cases j with
   | zero => simp at hx; subst hx; exact ⟨z, h1⟩
   | succ j => exact ih h (by simpa using hx)
section
variable {H : Type} (ec : TypeId × Value → H) (P : Program) (w : World)
def Rd (t : TypeId) (cs : List Value) (d : DataW H) : Prop := ∃ fuel ps, DataW.trod ec P w 0 (fun _ => true) true fuel t cs = some (d, ps)
variable {ec P w}
theorem list_of {α : Type} (n : Nat) (p : Nat → α → Prop) (h : ∀ i, i < n → ∃ x, p i x) : ∃ l : List α, l.length = n ∧ ∀ i x, l[i]? = some x → p i x := by
 induction n with
 | zero => exact ⟨[], rfl, fun i x h => by simp at h⟩
 | succ n ih =>
   obtain ⟨l, h1, h2⟩ := ih (fun i hi => h i (by omega))
   obtain ⟨x, hx⟩ := h n (by omega)
   refine ⟨l ++ [x], by simp [h1], fun i y hy => ?_⟩
   by_cases hi : i < n
   ·rw [List.getElem?_append_left (by omega)] at hy
    exact h2 i y hy
   ·rw [List.getElem?_append_right (by omega)] at hy
    have : i - l.length = 0 := by
     have := (List.getElem?_eq_some_iff.1 hy).1
     simp at this
     omega
    rw [this] at hy
    simp at hy
    subst hy
    have : i = n := by omega
    subst this
    exact hx
theorem add_pl (b o k : Nat) : (⟨b, o, none⟩ : Addr).add k = ⟨b, o + k, none⟩ := by simp [Addr.add]
def VL (w : World) (xs : List AV) (cs : List Value) : Prop := xs.length = cs.length ∧ ∀ (r : Bool) (i : Nat) (x : AV) (v : Value), xs[i]? = some x → cs[i]? = some v → V lawG w r x v
theorem rd_fields {k : TypeId → Option (List Kd)} {cs : List Value} (ih : ∀ t zs cs d, k t = some zs → Rd ec P w t cs d → ∃ xs, okKL zs xs ∧ VL w xs cs) :
  ∀ (fs : List Field) (o : Nat) (zs : List Kd), kdF P k o fs = some zs → (∀ f ∈ fs, ∃ d', Rd ec P w f.type ((cs.drop f.offset).take (P.cellsOf f.type)) d') →
  ∃ xs, okKL zs xs ∧ ∀ (r : Bool) (i : Nat) (x : AV) (v : Value), xs[i]? = some x → cs[o + i]? = some v → V lawG w r x v := by
 intro fs
 induction fs with
 | nil =>
   intro o zs h _
   simp only [kdF, Option.some.injEq] at h
   subst h
   exact ⟨[], rfl, fun r i x v hx => by simp at hx⟩
 | cons f fs ihf =>
   intro o zs h hf
   simp only [kdF] at h
   split at h
   ·rename_i a ha
    split at h
    ·rename_i hc
     rw [Bool.and_eq_true] at hc
     have ho := Nat.eq_of_beq_eq_true hc.1
     have hl := Nat.eq_of_beq_eq_true hc.2
     cases hk : kdF P k (o + a.length) fs with
     | none => rw [hk] at h; cases h
     | some b =>
       rw [hk] at h
       simp only [Option.map_some, Option.some.injEq] at h
       subst h
       obtain ⟨d', hd⟩ := hf f List.mem_cons_self
       obtain ⟨x1, h1, h2, h3⟩ := ih _ _ _ _ ha hd
       obtain ⟨x2, h4, h5⟩ := ihf _ _ hk fun g hg => hf g (List.mem_cons_of_mem _ hg)
       have hx1 := okKL_len h1
       refine ⟨x1 ++ x2, okKL_append h1 h4, fun r i x v hx hv => ?_⟩
       by_cases hi : i < x1.length
       ·rw [List.getElem?_append_left hi] at hx
        refine h3 r i x v hx ?_
        rw [ho, hl, List.getElem?_take, List.getElem?_drop]
        rw [if_pos (by omega)]
        exact hv
       ·rw [List.getElem?_append_right (by omega)] at hx
        refine h5 r (i - x1.length) x v hx ?_
        rw [← hx1, show o + x1.length + (i - x1.length) = o + i by omega]
        exact hv
    ·cases h
   ·cases h
theorem rd_elems {n : Nat} {zs : List Kd} {cs : List Value} (h : ∀ i, i < n → ∃ xs, okKL zs xs ∧ VL w xs ((cs.drop (i * zs.length)).take zs.length)) (hl : cs.length = n * zs.length) :
  ∃ xs, okKL (List.replicate n zs).flatten xs ∧ xs.length = n * zs.length ∧ ∀ (r : Bool) (i : Nat) (x : AV) (v : Value), xs[i]? = some x → cs[i]? = some v → V lawG w r x v := by
 have key : ∀ m, m ≤ n → ∃ xs, okKL (List.replicate m zs).flatten xs ∧ xs.length = m * zs.length ∧ ∀ (r : Bool) (i : Nat) (x : AV) (v : Value), xs[i]? = some x → cs[i]? = some v → V lawG w r x v := by
  intro m
  induction m with
  | zero => intro _; exact ⟨[], rfl, by simp, fun r i x v hx => by simp at hx⟩
  | succ m ih =>
    intro hm
    obtain ⟨x1, h1, h2, h3⟩ := ih (by omega)
    obtain ⟨x2, h4, h5, h6⟩ := h m (by omega)
    have hx2 := okKL_len h4
    refine ⟨x1 ++ x2, ?_, by rw [List.length_append, h2, hx2, Nat.succ_mul], fun r i x v hx hv => ?_⟩
    ·rw [List.replicate_succ', List.flatten_append]
     simpa using okKL_append h1 h4
    ·by_cases hi : i < x1.length
     ·rw [List.getElem?_append_left hi] at hx
      exact h3 r i x v hx hv
     ·rw [List.getElem?_append_right (by omega)] at hx
      refine h6 r _ x v hx ?_
      have : i - x1.length < x2.length := (List.getElem?_eq_some_iff.1 hx).1
      rw [List.getElem?_take, if_pos (by omega), List.getElem?_drop, ← h2, show x1.length + (i - x1.length) = i by omega]
      exact hv
 exact key n (Nat.le_refl n)
theorem rd_slice {e t : TypeId} {zs : List Kd} {cs : List Value} {d : DataW H} (hu : P.underlying t = some (.slice e)) (hz : P.cellsOf e = zs.length) (hp : 0 < zs.length)
  (ih : ∀ cs d, Rd ec P w e cs d → ∃ xs, okKL zs xs ∧ VL w xs cs) (h : Rd ec P w t cs d) : ∃ x v, cs = [v] ∧ okK (.sl zs) x ∧ ∀ r, V lawG w r x v := by
 obtain ⟨f, ps, h⟩ := h
 rcases DataW.trod_slice hu h with ⟨h1, _⟩ | ⟨a, len, cap, elems, rest, n, _, h1, h2, _, h3, h4, h5, h6, _⟩
 ·exact ⟨.sl .imm zs [], _, h1, ⟨[], rfl, by simp, by simp⟩, fun r => .slnil r _ _ _ _ (fun _ => rfl) (by simp [maxLen]) (fun h => by cases h)⟩
 ·rw [hz] at h6
  obtain ⟨es, hl, hes⟩ := list_of len (fun i xs => okKL zs xs ∧ ∀ (j : Nat) (x : AV), xs[j]? = some x → ∃ v, w.cell? ((a.add (i * zs.length)).add j) = some v ∧ ∀ r, V lawG w r x v) (fun i hi => by
   have h7 := h6 i hi
   rw [List.getElem?_eq_getElem (by omega)] at h7
   cases hc : w.cells? 0 (a.add (i * zs.length)) zs.length with
   | none => rw [hc] at h7; simp at h7
   | some cs' =>
     rw [hc] at h7
     obtain ⟨xs, h8, h9, h10⟩ := ih cs' _ ⟨n, _, h7⟩
     refine ⟨xs, h8, fun j x hx => ?_⟩
     have hj : j < cs'.length := by rw [← h9]; exact (List.getElem?_eq_some_iff.1 hx).1
     refine ⟨cs'[j], ?_, fun r => h10 r j x _ hx (List.getElem?_eq_getElem hj)⟩
     have := (World.cells?_some hc).2.2 j (by rw [← okKL_len h8]; exact (List.getElem?_eq_some_iff.1 hx).1)
     rw [this, List.getElem?_eq_getElem hj])
  cases hlen : len with
  | zero =>
    subst hlen
    refine ⟨.sl .imm zs [], _, h1, ⟨[], rfl, by simp, by simp⟩, fun r => .slnil r _ _ _ _ (fun h => by cases h) h4 (fun h => by cases h)⟩
  | succ m =>
    have h0 : 0 < es.length := by omega
    obtain ⟨hk0, hc0⟩ := hes 0 es[0] (List.getElem?_eq_getElem h0)
    have hk0' := okKL_len hk0
    obtain ⟨v0, hq, _⟩ := hc0 0 (es[0][0]'(by omega)) (List.getElem?_eq_getElem _)
    have ha : ((a.add (0 * zs.length)).add 0) = a := by simp [Addr.add]
    rw [ha] at hq
    have hsp : a.spot = none := by
     unfold World.cell? at hq
     split at hq
     ·cases hs : a.spot with
      | none => rfl
      | some _ => rw [hs] at hq; simp at hq
     ·cases hq
    have hblt := World.block_lt_of_cell? w _ hq
    obtain ⟨b, o, s⟩ := a
    simp at hsp
    subst hsp
    refine ⟨.sl .imm zs es, _, h1, ⟨es, rfl, by omega, fun e he => ?_⟩, fun r => ?_⟩
    ·obtain ⟨i, hi⟩ := List.getElem?_of_mem he
     exact (hes i e hi).1
    ·have hc : ∀ (i j : Nat) (e : List AV) (x : AV), es[i]? = some e → e[j]? = some x → ∃ v, w.cell? ⟨b, o + i * zs.length + j, none⟩ = some v ∧ ∀ r, V lawG w r x v := by
      intro i j e x hi hj
      have := (hes i e hi).2 j x hj
      rw [add_pl, add_pl] at this
      exact this
     rw [← hl]
     refine .sl r .imm zs es b o cap (fun i j => (w.cell? ⟨b, o + i * zs.length + j, none⟩).getD default) (fun _ => rfl) (by omega) h4 hblt (.inl rfl) (fun e he => ?_) (fun i j e x hi hj => ?_) (fun i j e x hi hj => ?_)
     ·obtain ⟨i, hi⟩ := List.getElem?_of_mem he
      exact okKL_row (hes i e hi).1
     ·obtain ⟨v, hv, hV⟩ := hc i j e x hi hj
      rw [hv]
      obtain ⟨z, hz'⟩ := okKL_get (hes i e hi).1 hj
      exact ⟨rfl, okK_one hz' (hV true)⟩
     ·obtain ⟨v, hv, hV⟩ := hc i j e x hi hj
      rw [hv]
      exact hV false
theorem VL.one {x : AV} {v : Value} (h : ∀ r, V lawG w r x v) : VL w [x] [v] := ⟨rfl, fun r i y u hy hu => by
 cases i with
 | zero => simp at hy hu; subst hy hu; exact h r
 | succ i => simp at hy⟩
theorem rd_av : ∀ (n : Nat) (t : TypeId) (zs : List Kd) (cs : List Value) (d : DataW H), kdR P n t = some zs → Rd ec P w t cs d → ∃ xs, okKL zs xs ∧ VL w xs cs := by
 intro n
 induction n with
 | zero => intro t zs cs d h; cases h
 | succ n ih =>
   intro t zs cs d hk h
   simp only [kdR] at hk
   split at hk
   ·rename_i k hu
    injection hk with hk
    subst hk
    obtain ⟨f, ps, h⟩ := h
    obtain ⟨m, h1, _, h3⟩ := DataW.trod_int hu h
    subst h1
    exact ⟨[.int k m], ⟨_, [], rfl, ⟨m, rfl, h3⟩, rfl⟩, .one fun r => .int r k m⟩
   ·rename_i hu
    injection hk with hk
    subst hk
    obtain ⟨f, ps, h⟩ := h
    obtain ⟨b, h1, _⟩ := DataW.trod_bool hu h
    subst h1
    exact ⟨[.bool b], ⟨_, [], rfl, ⟨b, rfl⟩, rfl⟩, .one fun r => .bool r b⟩
   ·rename_i hu
    injection hk with hk
    subst hk
    obtain ⟨f, ps, h⟩ := h
    obtain ⟨s, h1, _, h3⟩ := DataW.trod_string hu h
    subst h1
    exact ⟨[.str s.data.toList], ⟨_, [], rfl, ⟨_, rfl, by rw [Array.length_toList]; exact h3⟩, rfl⟩, .one fun r => .str r s.data.toList⟩
   ·rename_i e hu
    split at hk
    ·rename_i zs' he
     split at hk
     ·rename_i hc
      rw [Bool.and_eq_true] at hc
      injection hk with hk
      subst hk
      obtain ⟨x, v, rfl, h1, h2⟩ := rd_slice hu (Nat.eq_of_beq_eq_true hc.1) (Nat.le_of_ble_eq_true hc.2) (fun cs d => ih e zs' cs d he) h
      exact ⟨[x], ⟨_, [], rfl, h1, rfl⟩, .one h2⟩
     ·cases hk
    ·cases hk
   ·rename_i fs hu
    split at hk
    ·rename_i zs' hf
     split at hk
     ·rename_i hc
      injection hk with hk
      subst hk
      obtain ⟨f, ps, h⟩ := h
      obtain ⟨xs, m, _, _, h3, h4, h5⟩ := DataW.trod_struct hu h
      obtain ⟨ys, h6, h7⟩ := rd_fields (cs := cs) (ec := ec) ih fs.toList 0 zs' hf fun fd hfd => by
       obtain ⟨i, hi⟩ := List.getElem?_of_mem hfd
       have hi' : fs[i]? = some fd := by simpa using hi
       have h8 := h5 i fd hi'
       have hlt : i < xs.length := by rw [h4]; exact (Array.getElem?_eq_some_iff.1 hi').1
       rw [List.getElem?_eq_getElem hlt] at h8
       exact ⟨_, m, _, h8⟩
      refine ⟨ys, h6, ?_, fun r i x v hx hv => h7 r i x v hx (by simpa using hv)⟩
      rw [okKL_len h6, h3, Nat.eq_of_beq_eq_true hc]
     ·cases hk
    ·cases hk
   ·rename_i k e hu
    split at hk
    ·rename_i zs' he
     split at hk
     ·rename_i hc
      rw [Bool.and_eq_true] at hc
      injection hk with hk
      subst hk
      obtain ⟨f, ps, h⟩ := h
      obtain ⟨xs, m, _, _, h3, h4, h5⟩ := DataW.trod_array hu h
      rw [Nat.eq_of_beq_eq_true hc.1] at h3
      rw [Nat.eq_of_beq_eq_true hc.2] at h5
      obtain ⟨ys, h6, h7, h8⟩ := rd_elems (n := k) (zs := zs') (cs := cs) (w := w) (fun i hi => by
       have h8 := h5 i hi
       rw [List.getElem?_eq_getElem (by omega)] at h8
       exact ih e zs' _ _ he ⟨m, _, h8⟩) h3
      exact ⟨ys, h6, by rw [h7, h3], h8⟩
     ·cases hk
    ·cases hk
   ·cases hk
def VT (w : World) (xs : List AV) (vs : List Value) : Prop := ∀ (i : Nat) (x : AV) (v : Value), xs[i]? = some x → vs[i]? = some v → V lawG w true x v
theorem VT.nil : VT w [] [] := fun i x v h => by simp at h
theorem VT.cons {x : AV} {v : Value} {xs : List AV} {vs : List Value} (h : V lawG w true x v) (hs : VT w xs vs) : VT w (x :: xs) (v :: vs) := fun i y u hy hu => by
 cases i with
 | zero => simp at hy hu; subst hy hu; exact h
 | succ i => exact hs i y u (by simpa using hy) (by simpa using hu)
theorem VT.of {xs : List AV} {vs : List Value} (h : VT w xs vs) : ∀ (i : Nat) (x : AV) (v : Value), xs[i]? = some x → vs.toArray[i]? = some v → V lawG w true x v := fun i x v hx hv => h i x v hx (by simpa using hv)
theorem rd_one {n : Nat} {t : TypeId} {z : Kd} {v : Value} {d : DataW H} (hk : kdR P n t = some [z]) (hv : v.cells = #[v]) (h : Rd ec P w t v.cells.toList d) : ∃ x, okK z x ∧ ∀ r, V lawG w r x v := by
 obtain ⟨xs, h1, h2, h3⟩ := rd_av n t _ _ d hk h
 obtain ⟨x, xs', rfl, h4, h5⟩ := h1
 simp only [okKL] at h5
 subst h5
 exact ⟨x, h4, fun r => h3 r 0 x v rfl (by rw [hv]; rfl)⟩
theorem rd_agg {n : Nat} {t : TypeId} {zs : List Kd} {cs : Array Value} {d : DataW H} (hk : kdR P n t = some zs) (h : Rd ec P w t (Value.agg cs).cells.toList d) : ∃ xs, okKL zs xs ∧ ∀ r, V lawG w r (.agg xs) (.agg cs) := by
 obtain ⟨xs, h1, h2, h3⟩ := rd_av n t _ _ d hk h
 have hc : (Value.agg cs).cells = cs := rfl
 rw [hc] at h2 h3
 exact ⟨xs, h1, fun r => .agg r xs cs (by simpa using h2) fun i x v hx hv => h3 r i x v hx (by simpa using hv)⟩
end
theorem wf_u8 {n : Int} (h : (Lit.int .u8 n).wf = true) : 0 ≤ n ∧ n ≤ 255 := by
 simpa [Lit.wf, IntKind.min, IntKind.max, IntKind.signed, IntKind.bits] using h
theorem wf_u16 {n : Int} (h : (Lit.int .u16 n).wf = true) : 0 ≤ n ∧ n ≤ 65535 := by
 simpa [Lit.wf, IntKind.min, IntKind.max, IntKind.signed, IntKind.bits] using h
theorem wf_u32 {n : Int} (h : (Lit.int .u32 n).wf = true) : 0 ≤ n ∧ n ≤ 4294967295 := by
 simpa [Lit.wf, IntKind.min, IntKind.max, IntKind.signed, IntKind.bits] using h
theorem wf_u64 {n : Int} (h : (Lit.int .u64 n).wf = true) : 0 ≤ n ∧ n ≤ 18446744073709551615 := by
 simpa [Lit.wf, IntKind.min, IntKind.max, IntKind.signed, IntKind.bits] using h
theorem wf_i64 {n : Int} (h : (Lit.int .i64 n).wf = true) : -9223372036854775808 ≤ n ∧ n ≤ 9223372036854775807 := by
 simpa [Lit.wf, IntKind.min, IntKind.max, IntKind.signed, IntKind.bits] using h
theorem wf_i32 {n : Int} (h : (Lit.int .i32 n).wf = true) : -2147483648 ≤ n ∧ n ≤ 2147483647 := by
 simpa [Lit.wf, IntKind.min, IntKind.max, IntKind.signed, IntKind.bits] using h
end Go.Proofs.Gv
