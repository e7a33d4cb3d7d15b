import Derived.Test.YthnbpgiohimkoaaPw04
set_option linter.unusedVariables false
namespace Go.Proofs.Gv
open Go.RowKit
def Quiet (P : Program) (o : Oper) (a : Act) (w : World) (G : Gh) (u : List Wr) : Prop :=
 ∃ d x v, o.dst = some d ∧ u = [.put d x] ∧ (execOp a.eval o).run P w = .ok (.value v) w ∧ V G w true x v
theorem rCond_inv {b : Bool} {d : Option Nat} {x : AV} {u : List Wr} (h : rCond b d x = some (true, u)) : b = true ∧ ∃ d', d = some d' ∧ u = [.put d' x] := by
 unfold rCond at h
 split at h
 ·rename_i d'
  injection h with h
  injection h with h1 h2
  exact ⟨h1, d', rfl, h2.symm⟩
 ·cases h
theorem rOne_inv {b : Bool} {d : Option Nat} {x : AV} {u : List Wr} (h : rOne d x = some (b, u)) : b = true ∧ ∃ d', d = some d' ∧ u = [.put d' x] := by
 unfold rOne at h
 split at h
 ·rename_i d'
  injection h with h
  injection h with h1 h2
  exact ⟨h1.symm, d', rfl, h2.symm⟩
 ·cases h
theorem V.int_inv {G : Gh} {rr : Bool} {w : World} {k : IntKind} {n : Int} {v : Value} (h : V G w rr (.int k n) v) : v = .int k n := by cases h; rfl
theorem V.bool_inv {G : Gh} {rr : Bool} {w : World} {b : Bool} {v : Value} (h : V G w rr (.bool b) v) : v = .bool b := by cases h; rfl
theorem V.str_inv {G : Gh} {rr : Bool} {w : World} {l : List UInt8} {v : Value} (h : V G w rr (.str l) v) : v = .string ⟨l.toArray⟩ := by cases h; rfl
theorem V.nil_inv {G : Gh} {rr : Bool} {w : World} {v : Value} (h : V G w rr .nil v) : v = .slice none 0 0 := by cases h; rfl
section
variable {P : Program} {a : Act} {w : World} {G : Gh} {o : Oper} {u : List Wr}
theorem Quiet.mk' {d : Option Nat} {x : AV} {v : Value} {b : Bool} (hd : d = o.dst) (hc : rCond b d x = some (true, u)) (hr : b = true → (execOp a.eval o).run P w = .ok (.value v) w ∧ V G w true x v) : Quiet P o a w G u := by
 obtain ⟨hb, d', h1, h2⟩ := rCond_inv hc
 obtain ⟨h3, h4⟩ := hr hb
 exact ⟨d', x, v, by rw [← hd, h1], h2, h3, h4⟩
theorem Quiet.mk1 {d : Option Nat} {x : AV} {v : Value} (hd : d = o.dst) (hc : rOne d x = some (true, u)) (hr : (execOp a.eval o).run P w = .ok (.value v) w ∧ V G w true x v) : Quiet P o a w G u := by
 obtain ⟨_, d', h1, h2⟩ := rOne_inv hc
 exact ⟨d', x, v, by rw [← hd, h1], h2, hr.1, hr.2⟩
theorem ok_un {op : UnOp} {t : TypeId} {x : Operand} {X : AV} (ho : o.op = .unOp op t x) (hx : V G w true X (a.eval x)) (hc : cUn o.dst op X = some (true, u)) : Quiet P o a w G u := by
 unfold cUn at hc
 split at hc
 ·refine Quiet.mk1 rfl hc (v := .bool _) ⟨?_, .bool _ _⟩
  simp [execOp, ho, hx.bool_inv, Op.unary]
 ·refine Quiet.mk1 rfl hc (v := .int _ _) ⟨?_, .int _ _ _⟩
  simp [execOp, ho, hx.int_inv, Op.unary, Op.intArith]
 ·cases hc
theorem ok_pick {c x y : Operand} {C X Y : AV} (ho : o.op = .pick c x y) (hcv : V G w true C (a.eval c)) (hx : V G w true X (a.eval x)) (hy : V G w true Y (a.eval y)) (hc : cPick o.dst C X Y = some (true, u)) : Quiet P o a w G u := by
 unfold cPick at hc
 split at hc
 ·rename_i b
  split at hc
  ·rename_i p q
   refine Quiet.mk1 rfl hc (v := .bool (cond b p q)) ⟨?_, .bool _ _⟩
   simp only [execOp, ho, hcv.bool_inv, hx.bool_inv, hy.bool_inv]
   cases b <;> simp [asBool]
  ·cases b
   ·simp only [cond_false] at hc
    refine Quiet.mk1 rfl hc (v := a.eval y) ⟨?_, hy⟩
    simp [execOp, ho, hcv.bool_inv, asBool]
   ·simp only [cond_true] at hc
    refine Quiet.mk1 rfl hc (v := a.eval x) ⟨?_, hx⟩
    simp [execOp, ho, hcv.bool_inv, asBool]
 ·cases hc
theorem ok_nil {x : Operand} {X : AV} (ho : o.op = .nilCheck x) (hx : V G w true X (a.eval x)) (hc : cNil o.dst X = some (true, u)) : Quiet P o a w G u := by
 unfold cNil at hc
 split at hc
 all_goals first
  | (refine Quiet.mk1 rfl hc (v := a.eval x) ⟨?_, hx⟩
     generalize hv : a.eval x = v at hx
     cases hx
     simp [execOp, ho, hv])
  | cases hc
theorem intA_ok {op : BinOp} {t : TypeId} {k : IntKind} {p q : Int} {r : AV} {b : Bool} (h : intA op k p q = some (b, r)) (hb : b = true) : ∃ v, (binOp op t (.int k p) (.int k q)).run P w = .ok v w ∧ V G w true r v := by
 subst hb
 cases op <;> simp only [intA, Option.some.injEq, Prod.mk.injEq, reduceCtorEq, true_and] at h
 case add => subst h; exact ⟨_, by simp [binOp, Op.intArith], .int _ _ _⟩
 case sub => subst h; exact ⟨_, by simp [binOp, Op.intArith], .int _ _ _⟩
 case mul => subst h; exact ⟨_, by simp [binOp, Op.intArith], .int _ _ _⟩
 case quo => obtain ⟨h0, rfl⟩ := h; simp at h0; exact ⟨_, by simp [binOp, Op.intDiv, h0], .int _ _ _⟩
 case rem => obtain ⟨h0, rfl⟩ := h; simp at h0; exact ⟨_, by simp [binOp, Op.intDiv, h0], .int _ _ _⟩
 case and => subst h; exact ⟨_, by simp [binOp, intBits_and], .int _ _ _⟩
 case or => subst h; exact ⟨_, by simp [binOp, intBits_or], .int _ _ _⟩
 case xor => subst h; exact ⟨_, by simp [binOp, intBits_xor], .int _ _ _⟩
 case eql => subst h; exact ⟨_, by simp [binOp, Op.intCmp], .bool _ _⟩
 case neq => subst h; exact ⟨_, by simp [binOp, Op.intCmp], .bool _ _⟩
 case lss => subst h; exact ⟨_, by simp [binOp, Op.intCmp], .bool _ _⟩
 case leq => subst h; exact ⟨_, by simp [binOp, Op.intCmp], .bool _ _⟩
 case gtr => subst h; exact ⟨_, by simp [binOp, Op.intCmp], .bool _ _⟩
 case geq => subst h; exact ⟨_, by simp [binOp, Op.intCmp], .bool _ _⟩
theorem guard_int (op : BinOp) (t : TypeId) (x y : Operand) (k k' : IntKind) (p q : Int) : (eqGuard op t x y (.int k p) (.int k' q)).run P w = .ok () w := by
 cases op <;> simp [eqGuard]
theorem guard_str (op : BinOp) (t : TypeId) (x y : Operand) (p q : ByteArray) : (eqGuard op t x y (.string p) (.string q)).run P w = .ok () w := by
 cases op <;> simp [eqGuard]
theorem guard_bool (op : BinOp) (t : TypeId) (x y : Operand) (p q : Bool) : (eqGuard op t x y (.bool p) (.bool q)).run P w = .ok () w := by
 cases op <;> simp [eqGuard]
theorem shiftA_ok {op : BinOp} {t : TypeId} {k k' : IntKind} {p q : Int} {r : AV} {b : Bool} (h : shiftA op k p q = some (b, r)) (hb : b = true) : ∃ v, (binOp op t (.int k p) (.int k' q)).run P w = .ok v w ∧ V G w true r v := by
 subst hb
 cases op <;> simp only [shiftA, Option.some.injEq, Prod.mk.injEq, reduceCtorEq] at h
 case shl => obtain ⟨h0, rfl⟩ := h; simp at h0; exact ⟨_, by simp [binOp, Op.shift, Int.not_lt.2 h0], .int _ _ _⟩
 case shr => obtain ⟨h0, rfl⟩ := h; simp at h0; exact ⟨_, by simp [binOp, Op.shift, Int.not_lt.2 h0], .int _ _ _⟩
theorem str_beq (x y : List UInt8) : ((⟨x.toArray⟩ : ByteArray).toList == (⟨y.toArray⟩ : ByteArray).toList) = (x == y) := by
 rw [ByteArray.toList_eq, ByteArray.toList_eq]
theorem str_append (x y : List UInt8) : ((⟨x.toArray⟩ : ByteArray) ++ ⟨y.toArray⟩) = ⟨(x ++ y).toArray⟩ := by
 ext1
 simp
theorem str_size (x : List UInt8) : (⟨x.toArray⟩ : ByteArray).size = x.length := rfl
theorem strA_ok {op : BinOp} {t : TypeId} {p q : List UInt8} {r : AV} {b : Bool} (h : strA op p q = some (b, r)) (hb : b = true) : ∃ v, (binOp op t (.string ⟨p.toArray⟩) (.string ⟨q.toArray⟩)).run P w = .ok v w ∧ V G w true r v := by
 subst hb
 cases op <;> simp only [strA, Option.some.injEq, Prod.mk.injEq, reduceCtorEq, true_and] at h
 case add =>
  obtain ⟨h0, rfl⟩ := h
  simp at h0
  have h1 : ¬ (((⟨p.toArray⟩ : ByteArray).size + (⟨q.toArray⟩ : ByteArray).size : Nat) : Int) > IntKind.i64.max := by
   rw [str_size, str_size]
   simp [IntKind.max, IntKind.signed, IntKind.bits]
   omega
  refine ⟨_, ?_, .str _ _⟩
  simp only [binOp, Op.stringOp, if_neg h1, str_append]
  rfl
 case eql => subst h; exact ⟨_, by simp only [binOp, Op.stringOp, str_beq]; rfl, .bool _ _⟩
 case neq => subst h; exact ⟨_, by simp only [binOp, Op.stringOp, str_beq]; rfl, .bool _ _⟩
theorem aggOf_run {t : TypeId} {b : Bool} (h : aggOf P t = some b) : (isAgg t).run P w = .ok b w := by
 unfold aggOf at h
 cases hu : P.underlying t with
 | none => rw [hu] at h; cases h
 | some d =>
   rw [hu] at h
   cases d <;> simp at h <;> subst h <;> simp [isAgg, run_underlying hu]
theorem szOf_run {t : TypeId} {n : Nat} (h : szOf P t = some n) : (sizeOf t).run P w = .ok n w := by
 unfold szOf at h
 cases hi : P.info? t with
 | none => rw [hi] at h; cases h
 | some i =>
   rw [hi] at h
   simp at h
   subst h
   simp [sizeOf, typeInfo, hi]
theorem V.agg_inv {rr : Bool} {cs : List AV} {v : Value} (h : V G w rr (.agg cs) v) : ∃ vs : Array Value, v = .agg vs ∧ cs.length = vs.size ∧ ∀ (i : Nat) (x : AV) (v : Value), cs[i]? = some x → vs[i]? = some v → V G w rr x v := by
 cases h with
 | agg _ _ vs hl h => exact ⟨vs, rfl, hl, h⟩
theorem partA_ok {rr : Bool} {t : TypeId} {xs : List AV} {off : Nat} {A : AV} {vs : Array Value} (h : partA P t xs off = some A) (hl : xs.length = vs.size) (hv : ∀ (i : Nat) (x : AV) (v : Value), xs[i]? = some x → vs[i]? = some v → V G w rr x v) :
  ∃ v, (part t vs off).run P w = .ok v w ∧ V G w rr A v := by
 unfold partA at h
 split at h
 ·rename_i n h1 h2
  injection h with h
  subst h
  refine ⟨_, by simp [part, aggOf_run h1, szOf_run h2]; rfl, ?_⟩
  refine .agg _ _ _ (by simp [Array.size_extract, hl]; omega) (fun i x v hx hvv => ?_)
  rw [List.getElem?_take] at hx
  split at hx
  ·rw [List.getElem?_drop] at hx
   rw [Array.getElem?_extract] at hvv
   split at hvv
   ·exact hv _ _ _ hx hvv
   ·cases hvv
  ·cases hx
 ·rename_i h1
  have hlt : off < xs.length := (List.getElem?_eq_some_iff.1 h).1
  have hvs : vs[off]? = some vs[off] := Array.getElem?_eq_getElem (by omega)
  exact ⟨vs[off], by simp [part, aggOf_run h1, hvs], hv _ _ _ h hvs⟩
 ·cases h
theorem eqFs_ok {rr : Bool} {rc : TypeId → AV → AV → Option Bool} {D : Nat} (hrc : ∀ t A B r va vb, rc t A B = some r → V G w rr A va → V G w rr B vb → (Op.equalIn D t va vb).run P w = .ok r w) {xs ys : List AV} {vs ws : Array Value}
  (hl : xs.length = vs.size) (hv : ∀ (i : Nat) (x : AV) (v : Value), xs[i]? = some x → vs[i]? = some v → V G w rr x v) (hl' : ys.length = ws.size) (hv' : ∀ (i : Nat) (x : AV) (v : Value), ys[i]? = some x → ws[i]? = some v → V G w rr x v) :
  ∀ (fs : List Field) (r : Bool), eqFs P rc xs ys fs = some r → (Op.eqFields D vs ws fs).run P w = .ok r w := by
 intro fs
 induction fs with
 | nil => intro r h; simp [eqFs] at h; subst h; simp [Op.eqFields]
 | cons f fs ih =>
   intro r h
   unfold eqFs at h
   split at h
   ·cases h
   ·rename_i hn
    split at h
    ·rename_i A B hA hB
     split at h
     ·rename_i p q hp hq
      injection h with h
      subst h
      obtain ⟨va, ha, hva⟩ := partA_ok hA hl hv
      obtain ⟨vb, hb, hvb⟩ := partA_ok hB hl' hv'
      have h1 := hrc _ _ _ _ _ _ hp hva hvb
      have h2 := ih _ hq
      cases p <;> simp [Op.eqFields, hn, ha, hb, h1, h2]
     ·cases h
    ·cases h
theorem eqT_ok {rr : Bool} : ∀ (d k : Nat) (t : TypeId) (A B : AV) (r : Bool) (va vb : Value), eqT P d t A B = some r → V G w rr A va → V G w rr B vb → (Op.equalIn (d + k) t va vb).run P w = .ok r w := by
 intro d
 induction d with
 | zero => intro k t A B r va vb h; cases h
 | succ d ih =>
   intro k t A B r va vb h ha hb
   rw [show d + 1 + k = (d + k) + 1 from by omega]
   unfold eqT at h
   split at h
   ·rename_i fs xs ys hu
    split at h
    ·cases h
    ·rename_i hs
     obtain ⟨vs, rfl, hl, hv⟩ := ha.agg_inv
     obtain ⟨ws, rfl, hl', hv'⟩ := hb.agg_inv
     have hf : P.fieldsOf t = fs := by simp [Program.fieldsOf, hu]
     rw [run_equalIn_struct w _ t vs ws (by rw [hf]; exact hu) (by simpa using hs), hf]
     exact eqFs_ok (fun t A B r va vb h1 h2 h3 => ih k t A B r va vb h1 h2 h3) hl hv hl' hv' _ _ h
   ·rename_i hu
    injection h with h
    subst h
    rw [ha.bool_inv, hb.bool_inv]
    exact run_equalIn_bool' w _ t _ _ hu
   ·rename_i hu
    split at h
    ·injection h with h
     subst h
     rename_i e
     subst e
     rw [ha.int_inv, hb.int_inv]
     exact run_equalIn_int w _ t _ _ _ _ hu
    ·cases h
   ·rename_i hu
    injection h with h
    subst h
    rw [ha.str_inv, hb.str_inv, run_equalIn_string w _ t _ _ hu, str_beq]
   ·cases h
theorem run_equalIn_slice {t e : TypeId} (d : Nat) (ht : P.underlying t = some (.slice e)) (A : Option Addr) (n c : Nat) : (Op.equalIn (d + 1) t (.slice A n c) (.slice none 0 0)).run P w = .ok A.isNone w := by
 unfold Op.equalIn
 cases A <;> simp [run_underlying ht]
theorem run_equal_slice {t e : TypeId} (ht : P.underlying t = some (.slice e)) (A : Option Addr) (n c : Nat) : (Op.equal t (.slice A n c) (.slice none 0 0)).run P w = .ok A.isNone w := by
 have := run_equalIn_slice (P := P) (w := w) 9999 ht A n c
 simpa [Op.equal, Op.maxDepth] using this
theorem ok_eqNil {op : BinOp} {eq : Bool} {t yt : TypeId} {x y : Operand} {k : Tk} {zs : List Kd} {es : List (List AV)} (ho : o.op = .binOp op t x y yt) (hop : (op = .eql ∧ eq = true) ∨ (op = .neq ∧ eq = false)) (hx : V G w true (.sl k zs es) (a.eval x)) (hy : V G w true .nil (a.eval y)) (hc : cEqNil P o.dst eq t k es = some (true, u)) : Quiet P o a w G u := by
 have hey := hy.nil_inv
 have key : ∀ (A : Option Addr) (n c : Nat), a.eval x = .slice A n c → A ≠ none → ∀ {e}, P.underlying t = some (.slice e) → (execOp a.eval o).run P w = .ok (.value (.bool (!eq))) w := by
  intro A n c hv hA e ht
  have h1 := run_equal_slice (P := P) (w := w) ht A n c
  have h2 : A.isNone = false := by cases A with
   | none => exact absurd rfl hA
   | some _ => rfl
  rw [h2] at h1
  rcases hop with ⟨rfl, rfl⟩ | ⟨rfl, rfl⟩ <;> simp [execOp, ho, hv, hey, eqGuard, binOp, h1]
 unfold cEqNil at hc
 generalize hv : a.eval x = v at hx key
 split at hc
 ·rename_i e ht
  cases hx with
  | slnil _ _ _ A c hA hm hn => exact Quiet.mk1 rfl hc ⟨key _ _ _ rfl (hn rfl) ht, .bool _ _⟩
  | sl _ _ _ _ b off c => exact Quiet.mk1 rfl hc ⟨key _ _ _ rfl (by simp) ht, .bool _ _⟩
 ·rename_i e ht _
  refine Quiet.mk' (v := .bool (!eq)) rfl hc fun hb => ?_
  cases hx with
  | slnil _ _ _ A c hA hm hn => simp at hb
  | sl _ _ _ _ b off c => exact ⟨key _ _ _ rfl (by simp) ht, .bool _ _⟩
 ·cases hc
theorem ok_nilNil {op : BinOp} {eq : Bool} {t yt : TypeId} {x y : Operand} (ho : o.op = .binOp op t x y yt) (hop : (op = .eql ∧ eq = true) ∨ (op = .neq ∧ eq = false)) (hx : V G w true .nil (a.eval x)) (hy : V G w true .nil (a.eval y)) (hc : cNilNil P o.dst eq t = some (true, u)) : Quiet P o a w G u := by
 have hey := hy.nil_inv
 have hex := hx.nil_inv
 unfold cNilNil at hc
 split at hc
 ·rename_i e ht
  have h1 := run_equal_slice (P := P) (w := w) ht none 0 0
  refine Quiet.mk1 rfl hc ⟨?_, .bool _ _⟩
  rcases hop with ⟨rfl, rfl⟩ | ⟨rfl, rfl⟩ <;> simp [execOp, ho, hex, hey, eqGuard, binOp, h1]
 ·cases hc
theorem run_equal_ptr {t e : TypeId} (ht : P.underlying t = some (.pointer e)) (A : Option Addr) : (Op.equal t (.pointer A) (.pointer none)).run P w = .ok A.isNone w := by
 have h : (Op.equalIn (9999 + 1) t (.pointer A) (.pointer none)).run P w = .ok A.isNone w := by
  unfold Op.equalIn
  cases A <;> simp [run_underlying ht]
 simpa [Op.equal, Op.maxDepth] using h
theorem ok_nilP {op : BinOp} {eq : Bool} {t yt : TypeId} {x y : Operand} {X : AV} (ho : o.op = .binOp op t x y yt) (hop : (op = .eql ∧ eq = true) ∨ (op = .neq ∧ eq = false)) (hx : V G w true X (a.eval x)) (hy : V G w true .nilp (a.eval y)) (hc : cNilP P o.dst eq t X = some (true, u)) : Quiet P o a w G u := by
 have hey : a.eval y = .pointer none := by
  generalize a.eval y = v at hy
  cases hy
  rfl
 unfold cNilP at hc
 split at hc
 ·rename_i e b ht hb
  have key : ∃ A : Option Addr, a.eval x = .pointer A ∧ A.isNone = b := by
   generalize a.eval x = v at hx
   unfold isNilV at hb
   split at hb
   ·rename_i h1 h2
    cases h2
   ·injection hb with hb
    subst hb
    cases hx
    exact ⟨none, rfl, rfl⟩
   all_goals first
    | (injection hb with hb
       subst hb
       cases hx
       exact ⟨_, rfl, rfl⟩)
    | cases hb
  obtain ⟨A, hA, hAb⟩ := key
  have h1 := run_equal_ptr (P := P) (w := w) ht A
  refine Quiet.mk1 rfl hc ⟨?_, .bool _ _⟩
  rw [hAb] at h1
  rcases hop with ⟨rfl, rfl⟩ | ⟨rfl, rfl⟩ <;> cases b <;> simp [execOp, ho, hA, hey, eqGuard, binOp, h1]
 ·cases hc
theorem ok_bin {op : BinOp} {t yt : TypeId} {x y : Operand} {X Y : AV} (ho : o.op = .binOp op t x y yt) (hx : V G w true X (a.eval x)) (hy : V G w true Y (a.eval y)) (hc : cBin P o.dst op t X Y = some (true, u)) : Quiet P o a w G u := by
 have fin : ∀ {R : Option (Bool × AV)}, boolR o.dst R = some (true, u) → (∀ b r, R = some (b, r) → b = true → ∃ v, (execOp a.eval o).run P w = .ok (.value v) w ∧ V G w true r v) → Quiet P o a w G u := by
  intro R hR hf
  unfold boolR at hR
  split at hR
  ·rename_i b r
   obtain ⟨hb, d', h1, h2⟩ := rCond_inv hR
   obtain ⟨v, h3, h4⟩ := hf b r rfl hb
   exact ⟨d', r, v, h1, h2, h3, h4⟩
  ·cases hR
 have run2 : ∀ v, (eqGuard op t x y (a.eval x) (a.eval y)).run P w = .ok () w → (binOp op t (a.eval x) (a.eval y)).run P w = .ok v w → (execOp a.eval o).run P w = .ok (.value v) w := by
  intro v h1 h2
  simp [execOp, ho, h1, h2]
 have eq2 : ∀ (r : Bool), eqT P 20 t X Y = some r → P.eqGuardType P.depth t = false → (op = .eql ∨ op = .neq) → (execOp a.eval o).run P w = .ok (.value (.bool (if op = .eql then r else !r))) w := by
  intro r hr hg hop
  have hXY : (∃ xs ys, X = .agg xs ∧ Y = .agg ys) ∨ (∃ p q, X = .bool p ∧ Y = .bool q) ∨ (∃ k p q, X = .int k p ∧ Y = .int k q) ∨ (∃ p q, X = .str p ∧ Y = .str q) := by
   unfold eqT at hr
   split at hr
   ·exact .inl ⟨_, _, rfl, rfl⟩
   ·exact .inr (.inl ⟨_, _, rfl, rfl⟩)
   ·split at hr
    ·rename_i e
     subst e
     exact .inr (.inr (.inl ⟨_, _, _, rfl, rfl⟩))
    ·cases hr
   ·exact .inr (.inr (.inr ⟨_, _, rfl, rfl⟩))
   ·cases hr
  have hfx := hx
  have hfy := hy
  have he := eqT_ok 20 9980 t X Y r _ _ hr hfx hfy
  have he' : (Op.equal t (a.eval x) (a.eval y)).run P w = .ok r w := by
   simpa [Op.equal, Op.maxDepth] using he
  rcases hXY with ⟨xs, ys, rfl, rfl⟩ | ⟨p, q, rfl, rfl⟩ | ⟨k, p, q, rfl, rfl⟩ | ⟨p, q, rfl, rfl⟩
  ·obtain ⟨vs, hvs, _, _⟩ := hfx.agg_inv
   obtain ⟨ws, hws, _, _⟩ := hfy.agg_inv
   refine run2 _ ?_ ?_
   ·rw [hvs, hws]
    exact run_eqGuard_agg w op t x y vs ws hg
   ·rw [hvs, hws] at he' ⊢
    rcases hop with rfl | rfl <;> simp [binOp, he']
  ·refine run2 _ ?_ ?_
   ·rw [hfx.bool_inv, hfy.bool_inv]
    exact guard_bool _ _ _ _ _ _
   ·rw [hfx.bool_inv, hfy.bool_inv] at he' ⊢
    rcases hop with rfl | rfl <;> simp [binOp, he']
  ·refine run2 _ ?_ ?_
   ·rw [hfx.int_inv, hfy.int_inv]
    exact guard_int _ _ _ _ _ _ _ _
   ·rw [hfx.int_inv, hfy.int_inv] at he ⊢
    have hr' : r = (p == q) := by
     unfold eqT at hr
     split at hr <;> simp_all
    rcases hop with rfl | rfl <;> simp [binOp, Op.intCmp, hr', bne]
  ·refine run2 _ ?_ ?_
   ·rw [hfx.str_inv, hfy.str_inv]
    exact guard_str _ _ _ _ _ _
   ·rw [hfx.str_inv, hfy.str_inv] at he ⊢
    have hr' : r = (p == q) := by
     unfold eqT at hr
     split at hr <;> simp_all
    rcases hop with rfl | rfl <;> simp only [binOp, Op.stringOp, str_beq, hr'] <;> rfl
 unfold cBin at hc
 split at hc
 ·refine fin hc (fun b r h1 h2 => ?_)
  obtain ⟨v, h3, h4⟩ := shiftA_ok (P := P) (w := w) (G := G) (t := t) h1 h2
  refine ⟨v, run2 v ?_ ?_, h4⟩
  ·rw [hx.int_inv, hy.int_inv]; exact guard_int _ _ _ _ _ _ _ _
  ·rw [hx.int_inv, hy.int_inv]; exact h3
 ·refine fin hc (fun b r h1 h2 => ?_)
  obtain ⟨v, h3, h4⟩ := shiftA_ok (P := P) (w := w) (G := G) (t := t) h1 h2
  refine ⟨v, run2 v ?_ ?_, h4⟩
  ·rw [hx.int_inv, hy.int_inv]; exact guard_int _ _ _ _ _ _ _ _
  ·rw [hx.int_inv, hy.int_inv]; exact h3
 ·split at hc
  ·rename_i e
   subst e
   refine fin hc (fun b r h1 h2 => ?_)
   obtain ⟨v, h3, h4⟩ := intA_ok (P := P) (w := w) (G := G) (t := t) h1 h2
   refine ⟨v, run2 v ?_ ?_, h4⟩
   ·rw [hx.int_inv, hy.int_inv]; exact guard_int _ _ _ _ _ _ _ _
   ·rw [hx.int_inv, hy.int_inv]; exact h3
  ·cases hc
 ·refine fin hc (fun b r h1 h2 => ?_)
  obtain ⟨v, h3, h4⟩ := strA_ok (P := P) (w := w) (G := G) (t := t) h1 h2
  refine ⟨v, run2 v ?_ ?_, h4⟩
  ·rw [hx.str_inv, hy.str_inv]; exact guard_str _ _ _ _ _ _
  ·rw [hx.str_inv, hy.str_inv]; exact h3
 ·exact ok_eqNil ho (.inl ⟨rfl, rfl⟩) hx hy hc
 ·exact ok_eqNil ho (.inr ⟨rfl, rfl⟩) hx hy hc
 ·exact ok_nilNil ho (.inl ⟨rfl, rfl⟩) hx hy hc
 ·exact ok_nilNil ho (.inr ⟨rfl, rfl⟩) hx hy hc
 ·exact ok_nilP ho (.inl ⟨rfl, rfl⟩) hx hy hc
 ·exact ok_nilP ho (.inr ⟨rfl, rfl⟩) hx hy hc
 ·split at hc
  ·rename_i r hr
   split at hc
   ·cases hc
   ·rename_i hg
    exact Quiet.mk1 rfl hc ⟨by have := eq2 r hr (by simpa using hg) (.inl rfl); simpa using this, .bool _ _⟩
  ·cases hc
 ·split at hc
  ·rename_i r hr
   split at hc
   ·cases hc
   ·rename_i hg
    exact Quiet.mk1 rfl hc ⟨by have := eq2 r hr (by simpa using hg) (.inr rfl); simpa using this, .bool _ _⟩
  ·cases hc
 ·cases hc
end
end Go.Proofs.Gv
