import Derived.Test.YthnbpgiohimkoaaPw02
set_option linter.unusedVariables false
namespace Go.Proofs.Gv
open Go.RowKit
 mutual
def AV.held : AV → Bool
 | .fn _ caps => AV.heldL caps
 | .agg cs => AV.heldL cs
 | .tup cs => AV.heldL cs
 | .sl .imm _ _ => true
 | .sl _ _ _ => false
 | .ip .imm _ => true
 | .ip _ _ => false
 | _ => true
def AV.heldL : List AV → Bool
 | [] => true
 | x :: l => x.held && AV.heldL l
 end
def Blk.held : Blk → Bool
 | .var cs => AV.heldL cs
 | _ => true
 mutual
def AV.eq : AV → AV → Bool
 | .junk, .junk => true
 | .int k n, .int k' n' => decide (k = k') && decide (n = n')
 | .bool b, .bool b' => decide (b = b')
 | .str l, .str l' => decide (l = l')
 | .fn f cs, .fn f' cs' => Nat.beq f f' && AV.eqL cs cs'
 | .nil, .nil => true
 | .nilz, .nilz => true
 | .nilp, .nilp => true
 | .nilm, .nilm => true
 | .agg cs, .agg cs' => AV.eqL cs cs'
 | .tup cs, .tup cs' => AV.eqL cs cs'
 | .sl t zs es, .sl t' zs' es' => decide (t = t') && (Kd.eqL zs zs' && AV.eqLL es es')
 | .hp s o, .hp s' o' => Nat.beq s s' && Nat.beq o o'
 | .rf s zs, .rf s' zs' => Nat.beq s s' && Kd.eqL zs zs'
 | .mp s zs, .mp s' zs' => Nat.beq s s' && Kd.eqL zs zs'
 | _, _ => false
def AV.eqL : List AV → List AV → Bool
 | [], [] => true
 | x :: l, y :: m => AV.eq x y && AV.eqL l m
 | _, _ => false
def AV.eqLL : List (List AV) → List (List AV) → Bool
 | [], [] => true
 | x :: l, y :: m => AV.eqL x y && AV.eqLL l m
 | _, _ => false
 end
theorem AV.eq_key : ∀ a b : AV, AV.eq a b = true → a = b := by
 refine @AV.rec (fun a => ∀ b, AV.eq a b = true → a = b) (fun a => ∀ b, AV.eqL a b = true → a = b) (fun a => ∀ b, AV.eqLL a b = true → a = b) ?_ ?_ ?_ ?_ ?_ ?_ ?_ ?_ ?_ ?_ ?_ ?_ ?_ ?_ ?_ ?_ ?_ ?_ ?_ ?_ ?_ ?_ ?_
 case refine_12 =>
  intro t zs es ih b h
  cases b <;> first | (exfalso; simp [AV.eq] at h; done) | skip
  simp only [AV.eq, Bool.and_eq_true, decide_eq_true_eq] at h
  obtain ⟨rfl, h1, h2⟩ := h
  rw [Kd.eqL_of _ _ h1, ih _ h2]
 case refine_16 =>
  intro s zs b h
  cases b <;> first | (exfalso; simp [AV.eq] at h; done) | skip
  simp only [AV.eq, Bool.and_eq_true, Nat.beq_eq] at h
  obtain ⟨rfl, h1⟩ := h
  rw [Kd.eqL_of _ _ h1]
 case refine_18 =>
  intro s zs b h
  cases b <;> first | (exfalso; simp [AV.eq] at h; done) | skip
  simp only [AV.eq, Bool.and_eq_true, Nat.beq_eq] at h
  obtain ⟨rfl, h1⟩ := h
  rw [Kd.eqL_of _ _ h1]
 case refine_5 =>
  intro f cs ih b h
  cases b <;> first | (exfalso; simp [AV.eq] at h; done) | skip
  simp only [AV.eq, Bool.and_eq_true, Nat.beq_eq] at h
  obtain ⟨rfl, h1⟩ := h
  rw [ih _ h1]
 case refine_10 =>
  intro cs ih b h
  cases b <;> first | (exfalso; simp [AV.eq] at h; done) | skip
  simp only [AV.eq] at h
  rw [ih _ h]
 case refine_11 =>
  intro cs ih b h
  cases b <;> first | (exfalso; simp [AV.eq] at h; done) | skip
  simp only [AV.eq] at h
  rw [ih _ h]
 case refine_21 =>
  intro x l ihx ihl b h
  cases b <;> first | (exfalso; simp [AV.eqL] at h; done) | skip
  simp only [AV.eqL, Bool.and_eq_true] at h
  rw [ihx _ h.1, ihl _ h.2]
 case refine_23 =>
  intro x l ihx ihl b h
  cases b <;> first | (exfalso; simp [AV.eqLL] at h; done) | skip
  simp only [AV.eqLL, Bool.and_eq_true] at h
  rw [ihx _ h.1, ihl _ h.2]
 all_goals (intros; rename_i b h; cases b <;> first | rfl | (exfalso; simp [AV.eq, AV.eqL, AV.eqLL] at h; done) | (simp only [AV.eq, AV.eqL, AV.eqLL, Bool.and_eq_true, decide_eq_true_eq, Nat.beq_eq] at h; simp_all; done))
theorem AV.eqL_of : ∀ a b : List AV, AV.eqL a b = true → a = b := by
 intro a
 induction a with
 | nil => intro b h; cases b <;> first | rfl | (simp [AV.eqL] at h)
 | cons x l ih =>
   intro b h
   cases b with
   | nil => simp [AV.eqL] at h
   | cons y m =>
     simp only [AV.eqL, Bool.and_eq_true] at h
     rw [AV.eq_key _ _ h.1, ih _ h.2]
theorem AV.eqLL_of : ∀ a b : List (List AV), AV.eqLL a b = true → a = b := by
 intro a
 induction a with
 | nil => intro b h; cases b <;> first | rfl | (simp [AV.eqLL] at h)
 | cons x l ih =>
   intro b h
   cases b with
   | nil => simp [AV.eqLL] at h
   | cons y m =>
     simp only [AV.eqLL, Bool.and_eq_true] at h
     rw [AV.eqL_of _ _ h.1, ih _ h.2]
def Blk.eq : Blk → Blk → Bool
 | .dead, .dead => true
 | .var cs, .var cs' => AV.eqL cs cs'
 | .row zs es, .row zs' es' => Kd.eqL zs zs' && AV.eqLL es es'
 | .tbl zs es none, .tbl zs' es' none => Kd.eqL zs zs' && AV.eqLL es es'
 | _, _ => false
def Blk.eqL : List Blk → List Blk → Bool
 | [], [] => true
 | x :: l, y :: m => Blk.eq x y && Blk.eqL l m
 | _, _ => false
theorem Blk.eq_of {a b : Blk} (h : Blk.eq a b = true) : a = b := by
 unfold Blk.eq at h
 split at h
 ·rfl
 ·rw [AV.eqL_of _ _ h]
 ·simp only [Bool.and_eq_true] at h
  rw [Kd.eqL_of _ _ h.1, AV.eqLL_of _ _ h.2]
 ·simp only [Bool.and_eq_true] at h
  rw [Kd.eqL_of _ _ h.1, AV.eqLL_of _ _ h.2]
 ·cases h
theorem Blk.eqL_of : ∀ a b : List Blk, Blk.eqL a b = true → a = b := by
 intro a
 induction a with
 | nil => intro b h; cases b <;> first | rfl | (simp [Blk.eqL] at h)
 | cons x l ih =>
   intro b h
   cases b with
   | nil => simp [Blk.eqL] at h
   | cons y m =>
     simp only [Blk.eqL, Bool.and_eq_true] at h
     rw [Blk.eq_of h.1, ih _ h.2]
abbrev Gam := FuncId → List AV → List Blk → Option (Bool × AV × List Blk)
inductive Ex where
 | norm
 | ret
 | exit (id : Nat)
inductive Nrm where
 | slot (i q : Nat) (zs : List Kd)
 | cell (b off q : Nat) (zs : List Kd)
 | ren (q2 q1 : Nat)
 | frz (i q : Nat)
 | cimm (b off : Nat) (zs : List Kd)
 | pcell (b off q : Nat) (zs : List Kd)
 | simm (i : Nat) (zs : List Kd)
 | adv (i q : Nat) (zs : List Kd)
 | abs (b q2 q : Nat) (ex : List Nat)
 | pren (b q1 : Nat)
 | asrs (i : Nat)
 | cadv (b off q : Nat) (ex : List Nat)
 | cfrz (b off q : Nat)
structure Cfg where
 P : Program
 gam : Gam
 idOf : Nat → Option Nat
 alt : Nat → Option Nat
 rid : Nat → List Nat
 byref : FuncId → Bool
 keep : Nat → Option (List Nat × List Nat × List Nrm)
 lsp : Nat → St → Option (Bool × List (Bool × Ex × St) × Ex × St)
 fuel : Nat
 join : Nat → Option (List Nat)
 pre : Nat → List Nrm
 m : Nat
 nid : Nat
 nt : Nat
section
variable (X : Cfg)
def fnOf : AV → Option (FuncId × List AV)
 | .fn f caps => some (f, caps)
 | _ => none
def reach (C : List Blk) : Nat → List Nat → List Nat → List Nat
 | 0, _, acc => acc
 | _ + 1, [], acc => acc
 | n + 1, q :: todo, acc => cond (inL q acc) (reach C n todo acc) (reach C n (todo ++ (C.getD q .dead).refs) (acc ++ [q]))
def subL (l ρ : List Nat) : Bool := l.all fun q => inL q ρ
def closedR (C : List Blk) (ρ : List Nat) : Bool := ρ.all fun q => subL (C.getD q .dead).refs ρ && Nat.blt q C.length
def ixOf (ρ : List Nat) (q : Nat) : Nat := ρ.findIdx (Nat.beq q)
def atIx (κ : List Nat) (j : Nat) : Nat := κ.getD j 0
def lend0 (s : St) (x : AV) : Option (AV × List Nat) :=
 match x with
 | .rf q zs => (rowOf s q zs).map fun es => (.sl .lent zs es, [q])
 | .rs q zs i n _ => (rowOf s q zs).map fun es => (.sl .lent zs ((es.drop i).take n), [q])
 | x => some (x, [])
def lendL (s : St) : List AV → Option (List AV × List Nat)
 | [] => some ([], [])
 | x :: l => match lend0 s x, lendL s l with
   | some (y, p), some (m, q) => some (y :: m, p ++ q)
   | _, _ => none
def lend1 (s : St) (x : AV) : Option (AV × List Nat) :=
 match x with
 | .agg cs => (lendL s cs).map fun p => (.agg p.1, p.2)
 | x => lend0 s x
def lendAs (s : St) (by' : Bool) : List AV → Option (List AV × List Nat)
 | [] => some ([], [])
 | x :: l => match (match by' with
    | true => some (x, [])
    | false => lend1 s x), lendAs s by' l with
   | some (y, p), some (m, q) => some (y :: m, p ++ q)
   | _, _ => none
def frz0 (m : Nat) (outs : List Blk) (x : AV) : AV :=
 match x with
 | .rf q zs => match Nat.ble m q, outs.getD q .dead with
   | true, .row zs' es => cond (Kd.eqL zs zs') (.sl .imm zs es) x
   | _, _ => x
 | .rs q zs i n _ => match Nat.ble m q, outs.getD q .dead with
   | true, .row zs' es => cond (Kd.eqL zs zs') (.sl .imm zs ((es.drop i).take n)) x
   | _, _ => x
 | x => x
def frz1 (m : Nat) (outs : List Blk) (x : AV) : AV :=
 match x with
 | .agg cs => .agg (cs.map (frz0 m outs))
 | x => frz0 m outs x
def frz2 (m : Nat) (outs : List Blk) (x : AV) : AV :=
 match x with
 | .tup cs => .tup (cs.map (frz1 m outs))
 | x => frz1 m outs x
def disj (l ρ : List Nat) : Bool := l.all fun q => !(inL q ρ)
def nodupL : List Nat → Bool
 | [] => true
 | q :: l => !(inL q l) && nodupL l
def blkWs : List Nat → List Blk → List Wr
 | q :: κ, k :: l => .blk q k :: blkWs κ l
 | _, _ => []
def frzR (new : List Nat) (m : Nat) (outs : List Blk) (r : AV) : AV :=
 match new with
 | [] => frz2 m outs r
 | _ => r
def backB (s : St) (d : Nat) (nl : Bool) (ρ : List Nat) (b : Bool) (r : AV) (outs : List Blk) : Option (Bool × List Wr) :=
 let new := X.rid d
 let κ := ρ ++ new
 let r1 := frzR new ρ.length outs r
 let outs1 := (outs ++ List.replicate κ.length Blk.dead).take κ.length
 if Nat.beq outs1.length κ.length && ((nl || r1.held) && ((nl || outs1.all Blk.held) && (r1.refs.all (fun q => Nat.blt q κ.length) && (outs1.all (fun k => k.refs.all fun q => Nat.blt q κ.length) &&
  (nodupL κ && (new.all fun q => Nat.ble X.m q && (Nat.blt q s.C.length && noRefs q [d] new s)))))))
 then some (b, blkWs κ (outs1.map (Blk.ren (atIx κ))) ++ [.put d (r1.ren (atIx κ))]) else none
def isRo : List Blk → Bool
 | .row [] _ :: _ => true
 | _ => false
def unk (C0 outs : List Blk) : List Blk :=
 match isRo outs with
 | true => C0
 | false => outs
def backA (s : St) (d : Nat) (nl : Bool) (ρ : List Nat) (b : Bool) (r : AV) (C0 outs : List Blk) : Option (Bool × List Wr) :=
 match isRo outs with
 | false => backB X s d nl ρ b r outs
 | true => match X.rid d with
   | [] => match backB X s d nl ρ b r C0 with
     | some (b, _) => some (b, [.put d ((frz2 ρ.length C0 r).ren (atIx ρ))])
     | none => none
   | _ => none
def cCall (s : St) (d : Option Nat) (f : AV) (as : List AV) : Option (Bool × List Wr) :=
 match d, fnOf f with
 | some d, some (f, caps) => match lendAs s (X.byref f) (as ++ caps) with
   | none => none
   | some (as', lent) =>
     let ρ := reach s.C (as'.length + s.C.length * s.C.length + 64) (AV.refsL as') []
     if subL (AV.refsL as') ρ && (closedR s.C ρ && (disj lent ρ && nodupL ρ)) then
      let C0 := ρ.map fun q => (s.C.getD q .dead).ren (ixOf ρ)
      match X.gam f (AV.renL (ixOf ρ) as') C0 with
      | some (b, r, outs) => backA X s d lent.isEmpty ρ b r C0 outs
      | none => none
     else none
 | _, _ => none
def comp (o : Oper) (s : St) : Option (Bool × List Wr) :=
 let g := evalA s.T
 match o.op with
 | .move x => rOne o.dst (g x)
 | .assign x => rOne o.dst (g x)
 | .pick c a b => cPick o.dst (g c) (g a) (g b)
 | .alloc e => match (zeroA X.P e).bind cellsA with
   | some cs => newVar X.idOf s o.dst cs
   | none => none
 | .box _ x => match cellsA (g x) with
   | some cs => newVar X.idOf s o.dst cs
   | none => none
 | .build t ps => cBuild X.P o.dst t (ps.toList.map fun p => (p.1, g p.2))
 | .buildSlice t n ps => cBuildSlice X.P X.idOf s o.dst t n (ps.toList.map fun p => (p.1, g p.2))
 | .load t a => cLoad X.P s o.dst t (g a)
 | .store t a x => match o.dst with
   | none => cStore X.P s t (g a) (g x)
   | some _ => none
 | .nilCheck x => cNil o.dst (g x)
 | .makeMap t none => cMakeMap X.P X.idOf s o.dst t
 | .lookup t m k false => cLookup X.P s o.dst t (g m) (g k)
 | .mapUpdate t m k v => cMapUpdate X.P s o.dst t (g m) (g k) (g v)
 | .binOp op t x y _ => cBin X.P o.dst op t (g x) (g y)
 | .unOp op _ x => cUn o.dst op (g x)
 | .convert a b x => cConv X.P X.idOf s o.dst a b (g x)
 | .sliceToArrayPointer t x => cArrPtr X.P o.dst t (g x)
 | .makeFunc f fs cs => match f, fs.toList with
   | .func f, [] => rOne o.dst (.fn f (cs.toList.map g))
   | _, _ => none
 | .makeSlice t l c => cMake X.P X.idOf s o.dst t (g l) (g c)
 | .slice t x lo hi mx => cSlice X.P (isCst mx) s o.dst t (g x) (lo.map g) (hi.map g) (mx.map g)
 | .fieldAddr t x f => cFieldAddr X.P o.dst t f (g x)
 | .field t x f => cField X.P o.dst t f (g x)
 | .indexAddr t x i => cIndexAddr X.P s o.dst t (g x) (g i)
 | .index t x i => cIndex X.P o.dst t (g x) (g i)
 | .extract x i => cExtract o.dst i (g x)
 | .call c =>
   match c.callee, c.args.toList, c.argTypes.toList with
   | .builtin .len, [x], [t] => cLen X.P s o.dst t (g x)
   | .builtin .min, [x, y], _ => cMinMax false o.dst (g x) (g y)
   | .builtin .max, [x, y], _ => cMinMax true o.dst (g x) (g y)
   | .builtin .append, [x, y], [t, u] => cAppendZ X.P X.idOf X.alt s o.dst t u x (g x) (g y)
   | .builtin .clear, [x], [t] => cClear X.P s o.dst t (g x)
   | .builtin .delete, [m, k], [t, _] => cDelete X.P s o.dst t (g m) (g k)
   | .value f, as, _ => cCall X s o.dst (g f) (as.map g)
   | _, _, _ => none
 | _ => none
variable {R : Type}
def forceV (x : AV) (k : AV → R) : R :=
 match x with
 | .junk => k .junk
 | .int i n => k (.int i n)
 | .bool b => k (.bool b)
 | .str l => k (.str l)
 | .fn f cs => k (.fn f cs)
 | .nil => k .nil
 | .nilz => k .nilz
 | .nilp => k .nilp
 | .nilm => k .nilm
 | .agg cs => k (.agg cs)
 | .tup cs => k (.tup cs)
 | .sl t zs es => k (.sl t zs es)
 | .ip t cs => k (.ip t cs)
 | .hp s o => k (.hp s o)
 | .ep s zs i o => k (.ep s zs i o)
 | .rf s zs => k (.rf s zs)
 | .rs s zs i n c => k (.rs s zs i n c)
 | .mp s zs => k (.mp s zs)
 | .mt s zs i o => k (.mt s zs i o)
def forceL : List AV → (List AV → R) → R
 | [], k => k []
 | x :: l, k => forceV x fun x => forceL l fun l => k (x :: l)
def forceB : Blk → (Blk → R) → R
 | .dead, k => k .dead
 | .var cs, k => forceL cs fun cs => k (.var cs)
 | .row zs es, k => k (.row zs es)
 | .tbl zs es pd, k => k (.tbl zs es pd)
def forceC : List Blk → (List Blk → R) → R
 | [], k => k []
 | x :: l, k => forceB x fun x => forceC l fun l => k (x :: l)
def forceS (s : St) (k : St → R) : R := forceL s.T fun T => forceC s.C fun C => k ⟨T, C⟩
inductive Lo where
 | t (i : Nat)
 | r (b : Nat)
 | c (b j : Nat)
def Lo.ov : Lo → Lo → Bool
 | .t i, .t j => Nat.beq i j
 | .r i, .r j => Nat.beq i j
 | .r i, .c j _ => Nat.beq i j
 | .c i _, .r j => Nat.beq i j
 | .c i k, .c j l => Nat.beq i j && Nat.beq k l
 | _, _ => false
def lookB (P : Program) (s : St) (d : Option Nat) (t : TypeId) (m k : AV) : Option (Bool × Option (Bool × List Wr) × Option (Bool × List Wr)) :=
 match mapT P t, m, k with
 | some zs', .mp q zs, .int .i64 k => match tblOf s q zs with
   | some es => if Kd.eqL zs zs' then some (hasK es k, rOne d (.mt q zs k 0), rOne d .nilp) else none
   | none => none
 | _, _, _ => none
def hasOf (o : Oper) (s : St) : Option (Bool × Option (Bool × List Wr) × Option (Bool × List Wr)) :=
 match o.op with
 | .lookup t m k false => lookB X.P s o.dst t (evalA s.T m) (evalA s.T k)
 | _ => none
theorem hasOf_comp {o : Oper} {s : St} {h : Bool} {x y : Option (Bool × List Wr)} (hh : hasOf X o s = some (h, x, y)) : comp X o s = cond h x y := by
 unfold hasOf at hh
 split at hh
 ·rename_i t m k ho
  unfold comp
  simp only [ho]
  unfold lookB at hh
  unfold cLookup
  split at hh
  ·rename_i zs' q zs k' e1 e2 e3
   simp only [e1, e2, e3]
   split at hh
   ·rename_i es e4
    simp only [e4]
    split at hh
    ·rename_i e5
     rw [if_pos e5]
     injection hh with hh
     injection hh with h1 hh
     injection hh with h2 h3
     rw [h1, h2, h3]
    ·cases hh
   ·cases hh
  ·cases hh
 ·cases hh
def stepA0 (no : R) (s : St) (c : Option (Bool × List Wr)) (k : List Wr → St → R) : R :=
 match c with
 | some (b, u) => cond (s.fit u) (cond b (k u (s.aps u)) no) no
 | none => no
def stepA (no : R) (o : Oper) (s : St) (k : List Wr → St → R) : R :=
 match hasOf X o s with
 | some (h, x, y) => cond h (stepA0 no s x k) (stepA0 no s y k)
 | none => stepA0 no s (comp X o s) k
theorem stepA_eq (no : R) (o : Oper) (s : St) (k : List Wr → St → R) : stepA X no o s k = stepA0 no s (comp X o s) k := by
 unfold stepA
 split
 ·rename_i h x y hh
  rw [hasOf_comp X hh]
  cases h <;> rfl
 ·rfl
def skW (o : Oper) : List Wr :=
 match o.dst with
 | some d => [.put d (.tup [])]
 | none => []
def skipA (no : R) (o : Oper) (s : St) (k : List Wr → St → R) : R := cond (s.fit (skW o)) (k (skW o) (s.aps (skW o))) no
def opnds : Op → List Operand
 | .move x => [x]
 | .assign x => [x]
 | .pick c a b => [c, a, b]
 | .box _ x => [x]
 | .build _ ps => ps.toList.map (·.2)
 | .buildSlice _ _ ps => ps.toList.map (·.2)
 | .load _ a => [a]
 | .store _ a x => [a, x]
 | .nilCheck x => [x]
 | .binOp _ _ x y _ => [x, y]
 | .unOp _ _ x => [x]
 | .convert _ _ x => [x]
 | .sliceToArrayPointer _ x => [x]
 | .makeFunc _ fs cs => fs.toList ++ cs.toList
 | .makeSlice _ l c => [l, c]
 | .slice _ x lo hi mx => x :: (lo.toList ++ (hi.toList ++ mx.toList))
 | .fieldAddr _ x _ => [x]
 | .field _ x _ => [x]
 | .indexAddr _ x i => [x, i]
 | .index _ x i => [x, i]
 | .extract x _ => [x]
 | .lookup _ m x _ => [m, x]
 | .mapUpdate _ m x v => [m, x, v]
 | .call c => match c.callee with
   | .value f => f :: c.args.toList
   | _ => c.args.toList
 | _ => []
def rdX : Operand → List Lo
 | .tmp t => [.t t]
 | _ => []
def refR (s : St) : Operand → List Lo
 | .tmp t => (s.t t).refs.map .r
 | _ => []
def cellsR (q off n : Nat) : List Lo := .c q off :: (List.range n).map fun j => .c q (off + j)
def memRd (o : Op) (s : St) : List Lo :=
 match o with
 | .move _ => []
 | .assign _ => []
 | .pick _ _ _ => []
 | .build _ _ => []
 | .box _ _ => []
 | .nilCheck _ => []
 | .binOp _ _ _ _ _ => []
 | .unOp _ _ _ => []
 | .fieldAddr _ _ _ => []
 | .field _ _ _ => []
 | .index _ _ _ => []
 | .extract _ _ => []
 | .load t a => match evalA s.T a, szOf X.P t with
   | .hp q off, some n => cellsR q off n
   | _, _ => refR s a
 | .store _ p _ => match evalA s.T p with
   | .hp q off => [.c q off]
   | _ => refR s p
 | op => (opnds op).flatMap (refR s)
def callRd (o : Oper) (s : St) : List Lo :=
 match o.op with
 | .call c => match c.callee with
   | .value f => match fnOf (evalA s.T f) with
     | some (f', caps) => match lendAs s (X.byref f') (c.args.toList.map (evalA s.T) ++ caps) with
       | some (as', _) => (reach s.C (as'.length + s.C.length * s.C.length + 64) (AV.refsL as') []).map .r
       | none => []
     | none => []
   | _ => []
 | _ => []
def rdG (ops : Array Oper) (o : Oper) : List Lo :=
 match o.guard with
 | some (j, _) => match (ops[j]?).bind (·.dst) with
   | some q => [.t q]
   | none => []
 | none => []
def rdA (ops : Array Oper) (o : Oper) (s : St) : List Lo := rdG ops o ++ ((opnds o.op).flatMap rdX ++ (memRd X o.op s ++ callRd X o s))
def evOp (no : R) (ops : Array Oper) (o : Oper) (s : St) (k : List Wr → List Lo → St → R) : R :=
 match o.guard with
 | none => stepA X no o s fun u s' => k u (rdA X ops o s) s'
 | some (j, want) =>
   match (ops[j]?).bind (·.dst) with
   | none => no
   | some q => match s.t q with
     | .bool b => cond b
        (cond want (stepA X no o (s.ap (.put q (.bool true))) fun u s' => k u (rdA X ops o (s.ap (.put q (.bool true)))) s') (skipA no o (s.ap (.put q (.bool true))) fun u s' => k u (rdG ops o) s'))
        (cond want (skipA no o (s.ap (.put q (.bool false))) fun u s' => k u (rdG ops o) s') (stepA X no o (s.ap (.put q (.bool false))) fun u s' => k u (rdA X ops o (s.ap (.put q (.bool false)))) s'))
     | .tup [] => skipA no o s fun u s' => k u (rdG ops o) s'
     | _ => no
def evOps (ops : Array Oper) : List Oper → St → (St → Option R) → Option R
 | [], s, k => k s
 | o :: rest, s, k => evOp X none ops o s fun _ _ s' => evOps ops rest s' k
structure Rec where
 u : List Lo
 rd : List Lo
 nf : List Nat
 ex : List Nat
 fs : List (Lo × Nat)
def wLos : Wr → List Lo
 | .put i _ => [.t i]
 | .blk b _ => [.r b]
 | .cel b off xs => (List.range xs.length).map fun j => .c b (off + j)
def fsW : Wr → List (Lo × Nat)
 | .put i a => a.refs.map fun q => (.t i, q)
 | .blk b k => k.refs.map fun q => (.r b, q)
 | .cel b _ xs => (AV.refsL xs).map fun q => (.r b, q)
def oneL : Option Nat → List Nat
 | some q => [q]
 | none => []
def nfA (o : Oper) (s : St) : List Nat :=
 match o.dst with
 | none => []
 | some d => match o.op with
   | .alloc _ => oneL (X.idOf d)
   | .box _ _ => oneL (X.idOf d)
   | .makeMap _ _ => oneL (X.idOf d)
   | .buildSlice _ _ _ => oneL (X.idOf d)
   | .makeSlice _ _ _ => oneL (X.idOf d)
   | .convert _ _ _ => oneL (X.idOf d)
   | .call c => match c.callee with
     | .value _ => X.rid d
     | .builtin .append => match X.idOf d, c.args.toList with
       | some q1, x :: _ => match evalA s.T x with
         | .rf q _ => [pickId q1 (X.alt d) q]
         | _ => [q1]
       | _, _ => []
     | _ => []
   | _ => []
def exOp : Op → List Nat
 | .call c => match c.callee, c.args.toList with
   | .builtin .append, .tmp p :: _ => [p]
   | _, _ => []
 | _ => []
def exA (o : Oper) : List Nat := oneL o.dst ++ exOp o.op
def recA (o : Oper) (s : St) (u : List Wr) (rd : List Lo) : Rec := { u := u.flatMap wLos, rd := rd, nf := nfA X o s, ex := exA o, fs := u.flatMap fsW }
def evDr (no : R) (ops : Array Oper) : List Oper → St → List Rec → (List Rec → St → R) → R
 | [], s, acc, k => k acc s
 | o :: rest, s, acc, k => evOp X no ops o s fun u rd s' => evDr no ops rest s' (acc ++ [recA X o s u rd]) k
def meets (x y : List Lo) : Bool := x.any fun l => y.any (Lo.ov l)
def conf (x y : Rec) : Bool := meets x.u y.rd || (meets x.u y.u || meets x.rd y.u)
def edgesOf (o : Oper) : List Nat := (o.after.toList.filter (Region.binds .any)).map (·.on)
def ancs : List Oper → List (List Nat) → List (List Nat)
 | [], acc => acc
 | o :: os, acc => ancs os (acc ++ [(edgesOf o).flatMap fun e => e :: acc.getD e []])
def recD : Rec := { u := [], rd := [], nf := [], ex := [], fs := [] }
def freshOK (recs : List Rec) (anc : List (List Nat)) (s0 : St) : Bool :=
 (List.range recs.length).all fun i => (recs.getD i recD).nf.all fun d => noRefs d (recs.getD i recD).ex (recs.getD i recD).nf s0 &&
   (List.range recs.length).all fun j => Nat.beq i j || ((recs.getD j recD).fs.all (fun p => !(Nat.beq p.2 d)) || inL i (anc.getD j []))
def orderOK0 (os : List Oper) (recs : List Rec) (s0 : St) : Bool :=
 (List.range os.length).all (fun j => (edgesOf (os.getD j default)).all (fun e => Nat.blt e j)) &&
 ((List.range recs.length).all (fun j => (List.range j).all fun i => !(conf (recs.getD i recD) (recs.getD j recD)) || inL i ((ancs os []).getD j [])) && freshOK recs (ancs os []) s0)
def forceN (n : Nat) (k : Nat → R) : R :=
 match n with
 | 0 => k 0
 | m + 1 => k (m + 1)
def ones64 : Nat := 113427455640312821154458202477256070485
def loM : Lo → Nat
 | .t i => Nat.shiftLeft 1 (2 * i)
 | .r b => Nat.shiftLeft ones64 (128 * b + 1)
 | .c b j => Nat.shiftLeft 1 (128 * b + 1 + 2 * (j % 64))
def mkL : List Lo → Nat
 | [] => 0
 | l :: ls => Nat.lor (loM l) (mkL ls)
def hasB (m i : Nat) : Bool := !(Nat.beq (Nat.land 1 (Nat.shiftRight m i)) 0)
def ancO (acc : List Nat) : List Nat → Nat
 | [] => 0
 | e :: es => Nat.lor (Nat.shiftLeft 1 e) (Nat.lor (acc.getD e 0) (ancO acc es))
def ancM : List Oper → List Nat → List Nat
 | [], acc => acc
 | o :: os, acc => forceN (ancO acc (edgesOf o)) fun m => ancM os (acc ++ [m])
def prJ (uj rj aj : Nat) : List (Nat × Nat × Nat) → Bool
 | [] => true
 | (i, ui, ri) :: l => (hasB aj i || Nat.beq (Nat.lor (Nat.land ui (Nat.lor rj uj)) (Nat.land ri uj)) 0) && prJ uj rj aj l
def pairsM : List Rec → Nat → List Nat → List (Nat × Nat × Nat) → Bool
 | [], _, _, _ => true
 | _ :: _, _, [], _ => false
 | x :: l, k, a :: an, pre => forceN (mkL x.u) fun u => forceN (mkL x.rd) fun r => forceN k fun k => prJ u r a pre && pairsM l (k + 1) an ((k, u, r) :: pre)
def freshM (recs : List Rec) (anc : List Nat) (s0 : St) : Bool :=
 (List.range recs.length).all fun i => (recs.getD i recD).nf.all fun d => noRefs d (recs.getD i recD).ex (recs.getD i recD).nf s0 &&
   (List.range recs.length).all fun j => Nat.beq i j || ((recs.getD j recD).fs.all (fun p => !(Nat.beq p.2 d)) || hasB (anc.getD j 0) i)
def ordM (recs : List Rec) (s0 : St) (anc : List Nat) : Bool := pairsM recs 0 anc [] && freshM recs anc s0
def orderOK (os : List Oper) (recs : List Rec) (s0 : St) : Bool :=
 (List.range os.length).all (fun j => (edgesOf (os.getD j default)).all (fun e => Nat.blt e j)) && ordM recs s0 (ancM os [])
def evReg (ops : Array Oper) (dr : Bool) (s : St) (k : St → Option R) : Option R :=
 match dr with
 | false => evOps X ops ops.toList s k
 | true => evDr X none ops ops.toList s [] fun recs s' => cond (orderOK ops.toList recs s) (k s') none
def dstsOf (ops : Array Oper) : List Nat := ops.toList.filterMap (·.dst)
def slotsOnly (ds : List Nat) (rs : List Rec) : Bool := rs.all fun r => r.u.all fun l => match l with
 | .t i => inL i ds
 | _ => false
def isBool : AV → Bool
 | .bool _ => true
 | _ => false
def boolAt (ops : Array Oper) (s : St) (d : Nat) : Bool := evDr X false ops ops.toList s [] fun _ s' => boolOf (s'.t d)
def okJ (ops : Array Oper) (dr : Bool) (s : St) (l : List Nat) : Bool :=
 evDr X false ops ops.toList s [] fun recs s' => (!dr || orderOK ops.toList recs s) && (slotsOnly (dstsOf ops) recs && l.all fun d => isBool (s'.t d))
def stJ (ops : Array Oper) (l ds : List Nat) (s : St) : St :=
 { s with T := ds.foldl (fun T d => T.set d (match inL d l with
   | true => .bool (boolAt X ops s d)
   | false => .junk)) s.T }
def firstReg : Code → Option Nat
 | .region id _ _ => some id
 | .seq a b => match firstReg a with
   | some i => some i
   | none => firstReg b
 | .cond _ a b => match firstReg a with
   | some i => some i
   | none => firstReg b
 | .block _ c => firstReg c
 | .loop c => firstReg c
 | .scope c => firstReg c
 | _ => none
def isNil : AV → Bool
 | .nil => true
 | .nilz => true
 | _ => false
def swapQ (q2 q1 q : Nat) : Nat := cond (Nat.beq q q2) q1 q
def isDead : Blk → Bool
 | .dead => true
 | _ => false
 mutual
def AV.noMt (b : Nat) : AV → Bool
 | .fn _ cs => AV.noMtL b cs
 | .agg cs => AV.noMtL b cs
 | .tup cs => AV.noMtL b cs
 | .mp _ _ => true
 | x => !(inL b x.refs)
def AV.noMtL (b : Nat) : List AV → Bool
 | [] => true
 | x :: l => x.noMt b && AV.noMtL b l
 end
def Blk.noMt (b : Nat) : Blk → Bool
 | .var cs => AV.noMtL b cs
 | k => !(inL b k.refs)
def junkAt (ex : List Nat) (T : List AV) : List AV := ex.foldl (fun T i => T.set i .junk) T
def nrm1 (s : St) : Nrm → St
 | .slot i q zs => cond (isNil (s.t i) && (noRefs q [i] [q] s && (Nat.ble X.m q && (Nat.blt q s.C.length && (Nat.blt i s.T.length && Nat.blt 0 zs.length))))) ((s.ap (.blk q (.row zs []))).ap (.put i (.rf q zs))) s
 | .cell b off q zs => match s.c b with
   | .var cs => cond (isNil (cs.getD off .junk) && (noRefs q [] [q] s && (Nat.ble X.m q && (Nat.blt q s.C.length && (!(Nat.beq b q) && Nat.blt 0 zs.length))))) ((s.ap (.blk q (.row zs []))).ap (.blk b (.var (cs.set off (.rf q zs))))) s
   | _ => s
 | .ren q2 q1 => cond (!(isDead (s.c q2)) && (noRefs q1 [] [q1] s && (Nat.ble X.m q1 && (Nat.blt q1 s.C.length && !(Nat.beq q1 q2)))))
    ⟨s.T.map (AV.ren (swapQ q2 q1)), ((s.C.set q1 (s.c q2)).set q2 .dead).map (Blk.ren (swapQ q2 q1))⟩ s
 | .frz i q => match s.t i with
   | .rf q' zs => match rowOf s q zs with
     | some es => cond (Nat.beq q q' && Nat.blt i s.T.length) ((s.ap (.blk q .dead)).ap (.put i (.sl .imm zs es))) s
     | none => s
   | _ => s
 | .cimm b off zs => match s.c b with
   | .var cs => cond (isNil (cs.getD off .junk)) (s.ap (.blk b (.var (cs.set off (.sl .imm zs []))))) s
   | _ => s
 | .pcell _ _ _ _ => s
 | .pren _ _ => s
 | .asrs i => match s.t i with
   | .rf q zs => match rowOf s q zs with
     | some es => s.ap (.put i (.rs q zs 0 es.length es.length))
     | none => s
   | _ => s
 | .cadv b off q ex => match s.c b with
   | .var cs => match cs.getD off .junk with
     | .rs q' zs j n _ => match rowOf s q zs with
       | some es => cond (Nat.beq q q' && (noRefs q ex [b, q] s && (!(inL q (AV.refsL (cs.set off .junk))) && (Nat.ble X.m q && (Nat.blt q s.C.length && (Nat.blt off cs.length && !(Nat.beq b q)))))))
          ⟨junkAt ex s.T, (s.C.set q (.row zs ((es.drop j).take n))).set b (.var (cs.set off (.rf q zs)))⟩ s
       | none => s
     | _ => s
   | _ => s
 | .cfrz b off q => match s.c b with
   | .var cs => match cs.getD off .junk with
     | .rf q' zs => match rowOf s q zs with
       | some es => cond (Nat.beq q q' && (Nat.blt off cs.length && !(Nat.beq b q))) ((s.ap (.blk q .dead)).ap (.blk b (.var (cs.set off (.sl .imm zs es))))) s
       | none => s
     | _ => s
   | _ => s
 | .simm i zs => cond (isNil (s.t i)) (s.ap (.put i (.sl .imm zs []))) s
 | .adv i q zs => match s.t i with
   | .rs q' zs' j n _ => match rowOf s q zs with
     | some es => cond (Nat.beq q q' && (Kd.eqL zs zs' && (noRefs q [i] [q] s && (Nat.ble X.m q && (Nat.blt q s.C.length && Nat.blt i s.T.length))))) ((s.ap (.blk q (.row zs ((es.drop j).take n)))).ap (.put i (.rf q zs))) s
     | none => s
   | _ => s
 | .abs b q2 q ex => match s.c b, s.c q2 with
   | .tbl zs es (some (k, q2')), .var cs => cond (Nat.beq q2 q2' && ((okRow zs cs && AV.pureL cs) && (noRefs q [] [q] s && (Nat.ble X.m q && (Nat.blt q s.C.length && (!(Nat.beq b q2) && (!(Nat.beq q b) && (!(Nat.beq q q2) &&
      (AV.noMtL b (junkAt ex s.T) && ((s.C.set b .dead).all (Blk.noMt b)))))))))))
     ⟨(junkAt ex s.T).map (AV.ren (swapQ b q)), (((s.C.set q (.tbl zs (es ++ [.int .i64 k :: cs]) none)).set b .dead).set q2 .dead).map (Blk.ren (swapQ b q))⟩ s
   | _, _ => s
def nrms (rows : List Nrm) (s : St) : St := rows.foldl (nrm1 X) s
def maskT (keep : List Nat) (T : List AV) (n : Nat) : List AV := (List.range n).map fun i => match inL i keep with
 | true => T.getD i .junk
 | false => .junk
def maskC (keep : List Nat) (C : List Blk) (n : Nat) : List Blk := (List.range n).map fun i => match inL i keep with
 | true => C.getD i .dead
 | false => .dead
def sized (s : St) : Bool := Nat.beq s.T.length X.nt && Nat.beq s.C.length (X.m + X.nid)
def mask (c : Code) (s : St) : St :=
 match (firstReg c).bind X.keep with
 | some (keep, keepB, rows) => cond (sized X s) (nrms X rows ⟨maskT keep s.T X.nt, maskC keepB s.C (X.m + X.nid)⟩) s
 | none => s
def loopN (step : St → (Ex → St → Option R) → Option R) (body : Code) : Nat → St → (Ex → St → Option R) → Option R
 | 0, _, _ => none
 | n + 1, s, k => step (mask X body s) fun ex s' => match ex with
   | .norm => loopN step body n s' k
   | .ret => k .ret s'
   | .exit i => k (.exit i) s'
def lspA (c : Code) (s : St) : Option (Bool × List (Bool × Ex × St) × Ex × St) :=
 match firstReg c with
 | some i => cond (sized X s) (X.lsp i (mask X c s)) none
 | none => none
def altK : List (Bool × Ex × St) → Option R → (Ex → St → Option R) → Option R
 | [], d, _ => d
 | (c, ex, s) :: l, d, k => cond c (k ex s) (altK l d k)
def clean (κ κb : List Nat) (s : St) : St := ⟨maskT κ s.T s.T.length, maskC κb s.C s.C.length⟩
def evCode : Code → St → (Ex → St → Option R) → Option R
 | .skip, s, k => k .norm s
 | .label _, s, k => k .norm s
 | .ret, s, k => k .ret s
 | .exit id, s, k => k (.exit id) s
 | .seq a b, s, k => evCode a s fun ex s' => match ex with
   | .norm => evCode b s' k
   | .ret => k .ret s'
   | .exit i => k (.exit i) s'
 | .cond c x y, s, k => match evalA s.T c with
   | .bool b => cond b (evCode x s k) (evCode y s k)
   | _ => none
 | .block id body, s, k => evCode body s fun ex s' => match ex with
   | .norm => k .norm s'
   | .ret => k .ret s'
   | .exit i => cond (Nat.beq i id) (k .norm s') (k (.exit i) s')
 | .loop body, s, k => match lspA X body s with
   | some (b, alts, ex, s') => cond b (altK alts (k ex s') k) none
   | none => loopN X (fun s k => evCode body s k) body X.fuel s k
 | .scope body, s, k => evCode body s k
 | .region id ops dr, s, k => match X.join id with
   | none => evReg X ops dr (nrms X (X.pre id) s) fun s' => forceS s' fun s' => k .norm s'
   | some l => cond (okJ X ops dr s l) (k .norm (stJ X ops l (dstsOf ops) s)) none
 | _, _, _ => none
def resOf (s : St) : ResultVar → Option AV
 | .tmp t => some (s.t t)
 | .cell t ty => match aggOf X.P ty, szOf X.P ty with
   | some ag, some n => match cellsAt s n (s.t t) with
     | some xs => asm ag xs
     | none => none
   | _, _ => none
def ress (s : St) : List ResultVar → Option (List AV)
 | [] => some []
 | r :: rs => match resOf X s r, ress s rs with
   | some a, some l => some (a :: l)
   | _, _ => none
def resA (s : St) (rs : List ResultVar) : Option AV :=
 match ress X s rs with
 | some [a] => some a
 | some l => some (.tup l)
 | none => none
def initS (fn : Func) (T0 : List AV) (C0 : List Blk) : St :=
 { T := T0 ++ List.replicate (fn.ntmps - T0.length) .junk, C := C0 ++ List.replicate X.nid .dead }
def finS (s : St) (fn : Func) : Option (AV × List Blk) :=
 match resA X s fn.results.toList with
 | some r =>
   let ps := List.range X.m
   let κ := reach s.C (X.m + s.C.length * s.C.length + 64) (ps ++ r.refs) []
   if subL r.refs κ && (closedR s.C κ && (nodupL κ && (List.range X.m).all fun k => Nat.beq (atIx κ k) k && Nat.blt k κ.length)) then some (r.ren (ixOf κ), κ.map fun q => (s.C.getD q .dead).ren (ixOf κ)) else none
 | none => none
def evFun (fn : Func) (T0 : List AV) (C0 : List Blk) : Option (AV × List Blk) :=
 match fn.body with
 | some c => evCode X c (initS X fn T0 C0) fun ex s => match ex with
   | .norm => finS X s fn
   | .ret => finS X s fn
   | .exit _ => none
 | none => none
end
end Go.Proofs.Gv
