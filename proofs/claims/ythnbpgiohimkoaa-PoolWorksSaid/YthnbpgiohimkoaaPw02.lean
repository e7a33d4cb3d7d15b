import Derived.Test.YthnbpgiohimkoaaPw01
set_option linter.unusedVariables false
namespace Go.Proofs.Gv
open Go.RowKit
inductive Blk where
 | dead
 | var (cs : List AV)
 | row (zs : List Kd) (es : List (List AV))
 | tbl (zs : List Kd) (es : List (List AV)) (pd : Option (Int × Nat))
instance : Inhabited Blk := ⟨.dead⟩
def Blk.refs : Blk → List Nat
 | .var cs => AV.refsL cs
 | .tbl _ _ (some p) => [p.2]
 | _ => []
def Blk.ren (f : Nat → Nat) : Blk → Blk
 | .var cs => .var (AV.renL f cs)
 | .tbl zs es (some p) => .tbl zs es (some (p.1, f p.2))
 | k => k
def keyA (e : List AV) : Int := intOf (e.getD 0 .junk)
def hasK (es : List (List AV)) (k : Int) : Bool := es.any fun e => keyA e == k
def getK (es : List (List AV)) (k : Int) : List AV := (es.find? fun e => keyA e == k).getD []
def setK (es : List (List AV)) (k : Int) (x : List AV) : List (List AV) := es.map fun e => bif keyA e == k then x else e
def delK (es : List (List AV)) (k : Int) : List (List AV) := es.filter fun e => !(keyA e == k)
def over (cs : List AV) (off : Nat) (xs : List AV) : List AV := cs.take off ++ xs ++ cs.drop (off + xs.length)
inductive Wr where
 | put (i : Nat) (a : AV)
 | blk (b : Nat) (k : Blk)
 | cel (b off : Nat) (xs : List AV)
structure St where
 T : List AV
 C : List Blk
def St.t (s : St) (i : Nat) : AV := s.T.getD i .junk
def St.c (s : St) (b : Nat) : Blk := s.C.getD b .dead
def St.ap (s : St) : Wr → St
 | .put i a => { s with T := s.T.set i a }
 | .blk b k => { s with C := s.C.set b k }
 | .cel b off xs => match s.c b with
   | .var cs => cond (Nat.ble (off + xs.length) cs.length) { s with C := s.C.set b (.var (over cs off xs)) } s
   | _ => s
def St.aps (s : St) (u : List Wr) : St := u.foldl St.ap s
def St.fits (s : St) : Wr → Bool
 | .put i _ => Nat.blt i s.T.length
 | .blk b _ => Nat.blt b s.C.length
 | .cel _ _ _ => false
def celOK (s : St) (b off : Nat) (xs : List AV) : Bool := Nat.blt b s.C.length && (Nat.blt 0 xs.length && match s.c b with
 | .var cs => Nat.ble (off + xs.length) cs.length
 | _ => false)
def St.fit (s : St) (u : List Wr) : Bool :=
 match u with
 | [.cel b off xs] => celOK s b off xs
 | u => u.all s.fits
def inL (i : Nat) (l : List Nat) : Bool := l.any (Nat.beq i)
def noRefT (d : Nat) (ex : List Nat) : Nat → List AV → Bool
 | _, [] => true
 | i, x :: l => (inL i ex || !(inL d x.refs)) && noRefT d ex (i + 1) l
def noRefC (d : Nat) (ex : List Nat) : Nat → List Blk → Bool
 | _, [] => true
 | i, k :: l => (inL i ex || !(inL d k.refs)) && noRefC d ex (i + 1) l
def noRefs (d : Nat) (ex exb : List Nat) (s : St) : Bool := noRefT d ex 0 s.T && noRefC d exb 0 s.C
section
variable (P : Program)
def szOf (t : TypeId) : Option Nat := (P.info? t).map (·.size)
def aggOf (t : TypeId) : Option Bool :=
 match P.underlying t with
 | some (.struct _) => some true
 | some (.array _ _) => some true
 | some _ => some false
 | none => none
def fieldOf (t : TypeId) (f : Nat) : Option (TypeId × Nat × Nat) :=
 match P.underlying t with
 | some (.struct fs) => match fs[f]? with
   | some x => (szOf P x.type).map fun n => (x.type, x.offset, n)
   | none => none
 | _ => none
def kindF (f : TypeId → Option (List Kd)) : List Field → Option (List Kd)
 | [] => some []
 | x :: l => match f x.type, kindF f l with
   | some a, some b => some (a ++ b)
   | _, _ => none
def kindT : Nat → TypeId → Option (List Kd)
 | 0, _ => none
 | d + 1, t => match P.underlying t with
   | some (.int k) => some [.int k]
   | some .bool => some [.bool]
   | some .string => some [.str]
   | some (.slice e) => (kindT d e).map fun l => [.sl l]
   | some (.struct fs) => kindF (kindT d) fs.toList
   | some (.array n e) => (kindT d e).map fun l => (List.replicate n l).flatten
   | some _ => some [.any]
   | none => none
def kindE (e : TypeId) : Option (List Kd) :=
 match kindT P 8 e, szOf P e with
 | some zs, some n => if Nat.beq zs.length n && Nat.blt 0 n then some zs else none
 | _, _ => none
def v2a0 : Value → AV
 | .int k n => .int k n
 | .bool b => .bool b
 | .string s => .str s.data.toList
 | .slice none 0 0 => .nil
 | .pointer none => .nilp
 | .map none => .nilm
 | _ => .junk
def v2a : Value → AV
 | .agg cs => .agg (cs.toList.map v2a0)
 | v => v2a0 v
def evalA (T : List AV) : Operand → AV
 | .tmp t => T.getD t .junk
 | .const v => v2a v
 | .func f => .fn f []
 | .global _ => .junk
def cell1 : AV → Bool
 | .junk => false
 | .agg _ => false
 | .tup _ => false
 | _ => true
def cellsA : AV → Option (List AV)
 | .agg cs => if cs.all cell1 then some cs else none
 | x => if cell1 x then some [x] else none
def asm (agg : Bool) (cs : List AV) : Option AV :=
 match agg, cs with
 | true, cs => some (.agg cs)
 | false, [x] => some x
 | _, _ => none
def intA (op : BinOp) (k : IntKind) (x y : Int) : Option (Bool × AV) :=
 match op with
 | .add => some (true, .int k (k.wrap (x + y)))
 | .sub => some (true, .int k (k.wrap (x - y)))
 | .mul => some (true, .int k (k.wrap (x * y)))
 | .quo => some (!(y == 0), .int k (k.wrap (x.tdiv y)))
 | .rem => some (!(y == 0), .int k (x.tmod y))
 | .and => some (true, .int k (bits .and k x y))
 | .or => some (true, .int k (bits .or k x y))
 | .xor => some (true, .int k (bits .xor k x y))
 | .eql => some (true, .bool (x == y))
 | .neq => some (true, .bool (x != y))
 | .lss => some (true, .bool (decide (x < y)))
 | .leq => some (true, .bool (decide (x ≤ y)))
 | .gtr => some (true, .bool (decide (x > y)))
 | .geq => some (true, .bool (decide (x ≥ y)))
 | _ => none
def shiftA (op : BinOp) (k : IntKind) (x y : Int) : Option (Bool × AV) :=
 match op with
 | .shl => some (!decide (y < 0), .int k (k.wrap (x * 2 ^ (min y.toNat k.bits))))
 | .shr => some (!decide (y < 0), .int k (x.fdiv (2 ^ (min y.toNat k.bits))))
 | _ => none
def strA (op : BinOp) (x y : List UInt8) : Option (Bool × AV) :=
 match op with
 | .add => some (decide (x.length + y.length ≤ 9223372036854775807), .str (x ++ y))
 | .eql => some (true, .bool (x == y))
 | .neq => some (true, .bool (!(x == y)))
 | _ => none
def partA (t : TypeId) (xs : List AV) (off : Nat) : Option AV :=
 match aggOf P t, szOf P t with
 | some true, some n => some (.agg ((xs.drop off).take n))
 | some false, _ => xs[off]?
 | _, _ => none
def eqFs (rc : TypeId → AV → AV → Option Bool) (xs ys : List AV) : List Field → Option Bool
 | [] => some true
 | f :: fs =>
   if f.name = "_" then none else
   match partA P f.type xs f.offset, partA P f.type ys f.offset with
   | some a, some b => match rc f.type a b, eqFs rc xs ys fs with
     | some p, some q => some (p && q)
     | _, _ => none
   | _, _ => none
def eqT : Nat → TypeId → AV → AV → Option Bool
 | 0, _, _, _ => none
 | d + 1, t, a, b =>
   match P.underlying t, a, b with
   | some (.struct fs), .agg xs, .agg ys => if P.stoodInHeld t then none else eqFs P (eqT d) xs ys fs.toList
   | some .bool, .bool x, .bool y => some (x == y)
   | some (.int _), .int j x, .int k y => if j = k then some (x == y) else none
   | some .string, .str x, .str y => some (x == y)
   | _, _, _ => none
def byteOf (e : List AV) : UInt8 := UInt8.ofNat (intOf (e.getD 0 .junk)).toNat
def ofB (b : UInt8) : List AV := [.int .u8 (b.toNat : Int)]
def isB (e : List AV) : Bool := decide (0 ≤ intOf (e.getD 0 .junk)) && decide (intOf (e.getD 0 .junk) ≤ 255)
def roomOk (n bytes : Nat) : Bool := decide (n * bytes ≤ 140737488355328) && decide (n ≤ 9223372036854775807)
variable (idOf : Nat → Option Nat)
def rOne (d : Option Nat) (a : AV) : Option (Bool × List Wr) :=
 match d with
 | some d => some (true, [.put d a])
 | none => none
def rCond (b : Bool) (d : Option Nat) (a : AV) : Option (Bool × List Wr) :=
 match d with
 | some d => some (b, [.put d a])
 | none => none
def newRow (s : St) (b : Bool) (d : Option Nat) (zs : List Kd) (es : List (List AV)) : Option (Bool × List Wr) :=
 match d with
 | some d => match idOf d with
   | some q => if noRefs q [d] [q] s then some (b, [.blk q (.row zs es), .put d (.rf q zs)]) else none
   | none => some (b, [.put d (.sl .imm zs es)])
 | none => none
def newVar (s : St) (d : Option Nat) (cs : List AV) : Option (Bool × List Wr) :=
 match d with
 | some d => match idOf d with
   | some q => if noRefs q [d] [q] s && !(inL q (AV.refsL cs)) then some (true, [.blk q (.var cs), .put d (.hp q 0)]) else none
   | none => none
 | none => none
def cPick (d : Option Nat) (c a b : AV) : Option (Bool × List Wr) :=
 match c with
 | .bool c => match a, b with
   | .bool x, .bool y => rOne d (.bool (cond c x y))
   | a, b => cond c (rOne d a) (rOne d b)
 | _ => none
def zeroA (t : TypeId) : Option AV := (P.info? t).bind fun i => i.zero.map v2a
def overAll (place : Nat → Option (Nat × Nat)) : List AV → List (Nat × AV) → Option (List AV)
 | cs, [] => some cs
 | cs, (i, a) :: ps => match place i, cellsA a with
   | some (off, n), some xs => if xs.length = n ∧ off + n ≤ cs.length then overAll place (over cs off xs) ps else none
   | _, _ => none
def cBuild (d : Option Nat) (t : TypeId) (ps : List (Nat × AV)) : Option (Bool × List Wr) :=
 match d, (zeroA P t).bind cellsA, P.underlying t with
 | some d, some cs, some (.struct fs) => if fs.toList.all (fun f => (szOf P f.type).isSome) then match overAll (fun f => (fieldOf P t f).map fun x => x.2) cs ps with
   | some cs => some (true, [.put d (.agg cs)])
   | none => none
   else none
 | some d, some cs, some (.array _ e) => match szOf P e with
   | some n => match overAll (fun i => some (i * n, n)) cs ps with
     | some cs => some (true, [.put d (.agg cs)])
     | none => none
   | none => none
 | _, _, _ => none
def fillE (zs : List Kd) (es : List (List AV)) : List (Nat × AV) → Option (List (List AV))
 | [] => some es
 | (i, a) :: ps => match es[i]?, cellsA a with
   | some _, some xs => if okRow zs xs && AV.pureL xs then fillE zs (es.set i xs) ps else none
   | _, _ => none
def cBuildSlice (s : St) (d : Option Nat) (t : TypeId) (n : Nat) (ps : List (Nat × AV)) : Option (Bool × List Wr) :=
 match P.underlying t with
 | some (.slice e) => match kindE P e, (zeroA P e).bind cellsA with
   | some zs, some z => if (okRow zs z && AV.pureL z) && Nat.ble (n * zs.length) 16777216 then
     match fillE zs (List.replicate n z) ps with
     | some es => newRow idOf s true d zs es
     | none => none
     else none
   | _, _ => none
 | _ => none
def bnd (lo hi len : Int) : Bool := decide (0 ≤ lo) && decide (lo ≤ hi) && decide (hi ≤ len)
def rowOf (s : St) (q : Nat) (zs : List Kd) : Option (List (List AV)) :=
 match s.c q with
 | .row zs' es => if Kd.eqL zs zs' then some es else none
 | _ => none
def tblOf (s : St) (q : Nat) (zs : List Kd) : Option (List (List AV)) :=
 match s.c q with
 | .tbl zs' es none => if Kd.eqL zs zs' then some es else none
 | _ => none
def eltOf (zs : List Kd) (es : List (List AV)) (k : Int) : List AV := fitRow zs ((getK es k).drop 1)
def cellsAt (s : St) (n : Nat) : AV → Option (List AV)
 | .hp q off => match s.c q with
   | .var cs => if Nat.ble (off + n) cs.length then some ((cs.drop off).take n) else none
   | _ => none
 | .ep q zs i off => match rowOf s q zs with
   | some es => if Nat.ble (off + n) zs.length then some (((fitRow zs (es.getD i [])).drop off).take n) else none
   | none => none
 | .ip _ cs => if Nat.ble n cs.length then some (cs.take n) else none
 | _ => none
def cLoad (s : St) (d : Option Nat) (t : TypeId) (a : AV) : Option (Bool × List Wr) :=
 match aggOf P t, szOf P t with
 | some ag, some n => match a with
   | .mt q zs k off => match tblOf s q zs with
     | some es => if Nat.ble (off + n) zs.length then match asm ag (((eltOf zs es k).drop off).take n) with
       | some r => rCond (hasK es k) d r
       | none => none
       else none
     | none => none
   | a => match cellsAt s n a with
     | some xs => match asm ag xs with
       | some r => rOne d r
       | none => none
     | none => none
 | _, _ => none
def slA (s : St) : AV → Option (Nat × List Kd × List (List AV))
 | .rf q zs => (rowOf s q zs).map fun es => (q, zs, es)
 | .rs q zs i n _ => (rowOf s q zs).map fun es => (q, zs, (es.drop i).take n)
 | _ => none
def cStore (s : St) (t : TypeId) (p a : AV) : Option (Bool × List Wr) :=
 match p, szOf P t, cellsA a with
 | .hp q off, some n, some xs => match s.c q with
   | .var cs => if Nat.beq xs.length n && (Nat.ble (off + n) cs.length && Nat.blt 0 n) then some (true, [.cel q off xs]) else none
   | _ => none
 | .ep q zs i off, some n, some xs => match rowOf s q zs with
   | some es => if Nat.beq xs.length n && (Nat.ble (off + n) zs.length && (Nat.blt 0 n && (okRow zs (over (fitRow zs (es.getD i [])) off xs) && AV.pureL xs))) then some (true, [.blk q (.row zs (es.set i (over (fitRow zs (es.getD i [])) off xs)))]) else none
   | none => none
 | .mt q zs k off, some n, some xs => match tblOf s q zs with
   | some es => if Nat.beq xs.length n && (Nat.ble (off + n) zs.length && (Nat.blt 0 n && (okRow zs (over (eltOf zs es k) off xs) && AV.pureL xs))) then some (hasK es k, [.blk q (.tbl zs (setK es k (.int .i64 k :: over (eltOf zs es k) off xs)) none)]) else none
   | none => none
 | _, _, _ => none
def cNil (d : Option Nat) (a : AV) : Option (Bool × List Wr) :=
 match a with
 | .hp _ _ => rOne d a
 | .ep _ _ _ _ => rOne d a
 | .ip _ _ => rOne d a
 | .fn _ _ => rOne d a
 | .mt _ _ _ _ => rOne d a
 | _ => none
def boolR (d : Option Nat) (b : Option (Bool × AV)) : Option (Bool × List Wr) :=
 match b with
 | some (c, a) => rCond c d a
 | none => none
def isNilV : AV → AV → Option Bool
 | .nil, .nil => some true
 | .nilp, .nilp => some true
 | .hp _ _, .nilp => some false
 | .ep _ _ _ _, .nilp => some false
 | .ip _ _, .nilp => some false
 | .mt _ _ _ _, .nilp => some false
 | _, _ => none
def cEqNil (d : Option Nat) (eq : Bool) (t : TypeId) (k : Tk) (es : List (List AV)) : Option (Bool × List Wr) :=
 match P.underlying t, k with
 | some (.slice _), .nn => rOne d (.bool (!eq))
 | some (.slice _), _ => rCond (decide (0 < es.length)) d (.bool (!eq))
 | _, _ => none
def cNilNil (d : Option Nat) (eq : Bool) (t : TypeId) : Option (Bool × List Wr) :=
 match P.underlying t with
 | some (.slice _) => rOne d (.bool eq)
 | _ => none
def cNilP (d : Option Nat) (eq : Bool) (t : TypeId) (a : AV) : Option (Bool × List Wr) :=
 match P.underlying t, isNilV a .nilp with
 | some (.pointer _), some b => rOne d (.bool (b == eq))
 | _, _ => none
def cBin (d : Option Nat) (op : BinOp) (t : TypeId) (a b : AV) : Option (Bool × List Wr) :=
 match op, a, b with
 | .shl, .int k x, .int _ y => boolR d (shiftA .shl k x y)
 | .shr, .int k x, .int _ y => boolR d (shiftA .shr k x y)
 | op, .int k x, .int k' y => if k = k' then boolR d (intA op k x y) else none
 | op, .str x, .str y => boolR d (strA op x y)
 | .eql, .sl t' _ es, .nil => cEqNil P d true t t' es
 | .neq, .sl t' _ es, .nil => cEqNil P d false t t' es
 | .eql, .nil, .nil => cNilNil P d true t
 | .neq, .nil, .nil => cNilNil P d false t
 | .eql, a, .nilp => cNilP P d true t a
 | .neq, a, .nilp => cNilP P d false t a
 | .eql, a, b => match eqT P 20 t a b with
   | some r => if P.eqGuardType P.depth t then none else rOne d (.bool r)
   | none => none
 | .neq, a, b => match eqT P 20 t a b with
   | some r => if P.eqGuardType P.depth t then none else rOne d (.bool (!r))
   | none => none
 | _, _, _ => none
def cUn (d : Option Nat) (op : UnOp) (a : AV) : Option (Bool × List Wr) :=
 match op, a with
 | .not, .bool b => rOne d (.bool (!b))
 | .neg, .int k n => rOne d (.int k (k.wrap (0 - n)))
 | _, _ => none
def elsOf (s : St) (zs : List Kd) : AV → Option (List (List AV))
 | .sl _ zs' es => if Kd.eqL zs zs' then some es else none
 | .nil => some []
 | .nilz => some []
 | .rf q zs' => if Kd.eqL zs zs' then rowOf s q zs else none
 | .rs q zs' i n _ => if Kd.eqL zs zs' then (rowOf s q zs).map fun es => (es.drop i).take n else none
 | _ => none
def isSl : AV → Bool
 | .sl _ _ _ => true
 | .nil => true
 | .nilz => true
 | .rf _ _ => true
 | .rs _ _ _ _ _ => true
 | _ => false
def cConv (s : St) (d : Option Nat) (src dst : TypeId) (a : AV) : Option (Bool × List Wr) :=
 match P.underlying src, P.underlying dst, a with
 | some (.int _), some (.int k), .int _ n => rOne d (.int k (k.wrap n))
 | some .string, some .string, .str l => rOne d (.str l)
 | some .string, some (.slice e), .str l => match P.underlying e with
   | some (.int .u8) => newRow idOf s (decide (l.length ≤ 4611686018427387904)) d [.int .u8] (l.map ofB)
   | _ => none
 | some (.slice e), some .string, a => match P.underlying e, elsOf s [.int .u8] a with
   | some (.int .u8), some es => rCond (es.all isB) d (.str (es.map byteOf))
   | _, _ => none
 | some (.slice _), some (.slice e), .rf q zs => match P.underlying e, rowOf s q zs, d with
   | some (.int .u8), some es, some d => if src = dst then (match idOf d with
     | none => some (decide (0 < es.length), [.blk q .dead, .put d (.sl .imm zs es)])
     | some _ => some (decide (0 < es.length), [.blk q (.row zs es), .put d (.rf q zs)])) else none
   | _, _, _ => none
 | _, _, _ => none
def isCst : Option Operand → Bool
 | some (.const _) => true
 | _ => false
def cSlice (z : Bool) (s : St) (d : Option Nat) (t : TypeId) (a : AV) (lo hi mx : Option AV) : Option (Bool × List Wr) :=
 match P.underlying t, a with
 | some .string, .str l => match lo, hi, mx with
   | none, none, none => rOne d (.str l)
   | some (.int _ x), none, none => rCond (bnd x l.length l.length) d (.str (l.drop x.toNat))
   | none, some (.int _ y), none => rCond (bnd 0 y l.length) d (.str (l.take y.toNat))
   | some (.int _ x), some (.int _ y), none => rCond (bnd x y l.length) d (.str ((l.take y.toNat).drop x.toNat))
   | _, _, _ => none
 | some (.slice e), .sl tk zs es => if szOf P e ≠ some zs.length then none else match lo, hi, mx with
   | none, none, none => rOne d (.sl tk zs es)
   | some (.int _ x), none, none => rCond (bnd x es.length es.length) d (.sl tk zs (es.drop x.toNat))
   | none, some (.int _ y), none => rCond (bnd 0 y es.length) d (.sl tk zs (es.take y.toNat))
   | some (.int _ x), some (.int _ y), none => rCond (bnd x y es.length) d (.sl tk zs ((es.take y.toNat).drop x.toNat))
   | none, some (.int _ y), some (.int _ m) => match z && (y == 0 && m == 0) with
     | true => rOne d .nilz
     | false => rCond (bnd 0 y es.length && bnd y m es.length) d (.sl tk zs (es.take y.toNat))
   | some (.int _ x), some (.int _ y), some (.int _ m) => rCond (bnd x y es.length && bnd y m es.length) d (.sl tk zs ((es.take y.toNat).drop x.toNat))
   | _, _, _ => none
 | some (.slice e), .rf q zs => if szOf P e ≠ some zs.length then none else match rowOf s q zs with
   | none => none
   | some es => match lo, hi, mx with
     | none, none, none => rOne d (.rf q zs)
     | some (.int _ x), none, none => rCond (bnd x es.length es.length) d (.rs q zs x.toNat (es.length - x.toNat) (es.length - x.toNat))
     | none, some (.int _ y), none => rCond (bnd 0 y es.length) d (.rs q zs 0 y.toNat es.length)
     | some (.int _ x), some (.int _ y), none => rCond (bnd x y es.length) d (.rs q zs x.toNat (y.toNat - x.toNat) (es.length - x.toNat))
     | none, some (.int _ 0), some (.int _ 0) => rOne d .nilz
     | some (.int _ x), some (.int _ y), some (.int _ m) => rCond (bnd x y es.length && bnd y m es.length) d (.rs q zs x.toNat (y.toNat - x.toNat) (m.toNat - x.toNat))
     | _, _, _ => none
 | some (.slice e), .rs q zs i n cp => if szOf P e ≠ some zs.length then none else match lo, hi, mx with
   | none, none, none => rOne d (.rs q zs i n cp)
   | some (.int _ x), none, none => rCond (bnd x n n) d (.rs q zs (x.toNat + i) (n - x.toNat) (cp - x.toNat))
   | none, some (.int _ y), none => rCond (bnd 0 y n) d (.rs q zs i y.toNat cp)
   | some (.int _ x), some (.int _ y), none => match rowOf s q zs with
     | some es => rCond (bnd x y cp && decide (i + y.toNat ≤ es.length)) d (.rs q zs (x.toNat + i) (y.toNat - x.toNat) (cp - x.toNat))
     | none => none
   | none, some (.int _ 0), some (.int _ 0) => rOne d .nilz
   | _, _, _ => none
 | some (.array n e), .hp q 0 => match s.c q, lo, hi, mx with
   | .var cs, none, none, none => match kindE P e, d with
     | some zs, some d => if Nat.beq zs.length 1 && (Nat.beq cs.length n && (Nat.ble n 16777216 && cs.all fun x => okRow zs [x] && x.pure)) then some (true, [.blk q (.row zs (cs.map fun x => [x])), .put d (.rf q zs)]) else none
     | _, _ => none
   | _, _, _, _ => none
 | some (.slice e), .nil => if (szOf P e).isSome = false then none else match lo, hi, mx with
   | none, none, none => rOne d .nil
   | some (.int _ x), none, none => rCond (x == 0) d .nil
   | none, some (.int _ y), none => rCond (y == 0) d .nil
   | none, some (.int _ 0), some (.int _ 0) => rOne d .nilz
   | _, _, _ => none
 | _, _ => none
def cFieldAddr (d : Option Nat) (t : TypeId) (f : Nat) (a : AV) : Option (Bool × List Wr) :=
 match fieldOf P t f, a with
 | some (_, off, n), .hp s o => if n = 0 then none else rOne d (.hp s (o + off))
 | some (_, off, n), .ep s zs i o => if n = 0 then none else rOne d (.ep s zs i (o + off))
 | some (_, off, n), .ip t cs => if n = 0 then none else rOne d (.ip t (cs.drop off))
 | some (_, off, n), .mt s zs k o => if n = 0 then none else rOne d (.mt s zs k (o + off))
 | _, _ => none
def cField (d : Option Nat) (t : TypeId) (f : Nat) (a : AV) : Option (Bool × List Wr) :=
 match fieldOf P t f, a with
 | some (ft, off, _), .agg cs => match partA P ft cs off with
   | some r => rOne d r
   | none => none
 | _, _ => none
def cIndexAddr (s : St) (d : Option Nat) (t : TypeId) (a i : AV) : Option (Bool × List Wr) :=
 match P.underlying t, a, i with
 | some (.slice e), .sl tk zs es, .int _ i => if szOf P e = some zs.length then rCond (decide (0 ≤ i) && decide (i < es.length)) d (.ip tk (fitRow zs (es.getD i.toNat []))) else none
 | some (.slice e), .rf q zs, .int _ i => match rowOf s q zs with
   | some es => if szOf P e = some zs.length then rCond (decide (0 ≤ i) && decide (i < es.length)) d (.ep q zs i.toNat 0) else none
   | none => none
 | some (.slice e), .rs q zs j n _, .int _ i => if szOf P e = some zs.length then rCond (decide (0 ≤ i) && decide (i < n)) d (.ep q zs (i.toNat + j) 0) else none
 | some (.array n e), .hp s o, .int _ i => match szOf P e with
   | some sz => if 0 ≤ i ∧ i < n then rOne d (.hp s (o + i.toNat * sz)) else none
   | none => none
 | some (.array n e), .ip t cs, .int _ i => match szOf P e with
   | some sz => rCond (decide (0 ≤ i) && decide (i < n)) d (.ip t (cs.drop (i.toNat * sz)))
   | none => none
 | _, _, _ => none
def cArrPtr (d : Option Nat) (t : TypeId) (a : AV) : Option (Bool × List Wr) :=
 match P.underlying t, a with
 | some (.array n e), .sl tk zs es => if szOf P e = some zs.length ∧ 0 < n then rCond (decide (n ≤ es.length)) d (.ip tk ((List.range n).flatMap fun j => fitRow zs (es.getD j []))) else none
 | _, _ => none
def cIndex (d : Option Nat) (t : TypeId) (a i : AV) : Option (Bool × List Wr) :=
 match P.underlying t, a, i with
 | some .string, .str l, .int _ i => rCond (decide (0 ≤ i) && decide (i < l.length)) d (.int .u8 ((l.getD i.toNat 0).toNat : Int))
 | some (.array n e), .agg cs, .int _ i => match aggOf P e, szOf P e, kindE P e with
   | some false, some sz, some [z] => if Nat.beq sz 1 && (Nat.beq cs.length n && cs.all (isKind z)) then rCond (decide (0 ≤ i) && decide (i < n)) d (fit z (cs.getD i.toNat .junk)) else none
   | _, _, _ => none
 | _, _, _ => none
def cExtract (d : Option Nat) (ix : Nat) (a : AV) : Option (Bool × List Wr) :=
 match a with
 | .tup rs => match rs[ix]? with
   | some r => rOne d r
   | none => none
 | _ => none
def lenA (s : St) : AV → Option Nat
 | .sl _ _ es => some es.length
 | .nil => some 0
 | .nilz => some 0
 | .rf q zs => (rowOf s q zs).map List.length
 | .rs _ _ _ n _ => some n
 | _ => none
def lenM (s : St) : AV → Option Nat
 | .mp q zs => (tblOf s q zs).map List.length
 | _ => none
def cLen (s : St) (d : Option Nat) (t : TypeId) (a : AV) : Option (Bool × List Wr) :=
 match P.underlying t, a with
 | some .string, .str l => rOne d (.int .i64 l.length)
 | some (.slice _), a => match lenA s a with
   | some n => rOne d (.int .i64 n)
   | none => none
 | some (.map _ _), a => match lenM s a with
   | some n => rOne d (.int .i64 n)
   | none => none
 | _, _ => none
def cMinMax (mx : Bool) (d : Option Nat) (a b : AV) : Option (Bool × List Wr) :=
 match a, b with
 | .int k x, .int k' y => if k = k' then rOne d (.int k (if (if mx then x < y else y < x) then y else x)) else none
 | _, _ => none
def pickId (q1 : Nat) (alt : Option Nat) (q : Nat) : Nat :=
 match alt with
 | some q2 => cond (Nat.beq q q1) q2 q1
 | none => q1
variable (alt : Nat → Option Nat)
def appRow (s : St) (b : Bool) (d : Option Nat) (x : Operand) (q : Nat) (zs : List Kd) (es : List (List AV)) : Option (Bool × List Wr) :=
 match d, x with
 | some d, .tmp p => match (idOf d).map fun q1 => pickId q1 (alt d) q with
   | some q' => if noRefs q' [d, p] [q'] s && Nat.beq q' q && !(Nat.beq p d) then some (b, [.put p .junk, .blk q (.row zs es), .put d (.rf q zs)]) else
     if noRefs q' [d] [q'] s && !(Nat.beq q' q) then some (b, [.blk q .dead, .blk q' (.row zs es), .put d (.rf q' zs)]) else none
   | none => some (b, [.blk q .dead, .put d (.sl .imm zs es)])
 | _, _ => none
def srcOf (s : St) (t u : TypeId) (zs : List Kd) (b : AV) : Option (List (List AV)) :=
 if t = u then elsOf s zs b else
  match P.underlying u, b with
  | some .string, .str l => if Kd.eqL zs [.int .u8] then some (l.map ofB) else none
  | _, _ => none
def cAppend (s : St) (d : Option Nat) (t u : TypeId) (x : Operand) (a b : AV) : Option (Bool × List Wr) :=
 match P.underlying t with
 | some (.slice e) => match P.info? e, kindE P e, (zeroA P e).bind cellsA with
   | some i, some zs, some z => if z.length ≠ zs.length then none else match srcOf P s t u zs b with
     | some xs => match a with
       | .nil => newRow idOf s (roomOk xs.length i.bytes) d zs xs
       | .nilz => newRow idOf s (roomOk xs.length i.bytes) d zs xs
       | .rf q zs' => if Kd.eqL zs zs' then match rowOf s q zs with
         | some es => appRow idOf alt s (roomOk (es.length + xs.length) i.bytes) d x q zs (es ++ xs)
         | none => none
         else none
       | .rs q zs' j n cp => if Kd.eqL zs zs' then match rowOf s q zs, d with
         | some es, some d => some (decide (j + n + xs.length ≤ es.length) && (decide (n + xs.length ≤ cp) && roomOk (n + xs.length) i.bytes), [.blk q (.row zs (es.take (j + n) ++ xs ++ es.drop (j + n + xs.length))), .put d (.rs q zs j (n + xs.length) cp)])
         | _, _ => none
         else none
       | _ => none
     | none => none
   | _, _, _ => none
 | _ => none
def strTy : Option TypeId := (List.range 16).find? fun t => match P.underlying t with
 | some .string => true
 | _ => false
def zB (t : TypeId) : Bool :=
 match P.underlying t with
 | some (.slice e) => match P.info? e with
   | some i => Nat.beq i.size 1 && (Nat.ble i.bytes 8 && match i.zero with
     | some (.int .u8 m) => m == 0
     | _ => false)
   | none => false
 | _ => false
def cAppendZ (s : St) (d : Option Nat) (t u : TypeId) (x : Operand) (a b : AV) : Option (Bool × List Wr) :=
 match P.underlying u, b with
 | some (.int _), .int _ n => match strTy P with
   | some us => cond (zB P t) ((cAppend P idOf alt s d t us x a (.str (List.replicate n.toNat 0))).map fun p => (decide (0 ≤ n) && (decide (n ≤ 1099511627776) && p.1), p.2)) none
   | none => none
 | _, _ => cAppend P idOf alt s d t u x a b
def putD (d : Option Nat) : List Wr :=
 match d with
 | some d => [.put d (.tup [])]
 | none => []
def cClear (s : St) (d : Option Nat) (t : TypeId) (a : AV) : Option (Bool × List Wr) :=
 match P.underlying t with
 | some (.slice e) => match kindE P e, (zeroA P e).bind cellsA with
   | some zs, some z => if okRow zs z && AV.pureL z then match a with
     | .rf q zs' => if Kd.eqL zs zs' then match rowOf s q zs with
       | some es => some (true, .blk q (.row zs (List.replicate es.length z)) :: putD d)
       | _ => none
       else none
     | .rs q zs' j n _ => if Kd.eqL zs zs' then match rowOf s q zs with
       | some es => some (true, .blk q (.row zs (es.take j ++ List.replicate n z ++ es.drop (j + n))) :: putD d)
       | _ => none
       else none
     | _ => none
     else none
   | _, _ => none
 | _ => none
def cMake (s : St) (d : Option Nat) (t : TypeId) (a b : AV) : Option (Bool × List Wr) :=
 match P.underlying t, a, b with
 | some (.slice e), .int _ n, .int _ m => match P.info? e, kindE P e, (zeroA P e).bind cellsA with
   | some i, some zs, some z => if okRow zs z && AV.pureL z then newRow idOf s (decide (0 ≤ n) && n == m && decide (n * i.bytes ≤ 140737488355328) && decide (n ≤ 9223372036854775807)) d zs (List.replicate n.toNat z) else none
   | _, _, _ => none
 | _, _, _ => none
def mapT (t : TypeId) : Option (List Kd) :=
 match P.underlying t with
 | some (.map kt et) => match P.underlying kt, zeroA P et, P.underlying et with
   | some (.int .i64), some .nilp, some (.pointer e) => kindE P e
   | _, _, _ => none
 | _ => none
def cMakeMap (s : St) (d : Option Nat) (t : TypeId) : Option (Bool × List Wr) :=
 match mapT P t, d with
 | some zs, some d => match idOf d with
   | some q => if noRefs q [d] [q] s then some (true, [.blk q (.tbl zs [] none), .put d (.mp q zs)]) else none
   | none => none
 | _, _ => none
def cLookup (s : St) (d : Option Nat) (t : TypeId) (m k : AV) : Option (Bool × List Wr) :=
 match mapT P t, m, k with
 | some zs', .mp q zs, .int .i64 k => match tblOf s q zs with
   | some es => if Kd.eqL zs zs' then cond (hasK es k) (rOne d (.mt q zs k 0)) (rOne d .nilp) else none
   | none => none
 | _, _, _ => none
def cMapUpdate (s : St) (d : Option Nat) (t : TypeId) (m k v : AV) : Option (Bool × List Wr) :=
 match mapT P t, m, k, v, d with
 | some zs', .mp q zs, .int .i64 k, .hp q2 0, none => match tblOf s q zs with
   | some es => if Kd.eqL zs zs' && !(Nat.beq q q2) then some (!(hasK es k), [.blk q (.tbl zs es (some (k, q2)))]) else none
   | none => none
 | _, _, _, _, _ => none
def cDelete (s : St) (d : Option Nat) (t : TypeId) (m k : AV) : Option (Bool × List Wr) :=
 match mapT P t, m, k with
 | some zs', .mp q zs, .int .i64 k => match tblOf s q zs with
   | some es => if Kd.eqL zs zs' then some (true, .blk q (.tbl zs (delK es k) none) :: putD d) else none
   | none => none
 | _, _, _ => none
end
end Go.Proofs.Gv
