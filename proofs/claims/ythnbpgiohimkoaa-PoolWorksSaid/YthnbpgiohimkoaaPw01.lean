import Derived.WalkKit
import Derived.WalkLawsBesides
import Derived.Deep.AppendLies
import Derived.Orders
import Derived.Below
import Derived.ShutString
import Derived.MapKept
set_option linter.unusedVariables false
namespace Go.Proofs.Gv
open Go.RowKit
inductive Tk where
 | imm
 | lent
 | nn
 deriving DecidableEq
inductive Kd where
 | any
 | int (k : IntKind)
 | bool
 | str
 | sl (zs : List Kd)
 mutual
def Kd.eq : Kd → Kd → Bool
 | .any, .any => true
 | .int k, .int k' => decide (k = k')
 | .bool, .bool => true
 | .str, .str => true
 | .sl zs, .sl zs' => Kd.eqL zs zs'
 | _, _ => false
def Kd.eqL : List Kd → List Kd → Bool
 | [], [] => true
 | x :: l, y :: m => x.eq y && Kd.eqL l m
 | _, _ => false
 end
theorem Kd.eqL_of : ∀ (a b : List Kd), Kd.eqL a b = true → a = b := by
 refine @Kd.rec_1 (fun a => ∀ b, Kd.eq a b = true → a = b) (fun a => ∀ b, Kd.eqL a b = true → a = b) ?_ ?_ ?_ ?_ ?_ ?_ ?_
 ·intro b h; cases b <;> first | rfl | (simp [Kd.eq] at h)
 ·intro k b h; cases b <;> first | (simp [Kd.eq] at h; subst h; rfl) | (simp [Kd.eq] at h)
 ·intro b h; cases b <;> first | rfl | (simp [Kd.eq] at h)
 ·intro b h; cases b <;> first | rfl | (simp [Kd.eq] at h)
 ·intro zs ih b h; cases b <;> first | (simp only [Kd.eq] at h; rw [ih _ h]) | (simp [Kd.eq] at h)
 ·intro b h; cases b <;> first | rfl | (simp [Kd.eqL] at h)
 ·intro x l ihx ihl b h
  cases b with
  | nil => simp [Kd.eqL] at h
  | cons y m =>
    simp only [Kd.eqL, Bool.and_eq_true] at h
    rw [ihx _ h.1, ihl _ h.2]
inductive AV where
 | junk
 | int (k : IntKind) (n : Int)
 | bool (b : Bool)
 | str (l : List UInt8)
 | fn (f : FuncId) (caps : List AV)
 | nil
 | nilz
 | nilp
 | nilm
 | agg (cs : List AV)
 | tup (cs : List AV)
 | sl (t : Tk) (zs : List Kd) (es : List (List AV))
 | ip (t : Tk) (cs : List AV)
 | hp (s off : Nat)
 | ep (s : Nat) (zs : List Kd) (i off : Nat)
 | rf (s : Nat) (zs : List Kd)
 | rs (s : Nat) (zs : List Kd) (i n cp : Nat)
 | mp (s : Nat) (zs : List Kd)
 | mt (s : Nat) (zs : List Kd) (k : Int) (off : Nat)
instance : Inhabited AV := ⟨.junk⟩
 mutual
def AV.refs : AV → List Nat
 | .fn _ caps => AV.refsL caps
 | .agg cs => AV.refsL cs
 | .tup cs => AV.refsL cs
 | .hp s _ => [s]
 | .ep s _ _ _ => [s]
 | .rf s _ => [s]
 | .rs s _ _ _ _ => [s]
 | .mp s _ => [s]
 | .mt s _ _ _ => [s]
 | _ => []
def AV.refsL : List AV → List Nat
 | [] => []
 | x :: l => x.refs ++ AV.refsL l
 end
 mutual
def AV.ren (f : Nat → Nat) : AV → AV
 | .fn g caps => .fn g (AV.renL f caps)
 | .agg cs => .agg (AV.renL f cs)
 | .tup cs => .tup (AV.renL f cs)
 | .hp s o => .hp (f s) o
 | .ep s z i o => .ep (f s) z i o
 | .rf s z => .rf (f s) z
 | .rs s z i n c => .rs (f s) z i n c
 | .mp s z => .mp (f s) z
 | .mt s z k o => .mt (f s) z k o
 | x => x
def AV.renL (f : Nat → Nat) : List AV → List AV
 | [] => []
 | x :: l => x.ren f :: AV.renL f l
 end
theorem AV.renL_eq (f : Nat → Nat) (l : List AV) : AV.renL f l = l.map (AV.ren f) := by
 induction l with
 | nil => rfl
 | cons x l ih => simp [AV.renL, ih]
theorem AV.refsL_eq (l : List AV) : AV.refsL l = l.flatMap AV.refs := by
 induction l with
 | nil => rfl
 | cons x l ih => simp [AV.refsL, ih]
theorem AV.mem_refsL {l : List AV} {i : Nat} {x : AV} {s : Nat} (h : l[i]? = some x) (hs : s ∈ x.refs) : s ∈ AV.refsL l := by
 rw [AV.refsL_eq]
 exact List.mem_flatMap.2 ⟨x, List.mem_of_getElem? h, hs⟩
def intOf : AV → Int
 | .int _ n => n
 | _ => 0
def boolOf : AV → Bool
 | .bool b => b
 | _ => false
def strOf : AV → List UInt8
 | .str l => l
 | _ => []
def elsO : AV → List (List AV)
 | .sl _ _ es => es
 | _ => []
def isKind : Kd → AV → Bool
 | .any, _ => true
 | .int k, .int k' _ => decide (k = k')
 | .bool, .bool _ => true
 | .str, .str _ => true
 | .sl zs, .sl .imm zs' _ => Kd.eqL zs zs'
 | .sl _, .nil => true
 | .sl _, .nilz => true
 | _, _ => false
def fit (z : Kd) (x : AV) : AV :=
 match z with
 | .any => x
 | .int k => .int k (intOf x)
 | .bool => .bool (boolOf x)
 | .str => .str (strOf x)
 | .sl zs => .sl .imm zs (elsO x)
def okRow : List Kd → List AV → Bool
 | [], [] => true
 | z :: zs, x :: xs => isKind z x && okRow zs xs
 | _, _ => false
def fitFrom : Nat → List Kd → List AV → List AV
 | _, [], _ => []
 | j, z :: zs, xs => fit z (xs.getD j .junk) :: fitFrom (j + 1) zs xs
def fitRow (zs : List Kd) (xs : List AV) : List AV := fitFrom 0 zs xs
theorem okRow_len : ∀ (zs : List Kd) (xs : List AV), okRow zs xs = true → xs.length = zs.length := by
 intro zs
 induction zs with
 | nil => intro xs h; cases xs with
   | nil => rfl
   | cons x xs => simp [okRow] at h
 | cons z zs ih => intro xs h; cases xs with
   | nil => simp [okRow] at h
   | cons x xs => simp only [okRow, Bool.and_eq_true] at h; simp [ih xs h.2]
theorem okRow_get : ∀ (zs : List Kd) (xs : List AV), okRow zs xs = true → ∀ (j : Nat) (z : Kd) (x : AV), zs[j]? = some z → xs[j]? = some x → isKind z x = true := by
 intro zs
 induction zs with
 | nil => intro xs h j z x hz; cases hz
 | cons z zs ih => intro xs h; cases xs with
   | nil => simp [okRow] at h
   | cons x xs =>
     simp only [okRow, Bool.and_eq_true] at h
     intro j z' x' h1 h2
     cases j with
     | zero => simp at h1 h2; subst h1 h2; exact h.1
     | succ j => exact ih xs h.2 j z' x' (by simpa using h1) (by simpa using h2)
theorem fitFrom_get : ∀ (zs : List Kd) (k : Nat) (xs : List AV) (j : Nat), (fitFrom k zs xs)[j]? = (zs[j]?).map fun z => fit z (xs.getD (k + j) .junk) := by
 intro zs
 induction zs with
 | nil => intro k xs j; simp [fitFrom]
 | cons z zs ih =>
   intro k xs j
   cases j with
   | zero => simp [fitFrom]
   | succ j => simp only [fitFrom, List.getElem?_cons_succ, ih]; rw [show k + 1 + j = k + (j + 1) from by omega]
theorem fitRow_get (zs : List Kd) (xs : List AV) (j : Nat) : (fitRow zs xs)[j]? = (zs[j]?).map fun z => fit z (xs.getD j .junk) := by
 unfold fitRow; rw [fitFrom_get]; simp
theorem fitRow_len (zs : List Kd) (xs : List AV) : (fitRow zs xs).length = zs.length := by
 have : ∀ (zs : List Kd) (k : Nat), (fitFrom k zs xs).length = zs.length := by
  intro zs
  induction zs with
  | nil => intro k; rfl
  | cons z zs ih => intro k; simp [fitFrom, ih]
 exact this zs 0
inductive Owner where
 | imm
 | lent
 | box (s : Nat)
 | ext
structure Pl where
 b : Nat
 cap : Nat
 o : Nat := 0
 tb : Int → Nat := fun _ => 0
structure Gh where
 own : Nat → Owner
 nm : Nat → Nat × Option Pl
def Im (own : Nat → Owner) (t : Tk) (b : Nat) : Prop := own b = .imm ∨ (t ≠ .imm ∧ own b = .lent)
inductive V (G : Gh) (w : World) : Bool → AV → Value → Prop where
 | junk (r : Bool) (v : Value) : V G w r .junk v
 | int (r : Bool) (k : IntKind) (n : Int) : V G w r (.int k n) (.int k n)
 | bool (r : Bool) (b : Bool) : V G w r (.bool b) (.bool b)
 | str (r : Bool) (l : List UInt8) : V G w r (.str l) (.string ⟨l.toArray⟩)
 | fn (r : Bool) (f : FuncId) (cs : List AV) (vs : Array Value) (hl : cs.length = vs.size) (h : ∀ (i : Nat) (x : AV) (v : Value), cs[i]? = some x → vs[i]? = some v → V G w r x v) : V G w r (.fn f cs) (.func (.func f) #[] vs)
 | nil (r : Bool) : V G w r .nil (.slice none 0 0)
 | nilz (r : Bool) (A : Option Addr) : V G w r .nilz (.slice A 0 0)
 | nilp (r : Bool) : V G w r .nilp (.pointer none)
 | nilm (r : Bool) : V G w r .nilm (.map none)
 | agg (r : Bool) (cs : List AV) (vs : Array Value) (hl : cs.length = vs.size) (h : ∀ (i : Nat) (x : AV) (v : Value), cs[i]? = some x → vs[i]? = some v → V G w r x v) : V G w r (.agg cs) (.agg vs)
 | tup (r : Bool) (cs : List AV) (vs : Array Value) (hl : cs.length = vs.size) (h : ∀ (i : Nat) (x : AV) (v : Value), cs[i]? = some x → vs[i]? = some v → V G w r x v) : V G w r (.tup cs) (.tuple vs)
 | slnil (r : Bool) (t : Tk) (zs : List Kd) (A : Option Addr) (c : Nat) (hA : A = none → c = 0) (hm : c ≤ maxLen) (hn : t = .nn → A ≠ none) : V G w r (.sl t zs []) (.slice A 0 c)
 | sl (r : Bool) (t : Tk) (zs : List Kd) (es : List (List AV)) (b o c : Nat) (u : Nat → Nat → Value) (hr : r = false → t = .imm) (hc : es.length ≤ c) (hm : c ≤ maxLen) (hb : b < w.heap.size) (hi : Im G.own t b) (hsz : ∀ e ∈ es, okRow zs e = true)
    (hcell : ∀ (i j : Nat) (e : List AV) (x : AV), es[i]? = some e → e[j]? = some x → w.cell? ⟨b, o + i * zs.length + j, none⟩ = some (u i j) ∧ (u i j).oneCell' = true)
    (h : ∀ (i j : Nat) (e : List AV) (x : AV), es[i]? = some e → e[j]? = some x → V G w false x (u i j)) : V G w r (.sl t zs es) (.slice (some ⟨b, o, none⟩) es.length c)
 | ip (r : Bool) (t : Tk) (cs : List AV) (b o : Nat) (u : Nat → Value) (hr : r = false → t = .imm) (hb : b < w.heap.size) (hi : Im G.own t b)
    (hcell : ∀ (j : Nat) (x : AV), cs[j]? = some x → w.cell? ⟨b, o + j, none⟩ = some (u j) ∧ (u j).oneCell' = true)
    (h : ∀ (j : Nat) (x : AV), cs[j]? = some x → V G w false x (u j)) : V G w r (.ip t cs) (.pointer (some ⟨b, o, none⟩))
 | hp (s off : Nat) (p : Pl) (hs : (G.nm s).2 = some p) : V G w true (.hp s off) (.pointer (some ⟨p.b, off, none⟩))
 | ep (s : Nat) (zs : List Kd) (i off : Nat) (p : Pl) (hs : (G.nm s).2 = some p) (hi : i < (G.nm s).1) : V G w true (.ep s zs i off) (.pointer (some ⟨p.b, p.o + i * zs.length + off, none⟩))
 | rf (s : Nat) (zs : List Kd) (n c : Nat) (p : Pl) (hs : (G.nm s).2 = some p) (hn : n = (G.nm s).1) (hc : n ≤ c) (hp : c ≤ p.cap) (hm : c ≤ maxLen) : V G w true (.rf s zs) (.slice (some ⟨p.b, p.o, none⟩) n c)
 | rfnil (s : Nat) (zs : List Kd) (A : Option Addr) (h : (G.nm s).1 = 0) : V G w true (.rf s zs) (.slice A 0 0)
 | rs (s : Nat) (zs : List Kd) (i n cp c : Nat) (p : Pl) (hs : (G.nm s).2 = some p) (hi : i + n ≤ (G.nm s).1) (hn : n ≤ c) (hcp : cp ≤ c) (hp : i + c ≤ p.cap) (hm : c ≤ maxLen) : V G w true (.rs s zs i n cp) (.slice (some ⟨p.b, p.o + i * zs.length, none⟩) n c)
 | rsnil (s : Nat) (zs : List Kd) (i n cp : Nat) (A : Option Addr) (hi : i ≤ (G.nm s).1) (hn : n = 0) (hcp : cp = 0) : V G w true (.rs s zs i n cp) (.slice A 0 0)
 | mp (s : Nat) (zs : List Kd) (p : Pl) (hs : (G.nm s).2 = some p) : V G w true (.mp s zs) (.map (some p.b))
 | mt (s : Nat) (zs : List Kd) (k : Int) (off : Nat) (p : Pl) (hs : (G.nm s).2 = some p) : V G w true (.mt s zs k off) (.pointer (some ⟨p.tb k, off, none⟩))
structure Stay (G G' : Gh) (w w' : World) : Prop where
 size : w.heap.size ≤ w'.heap.size
 blk : ∀ b t, b < w.heap.size → Im G.own t b → Im G'.own t b ∧ w'.heap[b]? = w.heap[b]?
theorem Stay.refl (G : Gh) (w : World) : Stay G G w w := ⟨Nat.le_refl _, fun _ _ _ h => ⟨h, rfl⟩⟩
theorem Stay.trans {G G' G'' : Gh} {w w' w'' : World} (h : Stay G G' w w') (k : Stay G' G'' w' w'') : Stay G G'' w w'' :=
 ⟨Nat.le_trans h.size k.size, fun b t hb hi => by
  have h1 := h.blk b t hb hi
  have h2 := k.blk b t (Nat.lt_of_lt_of_le hb h.size) h1.1
  exact ⟨h2.1, h2.2.trans h1.2⟩⟩
theorem Stay.cell {G G' : Gh} {w w' : World} (h : Stay G G' w w') {b o : Nat} {t : Tk} (hb : b < w.heap.size) (hi : Im G.own t b) : w'.cell? ⟨b, o, none⟩ = w.cell? ⟨b, o, none⟩ :=
 World.cell?_of_block (w := w) (a := ⟨b, o, none⟩) (h.blk b t hb hi).2
theorem V.flat {G : Gh} {w : World} {r : Bool} {a : AV} {v : Value} (h : V G w r a v) : r = false → a.refs = [] ∧ ∀ f, a.ren f = a := by
 have key : ∀ (cs : List AV) (vs : Array Value), cs.length = vs.size → (∀ (i : Nat) (x : AV) (v : Value), cs[i]? = some x → vs[i]? = some v → x.refs = [] ∧ ∀ f, x.ren f = x) → AV.refsL cs = [] ∧ ∀ f, AV.renL f cs = cs := by
  intro cs vs hl h
  have h' : ∀ x ∈ cs, x.refs = [] ∧ ∀ f, x.ren f = x := by
   intro x hx
   obtain ⟨i, hi, rfl⟩ := List.mem_iff_getElem.1 hx
   exact h i cs[i] vs[i] (List.getElem?_eq_getElem hi) (Array.getElem?_eq_getElem (by omega))
  refine ⟨?_, fun f => ?_⟩
  ·rw [AV.refsL_eq, List.flatMap_eq_nil_iff]
   exact fun x hx => (h' x hx).1
  ·rw [AV.renL_eq]
   conv => rhs; rw [← List.map_id cs]
   exact List.map_congr_left fun x hx => (h' x hx).2 f
 induction h with
 | fn r f cs vs hl h ih =>
   intro e
   have := key cs vs hl fun i x v hx hv => ih i x v hx hv e
   exact ⟨this.1, fun f => by simp only [AV.ren, this.2]⟩
 | agg r cs vs hl h ih =>
   intro e
   have := key cs vs hl fun i x v hx hv => ih i x v hx hv e
   exact ⟨this.1, fun f => by simp only [AV.ren, this.2]⟩
 | tup r cs vs hl h ih =>
   intro e
   have := key cs vs hl fun i x v hx hv => ih i x v hx hv e
   exact ⟨this.1, fun f => by simp only [AV.ren, this.2]⟩
 | hp => intro e; cases e
 | ep => intro e; cases e
 | rf => intro e; cases e
 | rfnil => intro e; cases e
 | rs => intro e; cases e
 | rsnil => intro e; cases e
 | mp => intro e; cases e
 | mt => intro e; cases e
 | _ => intro _; exact ⟨rfl, fun _ => rfl⟩
theorem V.ren {G G' : Gh} {w w' : World} (E : Stay G G' w w') (f : Nat → Nat) {r : Bool} {a : AV} {v : Value} (h : V G w r a v) (hf : ∀ s ∈ a.refs, G'.nm (f s) = G.nm s) : V G' w' r (a.ren f) v := by
 induction h with
 | junk r v => exact .junk r v
 | int r k n => exact .int r k n
 | bool r b => exact .bool r b
 | str r l => exact .str r l
 | nil r => exact .nil r
 | nilz r A => exact .nilz r A
 | nilp r => exact .nilp r
 | nilm r => exact .nilm r
 | fn r g cs vs hl h ih =>
   simp only [AV.ren, AV.renL_eq]
   refine .fn r g _ vs (by simpa using hl) fun i x v hx hv => ?_
   rw [List.getElem?_map] at hx
   cases hc : cs[i]? with
   | none => rw [hc] at hx; cases hx
   | some y =>
     rw [hc] at hx
     injection hx with hx
     subst hx
     exact ih i y v hc hv fun s hs => hf s (AV.mem_refsL hc hs)
 | agg r cs vs hl h ih =>
   simp only [AV.ren, AV.renL_eq]
   refine .agg r _ vs (by simpa using hl) fun i x v hx hv => ?_
   rw [List.getElem?_map] at hx
   cases hc : cs[i]? with
   | none => rw [hc] at hx; cases hx
   | some y =>
     rw [hc] at hx
     injection hx with hx
     subst hx
     exact ih i y v hc hv fun s hs => hf s (AV.mem_refsL hc hs)
 | tup r cs vs hl h ih =>
   simp only [AV.ren, AV.renL_eq]
   refine .tup r _ vs (by simpa using hl) fun i x v hx hv => ?_
   rw [List.getElem?_map] at hx
   cases hc : cs[i]? with
   | none => rw [hc] at hx; cases hx
   | some y =>
     rw [hc] at hx
     injection hx with hx
     subst hx
     exact ih i y v hc hv fun s hs => hf s (AV.mem_refsL hc hs)
 | slnil r t sz A c hA hm hn => exact .slnil r t sz A c hA hm hn
 | sl r t sz es b o c u hr hc hm hb hi hsz hcell h ih =>
   refine .sl r t sz es b o c u hr hc hm (Nat.lt_of_lt_of_le hb E.size) (E.blk b t hb hi).1 hsz (fun i j e x h1 h2 => ?_) fun i j e x h1 h2 => ?_
   ·rw [E.cell hb hi]; exact hcell i j e x h1 h2
   ·have h3 := (h i j e x h1 h2).flat rfl
    have h4 := ih i j e x h1 h2 (by rw [h3.1]; simp)
    rwa [h3.2 f] at h4
 | ip r t cs b o u hr hb hi hcell h ih =>
   refine .ip r t cs b o u hr (Nat.lt_of_lt_of_le hb E.size) (E.blk b t hb hi).1 (fun j x h1 => ?_) fun j x h1 => ?_
   ·rw [E.cell hb hi]; exact hcell j x h1
   ·have h3 := (h j x h1).flat rfl
    have h4 := ih j x h1 (by rw [h3.1]; simp)
    rwa [h3.2 f] at h4
 | hp s off p hs => exact .hp _ _ p (by rw [hf s (List.mem_singleton.2 rfl)]; exact hs)
 | ep s sz i off p hs hi => exact .ep _ _ _ _ p (by rw [hf s (List.mem_singleton.2 rfl)]; exact hs) (by rw [hf s (List.mem_singleton.2 rfl)]; exact hi)
 | rf s sz n c p hs hn hc hp hm => exact .rf _ _ _ _ p (by rw [hf s (List.mem_singleton.2 rfl)]; exact hs) (by rw [hf s (List.mem_singleton.2 rfl)]; exact hn) hc hp hm
 | rfnil s sz A h => exact .rfnil _ _ A (by rw [hf s (List.mem_singleton.2 rfl)]; exact h)
 | rs s sz i n cp c p hs hi hn hcp hp hm => exact .rs _ _ _ _ _ _ p (by rw [hf s (List.mem_singleton.2 rfl)]; exact hs) (by rw [hf s (List.mem_singleton.2 rfl)]; exact hi) hn hcp hp hm
 | rsnil s sz i n cp A hi hn hcp => exact .rsnil _ _ _ _ _ A (by rw [hf s (List.mem_singleton.2 rfl)]; exact hi) hn hcp
 | mp s sz p hs => exact .mp _ _ p (by rw [hf s (List.mem_singleton.2 rfl)]; exact hs)
 | mt s sz k o p hs => exact .mt _ _ _ _ p (by rw [hf s (List.mem_singleton.2 rfl)]; exact hs)
theorem AV.ren_id : ∀ (a : AV), a.ren id = a := by
 refine @AV.rec (fun a => a.ren id = a) (fun l => AV.renL id l = l) (fun _ => True) ?_ ?_ ?_ ?_ ?_ ?_ ?_ ?_ ?_ ?_ ?_ ?_ ?_ ?_ ?_ ?_ ?_ ?_ ?_ ?_ ?_ ?_ ?_ <;> simp_all [AV.ren, AV.renL]
theorem V.upd {G G' : Gh} {w w' : World} (E : Stay G G' w w') {r : Bool} {a : AV} {v : Value} (h : V G w r a v) (hf : ∀ s ∈ a.refs, G'.nm s = G.nm s) : V G' w' r a v := by
 have := V.ren E id h hf
 rwa [AV.ren_id] at this
theorem V.mono {G : Gh} {w : World} {r : Bool} {a : AV} {v : Value} (h : V G w r a v) : V G w true a v := by
 induction h with
 | junk r v => exact .junk _ v
 | int r k n => exact .int _ k n
 | bool r b => exact .bool _ b
 | str r l => exact .str _ l
 | nil r => exact .nil _
 | nilz r A => exact .nilz _ A
 | nilp r => exact .nilp _
 | nilm r => exact .nilm _
 | fn r g cs vs hl h ih => exact .fn _ g cs vs hl ih
 | agg r cs vs hl h ih => exact .agg _ cs vs hl ih
 | tup r cs vs hl h ih => exact .tup _ cs vs hl ih
 | slnil r t sz A c hA hm hn => exact .slnil _ t sz A c hA hm hn
 | sl r t sz es b o c u hr hc hm hb hi hsz hcell h ih => exact .sl _ t sz es b o c u (fun h => by cases h) hc hm hb hi hsz hcell h
 | ip r t cs b o u hr hb hi hcell h ih => exact .ip _ t cs b o u (fun h => by cases h) hb hi hcell h
 | hp s off p hs => exact .hp _ _ p hs
 | ep s sz i off p hs hi => exact .ep _ _ _ _ p hs hi
 | rf s sz n c p hs hn hc hp hm => exact .rf _ _ _ _ p hs hn hc hp hm
 | rfnil s sz A h => exact .rfnil _ _ A h
 | rs s sz i n cp c p hs hi hn hcp hp hm => exact .rs _ _ _ _ _ _ p hs hi hn hcp hp hm
 | rsnil s sz i n cp A hi hn hcp => exact .rsnil _ _ _ _ _ A hi hn hcp
 | mp s sz p hs => exact .mp _ _ p hs
 | mt s sz k o p hs => exact .mt _ _ _ _ p hs
 mutual
def AV.pure : AV → Bool
 | .fn _ caps => AV.pureL caps
 | .agg cs => AV.pureL cs
 | .tup cs => AV.pureL cs
 | .hp _ _ => false
 | .ep _ _ _ _ => false
 | .rf _ _ => false
 | .rs _ _ _ _ _ => false
 | .mp _ _ => false
 | .mt _ _ _ _ => false
 | .sl .imm _ _ => true
 | .sl _ _ _ => false
 | .ip .imm _ => true
 | .ip _ _ => false
 | _ => true
def AV.pureL : List AV → Bool
 | [] => true
 | x :: l => x.pure && AV.pureL l
 end
theorem AV.pureL_mem {l : List AV} (h : AV.pureL l = true) {i : Nat} {x : AV} (hx : l[i]? = some x) : x.pure = true := by
 induction l generalizing i with
 | nil => cases hx
 | cons y l ih =>
   simp only [AV.pureL, Bool.and_eq_true] at h
   cases i with
   | zero => simp at hx; subst hx; exact h.1
   | succ i => exact ih h.2 (by simpa using hx)
theorem V.of_pure {G : Gh} {w : World} {r : Bool} {a : AV} {v : Value} (h : V G w r a v) : a.pure = true → V G w false a v := by
 induction h with
 | junk r v => exact fun _ => .junk _ v
 | int r k n => exact fun _ => .int _ k n
 | bool r b => exact fun _ => .bool _ b
 | str r l => exact fun _ => .str _ l
 | nil r => exact fun _ => .nil _
 | nilz r A => exact fun _ => .nilz _ A
 | nilp r => exact fun _ => .nilp _
 | nilm r => exact fun _ => .nilm _
 | fn r g cs vs hl h ih => exact fun hp => .fn _ g cs vs hl fun i x v hx hv => ih i x v hx hv (AV.pureL_mem (by simpa only [AV.pure] using hp) hx)
 | agg r cs vs hl h ih => exact fun hp => .agg _ cs vs hl fun i x v hx hv => ih i x v hx hv (AV.pureL_mem (by simpa only [AV.pure] using hp) hx)
 | tup r cs vs hl h ih => exact fun hp => .tup _ cs vs hl fun i x v hx hv => ih i x v hx hv (AV.pureL_mem (by simpa only [AV.pure] using hp) hx)
 | slnil r t sz A c hA hm hn => exact fun _ => .slnil _ t sz A c hA hm hn
 | sl r t sz es b o c u hr hc hm hb hi hsz hcell h ih =>
   intro hp
   cases t with
   | imm => exact .sl _ .imm sz es b o c u (fun _ => rfl) hc hm hb hi hsz hcell h
   | _ => simp [AV.pure] at hp
 | ip r t cs b o u hr hb hi hcell h ih =>
   intro hp
   cases t with
   | imm => exact .ip _ .imm cs b o u (fun _ => rfl) hb hi hcell h
   | _ => simp [AV.pure] at hp
 | hp => intro hp; simp [AV.pure] at hp
 | ep => intro hp; simp [AV.pure] at hp
 | rf => intro hp; simp [AV.pure] at hp
 | rfnil => intro hp; simp [AV.pure] at hp
 | rs => intro hp; simp [AV.pure] at hp
 | rsnil => intro hp; simp [AV.pure] at hp
 | mp => intro hp; simp [AV.pure] at hp
 | mt => intro hp; simp [AV.pure] at hp
theorem V.fit {G : Gh} {w : World} {r : Bool} {x : AV} {v : Value} (h : V G w r x v) {z : Kd} (hz : isKind z x = true) : V G w r (Gv.fit z x) v := by
 unfold isKind at hz
 split at hz
 ·exact h
 ·rename_i k k' n
  have e : k = k' := by simpa using hz
  subst e
  exact h
 ·exact h
 ·exact h
 ·rename_i zs zs' es
  obtain rfl := Kd.eqL_of _ _ hz
  exact h
 ·cases h; exact .slnil _ _ _ _ _ (fun _ => rfl) (by simp [maxLen]) (fun h => by cases h)
 ·cases h; exact .slnil _ _ _ _ _ (fun _ => rfl) (by simp [maxLen]) (fun h => by cases h)
 ·cases hz
end Go.Proofs.Gv
