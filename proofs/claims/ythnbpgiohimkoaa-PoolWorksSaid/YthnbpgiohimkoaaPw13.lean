import Derived.Test.YthnbpgiohimkoaaPw12
set_option linter.unusedVariables false
namespace Go.Proofs.Gv
open Go.RowKit
section
variable {P : Program} {B : Bs} {s : St} {a : Act} {w w' : World} {G : Gh} {o : Oper} {u : List Wr} {K : Act → World → Prop} {Q : Exit → Act → World → Prop} {idOf alt : Nat → Option Nat}
theorem ownAt_self {b q : Nat} (h : G.own b = .box q) : ownAt G b (.box q) = G := by
 cases G with
 | mk own nm =>
   simp only [ownAt, Gh.mk.injEq, and_true]
   funext n
   split
   ·rename_i e; subst e; exact h.symm
   ·rfl
theorem Rel.rewrite (h : Rel B s a w G) {b q : Nat} (hown : G.own b = .box q) (hos : w'.os = w.os) (htp : w'.tape = w.tape) (hout : w'.output = w.output) (hsz : w.heap.size ≤ w'.heap.size) (hh : ∀ b', b' ≠ b → b' < w.heap.size → w'.heap[b']? = w.heap[b']?)
  (k : Blk) (hk : Stay G G w w' → BlkOK G w' q k) : Rel B (s.ap (.blk q k)) a w' G := by
 have h1 := (h.kill q).touch b q hown dead_set (.box q) hos htp hout hsz hh
 have hst := touch_stay (w := w) (w' := w') hown hsz hh (.box q)
 change Rel B _ a w' (ownAt G b (.box q)) at h1
 rw [ownAt_self hown] at h1 hst
 exact (h1.setB q k (hk hst)).congr (by simp [St.ap])
theorem splice_get {vs : Array Value} {o : Nat} {new : List Value} (h : o + new.length ≤ vs.size) (t : Nat) : (vs.toList.take o ++ new ++ vs.toList.drop (o + new.length)).toArray[t]? = if o ≤ t ∧ t < o + new.length then new[t - o]? else vs[t]? := by
 rw [List.getElem?_toArray]
 have hl : (vs.toList.take o).length = o := by simp; omega
 by_cases h1 : t < o
 ·rw [if_neg (by omega), List.append_assoc, List.getElem?_append_left (by omega), List.getElem?_take, if_pos h1, Array.getElem?_toList]
 ·by_cases h2 : t < o + new.length
  ·rw [if_pos ⟨by omega, h2⟩, List.getElem?_append_left (by simp; omega), List.getElem?_append_right (by omega), hl]
  ·rw [if_neg (by omega), List.getElem?_append_right (by simp; omega), List.getElem?_drop, Array.getElem?_toList]
   congr 1
   simp
   omega
theorem splice_size {vs : Array Value} {o : Nat} {new : List Value} (h : o + new.length ≤ vs.size) : (vs.toList.take o ++ new ++ vs.toList.drop (o + new.length)).toArray.size = vs.size := by
 simp only [List.size_toArray, List.length_append, List.length_take, List.length_drop, Array.length_toList]
 omega
theorem splice_one {vs : Array Value} {o : Nat} {new : List Value} (h1 : ∀ v ∈ vs, v.oneCell' = true) (h2 : ∀ v ∈ new, v.oneCell' = true) : ∀ v ∈ (vs.toList.take o ++ new ++ vs.toList.drop (o + new.length)).toArray, v.oneCell' = true := by
 intro v hv
 simp only [List.mem_toArray, List.mem_append] at hv
 rcases hv with (hv | hv) | hv
 ·exact h1 v (by simpa using List.mem_of_mem_take hv)
 ·exact h2 v hv
 ·exact h1 v (by simpa using List.mem_of_mem_drop hv)
theorem row_splice {q : Nat} {zs : List Kd} {es xs : List (List AV)} {p : Pl} {j : Nat} {news : List Value} (hrow : BlkOK G w q (.row zs es)) (hp : (G.nm q).2 = some p) (hok : ∀ e ∈ xs, okRow zs e = true) (hj : j + xs.length ≤ es.length) (hl : news.length = xs.length * zs.length) (ho : ∀ v ∈ news, v.oneCell' = true)
  (hv : ∀ (t : Nat) (x : AV) (v : Value), flatF zs.length xs t = some x → news[t]? = some v → V G w false x v) : ∃ vs, BlkAt w p.b vs ∧ G.own p.b = .box q ∧ p.o + j * zs.length + news.length ≤ vs.size ∧
    (Stay G G w (w.setRow p.b (vs.toList.take (p.o + j * zs.length) ++ news ++ vs.toList.drop (p.o + j * zs.length + news.length)).toArray) → BlkOK G (w.setRow p.b (vs.toList.take (p.o + j * zs.length) ++ news ++ vs.toList.drop (p.o + j * zs.length + news.length)).toArray) q (.row zs (es.take j ++ xs ++ es.drop (j + xs.length)))) := by
 obtain ⟨h1, h2, h3, h4⟩ := hrow
 rcases h4 with ⟨_, h5⟩ | ⟨p', h5, h6, hown, vs, hat, hcap, hone, hcells⟩
 ·rw [h5] at hp; cases hp
 ·rw [h5] at hp
  injection hp with hp
  subst hp
  have hns0 : (j + xs.length) * zs.length ≤ p'.cap * zs.length := Nat.mul_le_mul_right _ (by omega)
  rw [Nat.add_mul, ← hl] at hns0
  have hns : p'.o + j * zs.length + news.length ≤ vs.size := by omega
  have hlen : (es.take j ++ xs ++ es.drop (j + xs.length)).length = es.length := by simp; omega
  refine ⟨vs, hat, hown, hns, fun hst => ⟨fun e he => ?_, h2, by rw [h3, hlen], .inr ⟨p', h5, by rw [hlen]; exact h6, hown, _, hat.set (splice_size hns), by rw [splice_size hns]; exact hcap, splice_one hone ho, fun t0 x v ht0 hx0 hv0 => ?_⟩⟩⟩
  ·simp only [List.mem_append] at he
   rcases he with (he | he) | he
   ·exact h1 e (List.mem_of_mem_take he)
   ·exact hok e he
   ·exact h1 e (List.mem_of_mem_drop he)
  ·have hge : p'.o ≤ t0 := by
    unfold flatO at hx0
    split at hx0
    ·cases hx0
    ·omega
   obtain ⟨t, rfl⟩ : ∃ t, t0 = p'.o + t := ⟨t0 - p'.o, by omega⟩
   rw [flatO_add] at hx0
   have ht : t < p'.cap * zs.length := by omega
   have hx := hx0
   have hv' := hv0
   rw [splice_get hns] at hv'
   obtain ⟨e, he, hex⟩ := flatF_inv hx
   have hmod := Nat.mod_lt t h2
   have hdm := Nat.div_add_mod t zs.length
   have hjl : (es.take j).length = j := by simp; omega
   have key : V G w false x v := by
    by_cases c1 : t / zs.length < j
    ·have ht1 : t < j * zs.length := (Nat.div_lt_iff_lt_mul h2).1 c1
     rw [if_neg (by omega)] at hv'
     rw [List.append_assoc, List.getElem?_append_left (by omega), List.getElem?_take, if_pos c1] at he
     exact hcells (p'.o + t) x v ht0 (by rw [flatO_add]; unfold flatF; rw [he]; exact hex) hv'
    ·have ht1 : j * zs.length ≤ t := (Nat.le_div_iff_mul_le h2).1 (by omega)
     by_cases c2 : t / zs.length < j + xs.length
     ·have ht2 : t < (j + xs.length) * zs.length := (Nat.div_lt_iff_lt_mul h2).1 c2
      rw [Nat.add_mul] at ht2
      rw [if_pos ⟨by omega, by omega⟩, show p'.o + t - (p'.o + j * zs.length) = t - j * zs.length by omega] at hv'
      rw [List.getElem?_append_left (by simp; omega), List.getElem?_append_right (by omega), hjl] at he
      refine hv _ x v ?_ hv'
      have e1 : (t - j * zs.length) / zs.length = t / zs.length - j := by rw [Nat.mul_comm, Nat.sub_mul_div]
      have e2 : (t - j * zs.length) % zs.length = t % zs.length := by
       have h6 := Nat.div_add_mod (t - j * zs.length) zs.length
       rw [e1, Nat.mul_sub] at h6
       have h8 : zs.length * j ≤ zs.length * (t / zs.length) := Nat.mul_le_mul_left _ (by omega)
       rw [Nat.mul_comm j] at *
       omega
      unfold flatF
      rw [e1, e2, he]
      exact hex
     ·have ht2 : (j + xs.length) * zs.length ≤ t := (Nat.le_div_iff_mul_le h2).1 (by omega)
      rw [Nat.add_mul] at ht2
      rw [if_neg (by omega)] at hv'
      rw [List.getElem?_append_right (by simp; omega), List.getElem?_drop] at he
      have e3 : j + xs.length + (t / zs.length - (es.take j ++ xs).length) = t / zs.length := by
       rw [List.length_append, hjl]
       omega
      rw [e3] at he
      exact hcells (p'.o + t) x v ht0 (by rw [flatO_add]; unfold flatF; rw [he]; exact hex) hv'
   exact key.upd hst (by rw [(key.flat rfl).1]; simp)
theorem setRow_same (w : World) (b : Nat) (vs : Array Value) : (w.setRow b vs).os = w.os ∧ (w.setRow b vs).tape = w.tape ∧ (w.setRow b vs).output = w.output ∧ w.heap.size ≤ (w.setRow b vs).heap.size ∧ ∀ b', b' ≠ b → b' < w.heap.size → (w.setRow b vs).heap[b']? = w.heap[b']? :=
 ⟨rfl, rfl, rfl, by simp [World.setRow], fun b' hb' _ => setRow_other w b b' _ hb'⟩
theorem Rel.rewriteRow (h : Rel B s a w G) {b q : Nat} (hown : G.own b = .box q) (vs : Array Value) (k : Blk) (hk : Stay G G w (w.setRow b vs) → BlkOK G (w.setRow b vs) q k) : Rel B (s.ap (.blk q k)) a (w.setRow b vs) G := by
 obtain ⟨h1, h2, h3, h4, h5⟩ := setRow_same w b vs
 exact h.rewrite hown h1 h2 h3 h4 h5 k hk
theorem zero_inv {e : TypeId} {i : TypeInfo} (hi : P.info? e = some i) {z : List AV} (hz : (zeroA P e).bind cellsA = some z) : ∃ zv, i.zero = some zv ∧ CellsR G w true z zv.cells := by
 cases hA : zeroA P e with
 | none => rw [hA] at hz; cases hz
 | some A =>
   rw [hA] at hz
   simp only [Option.bind_some] at hz
   unfold zeroA at hA
   rw [hi] at hA
   simp only [Option.bind_some] at hA
   cases hzero : i.zero with
   | none => rw [hzero] at hA; cases hA
   | some zv =>
     rw [hzero] at hA
     simp at hA
     subst hA
     exact ⟨zv, rfl, cellsA_ok hz (v2a_ok zv)⟩
theorem ok_append_core (hid : ∀ d q, idOf d = some q → B.m ≤ q) (hid2 : ∀ d q, alt d = some q → B.m ≤ q) {t u' : TypeId} {x : Operand} {vy : Value} {ay : AV} (run1 : ∀ v w', (Builtin.append_ #[t, u'] o.type #[a.eval x, vy]).run P w = .ok v w' → (execOp a.eval o).run P w = .ok (.value v) w') (hy : V G w true ay vy) (h : Rel B s a w G) (hc : cAppend P idOf alt s o.dst t u' x (evalA s.T x) ay = some (true, u))
  (hK : ∀ a' w' G', Rel B (s.aps u) a' w' G' → K a' w') : o.wp P a w K Q := by
 have hx := h.eval x
 unfold cAppend at hc
 split at hc
 ·rename_i e ht
  split at hc
  ·rename_i i zs z hi hks hzz
   have hsz := zero_of hi hks
   have hz : 0 < zs.length := (kindE_inv hks).2
   split at hc
   ·cases hc
   rename_i hzl
   have hzl : z.length = zs.length := by simpa using hzl
   obtain ⟨zv, hz0, hzr⟩ := zero_inv (G := G) (w := w) hi hzz
   have hzc : zv.cells.size = zs.length := by rw [← hzr.1]; exact hzl
   have hzo := hzr.one
   split at hc
   ·rename_i xs hsrc
    obtain ⟨hxok, news, hs, hno, hnv⟩ := srcOf_ok h ht hz hsrc hy
    split at hc
    ·rename_i hA
     rw [hA] at hx
     obtain ⟨hroom, _⟩ := newRow_inv hc
     obtain ⟨v, w', hr, hap⟩ := app_nil_ok (G := G) (ty := o.type) ht hi hz0 hz hsz hzc hzo hs hno hnv hroom none
     obtain ⟨d', G', hd, hrel⟩ := newRow_ok hid h hc hz hxok hap
     rw [hx.nil_inv] at run1
     refine wp_val (run1 _ _ hr) (hK _ _ G' ?_)
     rw [hd]
     exact hrel
    ·rename_i hA
     rw [hA] at hx
     obtain ⟨hroom, _⟩ := newRow_inv hc
     generalize a.eval x = vx at hx run1
     cases hx with
     | nilz _ A0 =>
       obtain ⟨v, w', hr, hap⟩ := app_nil_ok (G := G) (ty := o.type) ht hi hz0 hz hsz hzc hzo hs hno hnv hroom A0
       obtain ⟨d', G', hd, hrel⟩ := newRow_ok hid h hc hz hxok hap
       refine wp_val (run1 _ _ hr) (hK _ _ G' ?_)
       rw [hd]
       exact hrel
    ·rename_i q zs' hA
     rw [hA] at hx
     split at hc
     ·rename_i he
      obtain rfl := Kd.eqL_of _ _ he
      split at hc
      ·rename_i es hes
       have hrow := h.row hes
       have hb : roomOk (es.length + xs.length) i.bytes = true := by
        unfold appRow at hc
        split at hc
        ·split at hc
         ·split at hc
          ·injection hc with hc; injection hc
          ·split at hc
           ·injection hc with hc; injection hc
           ·cases hc
         ·injection hc with hc; injection hc
        ·cases hc
       obtain ⟨v, w', hr, hap⟩ := app_rf_ok h (ty := o.type) ht hi hz0 hz hsz hzc hzo hrow hx hs hno hnv hb
       obtain ⟨d', G', hd, hrel⟩ := appRow_ok hid hid2 h hz (fun e he => (List.mem_append.1 he).elim (hrow.1 e) (hxok e)) hc hap
       refine wp_val (run1 _ _ hr) (hK _ _ G' ?_)
       rw [hd]
       exact hrel
      ·cases hc
     ·cases hc
    ·rename_i q zs' j n cp hA
     rw [hA] at hx
     split at hc
     ·rename_i he
      obtain rfl := Kd.eqL_of _ _ he
      split at hc
      ·rename_i es d hes hd
       injection hc with hc
       injection hc with hb hc
       subst hc
       simp only [Bool.and_eq_true, decide_eq_true_eq] at hb
       obtain ⟨hb1, hb2, hb3⟩ := hb
       have hrow := h.row hes
       have hs' := hs
       rw [← hsz] at hs'
       have hV := hx
       generalize a.eval x = vx at hx run1
       cases hx with
       | rs _ _ _ _ _ c p hp hi' hn hcp hpc hm =>
         obtain ⟨vs, hat, hown, hfit, hk⟩ := row_splice (j := j + n) hrow hp hxok hb1 hs.size hno hnv
         have hrun := app_room (ty := o.type) ht hi hs' (off := p.o + j * zs.length) (sLen := n) (sCap := c) hat hno (by omega) (by rw [hsz, Nat.add_assoc p.o, ← Nat.add_mul]; exact hfit)
         rw [hsz, Nat.add_assoc p.o, ← Nat.add_mul] at hrun
         have h1 := (h.rewriteRow hown _ _ hk).put d (.rs q zs j (n + xs.length) cp) (.slice (some ⟨p.b, p.o + j * zs.length, none⟩) (n + xs.length) c) (.rs q zs j _ cp c p hp (by have := hrow.2.2.1; omega) (by omega) hcp hpc hm)
         refine wp_val (run1 _ _ hrun) (hK _ _ G ?_)
         rw [hd]
         exact h1
       | rsnil _ _ _ _ _ A0 hi' hn hcp =>
         subst hn hcp
         have h0 : xs.length = 0 := by omega
         have hx0 := List.eq_nil_of_length_eq_zero h0
         subst hx0
         have hrun := app_none (ty := o.type) ht hi hs' (A := A0) (n := 0) (c := 0) (Nat.le_refl _)
         refine wp_val (run1 _ _ hrun) (hK _ _ G ?_)
         rw [hd]
         have h1 := (h.setB q (.row zs es) hrow).put d (.rs q zs j 0 0) (.slice A0 0 0) (.rsnil _ _ _ _ _ _ hi' rfl rfl)
         refine h1.congr ?_
         simp [St.aps, St.ap]
      ·cases hc
     ·cases hc
    ·cases hc
   ·cases hc
  ·cases hc
 ·cases hc
theorem ok_append (hid : ∀ d q, idOf d = some q → B.m ≤ q) (hid2 : ∀ d q, alt d = some q → B.m ≤ q) {t u' : TypeId} {x y : Operand} (ho : o.op = .call { callee := .builtin .append, args := #[x, y], argTypes := #[t, u'] }) (h : Rel B s a w G) (hc : cAppend P idOf alt s o.dst t u' x (evalA s.T x) (evalA s.T y) = some (true, u))
  (hK : ∀ a' w' G', Rel B (s.aps u) a' w' G' → K a' w') : o.wp P a w K Q :=
 ok_append_core hid hid2 (fun v w' h => by simp [execOp, ho, resolve, invoke, builtin, h]) (h.eval y) h hc hK
theorem zeros_eq (m : Nat) : (((⟨(List.replicate m 0).toArray⟩ : ByteArray).extract 0 m).data.map fun b => Value.int .u8 b.toNat) = Builtin.zeroCells #[.int .u8 0] m := by
 have hs : (⟨(List.replicate m (0 : UInt8)).toArray⟩ : ByteArray).size = m := by
  change (List.replicate m (0 : UInt8)).toArray.size = m
  simp
 have h := Lib.run_firstCells_string (P := default) default 1 (⟨(List.replicate m 0).toArray⟩ : ByteArray)
 rw [hs] at h
 simp only [Builtin.firstCells] at h
 have h2 : (((⟨(List.replicate m 0).toArray⟩ : ByteArray).extract 0 m).data.map fun b => Value.int .u8 b.toNat) = (Lib.strCells ⟨(List.replicate m 0).toArray⟩).toArray := by
  injection h
 rw [h2]
 apply Array.ext
 ·simp [Lib.strCells, Builtin.zeroCells]
 ·intro i h1 h3
  simp [Lib.strCells, Builtin.zeroCells, Nat.mod_one]
theorem append_made {t u us ty e : TypeId} {i : TypeInfo} {k kk : IntKind} (ht : P.underlying t = some (.slice e)) (hi : P.info? e = some i) (hsz : i.size = 1) (hz : i.zero = some (.int .u8 0)) (hb : i.bytes ≤ 8) (hu : P.underlying u = some (.int k)) (hus : P.underlying us = some .string) {m : Nat} (hn : m ≤ 1099511627776) {S : ByteArray} (hS : S.size = m) (hF : ∀ w, (Builtin.firstCells 1 m (.string S)).run P w = .ok (Builtin.zeroCells #[.int .u8 0] m) w) {v0 v : Value} {w' : World}
  (h : (Builtin.append_ #[t, us] ty #[v0, .string S]).run P w = .ok v w') : (Builtin.append_ #[t, u] ty #[v0, .int kk (m : Int)]).run P w = .ok v w' := by
 have hw : IntKind.i64.wrap (m : Int) = (m : Int) := by rw [IntKind.wrap_i64]; omega
 have hmb : ¬ (281474976710656 < (m : Int) * (i.bytes : Int)) := by
  have : (m : Int) * (i.bytes : Int) ≤ 1099511627776 * 8 := Int.mul_le_mul (by omega) (by omega) (by omega) (by omega)
  omega
 have hzc : Value.cells (.int .u8 0) = #[.int .u8 0] := rfl
 have hneg : ¬ ((m : Int) < 0) := by omega
 have zc0 : Builtin.zeroCells #[.int .u8 0] 0 = #[] := by simp [Builtin.zeroCells]
 cases v0 with
 | slice A sl sc =>
   by_cases hroom : sl + m ≤ sc
   ·simp [Builtin.append_, run_underlying ht, run_underlying hus, sizeOf, typeInfo, hi, hsz, Builtin.lenOf, hS, hroom, hF] at h
    simp [Builtin.append_, run_underlying ht, run_underlying hu, sizeOf, typeInfo, hi, hsz, asInt, asIntOf, hw, hmb, hneg, hroom, zeroValue, hz, hzc, Sem.run_ite]
    by_cases hm : m = 0
    ·subst hm
     rw [if_pos rfl]
     rw [zc0] at h
     exact h
    ·rw [if_neg hm]
     exact h
   ·have hc3 : ¬ (281474976710656 < Builtin.nextslicecap (sl + m) sc * i.bytes) → 9223372036854775807 < (sl : Int) + (m : Int) → i.bytes = 0 := by
     intro c2 c1
     have h1 := le_nextslicecap (need := sl + m) (old := sc) (by omega)
     by_cases hb0 : i.bytes = 0
     ·exact hb0
     ·exfalso
      have h2 : Builtin.nextslicecap (sl + m) sc * 1 ≤ Builtin.nextslicecap (sl + m) sc * i.bytes := Nat.mul_le_mul_left _ (by omega)
      omega
    simp [Builtin.append_, run_underlying ht, run_underlying hus, sizeOf, typeInfo, hi, hsz, Builtin.lenOf, hS, hroom, hF] at h
    simp [Builtin.append_, run_underlying ht, run_underlying hu, sizeOf, typeInfo, hi, hsz, asInt, asIntOf, hw, hmb, hneg, hroom, zeroValue, hz, hzc, Sem.run_ite]
    by_cases c2 : 281474976710656 < Builtin.nextslicecap (sl + m) sc * i.bytes
    ·exfalso
     have hb0 : ¬ i.bytes = 0 := by intro hb0; rw [hb0] at c2; omega
     simp [c2, hb0] at h
     cases hms : Sem.run P (Builtin.mayShare 1 sl m A (Value.string S)) w <;> simp [hms] at h
    ·by_cases c1 : 9223372036854775807 < (sl : Int) + (m : Int)
     ·exfalso
      have hb0 := hc3 c2 c1
      simp [c1, hb0, runtimePanic] at h
     ·simp [c1, c2, zeroValue, typeInfo, hi, hz, hzc] at h ⊢
      by_cases hm : m = 0
      ·subst hm
       simp [zc0] at h ⊢
       exact h
      ·simp [hm] at h ⊢
       exact h
 | _ => simp [Builtin.append_, run_underlying ht] at h
theorem strTy_inv {us : TypeId} (h : strTy P = some us) : P.underlying us = some .string := by
 have := List.find?_some h
 split at this
 ·assumption
 ·cases this
theorem zB_inv {t : TypeId} (h : zB P t = true) : ∃ e i, P.underlying t = some (.slice e) ∧ P.info? e = some i ∧ i.size = 1 ∧ i.bytes ≤ 8 ∧ i.zero = some (.int .u8 0) := by
 unfold zB at h
 split at h
 ·rename_i e he
  split at h
  ·rename_i i hi
   simp only [Bool.and_eq_true] at h
   obtain ⟨h1, h2, h3⟩ := h
   split at h3
   ·rename_i m hm
    have : m = 0 := by simpa using h3
    subst this
    exact ⟨e, i, he, hi, Nat.eq_of_beq_eq_true h1, Nat.le_of_ble_eq_true h2, hm⟩
   ·cases h3
  ·cases h
 ·cases h
theorem ok_appendZ (hid : ∀ d q, idOf d = some q → B.m ≤ q) (hid2 : ∀ d q, alt d = some q → B.m ≤ q) {t u' : TypeId} {x y : Operand} (ho : o.op = .call { callee := .builtin .append, args := #[x, y], argTypes := #[t, u'] }) (h : Rel B s a w G) (hc : cAppendZ P idOf alt s o.dst t u' x (evalA s.T x) (evalA s.T y) = some (true, u))
  (hK : ∀ a' w' G', Rel B (s.aps u) a' w' G' → K a' w') : o.wp P a w K Q := by
 unfold cAppendZ at hc
 split at hc
 ·rename_i k kk n hu hy
  split at hc
  ·rename_i us hus
   have hus := strTy_inv hus
   cases hz : zB P t with
   | false => rw [hz] at hc; cases hc
   | true =>
     rw [hz, cond_true] at hc
     obtain ⟨e, i, ht, hi, h1, h2, h3⟩ := zB_inv hz
     cases hc2 : cAppend P idOf alt s o.dst t us x (evalA s.T x) (.str (List.replicate n.toNat 0)) with
     | none => rw [hc2] at hc; cases hc
     | some p =>
       obtain ⟨b, uu⟩ := p
       rw [hc2] at hc
       simp only [Option.map_some, Option.some.injEq, Prod.mk.injEq, Bool.and_eq_true, decide_eq_true_eq] at hc
       obtain ⟨⟨g0, g1, rfl⟩, rfl⟩ := hc
       have hv := h.eval y
       rw [hy] at hv
       have hv' : a.eval y = .int kk n := by
        generalize a.eval y = vy at hv ⊢
        cases hv
        rfl
       obtain ⟨m, rfl⟩ := Int.eq_ofNat_of_zero_le g0
       rw [Int.toNat_natCast] at hc2
       refine ok_append_core hid hid2 (t := t) (u' := us) (x := x) (vy := .string ⟨(List.replicate m 0).toArray⟩) (fun v w' hr => ?_) (.str true (List.replicate m 0)) h hc2 hK
       have hS : (⟨(List.replicate m (0 : UInt8)).toArray⟩ : ByteArray).size = m := by
        change (List.replicate m (0 : UInt8)).toArray.size = m
        simp
       have hF : ∀ w : World, (Builtin.firstCells 1 m (.string ⟨(List.replicate m 0).toArray⟩)).run P w = .ok (Builtin.zeroCells #[.int .u8 0] m) w := by
        intro w
        rw [← zeros_eq m]
        rfl
       have hq := append_made (kk := kk) ht hi h1 h3 h2 hu hus (by omega) hS hF hr
       simp [execOp, ho, resolve, invoke, builtin, hv', hq]
  ·cases hc
 ·exact ok_append hid hid2 ho h hc hK
end
end Go.Proofs.Gv
