import Derived.Test.YthnbpgiohimkoaaPw05
import Derived.Laws.IdiomStrings
import Derived.Laws.Strings3
set_option linter.unusedVariables false
namespace Go.Proofs.Gv
open Go.RowKit
section
variable {P : Program} {a : Act} {w : World} {G : Gh} {o : Oper} {u : List Wr} {rr : Bool}
theorem addr_add (b o k : Nat) : (⟨b, o, none⟩ : Addr).add k = ⟨b, o + k, none⟩ := by unfold Addr.add; split <;> simp_all
theorem V.sl_slice {t : Tk} {zs : List Kd} {es : List (List AV)} {v : Value} (h : V G w rr (.sl t zs es) v) : ∃ A c, v = .slice A es.length c ∧ es.length ≤ c ∧ c ≤ maxLen ∧ (A = none → c = 0) := by
 cases h with
 | slnil _ _ _ A c hA hm _ => exact ⟨A, c, rfl, Nat.zero_le _, hm, hA⟩
 | sl _ _ _ _ b o c u _ hc hm => exact ⟨_, c, rfl, hc, hm, fun h => by cases h⟩
theorem V.sl_nn {zs : List Kd} {es : List (List AV)} {A : Option Addr} {n c : Nat} (h : V G w rr (.sl .nn zs es) (.slice A n c)) : A ≠ none := by
 cases h with
 | slnil _ _ _ A c hA hm hn => exact hn rfl
 | sl => simp
theorem V.rf_slice {q : Nat} {zs : List Kd} {v : Value} (h : V G w rr (.rf q zs) v) : ∃ A c, v = .slice A (G.nm q).1 c ∧ (G.nm q).1 ≤ c ∧ c ≤ maxLen := by
 cases h with
 | rf _ _ n c p hs hn hc hp hm => subst hn; exact ⟨_, c, rfl, hc, hm⟩
 | rfnil _ _ A h => exact ⟨A, 0, by rw [h], by omega, by simp [maxLen]⟩
theorem V.rs_slice {q i n cp : Nat} {zs : List Kd} {v : Value} (h : V G w rr (.rs q zs i n cp) v) : ∃ A c, v = .slice A n c ∧ n ≤ c ∧ cp ≤ c ∧ c ≤ maxLen := by
 cases h with
 | rs _ _ _ _ _ c p hs hi hn hcp hp hm => exact ⟨_, c, rfl, hn, hcp, hm⟩
 | rsnil _ _ _ _ _ A hi hn hcp => subst hn hcp; exact ⟨A, 0, rfl, Nat.le_refl _, Nat.le_refl _, by simp [maxLen]⟩
theorem V.cut {t : Tk} {zs : List Kd} {es : List (List AV)} {A : Option Addr} {n c : Nat} (h : V G w rr (.sl t zs es) (.slice A n c)) (l hh m : Nat) (h1 : l ≤ hh) (h2 : hh ≤ es.length) (h3 : hh ≤ m) (h4 : m ≤ c) :
  V G w rr (.sl t zs ((es.take hh).drop l)) (sliced A l hh m zs.length) := by
 have h5 := h.sl_slice
 obtain ⟨A', c', e1, e2, e3, e4⟩ := h5
 injection e1 with e5 e6 e7
 subst e5 e6 e7
 have hlen : ((es.take hh).drop l).length = hh - l := by simp; omega
 unfold sliced
 by_cases hz : hh = l
 ·subst hz
  have he : (es.take hh).drop hh = [] := List.eq_nil_of_length_eq_zero (by simp)
  rw [he, Nat.sub_self]
  refine .slnil _ _ _ _ _ (fun hA => ?_) (by omega) (fun ht => by
   subst ht
   have := h.sl_nn
   split <;> simp [this])
  split at hA
  ·rename_i e; omega
  ·have : A = none := by simpa using hA
   have := e4 this
   omega
 ·cases h with
  | slnil => simp at h2; omega
  | sl _ _ _ _ b o _ u hr hc hm hb hi hsz hcell hv =>
    have e : ¬ m = l := by omega
    rw [if_neg e]
    have ha : (⟨b, o, none⟩ : Addr).add (l * zs.length) = ⟨b, o + l * zs.length, none⟩ := addr_add _ _ _
    simp only [Option.map_some, ha]
    rw [← hlen]
    refine V.sl rr t zs _ b (o + l * zs.length) (m - l) (fun i j => u (i + l) j) hr (by rw [hlen]; omega) (by omega) hb hi (fun x hx => hsz x (List.mem_of_mem_take (List.mem_of_mem_drop hx))) (fun i j y x hi hj => ?_) (fun i j y x hi hj => ?_)
    ·rw [List.getElem?_drop, List.getElem?_take] at hi
     split at hi
     ·have := hcell (l + i) j y x hi hj
      rw [Nat.add_comm l i] at this
      rw [show o + l * zs.length + i * zs.length + j = o + (i + l) * zs.length + j from by rw [Nat.add_mul]; omega]
      exact this
     ·cases hi
    ·rw [List.getElem?_drop, List.getElem?_take] at hi
     split at hi
     ·have := hv (l + i) j y x hi hj
      rw [Nat.add_comm l i] at this
      exact this
     ·cases hi
theorem V.cutF {q : Nat} {zs : List Kd} {A : Option Addr} {n c : Nat} (h : V G w true (.rf q zs) (.slice A n c)) (l hh m cp : Nat) (h1 : l ≤ hh) (h2 : hh ≤ n) (h3 : hh ≤ m) (h4 : m ≤ c) (h5 : cp ≤ m - l) :
  V G w true (.rs q zs l (hh - l) cp) (sliced A l hh m zs.length) := by
 unfold sliced
 by_cases e : m = l
 ·subst e
  have : hh = m := by omega
  subst this
  rw [if_pos rfl, Nat.sub_self]
  refine .rsnil _ _ _ _ _ _ ?_ rfl (by omega)
  cases h with
  | rf _ _ _ _ p hs hn hc hp hm => omega
  | rfnil _ _ _ h => omega
 ·rw [if_neg e]
  cases h with
  | rf _ _ _ _ p hs hn hc hp hm =>
    simp only [Option.map_some, addr_add]
    exact .rs _ _ _ _ _ _ p hs (by omega) (by omega) h5 (by omega) (by omega)
  | rfnil _ _ _ h => omega
theorem V.cutS' {q i n cp : Nat} {zs : List Kd} {A : Option Addr} {n' c : Nat} (h : V G w true (.rs q zs i n cp) (.slice A n' c)) (l hh m cp' : Nat) (h1 : l ≤ hh) (h2 : i + hh ≤ (G.nm q).1) (h3 : hh ≤ m) (h4 : m ≤ c) (h5 : cp' ≤ m - l) :
  V G w true (.rs q zs (l + i) (hh - l) cp') (sliced A l hh m zs.length) := by
 unfold sliced
 by_cases e : m = l
 ·subst e
  have : hh = m := by omega
  subst this
  rw [if_pos rfl, Nat.sub_self]
  exact .rsnil _ _ _ _ _ _ (by omega) rfl (by omega)
 ·rw [if_neg e]
  cases h with
  | rs _ _ _ _ _ _ p hs hi hn hcp hp hm =>
    simp only [Option.map_some, addr_add]
    rw [show p.o + i * zs.length + l * zs.length = p.o + (l + i) * zs.length from by rw [Nat.add_mul]; omega]
    exact .rs _ _ _ _ _ _ p hs (by omega) (by omega) h5 (by omega) (by omega)
  | rsnil _ _ _ _ _ _ hi hn hcp => omega
theorem V.cutS {q i n cp : Nat} {zs : List Kd} {A : Option Addr} {n' c : Nat} (h : V G w true (.rs q zs i n cp) (.slice A n' c)) (l hh m cp' : Nat) (h1 : l ≤ hh) (h2 : hh ≤ n) (h3 : hh ≤ m) (h4 : m ≤ c) (h5 : cp' ≤ m - l) :
  V G w true (.rs q zs (l + i) (hh - l) cp') (sliced A l hh m zs.length) := by
 have h6 : i + n ≤ (G.nm q).1 := by
  cases h with
  | rs _ _ _ _ _ _ p hs hi hn hcp hp hm => exact hi
  | rsnil _ _ _ _ _ _ hi hn hcp => omega
 exact h.cutS' l hh m cp' h1 (by omega) h3 h4 h5
theorem elem_of {t e : TypeId} (h : P.underlying t = some (.slice e)) : P.elem t = e := by simp [Program.elem, h]
theorem ok_slice {B : Bs} {s : St} (h : Rel B s a w G) {t : TypeId} {x : Operand} {lo hi mx : Option Operand} {X : AV} {z : Bool} (ho : o.op = .slice t x lo hi mx) (hx : V G w true X (a.eval x)) (hna : ∀ n e, P.underlying t ≠ some (.array n e))
  (hc : cSlice P z s o.dst t X (lo.map (evalA s.T)) (hi.map (evalA s.T)) (mx.map (evalA s.T)) = some (true, u)) : Quiet P o a w G u := by
 have hint : ∀ (y : Option Operand) k n, y.map (evalA s.T) = some (.int k n) → y.map a.eval = some (.int k n) := by
  intro y k n hy
  cases y with
  | none => cases hy
  | some y =>
    injection hy with hy
    have := h.eval y
    rw [hy] at this
    simp [this.int_inv]
 have hnone : ∀ (y : Option Operand), y.map (evalA s.T) = none → y.map a.eval = none := by
  intro y hy
  cases y with
  | none => rfl
  | some y => cases hy
 have run1 : ∀ v, (Instr.sliceAt t (a.eval x) (lo.map a.eval) (hi.map a.eval) (mx.map a.eval)).run P w = .ok v w → (execOp a.eval o).run P w = .ok (.value v) w := by
  intro v h
  simp [execOp, ho, h]
 have hrow : ∀ {q zs es}, rowOf s q zs = some es → (G.nm q).1 = es.length := by
  intro q zs es hr
  unfold rowOf at hr
  have hb := h.blk q
  split at hr
  ·rename_i zs' es' hq
   rw [hq] at hb
   split at hr
   ·injection hr with hr
    subst hr
    exact hb.2.2.1
   ·cases hr
  ·cases hr
 unfold cSlice at hc
 split at hc
 ·rename_i l hu
  rw [hx.str_inv] at run1
  have hat : ∀ lo hi mx, (Instr.sliceAt t (.string ⟨l.toArray⟩) lo hi mx).run P w = (Instr.slice t (.string ⟨l.toArray⟩) lo hi mx).run P w := fun _ _ _ => run_sliceAt_string w _ _ _ _ _ hu
  have hex : ∀ i j, (⟨l.toArray⟩ : ByteArray).extract i j = ⟨((l.take j).drop i).toArray⟩ := by
   intro i j
   ext1
   simp
   rw [List.drop_take]
  split at hc
  ·rename_i e1 e2 e3
   refine Quiet.mk1 rfl hc (v := .string ⟨l.toArray⟩) ⟨run1 _ ?_, .str _ _⟩
   rw [hnone _ e1, hnone _ e2, hnone _ e3, hat, run_slice_string_all w _ _ hu, hex]
   simp [str_size]
  ·rename_i k i e1 e2 e3
   refine Quiet.mk' rfl hc (v := .string ⟨(l.drop i.toNat).toArray⟩) (fun hb => ?_)
   simp [bnd] at hb
   refine ⟨run1 _ ?_, .str _ _⟩
   rw [hint _ _ _ e1, hnone _ e2, hnone _ e3, hat, run_slice_string_l w t ⟨l.toArray⟩ hu k i hb.1 (by rw [str_size]; omega), hex, str_size, List.take_length]
  ·rename_i k i e1 e2 e3
   refine Quiet.mk' rfl hc (v := .string ⟨(l.take i.toNat).toArray⟩) (fun hb => ?_)
   simp [bnd] at hb
   refine ⟨run1 _ ?_, .str _ _⟩
   rw [hint _ _ _ e2, hnone _ e1, hnone _ e3, hat, run_slice_string_h w t ⟨l.toArray⟩ hu k i hb.1 (by rw [str_size]; omega), hex]
   simp
  ·rename_i k i k' j e1 e2 e3
   refine Quiet.mk' rfl hc (v := .string ⟨((l.take j.toNat).drop i.toNat).toArray⟩) (fun hb => ?_)
   simp [bnd] at hb
   refine ⟨run1 _ ?_, .str _ _⟩
   rw [hint _ _ _ e1, hint _ _ _ e2, hnone _ e3, hat, run_slice_string w t ⟨l.toArray⟩ k k' i j hu hb.1.1 hb.1.2 (by rw [str_size]; omega), hex]
  ·cases hc
 ·rename_i e tk zs es hu
  split at hc
  ·cases hc
  rename_i hsz
  have hsz : szOf P e = some zs.length := by simpa using hsz
  have hel := elem_of hu
  have hu' : P.underlying t = some (.slice (P.elem t)) := by rw [hel]; exact hu
  obtain ⟨A, c, hv, hc1, _, _⟩ := hx.sl_slice
  rw [hv] at run1 hx
  have hat : ∀ lo hi mx, (Instr.sliceAt t (.slice A es.length c) lo hi mx).run P w = (Instr.slice t (.slice A es.length c) lo hi mx).run P w := fun _ _ _ => run_sliceAt_slice w _ _ _ _ _ hu'
  have hso : (sizeOf (P.elem t)).run P w = .ok zs.length w := by rw [hel]; exact szOf_run hsz
  split at hc
  ·rename_i e1 e2 e3
   refine Quiet.mk1 rfl hc (v := sliced A 0 es.length c zs.length) ⟨run1 _ ?_, ?_⟩
   ·rw [hnone _ e1, hnone _ e2, hnone _ e3, hat, run_slice_all w t A _ c hu', hso]
    rfl
   ·have := V.cut hx 0 es.length c (by omega) (by omega) hc1 (Nat.le_refl _)
    simpa using this
  ·rename_i k i e1 e2 e3
   refine Quiet.mk' rfl hc (v := sliced A i.toNat es.length c zs.length) (fun hb => ?_)
   simp [bnd] at hb
   refine ⟨run1 _ ?_, ?_⟩
   ·rw [hint _ _ _ e1, hnone _ e2, hnone _ e3, hat, run_slice_l w t A es.length c hu' k i hb.1 hb.2, hso]
    rfl
   ·have := V.cut hx i.toNat es.length c (by omega) (by omega) hc1 (Nat.le_refl _)
    simpa using this
  ·rename_i k i e1 e2 e3
   refine Quiet.mk' rfl hc (v := sliced A 0 i.toNat c zs.length) (fun hb => ?_)
   simp [bnd] at hb
   refine ⟨run1 _ ?_, ?_⟩
   ·rw [hint _ _ _ e2, hnone _ e1, hnone _ e3, hat, run_slice_h w t A es.length c hu' k i hb.1 (by omega), hso]
    rfl
   ·have := V.cut hx 0 i.toNat c (by omega) (by omega) (by omega) (Nat.le_refl _)
    simpa using this
  ·rename_i k i k' j e1 e2 e3
   refine Quiet.mk' rfl hc (v := sliced A i.toNat j.toNat c zs.length) (fun hb => ?_)
   simp [bnd] at hb
   refine ⟨run1 _ ?_, ?_⟩
   ·rw [hint _ _ _ e1, hint _ _ _ e2, hnone _ e3, hat, run_slice_lh w t A es.length c hu' k k' i j hb.1.1 hb.1.2 (by omega), hso]
    rfl
   ·exact V.cut hx i.toNat j.toNat c (by omega) (by omega) (by omega) (Nat.le_refl _)
  ·rename_i k i k' j e1 e2 e3
   split at hc
   ·rename_i hz
    simp only [Bool.and_eq_true, beq_iff_eq] at hz
    obtain ⟨_, rfl, rfl⟩ := hz
    refine Quiet.mk1 rfl hc (v := .slice A 0 0) ⟨run1 _ ?_, .nilz _ _⟩
    rw [hnone _ e1, hint _ _ _ e2, hint _ _ _ e3, hat, run_slice_hm w t A es.length c hu' k k' 0 0 (Int.le_refl _) (Int.le_refl _) (by omega), hso]
    simp [sliced]
   ·refine Quiet.mk' rfl hc (v := sliced A 0 i.toNat j.toNat zs.length) (fun hb => ?_)
    simp [bnd] at hb
    refine ⟨run1 _ ?_, ?_⟩
    ·rw [hnone _ e1, hint _ _ _ e2, hint _ _ _ e3, hat, run_slice_hm w t A es.length c hu' k k' i j (by omega) (by omega) (by omega), hso]
     rfl
    ·have := V.cut hx 0 i.toNat j.toNat (by omega) (by omega) (by omega) (by omega)
     simpa using this
  ·rename_i k i k' j k'' m e1 e2 e3
   refine Quiet.mk' rfl hc (v := sliced A i.toNat j.toNat m.toNat zs.length) (fun hb => ?_)
   simp [bnd] at hb
   refine ⟨run1 _ ?_, ?_⟩
   ·rw [hint _ _ _ e1, hint _ _ _ e2, hint _ _ _ e3, hat, run_slice_lhm w t A es.length c hu' k k' k'' i j m (by omega) (by omega) (by omega) (by omega), hso]
    rfl
   ·exact V.cut hx i.toNat j.toNat m.toNat (by omega) (by omega) (by omega) (by omega)
  ·cases hc
 ·rename_i e q zs hu
  split at hc
  ·cases hc
  rename_i hsz
  have hsz : szOf P e = some zs.length := by simpa using hsz
  have hel := elem_of hu
  have hu' : P.underlying t = some (.slice (P.elem t)) := by rw [hel]; exact hu
  split at hc
  ·cases hc
  rename_i es hes
  have hlen := hrow hes
  obtain ⟨A, c, hv, hc1, hcm⟩ := hx.rf_slice
  rw [hlen] at hv hc1
  rw [hv] at run1 hx
  have hat : ∀ lo hi mx, (Instr.sliceAt t (.slice A es.length c) lo hi mx).run P w = (Instr.slice t (.slice A es.length c) lo hi mx).run P w := fun _ _ _ => run_sliceAt_slice w _ _ _ _ _ hu'
  have hso : (sizeOf (P.elem t)).run P w = .ok zs.length w := by rw [hel]; exact szOf_run hsz
  split at hc
  ·rename_i e1 e2 e3
   refine Quiet.mk1 rfl hc (v := .slice A es.length c) ⟨run1 _ ?_, hx⟩
   rw [hnone _ e1, hnone _ e2, hnone _ e3, hat, run_slice_all w t A _ c hu', hso]
   simp only [Result.andThen_ok, sliced]
   split <;> cases A <;> simp [Addr.add]
  ·rename_i k i e1 e2 e3
   refine Quiet.mk' rfl hc (v := sliced A i.toNat es.length c zs.length) (fun hb => ?_)
   simp [bnd] at hb
   refine ⟨run1 _ ?_, ?_⟩
   ·rw [hint _ _ _ e1, hnone _ e2, hnone _ e3, hat, run_slice_l w t A es.length c hu' k i hb.1 hb.2, hso]
    rfl
   ·exact V.cutF hx i.toNat es.length c _ (by omega) (by omega) hc1 (Nat.le_refl _) (by omega)
  ·rename_i k i e1 e2 e3
   refine Quiet.mk' rfl hc (v := sliced A 0 i.toNat c zs.length) (fun hb => ?_)
   simp [bnd] at hb
   refine ⟨run1 _ ?_, ?_⟩
   ·rw [hint _ _ _ e2, hnone _ e1, hnone _ e3, hat, run_slice_h w t A es.length c hu' k i hb.1 (by omega), hso]
    rfl
   ·exact V.cutF hx 0 i.toNat c _ (by omega) (by omega) (by omega) (Nat.le_refl _) (by omega)
  ·rename_i k i k' j e1 e2 e3
   refine Quiet.mk' rfl hc (v := sliced A i.toNat j.toNat c zs.length) (fun hb => ?_)
   simp [bnd] at hb
   refine ⟨run1 _ ?_, ?_⟩
   ·rw [hint _ _ _ e1, hint _ _ _ e2, hnone _ e3, hat, run_slice_lh w t A es.length c hu' k k' i j hb.1.1 hb.1.2 (by omega), hso]
    rfl
   ·exact V.cutF hx i.toNat j.toNat c _ (by omega) (by omega) (by omega) (Nat.le_refl _) (by omega)
  ·rename_i k k' e1 e2 e3
   refine Quiet.mk1 rfl hc (v := .slice A 0 0) ⟨run1 _ ?_, .nilz _ _⟩
   rw [hnone _ e1, hint _ _ _ e2, hint _ _ _ e3, hat, run_slice_hm w t A es.length c hu' k k' 0 0 (Int.le_refl _) (Int.le_refl _) (by omega), hso]
   simp [sliced]
  ·rename_i k i k' j k'' m e1 e2 e3
   refine Quiet.mk' rfl hc (v := sliced A i.toNat j.toNat m.toNat zs.length) (fun hb => ?_)
   simp [bnd] at hb
   refine ⟨run1 _ ?_, ?_⟩
   ·rw [hint _ _ _ e1, hint _ _ _ e2, hint _ _ _ e3, hat, run_slice_lhm w t A es.length c hu' k k' k'' i j m (by omega) (by omega) (by omega) (by omega), hso]
    rfl
   ·exact V.cutF hx i.toNat j.toNat m.toNat _ (by omega) (by omega) (by omega) (by omega) (Nat.le_refl _)
  ·cases hc
 ·rename_i e q zs i0 n0 cp hu
  split at hc
  ·cases hc
  rename_i hsz
  have hsz : szOf P e = some zs.length := by simpa using hsz
  have hel := elem_of hu
  have hu' : P.underlying t = some (.slice (P.elem t)) := by rw [hel]; exact hu
  obtain ⟨A, c, hv, hc1, hcc, hcm⟩ := hx.rs_slice
  rw [hv] at run1 hx
  have hat : ∀ lo hi mx, (Instr.sliceAt t (.slice A n0 c) lo hi mx).run P w = (Instr.slice t (.slice A n0 c) lo hi mx).run P w := fun _ _ _ => run_sliceAt_slice w _ _ _ _ _ hu'
  have hso : (sizeOf (P.elem t)).run P w = .ok zs.length w := by rw [hel]; exact szOf_run hsz
  split at hc
  ·rename_i e1 e2 e3
   refine Quiet.mk1 rfl hc (v := .slice A n0 c) ⟨run1 _ ?_, hx⟩
   rw [hnone _ e1, hnone _ e2, hnone _ e3, hat, run_slice_all w t A _ c hu', hso]
   simp only [Result.andThen_ok, sliced]
   split <;> cases A <;> simp [Addr.add]
  ·rename_i k i e1 e2 e3
   refine Quiet.mk' rfl hc (v := sliced A i.toNat n0 c zs.length) (fun hb => ?_)
   simp [bnd] at hb
   refine ⟨run1 _ ?_, ?_⟩
   ·rw [hint _ _ _ e1, hnone _ e2, hnone _ e3, hat, run_slice_l w t A n0 c hu' k i hb.1 hb.2, hso]
    rfl
   ·exact V.cutS hx i.toNat n0 c _ (by omega) (by omega) hc1 (Nat.le_refl _) (by omega)
  ·rename_i k i e1 e2 e3
   refine Quiet.mk' rfl hc (v := sliced A 0 i.toNat c zs.length) (fun hb => ?_)
   simp [bnd] at hb
   refine ⟨run1 _ ?_, ?_⟩
   ·rw [hint _ _ _ e2, hnone _ e1, hnone _ e3, hat, run_slice_h w t A n0 c hu' k i hb.1 (by omega), hso]
    rfl
   ·have := V.cutS hx 0 i.toNat c cp (by omega) (by omega) (by omega) (Nat.le_refl _) (by omega)
    simpa using this
  ·rename_i k i k' j e1 e2 e3
   split at hc
   ·rename_i es hes
    have hlen := hrow hes
    refine Quiet.mk' rfl hc (v := sliced A i.toNat j.toNat c zs.length) (fun hb => ?_)
    simp [bnd] at hb
    refine ⟨run1 _ ?_, ?_⟩
    ·rw [hint _ _ _ e1, hint _ _ _ e2, hnone _ e3, hat, run_slice_lh w t A n0 c hu' k k' i j hb.1.1.1 hb.1.1.2 (by omega), hso]
     rfl
    ·exact V.cutS' hx i.toNat j.toNat c _ (by omega) (by omega) (by omega) (Nat.le_refl _) (by omega)
   ·cases hc
  ·rename_i k k' e1 e2 e3
   refine Quiet.mk1 rfl hc (v := .slice A 0 0) ⟨run1 _ ?_, .nilz _ _⟩
   rw [hnone _ e1, hint _ _ _ e2, hint _ _ _ e3, hat, run_slice_hm w t A n0 c hu' k k' 0 0 (Int.le_refl _) (Int.le_refl _) (by omega), hso]
   simp [sliced]
  ·cases hc
 ·rename_i n e q hu
  exact absurd hu (hna n e)
 ·rename_i e hu
  have hel := elem_of hu
  have hu' : P.underlying t = some (.slice (P.elem t)) := by rw [hel]; exact hu
  split at hc
  ·cases hc
  rename_i hsz
  obtain ⟨n, hsz⟩ : ∃ n, szOf P e = some n := by
   cases hn : szOf P e with
   | none => simp [hn] at hsz
   | some n => exact ⟨n, rfl⟩
  have hso : (sizeOf (P.elem t)).run P w = .ok n w := by rw [hel]; exact szOf_run hsz
  rw [hx.nil_inv] at run1
  have hat : ∀ lo hi mx, (Instr.sliceAt t (.slice none 0 0) lo hi mx).run P w = (Instr.slice t (.slice none 0 0) lo hi mx).run P w := fun _ _ _ => run_sliceAt_slice w _ _ _ _ _ hu'
  split at hc
  ·rename_i e1 e2 e3
   refine Quiet.mk1 rfl hc (v := .slice none 0 0) ⟨run1 _ ?_, .nil _⟩
   rw [hnone _ e1, hnone _ e2, hnone _ e3, hat, run_slice_all w t none _ 0 hu', hso]
   rfl
  ·rename_i k i e1 e2 e3
   refine Quiet.mk' rfl hc (v := .slice none 0 0) (fun hb => ⟨run1 _ ?_, .nil _⟩)
   have hb : i = 0 := by simpa using hb
   subst hb
   rw [hint _ _ _ e1, hnone _ e2, hnone _ e3, hat, run_slice_l w t none 0 0 hu' k 0 (Int.le_refl _) (Int.le_refl _), hso]
   rfl
  ·rename_i k i e1 e2 e3
   refine Quiet.mk' rfl hc (v := .slice none 0 0) (fun hb => ⟨run1 _ ?_, .nil _⟩)
   have hb : i = 0 := by simpa using hb
   subst hb
   rw [hint _ _ _ e2, hnone _ e1, hnone _ e3, hat, run_slice_h w t none 0 0 hu' k 0 (Int.le_refl _) (Int.le_refl _), hso]
   rfl
  ·rename_i k k' e1 e2 e3
   refine Quiet.mk1 rfl hc (v := .slice none 0 0) ⟨run1 _ ?_, .nilz _ _⟩
   rw [hnone _ e1, hint _ _ _ e2, hint _ _ _ e3, hat, run_slice_hm w t none 0 0 hu' k k' 0 0 (Int.le_refl _) (Int.le_refl _) (Int.le_refl _), hso]
   rfl
  ·cases hc
 ·cases hc
theorem tblOf_inv {s : St} {q : Nat} {zs : List Kd} {es : List (List AV)} (h : tblOf s q zs = some es) : s.c q = .tbl zs es none := by
 unfold tblOf at h
 split at h
 ·rename_i zs' es' hq
  split at h
  ·rename_i he
   obtain rfl := Kd.eqL_of _ _ he
   injection h with h
   subst h
   exact hq
  ·cases h
 ·cases h
theorem Rel.tblV {B : Bs} {s : St} (h : Rel B s a w G) {q : Nat} {zs zs' : List Kd} {es : List (List AV)} (hq : tblOf s q zs = some es) {v : Value} (hv : V G w true (.mp q zs') v) : ∃ p : Pl, v = .map (some p.b) ∧ G.nm q = (0, some p) ∧ TblOK G w q p zs es none := by
 have hb := h.blk q
 rw [tblOf_inv hq] at hb
 obtain ⟨_, p, h1, h2⟩ := hb
 cases hv with
 | mp _ _ p' hs =>
   rw [h1] at hs
   injection hs with hs
   subst hs
   exact ⟨p, rfl, h1, h2⟩
theorem ok_len {B : Bs} {s : St} (h : Rel B s a w G) {t : TypeId} {x : Operand} {X : AV} (ho : o.op = .call { callee := .builtin .len, args := #[x], argTypes := #[t] }) (hx : V G w true X (a.eval x)) (hc : cLen P s o.dst t X = some (true, u)) : Quiet P o a w G u := by
 have run1 : ∀ v, (Builtin.len_ #[t] o.type #[a.eval x]).run P w = .ok v w → (execOp a.eval o).run P w = .ok (.value v) w := by
  intro v h
  simp [execOp, ho, resolve, invoke, builtin, h]
 unfold cLen at hc
 split at hc
 ·rename_i l hu
  refine Quiet.mk1 rfl hc (v := .int .i64 l.length) ⟨run1 _ ?_, .int _ _ _⟩
  rw [hx.str_inv, run_len_string w t _ _ hu]
  rfl
 ·rename_i e hu
  split at hc
  ·rename_i n hn
   have hv : ∃ A c, a.eval x = .slice A n c := by
    unfold lenA at hn
    split at hn
    ·injection hn with hn; subst hn; obtain ⟨A, c, hv, _⟩ := hx.sl_slice; exact ⟨A, c, hv⟩
    ·injection hn with hn; subst hn; exact ⟨_, _, hx.nil_inv⟩
    ·injection hn with hn; subst hn
     generalize a.eval x = v at hx
     cases hx
     exact ⟨_, _, rfl⟩
    ·rename_i q zs
     cases hr : rowOf s q zs with
     | none => rw [hr] at hn; cases hn
     | some es =>
       rw [hr] at hn
       injection hn with hn
       obtain ⟨A, c, hv, _⟩ := hx.rf_slice
       refine ⟨A, c, ?_⟩
       rw [hv]
       congr 1
       unfold rowOf at hr
       have hb := h.blk q
       split at hr
       ·rename_i zs' es' hq
        rw [hq] at hb
        split at hr
        ·injection hr with hr
         subst hr
         rw [hb.2.2.1, hn]
        ·cases hr
       ·cases hr
    ·injection hn with hn; subst hn; obtain ⟨A, c, hv, _⟩ := hx.rs_slice; exact ⟨A, c, hv⟩
    ·cases hn
   obtain ⟨A, c, hv⟩ := hv
   refine Quiet.mk1 rfl hc (v := .int .i64 n) ⟨run1 _ ?_, .int _ _ _⟩
   rw [hv, run_len_slice w t _ _ _ _ (by rw [elem_of hu]; exact hu)]
   rfl
  ·cases hc
 ·rename_i kt et hu
  split at hc
  ·rename_i n hn
   unfold lenM at hn
   split at hn
   ·rename_i q zs
    cases hr : tblOf s q zs with
    | none => rw [hr] at hn; cases hn
    | some es =>
      rw [hr] at hn
      injection hn with hn
      obtain ⟨p, hv, _, hT⟩ := h.tblV hr hx
      obtain ⟨ents, clk, tl, h1, h2, h3⟩ := hT.heap
      have htl : tl = [] := h3
      subst htl
      have hsz : ents.size = n := by
       have := congrArg List.length h2
       simp only [List.length_map, List.append_nil, Array.length_toList] at this
       rw [this, hn]
      refine Quiet.mk1 rfl hc (v := .int .i64 n) ⟨run1 _ ?_, .int _ _ _⟩
      rw [hv, ← hsz]
      simp [Builtin.len_, run_underlying hu, MapKept.run_getObj_map h1, goInt]
   ·cases hn
  ·cases hc
 ·cases hc
theorem ok_minmax {mx : Bool} {x y : Operand} {ty : Array TypeId} {X Y : AV} (ho : o.op = .call { callee := .builtin (if mx then .max else .min), args := #[x, y], argTypes := ty }) (hx : V G w true X (a.eval x)) (hy : V G w true Y (a.eval y)) (hc : cMinMax mx o.dst X Y = some (true, u)) : Quiet P o a w G u := by
 unfold cMinMax at hc
 split at hc
 ·rename_i k p k' q
  split at hc
  ·rename_i e
   subst e
   cases mx
   ·refine Quiet.mk1 rfl hc (v := .int k (if q < p then q else p)) ⟨?_, .int _ _ _⟩
    simp [execOp, ho, resolve, invoke, builtin, hx.int_inv, hy.int_inv, Builtin.min_, Builtin.min2]
   ·refine Quiet.mk1 rfl hc (v := .int k (if p < q then q else p)) ⟨?_, .int _ _ _⟩
    simp [execOp, ho, resolve, invoke, builtin, hx.int_inv, hy.int_inv, Builtin.max_, Builtin.max2]
  ·cases hc
 ·cases hc
end
end Go.Proofs.Gv
