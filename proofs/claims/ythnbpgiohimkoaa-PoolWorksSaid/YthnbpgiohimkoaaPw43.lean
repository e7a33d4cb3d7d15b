import Derived.Test.YthnbpgiohimkoaaPw42
import Derived.Test.YthnbpgiohimkoaaPw26
import Derived.Below
import Derived.RangeFuncNested
import Derived.RangeFuncBound
import Derived.RangeFuncCalls
import Derived.RangeFuncLeaves
import Derived.Shelf.Abstract
import Derived.WalkKit
import Derived.OwnWalkIn
import Derived.TacticsInMore
import Derived.LoopNIn
import Derived.LoopIn
import Derived.Maps.AppendAt
import Derived.Maps.OwnIn
import Derived.Test.YthnbpgiohimkoaaProg
import Derived.Shelf.RegionOpen
import Derived.Laws.ResultCell
set_option linter.unusedVariables false
namespace Go.Proofs.Gv
open Go.Proofs
open List (Perm)
abbrev srvF (q lim : Int) (x : Fl) (k : Nat) : Fl := ⟨x.c, x.w, x.s + un x.rs k q * Cw x.w, x.s + un x.rs k q * Cw x.w, x.k + un x.rs k q, lim, sv x.rs k q⟩
structure SrvOK (S S' : Sc) (i k : Nat) : Prop where
 hi : i < S.fs.length
 hk : k < (atF S.fs i).rs.length
 nx : nx S.lim (atF S.fs i).rs = (k : Int)
 least : LeastF S.fs S.fs.length i
 st : ∃ h', S' = ⟨S.q, S.lim, (atF S.fs i).s, S.k + un (atF S.fs i).rs k S.q, S.fs.set i (srvF S.q S.lim (atF S.fs i) k), h'⟩
structure Tld where
 c : Int
 i : Int
 u : Int
 l : Int
 b : Bool
theorem idle_all {fs : List Fl} (h : busyF fs = []) : ∀ b, b < fs.length → (atF fs b).rs.length = 0 := by
 intro b hb
 by_cases e : 0 < (atF fs b).rs.length
 ·have := busy_at hb
  rw [h] at this
  have hz : bz (atF fs b) = [((atF fs b).s, (atF fs b).c)] := if_pos e
  rw [hz] at this
  have := congrArg List.length this
  simp at this
 ·omega
theorem serve31 {S : Sc} (I : Inv S) : ∃ (o : Tld) (S' : Sc), Inv S' ∧ ((busyF S.fs = [] ∧ S' = S ∧ o = ⟨0, 0, 0, 0, false⟩) ∨ (∃ i k, SrvOK S S' i k ∧ o = ⟨(atF S.fs i).c, q0 (atF S.fs i).rs k, un (atF S.fs i).rs k S.q, q2 (atF S.fs i).rs k - un (atF S.fs i).rs k S.q, true⟩)) ∧
  ((vev31_0 S.q S.lim S.t S.k (ordsF S.fs) (tabsF S.fs) (R S.h) = o.c ∧ vev31_1 S.q S.lim S.t S.k (ordsF S.fs) (tabsF S.fs) (R S.h) = o.i ∧ vev31_2 S.q S.lim S.t S.k (ordsF S.fs) (tabsF S.fs) (R S.h) = o.u ∧ vev31_3 S.q S.lim S.t S.k (ordsF S.fs) (tabsF S.fs) (R S.h) = o.l ∧ vev31_4 S.q S.lim S.t S.k (ordsF S.fs) (tabsF S.fs) (R S.h) = o.b) ∧
    (vev31_5 S.q S.lim S.t S.k (ordsF S.fs) (tabsF S.fs) (R S.h) = R S'.h ∧ vev31_6 S.q S.lim S.t S.k (ordsF S.fs) (tabsF S.fs) (R S.h) = S'.t ∧ vev31_7 S.q S.lim S.t S.k (ordsF S.fs) (tabsF S.fs) (R S.h) = S'.k ∧ vev31_8 S.q S.lim S.t S.k (ordsF S.fs) (tabsF S.fs) (R S.h) = tabsF S'.fs ∧ ordsF S.fs = ordsF S'.fs ∧ S'.q = S.q ∧ S'.lim = S.lim ∧ vev31_9 S.q S.lim S.t S.k (ordsF S.fs) (tabsF S.fs) (R S.h) = true)) ∧
  ∀ L, Lk L S.fs → (vev32_3 S.q S.lim S.t S.k L = o.c ∧ vev32_4 S.q S.lim S.t S.k L = o.i ∧ vev32_5 S.q S.lim S.t S.k L = o.u ∧ vev32_6 S.q S.lim S.t S.k L = o.l ∧ vev32_7 S.q S.lim S.t S.k L = o.b) ∧ Lk (vev32_0 S.q S.lim S.t S.k L) S'.fs ∧ vev32_1 S.q S.lim S.t S.k L = S'.t ∧ vev32_2 S.q S.lim S.t S.k L = S'.k ∧ vev32_8 S.q S.lim S.t S.k L = true := by
 have h8 := I.len
 have hl := I.hlen
 obtain ⟨p3, p4, p0, p12⟩ := pop18 .imm (l := S.h) (by omega)
 by_cases h0 : 0 < S.h.length
 ·rw [decide_eq_true h0] at p3 p0
  rw [cond_true, own_of_heap I.hp] at p0
  have p1 := (p12 h0).1
  have p2 := (p12 h0).2
  rw [own_of_heap I.hp] at p1 p2
  have hm : at' S.h 0 ∈ busyF S.fs := I.pm.mem_iff.1 (at_mem h0)
  obtain ⟨x, hx, hk0, hb⟩ := mem_busy hm
  obtain ⟨i, hi, rfl⟩ := mem_atF hx
  have hlst : LeastF S.fs S.fs.length i := by
   refine ⟨hi, hb, fun b hb1 hb2 => ?_⟩
   have hmb : keyF (atF S.fs b) ∈ S.h := I.pm.mem_iff.2 (by
    rw [busy_at hb1]
    have : bz (atF S.fs b) = [((atF S.fs b).s, (atF S.fs b).c)] := if_pos hb2
    rw [this]
    simp [keyF])
   obtain ⟨j, hj, e⟩ := List.mem_iff_getElem.1 hmb
   have := heap_min I.hp j hj
   rw [at_lt hj, e, hk0] at this
   exact this
  have p2' : vev66_2 Tk.imm (R S.h) = (atF S.fs i).c := by rw [p2, hk0]
  have f := I.fl i hi
  obtain ⟨k, hk, hn, _⟩ := nx_some f.g hb
  have hN : (atF S.fs i).rs.length ≤ 1000 := by have := f.g.len; omega
  obtain ⟨s0, s1, s3, s5⟩ := s70 f.g hk hn I.q.1
  obtain ⟨⟨c0, c1, _, c3, _, c5⟩, c6, d6⟩ := r14 (l := S.lim) (es := (atF S.fs i).rs) (q := S.q) hN
  have hu := un_le f.g hk I.q.1
  have hq := I.q
  have hbl := I.bl
  have hq2 := f.g.q2b hk
  have hlw : un (atF S.fs i).rs k S.q ≤ blL S.fs := by
   have h1 := blL_at hi
   have h2 := lfQ_sv hk S.q
   have h3 := (lfQ_b (sv_good f.g hk I.q.1)).1
   have h4 : 0 ≤ blL (S.fs.take i) := by
    rw [← blF_eq]
    refine (blN_b (lim := S.lim) (fs := S.fs.take i) (fun j hj => ?_) _ (Nat.le_refl _)).1
    have hj' : j < i := by rw [List.length_take] at hj; omega
    have e : atF (S.fs.take i) j = atF S.fs j := by unfold atF; rw [List.getD_eq_getElem?_getD, List.getD_eq_getElem?_getD, List.getElem?_take_of_lt hj']
    rw [e]; exact I.gd j (by omega)
   have h5 : 0 ≤ blL (S.fs.drop (i + 1)) := by
    rw [← blF_eq]
    refine (blN_b (lim := S.lim) (fs := S.fs.drop (i + 1)) (fun j hj => ?_) _ (Nat.le_refl _)).1
    have hj' : i + 1 + j < S.fs.length := by rw [List.length_drop] at hj; omega
    have e : atF (S.fs.drop (i + 1)) j = atF S.fs (i + 1 + j) := by unfold atF; rw [List.getD_eq_getElem?_getD, List.getD_eq_getElem?_getD, List.getElem?_drop]
    rw [e]; exact I.gd _ hj'
   omega
  have hkk := I.k.1
  obtain ⟨⟨a0, a1, a2, a3, a4, a5⟩, b0, b1, b2, b3, b5⟩ := serveT (v := S.t) f (u := un (atF S.fs i).rs k S.q) (by omega) (by omega)
  have hcb := charge_b (c := un (atF S.fs i).rs k S.q) (by omega) f.w
  have hfx : FlOK S.lim (S.k + un (atF S.fs i).rs k S.q) (srvF S.q S.lim (atF S.fs i) k) := by
   have h1 := f.s
   have h2 := f.k
   refine ⟨f.c, f.w, ?_, ?_, ?_, rfl, sv_good f.g hk I.q.1, RowQ_iff.2 ((RowQ_iff.1 f.r).sv k S.q)⟩
   ·show 0 ≤ (atF S.fs i).s + un (atF S.fs i).rs k S.q * Cw (atF S.fs i).w ∧ (atF S.fs i).s + un (atF S.fs i).rs k S.q * Cw (atF S.fs i).w ≤ (S.k + un (atF S.fs i).rs k S.q) * 720720
    omega
   ·show 0 ≤ (atF S.fs i).s + un (atF S.fs i).rs k S.q * Cw (atF S.fs i).w ∧ (atF S.fs i).s + un (atF S.fs i).rs k S.q * Cw (atF S.fs i).w ≤ (S.k + un (atF S.fs i).rs k S.q) * 720720
    omega
   ·show 0 ≤ (atF S.fs i).k + un (atF S.fs i).rs k S.q ∧ (atF S.fs i).k + un (atF S.fs i).rs k S.q ≤ S.k + un (atF S.fs i).rs k S.q
    omega
  have hbl' : S.k + un (atF S.fs i).rs k S.q + (blL S.fs - lfQ (atF S.fs i).rs + lfQ (sv (atF S.fs i).rs k S.q)) ≤ 1099511627776 := by
   rw [lfQ_sv hk]; omega
  have ht' : 0 ≤ (atF S.fs i).s ∧ (atF S.fs i).s ≤ (S.k + un (atF S.fs i).rs k S.q) * 720720 := by
   have := f.s
   omega
  obtain ⟨hc1, hc2⟩ := cutH_spec I.hp h0
  have hpm := I.pm
  have hbzi : bz (atF S.fs i) = [((atF S.fs i).s, (atF S.fs i).c)] := if_pos hb
  rw [busy_at hi, hbzi] at hpm
  have hrest : Perm (cutH S.h 0) (busyF (S.fs.take i) ++ busyF (S.fs.drop (i + 1))) := by
   have h1 : Perm (at' S.h 0 :: S.h.eraseIdx 0) (at' S.h 0 :: (busyF (S.fs.take i) ++ busyF (S.fs.drop (i + 1)))) := by
    refine (erase_perm h0).trans (hpm.trans ?_)
    rw [hk0]
    simp
   exact hc1.trans h1.cons_inv
  have e0 : rev31_0 S.q S.lim S.t S.k (ordsF S.fs) (tabsF S.fs) (R S.h) = S.lim := by unfold rev31_0; rw [p2', tab_at I.one hi]; exact f.l
  have e1 : rev31_1 S.q S.lim S.t S.k (ordsF S.fs) (tabsF S.fs) (R S.h) = (atF S.fs i).rs := by unfold rev31_1; rw [p2', tab_at I.one hi]; rfl
  have e2 : rev31_2 S.q S.lim S.t S.k (ordsF S.fs) (tabsF S.fs) (R S.h) = (atF S.fs i).w := by unfold rev31_2; rw [p2', tab_at I.one hi]; rfl
  have e3 : rev31_3 S.q S.lim S.t S.k (ordsF S.fs) (tabsF S.fs) (R S.h) = (atF S.fs i).s := by unfold rev31_3; rw [p2', tab_at I.one hi]; rfl
  have e4 : rev31_4 S.q S.lim S.t S.k (ordsF S.fs) (tabsF S.fs) (R S.h) = (atF S.fs i).f := by unfold rev31_4; rw [p2', tab_at I.one hi]; rfl
  have e5 : rev31_5 S.q S.lim S.t S.k (ordsF S.fs) (tabsF S.fs) (R S.h) = (atF S.fs i).k := by unfold rev31_5; rw [p2', tab_at I.one hi]; rfl
  have e6 : rev31_6 S.q S.lim S.t S.k (ordsF S.fs) (tabsF S.fs) (R S.h) = un (atF S.fs i).rs k S.q := by unfold rev31_6; rw [e0, e1, s5]
  have e7 : rev31_7 S.q S.lim S.t S.k (ordsF S.fs) (tabsF S.fs) (R S.h) = tabsF (S.fs.set i ⟨(atF S.fs i).c, (atF S.fs i).w, (atF S.fs i).s, (atF S.fs i).f, (atF S.fs i).k, S.lim, sv (atF S.fs i).rs k S.q⟩) := by
   unfold rev31_7
   rw [p2']
   refine tabsF_set I.one hi rfl _ ?_
   rw [e0, e1, e2, e3, e4, e5, s0, tab_at I.one hi]
   rfl
  have e8 : rev31_8 S.q S.lim S.t S.k (ordsF S.fs) (tabsF S.fs) (R S.h) = (atF S.fs i).s + un (atF S.fs i).rs k S.q * Cw (atF S.fs i).w := by unfold rev31_8; rw [e2, e3, e4, e5, e6, a1]
  have e9 : rev31_9 S.q S.lim S.t S.k (ordsF S.fs) (tabsF S.fs) (R S.h) = tabsF (S.fs.set i (srvF S.q S.lim (atF S.fs i) k)) := by
   unfold rev31_9
   rw [p2', e7, e2, e3, e4, e5, e6, e8, a2, a3]
   rw [tabsF_set (I.one.set (i := i) (x := ⟨(atF S.fs i).c, (atF S.fs i).w, (atF S.fs i).s, (atF S.fs i).f, (atF S.fs i).k, S.lim, sv (atF S.fs i).rs k S.q⟩) rfl) (i := i) (by simpa using hi) (by rw [set_at hi]) (srvF S.q S.lim (atF S.fs i) k), List.set_set]
   rw [tab_ats I.one hi (x := ⟨(atF S.fs i).c, (atF S.fs i).w, (atF S.fs i).s, (atF S.fs i).f, (atF S.fs i).k, S.lim, sv (atF S.fs i).rs k S.q⟩) rfl, tab_ats I.one hi (x := ⟨(atF S.fs i).c, (atF S.fs i).w, (atF S.fs i).s, (atF S.fs i).f, (atF S.fs i).k, S.lim, sv (atF S.fs i).rs k S.q⟩) rfl, tab_ats I.one hi (x := ⟨(atF S.fs i).c, (atF S.fs i).w, (atF S.fs i).s, (atF S.fs i).f, (atF S.fs i).k, S.lim, sv (atF S.fs i).rs k S.q⟩) rfl]
   rfl
  have e10 : rev31_10 S.q S.lim S.t S.k (ordsF S.fs) (tabsF S.fs) (R S.h) = (atF S.fs i).c := by
   unfold rev31_10
   rw [p2', e9, tab_ats I.one hi (x := srvF S.q S.lim (atF S.fs i) k) rfl]
   rfl
  have hB := busy48s I.one hi (x := srvF S.q S.lim (atF S.fs i) k) rfl
  have h77 : ((0 : Int) != 0) = false := rfl
  have hK7 := tabsF_hasS hi (x := ⟨(atF S.fs i).c, (atF S.fs i).w, (atF S.fs i).s, (atF S.fs i).f, (atF S.fs i).k, S.lim, sv (atF S.fs i).rs k S.q⟩) rfl
  have hK7' : ((List.brecOn.go (motive := fun x => (List AV → Bool) → Bool) (tabsF (S.fs.set i ⟨(atF S.fs i).c, (atF S.fs i).w, (atF S.fs i).s, (atF S.fs i).f, (atF S.fs i).k, S.lim, sv (atF S.fs i).rs k S.q⟩)) List.any._f).1 fun e => keyA e == (atF S.fs i).c) = true := (hasK_go _ _).trans hK7
  have hK9 := tabsF_hasS hi (x := srvF S.q S.lim (atF S.fs i) k) rfl
  have hK9' : ((List.brecOn.go (motive := fun x => (List AV → Bool) → Bool) (tabsF (S.fs.set i (srvF S.q S.lim (atF S.fs i) k))) List.any._f).1 fun e => keyA e == (atF S.fs i).c) = true := (hasK_go _ _).trans hK9
  have hcl : (cutH S.h 0).length ≤ 8 := by
   have := hc1.length_eq
   rw [List.length_eraseIdx] at this
   split at this <;> omega
  have hpu := push17 .imm (l := cutH S.h 0) (by omega) ((atF S.fs i).s + un (atF S.fs i).rs k S.q * Cw (atF S.fs i).w, (atF S.fs i).c)
  have hpf : ∃ h', (bif decide (0 < (sv (atF S.fs i).rs k S.q).length) then vev50_0 Tk.imm (R (cutH S.h 0)) ((atF S.fs i).s + un (atF S.fs i).rs k S.q * Cw (atF S.fs i).w) (atF S.fs i).c else R (cutH S.h 0)) = R h' ∧ HeapL h' ∧ Perm h' (busyF (S.fs.set i (srvF S.q S.lim (atF S.fs i) k))) := by
   rw [busy_set hi]
   unfold bz
   by_cases hz : 0 < (sv (atF S.fs i).rs k S.q).length
   ·have hps := pushH_spec (cutH S.h 0) ((atF S.fs i).s + un (atF S.fs i).rs k S.q * Cw (atF S.fs i).w, (atF S.fs i).c)
    refine ⟨pushH (cutH S.h 0) ((atF S.fs i).s + un (atF S.fs i).rs k S.q * Cw (atF S.fs i).w, (atF S.fs i).c), by rw [decide_eq_true hz]; exact hpu.1, hps.2, ?_⟩
    rw [if_pos hz]
    have h1 := (List.perm_append_comm (l₁ := cutH S.h 0) (l₂ := [((atF S.fs i).s + un (atF S.fs i).rs k S.q * Cw (atF S.fs i).w, (atF S.fs i).c)])).trans (hrest.append_left [((atF S.fs i).s + un (atF S.fs i).rs k S.q * Cw (atF S.fs i).w, (atF S.fs i).c)])
    have h3 := (List.perm_middle (a := ((atF S.fs i).s + un (atF S.fs i).rs k S.q * Cw (atF S.fs i).w, (atF S.fs i).c)) (l₁ := busyF (S.fs.take i)) (l₂ := busyF (S.fs.drop (i + 1)))).symm
    exact hps.1.trans (h1.trans h3)
   ·refine ⟨cutH S.h 0, by rw [decide_eq_false hz]; rfl, hc2, ?_⟩
    rw [if_neg hz]
    simpa using hrest
  obtain ⟨h', k1, k2, k3⟩ := hpf
  refine ⟨⟨(atF S.fs i).c, q0 (atF S.fs i).rs k, un (atF S.fs i).rs k S.q, q2 (atF S.fs i).rs k - un (atF S.fs i).rs k S.q, true⟩, _, I.set hi (x := srvF S.q S.lim (atF S.fs i) k) rfl (by omega) hfx ht' hbl' k2 k3, .inr ⟨i, k, ⟨hi, hk, hn, hlst, h', rfl⟩, rfl⟩, ⟨⟨?_, ?_, ?_, ?_, ?_⟩, ?_, ?_, ?_, ?_, (ords_set (x := srvF S.q S.lim (atF S.fs i) k) hi rfl).symm, rfl, rfl, ?_⟩, fun L hL => ?_⟩
  ·unfold vev31_0; rw [p3, e2, e3, e4, e5, e6, a4, e10]; rfl
  ·unfold vev31_1; rw [p3, e2, e3, e4, e5, e6, a4, e0, e1, s1]; rfl
  ·unfold vev31_2; rw [p3, e2, e3, e4, e5, e6, a4]; rfl
  ·unfold vev31_3; rw [p3, e2, e3, e4, e5, e6, a4, e0, e1, s3]; rfl
  ·unfold vev31_4; rw [p3, e2, e3, e4, e5, e6, a4]; rfl
  ·unfold vev31_5; rw [p3, e2, e3, e4, e5, e6, a4, p0, p2', e8, e9, e10, hB.1]; exact k1
  ·unfold vev31_6; rw [p3, e2, e3, e4, e5, e6, a4, a0]; rfl
  ·unfold vev31_7; rw [p3, e2, e3, e4, e5, e6, a4, wrapOf _ (by omega) (by omega)]; rfl
  ·unfold vev31_8; rw [p3, e2, e3, e4, e5, e6, a4, e9]; rfl
  ·unfold vev31_9
   rw [p3, p4, p2', e0, e1, e2, e3, e4, e5, e6, a4, a5, c6, e7, e8, e9, e10, hK7', hK9', hB.1, hB.2, p0, hpu.2, tabsF_hasAt hi]
   cases decide (0 < (srvF S.q S.lim (atF S.fs i) k).rs.length) <;> rfl
  ·have hx69 := nx69 (q := S.q) (lim := S.lim) (t := S.t) (k := S.k) (tk := .imm) hL h8
   have hni := hlst.nx I.one
   rw [hni] at hx69
   obtain ⟨n0, n1⟩ := hx69
   have hc := hL.cells hi
   have hi0 : decide ((i : Int) < 0) = false := decide_eq_false (by omega)
   have g0 : rev32_0 S.q S.lim S.t S.k L = S.lim := by unfold rev32_0; rw [n0]; exact hc.2.2.2.2.2.1.trans f.l
   have g1 : rev32_1 S.q S.lim S.t S.k L = (atF S.fs i).rs := by unfold rev32_1; rw [n0]; exact hc.2.2.2.2.2.2
   have g2 : rev32_2 S.q S.lim S.t S.k L = (atF S.fs i).w := by unfold rev32_2; rw [n0]; exact hc.2.1
   have g3 : rev32_3 S.q S.lim S.t S.k L = (atF S.fs i).s := by unfold rev32_3; rw [n0]; exact hc.2.2.1
   have g4 : rev32_4 S.q S.lim S.t S.k L = (atF S.fs i).f := by unfold rev32_4; rw [n0]; exact hc.2.2.2.1
   have g5 : rev32_5 S.q S.lim S.t S.k L = (atF S.fs i).k := by unfold rev32_5; rw [n0]; exact hc.2.2.2.2.1
   have g6 : rev32_6 S.q S.lim S.t S.k L = un (atF S.fs i).rs k S.q := by unfold rev32_6; rw [g0, g1, ← c5, s5]
   have g7 : rev32_7 S.q S.lim S.t S.k L = (atF S.fs i).s := by unfold rev32_7; rw [g2, g3, g4, g5, g6, b0]
   have g8 : rev32_8 S.q S.lim S.t S.k L = S.k + un (atF S.fs i).rs k S.q := by unfold rev32_8; rw [g6, wrapOf _ (by omega) (by omega)]
   have g9 : rev32_9 S.q S.lim S.t S.k L = (atF S.fs i).c := by unfold rev32_9; rw [n0]; exact hc.1
   have g10 : rev32_10 S.q S.lim S.t S.k L = (atF S.fs i).s + un (atF S.fs i).rs k S.q * Cw (atF S.fs i).w := by unfold rev32_10; rw [g2, g3, g4, g5, g6, b1]
   have g11 : rev32_11 S.q S.lim S.t S.k L = (atF S.fs i).s + un (atF S.fs i).rs k S.q * Cw (atF S.fs i).w := by unfold rev32_11; rw [g2, g3, g4, g5, g6, b2]
   have g12 : rev32_12 S.q S.lim S.t S.k L = (atF S.fs i).k + un (atF S.fs i).rs k S.q := by unfold rev32_12; rw [g2, g3, g4, g5, g6, b3]
   have g13 : rev32_13 S.q S.lim S.t S.k L = sv (atF S.fs i).rs k S.q := by unfold rev32_13; rw [g0, g1, ← c0, s0]
   have hwith := with54 (q := S.q) (lim := S.lim) (t := (atF S.fs i).s) (k := S.k + un (atF S.fs i).rs k S.q) hL h8 hi (srvF S.q S.lim (atF S.fs i) k)
   refine ⟨⟨?_, ?_, ?_, ?_, ?_⟩, ?_, ?_, ?_, ?_⟩
   ·unfold vev32_3; rw [n0, hi0, g9]; rfl
   ·unfold vev32_4; rw [n0, hi0, g0, g1, ← c1, s1]; rfl
   ·unfold vev32_5; rw [n0, hi0, g6]; rfl
   ·unfold vev32_6; rw [n0, hi0, g0, g1, ← c3, s3]; rfl
   ·unfold vev32_7; rw [n0, hi0]; rfl
   ·unfold vev32_0; rw [n0, hi0, g0, g2, g7, g8, g9, g10, g11, g12, g13]; exact hwith.1
   ·unfold vev32_1; rw [n0, hi0, g7]; rfl
   ·unfold vev32_2; rw [n0, hi0, g8]; rfl
   ·unfold vev32_8; rw [n1, n0, hi0, hL.len, in2 hi, g0, g1, d6, g2, g3, g4, g5, g6, b5, g7, g8, g9, g10, g11, g12, g13, hwith.2]; rfl
 ·have hz : S.h = [] := List.length_eq_zero_iff.1 (by omega)
  have hbz : busyF S.fs = [] := by
   have := I.pm
   rw [hz] at this
   exact this.nil_eq.symm
  rw [decide_eq_false h0] at p3
  refine ⟨⟨0, 0, 0, 0, false⟩, S, I, .inl ⟨hbz, rfl, rfl⟩, ⟨⟨?_, ?_, ?_, ?_, ?_⟩, ?_, ?_, ?_, ?_, rfl, rfl, rfl, ?_⟩, fun L hL => ?_⟩
  ·unfold vev31_0; rw [p3]; rfl
  ·unfold vev31_1; rw [p3]; rfl
  ·unfold vev31_2; rw [p3]; rfl
  ·unfold vev31_3; rw [p3]; rfl
  ·unfold vev31_4; rw [p3]; rfl
  ·unfold vev31_5; rw [p3]; rfl
  ·unfold vev31_6; rw [p3]; rfl
  ·unfold vev31_7; rw [p3]; rfl
  ·unfold vev31_8; rw [p3]; rfl
  ·unfold vev31_9; rw [p3, p4]; rfl
  ·have hx69 := nx69 (q := S.q) (lim := S.lim) (t := S.t) (k := S.k) (tk := .imm) hL h8
   have hni : nxF S.fs S.fs.length = -1 := by
    rcases nxF_spec S.fs S.fs.length with ⟨h1, _⟩ | ⟨a, _, h2, h3, _⟩
    ·exact h1
    ·have := idle_all hbz a h2
     omega
   rw [hni] at hx69
   obtain ⟨n0, n1⟩ := hx69
   have hi0 : decide ((-1 : Int) < 0) = true := rfl
   refine ⟨⟨?_, ?_, ?_, ?_, ?_⟩, ?_, ?_, ?_, ?_⟩
   ·unfold vev32_3; rw [n0, hi0]; rfl
   ·unfold vev32_4; rw [n0, hi0]; rfl
   ·unfold vev32_5; rw [n0, hi0]; rfl
   ·unfold vev32_6; rw [n0, hi0]; rfl
   ·unfold vev32_7; rw [n0, hi0]; rfl
   ·unfold vev32_0; rw [n0, hi0]; exact hL
   ·unfold vev32_1; rw [n0, hi0]; rfl
   ·unfold vev32_2; rw [n0, hi0]; rfl
   ·unfold vev32_8; rw [n1, n0, hi0]; rfl
end Go.Proofs.Gv
namespace Go.Proofs.Gv
open Go.RowKit
structure Mem (B : Bs) (C : List Blk) (w : World) (G : Gh) : Prop where
 vb : ∀ (d : Nat) (k : Blk), C[d]? = some k → BlkOK G w d k
 os : w.os = B.w0.os
 tape : w.tape = B.w0.tape
 output : w.output = B.w0.output
 size : B.w0.heap.size ≤ w.heap.size
 par : ∀ k, k < B.m → G.nm k = B.nm0 k
 old : ∀ b, b < B.w0.heap.size → (∀ k, B.own0 b ≠ .box k) → G.own b = B.own0 b ∧ w.heap[b]? = B.w0.heap[b]?
 nl : ∀ b, G.own b = .lent → B.own0 b = .lent
theorem Rel.mem {B : Bs} {s : St} {a : Act} {w : World} {G : Gh} (h : Rel B s a w G) : Mem B s.C w G := ⟨h.vb, h.os, h.tape, h.output, h.size, h.par, h.old, h.nl⟩
theorem Mem.rel {B : Bs} {T : List AV} {C : List Blk} {w : World} {G : Gh} {vals : Array Value} (h : Mem B C w G) (hl : T.length = vals.size) (hv : ∀ (i : Nat) (x : AV) (v : Value), T[i]? = some x → vals[i]? = some v → V G w true x v) : Rel B ⟨T, C⟩ { tmps := vals, defers := [] } w G :=
 ⟨rfl, hl, hv, h.vb, h.os, h.tape, h.output, h.size, h.par, h.old, h.nl⟩
structure Turn (n0 : Nat) (G : Gh) (w w' : World) : Prop where
 os : w'.os = w.os
 tape : w'.tape = w.tape
 output : w'.output = w.output
 size : w.heap.size ≤ w'.heap.size
 low : ∀ b, b < n0 → w'.heap[b]? = w.heap[b]?
 heap : ∀ b, b < w.heap.size → G.own b ≠ .ext → w'.heap[b]? = w.heap[b]?
theorem Turn.trans {n0 : Nat} {G : Gh} {a b c : World} (h : Turn n0 G a b) (k : Turn n0 G b c) : Turn n0 G a c :=
 ⟨k.os.trans h.os, k.tape.trans h.tape, k.output.trans h.output, Nat.le_trans h.size k.size, fun i hi => (k.low i hi).trans (h.low i hi), fun i hi ho => (k.heap i (Nat.lt_of_lt_of_le hi h.size) ho).trans (h.heap i hi ho)⟩
theorem Turn.stay {n0 : Nat} {G : Gh} {w w' : World} (h : Turn n0 G w w') : Stay G G w w' :=
 ⟨h.size, fun b t hb hi => ⟨hi, h.heap b hb (by
  unfold Im at hi
  rcases hi with hi | ⟨_, hi⟩ <;> (rw [hi]; intro e; cases e))⟩⟩
theorem V.turn {n0 : Nat} {G : Gh} {w w' : World} (t : Turn n0 G w w') {r : Bool} {x : AV} {v : Value} (h : V G w r x v) : V G w' r x v := h.upd t.stay fun _ _ => rfl
theorem BlkOK.turn {n0 : Nat} {G : Gh} {w w' : World} (g : Turn n0 G w w') {d : Nat} {k : Blk} (h : BlkOK G w d k) : BlkOK G w' d k := by
 have hx : ∀ {b q : Nat}, G.own b = .box q → G.own b ≠ .ext := fun e => by rw [e]; intro h; cases h
 cases k with
 | dead => trivial
 | var cs =>
   obtain ⟨p, h1, h2, h3⟩ := h
   have hb : p.b < w.heap.size := by obtain ⟨_, vs, hh, _⟩ := h3; exact hh.lt
   exact ⟨p, h1, h2, h3.upd g.stay rfl (g.heap _ hb (hx h3.1)) fun _ _ _ q _ => rfl⟩
 | tbl zs es pd =>
   obtain ⟨h1, p, h2, h3⟩ := h
   exact ⟨h1, p, h2, h3.stays g.stay (fun b hb ho => ⟨ho, g.heap b hb (hx ho)⟩) (fun k q _ => rfl)⟩
 | row zs es =>
   obtain ⟨h1, h2, h3, h4⟩ := h
   refine ⟨h1, h2, h3, ?_⟩
   rcases h4 with ⟨h4, h5⟩ | ⟨p, h4, h5, h6⟩
   ·exact .inl ⟨h4, h5⟩
   ·have hb : p.b < w.heap.size := by obtain ⟨_, vs, hh, _⟩ := h6; exact hh.lt
    exact .inr ⟨p, h4, h5, h6.flat g.stay rfl (g.heap _ hb (hx h6.1))⟩
theorem Mem.turn {B : Bs} {C : List Blk} {w w' : World} {G : Gh} (h : Mem B C w G) (g : Turn B.w0.heap.size G w w') : Mem B C w' G :=
 ⟨fun d k hk => (h.vb d k hk).turn g, g.os.trans h.os, g.tape.trans h.tape, g.output.trans h.output, Nat.le_trans h.size g.size, h.par, fun b hb hn => ⟨(h.old b hb hn).1, (g.low b hb).trans (h.old b hb hn).2⟩, h.nl⟩
structure Past (w w' : World) (G G' : Gh) : Prop where
 size : w.heap.size ≤ w'.heap.size
 own : ∀ b, b < w.heap.size → (∀ k, G.own b ≠ .box k) → G'.own b = G.own b ∧ w'.heap[b]? = w.heap[b]?
 new : ∀ b, w'.heap.size ≤ b → G'.own b = .ext
theorem Past.ext {w w' : World} {G G' : Gh} (h : Past w w' G G') {b : Nat} (hb : b < w.heap.size) (ho : G.own b = .ext) : G'.own b = .ext ∧ w'.heap[b]? = w.heap[b]? := by
 have := h.own b hb (fun k => by rw [ho]; intro e; cases e)
 exact ⟨this.1.trans ho, this.2⟩
theorem Past.stay {w w' : World} {G G' : Gh} (h : Past w w' G G') : Stay G G' w w' := ⟨h.size, fun b t hb hi => by
 have hk : ∀ k, G.own b ≠ .box k := fun k e => by
  unfold Im at hi
  rcases hi with hi | ⟨_, hi⟩ <;> (rw [hi] at e; cases e)
 have := h.own b hb hk
 unfold Im at hi ⊢
 rw [this.1]
 exact ⟨hi, this.2⟩⟩
def cutG (w : World) (G : Gh) : Gh := { own := fun b => if b < w.heap.size then G.own b else .ext, nm := G.nm }
theorem grow_cut (w : World) (G : Gh) : Grow w w G (cutG w G) :=
 ⟨rfl, rfl, rfl, Nat.le_refl _, fun _ _ => rfl, fun b hb => by unfold cutG; dsimp only; rw [if_pos hb], rfl, fun b hb => by
  unfold cutG at hb
  dsimp only at hb
  split at hb
  ·exact hb
  ·cases hb⟩
theorem FnOK.call {P : Program} {f : FuncId} {T : List AV} {C outs : List Blk} {r : AV} (h : FnOK P f T C r outs) {B : Bs} {w : World} {G : Gh} (hm : Mem B C w G) (hC : B.m = C.length) {vals : Array Value} (hl : T.length = vals.size) (hv : ∀ (i : Nat) (x : AV) (v : Value), T[i]? = some x → vals[i]? = some v → V G w true x v) :
  Calls P f vals w fun e w' => ∃ v G', e = .returned v ∧ Mem B outs w' G' ∧ V G' w' true r v ∧ Past w w' G G' := by
 have hr : Rel ⟨w, G.own, C.length, G.nm⟩ ⟨T, C⟩ { tmps := vals, defers := [] } w G :=
  ⟨rfl, hl, hv, hm.vb, rfl, rfl, rfl, Nat.le_refl _, fun _ _ => rfl, fun _ _ _ => ⟨rfl, rfl⟩, fun _ h => h⟩
 refine (h _ vals w G hr rfl rfl rfl rfl).mono fun e w' ⟨v, G', he, hr'⟩ => ?_
 have hr2 := hr'.grow (grow_cut w' G')
 refine ⟨v, cutG w' G', he, ⟨hr2.vb, hr2.os.trans hm.os, hr2.tape.trans hm.tape, hr2.output.trans hm.output, Nat.le_trans hm.size hr2.size, fun k hk => (hr2.par k (by dsimp only; omega)).trans (hm.par k hk), fun b hb hn => ?_, fun b hb => hm.nl b (hr2.nl b hb)⟩, hr2.vt 0 _ v rfl rfl, ⟨hr2.size, fun b hb hn => hr2.old b hb hn, fun b hb => ?_⟩⟩
 ·have h1 := hm.old b hb hn
  have h2 := hr2.old b (Nat.lt_of_lt_of_le hb hm.size) (fun k => by dsimp only; rw [h1.1]; exact hn k)
  exact ⟨h2.1.trans h1.1, h2.2.trans h1.2⟩
 ·unfold cutG
  dsimp only
  rw [if_neg (by omega)]
structure Chg (S : Nat → Prop) (w w' : World) : Prop where
 os : w'.os = w.os
 tape : w'.tape = w.tape
 output : w'.output = w.output
 size : w.heap.size ≤ w'.heap.size
 heap : ∀ b, b < w.heap.size → ¬ S b → w'.heap[b]? = w.heap[b]?
theorem Chg.trans {S : Nat → Prop} {a b c : World} (h : Chg S a b) (k : Chg S b c) : Chg S a c :=
 ⟨k.os.trans h.os, k.tape.trans h.tape, k.output.trans h.output, Nat.le_trans h.size k.size, fun i hi hs => (k.heap i (Nat.lt_of_lt_of_le hi h.size) hs).trans (h.heap i hi hs)⟩
theorem Chg.mono {S S' : Nat → Prop} {a b : World} (h : Chg S a b) (hs : ∀ i, i < a.heap.size → S i → S' i) : Chg S' a b :=
 ⟨h.os, h.tape, h.output, h.size, fun i hi hn => h.heap i hi fun hh => hn (hs i hi hh)⟩
theorem Chg.alloc (S : Nat → Prop) (w : World) (o : Obj) : Chg S w (w.alloc o) :=
 ⟨rfl, rfl, rfl, by simp, fun b hb _ => Below.heap_alloc _ _ _ hb⟩
theorem Chg.set {S : Nat → Prop} (w : World) {b o : Nat} (v : Value) (hb : S b) : Chg S w (w.setCell ⟨b, o, none⟩ v) :=
 ⟨rfl, rfl, rfl, by simp [World.setCell], fun i _ hn => Below.heap_setCell _ _ _ _ (fun e => hn (by rw [e]; exact hb))⟩
theorem Chg.turn {S : Nat → Prop} {w w' : World} (h : Chg S w w') {n0 : Nat} {G : Gh} (hs : ∀ b, b < w.heap.size → S b → n0 ≤ b ∧ G.own b = .ext) (hn : n0 ≤ w.heap.size) : Turn n0 G w w' :=
 ⟨h.os, h.tape, h.output, h.size, fun b hb => h.heap b (by omega) fun e => by have := (hs b (by omega) e).1; omega, fun b hb ho => h.heap b hb fun e => ho (hs b hb e).2⟩
end Go.Proofs.Gv
namespace Go.Proofs.Gv
open Go.RowKit Go.Shelf
attribute [local go_sem] Oper.semAt_some
set_option maxHeartbeats 1000000 in
theorem all_in (F : Fence) (n : Nat) (h55 : F.fn 55) (hro : F.round = none) (A1 A2 A3 : Option Addr) (n1 c1 n2 c2 n3 c3 : Nat) (d : Int) (pa : Option Addr) (w : World) :
  CallsIn F n Try.prog 55 #[.agg #[.slice A1 n1 c1, .slice A2 n2 c2, .int .i64 d], .pointer pa, .slice A3 n3 c3] w fun e w' => e = .returned (.func (.func 93) #[] #[.pointer (some ⟨w.heap.size + 2, 0, none⟩), .pointer (some ⟨w.heap.size, 0, none⟩), .pointer (some ⟨w.heap.size + 1, 0, none⟩)]) ∧
   w' = ((w.alloc (.cells #[.slice A1 n1 c1, .slice A2 n2 c2, .int .i64 d] 39)).alloc (.cells #[.pointer pa] 27)).alloc (.cells #[.slice A3 n3 c3] 22) := by
 refine callsIn_of_wp Try.func55 rfl h55 ?_ hro
 simp only [Try.ntmps55, List.size_toArray, List.length_cons, List.length_nil, Nat.reduceAdd, Nat.reduceSub, Array.replicate_succ, Array.replicate_zero, List.push_toArray, List.append_toArray, List.nil_append, List.cons_append]
 gi_wp2
 go_ret
 exact ⟨rfl, rfl⟩
/- cells -/
theorem cells_at {W : World} {b : Nat} {vs : Array Value} {ty : TypeId} (h : W.heap[b]? = some (.cells vs ty (0, 0))) (i : Nat) : W.cell? ⟨b, i, none⟩ = vs[i]? ∧ W.frozen? ⟨b, i, none⟩ = false := by
 simp [World.cell?, World.frozen?, h]
theorem heap_lt {W : World} {b : Nat} {o : Obj} (h : W.heap[b]? = some o) : b < W.heap.size := (Array.getElem?_eq_some_iff.1 h).1
theorem set_cells {W : World} {b i : Nat} {vs : Array Value} {ty : TypeId} {fz : Nat × Nat} (v : Value) (h : W.heap[b]? = some (.cells vs ty fz)) : (W.setCell ⟨b, i, none⟩ v).heap[b]? = some (.cells (vs.setIfInBounds i v) ty fz) := by
 obtain ⟨hlt, hk⟩ := Array.getElem?_eq_some_iff.1 h
 show (W.heap.modify b _)[b]? = _
 rw [Array.getElem?_eq_getElem (by rw [Array.size_modify]; exact hlt), Array.getElem_modify_self, hk]
 rfl
theorem set3 {W : World} {b : Nat} {x1 x2 x3 : Value} {ty : TypeId} (v1 v2 v3 : Value) (h : W.heap[b]? = some (.cells #[x1, x2, x3] ty (0, 0))) : (((W.setCell ⟨b, 0, none⟩ v1).setCell ⟨b, 1, none⟩ v2).setCell ⟨b, 2, none⟩ v3).heap[b]? = some (.cells #[v1, v2, v3] ty (0, 0)) :=
 set_cells v3 (set_cells v2 (set_cells v1 h))
theorem Chg.grown {S : Nat → Prop} {w w' : World} {row : Option Nat} (h : w.grownBy w' row) (hs : ∀ r, row = some r → S r) : Chg S w w' :=
 ⟨h.os, h.tape, h.output, h.size, fun b hb hn => h.block b hb fun e => hn (hs b e.symm)⟩
theorem Chg.put {S : Nat → Prop} (w : World) {l : Nat} (o : Obj) (hs : S l) : Chg S w (w.putObj l o) := Chg.grown (grownBy_putObj' w l o) fun r e => by cases e; exact hs
theorem Chg.set3 {S : Nat → Prop} (w : World) {b : Nat} (v1 v2 v3 : Value) (hb : S b) : Chg S w (((w.setCell ⟨b, 0, none⟩ v1).setCell ⟨b, 1, none⟩ v2).setCell ⟨b, 2, none⟩ v3) :=
 ((Chg.set w v1 hb).trans (Chg.set _ v2 hb)).trans (Chg.set _ v3 hb)
theorem Chg.at' {S : Nat → Prop} {w w' : World} (h : Chg S w w') {b : Nat} {o : Obj} (hb : w.heap[b]? = some o) (hn : ¬ S b) : w'.heap[b]? = some o := (h.heap b (heap_lt hb) hn).trans hb
/- the loop's codes -/
noncomputable def asg : Code := match Try.f17.body with
 | some (.seq _ (.seq _ (.seq (.seq _ (.block _ (.rangeFunc _ _ a _))) _))) => a
 | _ => .ret
noncomputable def bod : Code := match Try.f17.body with
 | some (.seq _ (.seq _ (.seq (.seq _ (.block _ (.rangeFunc _ _ _ b))) _))) => b
 | _ => .ret
def vI : AV → Value
 | .int k n => .int k n
 | _ => undef
def flV (o : List (List AV)) : List Value := o.flatMap fun r => r.map vI
structure RunAt (n0 : Nat) (rec : LoopState → Option Code → Loop) (o : List (List AV)) (ov : Value) (W : World) : Prop where
 p : ∃ x1 x2 x3, W.heap[n0]? = some (.cells #[x1, x2, x3] 39 (0, 0))
 res : ∃ z1 z2 z3, W.heap[n0 + 1]? = some (.cells #[z1, z2, z3] 39 (0, 0))
 out : W.heap[n0 + 2]? = some (.cells #[ov] 40 (0, 0))
 row : W.ownsRow (n0 + 8) 52 4 ov o.length (flV o)
 df : W.heap[n0 + 6]? = some (.deferred (some []))
 lp : W.heap[n0 + 7]? = some (.loop (rec .ready none))
def turnsR (n0 : Nat) (ov : Value) (b : Nat) : Prop := b = n0 ∨ b = n0 + 2 ∨ b = n0 + 7 ∨ some b = ov.ownBlock
theorem own_ge {W : World} {base k : Nat} {v : Value} {xs : List Value} (h : W.ownsRow base 52 4 v k xs) {g : Nat} (hg : v.ownBlock = some g) : base ≤ g ∧ g < W.heap.size := by
 rcases h.2 with ⟨rfl, _⟩ | ⟨g', cap, cur, rfl, h1, h2, _⟩
 ·cases hg
 ·cases hg; exact ⟨h1, heap_lt h2⟩
theorem own_keep {W W' : World} {base k : Nat} {v : Value} {xs : List Value} (h : W.ownsRow base 52 4 v k xs) (hk : ∀ g, v.ownBlock = some g → W'.heap[g]? = W.heap[g]?) : W'.ownsRow base 52 4 v k xs := by
 refine ⟨h.1, ?_⟩
 rcases h.2 with h2 | ⟨g', cap, cur, rfl, h1, h2, h3⟩
 ·exact .inl h2
 ·exact .inr ⟨g', cap, cur, rfl, h1, (hk g' rfl).trans h2, h3⟩
theorem Try.info52 : (Try.prog.info? 52).map (fun i => (i.zero, i.size, i.bytes)) = some (some (.agg #[.int .i64 0, .int .i64 0, .int .i64 0, .int .i64 0]), 4, 32) := by kernel_rfl
def tmpsR (n0 : Nat) (u1 u2 u3 sv lv fv : Value) : Array Value := #[.agg #[u1, u2, u3], sv, lv, .pointer (some ⟨n0, 0, none⟩), undef, undef, .pointer (some ⟨n0 + 1, 0, none⟩), .slice none 0 0, .pointer (some ⟨n0 + 2, 0, none⟩), undef, undef, .agg #[u1, u2, u3], sv, lv, fv, undef, undef, undef, undef, undef, undef, undef, undef, undef]
def ToldAt (n0 : Nat) (W : World) (told : Value) (x : List (List AV)) : Prop := (told = .slice none 0 0 ∧ x = []) ∨ ∃ tb c a b e f, told = .slice (some ⟨tb, 0, none⟩) 1 c ∧ x = [[AV.int .i64 a, .int .i64 b, .int .i64 e, .int .i64 f]] ∧ n0 + 8 ≤ tb ∧ ∃ t, W.heap[tb]? = some (.cells #[.int .i64 a, .int .i64 b, .int .i64 e, .int .i64 f] t (0, 0))
theorem app40 {F : Fence} {n : Nat} {ops : Array Oper} {rest : List Oper} {o : Oper} {a : Act} {Q : Exit → Act → World → Prop} {w : World} (hgd : o.guard = none) (s x : Operand) (ho : o.op = .call { callee := .builtin .append, args := #[s, x], argTypes := #[40, 40] })
  (base : Nat) (v : Value) (k : Nat) (xs : List Value) (hs : a.eval s = v) (hown : w.ownsRow base 52 4 v k xs) (ad : Addr) (c : Nat) (news : List Value) (hx : a.eval x = .slice (some ad) 1 c) (hl : news.length = 4) (hnews : ∀ (j : Nat) (u : Value), news[j]? = some u → w.cell? (ad.add j) = some u) (h1 : ∀ u ∈ news, u.oneCell' = true)
  (hk : k ≤ 1000000) (hbase : base ≤ w.heap.size)
  (h : ∀ g' cap' w', w'.ownsRow base 52 4 (.slice (some ⟨g', 0, none⟩) (k + 1) cap') (k + 1) (xs ++ news) → w.grownBy w' v.ownBlock → (some g' = v.ownBlock ∨ g' = w.heap.size) → wpListIn F n Try.prog ops Q rest (a.put o.dst (.slice (some ⟨g', 0, none⟩) (k + 1) cap')) w') :
  wpListIn F n Try.prog ops Q (o :: rest) a w := by
 obtain ⟨i0, hi0, hz0, hz1, hz2⟩ := info_parts Try.info52
 have hmx : maxLen = 9223372036854775807 := rfl
 refine wpListIn_append_own_at w hgd s x 40 ho base 52 i0 (.agg #[.int .i64 0, .int .i64 0, .int .i64 0, .int .i64 0]) 4 32 Try.underlying40 hi0 hz0 hz1 hz2 rfl (by decide) v k xs hs hown ad 1 c news hx hl hnews h1 (by omega) (by omega) hbase ?_
 intro v' w1 hown' hgrow _ hob
 obtain ⟨g', cap', rfl⟩ := ownsRow_succ hown'
 refine h g' cap' w1 hown' hgrow ?_
 rcases hob with e | e
 ·exact .inl e
 ·refine .inr ?_
  simpa [Value.ownBlock] using e
set_option maxRecDepth 100000 in
set_option maxHeartbeats 2000000 in
theorem body_in (F : Fence) (m l : Nat) {n0 b9 : Nat} {o : List (List AV)} {ov u1 u2 u3 sv lv fv : Value} {A1 A2 : Option Addr} {n1 c1 n2 c2 : Nat} {d : Int} {told : Value} {x : List (List AV)} {W : World}
  (hp : ∃ x1 x2 x3, W.heap[n0]? = some (.cells #[x1, x2, x3] 39 (0, 0))) (hout : W.heap[n0 + 2]? = some (.cells #[ov] 40 (0, 0))) (hrow : W.ownsRow (n0 + 8) 52 4 ov o.length (flV o))
  (h9 : W.heap[b9]? = some (.cells #[.slice A1 n1 c1, .slice A2 n2 c2, .int .i64 d] 39 (0, 0))) (hb9 : n0 + 8 ≤ b9) (ht : ToldAt n0 W told x) (hlen : o.length ≤ 1000000) (Q : Exit → Act → World → Prop)
  (hQ : ∀ a' W' ov', W'.heap[n0]? = some (.cells #[.slice A1 n1 c1, .slice A2 n2 c2, .int .i64 d] 39 (0, 0)) → W'.heap[n0 + 2]? = some (.cells #[ov'] 40 (0, 0)) → W'.ownsRow (n0 + 8) 52 4 ov' (o ++ x).length (flV (o ++ x)) → Chg (fun b => b = n0 ∨ b = n0 + 2 ∨ some b = ov.ownBlock) W W' →
    (∀ g, ov'.ownBlock = some g → ov.ownBlock = some g ∨ W.heap.size ≤ g) → Q .normal a' W') :
  bod.wpIn (F.inRound l) m Try.prog Q { tmps := #[.agg #[u1, u2, u3], sv, lv, .pointer (some ⟨n0, 0, none⟩), undef, undef, .pointer (some ⟨n0 + 1, 0, none⟩), .slice none 0 0, .pointer (some ⟨n0 + 2, 0, none⟩), .pointer (some ⟨b9, 0, none⟩), told, .agg #[u1, u2, u3], sv, lv, fv, .agg #[.slice A1 n1 c1, .slice A2 n2 c2, .int .i64 d], told, undef, undef, undef, undef, undef, undef, undef], defers := [] } W := by
 obtain ⟨x1, x2, x3, hp⟩ := hp
 have g0 := cells_at h9 0; have g1 := cells_at h9 1; have g2 := cells_at h9 2
 have p0 := cells_at hp 0; have p1 := cells_at hp 1; have p2 := cells_at hp 2
 have o0 := cells_at hout 0
 simp only [List.getElem?_toArray, List.getElem?_cons_zero, List.getElem?_cons_succ] at g0 g1 g2 p0 p1 p2 o0
 obtain ⟨g0, _⟩ := g0; obtain ⟨g1, _⟩ := g1; obtain ⟨g2, _⟩ := g2
 obtain ⟨p0, pf0⟩ := p0; obtain ⟨p1, pf1⟩ := p1; obtain ⟨p2, pf2⟩ := p2
 obtain ⟨o0, of0⟩ := o0
 have hout3 : ∀ v1 v2 v3, (((W.setCell ⟨n0, 0, none⟩ v1).setCell ⟨n0, 1, none⟩ v2).setCell ⟨n0, 2, none⟩ v3).heap[n0 + 2]? = some (.cells #[ov] 40 (0, 0)) := fun v1 v2 v3 => (Chg.set3 (S := fun b => b = n0) W v1 v2 v3 rfl).at' hout (by omega)
 have hp3 := fun v1 v2 v3 => set3 v1 v2 v3 hp
 have hgo : ∀ g, ov.ownBlock = some g → g ≠ n0 ∧ g ≠ n0 + 2 := fun g hg => by have := own_ge hrow hg; omega
 have hrow3 : ∀ v1 v2 v3, (((W.setCell ⟨n0, 0, none⟩ v1).setCell ⟨n0, 1, none⟩ v2).setCell ⟨n0, 2, none⟩ v3).ownsRow (n0 + 8) 52 4 ov o.length (flV o) := fun v1 v2 v3 =>
  own_keep hrow fun g hg => (Chg.set3 (S := fun b => b = n0) W v1 v2 v3 rfl).heap g (own_ge hrow hg).2 (hgo g hg).1
 have fin : ∀ (W3 : World) (v : Value), W3.heap[n0]? = some (.cells #[.slice A1 n1 c1, .slice A2 n2 c2, .int .i64 d] 39 (0, 0)) → W3.heap[n0 + 2]? = some (.cells #[ov] 40 (0, 0)) → W3.ownsRow (n0 + 8) 52 4 v (o ++ x).length (flV (o ++ x)) → Chg (fun b => b = n0 ∨ b = n0 + 2 ∨ some b = ov.ownBlock) W W3 →
   (∀ g, v.ownBlock = some g → ov.ownBlock = some g ∨ W.heap.size ≤ g) → ∀ a', Q .normal a' (W3.setCell ⟨n0 + 2, 0, none⟩ v) := by
  intro W3 v k0 k1 k2 k3 k4 a'
  have kc : Chg (fun b => b = n0 + 2) W3 (W3.setCell ⟨n0 + 2, 0, none⟩ v) := Chg.set W3 v rfl
  refine hQ a' _ v (kc.at' k0 (by omega)) (set_cells v k1) (own_keep k2 fun g hg => kc.heap g (own_ge k2 hg).2 (by have := own_ge k2 hg; omega)) (k3.trans (kc.mono fun i _ hi => .inr (.inl hi))) k4
 rcases ht with ⟨rfl, rfl⟩ | ⟨tb, c, a, b, e, f, rfl, rfl, htb, t, hcell⟩
 ·have fin' := fin _ ov (hp3 (.slice A1 n1 c1) (.slice A2 n2 c2) (.int .i64 d)) (hout3 _ _ _) (by simpa using hrow3 (.slice A1 n1 c1) (.slice A2 n2 c2) (.int .i64 d)) ((Chg.set3 (S := fun b => b = n0) W (.slice A1 n1 c1) (.slice A2 n2 c2) (.int .i64 d) rfl).mono fun i _ hi => Or.inl hi) (fun g hg => .inl hg)
  rcases hrow.2 with ⟨rfl, hz⟩ | ⟨g, cap, cur, rfl, hbg, hgh, hkc, hcm, hcs, hct⟩
  ·unfold bod
   simp only [Try.f17]
   gi_wp2
   exact fin' _
  ·unfold bod
   simp only [Try.f17]
   gi_wp2
   exact fin' _
 ·obtain ⟨i0, hi0, hz0, hz1, hz2⟩ := info_parts Try.info52
  obtain ⟨W3, hW3⟩ : ∃ W3, ((W.setCell ⟨n0, 0, none⟩ (.slice A1 n1 c1)).setCell ⟨n0, 1, none⟩ (.slice A2 n2 c2)).setCell ⟨n0, 2, none⟩ (.int .i64 d) = W3 := ⟨_, rfl⟩
  have q0 := hp3 (.slice A1 n1 c1) (.slice A2 n2 c2) (.int .i64 d)
  have q1 := hout3 (.slice A1 n1 c1) (.slice A2 n2 c2) (.int .i64 d)
  have q2 := hrow3 (.slice A1 n1 c1) (.slice A2 n2 c2) (.int .i64 d)
  have q3 : Chg (fun b => b = n0) W W3 := by rw [← hW3]; exact Chg.set3 W _ _ _ rfl
  have hbig : (o.length + 1) * 32 ≤ 140737488355328 := by omega
  have hmx : maxLen = 9223372036854775807 := rfl
  have hn8 : n0 + 8 ≤ W.heap.size := by have := heap_lt h9; omega
  rw [hW3] at q0 q1 q2
  have hsz := q3.size
  have c3 := (cells_at q1 0).1
  have f3 := (cells_at q1 0).2
  simp only [List.getElem?_toArray, List.getElem?_cons_zero] at c3
  have hcellW : ∀ (j : Nat) (u : Value), ([.int .i64 a, .int .i64 b, .int .i64 e, .int .i64 f] : List Value)[j]? = some u → W3.cell? (Addr.add ⟨tb, 0, none⟩ j) = some u := by
   intro j u hu
   have h3 := (cells_at (q3.at' hcell (by omega)) j).1
   have hea : Addr.add ⟨tb, 0, none⟩ j = ⟨tb, j, none⟩ := by
    simp [Addr.add]
    intro h
    exact h.symm
   rw [hea, h3]
   simpa using hu
  have hone : ∀ u ∈ ([.int .i64 a, .int .i64 b, .int .i64 e, .int .i64 f] : List Value), u.oneCell' = true := by
   intro u hu
   simp at hu
   rcases hu with rfl | rfl | rfl | rfl <;> rfl
  have hfl : flV (o ++ [[AV.int .i64 a, .int .i64 b, .int .i64 e, .int .i64 f]]) = flV o ++ [.int .i64 a, .int .i64 b, .int .i64 e, .int .i64 f] := by
   unfold flV
   rw [List.flatMap_append]
   rfl
  have hll : (o ++ [[AV.int .i64 a, .int .i64 b, .int .i64 e, .int .i64 f]]).length = o.length + 1 := by simp
  unfold bod
  simp only [Try.f17]
  gi_wp2_with (gi_at_builtin; refine app40 rfl _ _ rfl (n0 + 8) ov o.length _ rfl q2 ⟨tb, 0, none⟩ c [.int .i64 a, .int .i64 b, .int .i64 e, .int .i64 f] rfl rfl hcellW hone hlen (by omega) ?_; intro g' cap' w1 hown' hgrow hob; have hk := Chg.grown (S := fun i => some i = ov.ownBlock) hgrow (fun r e => e.symm); have hk0 := hk.at' q0 (fun e => (hgo n0 e.symm).1 rfl); have hk2 := hk.at' q1 (fun e => (hgo (n0 + 2) e.symm).2 rfl); have hc2 := (cells_at hk2 0).1; have hf2 := (cells_at hk2 0).2; simp only [List.getElem?_toArray, List.getElem?_cons_zero] at hc2)
  refine fin w1 _ hk0 hk2 (by rw [hll, hfl]; exact hown') ((q3.mono fun i _ hi => Or.inl hi).trans (hk.mono fun i _ hi => Or.inr (Or.inr hi))) (fun g hg => ?_) _
  have hg : g' = g := by simpa [Value.ownBlock] using hg
  rcases hob with e1 | e1
  ·exact .inl (by rw [← e1, ← hg])
  ·exact .inr (by omega)
theorem put_same {W : World} {l : Nat} {o : Obj} (o' : Obj) (h : W.heap[l]? = some o) : (W.putObj l o').heap[l]? = some o' := World.putObj_heap_same (heap_lt h)
set_option maxRecDepth 100000 in
set_option maxHeartbeats 2000000 in
theorem round_in (F : Fence) (m : Nat) {n0 : Nat} {rec : LoopState → Option Code → Loop} {fn : FuncId} {o : List (List AV)} {ov u1 u2 u3 sv lv fv : Value} {A1 A2 : Option Addr} {n1 c1 n2 c2 : Nat} {d : Int} {told : Value} {x : List (List AV)} {W : World}
  (hfn : F.fn fn) (hrec : rec = fun st pe => { state := st, pending := pe, fn := fn, tmps := tmpsR n0 u1 u2 u3 sv lv fv, params := #[15, 16], assign := asg, body := bod, defers := n0 + 6 }) (R : RunAt n0 rec o ov W) (ht : ToldAt n0 W told x) (hlen : o.length ≤ 1000000) :
  YieldAt F m Try.prog (n0 + 7) #[.agg #[.slice A1 n1 c1, .slice A2 n2 c2, .int .i64 d], told] W fun e W' => e = .returned (.bool true) ∧ ∃ ov', RunAt n0 rec (o ++ x) ov' W' ∧ W'.heap[n0]? = some (.cells #[.slice A1 n1 c1, .slice A2 n2 c2, .int .i64 d] 39 (0, 0)) ∧ Chg (turnsR n0 ov) W W' ∧
   (∀ g, ov'.ownBlock = some g → ov.ownBlock = some g ∨ W.heap.size ≤ g) := by
 have hn8 : n0 + 8 ≤ W.heap.size := heap_lt R.lp
 have hy := run_yield (P := Try.prog) (args := #[.agg #[.slice A1 n1 c1, .slice A2 n2 c2, .int .i64 d], told]) R.lp (by rw [hrec]; rfl)
 refine ⟨fn, #[.agg #[u1, u2, u3], sv, lv, .pointer (some ⟨n0, 0, none⟩), undef, undef, .pointer (some ⟨n0 + 1, 0, none⟩), .slice none 0 0, .pointer (some ⟨n0 + 2, 0, none⟩), undef, undef, .agg #[u1, u2, u3], sv, lv, fv, .agg #[.slice A1 n1 c1, .slice A2 n2 c2, .int .i64 d], told, undef, undef, undef, undef, undef, undef, undef], asg, bod, by rw [hy, hrec]; simp [tmpsR], roundIn_of_wpIn hfn ?_⟩
 have hK : ∀ a1, a1 = { tmps := #[.agg #[u1, u2, u3], sv, lv, .pointer (some ⟨n0, 0, none⟩), undef, undef, .pointer (some ⟨n0 + 1, 0, none⟩), .slice none 0 0, .pointer (some ⟨n0 + 2, 0, none⟩), .pointer (some ⟨W.heap.size, 0, none⟩), told, .agg #[u1, u2, u3], sv, lv, fv, .agg #[.slice A1 n1 c1, .slice A2 n2 c2, .int .i64 d], told, undef, undef, undef, undef, undef, undef, undef], defers := [] } →
   ∃ w₂, (Instr.beginRound (n0 + 7)).run Try.prog (W.alloc (.cells #[.slice A1 n1 c1, .slice A2 n2 c2, .int .i64 d] 39)) = .ok () w₂ ∧ bod.wpIn (F.inRound (n0 + 7)) m Try.prog (roundPost Try.prog (n0 + 7) fun e W' => e = .returned (.bool true) ∧ ∃ ov', RunAt n0 rec (o ++ x) ov' W' ∧ W'.heap[n0]? = some (.cells #[.slice A1 n1 c1, .slice A2 n2 c2, .int .i64 d] 39 (0, 0)) ∧ Chg (turnsR n0 ov) W W' ∧
    (∀ g, ov'.ownBlock = some g → ov.ownBlock = some g ∨ W.heap.size ≤ g)) a1 w₂ := by
  rintro a1 rfl
  have hnew : (W.alloc (.cells #[.slice A1 n1 c1, .slice A2 n2 c2, .int .i64 d] 39)).heap[W.heap.size]? = some (.cells #[.slice A1 n1 c1, .slice A2 n2 c2, .int .i64 d] 39 (0, 0)) := World.alloc_heap_new W _
  have y1 := Chg.alloc (fun b => b = n0 + 7) W (.cells #[.slice A1 n1 c1, .slice A2 n2 c2, .int .i64 d] 39)
  have hl1 : (W.alloc (.cells #[.slice A1 n1 c1, .slice A2 n2 c2, .int .i64 d] 39)).heap[n0 + 7]? = some (.loop (rec .ready none)) := (Below.heap_alloc _ _ _ (heap_lt R.lp)).trans R.lp
  have hbr := run_beginRound (P := Try.prog) hl1 (by rw [hrec])
  have y2 := y1.trans (Chg.put (S := fun b => b = n0 + 7) (W.alloc (.cells #[.slice A1 n1 c1, .slice A2 n2 c2, .int .i64 d] 39)) (.loop { rec .ready none with state := .busy }) rfl)
  have hl2 := put_same (.loop { rec .ready none with state := .busy }) hl1
  have h9 := (Chg.put (S := fun b => b = n0 + 7) (W.alloc (.cells #[.slice A1 n1 c1, .slice A2 n2 c2, .int .i64 d] 39)) (.loop { rec .ready none with state := .busy }) rfl).at' hnew (by omega)
  obtain ⟨W2, hW2⟩ : ∃ W2, (W.alloc (.cells #[.slice A1 n1 c1, .slice A2 n2 c2, .int .i64 d] 39)).putObj (n0 + 7) (.loop { rec .ready none with state := .busy }) = W2 := ⟨_, rfl⟩
  rw [hW2] at hbr y2 hl2 h9
  have hsz := y2.size
  refine ⟨W2, hbr, ?_⟩
  obtain ⟨p1, p2, p3, hp⟩ := R.p
  obtain ⟨z1, z2, z3, hz⟩ := R.res
  have hrow2 : W2.ownsRow (n0 + 8) 52 4 ov o.length (flV o) := own_keep R.row fun g hg => y2.heap g (own_ge R.row hg).2 (by have := own_ge R.row hg; omega)
  have ht2 : ToldAt n0 W2 told x := by
   rcases ht with h | ⟨tb, c, a, b, e, f, h1, h2, h3, t, h4⟩
   ·exact .inl h
   ·exact .inr ⟨tb, c, a, b, e, f, h1, h2, h3, t, y2.at' h4 (by omega)⟩
  refine body_in F m (n0 + 7) ⟨p1, p2, p3, y2.at' hp (by omega)⟩ (y2.at' R.out (by omega)) hrow2 h9 hn8 ht2 hlen _ ?_
  intro a' W3 ov' k0 k1 k2 k3 k4
  have hgo : ∀ g, ov.ownBlock = some g → n0 + 8 ≤ g := fun g hg => (own_ge R.row hg).1
  have nt : ∀ j, j < 8 → j ≠ 0 → j ≠ 2 → ¬ (n0 + j = n0 ∨ n0 + j = n0 + 2 ∨ some (n0 + j) = ov.ownBlock) := by
   intro j hj h1 h2 h
   rcases h with h | h | h
   ·omega
   ·omega
   ·have := hgo _ h.symm; omega
  have hl3 := k3.at' hl2 (nt 7 (by omega) (by omega) (by omega))
  have her := run_endRound (P := Try.prog) none hl3
  have y4 := Chg.put (S := fun b => b = n0 + 7) W3 (.loop { ({ rec .ready none with state := .busy } : Loop) with state := if (none : Option Code).isNone then .ready else .done, pending := none }) rfl
  have hl4 := put_same (.loop { ({ rec .ready none with state := .busy } : Loop) with state := if (none : Option Code).isNone then .ready else .done, pending := none }) hl3
  refine ⟨_, _, her, rfl, ov', ⟨⟨_, _, _, y4.at' k0 (by omega)⟩, ⟨z1, z2, z3, y4.at' (k3.at' (y2.at' hz (by omega)) (nt 1 (by omega) (by omega) (by omega))) (by omega)⟩, y4.at' k1 (by omega), own_keep k2 fun g hg => y4.heap g (own_ge k2 hg).2 (by have := own_ge k2 hg; omega), y4.at' (k3.at' (y2.at' R.df (by omega)) (nt 6 (by omega) (by omega) (by omega))) (by omega), ?_⟩, y4.at' k0 (by omega), ?_, ?_⟩
  ·rw [hl4, hrec]
   rfl
  ·refine (y2.mono fun i _ hi => ?_).trans ((k3.mono fun i _ hi => ?_).trans (y4.mono fun i _ hi => ?_))
   ·exact .inr (.inr (.inl hi))
   ·rcases hi with h | h | h
    ·exact .inl h
    ·exact .inr (.inl h)
    ·exact .inr (.inr (.inr h))
   ·exact .inr (.inr (.inl hi))
  ·intro g hg
   rcases k4 g hg with h | h
   ·exact .inl h
   ·exact .inr (by omega)
 clear hy hrec
 unfold asg
 simp only [Try.f17]
 gi_wp2
 exact hK _ rfl
end Go.Proofs.Gv
namespace Go.Proofs.Gv
open Go.RowKit Go.Shelf
attribute [local go_sem] Oper.semAt_some
abbrev pA (us ss : List (List AV)) (d : Int) : AV := .agg [.sl .imm [.int .i64] us, .sl .imm [.int .i64] ss, .int .i64 d]
abbrev xA (a b e f : Int) : AV := .agg [.int .i64 a, .int .i64 b, .int .i64 e, .int .i64 f]
def xR (is : Bool) (a b e f : Int) : List (List AV) := bif is then [[.int .i64 a, .int .i64 b, .int .i64 e, .int .i64 f]] else []
def runG (Γ : Gam) (s : AV) : List (List AV) → List (List AV) → List (List AV) → Int → List Blk → Option ((List (List AV) × List (List AV) × Int) × List (List AV) × List Blk)
 | [], us, ss, d, C => some ((us, ss, d), [], C)
 | r :: l, us, ss, d, C => match Γ 39 [pA us ss d, s, r.getD 0 .junk] C with
   | some (true, .tup [.agg [.sl .imm [.int .i64] us', .sl .imm [.int .i64] ss', .int .i64 d'], .agg [.int .i64 a, .int .i64 b, .int .i64 e, .int .i64 f], .bool is], C') =>
     match (unk C C').length == C.length with
     | true => match runG Γ s l us' ss' d' (unk C C') with
       | some (p, o, D) => some (p, xR is a b e f ++ o, D)
       | none => none
     | false => none
   | _ => none
theorem runG_cons {Γ : Gam} {s : AV} {r : List AV} {l us ss : List (List AV)} {d : Int} {C : List Blk} {p : List (List AV) × List (List AV) × Int} {O : List (List AV)} {D : List Blk} (h : runG Γ s (r :: l) us ss d C = some (p, O, D)) :
  ∃ us' ss' d' a b e f is C' o, Γ 39 [pA us ss d, s, r.getD 0 .junk] C = some (true, .tup [pA us' ss' d', xA a b e f, .bool is], C') ∧ runG Γ s l us' ss' d' (unk C C') = some (p, o, D) ∧ O = xR is a b e f ++ o ∧ (unk C C').length = C.length := by
 unfold runG at h
 split at h
 ·rename_i us' ss' d' a b e f is C' he
  split at h
  ·rename_i hle
   split at h
   ·rename_i p' o D' hr
    injection h with h
    injection h with h1 h
    injection h with h2 h3
    subst h1 h2 h3
    exact ⟨us', ss', d', a, b, e, f, is, C', o, he, hr, rfl, by simpa using hle⟩
   ·cases h
  ·cases h
 ·cases h
theorem V.arr {G : Gh} {w : World} {r : Bool} {cs : List AV} {v : Value} (h : V G w r (.agg cs) v) : ∃ vs : Array Value, v = .agg vs ∧ cs.length = vs.size ∧ ∀ (i : Nat) (x : AV) (u : Value), cs[i]? = some x → vs[i]? = some u → V G w r x u := by
 cases h with
 | agg _ _ vs hl h => exact ⟨vs, rfl, hl, h⟩
theorem V.tupl {G : Gh} {w : World} {r : Bool} {cs : List AV} {v : Value} (h : V G w r (.tup cs) v) : ∃ vs : Array Value, v = .tuple vs ∧ cs.length = vs.size ∧ ∀ (i : Nat) (x : AV) (u : Value), cs[i]? = some x → vs[i]? = some u → V G w r x u := by
 cases h with
 | tup _ _ vs hl h => exact ⟨vs, rfl, hl, h⟩
theorem V.intV {G : Gh} {w : World} {r : Bool} {k : IntKind} {n : Int} {v : Value} (h : V G w r (.int k n) v) : v = .int k n := by cases h; rfl
theorem V.boolV {G : Gh} {w : World} {r : Bool} {b : Bool} {v : Value} (h : V G w r (.bool b) v) : v = .bool b := by cases h; rfl
theorem V.slV {G : Gh} {w : World} {r : Bool} {t : Tk} {zs : List Kd} {es : List (List AV)} {v : Value} (h : V G w r (.sl t zs es) v) : ∃ A n c, v = .slice A n c := by
 cases h with
 | slnil _ _ _ A c => exact ⟨A, 0, c, rfl⟩
 | sl _ _ _ _ b o c => exact ⟨_, _, c, rfl⟩
theorem arr3 {vs : Array Value} (h : 3 = vs.size) : ∃ a b c, vs = #[a, b, c] := by
 obtain ⟨l⟩ := vs
 match l, h with
 | [a, b, c], _ => exact ⟨a, b, c, rfl⟩
theorem arr4 {vs : Array Value} (h : 4 = vs.size) : ∃ a b c d, vs = #[a, b, c, d] := by
 obtain ⟨l⟩ := vs
 match l, h with
 | [a, b, c, d], _ => exact ⟨a, b, c, d, rfl⟩
theorem V.pool {G : Gh} {w : World} {us ss : List (List AV)} {d : Int} {v : Value} (h : V G w true (pA us ss d) v) : ∃ A1 n1 c1 A2 n2 c2, v = .agg #[.slice A1 n1 c1, .slice A2 n2 c2, .int .i64 d] ∧ V G w true (.sl .imm [.int .i64] us) (.slice A1 n1 c1) ∧ V G w true (.sl .imm [.int .i64] ss) (.slice A2 n2 c2) := by
 obtain ⟨vs, rfl, hl, hv⟩ := h.arr
 obtain ⟨v0, v1, v2, rfl⟩ := arr3 hl
 have h0 := hv 0 _ v0 rfl rfl
 have h1 := hv 1 _ v1 rfl rfl
 have h2 := (hv 2 _ v2 rfl rfl).intV
 obtain ⟨A1, n1, c1, rfl⟩ := h0.slV
 obtain ⟨A2, n2, c2, rfl⟩ := h1.slV
 exact ⟨A1, n1, c1, A2, n2, c2, by rw [h2], h0, h1⟩
theorem V.pool_mk {G : Gh} {w : World} {us ss : List (List AV)} {d : Int} {A1 A2 : Option Addr} {n1 c1 n2 c2 : Nat} (h1 : V G w true (.sl .imm [.int .i64] us) (.slice A1 n1 c1)) (h2 : V G w true (.sl .imm [.int .i64] ss) (.slice A2 n2 c2)) : V G w true (pA us ss d) (.agg #[.slice A1 n1 c1, .slice A2 n2 c2, .int .i64 d]) := by
 refine .agg _ _ _ rfl fun i x v hx hv => ?_
 match i, hx, hv with
 | 0, hx, hv => cases hx; cases hv; exact h1
 | 1, hx, hv => cases hx; cases hv; exact h2
 | 2, hx, hv => cases hx; cases hv; exact .int _ _ _
def PtrOK (B : Bs) (s : AV) (sv : Value) : Prop := (s = .nilp ∧ sv = .pointer none) ∨ (s = .hp 0 0 ∧ 0 < B.m ∧ ∃ p : Pl, (B.nm0 0).2 = some p ∧ sv = .pointer (some ⟨p.b, 0, none⟩))
theorem PtrOK.v {B : Bs} {s : AV} {sv : Value} (h : PtrOK B s sv) {C : List Blk} {w : World} {G : Gh} (hm : Mem B C w G) : V G w true s sv := by
 rcases h with ⟨rfl, rfl⟩ | ⟨rfl, h1, p, h2, rfl⟩
 ·exact .nilp _
 ·exact .hp 0 0 p (by rw [hm.par 0 h1]; exact h2)
theorem PtrOK.ptr {B : Bs} {s : AV} {sv : Value} (h : PtrOK B s sv) : ∃ pa, sv = .pointer pa := by
 rcases h with ⟨rfl, rfl⟩ | ⟨rfl, h1, p, h2, rfl⟩
 ·exact ⟨_, rfl⟩
 ·exact ⟨_, rfl⟩
theorem work_in {Γ : Gam} (hΓ : GamOK Try.prog Γ) {B : Bs} {s : AV} {sv : Value} (hs : PtrOK B s sv) {C C' : List Blk} (hC : B.m = C.length) {us ss us' ss' : List (List AV)} {d d' wk a b e f : Int} {is : Bool} (h39 : Γ 39 [pA us ss d, s, .int .i64 wk] C = some (true, .tup [pA us' ss' d', xA a b e f, .bool is], C'))
  {W : World} {G : Gh} (hm : Mem B C W G) {A1 A2 : Option Addr} {n1 c1 n2 c2 : Nat} (h1 : V G W true (.sl .imm [.int .i64] us) (.slice A1 n1 c1)) (h2 : V G W true (.sl .imm [.int .i64] ss) (.slice A2 n2 c2)) :
  Calls Try.prog 39 #[.agg #[.slice A1 n1 c1, .slice A2 n2 c2, .int .i64 d], sv, .int .i64 wk] W fun en W1 => ∃ A1' n1' c1' A2' n2' c2' G1, en = .returned (.tuple #[.agg #[.slice A1' n1' c1', .slice A2' n2' c2', .int .i64 d'], .agg #[.int .i64 a, .int .i64 b, .int .i64 e, .int .i64 f], .bool is]) ∧ Mem B (unk C C') W1 G1 ∧
   V G1 W1 true (.sl .imm [.int .i64] us') (.slice A1' n1' c1') ∧ V G1 W1 true (.sl .imm [.int .i64] ss') (.slice A2' n2' c2') ∧ Past W W1 G G1 := by
 refine ((hΓ _ _ _ _ _ h39).2.call hm hC (vals := #[.agg #[.slice A1 n1 c1, .slice A2 n2 c2, .int .i64 d], sv, .int .i64 wk]) rfl fun i x v hx hv => ?_).mono fun en W1 ⟨v, G1, he, hm1, hv1, hp1⟩ => ?_
 ·match i, hx, hv with
  | 0, hx, hv => cases hx; cases hv; exact V.pool_mk h1 h2
  | 1, hx, hv => cases hx; cases hv; exact hs.v hm
  | 2, hx, hv => cases hx; cases hv; exact .int _ _ _
 ·obtain ⟨vs, rfl, hl, hvs⟩ := hv1.tupl
  obtain ⟨v0, v1, v2, rfl⟩ := arr3 hl
  obtain ⟨A1', n1', c1', A2', n2', c2', rfl, k1, k2⟩ := (hvs 0 _ v0 rfl rfl).pool
  obtain ⟨ys, rfl, hl2, hys⟩ := (hvs 1 _ v1 rfl rfl).arr
  obtain ⟨y0, y1, y2, y3, rfl⟩ := arr4 hl2
  have z0 := (hys 0 _ y0 rfl rfl).intV
  have z1 := (hys 1 _ y1 rfl rfl).intV
  have z2 := (hys 2 _ y2 rfl rfl).intV
  have z3 := (hys 3 _ y3 rfl rfl).intV
  have z4 := (hvs 2 _ v2 rfl rfl).boolV
  subst z0 z1 z2 z3 z4
  exact ⟨A1', n1', c1', A2', n2', c2', G1, he, hm1, k1, k2, hp1⟩
theorem ints_at {G : Gh} {w : World} {t : Tk} {l : List (List AV)} {v : Value} (h : V G w true (.sl t [.int .i64] l) v) : ∃ A c, v = .slice A l.length c ∧ l.length ≤ maxLen ∧ ∀ (k : Nat) (r : List AV), l[k]? = some r → ∃ b o wk, A = some ⟨b, o, none⟩ ∧ r = [.int .i64 wk] ∧ w.cell? ⟨b, o + k, none⟩ = some (.int .i64 wk) := by
 cases h with
 | slnil _ _ _ A c hA hm hn => exact ⟨A, c, rfl, by simp, fun k r hk => by simp at hk⟩
 | sl _ t zs es b o c u hr hc hm hb hi hsz hcell h =>
   refine ⟨_, c, rfl, by omega, fun k r hk => ?_⟩
   have hrow := hsz r (List.mem_of_getElem? hk)
   match r, hrow with
   | [], hrow => simp [okRow] at hrow
   | [x], hrow =>
     have hkx : isKind (.int .i64) x = true := by simpa [okRow] using hrow
     have hx : x = .int .i64 (intOf x) := by
      cases x <;> first | (simp [isKind] at hkx; done) | (simp [isKind] at hkx; subst hkx; rfl)
     have c0 := (hcell k 0 _ x hk rfl).1
     have v0 := h k 0 _ x hk rfl
     rw [hx] at v0
     rw [v0.intV] at c0
     exact ⟨b, o, intOf x, rfl, by rw [← hx], by simpa using c0⟩
   | _ :: _ :: _, hrow => simp [okRow] at hrow
theorem ints_cell {G : Gh} {w : World} {t : Tk} {l : List (List AV)} {A : Option Addr} {n c : Nat} (h : V G w true (.sl t [.int .i64] l) (.slice A n c)) (k : Nat) (r : List AV) (hk : l[k]? = some r) : ∃ b o wk, A = some ⟨b, o, none⟩ ∧ r = [.int .i64 wk] ∧ w.cell? ⟨b, o + k, none⟩ = some (.int .i64 wk) := by
 obtain ⟨A', c', he, _, h2⟩ := ints_at h
 injection he with h3 h4 h5
 subst h3
 exact h2 k r hk
end Go.Proofs.Gv
namespace Go.Proofs.Gv
open Go.RowKit Go.Shelf
attribute [local go_sem] Oper.semAt_some
structure ItAt (t : Tk) (B : Bs) (n0 : Nat) (rec : LoopState → Option Code → Loop) (sv lv : Value) (C : List Blk) (us ss : List (List AV)) (d : Int) (l0 o : List (List AV)) (A1 : Option Addr) (n1 c1 : Nat) (A2 : Option Addr) (n2 c2 : Nat) (ov : Value) (W : World) (G : Gh) : Prop where
 mem : Mem B C W G
 hn0 : B.w0.heap.size = n0
 v1 : V G W true (.sl .imm [.int .i64] us) (.slice A1 n1 c1)
 v2 : V G W true (.sl .imm [.int .i64] ss) (.slice A2 n2 c2)
 vl : V G W true (.sl t [.int .i64] l0) lv
 q : W.heap[n0]? = some (.cells #[.slice A1 n1 c1, .slice A2 n2 c2, .int .i64 d] 39 (0, 0))
 p : W.heap[n0 + 3]? = some (.cells #[.slice A1 n1 c1, .slice A2 n2 c2, .int .i64 d] 39 (0, 0))
 cs : W.heap[n0 + 4]? = some (.cells #[sv] 27 (0, 0))
 cl : W.heap[n0 + 5]? = some (.cells #[lv] 22 (0, 0))
 run : RunAt n0 rec o ov W
 fr : ∀ b, n0 ≤ b → b < n0 + 8 → G.own b = .ext
 ho : ∀ g, ov.ownBlock = some g → G.own g = .ext
 new : ∀ b, W.heap.size ≤ b → G.own b = .ext
theorem told_new {W : World} {n : Nat} {o : Obj} (h : W.heap.size = n) : (W.alloc o).heap[n]? = some o := by subst h; exact World.alloc_heap_new W o
abbrev wS (W1 : World) (n0 : Nat) (x y : Obj) (v1 v2 v3 : Value) : World := ((((W1.alloc x).alloc y).setCell ⟨n0 + 3, 0, none⟩ v1).setCell ⟨n0 + 3, 1, none⟩ v2).setCell ⟨n0 + 3, 2, none⟩ v3
theorem past_box {t : Tk} {B : Bs} {n0 : Nat} {rec : LoopState → Option Code → Loop} {sv lv : Value} {C : List Blk} {us ss : List (List AV)} {d : Int} {l0 o : List (List AV)} {A1 : Option Addr} {n1 c1 : Nat} {A2 : Option Addr} {n2 c2 : Nat} {ov : Value} {W W1 : World} {G G1 : Gh} (hI : ItAt t B n0 rec sv lv C us ss d l0 o A1 n1 c1 A2 n2 c2 ov W G) (hp : Past W W1 G G1) :
  n0 + 8 ≤ W1.heap.size ∧
   (∀ x y, ((W1.alloc x).alloc y).cell? ⟨n0 + 3, 0, none⟩ = some (.slice A1 n1 c1)) ∧ (∀ x y, ((W1.alloc x).alloc y).frozen? ⟨n0 + 3, 0, none⟩ = false) ∧
   (∀ x y, ((W1.alloc x).alloc y).cell? ⟨n0 + 3, 1, none⟩ = some (.slice A2 n2 c2)) ∧ (∀ x y, ((W1.alloc x).alloc y).frozen? ⟨n0 + 3, 1, none⟩ = false) ∧
   (∀ x y, ((W1.alloc x).alloc y).cell? ⟨n0 + 3, 2, none⟩ = some (.int .i64 d)) ∧ (∀ x y, ((W1.alloc x).alloc y).frozen? ⟨n0 + 3, 2, none⟩ = false) ∧
   (∀ x y v1 v2 v3, (wS W1 n0 x y v1 v2 v3).heap[n0 + 3]? = some (.cells #[v1, v2, v3] 39 (0, 0))) ∧ (∀ x y v1 v2 v3, Chg (fun b => b = n0 + 3) W1 (wS W1 n0 x y v1 v2 v3)) := by
 have e3 := (hp.ext (heap_lt hI.p) (hI.fr _ (by omega) (by omega))).2.trans hI.p
 have h7 := heap_lt hI.run.lp
 have hs := hp.size
 have h : ∀ x y, ((W1.alloc x).alloc y).heap[n0 + 3]? = some (.cells #[.slice A1 n1 c1, .slice A2 n2 c2, .int .i64 d] 39 (0, 0)) := fun x y => (Below.heap_alloc _ _ _ (Nat.lt_of_lt_of_le (heap_lt e3) (by simp))).trans ((Below.heap_alloc _ _ _ (heap_lt e3)).trans e3)
 exact ⟨by omega, fun x y => (cells_at (h x y) 0).1, fun x y => (cells_at (h x y) 0).2, fun x y => (cells_at (h x y) 1).1, fun x y => (cells_at (h x y) 1).2, fun x y => (cells_at (h x y) 2).1, fun x y => (cells_at (h x y) 2).2, fun x y v1 v2 v3 => set3 v1 v2 v3 (h x y),
  fun x y v1 v2 v3 => ((Chg.alloc _ W1 x).trans (Chg.alloc _ _ y)).trans (Chg.set3 _ v1 v2 v3 rfl)⟩
theorem it_yield {t : Tk} {B : Bs} {n0 : Nat} {rec : LoopState → Option Code → Loop} {fn : FuncId} {u1 u2 u3 svv lvv fv : Value} (hrec : rec = fun st pe => { state := st, pending := pe, fn := fn, tmps := tmpsR n0 u1 u2 u3 svv lvv fv, params := #[15, 16], assign := asg, body := bod, defers := n0 + 6 })
  {sv lv : Value} {C C' : List Blk} {us ss us' ss' : List (List AV)} {d d' : Int} {l0 o x : List (List AV)} {A1 A2 A1' A2' : Option Addr} {n1 c1 n2 c2 n1' c1' n2' c2' : Nat} {ov : Value} {W W1 W2 : World} {G G1 : Gh} (hI : ItAt t B n0 rec sv lv C us ss d l0 o A1 n1 c1 A2 n2 c2 ov W G) (hp : Past W W1 G G1)
  (hm1 : Mem B C' W1 G1) (hv1 : V G1 W1 true (.sl .imm [.int .i64] us') (.slice A1' n1' c1')) (hv2 : V G1 W1 true (.sl .imm [.int .i64] ss') (.slice A2' n2' c2')) (hC2 : Chg (fun b => b = n0 + 3) W1 W2) (hb : W2.heap[n0 + 3]? = some (.cells #[.slice A1' n1' c1', .slice A2' n2' c2', .int .i64 d'] 39 (0, 0)))
  {told : Value} (ht : ToldAt n0 W2 told x) (hlen : o.length ≤ 1000000) (m : Nat) (hfn : Fence.wide.fn fn) :
  YieldAt Fence.wide m Try.prog (n0 + 7) #[.agg #[.slice A1' n1' c1', .slice A2' n2' c2', .int .i64 d'], told] W2 fun e W' => e = .returned (.bool true) ∧ ∃ ov', ItAt t B n0 rec sv lv C' us' ss' d' l0 (o ++ x) A1' n1' c1' A2' n2' c2' ov' W' G1 := by
 have hfr1 : ∀ b, n0 ≤ b → b < n0 + 8 → b < W.heap.size ∧ G1.own b = .ext ∧ W1.heap[b]? = W.heap[b]? := fun b h1 h2 => by
  have h7 := heap_lt hI.run.lp
  exact ⟨by omega, hp.ext (by omega) (hI.fr b h1 h2)⟩
 have hs := hp.size
 have h7 := heap_lt hI.run.lp
 have k : ∀ b, n0 ≤ b → b < n0 + 8 → b ≠ n0 + 3 → W2.heap[b]? = W.heap[b]? := fun b h1 h2 h3 => (hC2.heap b (by omega) h3).trans (hfr1 b h1 h2).2.2
 have hg1 : ∀ g, ov.ownBlock = some g → n0 + 8 ≤ g ∧ g < W.heap.size ∧ G1.own g = .ext ∧ W2.heap[g]? = W.heap[g]? := fun g hg => by
  have h1 := own_ge hI.run.row hg
  have h2 := hp.ext h1.2 (hI.ho g hg)
  exact ⟨h1.1, h1.2, h2.1, (hC2.heap g (by omega) (by omega)).trans h2.2⟩
 have R2 : RunAt n0 rec o ov W2 := by
  obtain ⟨x1, x2, x3, hx⟩ := hI.run.p
  obtain ⟨z1, z2, z3, hz⟩ := hI.run.res
  exact ⟨⟨x1, x2, x3, (k n0 (by omega) (by omega) (by omega)).trans hx⟩, ⟨z1, z2, z3, (k _ (by omega) (by omega) (by omega)).trans hz⟩, (k _ (by omega) (by omega) (by omega)).trans hI.run.out, own_keep hI.run.row fun g hg => (hg1 g hg).2.2.2, (k _ (by omega) (by omega) (by omega)).trans hI.run.df, (k _ (by omega) (by omega) (by omega)).trans hI.run.lp⟩
 refine YieldAt.mono (round_in Fence.wide m hfn hrec R2 ht hlen) ?_
 rintro e W3 ⟨he, ov', hR, hb0, hchg, hov⟩
 refine ⟨he, ov', ?_⟩
 have hsz2 := hC2.size
 have hsz3 := hchg.size
 have t1 : Turn B.w0.heap.size G1 W1 W2 := hC2.turn (fun b _ hb => by subst hb; exact ⟨by rw [hI.hn0]; omega, (hfr1 _ (by omega) (by omega)).2.1⟩) (by rw [hI.hn0]; omega)
 have t2 : Turn B.w0.heap.size G1 W2 W3 := hchg.turn (fun b _ hb => by
  rcases hb with rfl | rfl | rfl | hb
  ·exact ⟨by rw [hI.hn0]; omega, (hfr1 _ (by omega) (by omega)).2.1⟩
  ·exact ⟨by rw [hI.hn0]; omega, (hfr1 _ (by omega) (by omega)).2.1⟩
  ·exact ⟨by rw [hI.hn0]; omega, (hfr1 _ (by omega) (by omega)).2.1⟩
  ·have := hg1 b hb.symm
   exact ⟨by rw [hI.hn0]; omega, this.2.2.1⟩) (by rw [hI.hn0]; omega)
 have t12 := t1.trans t2
 have nt : ∀ j, 3 ≤ j → j < 7 → ¬ turnsR n0 ov (n0 + j) := by
  intro j h1 h2 h
  rcases h with h | h | h | h
  ·omega
  ·omega
  ·omega
  ·have := hg1 _ h.symm; omega
 refine ⟨hm1.turn t12, hI.hn0, hv1.turn t12, hv2.turn t12, (hI.vl.upd hp.stay (fun s hs => by cases hs)).turn t12, hb0, (hchg.heap _ (by omega) (nt 3 (by omega) (by omega))).trans hb, (hchg.heap _ (by omega) (nt 4 (by omega) (by omega))).trans ((k _ (by omega) (by omega) (by omega)).trans hI.cs), (hchg.heap _ (by omega) (nt 5 (by omega) (by omega))).trans ((k _ (by omega) (by omega) (by omega)).trans hI.cl), hR, fun b h1 h2 => (hfr1 b h1 h2).2.1, fun g hg => ?_, fun b hb => hp.new b (by omega)⟩
 rcases hov g hg with h | h
 ·exact (hg1 g h).2.2.1
 ·exact hp.new g (by omega)
set_option maxRecDepth 100000 in
set_option maxHeartbeats 4000000 in
theorem iter_in {t : Tk} (m : Nat) (h1 : 1 ≤ m) {Γ : Gam} (hΓ : GamOK Try.prog Γ) {B : Bs} {s : AV} {sv : Value} (hs : PtrOK B s sv) {n0 : Nat} {rec : LoopState → Option Code → Loop} {fn : FuncId} {u1 u2 u3 svv lvv fv : Value} (hfn : Fence.wide.fn fn) (hrec : rec = fun st pe => { state := st, pending := pe, fn := fn, tmps := tmpsR n0 u1 u2 u3 svv lvv fv, params := #[15, 16], assign := asg, body := bod, defers := n0 + 6 })
  {C : List Blk} (hC : B.m = C.length) {l : List (List AV)} (hl : l.length ≤ 1000000) {us ss : List (List AV)} {d : Int} {pf : List (List AV) × List (List AV) × Int} {O : List (List AV)} {D : List Blk} (hrun : runG Γ s l us ss d C = some (pf, O, D)) {lv : Value}
  {A1 : Option Addr} {n1 c1 : Nat} {A2 : Option Addr} {n2 c2 : Nat} {ov : Value} {W : World} {G : Gh} (hI : ItAt t B n0 rec sv lv C us ss d l [] A1 n1 c1 A2 n2 c2 ov W G) :
  CallsIn Fence.wide m Try.prog 93 #[.func (.yield (n0 + 7)) #[] #[], .pointer (some ⟨n0 + 5, 0, none⟩), .pointer (some ⟨n0 + 3, 0, none⟩), .pointer (some ⟨n0 + 4, 0, none⟩)] W fun e W' => (∃ v, e = .returned v) ∧
   ∃ A1' n1' c1' A2' n2' c2' ov' G', ItAt t B n0 rec sv lv D pf.1 pf.2.1 pf.2.2 l O A1' n1' c1' A2' n2' c2' ov' W' G' := by
 obtain ⟨pa, rfl⟩ := hs.ptr
 obtain ⟨AL, cL, rfl, hlm, hcell⟩ := ints_at hI.vl
 refine callsIn_of_wp Try.func93 rfl trivial ?_ rfl
 simp only [Try.ntmps93, List.size_toArray, List.length_cons, List.length_nil, Nat.reduceAdd, Nat.reduceSub, Array.replicate_succ, Array.replicate_zero, List.push_toArray, List.append_toArray, List.nil_append, List.cons_append]
 have hl0 := (cells_at hI.cl 0).1
 simp only [List.getElem?_toArray, List.getElem?_cons_zero] at hl0
 have hmx : maxLen = 9223372036854775807 := rfl
 gi_wp2
 gi_loopw [13] (fun i wr => ∃ (k : Nat) (us ss : List (List AV)) (d : Int) (C : List Blk) (o o2 : List (List AV)) (A1 : Option Addr) (n1 c1 : Nat) (A2 : Option Addr) (n2 c2 : Nat) (ov : Value) (G : Gh), i = .int .i64 k ∧ k ≤ l.length ∧ o.length ≤ k ∧ B.m = C.length ∧ runG Γ s (l.drop k) us ss d C = some (pf, o2, D) ∧ O = o ++ o2 ∧
   ItAt t B n0 rec (.pointer pa) (.slice AL l.length cL) C us ss d l o A1 n1 c1 A2 n2 c2 ov wr G)
  (fun i _ => l.length - (Go.RowKit.intOf i).toNat)
 case atStart => exact ⟨0, us, ss, d, C, [], O, A1, n1, c1, A2, n2, c2, ov, G, rfl, Nat.zero_le _, Nat.le_refl _, hC, hrun, rfl, hI⟩
 case round =>
  clear hI hrun hC
  obtain ⟨k, us, ss, d, C, o, o2, A1, n1, c1, A2, n2, c2, ov, G, rfl, hk, hok, hC, hrun, hO, hI⟩ := hrel
  by_cases hlt : k < l.length
  ·rw [List.drop_eq_getElem_cons hlt] at hrun
   obtain ⟨us', ss', d', a, b, e, f, is, C', o3, h39, hrun', rfl, hlen'⟩ := runG_cons hrun
   obtain ⟨bL, oL, wk, rfl, hr, hcw⟩ := ints_cell hI.vl k l[k] (List.getElem?_eq_getElem hlt)
   rw [hr] at h39
   have h39 : Γ 39 [pA us ss d, s, .int .i64 wk] C = some (true, .tup [pA us' ss' d', xA a b e f, .bool is], C') := h39
   have hp0 := (cells_at hI.p 0).1; have hp1 := (cells_at hI.p 1).1; have hp2 := (cells_at hI.p 2).1
   have hs0 := (cells_at hI.cs 0).1
   simp only [List.getElem?_toArray, List.getElem?_cons_zero, List.getElem?_cons_succ] at hp0 hp1 hp2 hs0
   have hw := work_in hΓ hs hC h39 hI.mem hI.v1 hI.v2
   have hF39 : Fence.wide.fn 39 := trivial
   cases is
   ·gi_wp2_with (gi_at_call 39; refine (callsIn_wide.2 hw).mono ?_; rintro en W1 ⟨A1', n1', c1', A2', n2', c2', G1, rfl, hm1, hv1, hv2, hpast⟩; obtain ⟨hb8, q0, q0f, q1, q1f, q2, q2f, hbox, hchg⟩ := past_box hI hpast; have z0 := fun x y z v1 v2 v3 => (cells_at ((Below.heap_alloc _ z _ (heap_lt (hbox x y v1 v2 v3))).trans (hbox x y v1 v2 v3)) 0).1; have z1 := fun x y z v1 v2 v3 => (cells_at ((Below.heap_alloc _ z _ (heap_lt (hbox x y v1 v2 v3))).trans (hbox x y v1 v2 v3)) 1).1; have z2 := fun x y z v1 v2 v3 => (cells_at ((Below.heap_alloc _ z _ (heap_lt (hbox x y v1 v2 v3))).trans (hbox x y v1 v2 v3)) 2).1; simp only [List.getElem?_toArray, List.getElem?_cons_zero, List.getElem?_cons_succ] at z0 z1 z2; obtain ⟨fn', tmps', assign', body', hy, hR⟩ := it_yield hrec hI hpast hm1 hv1 hv2 (hchg (.cells #[.slice A1' n1' c1', .slice A2' n2' c2', .int .i64 d'] 39) (.cells #[.int .i64 a, .int .i64 b, .int .i64 e, .int .i64 f] 52) (.slice A1' n1' c1') (.slice A2' n2' c2') (.int .i64 d')) (hbox _ _ _ _ _) (told := .slice none 0 0) (x := []) (.inl ⟨rfl, rfl⟩) (by omega) (m - 1) hfn; dsimp only [wS] at hy hR; clear hrec)
    refine hR.mono ?_
    rintro en W3 ⟨rfl, ov', hI3⟩
    gi_wp2
    go_roundw
    case rel => exact ⟨k + 1, us', ss', d', unk C C', _, o3, _, _, _, _, _, _, ov', G1, by simp, by omega, by simp <;> omega, hC.trans hlen'.symm, hrun', by rw [hO, List.append_assoc]; rfl, hI3⟩
    case measure => simp [Go.RowKit.intOf]; omega
   ·gi_wp2_with (gi_at_call 39; refine (callsIn_wide.2 hw).mono ?_; rintro en W1 ⟨A1', n1', c1', A2', n2', c2', G1, rfl, hm1, hv1, hv2, hpast⟩; obtain ⟨hb8, q0, q0f, q1, q1f, q2, q2f, hbox, hchg⟩ := past_box hI hpast; have z0 := fun x y z v1 v2 v3 => (cells_at ((Below.heap_alloc _ z _ (heap_lt (hbox x y v1 v2 v3))).trans (hbox x y v1 v2 v3)) 0).1; have z1 := fun x y z v1 v2 v3 => (cells_at ((Below.heap_alloc _ z _ (heap_lt (hbox x y v1 v2 v3))).trans (hbox x y v1 v2 v3)) 1).1; have z2 := fun x y z v1 v2 v3 => (cells_at ((Below.heap_alloc _ z _ (heap_lt (hbox x y v1 v2 v3))).trans (hbox x y v1 v2 v3)) 2).1; simp only [List.getElem?_toArray, List.getElem?_cons_zero, List.getElem?_cons_succ] at z0 z1 z2; obtain ⟨fn', tmps', assign', body', hy, hR⟩ := it_yield hrec hI hpast hm1 hv1 hv2 ((hchg (.cells #[.slice A1' n1' c1', .slice A2' n2' c2', .int .i64 d'] 39) (.cells #[.int .i64 a, .int .i64 b, .int .i64 e, .int .i64 f] 52) (.slice A1' n1' c1') (.slice A2' n2' c2') (.int .i64 d')).trans (Chg.alloc _ _ (.cells #[.int .i64 a, .int .i64 b, .int .i64 e, .int .i64 f] 52))) ((Below.heap_alloc _ _ _ (heap_lt (hbox _ _ _ _ _))).trans (hbox _ _ _ _ _)) (told := .slice (some ⟨W1.heap.size + 1 + 1, 0, none⟩) 1 1) (x := [[.int .i64 a, .int .i64 b, .int .i64 e, .int .i64 f]]) (.inr ⟨_, _, a, b, e, f, rfl, rfl, by omega, 52, told_new (by simp [World.setCell])⟩) (by omega) (m - 1) hfn; dsimp only [wS] at hy hR; clear hrec)
    refine hR.mono ?_
    rintro en W3 ⟨rfl, ov', hI3⟩
    gi_wp2
    go_roundw
    case rel => exact ⟨k + 1, us', ss', d', unk C C', _, o3, _, _, _, _, _, _, ov', G1, by simp, by omega, by simp <;> omega, hC.trans hlen'.symm, hrun', by rw [hO, List.append_assoc]; rfl, hI3⟩
    case measure => simp [Go.RowKit.intOf]; omega
  ·obtain rfl : k = l.length := by omega
   gi_wp2
   go_end0
   rw [List.drop_length] at hrun
   unfold runG at hrun
   injection hrun with hrun
   injection hrun with e1 hrun
   injection hrun with e2 e3
   subst e1 e2 e3
   rw [hO, List.append_nil]
   exact ⟨⟨_, rfl⟩, _, _, _, _, _, _, _, _, hI⟩
end Go.Proofs.Gv
namespace Go.Proofs.Gv
open Go.RowKit Go.Shelf
attribute [local go_sem] Oper.semAt_some
theorem range_own {P : Program} {g : Operand} {ps : Array Tmp} {assign body : Code} {Q : Exit → Act → World → Prop} {a : Act} {w : World} {n : Nat} (h1 : 1 ≤ n) {gf : Nat} {lb : Array Value} (hg : a.eval g = .func (.func gf) #[] lb) (eg : ∀ args w, (callFunc gf args).run P w = .ok (.enter gf args) w)
  {R : World → Prop} (hcall : ∀ (fn : FuncId) (rec : LoopState → Option Code → Loop), rec = (fun st pe => { state := st, pending := pe, fn := fn, tmps := a.tmps, params := ps, assign := assign, body := body, defers := w.heap.size }) →
   CallsIn Fence.wide (n - 1) P gf (#[.func (.yield (w.heap.size + 1)) #[] #[]] ++ lb) ((w.alloc (.deferred (some []))).alloc (.loop (rec .ready none))) fun e W2 => (∃ v, e = .returned v) ∧ W2.heap[w.heap.size + 1]? = some (.loop (rec .ready none)) ∧ R W2)
  (hdone : ∀ (W2 : World) (o : Obj), R W2 → Q .normal { a with defers := { target := .collected w.heap.size, args := #[] } :: a.defers } (W2.putObj (w.heap.size + 1) o)) :
  (Code.rangeFunc g ps assign body).wpIn Fence.wide n P Q a w := by
 refine wpIn_rangeFunc ?_
 intro fn hfn
 obtain ⟨rec, hrec⟩ : ∃ rec : LoopState → Option Code → Loop, rec = fun st pe => { state := st, pending := pe, fn := fn, tmps := a.tmps, params := ps, assign := assign, body := body, defers := w.heap.size } := ⟨_, rfl⟩
 refine ⟨w.heap.size + 1, [{ target := .collected w.heap.size, args := #[] }], (w.alloc (.deferred (some []))).alloc (.loop (rec .ready none)), { target := .fn (.func gf) lb, args := #[.func (.yield (w.heap.size + 1)) #[] #[]] }, (w.alloc (.deferred (some []))).alloc (.loop (rec .ready none)), gf,
  #[.func (.yield (w.heap.size + 1)) #[] #[]] ++ lb, (w.alloc (.deferred (some []))).alloc (.loop (rec .ready none)), ?_, ?_, ?_, ?_, fun _ => h1, ?_⟩
 ·rw [hrec]; exact run_enterLoop_outer _ _ _ _ _
 ·simp only [resolve, hg]
  simp [go_sem]
 ·intro f' _; trivial
 ·simp [invoke, go_sem, eg]
 ·refine (hcall fn rec hrec).mono ?_
  rintro e W2 ⟨⟨v, rfl⟩, hl, hr⟩
  exact ⟨none, _, by have := run_endLoop (P := P) hl (by rw [hrec]; simp); rw [hrec] at this; exact this, hdone _ _ hr⟩
theorem FnOK.grows {P : Program} {f : FuncId} {T : List AV} {outs : List Blk} {r : AV} (h : FnOK P f T [] r outs) {w : World} {G : Gh} (hnew : ∀ b, w.heap.size ≤ b → G.own b = .ext) {vals : Array Value} (hl : T.length = vals.size) (hv : ∀ (i : Nat) (x : AV) (v : Value), T[i]? = some x → vals[i]? = some v → V G w true x v) (hT : ∀ x ∈ T, x.refs = []) (hr : r.refs = []) :
  Calls P f vals w fun e w' => ∃ v G', e = .returned v ∧ Grow w w' G G' ∧ V G' w' true r v ∧ (∀ b, w'.heap.size ≤ b → G'.own b = .ext) := by
 have hst : Stay G { own := fun b => match G.own b with | .box _ => .ext | o => o, nm := G.nm } w w := ⟨Nat.le_refl _, fun b t _ hi => ⟨by
  unfold Im at hi ⊢
  dsimp only
  rcases hi with hi | ⟨h1, hi⟩
  ·rw [hi]; exact .inl rfl
  ·rw [hi]; exact .inr ⟨h1, rfl⟩, rfl⟩⟩
 have hR : Rel ⟨w, fun b => match G.own b with | .box _ => .ext | o => o, ([] : List Blk).length, G.nm⟩ ⟨T, []⟩ { tmps := vals, defers := [] } w { own := fun b => match G.own b with | .box _ => .ext | o => o, nm := G.nm } :=
  ⟨rfl, hl, fun i x v hx hv' => (hv i x v hx hv').upd hst (fun s hs => by simp [hT x (List.mem_of_getElem? hx)] at hs), fun d k hk => by simp at hk, rfl, rfl, rfl, Nat.le_refl _, fun _ _ => rfl, fun _ _ _ => ⟨rfl, rfl⟩, fun _ h => h⟩
 refine (h _ vals w _ hR rfl rfl rfl rfl).mono fun e w' ⟨v, G', he, hr'⟩ => ?_
 have hold : ∀ b, b < w.heap.size → G'.own b = (match G.own b with | .box _ => .ext | o => o) ∧ w'.heap[b]? = w.heap[b]? := fun b hb => hr'.old b hb (fun k => by
  dsimp only
  cases hG : G.own b <;> simp)
 have hnl := hr'.nl
 dsimp only at hnl
 refine ⟨v, { own := fun b => if b < w.heap.size then G.own b else if b < w'.heap.size then (match G'.own b with | .imm => .imm | _ => .ext) else .ext, nm := G.nm }, he, ⟨hr'.os, hr'.tape, hr'.output, hr'.size, fun b hb => (hold b hb).2, fun b hb => if_pos hb, rfl, fun b hb => ?_⟩, ?_, fun b hb => ?_⟩
 ·dsimp only at hb
  split at hb
  ·exact hb
  ·split at hb
   ·split at hb <;> cases hb
   ·cases hb
 ·refine (hr'.vt 0 _ v rfl rfl).upd ⟨Nat.le_refl _, fun b t hb hi => ⟨?_, rfl⟩⟩ (fun s hs => by simp [hr] at hs)
  unfold Im at hi ⊢
  dsimp only
  by_cases hbw : b < w.heap.size
  ·rw [if_pos hbw]
   rw [(hold b hbw).1] at hi
   cases hG : G.own b <;> rw [hG] at hi <;> simp_all
  ·rw [if_neg hbw, if_pos hb]
   rcases hi with hi | ⟨h1, hi⟩
   ·rw [hi]; exact .inl rfl
   ·have := hnl b hi
    rw [hnew b (by omega)] at this
    cases this
 ·have := hr'.size
  dsimp only at this ⊢
  rw [if_neg (by omega), if_neg (by omega)]
theorem runG_rows {Γ : Gam} {s : AV} : ∀ {l us ss : List (List AV)} {d : Int} {C : List Blk} {p : List (List AV) × List (List AV) × Int} {O : List (List AV)} {D : List Blk}, runG Γ s l us ss d C = some (p, O, D) → ∀ r ∈ O, ∃ a b e f, r = [AV.int .i64 a, .int .i64 b, .int .i64 e, .int .i64 f] := by
 intro l
 induction l with
 | nil =>
   intro us ss d C p O D h r hr
   unfold runG at h
   injection h with h
   injection h with _ h
   injection h with h _
   subst h
   cases hr
 | cons x l ih =>
   intro us ss d C p O D h r hr
   obtain ⟨us', ss', d', a, b, e, f, is, C', o, _, h2, rfl, _⟩ := runG_cons h
   rcases List.mem_append.1 hr with hr | hr
   ·cases is
    ·cases hr
    ·exact ⟨a, b, e, f, by simpa [xR] using hr⟩
   ·exact ih h2 r hr
abbrev kindS4 : List Kd := [.int .i64, .int .i64, .int .i64, .int .i64]
theorem flV_get : ∀ (O : List (List AV)), (∀ r ∈ O, ∃ a b e f, r = [AV.int .i64 a, .int .i64 b, .int .i64 e, .int .i64 f]) → ∀ (i j : Nat) (e : List AV) (x : AV), O[i]? = some e → e[j]? = some x → j < 4 ∧ (flV O)[i * 4 + j]? = some (vI x) ∧ ∃ n, x = .int .i64 n := by
 intro O
 induction O with
 | nil => intro _ i j e x h; simp at h
 | cons r O ih =>
   intro hO i j e x hi hj
   obtain ⟨a, b, e', f, hr⟩ := hO r (by simp)
   have hfl : flV (r :: O) = [Value.int .i64 a, .int .i64 b, .int .i64 e', .int .i64 f] ++ flV O := by rw [hr]; rfl
   rw [hfl]
   match i, hi with
   | 0, hi =>
     have he : e = [AV.int .i64 a, .int .i64 b, .int .i64 e', .int .i64 f] := by simpa [hr] using hi.symm
     subst he
     match j, hj with
     | 0, hj => cases hj; exact ⟨by omega, by simp [vI], _, rfl⟩
     | 1, hj => cases hj; exact ⟨by omega, by simp [vI], _, rfl⟩
     | 2, hj => cases hj; exact ⟨by omega, by simp [vI], _, rfl⟩
     | 3, hj => cases hj; exact ⟨by omega, by simp [vI], _, rfl⟩
     | j + 4, hj => simp at hj
   | i + 1, hi =>
     obtain ⟨h1, h2, h3⟩ := ih (fun r hr => hO r (by simp [hr])) i j e x (by simpa using hi) hj
     refine ⟨h1, ?_, h3⟩
     rw [List.getElem?_append_right (by simp; omega)]
     rw [← h2]
     congr 1
     simp
     omega
theorem row_v {w : World} {n0 : Nat} {ov : Value} {O : List (List AV)} (h : w.ownsRow n0 52 4 ov O.length (flV O)) (hO : ∀ r ∈ O, ∃ a b e f, r = [AV.int .i64 a, .int .i64 b, .int .i64 e, .int .i64 f]) {G : Gh} (hi : ∀ g, ov.ownBlock = some g → G.own g = .imm) : V G w true (.sl .imm kindS4 O) ov := by
 rcases h.2 with ⟨rfl, h0⟩ | ⟨g, cap, cur, rfl, h1, h2, h3, h4, h5, h6⟩
 ·obtain rfl : O = [] := List.length_eq_zero_iff.1 h0
  exact .slnil _ _ _ _ _ (by intros; rfl) (by simp) (by simp)
 ·have hz : ∀ (i j : Nat) (e : List AV) (x : AV), O[i]? = some e → e[j]? = some x → ∃ n, x = .int .i64 n ∧ cur[i * 4 + j]? = some (.int .i64 n) := by
   intro i j e x hi' hj
   obtain ⟨k1, k2, n, rfl⟩ := flV_get O hO i j e x hi' hj
   have hlt : i < O.length := (List.getElem?_eq_some_iff.1 hi').1
   refine ⟨n, rfl, ?_⟩
   rw [← h6, List.getElem?_take_of_lt (by omega)] at k2
   rw [← Array.getElem?_toList]
   exact k2
  refine .sl _ _ _ _ g 0 cap (fun i j => cur.getD (i * 4 + j) undef) (fun h => by cases h) h3 h4 (heap_lt h2) (.inl (hi g rfl)) (fun e he => ?_) (fun i j e x h7 h8 => ?_) (fun i j e x h7 h8 => ?_)
  ·obtain ⟨a, b, e', f, rfl⟩ := hO e he
   rfl
  ·obtain ⟨n, rfl, h9⟩ := hz i j e x h7 h8
   have := (cells_at h2 (0 + i * 4 + j)).1
   have hu : cur.getD (i * 4 + j) undef = .int .i64 n := by simp [Array.getD_eq_getD_getElem?, h9]
   rw [hu]
   refine ⟨?_, rfl⟩
   show w.cell? ⟨g, 0 + i * 4 + j, none⟩ = _
   rw [this, Nat.zero_add]
   exact h9
  ·obtain ⟨n, rfl, h9⟩ := hz i j e x h7 h8
   have hu : cur.getD (i * 4 + j) undef = .int .i64 n := by simp [Array.getD_eq_getD_getElem?, h9]
   rw [hu]
   exact .int _ _ _
end Go.Proofs.Gv
namespace Go.Proofs.Gv
open Go.RowKit Go.Shelf
attribute [local go_sem] Oper.semAt_some
theorem wpIn_calm {F : Fence} {n : Nat} {P : Program} {c : Code} {K : Act → World → Prop} {Q : Exit → Act → World → Prop} {a : Act} {w : World} (h : c.wpIn F n P (Exit.then K (fun _ _ _ => False)) a w) : c.wpIn F n P (Exit.then K Q) a w :=
 wpIn_mono h fun e a w h => by
  cases e with
  | normal => exact h
  | _ => exact False.elim h
theorem past {W : World} {n : Nat} {x o : Obj} (h : W.heap[n]? = some x) : (W.alloc o).heap[n]? = some x := (Below.heap_alloc _ _ _ (heap_lt h)).trans h
theorem init_at {tk : Tk} {B : Bs} {w : World} (hw : B.w0 = w) {G : Gh} {C : List Blk} (hM : Mem B C w G) (hnew : ∀ b, w.heap.size ≤ b → G.own b = .ext) {A1 A2 A3 : Option Addr} {n1 c1 n2 c2 n3 c3 : Nat} {d : Int} {sv z1 z2 z3 : Value} {us ss l : List (List AV)} (h1 : V G w true (.sl .imm [.int .i64] us) (.slice A1 n1 c1)) (h2 : V G w true (.sl .imm [.int .i64] ss) (.slice A2 n2 c2)) (h3 : V G w true (.sl tk [.int .i64] l) (.slice A3 n3 c3)) (rec : LoopState → Option Code → Loop) :
  ItAt tk B w.heap.size rec sv (.slice A3 n3 c3) C us ss d l [] A1 n1 c1 A2 n2 c2 (.slice none 0 0) ((((((((w.alloc (.cells #[.slice A1 n1 c1, .slice A2 n2 c2, .int .i64 d] 39)).alloc (.cells #[z1, z2, z3] 39)).alloc (.cells #[.slice none 0 0] 40)).alloc (.cells #[.slice A1 n1 c1, .slice A2 n2 c2, .int .i64 d] 39)).alloc (.cells #[sv] 27)).alloc (.cells #[.slice A3 n3 c3] 22)).alloc (.deferred (some []))).alloc (.loop (rec .ready none))) G := by
 have ch := (((((((Chg.alloc (fun _ => False) w (.cells #[.slice A1 n1 c1, .slice A2 n2 c2, .int .i64 d] 39)).trans (Chg.alloc _ _ (.cells #[z1, z2, z3] 39))).trans (Chg.alloc _ _ (.cells #[.slice none 0 0] 40))).trans (Chg.alloc _ _ (.cells #[.slice A1 n1 c1, .slice A2 n2 c2, .int .i64 d] 39))).trans (Chg.alloc _ _ (.cells #[sv] 27))).trans (Chg.alloc _ _ (.cells #[.slice A3 n3 c3] 22))).trans (Chg.alloc _ _ (.deferred (some [])))).trans (Chg.alloc _ _ (.loop (rec .ready none)))
 have t : Turn B.w0.heap.size G w _ := ch.turn (fun _ _ h => h.elim) (by rw [hw]; exact Nat.le_refl _)
 refine ⟨hM.turn t, by rw [hw], h1.turn t, h2.turn t, h3.turn t, ?_, ?_, ?_, ?_, ⟨⟨.slice A1 n1 c1, .slice A2 n2 c2, .int .i64 d, ?_⟩, ⟨z1, z2, z3, ?_⟩, ?_, World.ownsRow_nil _ _ _ _, ?_, ?_⟩, fun b hb _ => hnew b hb, fun g hg => (by cases hg), fun b hb => hnew b (Nat.le_trans ch.size hb)⟩
 ·exact past (past (past (past (past (past (past (told_new rfl)))))))
 ·exact past (past (past (past (told_new (by simp)))))
 ·exact past (past (past (told_new (by simp))))
 ·exact past (past (told_new (by simp)))
 ·exact past (past (past (past (past (past (past (told_new rfl)))))))
 ·exact past (past (past (past (past (past (told_new (by simp)))))))
 ·exact past (past (past (past (past (told_new (by simp))))))
 ·exact past (told_new (by simp))
 ·exact told_new (by simp)
theorem BlkOK.own {G : Gh} {w : World} {own' : Nat → Owner} (ho : ∀ b, G.own b ≠ .ext → own' b = G.own b) {d : Nat} {k : Blk} (h : BlkOK G w d k) : BlkOK { own := own', nm := G.nm } w d k := by
 have hx : ∀ {b q : Nat}, G.own b = .box q → own' b = G.own b := fun e => ho _ (by rw [e]; intro h; cases h)
 have g : Stay G { own := own', nm := G.nm } w w := ⟨Nat.le_refl _, fun b t hb hi => ⟨by
  have : own' b = G.own b := ho b (by
   unfold Im at hi
   rcases hi with hi | ⟨_, hi⟩ <;> (rw [hi]; intro e; cases e))
  unfold Im at hi ⊢
  dsimp only
  rw [this]
  exact hi, rfl⟩⟩
 cases k with
 | dead => trivial
 | var cs =>
   obtain ⟨p, h1, h2, h3⟩ := h
   exact ⟨p, h1, h2, h3.upd g (hx h3.1) rfl fun _ _ _ q _ => rfl⟩
 | tbl zs es pd =>
   obtain ⟨h1, p, h2, h3⟩ := h
   exact ⟨h1, p, h2, h3.stays g (fun b hb hh => ⟨(hx hh).trans hh, rfl⟩) (fun k q _ => rfl)⟩
 | row zs es =>
   obtain ⟨h1, h2, h3, h4⟩ := h
   refine ⟨h1, h2, h3, ?_⟩
   rcases h4 with ⟨h4, h5⟩ | ⟨p, h4, h5, h6⟩
   ·exact .inl ⟨h4, h5⟩
   ·exact .inr ⟨p, h4, h5, h6.flat g (hx h6.1) rfl⟩
theorem Mem.own {B : Bs} {C : List Blk} {w : World} {G : Gh} (h : Mem B C w G) {own' : Nat → Owner} (ho : ∀ b, G.own b ≠ .ext → own' b = G.own b) (hl : ∀ b, own' b = .lent → G.own b = .lent) (hb : ∀ b, b < B.w0.heap.size → own' b = G.own b) : Mem B C w { own := own', nm := G.nm } :=
 ⟨fun d k hk => (h.vb d k hk).own ho, h.os, h.tape, h.output, h.size, h.par, fun b hlt hn => ⟨(hb b hlt).trans (h.old b hlt hn).1, (h.old b hlt hn).2⟩, fun b hb => h.nl b (hl b hb)⟩
theorem Mem.grow {B : Bs} {C : List Blk} {w w' : World} {G G' : Gh} (h : Mem B C w G) (g : Grow w w' G G') : Mem B C w' G' :=
 ((h.rel (T := []) (vals := #[]) rfl (fun i x v hx => by simp at hx)).grow g).mem
theorem end17 {B : Bs} {n0 : Nat} (hw : B.w0.heap.size = n0) {D : List Blk} {u2 s2 : List (List AV)} {d2 : Int} {O : List (List AV)} (hO : ∀ r ∈ O, ∃ a b e f, r = [AV.int .i64 a, .int .i64 b, .int .i64 e, .int .i64 f]) {W3 W4 : World} {G' G4 : Gh} {ov : Value} {B1 B2 : Option Addr} {m1 k1 m2 k2 : Nat} {z1 z2 z3 : Value}
  (hM : Mem B D W3 G') (hg : Grow W3 W4 G' G4) (hfr : ∀ b, n0 ≤ b → b < n0 + 8 → G'.own b = .ext) (hho : ∀ g, ov.ownBlock = some g → G'.own g = .ext) (hrow : W3.ownsRow (n0 + 8) 52 4 ov O.length (flV O)) (hz : W3.heap[n0 + 1]? = some (.cells #[z1, z2, z3] 39 (0, 0))) (hdf : W3.heap[n0 + 6]? = some (.deferred (some []))) (hs : n0 + 8 ≤ W3.heap.size)
  (w1 : V G4 W4 true (.sl .imm [.int .i64] u2) (.slice B1 m1 k1)) (w2 : V G4 W4 true (.sl .imm [.int .i64] s2) (.slice B2 m2 k2)) {a : Act} (h6 : a.tmps.getD 6 undef = .pointer (some ⟨n0 + 1, 0, none⟩)) (h7 : a.tmps.getD 7 undef = ov) (hd : a.defers = [{ target := .collected (n0 + 6), args := #[] }]) :
  bodyPostM Fence.wide 3 Try.prog Try.f17 (fun e w' => ∃ v G', e = .returned v ∧ Rel B ⟨[.tup [pA u2 s2 d2, .sl .imm kindS4 O]], D⟩ { tmps := #[v], defers := [] } w' G') .ret a (((W4.setCell ⟨n0 + 1, 0, none⟩ (.slice B1 m1 k1)).setCell ⟨n0 + 1, 1, none⟩ (.slice B2 m2 k2)).setCell ⟨n0 + 1, 2, none⟩ (.int .i64 d2)) := by
 have hz4 := (hg.heap _ (heap_lt hz)).trans hz
 have hz5 := set3 (.slice B1 m1 k1) (.slice B2 m2 k2) (.int .i64 d2) hz4
 have c5 := Chg.set3 (S := fun b => b = n0 + 1) W4 (.slice B1 m1 k1) (.slice B2 m2 k2) (.int .i64 d2) rfl
 generalize ((W4.setCell ⟨n0 + 1, 0, none⟩ (.slice B1 m1 k1)).setCell ⟨n0 + 1, 1, none⟩ (.slice B2 m2 k2)).setCell ⟨n0 + 1, 2, none⟩ (.int .i64 d2) = W5 at hz5 c5 ⊢
 have hdf5 := c5.at' ((hg.heap _ (heap_lt hdf)).trans hdf) (by omega)
 have c6 := Chg.put (S := fun b => b = n0 + 6) W5 (l := n0 + 6) (.deferred none) rfl
 show LeavesInM _ _ _ _ a.tmps _ a.defers _ _
 rw [hd]
 have hs4 := hg.size
 have hs5 := c5.size
 have hs6 := c6.size
 have hx4 : ∀ b, n0 ≤ b → b < n0 + 8 → G4.own b = .ext := fun b h1 h2 => (hg.own b (by omega)).trans (hfr b h1 h2)
 have t5 : Turn B.w0.heap.size G4 W4 W5 := c5.turn (fun b _ hb => by subst hb; exact ⟨by omega, hx4 _ (by omega) (by omega)⟩) (by omega)
 have t6 := t5.trans (c6.turn (fun b _ hb => by subst hb; exact ⟨by omega, hx4 _ (by omega) (by omega)⟩) (by omega))
 have hz6 := c6.at' hz5 (by omega)
 have hgb : ∀ g, ov.ownBlock = some g → n0 + 8 ≤ g ∧ g < W3.heap.size ∧ G4.own g = .ext := fun g hg' => by
  have h1 := own_ge hrow hg'
  exact ⟨h1.1, h1.2, (hg.own g h1.2).trans (hho g hg')⟩
 have hrow6 : (W5.putObj (n0 + 6) (.deferred none)).ownsRow (n0 + 8) 52 4 ov O.length (flV O) := own_keep hrow fun g hg' => by
  have h1 := hgb g hg'
  exact ((c6.heap g (by omega) (by omega)).trans (c5.heap g (by omega) (by omega))).trans (hg.heap g h1.2.1)
 refine ⟨by simp, .inl ⟨_, _, rfl, run_takeDeferred hdf5, ?_⟩⟩
 generalize W5.putObj (n0 + 6) (.deferred none) = W6 at *
 have hres : (results Try.f17 a.tmps).run Try.prog W6 = .ok (.tuple #[.agg #[.slice B1 m1 k1, .slice B2 m2 k2, .int .i64 d2], ov]) W6 := by
  rw [results_cell_tmp rfl, h6, h7]
  have q0 := cells_at hz6 0; have q1 := cells_at hz6 1; have q2 := cells_at hz6 2
  simp only [List.getElem?_toArray, List.getElem?_cons_zero, List.getElem?_cons_succ] at q0 q1 q2
  obtain ⟨q0, -⟩ := q0; obtain ⟨q1, -⟩ := q1; obtain ⟨q2, -⟩ := q2
  simp [go_sem, loadVar, q0, q1, q2]
 refine ⟨_, hres, ?_⟩
 have ho' : ∀ b, G4.own b ≠ .ext → (if ov.ownBlock = some b then .imm else G4.own b) = G4.own b := fun b hb => if_neg fun e => hb (hgb b e).2.2
 have hst : Stay G4 { own := fun b => if ov.ownBlock = some b then .imm else G4.own b, nm := G4.nm } W6 W6 := ⟨Nat.le_refl _, fun b t hb hi => ⟨by
  have : G4.own b ≠ .ext := by
   unfold Im at hi
   rcases hi with hi | ⟨_, hi⟩ <;> (rw [hi]; intro e; cases e)
  unfold Im at hi ⊢
  dsimp only
  rw [ho' b this]
  exact hi, rfl⟩⟩
 have hM6 := ((hM.grow hg).turn t6).own (own' := fun b => if ov.ownBlock = some b then .imm else G4.own b) ho' (fun b hb => by
  split at hb
  ·cases hb
  ·exact hb) (fun b hb => if_neg fun e => by have := (hgb b e).1; omega)
 refine ⟨_, _, rfl, hM6.rel rfl fun i x v hx hv => ?_⟩
 match i, hx, hv with
 | 0, hx, hv =>
   cases hx; cases hv
   refine .tup _ _ _ rfl fun i x v hx hv => ?_
   match i, hx, hv with
   | 0, hx, hv => cases hx; cases hv; exact (V.pool_mk (w1.turn t6) (w2.turn t6)).upd hst (fun s hs => by simp [AV.refs, AV.refsL] at hs)
   | 1, hx, hv => cases hx; cases hv; exact row_v hrow6 hO fun g hg' => if_pos hg'
set_option maxRecDepth 100000 in
set_option maxHeartbeats 4000000 in
theorem run17 {tk : Tk} {Γ : Gam} (hΓ : GamOK Try.prog Γ) {us ss l : List (List AV)} {d : Int} {s : AV} {C D : List Blk} {pf : List (List AV) × List (List AV) × Int} {O : List (List AV)} (hl : l.length ≤ 1000000) (hs : s = .nilp ∨ (s = .hp 0 0 ∧ 0 < C.length)) (hrun : runG Γ s l us ss d C = some (pf, O, D)) {u2 s2 : List (List AV)} {d2 : Int} (hown : FnOK Try.prog 56 [pA pf.1 pf.2.1 pf.2.2] [] (pA u2 s2 d2) []) :
  FnOK Try.prog 17 [pA us ss d, s, .sl tk [.int .i64] l] C (.tup [pA u2 s2 d2, .sl .imm kindS4 O]) D := by
 intro B vals w G hR hw hown0 hm hnm
 have hr := hR.grow (grow_cut w G)
 have hnew : ∀ b, w.heap.size ≤ b → (cutG w G).own b = .ext := fun b hb => by unfold cutG; dsimp only; rw [if_neg (by omega)]
 have hM := hr.mem
 obtain ⟨v0, v1, v2, rfl⟩ := arr3 hr.len
 obtain ⟨A1, n1, c1, A2, n2, c2, rfl, hv1, hv2⟩ := (hr.vt 0 _ v0 rfl rfl).pool
 have hsv : PtrOK B s v1 := by
  have h1 := hr.vt 1 _ v1 rfl rfl
  rcases hs with rfl | ⟨rfl, h0⟩
  ·cases h1; exact .inl ⟨rfl, rfl⟩
  ·cases h1
   rename_i p hp
   exact .inr ⟨rfl, by rw [hm]; exact h0, p, by rw [← hM.par 0 (by rw [hm]; exact h0)]; exact hp, rfl⟩
 have h3 := hr.vt 2 _ v2 rfl rfl
 obtain ⟨A3, n3, c3, rfl⟩ := h3.slV
 generalize cutG w G = G0 at hM hnew hv1 hv2 h3
 clear hr hR
 refine (callsIn_wide (n := 3)).1 ?_
 refine callsIn_of_wp_marks Try.func17 rfl trivial ?_ rfl
 simp only [Try.ntmps17, List.size_toArray, List.length_cons, List.length_nil, Nat.reduceAdd, Nat.reduceSub, Array.replicate_succ, Array.replicate_zero, List.push_toArray, List.append_toArray, List.nil_append, List.cons_append]
 obtain ⟨pa, rfl⟩ := hsv.ptr
 have hF55 : Fence.wide.fn 55 := trivial
 gi_wp2_with (gi_at_call 55; refine (all_in Fence.wide _ trivial rfl A1 A2 A3 n1 c1 n2 c2 n3 c3 d pa _).mono ?_; rintro e w' ⟨rfl, rfl⟩)
 have hsz : ((((((w.alloc (Obj.cells #[Value.slice A1 n1 c1, Value.slice A2 n2 c2, Value.int IntKind.i64 d] 39)).alloc (Obj.cells #[Value.slice none 0 0, Value.slice none 0 0, Value.int IntKind.i64 0] 39)).alloc (Obj.cells #[Value.slice none 0 0] 40)).alloc (Obj.cells #[Value.slice A1 n1 c1, Value.slice A2 n2 c2, Value.int IntKind.i64 d] 39)).alloc (Obj.cells #[Value.pointer pa] 27)).alloc (Obj.cells #[Value.slice A3 n3 c3] 22)).heap.size = w.heap.size + 6 := by simp
 refine range_own (by omega) (gf := 93) (lb := #[.pointer (some ⟨w.heap.size + 5, 0, none⟩), .pointer (some ⟨w.heap.size + 3, 0, none⟩), .pointer (some ⟨w.heap.size + 4, 0, none⟩)]) rfl (enters_of Try.func93 (by kernel_rfl) rfl)
  (R := fun W2 => ∃ rec A1' n1' c1' A2' n2' c2' ov' G', ItAt tk B w.heap.size rec (.pointer pa) (.slice A3 n3 c3) D pf.1 pf.2.1 pf.2.2 l O A1' n1' c1' A2' n2' c2' ov' W2 G') ?hcall ?hdone
 case hcall =>
  intro fn rec hrec
  rw [hsz] at hrec ⊢
  refine (iter_in 2 (by omega) hΓ hsv (fn := fn) trivial (hrec.trans rfl) hm hl hrun (init_at hw hM hnew hv1 hv2 h3 rec)).mono ?_
  rintro e W2 ⟨he, A1', n1', c1', A2', n2', c2', ov', G', hI⟩
  exact ⟨he, hI.run.lp, rec, A1', n1', c1', A2', n2', c2', ov', G', hI⟩
 case hdone =>
  rintro W2 ob ⟨rec, A1', n1', c1', A2', n2', c2', ov', G', hI⟩
  rw [hsz]
  have hn7 := heap_lt hI.run.lp
  have ch := Chg.put (S := fun b => b = w.heap.size + 7) W2 (l := w.heap.size + 6 + 1) ob rfl
  obtain ⟨W3, hW3⟩ : ∃ W3, W2.putObj (w.heap.size + 6 + 1) ob = W3 := ⟨_, rfl⟩
  rw [hW3] at ch ⊢
  clear hW3
  have hs3 := ch.size
  have hO := runG_rows hrun
  have hn8 : w.heap.size + 8 ≤ W3.drew.heap.size := by show _ ≤ W3.heap.size; omega
  have hq := ch.at' hI.q (by omega)
  obtain ⟨z1, z2, z3, hz⟩ := hI.run.res
  have hz := ch.at' hz (by omega)
  have hout := ch.at' hI.run.out (by omega)
  have hdf := ch.at' hI.run.df (by omega)
  have hrow := own_keep hI.run.row fun g hg => ch.heap g (own_ge hI.run.row hg).2 (by have := own_ge hI.run.row hg; omega)
  have t3 : Turn B.w0.heap.size G' W2 W3 := ch.turn (fun b _ hb => by subst hb; exact ⟨by rw [hw]; omega, hI.fr _ (by omega) (by omega)⟩) (by rw [hw]; omega)
  have t3 := t3.trans (⟨rfl, rfl, rfl, Nat.le_refl _, fun _ _ => rfl, fun _ _ _ => rfl⟩ : Turn B.w0.heap.size G' W3 W3.drew)
  have hM3 := hI.mem.turn t3
  have y1 := hI.v1.turn t3
  have y2 := hI.v2.turn t3
  have hn3 : ∀ b, W3.heap.size ≤ b → G'.own b = .ext := fun b hb => hI.new b (by omega)
  have hfr := hI.fr
  have hho := hI.ho
  have hc := hown.grows (w := W3.drew) hn3 (vals := #[.agg #[.slice A1' n1' c1', .slice A2' n2' c2', .int .i64 pf.2.2]]) rfl (fun i x v hx hv => by
   match i, hx, hv with
   | 0, hx, hv => cases hx; cases hv; exact V.pool_mk y1 y2) (fun x hx => by simp only [List.mem_singleton] at hx; subst hx; rfl) rfl
  clear hI hrun hown h3 hM hv1 hv2
  have q0 := cells_at hq 0; have q1 := cells_at hq 1; have q2 := cells_at hq 2; have o0 := cells_at hout 0
  simp only [List.getElem?_toArray, List.getElem?_cons_zero, List.getElem?_cons_succ] at q0 q1 q2 o0
  obtain ⟨q0, -⟩ := q0; obtain ⟨q1, -⟩ := q1; obtain ⟨q2, -⟩ := q2; obtain ⟨o0, -⟩ := o0
  have hF56 : Fence.wide.fn 56 := trivial
  have hmix : Try.prog.follows .mixedOrders = true := by kernel_rfl
  gi_wp2
  refine wpIn_calm ?_
  gi_region_with_o (gi_at_call 56; refine (callsIn_wide.2 hc).mono ?_; rintro en W4 ⟨v, G4, rfl, hg, hv4, hn4⟩; obtain ⟨B1, m1, k1, B2, m2, k2, rfl, w1, w2⟩ := hv4.pool; have r0 := cells_at ((hg.heap _ (heap_lt hz)).trans hz) 0; have r1 := cells_at ((hg.heap _ (heap_lt hz)).trans hz) 1; have r2 := cells_at ((hg.heap _ (heap_lt hz)).trans hz) 2; have p0 := cells_at ((hg.heap _ (heap_lt hout)).trans hout) 0; simp only [List.getElem?_toArray, List.getElem?_cons_zero, List.getElem?_cons_succ] at r0 r1 r2 p0; obtain ⟨r0, f0⟩ := r0; obtain ⟨r1, f1⟩ := r1; obtain ⟨r2, f2⟩ := r2; obtain ⟨p0, -⟩ := p0)
  all_goals gi_wp2
  all_goals exact end17 (by rw [hw]) hO hM3 hg hfr hho hrow hz hdf hn8 w1 w2 rfl rfl rfl
end Go.Proofs.Gv
namespace Go.Proofs.Gv
open Go.RowKit
def okS (s : AV) (C : List Blk) : Bool := match s with
 | .nilp => true
 | .hp 0 0 => !C.isEmpty
 | _ => false
theorem okS_or {s : AV} {C : List Blk} (h : okS s C = true) : s = .nilp ∨ (s = .hp 0 0 ∧ 0 < C.length) := by
 unfold okS at h
 split at h
 ·exact .inl rfl
 ·exact .inr ⟨rfl, by cases C <;> simp at h ⊢⟩
 ·cases h
noncomputable def end56 (x : Option (Bool × AV × List Blk)) (O : List (List AV)) (D : List Blk) : Option (Bool × AV × List Blk) := match x with
 | some (true, r, outs) => match fin Try.prog true ([] : List Blk).length Try.f56.resultTypes.toList (some (r, unk [] outs)) with
   | some (true, .agg [.sl .imm [.int .i64] u2, .sl .imm [.int .i64] v2, .int .i64 n2], []) => some (true, .tup [pA u2 v2 n2, .sl .imm kindS4 O], D)
   | _ => none
 | _ => none
theorem end56_inv {x : Option (Bool × AV × List Blk)} {O : List (List AV)} {D : List Blk} {y : Bool × AV × List Blk} (h : end56 x O D = some y) : ∃ r outs u2 v2 n2, x = some (true, r, outs) ∧ fin Try.prog true ([] : List Blk).length Try.f56.resultTypes.toList (some (r, unk [] outs)) = some (true, pA u2 v2 n2, []) ∧ y = (true, .tup [pA u2 v2 n2, .sl .imm kindS4 O], D) := by
 unfold end56 at h
 split at h
 ·rename_i r outs
  split at h
  ·rename_i u2 v2 n2 hf
   injection h with h
   exact ⟨r, outs, u2, v2, n2, rfl, hf, h.symm⟩
  ·cases h
 ·cases h
noncomputable def sp17 (Γ : Gam) : List AV → List Blk → Option (Bool × AV × List Blk)
 | [.agg [.sl .imm [.int .i64] us, .sl .imm [.int .i64] ss, .int .i64 d], s, .sl t [.int .i64] l], C => match Nat.ble l.length 1000000 && okS s C with
   | true => match runG Γ s l us ss d C with
     | some ((u, v, n), O, D) => end56 (Γ 56 [pA u v n] []) O D
     | none => none
   | false => none
 | _, _ => none
noncomputable def r17 (Γ : Gam) : Gam := fun f T C => match Nat.beq f 17 with
 | true => (sp17 Γ T C).or (Γ f T C)
 | false => Γ f T C
theorem enters17 : Enters Try.prog 17 := enters_of Try.func17 (by kernel_rfl) rfl
theorem r17_ok {Γ : Gam} (hΓ : GamOK Try.prog Γ) : GamOK Try.prog (r17 Γ) := by
 intro f T C r outs h
 unfold r17 at h
 cases hf : Nat.beq f 17 with
 | false => rw [hf] at h; exact hΓ f T C r outs h
 | true =>
   have hf' := Nat.eq_of_beq_eq_true hf
   subst hf'
   rw [hf] at h
   dsimp only at h
   cases hs : sp17 Γ T C with
   | none => rw [hs] at h; exact hΓ _ T C r outs h
   | some x =>
     rw [hs] at h
     have hx : x = (true, r, outs) := by simpa using h
     subst hx
     unfold sp17 at hs
     split at hs
     ·rename_i us ss d s t l
      split at hs
      ·rename_i hg
       rw [Bool.and_eq_true] at hg
       split at hs
       ·rename_i u v n O D hrun
        obtain ⟨r', outs', u2, v2, n2, h56, hf, he⟩ := end56_inv hs
        injection he with _ he
        injection he with he1 he2
        subst he1 he2
        exact ⟨enters17, (run17 hΓ (Nat.le_of_ble_eq_true hg.1) (okS_or hg.2) hrun (FnOK.fin (hΓ _ _ _ _ _ h56).2 hf)).unk⟩
       ·cases hs
      ·cases hs
     ·cases hs
end Go.Proofs.Gv
