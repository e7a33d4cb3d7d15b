import Derived.Test.YthnbpgiohimkoaaFo45
import Derived.KernelRfl
import Derived.Test.YthnbpgiohimkoaaFo32
import Derived.Test.YthnbpgiohimkoaaFo37
import Derived.Test.YthnbpgiohimkoaaFo27
import Derived.Test.YthnbpgiohimkoaaFo30
import Derived.Test.YthnbpgiohimkoaaFo31
import Derived.Test.YthnbpgiohimkoaaFo41
set_option linter.unusedVariables false
namespace Go.Proofs.Gv
open Go.Proofs
open List (Perm)
abbrev withQ (x : Fl) (l : Int) (rs : List (List AV)) : Fl := ⟨x.c, x.w, x.s, x.f, x.k, l, rs⟩
theorem ords_set {fs : List Fl} {i : Nat} {x : Fl} (hi : i < fs.length) (hc : x.c = (atF fs i).c) : ordsF (fs.set i x) = ordsF fs := by
 unfold ordsF
 rw [List.map_set]
 apply List.ext_getElem?
 intro j
 rw [List.getElem?_set]
 by_cases e : i = j
 ·subst e
  simp only [if_true, List.length_map, hi, List.getElem?_map]
  rw [atF_get hi]
  simp [Fl.ord, hc]
 ·rw [if_neg e]
theorem tab_at {fs : List Fl} (h1 : OneF fs) {i : Nat} (hi : i < fs.length) : ∀ j, (List.drop 1 (getK (tabsF fs) (atF fs i).c)).getD j AV.junk = ((atF fs i).row).getD j .junk := by
 intro j
 rw [tabsF_get h1 hi]
 rfl
theorem busy48 {fs : List Fl} (h1 : OneF fs) {i : Nat} (hi : i < fs.length) : vev48_0 (atF fs i).c (tabsF fs) = decide (0 < (atF fs i).rs.length) ∧ vev48_1 (atF fs i).c (tabsF fs) = true := by
 constructor
 ·unfold vev48_0 rev48_0
  rw [tab_at h1 hi]
  show decide (((atF fs i).rs.length : Int) > 0) = _
  exact decide_eq_decide.2 (by omega)
 ·unfold vev48_1
  rw [tabsF_hasAt hi]
  rfl
theorem set_at {fs : List Fl} {i : Nat} (hi : i < fs.length) (x : Fl) : atF (fs.set i x) i = x := by rw [atF_set, if_pos ⟨rfl, hi⟩]
theorem busy48s {fs : List Fl} (h1 : OneF fs) {i : Nat} (hi : i < fs.length) {x : Fl} (hc : x.c = (atF fs i).c) : vev48_0 (atF fs i).c (tabsF (fs.set i x)) = decide (0 < x.rs.length) ∧ vev48_1 (atF fs i).c (tabsF (fs.set i x)) = true := by
 have := busy48 (h1.set hc) (i := i) (by simpa using hi)
 rwa [set_at hi, hc] at this
theorem cancel29 {S : Sc} (I : Inv S) (c id : Int) : ∃ (e : Int) (S' : Sc), Inv S' ∧ ((e ≠ 0 ∧ S' = S) ∨ (e = 0 ∧ ∃ i k h', i < S.fs.length ∧ (atF S.fs i).c = c ∧ k < (atF S.fs i).rs.length ∧ q0 (atF S.fs i).rs k = id ∧ S' = ⟨S.q, S.lim, S.t, S.k, S.fs.set i (withQ (atF S.fs i) S.lim (wo (atF S.fs i).rs k)), h'⟩)) ∧
  (vev29_0 S.q S.lim S.t S.k (ordsF S.fs) (tabsF S.fs) (R S.h) c id = e ∧ vev29_1 S.q S.lim S.t S.k (ordsF S.fs) (tabsF S.fs) (R S.h) c id = R S'.h ∧ vev29_2 S.q S.lim S.t S.k (ordsF S.fs) (tabsF S.fs) (R S.h) c id = tabsF S'.fs ∧ ordsF S.fs = ordsF S'.fs ∧ vev29_3 S.q S.lim S.t S.k (ordsF S.fs) (tabsF S.fs) (R S.h) c id = true) ∧
  ∀ L, Lk L S.fs → Lk (vev30_0 S.q S.lim S.t S.k L c id) S'.fs ∧ vev30_1 S.q S.lim S.t S.k L c id = e ∧ vev30_2 S.q S.lim S.t S.k L c id = true := by
 have h8 := I.len
 by_cases hex : ∃ i, i < S.fs.length ∧ (atF S.fs i).c = c
 ·obtain ⟨i, hi, rfl⟩ := hex
  have hK : hasK (tabsF S.fs) (atF S.fs i).c = true := tabsF_hasAt hi
  have f := I.fl i hi
  have hx := ix_at I.one hi
  have e0 : rev29_0 S.q S.lim S.t S.k (ordsF S.fs) (tabsF S.fs) (R S.h) (atF S.fs i).c id = S.lim := by unfold rev29_0; rw [tab_at I.one hi]; exact f.l
  have e1 : rev29_1 S.q S.lim S.t S.k (ordsF S.fs) (tabsF S.fs) (R S.h) (atF S.fs i).c id = (atF S.fs i).rs := by unfold rev29_1; rw [tab_at I.one hi]; rfl
  obtain ⟨d1, d2, d3, d4, d5⟩ := drop_spec f.g id
  have doc : ∀ L, Lk L S.fs → rev30_0 S.q S.lim S.t S.k L (atF S.fs i).c id = (i : Int) ∧ vev46_1 S.q S.lim S.t S.k .imm L (atF S.fs i).c = true ∧ rev30_1 S.q S.lim S.t S.k L (atF S.fs i).c id = S.lim ∧ rev30_2 S.q S.lim S.t S.k L (atF S.fs i).c id = (atF S.fs i).rs ∧ rev30_3 S.q S.lim S.t S.k L (atF S.fs i).c id = (atF S.fs i).c ∧
    rev30_4 S.q S.lim S.t S.k L (atF S.fs i).c id = (atF S.fs i).w ∧ rev30_5 S.q S.lim S.t S.k L (atF S.fs i).c id = (atF S.fs i).s ∧ rev30_6 S.q S.lim S.t S.k L (atF S.fs i).c id = (atF S.fs i).f ∧ rev30_7 S.q S.lim S.t S.k L (atF S.fs i).c id = (atF S.fs i).k := by
   intro L hL
   have hp := pl46 (q := S.q) (lim := S.lim) (t := S.t) (k := S.k) (tk := .imm) hL h8 (atF S.fs i).c
   have h0 : rev30_0 S.q S.lim S.t S.k L (atF S.fs i).c id = (i : Int) := by unfold rev30_0; rw [hp.1, hx]
   have hc := hL.cells hi
   refine ⟨h0, hp.2, ?_, ?_, ?_, ?_, ?_, ?_, ?_⟩
   ·unfold rev30_1; rw [h0]; exact hc.2.2.2.2.2.1.trans f.l
   ·unfold rev30_2; rw [h0]; exact hc.2.2.2.2.2.2
   ·unfold rev30_3; rw [h0]; exact hc.1
   ·unfold rev30_4; rw [h0]; exact hc.2.1
   ·unfold rev30_5; rw [h0]; exact hc.2.2.1
   ·unfold rev30_6; rw [h0]; exact hc.2.2.2.1
   ·unfold rev30_7; rw [h0]; exact hc.2.2.2.2.1
  rcases d5 with hd | ⟨hd, k, hk, hid, hw⟩
  ·refine ⟨6, S, I, .inl ⟨by omega, rfl⟩, ⟨?_, ?_, ?_, rfl, ?_⟩, fun L hL => ?_⟩
   ·unfold vev29_0; rw [hK, e0, e1, d3, hd]; rfl
   ·unfold vev29_1; rw [hK, e0, e1, d3, hd]; rfl
   ·unfold vev29_2; rw [hK, e0, e1, d3, hd]; rfl
   ·unfold vev29_3; rw [hK, e0, e1, d1, d3, hd]; rfl
   ·obtain ⟨g0, g1, g2, g3, _⟩ := doc L hL
    refine ⟨?_, ?_, ?_⟩
    ·unfold vev30_0; rw [g0, g2, g3, hd, decide_eq_false (show ¬ (i : Int) < 0 by omega)]; exact hL
    ·unfold vev30_1; rw [g0, g2, g3, hd, decide_eq_false (show ¬ (i : Int) < 0 by omega)]; rfl
    ·unfold vev30_2; rw [g0, g1, g2, g3, d2, hd, decide_eq_false (show ¬ (i : Int) < 0 by omega), hL.len, in2 hi]; rfl
  ·have gw := good_wo (l := S.lim) hk f.g.lim f.g.len (fun j hj _ => f.g.fit j hj) f.g.one
   have er : rev29_2 S.q S.lim S.t S.k (ordsF S.fs) (tabsF S.fs) (R S.h) (atF S.fs i).c id = tabsF (S.fs.set i (withQ (atF S.fs i) S.lim (wo (atF S.fs i).rs k))) := by
    unfold rev29_2
    rw [e0, e1, d4, hw]
    refine tabsF_set I.one hi rfl _ ?_
    rw [tab_at I.one hi, tab_at I.one hi, tab_at I.one hi, tab_at I.one hi, tab_at I.one hi]
    rfl
   have hb := busy48s I.one hi (x := (withQ (atF S.fs i) S.lim (wo (atF S.fs i).rs k))) rfl
   have hfx : FlOK S.lim S.k (withQ (atF S.fs i) S.lim (wo (atF S.fs i).rs k)) := ⟨f.c, f.w, f.s, f.f, f.k, rfl, gw, RowQ_iff.2 ((RowQ_iff.1 f.r).wo k)⟩
   have hbl : S.k + (blL S.fs - lfQ (atF S.fs i).rs + lfQ (wo (atF S.fs i).rs k)) ≤ 1099511627776 := by
    rw [lfQ_wo hk]
    have := I.bl
    have := (f.g.q2b hk).1
    omega
   have hpm := I.pm
   rw [busy_at hi] at hpm
   have key : ∃ h', (bif bif decide (0 < (wo (atF S.fs i).rs k).length) then false else true then vev95_0 Tk.imm (R S.h) (atF S.fs i).c else R S.h) = R h' ∧ vev95_2 Tk.imm (R S.h) (atF S.fs i).c = true ∧ HeapL h' ∧ Perm h' (busyF (S.fs.set i (withQ (atF S.fs i) S.lim (wo (atF S.fs i).rs k)))) := by
    obtain ⟨h', r1, r2, r3, r4⟩ := rest95 I.hp (by have := I.hlen; omega) hpm (busy_ids I.one hi)
    rw [busy_set hi]
    unfold bz
    by_cases hz : 0 < (wo (atF S.fs i).rs k).length
    ·refine ⟨S.h, by rw [decide_eq_true hz]; rfl, r2, I.hp, ?_⟩
     rw [if_pos hz]
     have : bz (atF S.fs i) = [((atF S.fs i).s, (atF S.fs i).c)] := if_pos (by omega)
     rw [this] at hpm
     exact hpm
    ·refine ⟨h', by rw [decide_eq_false hz]; exact r1, r2, r3, ?_⟩
     rw [if_neg hz]
     exact r4
   obtain ⟨h', k1, k2, k3, k4⟩ := key
   refine ⟨0, _, I.set hi (x := (withQ (atF S.fs i) S.lim (wo (atF S.fs i).rs k))) rfl (Int.le_refl _) hfx I.t hbl k3 k4, .inr ⟨rfl, i, k, h', hi, rfl, hk, hid, rfl⟩, ⟨?_, ?_, ?_, (ords_set (x := withQ (atF S.fs i) S.lim (wo (atF S.fs i).rs k)) hi rfl).symm, ?_⟩, fun L hL => ?_⟩
   ·unfold vev29_0; rw [hK, e0, e1, d3, hd]; rfl
   ·unfold vev29_1; rw [hK, e0, e1, d3, hd, er, hb.1]; exact k1
   ·unfold vev29_2; rw [hK, e0, e1, d3, hd]; exact er
   ·unfold vev29_3 vev61_0; rw [hK, e0, e1, d1, d3, hd, er, hb.1, hb.2, k2]
    cases decide (0 < (wo (atF S.fs i).rs k).length) <;> rfl
   ·obtain ⟨g0, g1, g2, g3, g4, g5, g6, g7, g8⟩ := doc L hL
    have hwith := with54 (q := S.q) (lim := S.lim) (t := S.t) (k := S.k) hL h8 hi (withQ (atF S.fs i) S.lim (wo (atF S.fs i).rs k))
    refine ⟨?_, ?_, ?_⟩
    ·unfold vev30_0 rev30_8; rw [g0, g2, g3, g4, g5, g6, g7, g8, hd, hw, decide_eq_false (show ¬ (i : Int) < 0 by omega)]
     exact hwith.1
    ·unfold vev30_1; rw [g0, g2, g3, hd, decide_eq_false (show ¬ (i : Int) < 0 by omega)]; rfl
    ·unfold vev30_2 rev30_8; rw [g0, g1, g2, g3, g4, g5, g6, g7, g8, d2, hd, hw, decide_eq_false (show ¬ (i : Int) < 0 by omega), hL.len, in2 hi, hwith.2]
     rfl
 ·have hno : ∀ i, i < S.fs.length → (atF S.fs i).c ≠ c := fun i hi e => hex ⟨i, hi, e⟩
  have hK : hasK (tabsF S.fs) c = false := tabsF_hasNo hno
  have hx := ix_no hno
  refine ⟨6, S, I, .inl ⟨by omega, rfl⟩, ⟨?_, ?_, ?_, rfl, ?_⟩, fun L hL => ?_⟩
  ·unfold vev29_0; rw [hK]; rfl
  ·unfold vev29_1; rw [hK]; rfl
  ·unfold vev29_2; rw [hK]; rfl
  ·unfold vev29_3; rw [hK]; rfl
  ·have hp := pl46 (q := S.q) (lim := S.lim) (t := S.t) (k := S.k) (tk := .imm) hL h8 c
   refine ⟨?_, ?_, ?_⟩
   ·unfold vev30_0 rev30_0; rw [hp.1, hx]; exact hL
   ·unfold vev30_1 rev30_0; rw [hp.1, hx]; rfl
   ·unfold vev30_2 rev30_0; rw [hp.1, hp.2, hx]; rfl
end Go.Proofs.Gv
namespace Go.Proofs.Gv
open Go.Proofs
open List (Perm)
def mx (a b : Int) : Int := if b < a then a else b
theorem chkT {lim k : Int} {x : Fl} (f : FlOK lim k x) (hk : k ≤ 1099511627776) : vev77_0 x.w x.s x.f x.k = 0 ∧ vev81_0 x.w x.s x.f x.k = 0 := by
 have hw := f.w
 have hs := f.s
 have hf := f.f
 have hx := f.k
 constructor
 ·unfold vev77_0 vev79_0 vev78_0
  rw [decide_eq_true (show x.w > 0 by omega), decide_eq_true (show x.w ≤ 16 by omega), decide_eq_true (show 0 ≤ x.k by omega), decide_eq_true (show x.k ≤ 1099511627776 by omega), decide_eq_true (show 0 ≤ x.s by omega), decide_eq_true (show x.s ≤ 2305843009213693952 by omega), decide_eq_true (show 0 ≤ x.f by omega), decide_eq_true (show x.f ≤ 2305843009213693952 by omega)]
  rfl
 ·unfold vev81_0 vev92_0
  rw [decide_eq_false (show ¬ x.w < 1 by omega), decide_eq_false (show ¬ x.w > 16 by omega), decide_eq_true (show x.k ≥ 0 by omega), decide_eq_true (show x.k ≤ 1099511627776 by omega), decide_eq_true (show x.s ≥ 0 by omega), decide_eq_true (show x.s ≤ 2305843009213693952 by omega), decide_eq_true (show x.f ≥ 0 by omega), decide_eq_true (show x.f ≤ 2305843009213693952 by omega)]
  rfl
theorem wakeT {lim k t : Int} {x : Fl} (f : FlOK lim k x) (hk : k ≤ 1099511627776) (ht : 0 ≤ t ∧ t ≤ k * 720720) : vev49_0 t x.w x.s x.f x.k = mx t x.f ∧ vev53_0 t x.w x.s x.f x.k = mx t x.f := by
 have c := chkT f hk
 constructor
 ·unfold vev49_0 vev78_0
  rw [c.1, decide_eq_true (show 0 ≤ t by omega), decide_eq_true (show t ≤ 2305843009213693952 by omega)]
  unfold mx
  simp
 ·unfold vev53_0 vev92_0
  rw [c.2, decide_eq_true (show t ≥ 0 by omega), decide_eq_true (show t ≤ 2305843009213693952 by omega)]
  unfold mx
  simp
  split <;> split <;> omega
abbrev admF (t lim : Int) (x : Fl) (id n z : Int) : Fl := ⟨x.c, x.w, if 0 < x.rs.length then x.s else mx t x.f, x.f, x.k, lim, pu x.rs id n z⟩
theorem tab_ats {fs : List Fl} (h1 : OneF fs) {i : Nat} (hi : i < fs.length) {x : Fl} (hc : x.c = (atF fs i).c) : ∀ j, (List.drop 1 (getK (tabsF (fs.set i x)) (atF fs i).c)).getD j AV.junk = (x.row).getD j .junk := by
 intro j
 have := tab_at (h1.set hc) (i := i) (by simpa using hi) j
 rwa [set_at hi, hc] at this
theorem tabsF_hasS {fs : List Fl} {i : Nat} (hi : i < fs.length) {x : Fl} (hc : x.c = (atF fs i).c) : hasK (tabsF (fs.set i x)) (atF fs i).c = true := by
 have := tabsF_hasAt (fs := fs.set i x) (i := i) (by simpa using hi)
 rwa [set_at hi, hc] at this
theorem pu_pos (rs : List (List AV)) (id n z : Int) : 0 < (pu rs id n z).length := by rw [pu_len]; omega
theorem hasK_go (es : List (List AV)) (c : Int) : ((List.brecOn.go (motive := fun x => (List AV → Bool) → Bool) es List.any._f).1 fun e => keyA e == c) = hasK es c := by kernel_rfl
theorem admit15 {S : Sc} (I : Inv S) (c id n z : Int) : ∃ (e : Int) (S' : Sc), Inv S' ∧ ((e ≠ 0 ∧ S' = S) ∨ (e = 0 ∧ ∃ i h', i < S.fs.length ∧ (atF S.fs i).c = c ∧ 1 ≤ z ∧ z ≤ 1099511627776 ∧ S' = ⟨S.q, S.lim, S.t, S.k, S.fs.set i (admF S.t S.lim (atF S.fs i) id n z), h'⟩)) ∧
  (vev15_0 S.q S.lim S.t S.k (ordsF S.fs) (tabsF S.fs) (R S.h) c id n z = e ∧ vev15_1 S.q S.lim S.t S.k (ordsF S.fs) (tabsF S.fs) (R S.h) c id n z = R S'.h ∧ vev15_2 S.q S.lim S.t S.k (ordsF S.fs) (tabsF S.fs) (R S.h) c id n z = tabsF S'.fs ∧ ordsF S.fs = ordsF S'.fs ∧ vev15_3 S.q S.lim S.t S.k (ordsF S.fs) (tabsF S.fs) (R S.h) c id n z = true) ∧
  ∀ L, Lk L S.fs → Lk (vev16_0 S.q S.lim S.t S.k L c id n z) S'.fs ∧ vev16_1 S.q S.lim S.t S.k L c id n z = e ∧ vev16_2 S.q S.lim S.t S.k L c id n z = true := by
 have h8 := I.len
 by_cases hex : ∃ i, i < S.fs.length ∧ (atF S.fs i).c = c
 ·obtain ⟨i, hi, rfl⟩ := hex
  have hK : hasK (tabsF S.fs) (atF S.fs i).c = true := tabsF_hasAt hi
  have f := I.fl i hi
  have hx := ix_at I.one hi
  have hkb := I.k
  have hbb := blN_b I.gd S.fs.length (Nat.le_refl _)
  have hk40 : S.k ≤ 1099511627776 := by unfold blF at hkb; omega
  have wk := wakeT f hk40 I.t
  have hfb : 0 ≤ blF S.fs := hbb.1
  have e0 : rev15_0 S.q S.lim S.t S.k (ordsF S.fs) (tabsF S.fs) (R S.h) (atF S.fs i).c id n z = S.lim := by unfold rev15_0; rw [tab_at I.one hi]; exact f.l
  have e1 : rev15_1 S.q S.lim S.t S.k (ordsF S.fs) (tabsF S.fs) (R S.h) (atF S.fs i).c id n z = (atF S.fs i).rs := by unfold rev15_1; rw [tab_at I.one hi]; rfl
  have e4 : rev15_4 S.q S.lim S.t S.k (ordsF S.fs) (tabsF S.fs) (R S.h) (atF S.fs i).c id n z = (atF S.fs i).w := by unfold rev15_4; rw [tab_at I.one hi]; rfl
  have e5 : rev15_5 S.q S.lim S.t S.k (ordsF S.fs) (tabsF S.fs) (R S.h) (atF S.fs i).c id n z = (atF S.fs i).s := by unfold rev15_5; rw [tab_at I.one hi]; rfl
  have e6 : rev15_6 S.q S.lim S.t S.k (ordsF S.fs) (tabsF S.fs) (R S.h) (atF S.fs i).c id n z = (atF S.fs i).f := by unfold rev15_6; rw [tab_at I.one hi]; rfl
  have e7 : rev15_7 S.q S.lim S.t S.k (ordsF S.fs) (tabsF S.fs) (R S.h) (atF S.fs i).c id n z = (atF S.fs i).k := by unfold rev15_7; rw [tab_at I.one hi]; rfl
  obtain ⟨d1, d2, d3, d4, d5⟩ := push_spec f.g id n z
  have e2 : rev15_2 S.q S.lim S.t S.k (ordsF S.fs) (tabsF S.fs) (R S.h) (atF S.fs i).c id n z = vev51_1 S.lim (atF S.fs i).rs id n z := by unfold rev15_2; rw [e0, e1, d3]
  have b34 := bl34 (q := S.q) (t := S.t) (k := S.k) (rd := R S.h) h8 I.one I.gd
  have e3 : rev15_3 S.q S.lim S.t S.k (ordsF S.fs) (tabsF S.fs) (R S.h) (atF S.fs i).c id n z = 1099511627776 - S.k - blF S.fs := by
   unfold rev15_3
   rw [b34.1, wrapOf (1099511627776 - S.k) (by omega) (by omega), wrapOf (1099511627776 - S.k - blF S.fs) (by omega) (by omega)]
  have doc : ∀ L, Lk L S.fs → rev16_0 S.q S.lim S.t S.k L (atF S.fs i).c id n z = (i : Int) ∧ vev46_1 S.q S.lim S.t S.k .imm L (atF S.fs i).c = true ∧ rev16_1 S.q S.lim S.t S.k L (atF S.fs i).c id n z = S.lim ∧ rev16_2 S.q S.lim S.t S.k L (atF S.fs i).c id n z = (atF S.fs i).rs ∧ rev16_5 S.q S.lim S.t S.k L (atF S.fs i).c id n z = (atF S.fs i).c ∧
    rev16_6 S.q S.lim S.t S.k L (atF S.fs i).c id n z = (atF S.fs i).w ∧ rev16_7 S.q S.lim S.t S.k L (atF S.fs i).c id n z = (atF S.fs i).s ∧ rev16_8 S.q S.lim S.t S.k L (atF S.fs i).c id n z = (atF S.fs i).f ∧ rev16_9 S.q S.lim S.t S.k L (atF S.fs i).c id n z = (atF S.fs i).k ∧
    rev16_3 S.q S.lim S.t S.k L (atF S.fs i).c id n z = vev51_1 S.lim (atF S.fs i).rs id n z ∧ rev16_4 S.q S.lim S.t S.k L (atF S.fs i).c id n z = 1099511627776 - S.k - blF S.fs ∧ vev52_1 S.q S.lim S.t S.k .imm L = true := by
   intro L hL
   have hp := pl46 (q := S.q) (lim := S.lim) (t := S.t) (k := S.k) (tk := .imm) hL h8 (atF S.fs i).c
   have h0 : rev16_0 S.q S.lim S.t S.k L (atF S.fs i).c id n z = (i : Int) := by unfold rev16_0; rw [hp.1, hx]
   have hc := hL.cells hi
   have h1 : rev16_1 S.q S.lim S.t S.k L (atF S.fs i).c id n z = S.lim := by unfold rev16_1; rw [h0]; exact hc.2.2.2.2.2.1.trans f.l
   have h2 : rev16_2 S.q S.lim S.t S.k L (atF S.fs i).c id n z = (atF S.fs i).rs := by unfold rev16_2; rw [h0]; exact hc.2.2.2.2.2.2
   have b52 := bl52 (q2 := S.q) (t2 := S.t) (k2 := S.k) (tk := .imm) hL h8 I.gd
   refine ⟨h0, hp.2, h1, h2, ?_, ?_, ?_, ?_, ?_, ?_, ?_, b52.2⟩
   ·unfold rev16_5; rw [h0]; exact hc.1
   ·unfold rev16_6; rw [h0]; exact hc.2.1
   ·unfold rev16_7; rw [h0]; exact hc.2.2.1
   ·unfold rev16_8; rw [h0]; exact hc.2.2.2.1
   ·unfold rev16_9; rw [h0]; exact hc.2.2.2.2.1
   ·unfold rev16_3; rw [h1, h2]
   ·unfold rev16_4
    rw [b52.1, wrapOf (1099511627776 - S.k) (by omega) (by omega), wrapOf (1099511627776 - S.k - blF S.fs) (by omega) (by omega)]
  have hi0 : decide ((i : Int) < 0) = false := decide_eq_false (by omega)
  rcases d5 with hd | ⟨hd, hw, gd, hz1, hz2⟩
  ·have hb : (vev51_1 S.lim (atF S.fs i).rs id n z != 0) = true := bne_iff_ne.2 hd
   refine ⟨vev51_1 S.lim (atF S.fs i).rs id n z, S, I, .inl ⟨hd, rfl⟩, ⟨?_, ?_, ?_, rfl, ?_⟩, fun L hL => ?_⟩
   ·unfold vev15_0; rw [hK, e2, hb]; rfl
   ·unfold vev15_1; rw [hK, e2, hb]; rfl
   ·unfold vev15_2; rw [hK, e2, hb]; rfl
   ·unfold vev15_3; rw [hK, e2, hb, e0, e1, d1]; rfl
   ·obtain ⟨g0, g1, g2, g3, g5, g6, g7, g8, g9, g10, g11, g12⟩ := doc L hL
    refine ⟨?_, ?_, ?_⟩
    ·unfold vev16_0; rw [g0, hi0, g10, hb]; exact hL
    ·unfold vev16_1; rw [g0, hi0, g10, hb]; rfl
    ·unfold vev16_2; rw [g0, hi0, g1, hL.len, in2 hi, g2, g3, d2, g10, hb]; rfl
  ·have hb : (vev51_1 S.lim (atF S.fs i).rs id n z != 0) = false := by rw [hd]; rfl
   by_cases hbig : z > 1099511627776 - S.k - blF S.fs
   ·refine ⟨7, S, I, .inl ⟨by omega, rfl⟩, ⟨?_, ?_, ?_, rfl, ?_⟩, fun L hL => ?_⟩
    ·unfold vev15_0; rw [hK, e2, hb, e3, decide_eq_true hbig]; rfl
    ·unfold vev15_1; rw [hK, e2, hb, e3, decide_eq_true hbig]; rfl
    ·unfold vev15_2; rw [hK, e2, hb, e3, decide_eq_true hbig]; rfl
    ·unfold vev15_3; rw [hK, e2, hb, e0, e1, d1, e3, decide_eq_true hbig, b34.2]; rfl
    ·obtain ⟨g0, g1, g2, g3, g5, g6, g7, g8, g9, g10, g11, g12⟩ := doc L hL
     refine ⟨?_, ?_, ?_⟩
     ·unfold vev16_0; rw [g0, hi0, g10, hb, g11, decide_eq_true hbig]; exact hL
     ·unfold vev16_1; rw [g0, hi0, g10, hb, g11, decide_eq_true hbig]; rfl
     ·unfold vev16_2; rw [g0, hi0, g1, hL.len, in2 hi, g2, g3, d2, g10, hb, g11, decide_eq_true hbig, g12]; rfl
   ·have hB := busy48 I.one hi
    have hlf : lfQ (pu (atF S.fs i).rs id n z) = lfQ (atF S.fs i).rs + z := lfQ_pu _ _ _ _
    have hbl : S.k + (blL S.fs - lfQ (atF S.fs i).rs + lfQ (pu (atF S.fs i).rs id n z)) ≤ 1099511627776 := by
     rw [hlf, ← blF_eq]; omega
    have hmx : 0 ≤ mx S.t (atF S.fs i).f ∧ mx S.t (atF S.fs i).f ≤ S.k * 720720 := by
     have := I.t; have := f.f
     unfold mx; split <;> omega
    have hfx : FlOK S.lim S.k (admF S.t S.lim (atF S.fs i) id n z) := by
     refine ⟨f.c, f.w, ?_, f.f, f.k, rfl, gd, RowQ_iff.2 ((RowQ_iff.1 f.r).pu id n z)⟩
     show 0 ≤ (if 0 < (atF S.fs i).rs.length then (atF S.fs i).s else mx S.t (atF S.fs i).f) ∧ (if 0 < (atF S.fs i).rs.length then (atF S.fs i).s else mx S.t (atF S.fs i).f) ≤ _
     split
     ·exact f.s
     ·exact hmx
    have hpm := I.pm
    rw [busy_at hi] at hpm
    have hbz : bz (admF S.t S.lim (atF S.fs i) id n z) = [((admF S.t S.lim (atF S.fs i) id n z).s, (atF S.fs i).c)] := by
     unfold bz
     rw [if_pos (pu_pos _ _ _ _)]
    by_cases hz : 0 < (atF S.fs i).rs.length
    ·-- it had work
     have hs : (admF S.t S.lim (atF S.fs i) id n z).s = (atF S.fs i).s := if_pos hz
     have hp' : Perm S.h (busyF (S.fs.set i (admF S.t S.lim (atF S.fs i) id n z))) := by
      rw [busy_set hi, hbz, hs]
      have : bz (atF S.fs i) = [((atF S.fs i).s, (atF S.fs i).c)] := if_pos hz
      rw [this] at hpm
      exact hpm
     refine ⟨0, _, I.set hi (x := admF S.t S.lim (atF S.fs i) id n z) rfl (Int.le_refl _) hfx I.t hbl I.hp hp', .inr ⟨rfl, i, S.h, hi, rfl, hz1, hz2, rfl⟩, ⟨?_, ?_, ?_, (ords_set (x := admF S.t S.lim (atF S.fs i) id n z) hi rfl).symm, ?_⟩, fun L hL => ?_⟩
     ·unfold vev15_0; rw [hK, e2, hb, e3, decide_eq_false hbig]; rfl
     ·unfold vev15_1; rw [hK, e2, hb, e3, decide_eq_false hbig, hB.1, decide_eq_true hz]; rfl
     ·unfold vev15_2; rw [hK, e2, hb, e3, decide_eq_false hbig, hB.1, decide_eq_true hz]
      show setK _ _ _ = _
      refine tabsF_set I.one hi rfl _ ?_
      rw [e0, e1, e4, e5, e6, e7, d4, hw, tab_at I.one hi]
      show _ = [_, _, _, AV.int .i64 (admF S.t S.lim (atF S.fs i) id n z).s, _, _, _, _]
      rw [hs]
      rfl
     ·unfold vev15_3; rw [hK, e2, hb, e0, e1, d1, e3, decide_eq_false hbig, b34.2, hB.1, hB.2, decide_eq_true hz]; rfl
     ·obtain ⟨g0, g1, g2, g3, g5, g6, g7, g8, g9, g10, g11, g12⟩ := doc L hL
      have hwith := with54 (q := S.q) (lim := S.lim) (t := S.t) (k := S.k) hL h8 hi (admF S.t S.lim (atF S.fs i) id n z)
      rw [hs] at hwith
      have hln : (((atF S.fs i).rs.length : Int) == 0) = false := beq_eq_false_iff_ne.2 (by omega)
      refine ⟨?_, ?_, ?_⟩
      ·unfold vev16_0; rw [g0, hi0, g10, hb, g11, decide_eq_false hbig, g3, hln]
       unfold rev16_11
       rw [g2, g3, g5, g6, g7, g8, g9, hw]
       exact hwith.1
      ·unfold vev16_1; rw [g0, hi0, g10, hb, g11, decide_eq_false hbig]; rfl
      ·unfold vev16_2; rw [g0, hi0, g1, hL.len, in2 hi, g2, g3, d2, g10, hb, g11, decide_eq_false hbig, g12, hln]
       unfold rev16_11
       rw [g2, g3, g5, g6, g7, g8, g9, hw, hwith.2]
       rfl
    ·-- it wakes
     have hs : (admF S.t S.lim (atF S.fs i) id n z).s = mx S.t (atF S.fs i).f := if_neg hz
     have hps := pushH_spec S.h (mx S.t (atF S.fs i).f, (atF S.fs i).c)
     have hp' : Perm (pushH S.h (mx S.t (atF S.fs i).f, (atF S.fs i).c)) (busyF (S.fs.set i (admF S.t S.lim (atF S.fs i) id n z))) := by
      rw [busy_set hi, hbz, hs]
      have : bz (atF S.fs i) = [] := if_neg hz
      rw [this, List.nil_append] at hpm
      have h1 : Perm (S.h ++ [(mx S.t (atF S.fs i).f, (atF S.fs i).c)]) ((mx S.t (atF S.fs i).f, (atF S.fs i).c) :: (busyF (S.fs.take i) ++ busyF (S.fs.drop (i + 1)))) := by
       have h2 : Perm (S.h ++ [(mx S.t (atF S.fs i).f, (atF S.fs i).c)]) ((mx S.t (atF S.fs i).f, (atF S.fs i).c) :: S.h) := by
        have := List.perm_append_comm (l₁ := S.h) (l₂ := [(mx S.t (atF S.fs i).f, (atF S.fs i).c)])
        exact this
       exact h2.trans (hpm.cons _)
      have h3 : Perm ((mx S.t (atF S.fs i).f, (atF S.fs i).c) :: (busyF (S.fs.take i) ++ busyF (S.fs.drop (i + 1)))) (busyF (S.fs.take i) ++ ([(mx S.t (atF S.fs i).f, (atF S.fs i).c)] ++ busyF (S.fs.drop (i + 1)))) := by
       have := (List.perm_middle (a := (mx S.t (atF S.fs i).f, (atF S.fs i).c)) (l₁ := busyF (S.fs.take i)) (l₂ := busyF (S.fs.drop (i + 1)))).symm
       simpa using this
      exact hps.1.trans (h1.trans h3)
     have hr8 : rev15_8 S.q S.lim S.t S.k (ordsF S.fs) (tabsF S.fs) (R S.h) (atF S.fs i).c id n z = tabsF (S.fs.set i ⟨(atF S.fs i).c, (atF S.fs i).w, mx S.t (atF S.fs i).f, (atF S.fs i).f, (atF S.fs i).k, S.lim, (atF S.fs i).rs⟩) := by
      unfold rev15_8
      refine tabsF_set I.one hi rfl _ ?_
      rw [e0, e1, e4, e5, e6, e7, wk.1, tab_at I.one hi]
      rfl
     have hr9 : rev15_9 S.q S.lim S.t S.k (ordsF S.fs) (tabsF S.fs) (R S.h) (atF S.fs i).c id n z = mx S.t (atF S.fs i).f := by
      unfold rev15_9
      rw [hr8, tab_ats I.one hi (x := ⟨(atF S.fs i).c, (atF S.fs i).w, mx S.t (atF S.fs i).f, (atF S.fs i).f, (atF S.fs i).k, S.lim, (atF S.fs i).rs⟩) rfl]
      rfl
     have hpu := push17 .imm (l := S.h) (by have := I.hlen; omega) (mx S.t (atF S.fs i).f, (atF S.fs i).c)
     have hK8 := tabsF_hasS hi (x := ⟨(atF S.fs i).c, (atF S.fs i).w, mx S.t (atF S.fs i).f, (atF S.fs i).f, (atF S.fs i).k, S.lim, (atF S.fs i).rs⟩) rfl
     have hK8' : ((List.brecOn.go (motive := fun x => (List AV → Bool) → Bool) (tabsF (S.fs.set i ⟨(atF S.fs i).c, (atF S.fs i).w, mx S.t (atF S.fs i).f, (atF S.fs i).f, (atF S.fs i).k, S.lim, (atF S.fs i).rs⟩)) List.any._f).1 fun e => keyA e == (atF S.fs i).c) = true := (hasK_go _ _).trans hK8
     refine ⟨0, _, I.set hi (x := admF S.t S.lim (atF S.fs i) id n z) rfl (Int.le_refl _) hfx I.t hbl hps.2 hp', .inr ⟨rfl, i, _, hi, rfl, hz1, hz2, rfl⟩, ⟨?_, ?_, ?_, (ords_set (x := admF S.t S.lim (atF S.fs i) id n z) hi rfl).symm, ?_⟩, fun L hL => ?_⟩
     ·unfold vev15_0; rw [hK, e2, hb, e3, decide_eq_false hbig]; rfl
     ·unfold vev15_1; rw [hK, e2, hb, e3, decide_eq_false hbig, hB.1, decide_eq_false hz, hr9]; exact hpu.1
     ·unfold vev15_2; rw [hK, e2, hb, e3, decide_eq_false hbig, hB.1, decide_eq_false hz, hr9, hr8]
      show setK _ _ _ = _
      rw [tabsF_set (I.one.set (i := i) (x := ⟨(atF S.fs i).c, (atF S.fs i).w, mx S.t (atF S.fs i).f, (atF S.fs i).f, (atF S.fs i).k, S.lim, (atF S.fs i).rs⟩) rfl) (i := i) (by simpa using hi) (by rw [set_at hi]) (admF S.t S.lim (atF S.fs i) id n z), List.set_set]
      rw [tab_ats I.one hi (x := ⟨(atF S.fs i).c, (atF S.fs i).w, mx S.t (atF S.fs i).f, (atF S.fs i).f, (atF S.fs i).k, S.lim, (atF S.fs i).rs⟩) rfl, tab_ats I.one hi (x := ⟨(atF S.fs i).c, (atF S.fs i).w, mx S.t (atF S.fs i).f, (atF S.fs i).f, (atF S.fs i).k, S.lim, (atF S.fs i).rs⟩) rfl, tab_ats I.one hi (x := ⟨(atF S.fs i).c, (atF S.fs i).w, mx S.t (atF S.fs i).f, (atF S.fs i).f, (atF S.fs i).k, S.lim, (atF S.fs i).rs⟩) rfl, tab_ats I.one hi (x := ⟨(atF S.fs i).c, (atF S.fs i).w, mx S.t (atF S.fs i).f, (atF S.fs i).f, (atF S.fs i).k, S.lim, (atF S.fs i).rs⟩) rfl, e0, e1, d4, hw]
      show _ = [_, _, _, AV.int .i64 (admF S.t S.lim (atF S.fs i) id n z).s, _, _, _, _]
      rw [hs]
      rfl
     ·unfold vev15_3; rw [hK, e2, hb, e0, e1, d1, e3, decide_eq_false hbig, b34.2, hB.1, hB.2, decide_eq_false hz, hr9, hr8, hK8', hpu.2]; rfl
     ·obtain ⟨g0, g1, g2, g3, g5, g6, g7, g8, g9, g10, g11, g12⟩ := doc L hL
      have hwith := with54 (q := S.q) (lim := S.lim) (t := S.t) (k := S.k) hL h8 hi (admF S.t S.lim (atF S.fs i) id n z)
      rw [hs] at hwith
      have hln : (((atF S.fs i).rs.length : Int) == 0) = true := beq_iff_eq.2 (by omega)
      refine ⟨?_, ?_, ?_⟩
      ·unfold vev16_0; rw [g0, hi0, g10, hb, g11, decide_eq_false hbig, g3, hln]
       unfold rev16_11 rev16_10
       rw [g2, g3, g5, g6, g7, g8, g9, hw, wk.2]
       exact hwith.1
      ·unfold vev16_1; rw [g0, hi0, g10, hb, g11, decide_eq_false hbig]; rfl
      ·unfold vev16_2; rw [g0, hi0, g1, hL.len, in2 hi, g2, g3, d2, g10, hb, g11, decide_eq_false hbig, g12, hln]
       unfold rev16_11 rev16_10
       rw [g2, g3, g5, g6, g7, g8, g9, hw, wk.2, hwith.2]
       rfl
 ·have hno : ∀ i, i < S.fs.length → (atF S.fs i).c ≠ c := fun i hi e => hex ⟨i, hi, e⟩
  have hK : hasK (tabsF S.fs) c = false := tabsF_hasNo hno
  have hx := ix_no hno
  refine ⟨6, S, I, .inl ⟨by omega, rfl⟩, ⟨?_, ?_, ?_, rfl, ?_⟩, fun L hL => ?_⟩
  ·unfold vev15_0; rw [hK]; rfl
  ·unfold vev15_1; rw [hK]; rfl
  ·unfold vev15_2; rw [hK]; rfl
  ·unfold vev15_3; rw [hK]; rfl
  ·have hp := pl46 (q := S.q) (lim := S.lim) (t := S.t) (k := S.k) (tk := .imm) hL h8 c
   refine ⟨?_, ?_, ?_⟩
   ·unfold vev16_0 rev16_0; rw [hp.1, hx]; exact hL
   ·unfold vev16_1 rev16_0; rw [hp.1, hx]; rfl
   ·unfold vev16_2 rev16_0; rw [hp.1, hp.2, hx]; rfl
end Go.Proofs.Gv
namespace Go.Proofs.Gv
open Go.Proofs
open List (Perm)
def Cw (w : Int) : Int := 720720 / w
theorem Cw_spec {w : Int} (h : 1 ≤ w ∧ w ≤ 16) : w * Cw w = 720720 ∧ 45045 ≤ Cw w ∧ Cw w ≤ 720720 := by
 have : w = 1 ∨ w = 2 ∨ w = 3 ∨ w = 4 ∨ w = 5 ∨ w = 6 ∨ w = 7 ∨ w = 8 ∨ w = 9 ∨ w = 10 ∨ w = 11 ∨ w = 12 ∨ w = 13 ∨ w = 14 ∨ w = 15 ∨ w = 16 := by omega
 rcases this with rfl | rfl | rfl | rfl | rfl | rfl | rfl | rfl | rfl | rfl | rfl | rfl | rfl | rfl | rfl | rfl <;> decide
theorem charge_b {c w : Int} (hc : 0 ≤ c) (hw : 1 ≤ w ∧ w ≤ 16) : 0 ≤ c * Cw w ∧ c * Cw w ≤ c * 720720 := by
 have h := Cw_spec hw
 exact ⟨Int.mul_nonneg hc (by omega), Int.mul_le_mul_of_nonneg_left h.2.2 hc⟩
theorem chgT {c w : Int} (hc : 0 ≤ c ∧ c ≤ 1000) (hw : 1 ≤ w ∧ w ≤ 16) : (vev101_0 c w = c * Cw w ∧ vev101_1 c w = 0 ∧ vev101_2 c w = true) ∧ (vev103_0 c w = c * Cw w ∧ vev103_1 c w = 0 ∧ vev103_2 c w = true) := by
 have hs := Cw_spec hw
 have hb := charge_b hc.1 hw
 have h78 : vev78_0 c 1099511627776 = true := by unfold vev78_0; rw [decide_eq_true (show 0 ≤ c by omega), decide_eq_true (show c ≤ 1099511627776 by omega)]; rfl
 have h79 : vev79_0 w = true := by unfold vev79_0; rw [decide_eq_true (show w > 0 by omega), decide_eq_true (show w ≤ 16 by omega)]; rfl
 have h92 : vev92_0 c 1099511627776 = true := by unfold vev92_0; rw [decide_eq_true (show c ≥ 0 by omega), decide_eq_true (show c ≤ 1099511627776 by omega)]; rfl
 have hne : (w == 0) = false := beq_eq_false_iff_ne.2 (by omega)
 have e1 : Int.tdiv 720720 w = Cw w := Int.tdiv_eq_ediv_of_nonneg (by omega)
 have e2 : (c * 720720).tdiv w = c * Cw w := by
  rw [show c * 720720 = c * Cw w * w by rw [Int.mul_assoc, Int.mul_comm (Cw w) w, hs.1], Int.mul_tdiv_cancel _ (by omega)]
 refine ⟨⟨?_, ?_, ?_⟩, ?_, ?_, ?_⟩
 ·unfold vev101_0
  rw [h78, h79, e1, wrapOf (Cw w) (by omega) (by omega), wrapOf _ (by omega) (by omega)]
  rfl
 ·unfold vev101_1; rw [h78, h79]; rfl
 ·unfold vev101_2; rw [h78, h79, hne]; rfl
 ·unfold vev103_0
  rw [h92, wrapOf (c * 720720) (by omega) (by omega), e2, wrapOf _ (by omega) (by omega), decide_eq_false (show ¬ w < 1 by omega), decide_eq_false (show ¬ w > 16 by omega)]
  rfl
 ·unfold vev103_1; rw [h92, decide_eq_false (show ¬ w < 1 by omega), decide_eq_false (show ¬ w > 16 by omega)]; rfl
 ·unfold vev103_2; rw [h92, hne, decide_eq_false (show ¬ w < 1 by omega), decide_eq_false (show ¬ w > 16 by omega)]; rfl
theorem serveT {lim k v u : Int} {x : Fl} (f : FlOK lim k x) (hu : 0 ≤ u ∧ u ≤ 1000) (hk : k + u ≤ 1099511627776) :
  (vev68_0 v x.w x.s x.f x.k u = x.s ∧ vev68_1 v x.w x.s x.f x.k u = x.s + u * Cw x.w ∧ vev68_2 v x.w x.s x.f x.k u = x.s + u * Cw x.w ∧ vev68_3 v x.w x.s x.f x.k u = x.k + u ∧ vev68_4 v x.w x.s x.f x.k u = 0 ∧ vev68_5 v x.w x.s x.f x.k u = true) ∧
  (vev71_0 v x.w x.s x.f x.k u = x.s ∧ vev71_1 v x.w x.s x.f x.k u = x.s + u * Cw x.w ∧ vev71_2 v x.w x.s x.f x.k u = x.s + u * Cw x.w ∧ vev71_3 v x.w x.s x.f x.k u = x.k + u ∧ vev71_5 v x.w x.s x.f x.k u = true) := by
 have c := chkT f (by omega)
 obtain ⟨⟨a0, a1, a2⟩, b0, b1, b2⟩ := chgT hu f.w
 have hb := charge_b hu.1 f.w
 have hs := f.s
 have hx := f.k
 have n0 : ((0 : Int) != 0) = false := rfl
 have w0 : rev68_0 v x.w x.s x.f x.k u = 1099511627776 - x.k := by unfold rev68_0; rw [wrapOf _ (by omega) (by omega)]
 have w1 : rev68_1 v x.w x.s x.f x.k u = 2305843009213693952 - x.s := by unfold rev68_1; rw [wrapOf _ (by omega) (by omega)]
 have w2 : rev71_0 v x.w x.s x.f x.k u = x.k + u := by unfold rev71_0; rw [wrapOf _ (by omega) (by omega)]
 have w3 : rev71_1 v x.w x.s x.f x.k u = x.s + u * Cw x.w := by unfold rev71_1; rw [b0, wrapOf _ (by omega) (by omega)]
 refine ⟨⟨?_, ?_, ?_, ?_, ?_, ?_⟩, ?_, ?_, ?_, ?_, ?_⟩
 ·unfold vev68_0; rw [c.1, n0, a1, n0, a0, w0, w1, decide_eq_false (show ¬ u > 1099511627776 - x.k by omega), decide_eq_false (show ¬ u * Cw x.w > 2305843009213693952 - x.s by omega)]; rfl
 ·unfold vev68_1; rw [c.1, n0, a1, n0, a0, w0, w1, decide_eq_false (show ¬ u > 1099511627776 - x.k by omega), decide_eq_false (show ¬ u * Cw x.w > 2305843009213693952 - x.s by omega), wrapOf _ (by omega) (by omega)]; rfl
 ·unfold vev68_2; rw [c.1, n0, a1, n0, a0, w0, w1, decide_eq_false (show ¬ u > 1099511627776 - x.k by omega), decide_eq_false (show ¬ u * Cw x.w > 2305843009213693952 - x.s by omega), wrapOf _ (by omega) (by omega)]; rfl
 ·unfold vev68_3; rw [c.1, n0, a1, n0, a0, w0, w1, decide_eq_false (show ¬ u > 1099511627776 - x.k by omega), decide_eq_false (show ¬ u * Cw x.w > 2305843009213693952 - x.s by omega), wrapOf _ (by omega) (by omega)]; rfl
 ·unfold vev68_4; rw [c.1, n0, a1, n0, a0, w0, w1, decide_eq_false (show ¬ u > 1099511627776 - x.k by omega), decide_eq_false (show ¬ u * Cw x.w > 2305843009213693952 - x.s by omega)]; rfl
 ·unfold vev68_5; rw [c.1, n0, a2]; rfl
 ·unfold vev71_0; rw [c.2, n0, b1, n0, w2, w3, decide_eq_false (show ¬ x.k + u > 1099511627776 by omega), decide_eq_false (show ¬ x.s + u * Cw x.w > 2305843009213693952 by omega)]; rfl
 ·unfold vev71_1; rw [c.2, n0, b1, n0, w2, w3, decide_eq_false (show ¬ x.k + u > 1099511627776 by omega), decide_eq_false (show ¬ x.s + u * Cw x.w > 2305843009213693952 by omega)]; rfl
 ·unfold vev71_2; rw [c.2, n0, b1, n0, w2, w3, decide_eq_false (show ¬ x.k + u > 1099511627776 by omega), decide_eq_false (show ¬ x.s + u * Cw x.w > 2305843009213693952 by omega)]; rfl
 ·unfold vev71_3; rw [c.2, n0, b1, n0, w2, w3, decide_eq_false (show ¬ x.k + u > 1099511627776 by omega), decide_eq_false (show ¬ x.s + u * Cw x.w > 2305843009213693952 by omega)]; rfl
 ·unfold vev71_5; rw [c.2, n0, b2]; rfl
def keyF (x : Fl) : It := (x.s, x.c)
def nxF (fs : List Fl) : Nat → Int
 | 0 => -1
 | j + 1 => if (atF fs j).rs.length = 0 then nxF fs j else if nxF fs j < 0 then (j : Int) else if ltI (keyF (atF fs j)) (keyF (atF fs (nxF fs j).toNat)) = true then (j : Int) else nxF fs j
def LeastF (fs : List Fl) (n a : Nat) : Prop := a < n ∧ 0 < (atF fs a).rs.length ∧ ∀ b, b < n → 0 < (atF fs b).rs.length → ltI (keyF (atF fs b)) (keyF (atF fs a)) = false
theorem nxF_spec (fs : List Fl) : ∀ n, (nxF fs n = -1 ∧ ∀ b, b < n → (atF fs b).rs.length = 0) ∨ ∃ a : Nat, nxF fs n = (a : Int) ∧ LeastF fs n a := by
 intro n
 induction n with
 | zero => exact .inl ⟨rfl, fun b hb => by omega⟩
 | succ n ih =>
   unfold nxF
   by_cases hz : (atF fs n).rs.length = 0
   ·rw [if_pos hz]
    rcases ih with ⟨h1, h2⟩ | ⟨a, h1, h2, h3, h4⟩
    ·refine .inl ⟨h1, fun b hb => ?_⟩
     by_cases e : b = n
     ·rw [e]; exact hz
     ·exact h2 b (by omega)
    ·refine .inr ⟨a, h1, by omega, h3, fun b hb h => ?_⟩
     by_cases e : b = n
     ·rw [e] at h; omega
     ·exact h4 b (by omega) h
   ·rw [if_neg hz]
    rcases ih with ⟨h1, h2⟩ | ⟨a, h1, h2, h3, h4⟩
    ·rw [h1, if_pos (by omega)]
     refine .inr ⟨n, rfl, by omega, by omega, fun b hb h => ?_⟩
     by_cases e : b = n
     ·rw [e]; exact ltI_irr _
     ·have := h2 b (by omega); omega
    ·rw [h1, if_neg (by omega), Int.toNat_natCast]
     cases hlt : ltI (keyF (atF fs n)) (keyF (atF fs a)) with
     | true =>
       rw [if_pos rfl]
       refine .inr ⟨n, rfl, by omega, by omega, fun b hb h => ?_⟩
       by_cases e : b = n
       ·rw [e]; exact ltI_irr _
       ·exact leI_trans (ltI_asym hlt) (h4 b (by omega) h)
     | false =>
       rw [if_neg (by simp)]
       refine .inr ⟨a, rfl, by omega, h3, fun b hb h => ?_⟩
       by_cases e : b = n
       ·rw [e]; exact hlt
       ·exact h4 b (by omega) h
theorem LeastF.nx {fs : List Fl} (h1 : OneF fs) {i : Nat} (h : LeastF fs fs.length i) : nxF fs fs.length = (i : Int) := by
 rcases nxF_spec fs fs.length with ⟨_, h2⟩ | ⟨a, e, a1, a2, a3⟩
 ·have := h2 i h.1
  have := h.2.1
  omega
 ·have e1 := h.2.2 a a1 a2
  have e2 := a3 i h.1 h.2.1
  have := leI_antisymm e2 e1
  have hc : (atF fs a).c = (atF fs i).c := congrArg Prod.snd this
  rw [e, h1 i a h.1 a1 hc]
section
variable {q lim t k : Int} {fs : List Fl} {L : List (List AV)} {tk : Tk}
theorem ends69 (hL : Lk L fs) (h8 : fs.length ≤ 8) : Ends (g69_3 (q, lim, tk, L, t, k)) (n69_3 (q, lim, tk, L, t, k)) ((-1 : Int), (0 : Int)) (nxF fs fs.length, (fs.length : Int)) := by
 refine Ends.count (go := g69_3 (q, lim, tk, L, t, k)) (next := n69_3 (q, lim, tk, L, t, k)) fs.length (fun i => (nxF fs i, (i : Int))) (fun i hi => ?_) ?_
 ·have hc := hL.cells hi
  have hlt : decide ((i : Int) < (fs.length : Int)) = true := decide_eq_true (by omega)
  have e0 : ∀ a, rn69_3_0 a (i : Int) q lim tk L t k = (atF fs i).s := fun a => hc.2.2.1
  have e2 : ∀ a, rn69_3_2 a (i : Int) q lim tk L t k = (atF fs i).c := fun a => hc.1
  have hn : nx69_3_1 (nxF fs i) (i : Int) q lim tk L t k = ((i + 1 : Nat) : Int) := nxt8 i _ hi h8
  have key : go69_3 (nxF fs i) (i : Int) q lim tk L t k = true ∧ nx69_3_0 (nxF fs i) (i : Int) q lim tk L t k = nxF fs (i + 1) := by
   unfold go69_3 nx69_3_0
   rw [hL.len, in2 hi, hlt, hc.2.2.2.2.2.2, e0, e2]
   by_cases hz : (atF fs i).rs.length = 0
   ·have hz' : (((atF fs i).rs.length : Int) == 0) = true := beq_iff_eq.2 (by omega)
    rw [hz']
    refine ⟨rfl, ?_⟩
    show nxF fs i = _
    conv => rhs; unfold nxF
    rw [if_pos hz]
   ·have hz' : (((atF fs i).rs.length : Int) == 0) = false := beq_eq_false_iff_ne.2 (by omega)
    rw [hz']
    conv => rhs; rhs; unfold nxF
    rw [if_neg hz]
    rcases nxF_spec fs i with ⟨h1, h2⟩ | ⟨a, h1, h2, h3, h4⟩
    ·rw [h1, if_pos (by omega), decide_eq_true (show (-1 : Int) < 0 by omega)]
     exact ⟨rfl, rfl⟩
    ·have ha : a < fs.length := by omega
     have hca := hL.cells ha
     have e1 : rn69_3_1 (a : Int) (i : Int) q lim tk L t k = (atF fs a).s := hca.2.2.1
     have e3 : rn69_3_3 (a : Int) (i : Int) q lim tk L t k = (atF fs a).c := hca.1
     rw [h1, if_neg (by omega), decide_eq_false (show ¬ (a : Int) < 0 by omega), in2 ha, e1, e3, Int.toNat_natCast]
     unfold ltI keyF
     dsimp only
     cases decide ((atF fs i).s < (atF fs a).s) with
     | true => exact ⟨rfl, rfl⟩
     | false =>
       cases ((atF fs i).s == (atF fs a).s) with
       | false => exact ⟨rfl, rfl⟩
       | true =>
         cases decide ((atF fs i).c < (atF fs a).c) with
         | false => exact ⟨rfl, rfl⟩
         | true => exact ⟨rfl, rfl⟩
  refine ⟨key.1, ?_⟩
  show (nx69_3_0 (nxF fs i) (i : Int) q lim tk L t k, nx69_3_1 (nxF fs i) (i : Int) q lim tk L t k) = _
  rw [key.2, hn]
 ·show go69_3 (nxF fs fs.length) (fs.length : Int) q lim tk L t k = false
  unfold go69_3
  rw [hL.len, decide_eq_false (by omega)]
  rfl
theorem nx69 (hL : Lk L fs) (h8 : fs.length ≤ 8) : vev69_0 q lim t k tk L = nxF fs fs.length ∧ vev69_1 q lim t k tk L = true := by
 have h := (ends69 (q := q) (lim := lim) (t := t) (k := k) (tk := tk) hL h8).fin
 unfold vev69_0 vev69_1 rev69_0
 simp only [spI]
 rw [h.2, h.1]
 unfold z69_3 xc69_3_0
 dsimp only
 rw [hL.len, decide_eq_false (show ¬ (fs.length : Int) < (fs.length : Int) by omega)]
 exact ⟨rfl, rfl⟩
end
end Go.Proofs.Gv
namespace Go.Proofs.Gv
open Go.Proofs
open List (Perm)
abbrev srvF (q lim : Int) (x : Fl) (k : Nat) : Fl := ⟨x.c, x.w, x.s + un x.rs k q * Cw x.w, x.s + un x.rs k q * Cw x.w, x.k + un x.rs k q, lim, sv x.rs k q⟩
structure SrvOK (S S' : Sc) (i k : Nat) : Prop where
 hi : i < S.fs.length
 hk : k < (atF S.fs i).rs.length
 nx : nx S.lim (atF S.fs i).rs = (k : Int)
 least : LeastF S.fs S.fs.length i
 st : ∃ h', S' = ⟨S.q, S.lim, (atF S.fs i).s, S.k + un (atF S.fs i).rs k S.q, S.fs.set i (srvF S.q S.lim (atF S.fs i) k), h'⟩
structure Tld where
 c : Int
 i : Int
 u : Int
 l : Int
 b : Bool
theorem idle_all {fs : List Fl} (h : busyF fs = []) : ∀ b, b < fs.length → (atF fs b).rs.length = 0 := by
 intro b hb
 by_cases e : 0 < (atF fs b).rs.length
 ·have := busy_at hb
  rw [h] at this
  have hz : bz (atF fs b) = [((atF fs b).s, (atF fs b).c)] := if_pos e
  rw [hz] at this
  have := congrArg List.length this
  simp at this
 ·omega
theorem serve31 {S : Sc} (I : Inv S) : ∃ (o : Tld) (S' : Sc), Inv S' ∧ ((busyF S.fs = [] ∧ S' = S ∧ o = ⟨0, 0, 0, 0, false⟩) ∨ (∃ i k, SrvOK S S' i k ∧ o = ⟨(atF S.fs i).c, q0 (atF S.fs i).rs k, un (atF S.fs i).rs k S.q, q2 (atF S.fs i).rs k - un (atF S.fs i).rs k S.q, true⟩)) ∧
  ((vev31_0 S.q S.lim S.t S.k (ordsF S.fs) (tabsF S.fs) (R S.h) = o.c ∧ vev31_1 S.q S.lim S.t S.k (ordsF S.fs) (tabsF S.fs) (R S.h) = o.i ∧ vev31_2 S.q S.lim S.t S.k (ordsF S.fs) (tabsF S.fs) (R S.h) = o.u ∧ vev31_3 S.q S.lim S.t S.k (ordsF S.fs) (tabsF S.fs) (R S.h) = o.l ∧ vev31_4 S.q S.lim S.t S.k (ordsF S.fs) (tabsF S.fs) (R S.h) = o.b) ∧
    (vev31_5 S.q S.lim S.t S.k (ordsF S.fs) (tabsF S.fs) (R S.h) = R S'.h ∧ vev31_6 S.q S.lim S.t S.k (ordsF S.fs) (tabsF S.fs) (R S.h) = S'.t ∧ vev31_7 S.q S.lim S.t S.k (ordsF S.fs) (tabsF S.fs) (R S.h) = S'.k ∧ vev31_8 S.q S.lim S.t S.k (ordsF S.fs) (tabsF S.fs) (R S.h) = tabsF S'.fs ∧ ordsF S.fs = ordsF S'.fs ∧ S'.q = S.q ∧ S'.lim = S.lim ∧ vev31_9 S.q S.lim S.t S.k (ordsF S.fs) (tabsF S.fs) (R S.h) = true)) ∧
  ∀ L, Lk L S.fs → (vev32_3 S.q S.lim S.t S.k L = o.c ∧ vev32_4 S.q S.lim S.t S.k L = o.i ∧ vev32_5 S.q S.lim S.t S.k L = o.u ∧ vev32_6 S.q S.lim S.t S.k L = o.l ∧ vev32_7 S.q S.lim S.t S.k L = o.b) ∧ Lk (vev32_0 S.q S.lim S.t S.k L) S'.fs ∧ vev32_1 S.q S.lim S.t S.k L = S'.t ∧ vev32_2 S.q S.lim S.t S.k L = S'.k ∧ vev32_8 S.q S.lim S.t S.k L = true := by
 have h8 := I.len
 have hl := I.hlen
 obtain ⟨p3, p4, p0, p12⟩ := pop18 .imm (l := S.h) (by omega)
 by_cases h0 : 0 < S.h.length
 ·rw [decide_eq_true h0] at p3 p0
  rw [cond_true, own_of_heap I.hp] at p0
  have p1 := (p12 h0).1
  have p2 := (p12 h0).2
  rw [own_of_heap I.hp] at p1 p2
  have hm : at' S.h 0 ∈ busyF S.fs := I.pm.mem_iff.1 (at_mem h0)
  obtain ⟨x, hx, hk0, hb⟩ := mem_busy hm
  obtain ⟨i, hi, rfl⟩ := mem_atF hx
  have hlst : LeastF S.fs S.fs.length i := by
   refine ⟨hi, hb, fun b hb1 hb2 => ?_⟩
   have hmb : keyF (atF S.fs b) ∈ S.h := I.pm.mem_iff.2 (by
    rw [busy_at hb1]
    have : bz (atF S.fs b) = [((atF S.fs b).s, (atF S.fs b).c)] := if_pos hb2
    rw [this]
    simp [keyF])
   obtain ⟨j, hj, e⟩ := List.mem_iff_getElem.1 hmb
   have := heap_min I.hp j hj
   rw [at_lt hj, e, hk0] at this
   exact this
  have p2' : vev66_2 Tk.imm (R S.h) = (atF S.fs i).c := by rw [p2, hk0]
  have f := I.fl i hi
  obtain ⟨k, hk, hn, _⟩ := nx_some f.g hb
  have hN : (atF S.fs i).rs.length ≤ 1000 := by have := f.g.len; omega
  obtain ⟨s0, s1, s3, s5⟩ := s70 f.g hk hn I.q.1
  obtain ⟨⟨c0, c1, _, c3, _, c5⟩, c6, d6⟩ := r14 (l := S.lim) (es := (atF S.fs i).rs) (q := S.q) hN
  have hu := un_le f.g hk I.q.1
  have hq := I.q
  have hbl := I.bl
  have hq2 := f.g.q2b hk
  have hlw : un (atF S.fs i).rs k S.q ≤ blL S.fs := by
   have h1 := blL_at hi
   have h2 := lfQ_sv hk S.q
   have h3 := (lfQ_b (sv_good f.g hk I.q.1)).1
   have h4 : 0 ≤ blL (S.fs.take i) := by
    rw [← blF_eq]
    refine (blN_b (lim := S.lim) (fs := S.fs.take i) (fun j hj => ?_) _ (Nat.le_refl _)).1
    have hj' : j < i := by rw [List.length_take] at hj; omega
    have e : atF (S.fs.take i) j = atF S.fs j := by unfold atF; rw [List.getD_eq_getElem?_getD, List.getD_eq_getElem?_getD, List.getElem?_take_of_lt hj']
    rw [e]; exact I.gd j (by omega)
   have h5 : 0 ≤ blL (S.fs.drop (i + 1)) := by
    rw [← blF_eq]
    refine (blN_b (lim := S.lim) (fs := S.fs.drop (i + 1)) (fun j hj => ?_) _ (Nat.le_refl _)).1
    have hj' : i + 1 + j < S.fs.length := by rw [List.length_drop] at hj; omega
    have e : atF (S.fs.drop (i + 1)) j = atF S.fs (i + 1 + j) := by unfold atF; rw [List.getD_eq_getElem?_getD, List.getD_eq_getElem?_getD, List.getElem?_drop]
    rw [e]; exact I.gd _ hj'
   omega
  have hkk := I.k.1
  obtain ⟨⟨a0, a1, a2, a3, a4, a5⟩, b0, b1, b2, b3, b5⟩ := serveT (v := S.t) f (u := un (atF S.fs i).rs k S.q) (by omega) (by omega)
  have hcb := charge_b (c := un (atF S.fs i).rs k S.q) (by omega) f.w
  have hfx : FlOK S.lim (S.k + un (atF S.fs i).rs k S.q) (srvF S.q S.lim (atF S.fs i) k) := by
   have h1 := f.s
   have h2 := f.k
   refine ⟨f.c, f.w, ?_, ?_, ?_, rfl, sv_good f.g hk I.q.1, RowQ_iff.2 ((RowQ_iff.1 f.r).sv k S.q)⟩
   ·show 0 ≤ (atF S.fs i).s + un (atF S.fs i).rs k S.q * Cw (atF S.fs i).w ∧ (atF S.fs i).s + un (atF S.fs i).rs k S.q * Cw (atF S.fs i).w ≤ (S.k + un (atF S.fs i).rs k S.q) * 720720
    omega
   ·show 0 ≤ (atF S.fs i).s + un (atF S.fs i).rs k S.q * Cw (atF S.fs i).w ∧ (atF S.fs i).s + un (atF S.fs i).rs k S.q * Cw (atF S.fs i).w ≤ (S.k + un (atF S.fs i).rs k S.q) * 720720
    omega
   ·show 0 ≤ (atF S.fs i).k + un (atF S.fs i).rs k S.q ∧ (atF S.fs i).k + un (atF S.fs i).rs k S.q ≤ S.k + un (atF S.fs i).rs k S.q
    omega
  have hbl' : S.k + un (atF S.fs i).rs k S.q + (blL S.fs - lfQ (atF S.fs i).rs + lfQ (sv (atF S.fs i).rs k S.q)) ≤ 1099511627776 := by
   rw [lfQ_sv hk]; omega
  have ht' : 0 ≤ (atF S.fs i).s ∧ (atF S.fs i).s ≤ (S.k + un (atF S.fs i).rs k S.q) * 720720 := by
   have := f.s
   omega
  obtain ⟨hc1, hc2⟩ := cutH_spec I.hp h0
  have hpm := I.pm
  have hbzi : bz (atF S.fs i) = [((atF S.fs i).s, (atF S.fs i).c)] := if_pos hb
  rw [busy_at hi, hbzi] at hpm
  have hrest : Perm (cutH S.h 0) (busyF (S.fs.take i) ++ busyF (S.fs.drop (i + 1))) := by
   have h1 : Perm (at' S.h 0 :: S.h.eraseIdx 0) (at' S.h 0 :: (busyF (S.fs.take i) ++ busyF (S.fs.drop (i + 1)))) := by
    refine (erase_perm h0).trans (hpm.trans ?_)
    rw [hk0]
    simp
   exact hc1.trans h1.cons_inv
  have e0 : rev31_0 S.q S.lim S.t S.k (ordsF S.fs) (tabsF S.fs) (R S.h) = S.lim := by unfold rev31_0; rw [p2', tab_at I.one hi]; exact f.l
  have e1 : rev31_1 S.q S.lim S.t S.k (ordsF S.fs) (tabsF S.fs) (R S.h) = (atF S.fs i).rs := by unfold rev31_1; rw [p2', tab_at I.one hi]; rfl
  have e2 : rev31_2 S.q S.lim S.t S.k (ordsF S.fs) (tabsF S.fs) (R S.h) = (atF S.fs i).w := by unfold rev31_2; rw [p2', tab_at I.one hi]; rfl
  have e3 : rev31_3 S.q S.lim S.t S.k (ordsF S.fs) (tabsF S.fs) (R S.h) = (atF S.fs i).s := by unfold rev31_3; rw [p2', tab_at I.one hi]; rfl
  have e4 : rev31_4 S.q S.lim S.t S.k (ordsF S.fs) (tabsF S.fs) (R S.h) = (atF S.fs i).f := by unfold rev31_4; rw [p2', tab_at I.one hi]; rfl
  have e5 : rev31_5 S.q S.lim S.t S.k (ordsF S.fs) (tabsF S.fs) (R S.h) = (atF S.fs i).k := by unfold rev31_5; rw [p2', tab_at I.one hi]; rfl
  have e6 : rev31_6 S.q S.lim S.t S.k (ordsF S.fs) (tabsF S.fs) (R S.h) = un (atF S.fs i).rs k S.q := by unfold rev31_6; rw [e0, e1, s5]
  have e7 : rev31_7 S.q S.lim S.t S.k (ordsF S.fs) (tabsF S.fs) (R S.h) = tabsF (S.fs.set i ⟨(atF S.fs i).c, (atF S.fs i).w, (atF S.fs i).s, (atF S.fs i).f, (atF S.fs i).k, S.lim, sv (atF S.fs i).rs k S.q⟩) := by
   unfold rev31_7
   rw [p2']
   refine tabsF_set I.one hi rfl _ ?_
   rw [e0, e1, e2, e3, e4, e5, s0, tab_at I.one hi]
   rfl
  have e8 : rev31_8 S.q S.lim S.t S.k (ordsF S.fs) (tabsF S.fs) (R S.h) = (atF S.fs i).s + un (atF S.fs i).rs k S.q * Cw (atF S.fs i).w := by unfold rev31_8; rw [e2, e3, e4, e5, e6, a1]
  have e9 : rev31_9 S.q S.lim S.t S.k (ordsF S.fs) (tabsF S.fs) (R S.h) = tabsF (S.fs.set i (srvF S.q S.lim (atF S.fs i) k)) := by
   unfold rev31_9
   rw [p2', e7, e2, e3, e4, e5, e6, e8, a2, a3]
   rw [tabsF_set (I.one.set (i := i) (x := ⟨(atF S.fs i).c, (atF S.fs i).w, (atF S.fs i).s, (atF S.fs i).f, (atF S.fs i).k, S.lim, sv (atF S.fs i).rs k S.q⟩) rfl) (i := i) (by simpa using hi) (by rw [set_at hi]) (srvF S.q S.lim (atF S.fs i) k), List.set_set]
   rw [tab_ats I.one hi (x := ⟨(atF S.fs i).c, (atF S.fs i).w, (atF S.fs i).s, (atF S.fs i).f, (atF S.fs i).k, S.lim, sv (atF S.fs i).rs k S.q⟩) rfl, tab_ats I.one hi (x := ⟨(atF S.fs i).c, (atF S.fs i).w, (atF S.fs i).s, (atF S.fs i).f, (atF S.fs i).k, S.lim, sv (atF S.fs i).rs k S.q⟩) rfl, tab_ats I.one hi (x := ⟨(atF S.fs i).c, (atF S.fs i).w, (atF S.fs i).s, (atF S.fs i).f, (atF S.fs i).k, S.lim, sv (atF S.fs i).rs k S.q⟩) rfl]
   rfl
  have e10 : rev31_10 S.q S.lim S.t S.k (ordsF S.fs) (tabsF S.fs) (R S.h) = (atF S.fs i).c := by
   unfold rev31_10
   rw [p2', e9, tab_ats I.one hi (x := srvF S.q S.lim (atF S.fs i) k) rfl]
   rfl
  have hB := busy48s I.one hi (x := srvF S.q S.lim (atF S.fs i) k) rfl
  have h77 : ((0 : Int) != 0) = false := rfl
  have hK7 := tabsF_hasS hi (x := ⟨(atF S.fs i).c, (atF S.fs i).w, (atF S.fs i).s, (atF S.fs i).f, (atF S.fs i).k, S.lim, sv (atF S.fs i).rs k S.q⟩) rfl
  have hK7' : ((List.brecOn.go (motive := fun x => (List AV → Bool) → Bool) (tabsF (S.fs.set i ⟨(atF S.fs i).c, (atF S.fs i).w, (atF S.fs i).s, (atF S.fs i).f, (atF S.fs i).k, S.lim, sv (atF S.fs i).rs k S.q⟩)) List.any._f).1 fun e => keyA e == (atF S.fs i).c) = true := (hasK_go _ _).trans hK7
  have hK9 := tabsF_hasS hi (x := srvF S.q S.lim (atF S.fs i) k) rfl
  have hK9' : ((List.brecOn.go (motive := fun x => (List AV → Bool) → Bool) (tabsF (S.fs.set i (srvF S.q S.lim (atF S.fs i) k))) List.any._f).1 fun e => keyA e == (atF S.fs i).c) = true := (hasK_go _ _).trans hK9
  have hcl : (cutH S.h 0).length ≤ 8 := by
   have := hc1.length_eq
   rw [List.length_eraseIdx] at this
   split at this <;> omega
  have hpu := push17 .imm (l := cutH S.h 0) (by omega) ((atF S.fs i).s + un (atF S.fs i).rs k S.q * Cw (atF S.fs i).w, (atF S.fs i).c)
  have hpf : ∃ h', (bif decide (0 < (sv (atF S.fs i).rs k S.q).length) then vev50_0 Tk.imm (R (cutH S.h 0)) ((atF S.fs i).s + un (atF S.fs i).rs k S.q * Cw (atF S.fs i).w) (atF S.fs i).c else R (cutH S.h 0)) = R h' ∧ HeapL h' ∧ Perm h' (busyF (S.fs.set i (srvF S.q S.lim (atF S.fs i) k))) := by
   rw [busy_set hi]
   unfold bz
   by_cases hz : 0 < (sv (atF S.fs i).rs k S.q).length
   ·have hps := pushH_spec (cutH S.h 0) ((atF S.fs i).s + un (atF S.fs i).rs k S.q * Cw (atF S.fs i).w, (atF S.fs i).c)
    refine ⟨pushH (cutH S.h 0) ((atF S.fs i).s + un (atF S.fs i).rs k S.q * Cw (atF S.fs i).w, (atF S.fs i).c), by rw [decide_eq_true hz]; exact hpu.1, hps.2, ?_⟩
    rw [if_pos hz]
    have h1 := (List.perm_append_comm (l₁ := cutH S.h 0) (l₂ := [((atF S.fs i).s + un (atF S.fs i).rs k S.q * Cw (atF S.fs i).w, (atF S.fs i).c)])).trans (hrest.append_left [((atF S.fs i).s + un (atF S.fs i).rs k S.q * Cw (atF S.fs i).w, (atF S.fs i).c)])
    have h3 := (List.perm_middle (a := ((atF S.fs i).s + un (atF S.fs i).rs k S.q * Cw (atF S.fs i).w, (atF S.fs i).c)) (l₁ := busyF (S.fs.take i)) (l₂ := busyF (S.fs.drop (i + 1)))).symm
    exact hps.1.trans (h1.trans h3)
   ·refine ⟨cutH S.h 0, by rw [decide_eq_false hz]; rfl, hc2, ?_⟩
    rw [if_neg hz]
    simpa using hrest
  obtain ⟨h', k1, k2, k3⟩ := hpf
  refine ⟨⟨(atF S.fs i).c, q0 (atF S.fs i).rs k, un (atF S.fs i).rs k S.q, q2 (atF S.fs i).rs k - un (atF S.fs i).rs k S.q, true⟩, _, I.set hi (x := srvF S.q S.lim (atF S.fs i) k) rfl (by omega) hfx ht' hbl' k2 k3, .inr ⟨i, k, ⟨hi, hk, hn, hlst, h', rfl⟩, rfl⟩, ⟨⟨?_, ?_, ?_, ?_, ?_⟩, ?_, ?_, ?_, ?_, (ords_set (x := srvF S.q S.lim (atF S.fs i) k) hi rfl).symm, rfl, rfl, ?_⟩, fun L hL => ?_⟩
  ·unfold vev31_0; rw [p3, e2, e3, e4, e5, e6, a4, e10]; rfl
  ·unfold vev31_1; rw [p3, e2, e3, e4, e5, e6, a4, e0, e1, s1]; rfl
  ·unfold vev31_2; rw [p3, e2, e3, e4, e5, e6, a4]; rfl
  ·unfold vev31_3; rw [p3, e2, e3, e4, e5, e6, a4, e0, e1, s3]; rfl
  ·unfold vev31_4; rw [p3, e2, e3, e4, e5, e6, a4]; rfl
  ·unfold vev31_5; rw [p3, e2, e3, e4, e5, e6, a4, p0, p2', e8, e9, e10, hB.1]; exact k1
  ·unfold vev31_6; rw [p3, e2, e3, e4, e5, e6, a4, a0]; rfl
  ·unfold vev31_7; rw [p3, e2, e3, e4, e5, e6, a4, wrapOf _ (by omega) (by omega)]; rfl
  ·unfold vev31_8; rw [p3, e2, e3, e4, e5, e6, a4, e9]; rfl
  ·unfold vev31_9
   rw [p3, p4, p2', e0, e1, e2, e3, e4, e5, e6, a4, a5, c6, e7, e8, e9, e10, hK7', hK9', hB.1, hB.2, p0, hpu.2, tabsF_hasAt hi]
   cases decide (0 < (srvF S.q S.lim (atF S.fs i) k).rs.length) <;> rfl
  ·have hx69 := nx69 (q := S.q) (lim := S.lim) (t := S.t) (k := S.k) (tk := .imm) hL h8
   have hni := hlst.nx I.one
   rw [hni] at hx69
   obtain ⟨n0, n1⟩ := hx69
   have hc := hL.cells hi
   have hi0 : decide ((i : Int) < 0) = false := decide_eq_false (by omega)
   have g0 : rev32_0 S.q S.lim S.t S.k L = S.lim := by unfold rev32_0; rw [n0]; exact hc.2.2.2.2.2.1.trans f.l
   have g1 : rev32_1 S.q S.lim S.t S.k L = (atF S.fs i).rs := by unfold rev32_1; rw [n0]; exact hc.2.2.2.2.2.2
   have g2 : rev32_2 S.q S.lim S.t S.k L = (atF S.fs i).w := by unfold rev32_2; rw [n0]; exact hc.2.1
   have g3 : rev32_3 S.q S.lim S.t S.k L = (atF S.fs i).s := by unfold rev32_3; rw [n0]; exact hc.2.2.1
   have g4 : rev32_4 S.q S.lim S.t S.k L = (atF S.fs i).f := by unfold rev32_4; rw [n0]; exact hc.2.2.2.1
   have g5 : rev32_5 S.q S.lim S.t S.k L = (atF S.fs i).k := by unfold rev32_5; rw [n0]; exact hc.2.2.2.2.1
   have g6 : rev32_6 S.q S.lim S.t S.k L = un (atF S.fs i).rs k S.q := by unfold rev32_6; rw [g0, g1, ← c5, s5]
   have g7 : rev32_7 S.q S.lim S.t S.k L = (atF S.fs i).s := by unfold rev32_7; rw [g2, g3, g4, g5, g6, b0]
   have g8 : rev32_8 S.q S.lim S.t S.k L = S.k + un (atF S.fs i).rs k S.q := by unfold rev32_8; rw [g6, wrapOf _ (by omega) (by omega)]
   have g9 : rev32_9 S.q S.lim S.t S.k L = (atF S.fs i).c := by unfold rev32_9; rw [n0]; exact hc.1
   have g10 : rev32_10 S.q S.lim S.t S.k L = (atF S.fs i).s + un (atF S.fs i).rs k S.q * Cw (atF S.fs i).w := by unfold rev32_10; rw [g2, g3, g4, g5, g6, b1]
   have g11 : rev32_11 S.q S.lim S.t S.k L = (atF S.fs i).s + un (atF S.fs i).rs k S.q * Cw (atF S.fs i).w := by unfold rev32_11; rw [g2, g3, g4, g5, g6, b2]
   have g12 : rev32_12 S.q S.lim S.t S.k L = (atF S.fs i).k + un (atF S.fs i).rs k S.q := by unfold rev32_12; rw [g2, g3, g4, g5, g6, b3]
   have g13 : rev32_13 S.q S.lim S.t S.k L = sv (atF S.fs i).rs k S.q := by unfold rev32_13; rw [g0, g1, ← c0, s0]
   have hwith := with54 (q := S.q) (lim := S.lim) (t := (atF S.fs i).s) (k := S.k + un (atF S.fs i).rs k S.q) hL h8 hi (srvF S.q S.lim (atF S.fs i) k)
   refine ⟨⟨?_, ?_, ?_, ?_, ?_⟩, ?_, ?_, ?_, ?_⟩
   ·unfold vev32_3; rw [n0, hi0, g9]; rfl
   ·unfold vev32_4; rw [n0, hi0, g0, g1, ← c1, s1]; rfl
   ·unfold vev32_5; rw [n0, hi0, g6]; rfl
   ·unfold vev32_6; rw [n0, hi0, g0, g1, ← c3, s3]; rfl
   ·unfold vev32_7; rw [n0, hi0]; rfl
   ·unfold vev32_0; rw [n0, hi0, g0, g2, g7, g8, g9, g10, g11, g12, g13]; exact hwith.1
   ·unfold vev32_1; rw [n0, hi0, g7]; rfl
   ·unfold vev32_2; rw [n0, hi0, g8]; rfl
   ·unfold vev32_8; rw [n1, n0, hi0, hL.len, in2 hi, g0, g1, d6, g2, g3, g4, g5, g6, b5, g7, g8, g9, g10, g11, g12, g13, hwith.2]; rfl
 ·have hz : S.h = [] := List.length_eq_zero_iff.1 (by omega)
  have hbz : busyF S.fs = [] := by
   have := I.pm
   rw [hz] at this
   exact this.nil_eq.symm
  rw [decide_eq_false h0] at p3
  refine ⟨⟨0, 0, 0, 0, false⟩, S, I, .inl ⟨hbz, rfl, rfl⟩, ⟨⟨?_, ?_, ?_, ?_, ?_⟩, ?_, ?_, ?_, ?_, rfl, rfl, rfl, ?_⟩, fun L hL => ?_⟩
  ·unfold vev31_0; rw [p3]; rfl
  ·unfold vev31_1; rw [p3]; rfl
  ·unfold vev31_2; rw [p3]; rfl
  ·unfold vev31_3; rw [p3]; rfl
  ·unfold vev31_4; rw [p3]; rfl
  ·unfold vev31_5; rw [p3]; rfl
  ·unfold vev31_6; rw [p3]; rfl
  ·unfold vev31_7; rw [p3]; rfl
  ·unfold vev31_8; rw [p3]; rfl
  ·unfold vev31_9; rw [p3, p4]; rfl
  ·have hx69 := nx69 (q := S.q) (lim := S.lim) (t := S.t) (k := S.k) (tk := .imm) hL h8
   have hni : nxF S.fs S.fs.length = -1 := by
    rcases nxF_spec S.fs S.fs.length with ⟨h1, _⟩ | ⟨a, _, h2, h3, _⟩
    ·exact h1
    ·have := idle_all hbz a h2
     omega
   rw [hni] at hx69
   obtain ⟨n0, n1⟩ := hx69
   have hi0 : decide ((-1 : Int) < 0) = true := rfl
   refine ⟨⟨?_, ?_, ?_, ?_, ?_⟩, ?_, ?_, ?_, ?_⟩
   ·unfold vev32_3; rw [n0, hi0]; rfl
   ·unfold vev32_4; rw [n0, hi0]; rfl
   ·unfold vev32_5; rw [n0, hi0]; rfl
   ·unfold vev32_6; rw [n0, hi0]; rfl
   ·unfold vev32_7; rw [n0, hi0]; rfl
   ·unfold vev32_0; rw [n0, hi0]; exact hL
   ·unfold vev32_1; rw [n0, hi0]; rfl
   ·unfold vev32_2; rw [n0, hi0]; rfl
   ·unfold vev32_8; rw [n1, n0, hi0]; rfl
end Go.Proofs.Gv
namespace Go.Proofs.Gv
open Go.Proofs
noncomputable def rn7_8_0 (c : LL) (d e f g h : Int) (i : LL) (j k : Int) (a b : LL) : Int := intOf ((c.getD f.toNat []).getD (0 + 1) AV.junk)
noncomputable def rn7_8_1 (c : LL) (d e f g h : Int) (i : LL) (j k : Int) (a b : LL) : Int := intOf ((c.getD f.toNat []).getD (0 + 1 + 1 + 1) AV.junk)
noncomputable def rn7_8_2 (c : LL) (d e f g h : Int) (i : LL) (j k : Int) (a b : LL) : LL := vev13_1 g h j k a b i (rn7_8_0 c d e f g h i j k a b) (rn7_8_1 c d e f g h i j k a b)
noncomputable def rn7_8_3 (c : LL) (d e f g h : Int) (i : LL) (j k : Int) (a b : LL) : LL := vev13_2 g h j k a b i (rn7_8_0 c d e f g h i j k a b) (rn7_8_1 c d e f g h i j k a b)
noncomputable def rn7_8_4 (c : LL) (d e f g h : Int) (i : LL) (j k : Int) (a b : LL) : LL := vev27_3 g h j k a b i (rn7_8_0 c d e f g h i j k a b)
noncomputable def rn7_8_5 (c : LL) (d e f g h : Int) (i : LL) (j k : Int) (a b : LL) : LL := vev27_2 g h j k a b i (rn7_8_0 c d e f g h i j k a b)
noncomputable def rn7_8_6 (c : LL) (d e f g h : Int) (i : LL) (j k : Int) (a b : LL) : LL := vev27_1 g h j k a b i (rn7_8_0 c d e f g h i j k a b)
noncomputable def rn7_8_7 (c : LL) (d e f g h : Int) (i : LL) (j k : Int) (a b : LL) : Int := vev34_0 g h j k (rn7_8_4 c d e f g h i j k a b) (rn7_8_5 c d e f g h i j k a b) (rn7_8_6 c d e f g h i j k a b)
noncomputable def rn7_8_8 (c : LL) (d e f g h : Int) (i : LL) (j k : Int) (a b : LL) : Int := vev34_0 g h j k a b i
noncomputable def rn7_8_9 (c : LL) (d e f g h : Int) (i : LL) (j k : Int) (a b : LL) : Int := IntKind.i64.wrap (e + IntKind.i64.wrap (rn7_8_8 c d e f g h i j k a b - rn7_8_7 c d e f g h i j k a b))
noncomputable def rn7_8_10 (c : LL) (d e f g h : Int) (i : LL) (j k : Int) (a b : LL) : Int := intOf ((c.getD f.toNat []).getD (0 + 1 + 1) AV.junk)
noncomputable def rn7_8_11 (c : LL) (d e f g h : Int) (i : LL) (j k : Int) (a b : LL) : Int := IntKind.i64.wrap (1 + IntKind.i64.wrap ((IntKind.u64.wrap (intOf ((c.getD f.toNat []).getD (0 + 1 + 1 + 1 + 1) AV.junk))).tmod 20))
noncomputable def rn7_8_12 (c : LL) (d e f g h : Int) (i : LL) (j k : Int) (a b : LL) : LL := vev15_2 g h j k a b i (rn7_8_0 c d e f g h i j k a b) (rn7_8_10 c d e f g h i j k a b) (rn7_8_1 c d e f g h i j k a b) (rn7_8_11 c d e f g h i j k a b)
noncomputable def rn7_8_13 (c : LL) (d e f g h : Int) (i : LL) (j k : Int) (a b : LL) : LL := vev15_1 g h j k a b i (rn7_8_0 c d e f g h i j k a b) (rn7_8_10 c d e f g h i j k a b) (rn7_8_1 c d e f g h i j k a b) (rn7_8_11 c d e f g h i j k a b)
noncomputable def rn7_8_14 (c : LL) (d e f g h : Int) (i : LL) (j k : Int) (a b : LL) : Int := IntKind.i64.wrap (d + rn7_8_11 c d e f g h i j k a b)
noncomputable def rn7_8_15 (c : LL) (d e f g h : Int) (i : LL) (j k : Int) (a b : LL) : LL := vev29_2 g h j k a b i (rn7_8_0 c d e f g h i j k a b) (rn7_8_10 c d e f g h i j k a b)
noncomputable def rn7_8_16 (c : LL) (d e f g h : Int) (i : LL) (j k : Int) (a b : LL) : LL := vev29_1 g h j k a b i (rn7_8_0 c d e f g h i j k a b) (rn7_8_10 c d e f g h i j k a b)
noncomputable def rn7_8_17 (c : LL) (d e f g h : Int) (i : LL) (j k : Int) (a b : LL) : Int := vev34_0 g h j k a (rn7_8_15 c d e f g h i j k a b) (rn7_8_16 c d e f g h i j k a b)
noncomputable def rn7_8_18 (c : LL) (d e f g h : Int) (i : LL) (j k : Int) (a b : LL) : Int := IntKind.i64.wrap (e + IntKind.i64.wrap (rn7_8_8 c d e f g h i j k a b - rn7_8_17 c d e f g h i j k a b))
noncomputable def rn7_8_19 (c : LL) (d e f g h : Int) (i : LL) (j k : Int) (a b : LL) : Int := vev31_2 g h j k a b i
noncomputable def rn7_8_20 (c : LL) (d e f g h : Int) (i : LL) (j k : Int) (a b : LL) : Int := vev31_7 g h j k a b i
noncomputable def rn7_8_21 (c : LL) (d e f g h : Int) (i : LL) (j k : Int) (a b : LL) : Int := vev31_6 g h j k a b i
noncomputable def rn7_8_22 (c : LL) (d e f g h : Int) (i : LL) (j k : Int) (a b : LL) : LL := vev31_8 g h j k a b i
noncomputable def rn7_8_23 (c : LL) (d e f g h : Int) (i : LL) (j k : Int) (a b : LL) : LL := vev31_5 g h j k a b i
noncomputable def rn7_8_24 (c : LL) (d e f g h : Int) (i : LL) (j k : Int) (a b : LL) : Int := vev34_0 g h (rn7_8_21 c d e f g h i j k a b) (rn7_8_20 c d e f g h i j k a b) a (rn7_8_22 c d e f g h i j k a b) (rn7_8_23 c d e f g h i j k a b)
noncomputable def rn7_8_25 (c : LL) (d e f g h : Int) (i : LL) (j k : Int) (a b : LL) : Int := vev31_3 g h j k a b i
noncomputable def go7_8 (c : LL) (d e f g h : Int) (i : LL) (j k : Int) (a b : LL) : Bool := bif decide (f < (↑c.length : Int)) then bif decide (0 ≤ f) && decide (f < (↑c.length : Int)) then bif vev34_1 g h j k a b i then bif (intOf ((c.getD f.toNat []).getD 0 AV.junk)).tmod (8 : Int) == 0 then bif vev13_3 g h j k a b i (rn7_8_0 c d e f g h i j k a b) (rn7_8_1 c d e f g h i j k a b) then bif vev34_1 g h j k (rn7_8_2 c d e f g h i j k a b) (rn7_8_3 c d e f g h i j k a b) i then bif bif vev34_1 g h j k (rn7_8_2 c d e f g h i j k a b) (rn7_8_3 c d e f g h i j k a b) i then bif IntKind.i64.wrap (IntKind.i64.wrap (vev34_0 g h j k (rn7_8_2 c d e f g h i j k a b) (rn7_8_3 c d e f g h i j k a b) i + k) + e) != d then true else decide (e < 0) else false then false else true else false else false else bif (intOf ((c.getD f.toNat []).getD 0 AV.junk)).tmod (8 : Int) == 1 then bif vev27_4 g h j k a b i (rn7_8_0 c d e f g h i j k a b) then bif vev34_1 g h j k (rn7_8_4 c d e f g h i j k a b) (rn7_8_5 c d e f g h i j k a b) (rn7_8_6 c d e f g h i j k a b) then bif bif vev34_1 g h j k (rn7_8_4 c d e f g h i j k a b) (rn7_8_5 c d e f g h i j k a b) (rn7_8_6 c d e f g h i j k a b) then bif IntKind.i64.wrap (IntKind.i64.wrap (rn7_8_7 c d e f g h i j k a b + k) + rn7_8_9 c d e f g h i j k a b) != d then true else decide (rn7_8_9 c d e f g h i j k a b < 0) else false then false else true else false else false else bif (intOf ((c.getD f.toNat []).getD 0 AV.junk)).tmod (8 : Int) == 2 then bif vev15_3 g h j k a b i (rn7_8_0 c d e f g h i j k a b) (rn7_8_10 c d e f g h i j k a b) (rn7_8_1 c d e f g h i j k a b) (rn7_8_11 c d e f g h i j k a b) then bif vev15_0 g h j k a b i (rn7_8_0 c d e f g h i j k a b) (rn7_8_10 c d e f g h i j k a b) (rn7_8_1 c d e f g h i j k a b) (rn7_8_11 c d e f g h i j k a b) == 0 then bif vev34_1 g h j k a (rn7_8_12 c d e f g h i j k a b) (rn7_8_13 c d e f g h i j k a b) then bif bif vev34_1 g h j k a (rn7_8_12 c d e f g h i j k a b) (rn7_8_13 c d e f g h i j k a b) then bif IntKind.i64.wrap (IntKind.i64.wrap (vev34_0 g h j k a (rn7_8_12 c d e f g h i j k a b) (rn7_8_13 c d e f g h i j k a b) + k) + e) != rn7_8_14 c d e f g h i j k a b then true else decide (e < 0) else false then false else true else false else bif vev34_1 g h j k a (rn7_8_12 c d e f g h i j k a b) (rn7_8_13 c d e f g h i j k a b) then bif bif vev34_1 g h j k a (rn7_8_12 c d e f g h i j k a b) (rn7_8_13 c d e f g h i j k a b) then bif IntKind.i64.wrap (IntKind.i64.wrap (vev34_0 g h j k a (rn7_8_12 c d e f g h i j k a b) (rn7_8_13 c d e f g h i j k a b) + k) + e) != d then true else decide (e < 0) else false then false else true else false else false else bif (intOf ((c.getD f.toNat []).getD 0 AV.junk)).tmod (8 : Int) == 3 then bif vev15_3 g h j k a b i (rn7_8_0 c d e f g h i j k a b) (rn7_8_10 c d e f g h i j k a b) (rn7_8_1 c d e f g h i j k a b) (rn7_8_11 c d e f g h i j k a b) then bif vev15_0 g h j k a b i (rn7_8_0 c d e f g h i j k a b) (rn7_8_10 c d e f g h i j k a b) (rn7_8_1 c d e f g h i j k a b) (rn7_8_11 c d e f g h i j k a b) == 0 then bif vev34_1 g h j k a (rn7_8_12 c d e f g h i j k a b) (rn7_8_13 c d e f g h i j k a b) then bif bif vev34_1 g h j k a (rn7_8_12 c d e f g h i j k a b) (rn7_8_13 c d e f g h i j k a b) then bif IntKind.i64.wrap (IntKind.i64.wrap (vev34_0 g h j k a (rn7_8_12 c d e f g h i j k a b) (rn7_8_13 c d e f g h i j k a b) + k) + e) != rn7_8_14 c d e f g h i j k a b then true else decide (e < 0) else false then false else true else false else bif vev34_1 g h j k a (rn7_8_12 c d e f g h i j k a b) (rn7_8_13 c d e f g h i j k a b) then bif bif vev34_1 g h j k a (rn7_8_12 c d e f g h i j k a b) (rn7_8_13 c d e f g h i j k a b) then bif IntKind.i64.wrap (IntKind.i64.wrap (vev34_0 g h j k a (rn7_8_12 c d e f g h i j k a b) (rn7_8_13 c d e f g h i j k a b) + k) + e) != d then true else decide (e < 0) else false then false else true else false else false else bif (intOf ((c.getD f.toNat []).getD 0 AV.junk)).tmod (8 : Int) == 4 then bif vev29_3 g h j k a b i (rn7_8_0 c d e f g h i j k a b) (rn7_8_10 c d e f g h i j k a b) then bif vev34_1 g h j k a (rn7_8_15 c d e f g h i j k a b) (rn7_8_16 c d e f g h i j k a b) then bif bif vev34_1 g h j k a (rn7_8_15 c d e f g h i j k a b) (rn7_8_16 c d e f g h i j k a b) then bif IntKind.i64.wrap (IntKind.i64.wrap (rn7_8_17 c d e f g h i j k a b + k) + rn7_8_18 c d e f g h i j k a b) != d then true else decide (rn7_8_18 c d e f g h i j k a b < 0) else false then false else true else false else false else bif vev31_9 g h j k a b i then bif bif !vev31_4 g h j k a b i == decide (rn7_8_8 c d e f g h i j k a b > 0) then true else bif vev31_4 g h j k a b i then bif decide (rn7_8_19 c d e f g h i j k a b < 1) then true else bif decide (rn7_8_19 c d e f g h i j k a b > 3) then true else bif rn7_8_20 c d e f g h i j k a b != IntKind.i64.wrap (k + rn7_8_19 c d e f g h i j k a b) then true else vev34_1 g h (rn7_8_21 c d e f g h i j k a b) (rn7_8_20 c d e f g h i j k a b) a (rn7_8_22 c d e f g h i j k a b) (rn7_8_23 c d e f g h i j k a b) else true then bif bif !vev31_4 g h j k a b i == decide (rn7_8_8 c d e f g h i j k a b > 0) then true else bif vev31_4 g h j k a b i then bif decide (rn7_8_19 c d e f g h i j k a b < 1) then true else bif decide (rn7_8_19 c d e f g h i j k a b > 3) then true else bif rn7_8_20 c d e f g h i j k a b != IntKind.i64.wrap (k + rn7_8_19 c d e f g h i j k a b) then true else bif vev34_1 g h (rn7_8_21 c d e f g h i j k a b) (rn7_8_20 c d e f g h i j k a b) a (rn7_8_22 c d e f g h i j k a b) (rn7_8_23 c d e f g h i j k a b) then bif rn7_8_24 c d e f g h i j k a b != IntKind.i64.wrap (rn7_8_8 c d e f g h i j k a b - rn7_8_19 c d e f g h i j k a b) then true else decide (rn7_8_25 c d e f g h i j k a b < 0) else false else false then false else bif vev34_1 g h (rn7_8_21 c d e f g h i j k a b) (rn7_8_20 c d e f g h i j k a b) a (rn7_8_22 c d e f g h i j k a b) (rn7_8_23 c d e f g h i j k a b) then bif bif vev34_1 g h (rn7_8_21 c d e f g h i j k a b) (rn7_8_20 c d e f g h i j k a b) a (rn7_8_22 c d e f g h i j k a b) (rn7_8_23 c d e f g h i j k a b) then bif IntKind.i64.wrap (IntKind.i64.wrap (rn7_8_24 c d e f g h i j k a b + rn7_8_20 c d e f g h i j k a b) + e) != d then true else decide (e < 0) else false then false else true else false else false else false else false else false else false
noncomputable def nx7_8_1 (c : LL) (d e f g h : Int) (i : LL) (j k : Int) (a b : LL) : Int := bif (intOf ((c.getD f.toNat []).getD 0 AV.junk)).tmod (8 : Int) == 0 then d else bif (intOf ((c.getD f.toNat []).getD 0 AV.junk)).tmod (8 : Int) == 1 then d else bif (intOf ((c.getD f.toNat []).getD 0 AV.junk)).tmod (8 : Int) == 2 then bif vev15_0 g h j k a b i (rn7_8_0 c d e f g h i j k a b) (rn7_8_10 c d e f g h i j k a b) (rn7_8_1 c d e f g h i j k a b) (rn7_8_11 c d e f g h i j k a b) == 0 then rn7_8_14 c d e f g h i j k a b else d else bif (intOf ((c.getD f.toNat []).getD 0 AV.junk)).tmod (8 : Int) == 3 then bif vev15_0 g h j k a b i (rn7_8_0 c d e f g h i j k a b) (rn7_8_10 c d e f g h i j k a b) (rn7_8_1 c d e f g h i j k a b) (rn7_8_11 c d e f g h i j k a b) == 0 then rn7_8_14 c d e f g h i j k a b else d else d
noncomputable def nx7_8_2 (c : LL) (d e f g h : Int) (i : LL) (j k : Int) (a b : LL) : Int := bif (intOf ((c.getD f.toNat []).getD 0 AV.junk)).tmod (8 : Int) == 0 then e else bif (intOf ((c.getD f.toNat []).getD 0 AV.junk)).tmod (8 : Int) == 1 then rn7_8_9 c d e f g h i j k a b else bif (intOf ((c.getD f.toNat []).getD 0 AV.junk)).tmod (8 : Int) == 2 then e else bif (intOf ((c.getD f.toNat []).getD 0 AV.junk)).tmod (8 : Int) == 3 then e else bif (intOf ((c.getD f.toNat []).getD 0 AV.junk)).tmod (8 : Int) == 4 then rn7_8_18 c d e f g h i j k a b else e
noncomputable def nx7_8_3 (c : LL) (d e f g h : Int) (i : LL) (j k : Int) (a b : LL) : Int := IntKind.i64.wrap (f + 1)
noncomputable def nx7_8_6 (c : LL) (d e f g h : Int) (i : LL) (j k : Int) (a b : LL) : LL := bif (intOf ((c.getD f.toNat []).getD 0 AV.junk)).tmod (8 : Int) == 0 then i else bif (intOf ((c.getD f.toNat []).getD 0 AV.junk)).tmod (8 : Int) == 1 then rn7_8_6 c d e f g h i j k a b else bif (intOf ((c.getD f.toNat []).getD 0 AV.junk)).tmod (8 : Int) == 2 then rn7_8_13 c d e f g h i j k a b else bif (intOf ((c.getD f.toNat []).getD 0 AV.junk)).tmod (8 : Int) == 3 then rn7_8_13 c d e f g h i j k a b else bif (intOf ((c.getD f.toNat []).getD 0 AV.junk)).tmod (8 : Int) == 4 then rn7_8_16 c d e f g h i j k a b else rn7_8_23 c d e f g h i j k a b
noncomputable def nx7_8_7 (c : LL) (d e f g h : Int) (i : LL) (j k : Int) (a b : LL) : Int := bif (intOf ((c.getD f.toNat []).getD 0 AV.junk)).tmod (8 : Int) == 0 then j else bif (intOf ((c.getD f.toNat []).getD 0 AV.junk)).tmod (8 : Int) == 1 then j else bif (intOf ((c.getD f.toNat []).getD 0 AV.junk)).tmod (8 : Int) == 2 then j else bif (intOf ((c.getD f.toNat []).getD 0 AV.junk)).tmod (8 : Int) == 3 then j else bif (intOf ((c.getD f.toNat []).getD 0 AV.junk)).tmod (8 : Int) == 4 then j else rn7_8_21 c d e f g h i j k a b
noncomputable def nx7_8_8 (c : LL) (d e f g h : Int) (i : LL) (j k : Int) (a b : LL) : Int := bif (intOf ((c.getD f.toNat []).getD 0 AV.junk)).tmod (8 : Int) == 0 then k else bif (intOf ((c.getD f.toNat []).getD 0 AV.junk)).tmod (8 : Int) == 1 then k else bif (intOf ((c.getD f.toNat []).getD 0 AV.junk)).tmod (8 : Int) == 2 then k else bif (intOf ((c.getD f.toNat []).getD 0 AV.junk)).tmod (8 : Int) == 3 then k else bif (intOf ((c.getD f.toNat []).getD 0 AV.junk)).tmod (8 : Int) == 4 then k else rn7_8_20 c d e f g h i j k a b
noncomputable def nx7_8_9 (c : LL) (d e f g h : Int) (i : LL) (j k : Int) (a b : LL) : LL := bif (intOf ((c.getD f.toNat []).getD 0 AV.junk)).tmod (8 : Int) == 0 then rn7_8_2 c d e f g h i j k a b else bif (intOf ((c.getD f.toNat []).getD 0 AV.junk)).tmod (8 : Int) == 1 then rn7_8_4 c d e f g h i j k a b else a
noncomputable def nx7_8_10 (c : LL) (d e f g h : Int) (i : LL) (j k : Int) (a b : LL) : LL := bif (intOf ((c.getD f.toNat []).getD 0 AV.junk)).tmod (8 : Int) == 0 then rn7_8_3 c d e f g h i j k a b else bif (intOf ((c.getD f.toNat []).getD 0 AV.junk)).tmod (8 : Int) == 1 then rn7_8_5 c d e f g h i j k a b else bif (intOf ((c.getD f.toNat []).getD 0 AV.junk)).tmod (8 : Int) == 2 then rn7_8_12 c d e f g h i j k a b else bif (intOf ((c.getD f.toNat []).getD 0 AV.junk)).tmod (8 : Int) == 3 then rn7_8_12 c d e f g h i j k a b else bif (intOf ((c.getD f.toNat []).getD 0 AV.junk)).tmod (8 : Int) == 4 then rn7_8_15 c d e f g h i j k a b else rn7_8_22 c d e f g h i j k a b
noncomputable def xc7_8_0 (c : LL) (d e f g h : Int) (i : LL) (j k : Int) (a b : LL) : Bool := bif decide (f < (↑c.length : Int)) then bif decide (0 ≤ f) && decide (f < (↑c.length : Int)) then bif vev34_1 g h j k a b i then bif (intOf ((c.getD f.toNat []).getD 0 AV.junk)).tmod (8 : Int) == 0 then bif vev13_3 g h j k a b i (rn7_8_0 c d e f g h i j k a b) (rn7_8_1 c d e f g h i j k a b) then bif vev34_1 g h j k (rn7_8_2 c d e f g h i j k a b) (rn7_8_3 c d e f g h i j k a b) i then bif vev34_1 g h j k (rn7_8_2 c d e f g h i j k a b) (rn7_8_3 c d e f g h i j k a b) i then bif IntKind.i64.wrap (IntKind.i64.wrap (vev34_0 g h j k (rn7_8_2 c d e f g h i j k a b) (rn7_8_3 c d e f g h i j k a b) i + k) + e) != d then true else decide (e < 0) else false else false else false else bif (intOf ((c.getD f.toNat []).getD 0 AV.junk)).tmod (8 : Int) == 1 then bif vev27_4 g h j k a b i (rn7_8_0 c d e f g h i j k a b) then bif vev34_1 g h j k (rn7_8_4 c d e f g h i j k a b) (rn7_8_5 c d e f g h i j k a b) (rn7_8_6 c d e f g h i j k a b) then bif vev34_1 g h j k (rn7_8_4 c d e f g h i j k a b) (rn7_8_5 c d e f g h i j k a b) (rn7_8_6 c d e f g h i j k a b) then bif IntKind.i64.wrap (IntKind.i64.wrap (rn7_8_7 c d e f g h i j k a b + k) + rn7_8_9 c d e f g h i j k a b) != d then true else decide (rn7_8_9 c d e f g h i j k a b < 0) else false else false else false else bif (intOf ((c.getD f.toNat []).getD 0 AV.junk)).tmod (8 : Int) == 2 then bif vev15_3 g h j k a b i (rn7_8_0 c d e f g h i j k a b) (rn7_8_10 c d e f g h i j k a b) (rn7_8_1 c d e f g h i j k a b) (rn7_8_11 c d e f g h i j k a b) then bif vev15_0 g h j k a b i (rn7_8_0 c d e f g h i j k a b) (rn7_8_10 c d e f g h i j k a b) (rn7_8_1 c d e f g h i j k a b) (rn7_8_11 c d e f g h i j k a b) == 0 then bif vev34_1 g h j k a (rn7_8_12 c d e f g h i j k a b) (rn7_8_13 c d e f g h i j k a b) then bif vev34_1 g h j k a (rn7_8_12 c d e f g h i j k a b) (rn7_8_13 c d e f g h i j k a b) then bif IntKind.i64.wrap (IntKind.i64.wrap (vev34_0 g h j k a (rn7_8_12 c d e f g h i j k a b) (rn7_8_13 c d e f g h i j k a b) + k) + e) != rn7_8_14 c d e f g h i j k a b then true else decide (e < 0) else false else false else bif vev34_1 g h j k a (rn7_8_12 c d e f g h i j k a b) (rn7_8_13 c d e f g h i j k a b) then bif vev34_1 g h j k a (rn7_8_12 c d e f g h i j k a b) (rn7_8_13 c d e f g h i j k a b) then bif IntKind.i64.wrap (IntKind.i64.wrap (vev34_0 g h j k a (rn7_8_12 c d e f g h i j k a b) (rn7_8_13 c d e f g h i j k a b) + k) + e) != d then true else decide (e < 0) else false else false else false else bif (intOf ((c.getD f.toNat []).getD 0 AV.junk)).tmod (8 : Int) == 3 then bif vev15_3 g h j k a b i (rn7_8_0 c d e f g h i j k a b) (rn7_8_10 c d e f g h i j k a b) (rn7_8_1 c d e f g h i j k a b) (rn7_8_11 c d e f g h i j k a b) then bif vev15_0 g h j k a b i (rn7_8_0 c d e f g h i j k a b) (rn7_8_10 c d e f g h i j k a b) (rn7_8_1 c d e f g h i j k a b) (rn7_8_11 c d e f g h i j k a b) == 0 then bif vev34_1 g h j k a (rn7_8_12 c d e f g h i j k a b) (rn7_8_13 c d e f g h i j k a b) then bif vev34_1 g h j k a (rn7_8_12 c d e f g h i j k a b) (rn7_8_13 c d e f g h i j k a b) then bif IntKind.i64.wrap (IntKind.i64.wrap (vev34_0 g h j k a (rn7_8_12 c d e f g h i j k a b) (rn7_8_13 c d e f g h i j k a b) + k) + e) != rn7_8_14 c d e f g h i j k a b then true else decide (e < 0) else false else false else bif vev34_1 g h j k a (rn7_8_12 c d e f g h i j k a b) (rn7_8_13 c d e f g h i j k a b) then bif vev34_1 g h j k a (rn7_8_12 c d e f g h i j k a b) (rn7_8_13 c d e f g h i j k a b) then bif IntKind.i64.wrap (IntKind.i64.wrap (vev34_0 g h j k a (rn7_8_12 c d e f g h i j k a b) (rn7_8_13 c d e f g h i j k a b) + k) + e) != d then true else decide (e < 0) else false else false else false else bif (intOf ((c.getD f.toNat []).getD 0 AV.junk)).tmod (8 : Int) == 4 then bif vev29_3 g h j k a b i (rn7_8_0 c d e f g h i j k a b) (rn7_8_10 c d e f g h i j k a b) then bif vev34_1 g h j k a (rn7_8_15 c d e f g h i j k a b) (rn7_8_16 c d e f g h i j k a b) then bif vev34_1 g h j k a (rn7_8_15 c d e f g h i j k a b) (rn7_8_16 c d e f g h i j k a b) then bif IntKind.i64.wrap (IntKind.i64.wrap (rn7_8_17 c d e f g h i j k a b + k) + rn7_8_18 c d e f g h i j k a b) != d then true else decide (rn7_8_18 c d e f g h i j k a b < 0) else false else false else false else bif vev31_9 g h j k a b i then bif bif !vev31_4 g h j k a b i == decide (rn7_8_8 c d e f g h i j k a b > 0) then true else bif vev31_4 g h j k a b i then bif decide (rn7_8_19 c d e f g h i j k a b < 1) then true else bif decide (rn7_8_19 c d e f g h i j k a b > 3) then true else bif rn7_8_20 c d e f g h i j k a b != IntKind.i64.wrap (k + rn7_8_19 c d e f g h i j k a b) then true else vev34_1 g h (rn7_8_21 c d e f g h i j k a b) (rn7_8_20 c d e f g h i j k a b) a (rn7_8_22 c d e f g h i j k a b) (rn7_8_23 c d e f g h i j k a b) else true then bif bif !vev31_4 g h j k a b i == decide (rn7_8_8 c d e f g h i j k a b > 0) then true else bif vev31_4 g h j k a b i then bif decide (rn7_8_19 c d e f g h i j k a b < 1) then true else bif decide (rn7_8_19 c d e f g h i j k a b > 3) then true else bif rn7_8_20 c d e f g h i j k a b != IntKind.i64.wrap (k + rn7_8_19 c d e f g h i j k a b) then true else bif vev34_1 g h (rn7_8_21 c d e f g h i j k a b) (rn7_8_20 c d e f g h i j k a b) a (rn7_8_22 c d e f g h i j k a b) (rn7_8_23 c d e f g h i j k a b) then bif rn7_8_24 c d e f g h i j k a b != IntKind.i64.wrap (rn7_8_8 c d e f g h i j k a b - rn7_8_19 c d e f g h i j k a b) then true else decide (rn7_8_25 c d e f g h i j k a b < 0) else false else false then true else bif vev34_1 g h (rn7_8_21 c d e f g h i j k a b) (rn7_8_20 c d e f g h i j k a b) a (rn7_8_22 c d e f g h i j k a b) (rn7_8_23 c d e f g h i j k a b) then bif vev34_1 g h (rn7_8_21 c d e f g h i j k a b) (rn7_8_20 c d e f g h i j k a b) a (rn7_8_22 c d e f g h i j k a b) (rn7_8_23 c d e f g h i j k a b) then bif IntKind.i64.wrap (IntKind.i64.wrap (rn7_8_24 c d e f g h i j k a b + rn7_8_20 c d e f g h i j k a b) + e) != d then true else decide (e < 0) else false else false else false else false else false else false else false
noncomputable def xc7_8_1 (c : LL) (d e f g h : Int) (i : LL) (j k : Int) (a b : LL) : Bool := bif decide (f < (↑c.length : Int)) then false else true
theorem rd7_8 (rest : Lsp) (c : LL) (d e f g i : Int) (j : LL) (k l : Int) (a b : LL) : rV k72 rest 7 0 Try.f7 8 [0, 3, 5, 6, 7] [2, 3, 4, 5, 6] [2] [] [AV.sl Tk.imm [Kd.int IntKind.u8, Kd.int IntKind.i64, Kd.int IntKind.i64, Kd.int IntKind.i64, Kd.int IntKind.i64] c, AV.hp 2 0, iA d, iA e, iA f] [bV g i 3 4 j k l, Blk.row kI1 a, Blk.tbl kF b none, Blk.dead, Blk.dead] = bif go7_8 c d e f g i j k l a b then some (Ex.norm, [AV.sl Tk.imm [Kd.int IntKind.u8, Kd.int IntKind.i64, Kd.int IntKind.i64, Kd.int IntKind.i64, Kd.int IntKind.i64] c, AV.hp 2 0, iA (nx7_8_1 c d e f g i j k l a b), iA (nx7_8_2 c d e f g i j k l a b), iA (nx7_8_3 c d e f g i j k l a b)], [bV g i 3 4 (nx7_8_6 c d e f g i j k l a b) (nx7_8_7 c d e f g i j k l a b) (nx7_8_8 c d e f g i j k l a b), Blk.row kI1 (nx7_8_9 c d e f g i j k l a b), Blk.tbl kF (nx7_8_10 c d e f g i j k l a b) none, Blk.dead, Blk.dead]) else bif xc7_8_0 c d e f g i j k l a b then some (Ex.ret, [AV.bool false], []) else bif xc7_8_1 c d e f g i j k l a b then some (Ex.exit 0, [AV.junk], []) else none := by
 refine Eq.trans (b := bif decide (f < (↑c.length : Int)) then bif decide (0 ≤ f) && decide (f < (↑c.length : Int)) then bif vev34_1 g i k l a b j then bif (intOf ((c.getD f.toNat []).getD 0 AV.junk)).tmod (8 : Int) == 0 then bif vev13_3 g i k l a b j (rn7_8_0 c d e f g i j k l a b) (rn7_8_1 c d e f g i j k l a b) then bif bif vev34_1 g i k l (rn7_8_2 c d e f g i j k l a b) (rn7_8_3 c d e f g i j k l a b) j then bif IntKind.i64.wrap (IntKind.i64.wrap (vev34_0 g i k l (rn7_8_2 c d e f g i j k l a b) (rn7_8_3 c d e f g i j k l a b) j + l) + e) != d then true else true else false then bif bif vev34_1 g i k l (rn7_8_2 c d e f g i j k l a b) (rn7_8_3 c d e f g i j k l a b) j then bif IntKind.i64.wrap (IntKind.i64.wrap (vev34_0 g i k l (rn7_8_2 c d e f g i j k l a b) (rn7_8_3 c d e f g i j k l a b) j + l) + e) != d then true else bif false then true else decide (e < 0) else false then some (Ex.ret, [AV.bool false], []) else some (Ex.norm, [AV.sl Tk.imm [Kd.int IntKind.u8, Kd.int IntKind.i64, Kd.int IntKind.i64, Kd.int IntKind.i64, Kd.int IntKind.i64] c, AV.hp 2 0, iA d, iA e, iA (IntKind.i64.wrap (f + 1))], [bV g i 3 4 j k l, Blk.row kI1 (rn7_8_2 c d e f g i j k l a b), Blk.tbl kF (rn7_8_3 c d e f g i j k l a b) none, Blk.dead, Blk.dead]) else none else none else bif (intOf ((c.getD f.toNat []).getD 0 AV.junk)).tmod (8 : Int) == 1 then bif vev27_4 g i k l a b j (rn7_8_0 c d e f g i j k l a b) then bif vev34_1 g i k l (rn7_8_4 c d e f g i j k l a b) (rn7_8_5 c d e f g i j k l a b) (rn7_8_6 c d e f g i j k l a b) then bif bif vev34_1 g i k l (rn7_8_4 c d e f g i j k l a b) (rn7_8_5 c d e f g i j k l a b) (rn7_8_6 c d e f g i j k l a b) then bif IntKind.i64.wrap (IntKind.i64.wrap (rn7_8_7 c d e f g i j k l a b + l) + rn7_8_9 c d e f g i j k l a b) != d then true else true else false then bif bif vev34_1 g i k l (rn7_8_4 c d e f g i j k l a b) (rn7_8_5 c d e f g i j k l a b) (rn7_8_6 c d e f g i j k l a b) then bif IntKind.i64.wrap (IntKind.i64.wrap (rn7_8_7 c d e f g i j k l a b + l) + rn7_8_9 c d e f g i j k l a b) != d then true else bif false then true else decide (rn7_8_9 c d e f g i j k l a b < 0) else false then some (Ex.ret, [AV.bool false], []) else some (Ex.norm, [AV.sl Tk.imm [Kd.int IntKind.u8, Kd.int IntKind.i64, Kd.int IntKind.i64, Kd.int IntKind.i64, Kd.int IntKind.i64] c, AV.hp 2 0, iA d, iA (rn7_8_9 c d e f g i j k l a b), iA (IntKind.i64.wrap (f + 1))], [bV g i 3 4 (rn7_8_6 c d e f g i j k l a b) k l, Blk.row kI1 (rn7_8_4 c d e f g i j k l a b), Blk.tbl kF (rn7_8_5 c d e f g i j k l a b) none, Blk.dead, Blk.dead]) else none else none else none else bif (intOf ((c.getD f.toNat []).getD 0 AV.junk)).tmod (8 : Int) == 2 then bif (intOf ((c.getD f.toNat []).getD 0 AV.junk)).tmod (8 : Int) == 2 then bif vev15_3 g i k l a b j (rn7_8_0 c d e f g i j k l a b) (rn7_8_10 c d e f g i j k l a b) (rn7_8_1 c d e f g i j k l a b) (rn7_8_11 c d e f g i j k l a b) then bif vev15_0 g i k l a b j (rn7_8_0 c d e f g i j k l a b) (rn7_8_10 c d e f g i j k l a b) (rn7_8_1 c d e f g i j k l a b) (rn7_8_11 c d e f g i j k l a b) == 0 then bif bif vev34_1 g i k l a (rn7_8_12 c d e f g i j k l a b) (rn7_8_13 c d e f g i j k l a b) then bif IntKind.i64.wrap (IntKind.i64.wrap (vev34_0 g i k l a (rn7_8_12 c d e f g i j k l a b) (rn7_8_13 c d e f g i j k l a b) + l) + e) != rn7_8_14 c d e f g i j k l a b then true else true else false then bif bif vev34_1 g i k l a (rn7_8_12 c d e f g i j k l a b) (rn7_8_13 c d e f g i j k l a b) then bif IntKind.i64.wrap (IntKind.i64.wrap (vev34_0 g i k l a (rn7_8_12 c d e f g i j k l a b) (rn7_8_13 c d e f g i j k l a b) + l) + e) != rn7_8_14 c d e f g i j k l a b then true else bif false then true else decide (e < 0) else false then some (Ex.ret, [AV.bool false], []) else some (Ex.norm, [AV.sl Tk.imm [Kd.int IntKind.u8, Kd.int IntKind.i64, Kd.int IntKind.i64, Kd.int IntKind.i64, Kd.int IntKind.i64] c, AV.hp 2 0, iA (rn7_8_14 c d e f g i j k l a b), iA e, iA (IntKind.i64.wrap (f + 1))], [bV g i 3 4 (rn7_8_13 c d e f g i j k l a b) k l, Blk.row kI1 a, Blk.tbl kF (rn7_8_12 c d e f g i j k l a b) none, Blk.dead, Blk.dead]) else none else bif bif vev34_1 g i k l a (rn7_8_12 c d e f g i j k l a b) (rn7_8_13 c d e f g i j k l a b) then bif IntKind.i64.wrap (IntKind.i64.wrap (vev34_0 g i k l a (rn7_8_12 c d e f g i j k l a b) (rn7_8_13 c d e f g i j k l a b) + l) + e) != d then true else true else false then bif bif vev34_1 g i k l a (rn7_8_12 c d e f g i j k l a b) (rn7_8_13 c d e f g i j k l a b) then bif IntKind.i64.wrap (IntKind.i64.wrap (vev34_0 g i k l a (rn7_8_12 c d e f g i j k l a b) (rn7_8_13 c d e f g i j k l a b) + l) + e) != d then true else bif false then true else decide (e < 0) else false then some (Ex.ret, [AV.bool false], []) else some (Ex.norm, [AV.sl Tk.imm [Kd.int IntKind.u8, Kd.int IntKind.i64, Kd.int IntKind.i64, Kd.int IntKind.i64, Kd.int IntKind.i64] c, AV.hp 2 0, iA d, iA e, iA (IntKind.i64.wrap (f + 1))], [bV g i 3 4 (rn7_8_13 c d e f g i j k l a b) k l, Blk.row kI1 a, Blk.tbl kF (rn7_8_12 c d e f g i j k l a b) none, Blk.dead, Blk.dead]) else none else none else bif (intOf ((c.getD f.toNat []).getD 0 AV.junk)).tmod (8 : Int) == 4 then bif vev29_3 g i k l a b j (rn7_8_0 c d e f g i j k l a b) (rn7_8_10 c d e f g i j k l a b) then bif vev34_1 g i k l a (rn7_8_15 c d e f g i j k l a b) (rn7_8_16 c d e f g i j k l a b) then bif bif vev34_1 g i k l a (rn7_8_15 c d e f g i j k l a b) (rn7_8_16 c d e f g i j k l a b) then bif IntKind.i64.wrap (IntKind.i64.wrap (rn7_8_17 c d e f g i j k l a b + l) + rn7_8_18 c d e f g i j k l a b) != d then true else true else false then bif bif vev34_1 g i k l a (rn7_8_15 c d e f g i j k l a b) (rn7_8_16 c d e f g i j k l a b) then bif IntKind.i64.wrap (IntKind.i64.wrap (rn7_8_17 c d e f g i j k l a b + l) + rn7_8_18 c d e f g i j k l a b) != d then true else bif false then true else decide (rn7_8_18 c d e f g i j k l a b < 0) else false then some (Ex.ret, [AV.bool false], []) else some (Ex.norm, [AV.sl Tk.imm [Kd.int IntKind.u8, Kd.int IntKind.i64, Kd.int IntKind.i64, Kd.int IntKind.i64, Kd.int IntKind.i64] c, AV.hp 2 0, iA d, iA (rn7_8_18 c d e f g i j k l a b), iA (IntKind.i64.wrap (f + 1))], [bV g i 3 4 (rn7_8_16 c d e f g i j k l a b) k l, Blk.row kI1 a, Blk.tbl kF (rn7_8_15 c d e f g i j k l a b) none, Blk.dead, Blk.dead]) else none else none else none else bif vev31_9 g i k l a b j then bif bif !vev31_4 g i k l a b j == decide (rn7_8_8 c d e f g i j k l a b > 0) then true else bif vev31_4 g i k l a b j then bif decide (rn7_8_19 c d e f g i j k l a b < 1) then true else bif bif false then true else decide (rn7_8_19 c d e f g i j k l a b > 3) then true else bif bif false then true else rn7_8_20 c d e f g i j k l a b != IntKind.i64.wrap (l + rn7_8_19 c d e f g i j k l a b) then true else bif vev34_1 g i (rn7_8_21 c d e f g i j k l a b) (rn7_8_20 c d e f g i j k l a b) a (rn7_8_22 c d e f g i j k l a b) (rn7_8_23 c d e f g i j k l a b) then bif bif false then true else rn7_8_24 c d e f g i j k l a b != IntKind.i64.wrap (rn7_8_8 c d e f g i j k l a b - rn7_8_19 c d e f g i j k l a b) then true else true else false else true then bif bif !vev31_4 g i k l a b j == decide (rn7_8_8 c d e f g i j k l a b > 0) then true else bif vev31_4 g i k l a b j then bif decide (rn7_8_19 c d e f g i j k l a b < 1) then bif false then true else bif true then true else false else bif bif false then true else decide (rn7_8_19 c d e f g i j k l a b > 3) then bif false then true else bif true then true else false else bif bif false then true else rn7_8_20 c d e f g i j k l a b != IntKind.i64.wrap (l + rn7_8_19 c d e f g i j k l a b) then bif false then true else bif true then true else false else bif vev34_1 g i (rn7_8_21 c d e f g i j k l a b) (rn7_8_20 c d e f g i j k l a b) a (rn7_8_22 c d e f g i j k l a b) (rn7_8_23 c d e f g i j k l a b) then bif bif false then true else rn7_8_24 c d e f g i j k l a b != IntKind.i64.wrap (rn7_8_8 c d e f g i j k l a b - rn7_8_19 c d e f g i j k l a b) then bif false then true else bif true then true else false else bif false then true else bif true then bif false then true else decide (rn7_8_25 c d e f g i j k l a b < 0) else false else false else bif false then true else false then some (Ex.ret, [AV.bool false], []) else bif bif vev34_1 g i (rn7_8_21 c d e f g i j k l a b) (rn7_8_20 c d e f g i j k l a b) a (rn7_8_22 c d e f g i j k l a b) (rn7_8_23 c d e f g i j k l a b) then bif IntKind.i64.wrap (IntKind.i64.wrap (rn7_8_24 c d e f g i j k l a b + rn7_8_20 c d e f g i j k l a b) + e) != d then true else true else false then bif bif vev34_1 g i (rn7_8_21 c d e f g i j k l a b) (rn7_8_20 c d e f g i j k l a b) a (rn7_8_22 c d e f g i j k l a b) (rn7_8_23 c d e f g i j k l a b) then bif IntKind.i64.wrap (IntKind.i64.wrap (rn7_8_24 c d e f g i j k l a b + rn7_8_20 c d e f g i j k l a b) + e) != d then true else bif false then true else decide (e < 0) else false then some (Ex.ret, [AV.bool false], []) else some (Ex.norm, [AV.sl Tk.imm [Kd.int IntKind.u8, Kd.int IntKind.i64, Kd.int IntKind.i64, Kd.int IntKind.i64, Kd.int IntKind.i64] c, AV.hp 2 0, iA d, iA e, iA (IntKind.i64.wrap (f + 1))], [bV g i 3 4 (rn7_8_23 c d e f g i j k l a b) (rn7_8_21 c d e f g i j k l a b) (rn7_8_20 c d e f g i j k l a b), Blk.row kI1 a, Blk.tbl kF (rn7_8_22 c d e f g i j k l a b) none, Blk.dead, Blk.dead]) else none else none else none else bif (intOf ((c.getD f.toNat []).getD 0 AV.junk)).tmod (8 : Int) == 3 then bif vev15_3 g i k l a b j (rn7_8_0 c d e f g i j k l a b) (rn7_8_10 c d e f g i j k l a b) (rn7_8_1 c d e f g i j k l a b) (rn7_8_11 c d e f g i j k l a b) then bif vev15_0 g i k l a b j (rn7_8_0 c d e f g i j k l a b) (rn7_8_10 c d e f g i j k l a b) (rn7_8_1 c d e f g i j k l a b) (rn7_8_11 c d e f g i j k l a b) == 0 then bif bif vev34_1 g i k l a (rn7_8_12 c d e f g i j k l a b) (rn7_8_13 c d e f g i j k l a b) then bif IntKind.i64.wrap (IntKind.i64.wrap (vev34_0 g i k l a (rn7_8_12 c d e f g i j k l a b) (rn7_8_13 c d e f g i j k l a b) + l) + e) != rn7_8_14 c d e f g i j k l a b then true else true else false then bif bif vev34_1 g i k l a (rn7_8_12 c d e f g i j k l a b) (rn7_8_13 c d e f g i j k l a b) then bif IntKind.i64.wrap (IntKind.i64.wrap (vev34_0 g i k l a (rn7_8_12 c d e f g i j k l a b) (rn7_8_13 c d e f g i j k l a b) + l) + e) != rn7_8_14 c d e f g i j k l a b then true else bif false then true else decide (e < 0) else false then some (Ex.ret, [AV.bool false], []) else some (Ex.norm, [AV.sl Tk.imm [Kd.int IntKind.u8, Kd.int IntKind.i64, Kd.int IntKind.i64, Kd.int IntKind.i64, Kd.int IntKind.i64] c, AV.hp 2 0, iA (rn7_8_14 c d e f g i j k l a b), iA e, iA (IntKind.i64.wrap (f + 1))], [bV g i 3 4 (rn7_8_13 c d e f g i j k l a b) k l, Blk.row kI1 a, Blk.tbl kF (rn7_8_12 c d e f g i j k l a b) none, Blk.dead, Blk.dead]) else none else bif bif vev34_1 g i k l a (rn7_8_12 c d e f g i j k l a b) (rn7_8_13 c d e f g i j k l a b) then bif IntKind.i64.wrap (IntKind.i64.wrap (vev34_0 g i k l a (rn7_8_12 c d e f g i j k l a b) (rn7_8_13 c d e f g i j k l a b) + l) + e) != d then true else true else false then bif bif vev34_1 g i k l a (rn7_8_12 c d e f g i j k l a b) (rn7_8_13 c d e f g i j k l a b) then bif IntKind.i64.wrap (IntKind.i64.wrap (vev34_0 g i k l a (rn7_8_12 c d e f g i j k l a b) (rn7_8_13 c d e f g i j k l a b) + l) + e) != d then true else bif false then true else decide (e < 0) else false then some (Ex.ret, [AV.bool false], []) else some (Ex.norm, [AV.sl Tk.imm [Kd.int IntKind.u8, Kd.int IntKind.i64, Kd.int IntKind.i64, Kd.int IntKind.i64, Kd.int IntKind.i64] c, AV.hp 2 0, iA d, iA e, iA (IntKind.i64.wrap (f + 1))], [bV g i 3 4 (rn7_8_13 c d e f g i j k l a b) k l, Blk.row kI1 a, Blk.tbl kF (rn7_8_12 c d e f g i j k l a b) none, Blk.dead, Blk.dead]) else none else none else bif (intOf ((c.getD f.toNat []).getD 0 AV.junk)).tmod (8 : Int) == 4 then bif vev29_3 g i k l a b j (rn7_8_0 c d e f g i j k l a b) (rn7_8_10 c d e f g i j k l a b) then bif vev34_1 g i k l a (rn7_8_15 c d e f g i j k l a b) (rn7_8_16 c d e f g i j k l a b) then bif bif vev34_1 g i k l a (rn7_8_15 c d e f g i j k l a b) (rn7_8_16 c d e f g i j k l a b) then bif IntKind.i64.wrap (IntKind.i64.wrap (rn7_8_17 c d e f g i j k l a b + l) + rn7_8_18 c d e f g i j k l a b) != d then true else true else false then bif bif vev34_1 g i k l a (rn7_8_15 c d e f g i j k l a b) (rn7_8_16 c d e f g i j k l a b) then bif IntKind.i64.wrap (IntKind.i64.wrap (rn7_8_17 c d e f g i j k l a b + l) + rn7_8_18 c d e f g i j k l a b) != d then true else bif false then true else decide (rn7_8_18 c d e f g i j k l a b < 0) else false then some (Ex.ret, [AV.bool false], []) else some (Ex.norm, [AV.sl Tk.imm [Kd.int IntKind.u8, Kd.int IntKind.i64, Kd.int IntKind.i64, Kd.int IntKind.i64, Kd.int IntKind.i64] c, AV.hp 2 0, iA d, iA (rn7_8_18 c d e f g i j k l a b), iA (IntKind.i64.wrap (f + 1))], [bV g i 3 4 (rn7_8_16 c d e f g i j k l a b) k l, Blk.row kI1 a, Blk.tbl kF (rn7_8_15 c d e f g i j k l a b) none, Blk.dead, Blk.dead]) else none else none else none else bif vev31_9 g i k l a b j then bif bif !vev31_4 g i k l a b j == decide (rn7_8_8 c d e f g i j k l a b > 0) then true else bif vev31_4 g i k l a b j then bif decide (rn7_8_19 c d e f g i j k l a b < 1) then true else bif bif false then true else decide (rn7_8_19 c d e f g i j k l a b > 3) then true else bif bif false then true else rn7_8_20 c d e f g i j k l a b != IntKind.i64.wrap (l + rn7_8_19 c d e f g i j k l a b) then true else bif vev34_1 g i (rn7_8_21 c d e f g i j k l a b) (rn7_8_20 c d e f g i j k l a b) a (rn7_8_22 c d e f g i j k l a b) (rn7_8_23 c d e f g i j k l a b) then bif bif false then true else rn7_8_24 c d e f g i j k l a b != IntKind.i64.wrap (rn7_8_8 c d e f g i j k l a b - rn7_8_19 c d e f g i j k l a b) then true else true else false else true then bif bif !vev31_4 g i k l a b j == decide (rn7_8_8 c d e f g i j k l a b > 0) then true else bif vev31_4 g i k l a b j then bif decide (rn7_8_19 c d e f g i j k l a b < 1) then bif false then true else bif true then true else false else bif bif false then true else decide (rn7_8_19 c d e f g i j k l a b > 3) then bif false then true else bif true then true else false else bif bif false then true else rn7_8_20 c d e f g i j k l a b != IntKind.i64.wrap (l + rn7_8_19 c d e f g i j k l a b) then bif false then true else bif true then true else false else bif vev34_1 g i (rn7_8_21 c d e f g i j k l a b) (rn7_8_20 c d e f g i j k l a b) a (rn7_8_22 c d e f g i j k l a b) (rn7_8_23 c d e f g i j k l a b) then bif bif false then true else rn7_8_24 c d e f g i j k l a b != IntKind.i64.wrap (rn7_8_8 c d e f g i j k l a b - rn7_8_19 c d e f g i j k l a b) then bif false then true else bif true then true else false else bif false then true else bif true then bif false then true else decide (rn7_8_25 c d e f g i j k l a b < 0) else false else false else bif false then true else false then some (Ex.ret, [AV.bool false], []) else bif bif vev34_1 g i (rn7_8_21 c d e f g i j k l a b) (rn7_8_20 c d e f g i j k l a b) a (rn7_8_22 c d e f g i j k l a b) (rn7_8_23 c d e f g i j k l a b) then bif IntKind.i64.wrap (IntKind.i64.wrap (rn7_8_24 c d e f g i j k l a b + rn7_8_20 c d e f g i j k l a b) + e) != d then true else true else false then bif bif vev34_1 g i (rn7_8_21 c d e f g i j k l a b) (rn7_8_20 c d e f g i j k l a b) a (rn7_8_22 c d e f g i j k l a b) (rn7_8_23 c d e f g i j k l a b) then bif IntKind.i64.wrap (IntKind.i64.wrap (rn7_8_24 c d e f g i j k l a b + rn7_8_20 c d e f g i j k l a b) + e) != d then true else bif false then true else decide (e < 0) else false then some (Ex.ret, [AV.bool false], []) else some (Ex.norm, [AV.sl Tk.imm [Kd.int IntKind.u8, Kd.int IntKind.i64, Kd.int IntKind.i64, Kd.int IntKind.i64, Kd.int IntKind.i64] c, AV.hp 2 0, iA d, iA e, iA (IntKind.i64.wrap (f + 1))], [bV g i 3 4 (rn7_8_23 c d e f g i j k l a b) (rn7_8_21 c d e f g i j k l a b) (rn7_8_20 c d e f g i j k l a b), Blk.row kI1 a, Blk.tbl kF (rn7_8_22 c d e f g i j k l a b) none, Blk.dead, Blk.dead]) else none else none else none else none else none else some (Ex.exit 0, [AV.junk], [])) (by kernel_rfl) ?_
 unfold go7_8 nx7_8_1 nx7_8_2 nx7_8_3 nx7_8_6 nx7_8_7 nx7_8_8 nx7_8_9 nx7_8_10 xc7_8_0 xc7_8_1
 generalize (IntKind.i64.wrap (IntKind.i64.wrap (vev34_0 g i k l a (rn7_8_12 c d e f g i j k l a b) (rn7_8_13 c d e f g i j k l a b) + l) + e) != rn7_8_14 c d e f g i j k l a b) = c0
 generalize (vev15_0 g i k l a b j (rn7_8_0 c d e f g i j k l a b) (rn7_8_10 c d e f g i j k l a b) (rn7_8_1 c d e f g i j k l a b) (rn7_8_11 c d e f g i j k l a b) == 0) = c1
 generalize (IntKind.i64.wrap (IntKind.i64.wrap (vev34_0 g i k l a (rn7_8_12 c d e f g i j k l a b) (rn7_8_13 c d e f g i j k l a b) + l) + e) != d) = c2
 generalize (vev15_3 _ _ _ _ _ _ _ _ _ _ _) = c3
 generalize (IntKind.i64.wrap (IntKind.i64.wrap (vev34_0 g i k l (rn7_8_2 c d e f g i j k l a b) (rn7_8_3 c d e f g i j k l a b) j + l) + e) != d) = c4
 generalize (!vev31_4 g i k l a b j == decide (rn7_8_8 c d e f g i j k l a b > 0)) = c5
 generalize (vev34_1 g i (rn7_8_21 c d e f g i j k l a b) (rn7_8_20 c d e f g i j k l a b) a (rn7_8_22 c d e f g i j k l a b) (rn7_8_23 c d e f g i j k l a b)) = c6
 generalize (rn7_8_24 c d e f g i j k l a b != IntKind.i64.wrap (rn7_8_8 c d e f g i j k l a b - rn7_8_19 c d e f g i j k l a b)) = c7
 generalize (IntKind.i64.wrap (IntKind.i64.wrap (rn7_8_24 c d e f g i j k l a b + rn7_8_20 c d e f g i j k l a b) + e) != d) = c8
 generalize (IntKind.i64.wrap (IntKind.i64.wrap (rn7_8_17 c d e f g i j k l a b + l) + rn7_8_18 c d e f g i j k l a b) != d) = c9
 generalize (IntKind.i64.wrap (IntKind.i64.wrap (rn7_8_7 c d e f g i j k l a b + l) + rn7_8_9 c d e f g i j k l a b) != d) = c10
 generalize (vev34_1 g i k l (rn7_8_4 c d e f g i j k l a b) (rn7_8_5 c d e f g i j k l a b) (rn7_8_6 c d e f g i j k l a b)) = c11
 generalize (decide (rn7_8_19 c d e f g i j k l a b < 1)) = c12
 generalize (decide (rn7_8_9 c d e f g i j k l a b < 0)) = c13
 generalize (decide (rn7_8_18 c d e f g i j k l a b < 0)) = c14
 generalize (rn7_8_20 c d e f g i j k l a b != IntKind.i64.wrap (l + rn7_8_19 c d e f g i j k l a b)) = c15
 generalize (decide (rn7_8_19 c d e f g i j k l a b > 3)) = c16
 generalize (decide (0 ≤ f) && decide (f < (↑c.length : Int))) = c17
 generalize (decide (rn7_8_25 c d e f g i j k l a b < 0)) = c18
 generalize ((intOf ((c.getD f.toNat []).getD 0 AV.junk)).tmod (8 : Int) == 4) = c19
 generalize ((intOf ((c.getD f.toNat []).getD 0 AV.junk)).tmod (8 : Int) == 0) = c20
 generalize ((intOf ((c.getD f.toNat []).getD 0 AV.junk)).tmod (8 : Int) == 3) = c21
 generalize ((intOf ((c.getD f.toNat []).getD 0 AV.junk)).tmod (8 : Int) == 1) = c22
 generalize ((intOf ((c.getD f.toNat []).getD 0 AV.junk)).tmod (8 : Int) == 2) = c23
 generalize (vev29_3 _ _ _ _ _ _ _ _ _) = c24
 generalize (vev13_3 _ _ _ _ _ _ _ _ _) = c25
 generalize (vev34_1 g i k l a (rn7_8_12 c d e f g i j k l a b) (rn7_8_13 c d e f g i j k l a b)) = c26
 generalize (vev34_1 g i k l a (rn7_8_15 c d e f g i j k l a b) (rn7_8_16 c d e f g i j k l a b)) = c27
 generalize (vev34_1 g i k l (rn7_8_2 c d e f g i j k l a b) (rn7_8_3 c d e f g i j k l a b) j) = c28
 generalize (decide (f < (↑c.length : Int))) = c29
 generalize (vev27_4 _ _ _ _ _ _ _ _) = c30
 generalize (decide (e < 0)) = c31
 generalize (vev31_4 g i k l a b j) = c32
 generalize (vev34_1 g i k l a b j) = c33
 generalize (vev31_9 _ _ _ _ _ _ _) = c34
 cases c29; rfl; cases c17; rfl; cases c33; rfl; cases c20; cases c22; cases c23; cases c21; cases c19; cases c34; rfl; cases c5; cases c32; cases c6
 rfl; cases c8; cases c31; rfl; rfl; rfl; cases c12; cases c16; cases c15; cases c6; rfl; cases c7; cases c18; cases c8; cases c31; rfl; rfl; rfl
 rfl; rfl; rfl; rfl; rfl; rfl; cases c24; rfl; cases c27; rfl; cases c9; cases c14; rfl; rfl; rfl; cases c3; rfl; cases c1; cases c26; rfl; cases c2
 cases c31; rfl; rfl; rfl; cases c26; rfl; cases c0; cases c31; rfl; rfl; rfl; cases c3; rfl; cases c1; cases c26; rfl; cases c2; cases c31; rfl; rfl
 rfl; cases c26; rfl; cases c0; cases c31; rfl; rfl; rfl; cases c30; rfl; cases c11; rfl; cases c10; cases c13; rfl; rfl; rfl; cases c25; rfl
 cases c28; rfl; cases c4; cases c31; rfl; rfl; rfl
abbrev pl7_8 : Type := LL × Int × Int
abbrev sl7_8 : Type := Int × Int × Int × LL × Int × Int × LL × LL
noncomputable def vt7_8 (a : pl7_8 × sl7_8) : List AV := [AV.sl Tk.imm [Kd.int IntKind.u8, Kd.int IntKind.i64, Kd.int IntKind.i64, Kd.int IntKind.i64, Kd.int IntKind.i64] a.1.1, AV.hp 2 0, iA a.2.1, iA a.2.2.1, iA a.2.2.2.1]
noncomputable def vc7_8 (a : pl7_8 × sl7_8) : List Blk := [bV a.1.2.1 a.1.2.2 3 4 a.2.2.2.2.1 a.2.2.2.2.2.1 a.2.2.2.2.2.2.1, Blk.row kI1 a.2.2.2.2.2.2.2.1, Blk.tbl kF a.2.2.2.2.2.2.2.2 none, Blk.dead, Blk.dead]
noncomputable def de7_8 (vt : List AV) (vc : List Blk) : Option (pl7_8 × sl7_8) :=
 match vt with
 | [qa0, qa1, qa2, qa3, qa4] => (match vc with
 | [qb0, qb1, qb2, qb3, qb4] => (match qa0 with
 | .sl Tk.imm [Kd.int IntKind.u8, .int .i64, .int .i64, .int .i64, .int .i64] t0 => (match qa1 with
 | AV.hp (2) (0) => (match qa2 with
 | .int .i64 t5 => (match qa3 with
 | .int .i64 t6 => (match qa4 with
 | .int .i64 t7 => (match qb0 with
 | .var [.int .i64 b2_0, .int .i64 b2_1, AV.rf (3) [.int .i64], AV.mp (4) [.int .i64, .int .i64, .int .i64, .int .i64, .int .i64, .int .i64, .sl [.int .i64, .int .i64, .int .i64, .int .i64]], .sl Tk.imm [.int .i64, .int .i64] b2_4, .int .i64 b2_5, .int .i64 b2_6] => (match qb1 with
 | .row [.int .i64] b3 => (match qb2 with
 | Blk.tbl [.int .i64, .int .i64, .int .i64, .int .i64, .int .i64, .int .i64, .sl [.int .i64, .int .i64, .int .i64, .int .i64]] b4 none => (match qb3 with
 | Blk.dead => (match qb4 with
 | Blk.dead => (some ((t0, b2_0, b2_1), (t5, t6, t7, b2_4, b2_5, b2_6, b3, b4)))
 | _ => none)
 | _ => none)
 | _ => none)
 | _ => none)
 | _ => none)
 | _ => none)
 | _ => none)
 | _ => none)
 | _ => none)
 | _ => none)
 | _ => none)
 | _ => none
theorem de7_8_ok (vt : List AV) (vc : List Blk) (a : pl7_8 × sl7_8) (h : de7_8 vt vc = some a) : vt = vt7_8 a ∧ vc = vc7_8 a := by
 unfold de7_8 at h
 iterate 12 (split at h; rotate_left; · cases h)
 injection h with h; subst h; exact ⟨rfl, rfl⟩
noncomputable def g7_8 (p : pl7_8) (s : sl7_8) : Bool := go7_8 p.1 s.1 s.2.1 s.2.2.1 p.2.1 p.2.2 s.2.2.2.1 s.2.2.2.2.1 s.2.2.2.2.2.1 s.2.2.2.2.2.2.1 s.2.2.2.2.2.2.2
noncomputable def n7_8 (p : pl7_8) (s : sl7_8) : sl7_8 := (nx7_8_1 p.1 s.1 s.2.1 s.2.2.1 p.2.1 p.2.2 s.2.2.2.1 s.2.2.2.2.1 s.2.2.2.2.2.1 s.2.2.2.2.2.2.1 s.2.2.2.2.2.2.2, nx7_8_2 p.1 s.1 s.2.1 s.2.2.1 p.2.1 p.2.2 s.2.2.2.1 s.2.2.2.2.1 s.2.2.2.2.2.1 s.2.2.2.2.2.2.1 s.2.2.2.2.2.2.2, nx7_8_3 p.1 s.1 s.2.1 s.2.2.1 p.2.1 p.2.2 s.2.2.2.1 s.2.2.2.2.1 s.2.2.2.2.2.1 s.2.2.2.2.2.2.1 s.2.2.2.2.2.2.2, nx7_8_6 p.1 s.1 s.2.1 s.2.2.1 p.2.1 p.2.2 s.2.2.2.1 s.2.2.2.2.1 s.2.2.2.2.2.1 s.2.2.2.2.2.2.1 s.2.2.2.2.2.2.2, nx7_8_7 p.1 s.1 s.2.1 s.2.2.1 p.2.1 p.2.2 s.2.2.2.1 s.2.2.2.2.1 s.2.2.2.2.2.1 s.2.2.2.2.2.2.1 s.2.2.2.2.2.2.2, nx7_8_8 p.1 s.1 s.2.1 s.2.2.1 p.2.1 p.2.2 s.2.2.2.1 s.2.2.2.2.1 s.2.2.2.2.2.1 s.2.2.2.2.2.2.1 s.2.2.2.2.2.2.2, nx7_8_9 p.1 s.1 s.2.1 s.2.2.1 p.2.1 p.2.2 s.2.2.2.1 s.2.2.2.2.1 s.2.2.2.2.2.1 s.2.2.2.2.2.2.1 s.2.2.2.2.2.2.2, nx7_8_10 p.1 s.1 s.2.1 s.2.2.1 p.2.1 p.2.2 s.2.2.2.1 s.2.2.2.2.1 s.2.2.2.2.2.1 s.2.2.2.2.2.2.1 s.2.2.2.2.2.2.2)
noncomputable def y7_8 (p : pl7_8) (s : sl7_8) : List (Bool × Out) := [(xc7_8_0 p.1 s.1 s.2.1 s.2.2.1 p.2.1 p.2.2 s.2.2.2.1 s.2.2.2.2.1 s.2.2.2.2.2.1 s.2.2.2.2.2.2.1 s.2.2.2.2.2.2.2, (Ex.ret, [AV.bool false], []))]
noncomputable def z7_8 (p : pl7_8) (s : sl7_8) : Bool := xc7_8_1 p.1 s.1 s.2.1 s.2.2.1 p.2.1 p.2.2 s.2.2.2.1 s.2.2.2.2.1 s.2.2.2.2.2.1 s.2.2.2.2.2.2.1 s.2.2.2.2.2.2.2
noncomputable def d7_8 (p : pl7_8) (s : sl7_8) : Out := (Ex.exit 0, [AV.junk], [])
noncomputable def ls7_8 := lspOf [0, 3, 5, 6, 7] [2, 3, 4, 5, 6] [2] [] Try.f7.ntmps (0 + tab.nid 7) de7_8 (spI g7_8 n7_8 y7_8 z7_8 d7_8)
theorem lo7_8 (rest : Lsp) : lO k72 (selL 8 ls7_8 rest) 7 0 Try.f7 8 := LoopOK1.iter (i := 8) (by kernel_rfl) [0, 3, 5, 6, 7] [2, 3, 4, 5, 6] [2] [] vt7_8 vc7_8 de7_8 g7_8 n7_8 y7_8 z7_8 d7_8 (fun _ => rfl) de7_8_ok (fun p s => rd7_8 (selL 8 ls7_8 rest) (p.1) (s.1) (s.2.1) (s.2.2.1) (p.2.1) (p.2.2) (s.2.2.2.1) (s.2.2.2.2.1) (s.2.2.2.2.2.1) (s.2.2.2.2.2.2.1) (s.2.2.2.2.2.2.2)) (fun _ _ => rfl)
noncomputable def lsp7 : Lsp := (selL 8 ls7_8 noLsp)
theorem loops7 : ∀ c, Try.f7.body = some c → lsO k72 lsp7 7 0 Try.f7 c := loops_of [8] (by kernel_rfl) (by kernel_rfl) (fun i hi => by simp only [List.mem_cons, List.not_mem_nil, or_false] at hi; subst hi; exact lo7_8 noLsp)
noncomputable def rev7_0 (l : LL) : sl7_8 := finL (g7_8 (l, 3, 2)) (n7_8 (l, 3, 2)) (0, 0, 0, [], 0, 0, [], [])
noncomputable def vev7_0 (l : LL) : Bool := bif decide ((↑l.length : Int) > 80) then true else bif xc7_8_0 l (rev7_0 l).fst (rev7_0 l).snd.fst (rev7_0 l).snd.snd.fst 3 2 (rev7_0 l).snd.snd.snd.fst (rev7_0 l).snd.snd.snd.snd.fst (rev7_0 l).snd.snd.snd.snd.snd.fst (rev7_0 l).snd.snd.snd.snd.snd.snd.fst (rev7_0 l).snd.snd.snd.snd.snd.snd.snd then false else true
noncomputable def vev7_1 (l : LL) : Bool := bif decide ((↑l.length : Int) > 80) then true else bif (spI g7_8 n7_8 y7_8 z7_8 d7_8 ((l, 3, 2), 0, 0, 0, [], 0, 0, [], [])).fst then true else false
theorem ev7 (l : LL) : evFun (cfg Try.prog tab 100000 (gk k72 30) lsp7 7 ([] : List Blk).length Try.f7.ntmps) Try.f7 [.sl .imm [.int .u8, .int .i64, .int .i64, .int .i64, .int .i64] l] [] = bif vev7_1 l then some (AV.bool (vev7_0 l), []) else none := by
 refine Eq.trans (b := bif decide ((↑l.length : Int) > 80) then some (AV.bool true, []) else bif (spI g7_8 n7_8 y7_8 z7_8 d7_8 ((l, 3, 2), 0, 0, 0, [], 0, 0, [], [])).fst then bif xc7_8_0 l (rev7_0 l).fst (rev7_0 l).snd.fst (rev7_0 l).snd.snd.fst 3 2 (rev7_0 l).snd.snd.snd.fst (rev7_0 l).snd.snd.snd.snd.fst (rev7_0 l).snd.snd.snd.snd.snd.fst (rev7_0 l).snd.snd.snd.snd.snd.snd.fst (rev7_0 l).snd.snd.snd.snd.snd.snd.snd then some (AV.bool false, []) else some (AV.bool true, []) else none) (by kernel_rfl) ?_
 unfold vev7_0 vev7_1
 generalize (xc7_8_0 l (rev7_0 l).fst (rev7_0 l).snd.fst (rev7_0 l).snd.snd.fst 3 2 (rev7_0 l).snd.snd.snd.fst (rev7_0 l).snd.snd.snd.snd.fst (rev7_0 l).snd.snd.snd.snd.snd.fst (rev7_0 l).snd.snd.snd.snd.snd.snd.fst (rev7_0 l).snd.snd.snd.snd.snd.snd.snd) = c0
 generalize (spI g7_8 _ _ _ _ _).fst = c1
 generalize (decide ((↑l.length : Int) > 80)) = c2
 cases c2; cases c1; rfl; cases c0; rfl; rfl; rfl
end Go.Proofs.Gv
