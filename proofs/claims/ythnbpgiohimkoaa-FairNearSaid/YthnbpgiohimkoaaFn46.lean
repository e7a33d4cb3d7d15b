import Derived.Test.YthnbpgiohimkoaaFn45
import Derived.KernelRfl
import Derived.Test.YthnbpgiohimkoaaFn32
import Derived.Test.YthnbpgiohimkoaaFn37
import Derived.Test.YthnbpgiohimkoaaFn27
import Derived.Test.YthnbpgiohimkoaaFn30
import Derived.Test.YthnbpgiohimkoaaFn31
import Derived.Test.YthnbpgiohimkoaaFn41
import Derived.Test.YthnbpgiohimkoaaFn33
set_option linter.unusedVariables false
namespace Go.Proofs.Gv
open Go.Proofs
open List (Perm)
def mx (a b : Int) : Int := if b < a then a else b
theorem chkT {lim k : Int} {x : Fl} (f : FlOK lim k x) (hk : k ≤ 1099511627776) : vev77_0 x.w x.s x.f x.k = 0 ∧ vev81_0 x.w x.s x.f x.k = 0 := by
 have hw := f.w
 have hs := f.s
 have hf := f.f
 have hx := f.k
 constructor
 ·unfold vev77_0 vev79_0 vev78_0
  rw [decide_eq_true (show x.w > 0 by omega), decide_eq_true (show x.w ≤ 16 by omega), decide_eq_true (show 0 ≤ x.k by omega), decide_eq_true (show x.k ≤ 1099511627776 by omega), decide_eq_true (show 0 ≤ x.s by omega), decide_eq_true (show x.s ≤ 2305843009213693952 by omega), decide_eq_true (show 0 ≤ x.f by omega), decide_eq_true (show x.f ≤ 2305843009213693952 by omega)]
  rfl
 ·unfold vev81_0 vev92_0
  rw [decide_eq_false (show ¬ x.w < 1 by omega), decide_eq_false (show ¬ x.w > 16 by omega), decide_eq_true (show x.k ≥ 0 by omega), decide_eq_true (show x.k ≤ 1099511627776 by omega), decide_eq_true (show x.s ≥ 0 by omega), decide_eq_true (show x.s ≤ 2305843009213693952 by omega), decide_eq_true (show x.f ≥ 0 by omega), decide_eq_true (show x.f ≤ 2305843009213693952 by omega)]
  rfl
theorem wakeT {lim k t : Int} {x : Fl} (f : FlOK lim k x) (hk : k ≤ 1099511627776) (ht : 0 ≤ t ∧ t ≤ k * 720720) : vev49_0 t x.w x.s x.f x.k = mx t x.f ∧ vev53_0 t x.w x.s x.f x.k = mx t x.f := by
 have c := chkT f hk
 constructor
 ·unfold vev49_0 vev78_0
  rw [c.1, decide_eq_true (show 0 ≤ t by omega), decide_eq_true (show t ≤ 2305843009213693952 by omega)]
  unfold mx
  simp
 ·unfold vev53_0 vev92_0
  rw [c.2, decide_eq_true (show t ≥ 0 by omega), decide_eq_true (show t ≤ 2305843009213693952 by omega)]
  unfold mx
  simp
  split <;> split <;> omega
abbrev admF (t lim : Int) (x : Fl) (id n z : Int) : Fl := ⟨x.c, x.w, if 0 < x.rs.length then x.s else mx t x.f, x.f, x.k, lim, pu x.rs id n z⟩
theorem tab_ats {fs : List Fl} (h1 : OneF fs) {i : Nat} (hi : i < fs.length) {x : Fl} (hc : x.c = (atF fs i).c) : ∀ j, (List.drop 1 (getK (tabsF (fs.set i x)) (atF fs i).c)).getD j AV.junk = (x.row).getD j .junk := by
 intro j
 have := tab_at (h1.set hc) (i := i) (by simpa using hi) j
 rwa [set_at hi, hc] at this
theorem tabsF_hasS {fs : List Fl} {i : Nat} (hi : i < fs.length) {x : Fl} (hc : x.c = (atF fs i).c) : hasK (tabsF (fs.set i x)) (atF fs i).c = true := by
 have := tabsF_hasAt (fs := fs.set i x) (i := i) (by simpa using hi)
 rwa [set_at hi, hc] at this
theorem pu_pos (rs : List (List AV)) (id n z : Int) : 0 < (pu rs id n z).length := by rw [pu_len]; omega
theorem hasK_go (es : List (List AV)) (c : Int) : ((List.brecOn.go (motive := fun x => (List AV → Bool) → Bool) es List.any._f).1 fun e => keyA e == c) = hasK es c := by kernel_rfl
theorem admit15 {S : Sc} (I : Inv S) (c id n z : Int) : ∃ (e : Int) (S' : Sc), Inv S' ∧ ((e ≠ 0 ∧ S' = S) ∨ (e = 0 ∧ ∃ i h', i < S.fs.length ∧ (atF S.fs i).c = c ∧ 1 ≤ z ∧ z ≤ 1099511627776 ∧ S' = ⟨S.q, S.lim, S.t, S.k, S.fs.set i (admF S.t S.lim (atF S.fs i) id n z), h'⟩)) ∧
  (vev15_0 S.q S.lim S.t S.k (ordsF S.fs) (tabsF S.fs) (R S.h) c id n z = e ∧ vev15_1 S.q S.lim S.t S.k (ordsF S.fs) (tabsF S.fs) (R S.h) c id n z = R S'.h ∧ vev15_2 S.q S.lim S.t S.k (ordsF S.fs) (tabsF S.fs) (R S.h) c id n z = tabsF S'.fs ∧ ordsF S.fs = ordsF S'.fs ∧ vev15_3 S.q S.lim S.t S.k (ordsF S.fs) (tabsF S.fs) (R S.h) c id n z = true) ∧
  ∀ L, Lk L S.fs → Lk (vev16_0 S.q S.lim S.t S.k L c id n z) S'.fs ∧ vev16_1 S.q S.lim S.t S.k L c id n z = e ∧ vev16_2 S.q S.lim S.t S.k L c id n z = true := by
 have h8 := I.len
 by_cases hex : ∃ i, i < S.fs.length ∧ (atF S.fs i).c = c
 ·obtain ⟨i, hi, rfl⟩ := hex
  have hK : hasK (tabsF S.fs) (atF S.fs i).c = true := tabsF_hasAt hi
  have f := I.fl i hi
  have hx := ix_at I.one hi
  have hkb := I.k
  have hbb := blN_b I.gd S.fs.length (Nat.le_refl _)
  have hk40 : S.k ≤ 1099511627776 := by unfold blF at hkb; omega
  have wk := wakeT f hk40 I.t
  have hfb : 0 ≤ blF S.fs := hbb.1
  have e0 : rev15_0 S.q S.lim S.t S.k (ordsF S.fs) (tabsF S.fs) (R S.h) (atF S.fs i).c id n z = S.lim := by unfold rev15_0; rw [tab_at I.one hi]; exact f.l
  have e1 : rev15_1 S.q S.lim S.t S.k (ordsF S.fs) (tabsF S.fs) (R S.h) (atF S.fs i).c id n z = (atF S.fs i).rs := by unfold rev15_1; rw [tab_at I.one hi]; rfl
  have e4 : rev15_4 S.q S.lim S.t S.k (ordsF S.fs) (tabsF S.fs) (R S.h) (atF S.fs i).c id n z = (atF S.fs i).w := by unfold rev15_4; rw [tab_at I.one hi]; rfl
  have e5 : rev15_5 S.q S.lim S.t S.k (ordsF S.fs) (tabsF S.fs) (R S.h) (atF S.fs i).c id n z = (atF S.fs i).s := by unfold rev15_5; rw [tab_at I.one hi]; rfl
  have e6 : rev15_6 S.q S.lim S.t S.k (ordsF S.fs) (tabsF S.fs) (R S.h) (atF S.fs i).c id n z = (atF S.fs i).f := by unfold rev15_6; rw [tab_at I.one hi]; rfl
  have e7 : rev15_7 S.q S.lim S.t S.k (ordsF S.fs) (tabsF S.fs) (R S.h) (atF S.fs i).c id n z = (atF S.fs i).k := by unfold rev15_7; rw [tab_at I.one hi]; rfl
  obtain ⟨d1, d2, d3, d4, d5⟩ := push_spec f.g id n z
  have e2 : rev15_2 S.q S.lim S.t S.k (ordsF S.fs) (tabsF S.fs) (R S.h) (atF S.fs i).c id n z = vev51_1 S.lim (atF S.fs i).rs id n z := by unfold rev15_2; rw [e0, e1, d3]
  have b34 := bl34 (q := S.q) (t := S.t) (k := S.k) (rd := R S.h) h8 I.one I.gd
  have e3 : rev15_3 S.q S.lim S.t S.k (ordsF S.fs) (tabsF S.fs) (R S.h) (atF S.fs i).c id n z = 1099511627776 - S.k - blF S.fs := by
   unfold rev15_3
   rw [b34.1, wrapOf (1099511627776 - S.k) (by omega) (by omega), wrapOf (1099511627776 - S.k - blF S.fs) (by omega) (by omega)]
  have doc : ∀ L, Lk L S.fs → rev16_0 S.q S.lim S.t S.k L (atF S.fs i).c id n z = (i : Int) ∧ vev46_1 S.q S.lim S.t S.k .imm L (atF S.fs i).c = true ∧ rev16_1 S.q S.lim S.t S.k L (atF S.fs i).c id n z = S.lim ∧ rev16_2 S.q S.lim S.t S.k L (atF S.fs i).c id n z = (atF S.fs i).rs ∧ rev16_5 S.q S.lim S.t S.k L (atF S.fs i).c id n z = (atF S.fs i).c ∧
    rev16_6 S.q S.lim S.t S.k L (atF S.fs i).c id n z = (atF S.fs i).w ∧ rev16_7 S.q S.lim S.t S.k L (atF S.fs i).c id n z = (atF S.fs i).s ∧ rev16_8 S.q S.lim S.t S.k L (atF S.fs i).c id n z = (atF S.fs i).f ∧ rev16_9 S.q S.lim S.t S.k L (atF S.fs i).c id n z = (atF S.fs i).k ∧
    rev16_3 S.q S.lim S.t S.k L (atF S.fs i).c id n z = vev51_1 S.lim (atF S.fs i).rs id n z ∧ rev16_4 S.q S.lim S.t S.k L (atF S.fs i).c id n z = 1099511627776 - S.k - blF S.fs ∧ vev52_1 S.q S.lim S.t S.k .imm L = true := by
   intro L hL
   have hp := pl46 (q := S.q) (lim := S.lim) (t := S.t) (k := S.k) (tk := .imm) hL h8 (atF S.fs i).c
   have h0 : rev16_0 S.q S.lim S.t S.k L (atF S.fs i).c id n z = (i : Int) := by unfold rev16_0; rw [hp.1, hx]
   have hc := hL.cells hi
   have h1 : rev16_1 S.q S.lim S.t S.k L (atF S.fs i).c id n z = S.lim := by unfold rev16_1; rw [h0]; exact hc.2.2.2.2.2.1.trans f.l
   have h2 : rev16_2 S.q S.lim S.t S.k L (atF S.fs i).c id n z = (atF S.fs i).rs := by unfold rev16_2; rw [h0]; exact hc.2.2.2.2.2.2
   have b52 := bl52 (q2 := S.q) (t2 := S.t) (k2 := S.k) (tk := .imm) hL h8 I.gd
   refine ⟨h0, hp.2, h1, h2, ?_, ?_, ?_, ?_, ?_, ?_, ?_, b52.2⟩
   ·unfold rev16_5; rw [h0]; exact hc.1
   ·unfold rev16_6; rw [h0]; exact hc.2.1
   ·unfold rev16_7; rw [h0]; exact hc.2.2.1
   ·unfold rev16_8; rw [h0]; exact hc.2.2.2.1
   ·unfold rev16_9; rw [h0]; exact hc.2.2.2.2.1
   ·unfold rev16_3; rw [h1, h2]
   ·unfold rev16_4
    rw [b52.1, wrapOf (1099511627776 - S.k) (by omega) (by omega), wrapOf (1099511627776 - S.k - blF S.fs) (by omega) (by omega)]
  have hi0 : decide ((i : Int) < 0) = false := decide_eq_false (by omega)
  rcases d5 with hd | ⟨hd, hw, gd, hz1, hz2⟩
  ·have hb : (vev51_1 S.lim (atF S.fs i).rs id n z != 0) = true := bne_iff_ne.2 hd
   refine ⟨vev51_1 S.lim (atF S.fs i).rs id n z, S, I, .inl ⟨hd, rfl⟩, ⟨?_, ?_, ?_, rfl, ?_⟩, fun L hL => ?_⟩
   ·unfold vev15_0; rw [hK, e2, hb]; rfl
   ·unfold vev15_1; rw [hK, e2, hb]; rfl
   ·unfold vev15_2; rw [hK, e2, hb]; rfl
   ·unfold vev15_3; rw [hK, e2, hb, e0, e1, d1]; rfl
   ·obtain ⟨g0, g1, g2, g3, g5, g6, g7, g8, g9, g10, g11, g12⟩ := doc L hL
    refine ⟨?_, ?_, ?_⟩
    ·unfold vev16_0; rw [g0, hi0, g10, hb]; exact hL
    ·unfold vev16_1; rw [g0, hi0, g10, hb]; rfl
    ·unfold vev16_2; rw [g0, hi0, g1, hL.len, in2 hi, g2, g3, d2, g10, hb]; rfl
  ·have hb : (vev51_1 S.lim (atF S.fs i).rs id n z != 0) = false := by rw [hd]; rfl
   by_cases hbig : z > 1099511627776 - S.k - blF S.fs
   ·refine ⟨7, S, I, .inl ⟨by omega, rfl⟩, ⟨?_, ?_, ?_, rfl, ?_⟩, fun L hL => ?_⟩
    ·unfold vev15_0; rw [hK, e2, hb, e3, decide_eq_true hbig]; rfl
    ·unfold vev15_1; rw [hK, e2, hb, e3, decide_eq_true hbig]; rfl
    ·unfold vev15_2; rw [hK, e2, hb, e3, decide_eq_true hbig]; rfl
    ·unfold vev15_3; rw [hK, e2, hb, e0, e1, d1, e3, decide_eq_true hbig, b34.2]; rfl
    ·obtain ⟨g0, g1, g2, g3, g5, g6, g7, g8, g9, g10, g11, g12⟩ := doc L hL
     refine ⟨?_, ?_, ?_⟩
     ·unfold vev16_0; rw [g0, hi0, g10, hb, g11, decide_eq_true hbig]; exact hL
     ·unfold vev16_1; rw [g0, hi0, g10, hb, g11, decide_eq_true hbig]; rfl
     ·unfold vev16_2; rw [g0, hi0, g1, hL.len, in2 hi, g2, g3, d2, g10, hb, g11, decide_eq_true hbig, g12]; rfl
   ·have hB := busy48 I.one hi
    have hlf : lfQ (pu (atF S.fs i).rs id n z) = lfQ (atF S.fs i).rs + z := lfQ_pu _ _ _ _
    have hbl : S.k + (blL S.fs - lfQ (atF S.fs i).rs + lfQ (pu (atF S.fs i).rs id n z)) ≤ 1099511627776 := by
     rw [hlf, ← blF_eq]; omega
    have hmx : 0 ≤ mx S.t (atF S.fs i).f ∧ mx S.t (atF S.fs i).f ≤ S.k * 720720 := by
     have := I.t; have := f.f
     unfold mx; split <;> omega
    have hfx : FlOK S.lim S.k (admF S.t S.lim (atF S.fs i) id n z) := by
     refine ⟨f.c, f.w, ?_, f.f, f.k, rfl, gd, RowQ_iff.2 ((RowQ_iff.1 f.r).pu id n z)⟩
     show 0 ≤ (if 0 < (atF S.fs i).rs.length then (atF S.fs i).s else mx S.t (atF S.fs i).f) ∧ (if 0 < (atF S.fs i).rs.length then (atF S.fs i).s else mx S.t (atF S.fs i).f) ≤ _
     split
     ·exact f.s
     ·exact hmx
    have hpm := I.pm
    rw [busy_at hi] at hpm
    have hbz : bz (admF S.t S.lim (atF S.fs i) id n z) = [((admF S.t S.lim (atF S.fs i) id n z).s, (atF S.fs i).c)] := by
     unfold bz
     rw [if_pos (pu_pos _ _ _ _)]
    by_cases hz : 0 < (atF S.fs i).rs.length
    ·-- it had work
     have hs : (admF S.t S.lim (atF S.fs i) id n z).s = (atF S.fs i).s := if_pos hz
     have hp' : Perm S.h (busyF (S.fs.set i (admF S.t S.lim (atF S.fs i) id n z))) := by
      rw [busy_set hi, hbz, hs]
      have : bz (atF S.fs i) = [((atF S.fs i).s, (atF S.fs i).c)] := if_pos hz
      rw [this] at hpm
      exact hpm
     refine ⟨0, _, I.set hi (x := admF S.t S.lim (atF S.fs i) id n z) rfl (Int.le_refl _) hfx I.t hbl I.hp hp', .inr ⟨rfl, i, S.h, hi, rfl, hz1, hz2, rfl⟩, ⟨?_, ?_, ?_, (ords_set (x := admF S.t S.lim (atF S.fs i) id n z) hi rfl).symm, ?_⟩, fun L hL => ?_⟩
     ·unfold vev15_0; rw [hK, e2, hb, e3, decide_eq_false hbig]; rfl
     ·unfold vev15_1; rw [hK, e2, hb, e3, decide_eq_false hbig, hB.1, decide_eq_true hz]; rfl
     ·unfold vev15_2; rw [hK, e2, hb, e3, decide_eq_false hbig, hB.1, decide_eq_true hz]
      show setK _ _ _ = _
      refine tabsF_set I.one hi rfl _ ?_
      rw [e0, e1, e4, e5, e6, e7, d4, hw, tab_at I.one hi]
      show _ = [_, _, _, AV.int .i64 (admF S.t S.lim (atF S.fs i) id n z).s, _, _, _, _]
      rw [hs]
      rfl
     ·unfold vev15_3; rw [hK, e2, hb, e0, e1, d1, e3, decide_eq_false hbig, b34.2, hB.1, hB.2, decide_eq_true hz]; rfl
     ·obtain ⟨g0, g1, g2, g3, g5, g6, g7, g8, g9, g10, g11, g12⟩ := doc L hL
      have hwith := with54 (q := S.q) (lim := S.lim) (t := S.t) (k := S.k) hL h8 hi (admF S.t S.lim (atF S.fs i) id n z)
      rw [hs] at hwith
      have hln : (((atF S.fs i).rs.length : Int) == 0) = false := beq_eq_false_iff_ne.2 (by omega)
      refine ⟨?_, ?_, ?_⟩
      ·unfold vev16_0; rw [g0, hi0, g10, hb, g11, decide_eq_false hbig, g3, hln]
       unfold rev16_11
       rw [g2, g3, g5, g6, g7, g8, g9, hw]
       exact hwith.1
      ·unfold vev16_1; rw [g0, hi0, g10, hb, g11, decide_eq_false hbig]; rfl
      ·unfold vev16_2; rw [g0, hi0, g1, hL.len, in2 hi, g2, g3, d2, g10, hb, g11, decide_eq_false hbig, g12, hln]
       unfold rev16_11
       rw [g2, g3, g5, g6, g7, g8, g9, hw, hwith.2]
       rfl
    ·-- it wakes
     have hs : (admF S.t S.lim (atF S.fs i) id n z).s = mx S.t (atF S.fs i).f := if_neg hz
     have hps := pushH_spec S.h (mx S.t (atF S.fs i).f, (atF S.fs i).c)
     have hp' : Perm (pushH S.h (mx S.t (atF S.fs i).f, (atF S.fs i).c)) (busyF (S.fs.set i (admF S.t S.lim (atF S.fs i) id n z))) := by
      rw [busy_set hi, hbz, hs]
      have : bz (atF S.fs i) = [] := if_neg hz
      rw [this, List.nil_append] at hpm
      have h1 : Perm (S.h ++ [(mx S.t (atF S.fs i).f, (atF S.fs i).c)]) ((mx S.t (atF S.fs i).f, (atF S.fs i).c) :: (busyF (S.fs.take i) ++ busyF (S.fs.drop (i + 1)))) := by
       have h2 : Perm (S.h ++ [(mx S.t (atF S.fs i).f, (atF S.fs i).c)]) ((mx S.t (atF S.fs i).f, (atF S.fs i).c) :: S.h) := by
        have := List.perm_append_comm (l₁ := S.h) (l₂ := [(mx S.t (atF S.fs i).f, (atF S.fs i).c)])
        exact this
       exact h2.trans (hpm.cons _)
      have h3 : Perm ((mx S.t (atF S.fs i).f, (atF S.fs i).c) :: (busyF (S.fs.take i) ++ busyF (S.fs.drop (i + 1)))) (busyF (S.fs.take i) ++ ([(mx S.t (atF S.fs i).f, (atF S.fs i).c)] ++ busyF (S.fs.drop (i + 1)))) := by
       have := (List.perm_middle (a := (mx S.t (atF S.fs i).f, (atF S.fs i).c)) (l₁ := busyF (S.fs.take i)) (l₂ := busyF (S.fs.drop (i + 1)))).symm
       simpa using this
      exact hps.1.trans (h1.trans h3)
     have hr8 : rev15_8 S.q S.lim S.t S.k (ordsF S.fs) (tabsF S.fs) (R S.h) (atF S.fs i).c id n z = tabsF (S.fs.set i ⟨(atF S.fs i).c, (atF S.fs i).w, mx S.t (atF S.fs i).f, (atF S.fs i).f, (atF S.fs i).k, S.lim, (atF S.fs i).rs⟩) := by
      unfold rev15_8
      refine tabsF_set I.one hi rfl _ ?_
      rw [e0, e1, e4, e5, e6, e7, wk.1, tab_at I.one hi]
      rfl
     have hr9 : rev15_9 S.q S.lim S.t S.k (ordsF S.fs) (tabsF S.fs) (R S.h) (atF S.fs i).c id n z = mx S.t (atF S.fs i).f := by
      unfold rev15_9
      rw [hr8, tab_ats I.one hi (x := ⟨(atF S.fs i).c, (atF S.fs i).w, mx S.t (atF S.fs i).f, (atF S.fs i).f, (atF S.fs i).k, S.lim, (atF S.fs i).rs⟩) rfl]
      rfl
     have hpu := push17 .imm (l := S.h) (by have := I.hlen; omega) (mx S.t (atF S.fs i).f, (atF S.fs i).c)
     have hK8 := tabsF_hasS hi (x := ⟨(atF S.fs i).c, (atF S.fs i).w, mx S.t (atF S.fs i).f, (atF S.fs i).f, (atF S.fs i).k, S.lim, (atF S.fs i).rs⟩) rfl
     have hK8' : ((List.brecOn.go (motive := fun x => (List AV → Bool) → Bool) (tabsF (S.fs.set i ⟨(atF S.fs i).c, (atF S.fs i).w, mx S.t (atF S.fs i).f, (atF S.fs i).f, (atF S.fs i).k, S.lim, (atF S.fs i).rs⟩)) List.any._f).1 fun e => keyA e == (atF S.fs i).c) = true := (hasK_go _ _).trans hK8
     refine ⟨0, _, I.set hi (x := admF S.t S.lim (atF S.fs i) id n z) rfl (Int.le_refl _) hfx I.t hbl hps.2 hp', .inr ⟨rfl, i, _, hi, rfl, hz1, hz2, rfl⟩, ⟨?_, ?_, ?_, (ords_set (x := admF S.t S.lim (atF S.fs i) id n z) hi rfl).symm, ?_⟩, fun L hL => ?_⟩
     ·unfold vev15_0; rw [hK, e2, hb, e3, decide_eq_false hbig]; rfl
     ·unfold vev15_1; rw [hK, e2, hb, e3, decide_eq_false hbig, hB.1, decide_eq_false hz, hr9]; exact hpu.1
     ·unfold vev15_2; rw [hK, e2, hb, e3, decide_eq_false hbig, hB.1, decide_eq_false hz, hr9, hr8]
      show setK _ _ _ = _
      rw [tabsF_set (I.one.set (i := i) (x := ⟨(atF S.fs i).c, (atF S.fs i).w, mx S.t (atF S.fs i).f, (atF S.fs i).f, (atF S.fs i).k, S.lim, (atF S.fs i).rs⟩) rfl) (i := i) (by simpa using hi) (by rw [set_at hi]) (admF S.t S.lim (atF S.fs i) id n z), List.set_set]
      rw [tab_ats I.one hi (x := ⟨(atF S.fs i).c, (atF S.fs i).w, mx S.t (atF S.fs i).f, (atF S.fs i).f, (atF S.fs i).k, S.lim, (atF S.fs i).rs⟩) rfl, tab_ats I.one hi (x := ⟨(atF S.fs i).c, (atF S.fs i).w, mx S.t (atF S.fs i).f, (atF S.fs i).f, (atF S.fs i).k, S.lim, (atF S.fs i).rs⟩) rfl, tab_ats I.one hi (x := ⟨(atF S.fs i).c, (atF S.fs i).w, mx S.t (atF S.fs i).f, (atF S.fs i).f, (atF S.fs i).k, S.lim, (atF S.fs i).rs⟩) rfl, tab_ats I.one hi (x := ⟨(atF S.fs i).c, (atF S.fs i).w, mx S.t (atF S.fs i).f, (atF S.fs i).f, (atF S.fs i).k, S.lim, (atF S.fs i).rs⟩) rfl, e0, e1, d4, hw]
      show _ = [_, _, _, AV.int .i64 (admF S.t S.lim (atF S.fs i) id n z).s, _, _, _, _]
      rw [hs]
      rfl
     ·unfold vev15_3; rw [hK, e2, hb, e0, e1, d1, e3, decide_eq_false hbig, b34.2, hB.1, hB.2, decide_eq_false hz, hr9, hr8, hK8', hpu.2]; rfl
     ·obtain ⟨g0, g1, g2, g3, g5, g6, g7, g8, g9, g10, g11, g12⟩ := doc L hL
      have hwith := with54 (q := S.q) (lim := S.lim) (t := S.t) (k := S.k) hL h8 hi (admF S.t S.lim (atF S.fs i) id n z)
      rw [hs] at hwith
      have hln : (((atF S.fs i).rs.length : Int) == 0) = true := beq_iff_eq.2 (by omega)
      refine ⟨?_, ?_, ?_⟩
      ·unfold vev16_0; rw [g0, hi0, g10, hb, g11, decide_eq_false hbig, g3, hln]
       unfold rev16_11 rev16_10
       rw [g2, g3, g5, g6, g7, g8, g9, hw, wk.2]
       exact hwith.1
      ·unfold vev16_1; rw [g0, hi0, g10, hb, g11, decide_eq_false hbig]; rfl
      ·unfold vev16_2; rw [g0, hi0, g1, hL.len, in2 hi, g2, g3, d2, g10, hb, g11, decide_eq_false hbig, g12, hln]
       unfold rev16_11 rev16_10
       rw [g2, g3, g5, g6, g7, g8, g9, hw, wk.2, hwith.2]
       rfl
 ·have hno : ∀ i, i < S.fs.length → (atF S.fs i).c ≠ c := fun i hi e => hex ⟨i, hi, e⟩
  have hK : hasK (tabsF S.fs) c = false := tabsF_hasNo hno
  have hx := ix_no hno
  refine ⟨6, S, I, .inl ⟨by omega, rfl⟩, ⟨?_, ?_, ?_, rfl, ?_⟩, fun L hL => ?_⟩
  ·unfold vev15_0; rw [hK]; rfl
  ·unfold vev15_1; rw [hK]; rfl
  ·unfold vev15_2; rw [hK]; rfl
  ·unfold vev15_3; rw [hK]; rfl
  ·have hp := pl46 (q := S.q) (lim := S.lim) (t := S.t) (k := S.k) (tk := .imm) hL h8 c
   refine ⟨?_, ?_, ?_⟩
   ·unfold vev16_0 rev16_0; rw [hp.1, hx]; exact hL
   ·unfold vev16_1 rev16_0; rw [hp.1, hx]; rfl
   ·unfold vev16_2 rev16_0; rw [hp.1, hp.2, hx]; rfl
end Go.Proofs.Gv
namespace Go.Proofs.Gv
open Go.Proofs
open List (Perm)
def Cw (w : Int) : Int := 720720 / w
theorem Cw_spec {w : Int} (h : 1 ≤ w ∧ w ≤ 16) : w * Cw w = 720720 ∧ 45045 ≤ Cw w ∧ Cw w ≤ 720720 := by
 have : w = 1 ∨ w = 2 ∨ w = 3 ∨ w = 4 ∨ w = 5 ∨ w = 6 ∨ w = 7 ∨ w = 8 ∨ w = 9 ∨ w = 10 ∨ w = 11 ∨ w = 12 ∨ w = 13 ∨ w = 14 ∨ w = 15 ∨ w = 16 := by omega
 rcases this with rfl | rfl | rfl | rfl | rfl | rfl | rfl | rfl | rfl | rfl | rfl | rfl | rfl | rfl | rfl | rfl <;> decide
theorem charge_b {c w : Int} (hc : 0 ≤ c) (hw : 1 ≤ w ∧ w ≤ 16) : 0 ≤ c * Cw w ∧ c * Cw w ≤ c * 720720 := by
 have h := Cw_spec hw
 exact ⟨Int.mul_nonneg hc (by omega), Int.mul_le_mul_of_nonneg_left h.2.2 hc⟩
theorem chgT {c w : Int} (hc : 0 ≤ c ∧ c ≤ 1000) (hw : 1 ≤ w ∧ w ≤ 16) : (vev101_0 c w = c * Cw w ∧ vev101_1 c w = 0 ∧ vev101_2 c w = true) ∧ (vev103_0 c w = c * Cw w ∧ vev103_1 c w = 0 ∧ vev103_2 c w = true) := by
 have hs := Cw_spec hw
 have hb := charge_b hc.1 hw
 have h78 : vev78_0 c 1099511627776 = true := by unfold vev78_0; rw [decide_eq_true (show 0 ≤ c by omega), decide_eq_true (show c ≤ 1099511627776 by omega)]; rfl
 have h79 : vev79_0 w = true := by unfold vev79_0; rw [decide_eq_true (show w > 0 by omega), decide_eq_true (show w ≤ 16 by omega)]; rfl
 have h92 : vev92_0 c 1099511627776 = true := by unfold vev92_0; rw [decide_eq_true (show c ≥ 0 by omega), decide_eq_true (show c ≤ 1099511627776 by omega)]; rfl
 have hne : (w == 0) = false := beq_eq_false_iff_ne.2 (by omega)
 have e1 : Int.tdiv 720720 w = Cw w := Int.tdiv_eq_ediv_of_nonneg (by omega)
 have e2 : (c * 720720).tdiv w = c * Cw w := by
  rw [show c * 720720 = c * Cw w * w by rw [Int.mul_assoc, Int.mul_comm (Cw w) w, hs.1], Int.mul_tdiv_cancel _ (by omega)]
 refine ⟨⟨?_, ?_, ?_⟩, ?_, ?_, ?_⟩
 ·unfold vev101_0
  rw [h78, h79, e1, wrapOf (Cw w) (by omega) (by omega), wrapOf _ (by omega) (by omega)]
  rfl
 ·unfold vev101_1; rw [h78, h79]; rfl
 ·unfold vev101_2; rw [h78, h79, hne]; rfl
 ·unfold vev103_0
  rw [h92, wrapOf (c * 720720) (by omega) (by omega), e2, wrapOf _ (by omega) (by omega), decide_eq_false (show ¬ w < 1 by omega), decide_eq_false (show ¬ w > 16 by omega)]
  rfl
 ·unfold vev103_1; rw [h92, decide_eq_false (show ¬ w < 1 by omega), decide_eq_false (show ¬ w > 16 by omega)]; rfl
 ·unfold vev103_2; rw [h92, hne, decide_eq_false (show ¬ w < 1 by omega), decide_eq_false (show ¬ w > 16 by omega)]; rfl
theorem serveT {lim k v u : Int} {x : Fl} (f : FlOK lim k x) (hu : 0 ≤ u ∧ u ≤ 1000) (hk : k + u ≤ 1099511627776) :
  (vev68_0 v x.w x.s x.f x.k u = x.s ∧ vev68_1 v x.w x.s x.f x.k u = x.s + u * Cw x.w ∧ vev68_2 v x.w x.s x.f x.k u = x.s + u * Cw x.w ∧ vev68_3 v x.w x.s x.f x.k u = x.k + u ∧ vev68_4 v x.w x.s x.f x.k u = 0 ∧ vev68_5 v x.w x.s x.f x.k u = true) ∧
  (vev71_0 v x.w x.s x.f x.k u = x.s ∧ vev71_1 v x.w x.s x.f x.k u = x.s + u * Cw x.w ∧ vev71_2 v x.w x.s x.f x.k u = x.s + u * Cw x.w ∧ vev71_3 v x.w x.s x.f x.k u = x.k + u ∧ vev71_5 v x.w x.s x.f x.k u = true) := by
 have c := chkT f (by omega)
 obtain ⟨⟨a0, a1, a2⟩, b0, b1, b2⟩ := chgT hu f.w
 have hb := charge_b hu.1 f.w
 have hs := f.s
 have hx := f.k
 have n0 : ((0 : Int) != 0) = false := rfl
 have w0 : rev68_0 v x.w x.s x.f x.k u = 1099511627776 - x.k := by unfold rev68_0; rw [wrapOf _ (by omega) (by omega)]
 have w1 : rev68_1 v x.w x.s x.f x.k u = 2305843009213693952 - x.s := by unfold rev68_1; rw [wrapOf _ (by omega) (by omega)]
 have w2 : rev71_0 v x.w x.s x.f x.k u = x.k + u := by unfold rev71_0; rw [wrapOf _ (by omega) (by omega)]
 have w3 : rev71_1 v x.w x.s x.f x.k u = x.s + u * Cw x.w := by unfold rev71_1; rw [b0, wrapOf _ (by omega) (by omega)]
 refine ⟨⟨?_, ?_, ?_, ?_, ?_, ?_⟩, ?_, ?_, ?_, ?_, ?_⟩
 ·unfold vev68_0; rw [c.1, n0, a1, n0, a0, w0, w1, decide_eq_false (show ¬ u > 1099511627776 - x.k by omega), decide_eq_false (show ¬ u * Cw x.w > 2305843009213693952 - x.s by omega)]; rfl
 ·unfold vev68_1; rw [c.1, n0, a1, n0, a0, w0, w1, decide_eq_false (show ¬ u > 1099511627776 - x.k by omega), decide_eq_false (show ¬ u * Cw x.w > 2305843009213693952 - x.s by omega), wrapOf _ (by omega) (by omega)]; rfl
 ·unfold vev68_2; rw [c.1, n0, a1, n0, a0, w0, w1, decide_eq_false (show ¬ u > 1099511627776 - x.k by omega), decide_eq_false (show ¬ u * Cw x.w > 2305843009213693952 - x.s by omega), wrapOf _ (by omega) (by omega)]; rfl
 ·unfold vev68_3; rw [c.1, n0, a1, n0, a0, w0, w1, decide_eq_false (show ¬ u > 1099511627776 - x.k by omega), decide_eq_false (show ¬ u * Cw x.w > 2305843009213693952 - x.s by omega), wrapOf _ (by omega) (by omega)]; rfl
 ·unfold vev68_4; rw [c.1, n0, a1, n0, a0, w0, w1, decide_eq_false (show ¬ u > 1099511627776 - x.k by omega), decide_eq_false (show ¬ u * Cw x.w > 2305843009213693952 - x.s by omega)]; rfl
 ·unfold vev68_5; rw [c.1, n0, a2]; rfl
 ·unfold vev71_0; rw [c.2, n0, b1, n0, w2, w3, decide_eq_false (show ¬ x.k + u > 1099511627776 by omega), decide_eq_false (show ¬ x.s + u * Cw x.w > 2305843009213693952 by omega)]; rfl
 ·unfold vev71_1; rw [c.2, n0, b1, n0, w2, w3, decide_eq_false (show ¬ x.k + u > 1099511627776 by omega), decide_eq_false (show ¬ x.s + u * Cw x.w > 2305843009213693952 by omega)]; rfl
 ·unfold vev71_2; rw [c.2, n0, b1, n0, w2, w3, decide_eq_false (show ¬ x.k + u > 1099511627776 by omega), decide_eq_false (show ¬ x.s + u * Cw x.w > 2305843009213693952 by omega)]; rfl
 ·unfold vev71_3; rw [c.2, n0, b1, n0, w2, w3, decide_eq_false (show ¬ x.k + u > 1099511627776 by omega), decide_eq_false (show ¬ x.s + u * Cw x.w > 2305843009213693952 by omega)]; rfl
 ·unfold vev71_5; rw [c.2, n0, b2]; rfl
def keyF (x : Fl) : It := (x.s, x.c)
def nxF (fs : List Fl) : Nat → Int
 | 0 => -1
 | j + 1 => if (atF fs j).rs.length = 0 then nxF fs j else if nxF fs j < 0 then (j : Int) else if ltI (keyF (atF fs j)) (keyF (atF fs (nxF fs j).toNat)) = true then (j : Int) else nxF fs j
def LeastF (fs : List Fl) (n a : Nat) : Prop := a < n ∧ 0 < (atF fs a).rs.length ∧ ∀ b, b < n → 0 < (atF fs b).rs.length → ltI (keyF (atF fs b)) (keyF (atF fs a)) = false
theorem nxF_spec (fs : List Fl) : ∀ n, (nxF fs n = -1 ∧ ∀ b, b < n → (atF fs b).rs.length = 0) ∨ ∃ a : Nat, nxF fs n = (a : Int) ∧ LeastF fs n a := by
 intro n
 induction n with
 | zero => exact .inl ⟨rfl, fun b hb => by omega⟩
 | succ n ih =>
   unfold nxF
   by_cases hz : (atF fs n).rs.length = 0
   ·rw [if_pos hz]
    rcases ih with ⟨h1, h2⟩ | ⟨a, h1, h2, h3, h4⟩
    ·refine .inl ⟨h1, fun b hb => ?_⟩
     by_cases e : b = n
     ·rw [e]; exact hz
     ·exact h2 b (by omega)
    ·refine .inr ⟨a, h1, by omega, h3, fun b hb h => ?_⟩
     by_cases e : b = n
     ·rw [e] at h; omega
     ·exact h4 b (by omega) h
   ·rw [if_neg hz]
    rcases ih with ⟨h1, h2⟩ | ⟨a, h1, h2, h3, h4⟩
    ·rw [h1, if_pos (by omega)]
     refine .inr ⟨n, rfl, by omega, by omega, fun b hb h => ?_⟩
     by_cases e : b = n
     ·rw [e]; exact ltI_irr _
     ·have := h2 b (by omega); omega
    ·rw [h1, if_neg (by omega), Int.toNat_natCast]
     cases hlt : ltI (keyF (atF fs n)) (keyF (atF fs a)) with
     | true =>
       rw [if_pos rfl]
       refine .inr ⟨n, rfl, by omega, by omega, fun b hb h => ?_⟩
       by_cases e : b = n
       ·rw [e]; exact ltI_irr _
       ·exact leI_trans (ltI_asym hlt) (h4 b (by omega) h)
     | false =>
       rw [if_neg (by simp)]
       refine .inr ⟨a, rfl, by omega, h3, fun b hb h => ?_⟩
       by_cases e : b = n
       ·rw [e]; exact hlt
       ·exact h4 b (by omega) h
theorem LeastF.nx {fs : List Fl} (h1 : OneF fs) {i : Nat} (h : LeastF fs fs.length i) : nxF fs fs.length = (i : Int) := by
 rcases nxF_spec fs fs.length with ⟨_, h2⟩ | ⟨a, e, a1, a2, a3⟩
 ·have := h2 i h.1
  have := h.2.1
  omega
 ·have e1 := h.2.2 a a1 a2
  have e2 := a3 i h.1 h.2.1
  have := leI_antisymm e2 e1
  have hc : (atF fs a).c = (atF fs i).c := congrArg Prod.snd this
  rw [e, h1 i a h.1 a1 hc]
section
variable {q lim t k : Int} {fs : List Fl} {L : List (List AV)} {tk : Tk}
theorem ends69 (hL : Lk L fs) (h8 : fs.length ≤ 8) : Ends (g69_3 (q, lim, tk, L, t, k)) (n69_3 (q, lim, tk, L, t, k)) ((-1 : Int), (0 : Int)) (nxF fs fs.length, (fs.length : Int)) := by
 refine Ends.count (go := g69_3 (q, lim, tk, L, t, k)) (next := n69_3 (q, lim, tk, L, t, k)) fs.length (fun i => (nxF fs i, (i : Int))) (fun i hi => ?_) ?_
 ·have hc := hL.cells hi
  have hlt : decide ((i : Int) < (fs.length : Int)) = true := decide_eq_true (by omega)
  have e0 : ∀ a, rn69_3_0 a (i : Int) q lim tk L t k = (atF fs i).s := fun a => hc.2.2.1
  have e2 : ∀ a, rn69_3_2 a (i : Int) q lim tk L t k = (atF fs i).c := fun a => hc.1
  have hn : nx69_3_1 (nxF fs i) (i : Int) q lim tk L t k = ((i + 1 : Nat) : Int) := nxt8 i _ hi h8
  have key : go69_3 (nxF fs i) (i : Int) q lim tk L t k = true ∧ nx69_3_0 (nxF fs i) (i : Int) q lim tk L t k = nxF fs (i + 1) := by
   unfold go69_3 nx69_3_0
   rw [hL.len, in2 hi, hlt, hc.2.2.2.2.2.2, e0, e2]
   by_cases hz : (atF fs i).rs.length = 0
   ·have hz' : (((atF fs i).rs.length : Int) == 0) = true := beq_iff_eq.2 (by omega)
    rw [hz']
    refine ⟨rfl, ?_⟩
    show nxF fs i = _
    conv => rhs; unfold nxF
    rw [if_pos hz]
   ·have hz' : (((atF fs i).rs.length : Int) == 0) = false := beq_eq_false_iff_ne.2 (by omega)
    rw [hz']
    conv => rhs; rhs; unfold nxF
    rw [if_neg hz]
    rcases nxF_spec fs i with ⟨h1, h2⟩ | ⟨a, h1, h2, h3, h4⟩
    ·rw [h1, if_pos (by omega), decide_eq_true (show (-1 : Int) < 0 by omega)]
     exact ⟨rfl, rfl⟩
    ·have ha : a < fs.length := by omega
     have hca := hL.cells ha
     have e1 : rn69_3_1 (a : Int) (i : Int) q lim tk L t k = (atF fs a).s := hca.2.2.1
     have e3 : rn69_3_3 (a : Int) (i : Int) q lim tk L t k = (atF fs a).c := hca.1
     rw [h1, if_neg (by omega), decide_eq_false (show ¬ (a : Int) < 0 by omega), in2 ha, e1, e3, Int.toNat_natCast]
     unfold ltI keyF
     dsimp only
     cases decide ((atF fs i).s < (atF fs a).s) with
     | true => exact ⟨rfl, rfl⟩
     | false =>
       cases ((atF fs i).s == (atF fs a).s) with
       | false => exact ⟨rfl, rfl⟩
       | true =>
         cases decide ((atF fs i).c < (atF fs a).c) with
         | false => exact ⟨rfl, rfl⟩
         | true => exact ⟨rfl, rfl⟩
  refine ⟨key.1, ?_⟩
  show (nx69_3_0 (nxF fs i) (i : Int) q lim tk L t k, nx69_3_1 (nxF fs i) (i : Int) q lim tk L t k) = _
  rw [key.2, hn]
 ·show go69_3 (nxF fs fs.length) (fs.length : Int) q lim tk L t k = false
  unfold go69_3
  rw [hL.len, decide_eq_false (by omega)]
  rfl
theorem nx69 (hL : Lk L fs) (h8 : fs.length ≤ 8) : vev69_0 q lim t k tk L = nxF fs fs.length ∧ vev69_1 q lim t k tk L = true := by
 have h := (ends69 (q := q) (lim := lim) (t := t) (k := k) (tk := tk) hL h8).fin
 unfold vev69_0 vev69_1 rev69_0
 simp only [spI]
 rw [h.2, h.1]
 unfold z69_3 xc69_3_0
 dsimp only
 rw [hL.len, decide_eq_false (show ¬ (fs.length : Int) < (fs.length : Int) by omega)]
 exact ⟨rfl, rfl⟩
end
end Go.Proofs.Gv
namespace Go.Proofs.Gv
open Go.Proofs
open List (Perm)
abbrev srvF (q lim : Int) (x : Fl) (k : Nat) : Fl := ⟨x.c, x.w, x.s + un x.rs k q * Cw x.w, x.s + un x.rs k q * Cw x.w, x.k + un x.rs k q, lim, sv x.rs k q⟩
structure SrvOK (S S' : Sc) (i k : Nat) : Prop where
 hi : i < S.fs.length
 hk : k < (atF S.fs i).rs.length
 nx : nx S.lim (atF S.fs i).rs = (k : Int)
 least : LeastF S.fs S.fs.length i
 st : ∃ h', S' = ⟨S.q, S.lim, (atF S.fs i).s, S.k + un (atF S.fs i).rs k S.q, S.fs.set i (srvF S.q S.lim (atF S.fs i) k), h'⟩
structure Tld where
 c : Int
 i : Int
 u : Int
 l : Int
 b : Bool
theorem idle_all {fs : List Fl} (h : busyF fs = []) : ∀ b, b < fs.length → (atF fs b).rs.length = 0 := by
 intro b hb
 by_cases e : 0 < (atF fs b).rs.length
 ·have := busy_at hb
  rw [h] at this
  have hz : bz (atF fs b) = [((atF fs b).s, (atF fs b).c)] := if_pos e
  rw [hz] at this
  have := congrArg List.length this
  simp at this
 ·omega
theorem serve31 {S : Sc} (I : Inv S) : ∃ (o : Tld) (S' : Sc), Inv S' ∧ ((busyF S.fs = [] ∧ S' = S ∧ o = ⟨0, 0, 0, 0, false⟩) ∨ (∃ i k, SrvOK S S' i k ∧ o = ⟨(atF S.fs i).c, q0 (atF S.fs i).rs k, un (atF S.fs i).rs k S.q, q2 (atF S.fs i).rs k - un (atF S.fs i).rs k S.q, true⟩)) ∧
  ((vev31_0 S.q S.lim S.t S.k (ordsF S.fs) (tabsF S.fs) (R S.h) = o.c ∧ vev31_1 S.q S.lim S.t S.k (ordsF S.fs) (tabsF S.fs) (R S.h) = o.i ∧ vev31_2 S.q S.lim S.t S.k (ordsF S.fs) (tabsF S.fs) (R S.h) = o.u ∧ vev31_3 S.q S.lim S.t S.k (ordsF S.fs) (tabsF S.fs) (R S.h) = o.l ∧ vev31_4 S.q S.lim S.t S.k (ordsF S.fs) (tabsF S.fs) (R S.h) = o.b) ∧
    (vev31_5 S.q S.lim S.t S.k (ordsF S.fs) (tabsF S.fs) (R S.h) = R S'.h ∧ vev31_6 S.q S.lim S.t S.k (ordsF S.fs) (tabsF S.fs) (R S.h) = S'.t ∧ vev31_7 S.q S.lim S.t S.k (ordsF S.fs) (tabsF S.fs) (R S.h) = S'.k ∧ vev31_8 S.q S.lim S.t S.k (ordsF S.fs) (tabsF S.fs) (R S.h) = tabsF S'.fs ∧ ordsF S.fs = ordsF S'.fs ∧ S'.q = S.q ∧ S'.lim = S.lim ∧ vev31_9 S.q S.lim S.t S.k (ordsF S.fs) (tabsF S.fs) (R S.h) = true)) ∧
  ∀ L, Lk L S.fs → (vev32_3 S.q S.lim S.t S.k L = o.c ∧ vev32_4 S.q S.lim S.t S.k L = o.i ∧ vev32_5 S.q S.lim S.t S.k L = o.u ∧ vev32_6 S.q S.lim S.t S.k L = o.l ∧ vev32_7 S.q S.lim S.t S.k L = o.b) ∧ Lk (vev32_0 S.q S.lim S.t S.k L) S'.fs ∧ vev32_1 S.q S.lim S.t S.k L = S'.t ∧ vev32_2 S.q S.lim S.t S.k L = S'.k ∧ vev32_8 S.q S.lim S.t S.k L = true := by
 have h8 := I.len
 have hl := I.hlen
 obtain ⟨p3, p4, p0, p12⟩ := pop18 .imm (l := S.h) (by omega)
 by_cases h0 : 0 < S.h.length
 ·rw [decide_eq_true h0] at p3 p0
  rw [cond_true, own_of_heap I.hp] at p0
  have p1 := (p12 h0).1
  have p2 := (p12 h0).2
  rw [own_of_heap I.hp] at p1 p2
  have hm : at' S.h 0 ∈ busyF S.fs := I.pm.mem_iff.1 (at_mem h0)
  obtain ⟨x, hx, hk0, hb⟩ := mem_busy hm
  obtain ⟨i, hi, rfl⟩ := mem_atF hx
  have hlst : LeastF S.fs S.fs.length i := by
   refine ⟨hi, hb, fun b hb1 hb2 => ?_⟩
   have hmb : keyF (atF S.fs b) ∈ S.h := I.pm.mem_iff.2 (by
    rw [busy_at hb1]
    have : bz (atF S.fs b) = [((atF S.fs b).s, (atF S.fs b).c)] := if_pos hb2
    rw [this]
    simp [keyF])
   obtain ⟨j, hj, e⟩ := List.mem_iff_getElem.1 hmb
   have := heap_min I.hp j hj
   rw [at_lt hj, e, hk0] at this
   exact this
  have p2' : vev66_2 Tk.imm (R S.h) = (atF S.fs i).c := by rw [p2, hk0]
  have f := I.fl i hi
  obtain ⟨k, hk, hn, _⟩ := nx_some f.g hb
  have hN : (atF S.fs i).rs.length ≤ 1000 := by have := f.g.len; omega
  obtain ⟨s0, s1, s3, s5⟩ := s70 f.g hk hn I.q.1
  obtain ⟨⟨c0, c1, _, c3, _, c5⟩, c6, d6⟩ := r14 (l := S.lim) (es := (atF S.fs i).rs) (q := S.q) hN
  have hu := un_le f.g hk I.q.1
  have hq := I.q
  have hbl := I.bl
  have hq2 := f.g.q2b hk
  have hlw : un (atF S.fs i).rs k S.q ≤ blL S.fs := by
   have h1 := blL_at hi
   have h2 := lfQ_sv hk S.q
   have h3 := (lfQ_b (sv_good f.g hk I.q.1)).1
   have h4 : 0 ≤ blL (S.fs.take i) := by
    rw [← blF_eq]
    refine (blN_b (lim := S.lim) (fs := S.fs.take i) (fun j hj => ?_) _ (Nat.le_refl _)).1
    have hj' : j < i := by rw [List.length_take] at hj; omega
    have e : atF (S.fs.take i) j = atF S.fs j := by unfold atF; rw [List.getD_eq_getElem?_getD, List.getD_eq_getElem?_getD, List.getElem?_take_of_lt hj']
    rw [e]; exact I.gd j (by omega)
   have h5 : 0 ≤ blL (S.fs.drop (i + 1)) := by
    rw [← blF_eq]
    refine (blN_b (lim := S.lim) (fs := S.fs.drop (i + 1)) (fun j hj => ?_) _ (Nat.le_refl _)).1
    have hj' : i + 1 + j < S.fs.length := by rw [List.length_drop] at hj; omega
    have e : atF (S.fs.drop (i + 1)) j = atF S.fs (i + 1 + j) := by unfold atF; rw [List.getD_eq_getElem?_getD, List.getD_eq_getElem?_getD, List.getElem?_drop]
    rw [e]; exact I.gd _ hj'
   omega
  have hkk := I.k.1
  obtain ⟨⟨a0, a1, a2, a3, a4, a5⟩, b0, b1, b2, b3, b5⟩ := serveT (v := S.t) f (u := un (atF S.fs i).rs k S.q) (by omega) (by omega)
  have hcb := charge_b (c := un (atF S.fs i).rs k S.q) (by omega) f.w
  have hfx : FlOK S.lim (S.k + un (atF S.fs i).rs k S.q) (srvF S.q S.lim (atF S.fs i) k) := by
   have h1 := f.s
   have h2 := f.k
   refine ⟨f.c, f.w, ?_, ?_, ?_, rfl, sv_good f.g hk I.q.1, RowQ_iff.2 ((RowQ_iff.1 f.r).sv k S.q)⟩
   ·show 0 ≤ (atF S.fs i).s + un (atF S.fs i).rs k S.q * Cw (atF S.fs i).w ∧ (atF S.fs i).s + un (atF S.fs i).rs k S.q * Cw (atF S.fs i).w ≤ (S.k + un (atF S.fs i).rs k S.q) * 720720
    omega
   ·show 0 ≤ (atF S.fs i).s + un (atF S.fs i).rs k S.q * Cw (atF S.fs i).w ∧ (atF S.fs i).s + un (atF S.fs i).rs k S.q * Cw (atF S.fs i).w ≤ (S.k + un (atF S.fs i).rs k S.q) * 720720
    omega
   ·show 0 ≤ (atF S.fs i).k + un (atF S.fs i).rs k S.q ∧ (atF S.fs i).k + un (atF S.fs i).rs k S.q ≤ S.k + un (atF S.fs i).rs k S.q
    omega
  have hbl' : S.k + un (atF S.fs i).rs k S.q + (blL S.fs - lfQ (atF S.fs i).rs + lfQ (sv (atF S.fs i).rs k S.q)) ≤ 1099511627776 := by
   rw [lfQ_sv hk]; omega
  have ht' : 0 ≤ (atF S.fs i).s ∧ (atF S.fs i).s ≤ (S.k + un (atF S.fs i).rs k S.q) * 720720 := by
   have := f.s
   omega
  obtain ⟨hc1, hc2⟩ := cutH_spec I.hp h0
  have hpm := I.pm
  have hbzi : bz (atF S.fs i) = [((atF S.fs i).s, (atF S.fs i).c)] := if_pos hb
  rw [busy_at hi, hbzi] at hpm
  have hrest : Perm (cutH S.h 0) (busyF (S.fs.take i) ++ busyF (S.fs.drop (i + 1))) := by
   have h1 : Perm (at' S.h 0 :: S.h.eraseIdx 0) (at' S.h 0 :: (busyF (S.fs.take i) ++ busyF (S.fs.drop (i + 1)))) := by
    refine (erase_perm h0).trans (hpm.trans ?_)
    rw [hk0]
    simp
   exact hc1.trans h1.cons_inv
  have e0 : rev31_0 S.q S.lim S.t S.k (ordsF S.fs) (tabsF S.fs) (R S.h) = S.lim := by unfold rev31_0; rw [p2', tab_at I.one hi]; exact f.l
  have e1 : rev31_1 S.q S.lim S.t S.k (ordsF S.fs) (tabsF S.fs) (R S.h) = (atF S.fs i).rs := by unfold rev31_1; rw [p2', tab_at I.one hi]; rfl
  have e2 : rev31_2 S.q S.lim S.t S.k (ordsF S.fs) (tabsF S.fs) (R S.h) = (atF S.fs i).w := by unfold rev31_2; rw [p2', tab_at I.one hi]; rfl
  have e3 : rev31_3 S.q S.lim S.t S.k (ordsF S.fs) (tabsF S.fs) (R S.h) = (atF S.fs i).s := by unfold rev31_3; rw [p2', tab_at I.one hi]; rfl
  have e4 : rev31_4 S.q S.lim S.t S.k (ordsF S.fs) (tabsF S.fs) (R S.h) = (atF S.fs i).f := by unfold rev31_4; rw [p2', tab_at I.one hi]; rfl
  have e5 : rev31_5 S.q S.lim S.t S.k (ordsF S.fs) (tabsF S.fs) (R S.h) = (atF S.fs i).k := by unfold rev31_5; rw [p2', tab_at I.one hi]; rfl
  have e6 : rev31_6 S.q S.lim S.t S.k (ordsF S.fs) (tabsF S.fs) (R S.h) = un (atF S.fs i).rs k S.q := by unfold rev31_6; rw [e0, e1, s5]
  have e7 : rev31_7 S.q S.lim S.t S.k (ordsF S.fs) (tabsF S.fs) (R S.h) = tabsF (S.fs.set i ⟨(atF S.fs i).c, (atF S.fs i).w, (atF S.fs i).s, (atF S.fs i).f, (atF S.fs i).k, S.lim, sv (atF S.fs i).rs k S.q⟩) := by
   unfold rev31_7
   rw [p2']
   refine tabsF_set I.one hi rfl _ ?_
   rw [e0, e1, e2, e3, e4, e5, s0, tab_at I.one hi]
   rfl
  have e8 : rev31_8 S.q S.lim S.t S.k (ordsF S.fs) (tabsF S.fs) (R S.h) = (atF S.fs i).s + un (atF S.fs i).rs k S.q * Cw (atF S.fs i).w := by unfold rev31_8; rw [e2, e3, e4, e5, e6, a1]
  have e9 : rev31_9 S.q S.lim S.t S.k (ordsF S.fs) (tabsF S.fs) (R S.h) = tabsF (S.fs.set i (srvF S.q S.lim (atF S.fs i) k)) := by
   unfold rev31_9
   rw [p2', e7, e2, e3, e4, e5, e6, e8, a2, a3]
   rw [tabsF_set (I.one.set (i := i) (x := ⟨(atF S.fs i).c, (atF S.fs i).w, (atF S.fs i).s, (atF S.fs i).f, (atF S.fs i).k, S.lim, sv (atF S.fs i).rs k S.q⟩) rfl) (i := i) (by simpa using hi) (by rw [set_at hi]) (srvF S.q S.lim (atF S.fs i) k), List.set_set]
   rw [tab_ats I.one hi (x := ⟨(atF S.fs i).c, (atF S.fs i).w, (atF S.fs i).s, (atF S.fs i).f, (atF S.fs i).k, S.lim, sv (atF S.fs i).rs k S.q⟩) rfl, tab_ats I.one hi (x := ⟨(atF S.fs i).c, (atF S.fs i).w, (atF S.fs i).s, (atF S.fs i).f, (atF S.fs i).k, S.lim, sv (atF S.fs i).rs k S.q⟩) rfl, tab_ats I.one hi (x := ⟨(atF S.fs i).c, (atF S.fs i).w, (atF S.fs i).s, (atF S.fs i).f, (atF S.fs i).k, S.lim, sv (atF S.fs i).rs k S.q⟩) rfl]
   rfl
  have e10 : rev31_10 S.q S.lim S.t S.k (ordsF S.fs) (tabsF S.fs) (R S.h) = (atF S.fs i).c := by
   unfold rev31_10
   rw [p2', e9, tab_ats I.one hi (x := srvF S.q S.lim (atF S.fs i) k) rfl]
   rfl
  have hB := busy48s I.one hi (x := srvF S.q S.lim (atF S.fs i) k) rfl
  have h77 : ((0 : Int) != 0) = false := rfl
  have hK7 := tabsF_hasS hi (x := ⟨(atF S.fs i).c, (atF S.fs i).w, (atF S.fs i).s, (atF S.fs i).f, (atF S.fs i).k, S.lim, sv (atF S.fs i).rs k S.q⟩) rfl
  have hK7' : ((List.brecOn.go (motive := fun x => (List AV → Bool) → Bool) (tabsF (S.fs.set i ⟨(atF S.fs i).c, (atF S.fs i).w, (atF S.fs i).s, (atF S.fs i).f, (atF S.fs i).k, S.lim, sv (atF S.fs i).rs k S.q⟩)) List.any._f).1 fun e => keyA e == (atF S.fs i).c) = true := (hasK_go _ _).trans hK7
  have hK9 := tabsF_hasS hi (x := srvF S.q S.lim (atF S.fs i) k) rfl
  have hK9' : ((List.brecOn.go (motive := fun x => (List AV → Bool) → Bool) (tabsF (S.fs.set i (srvF S.q S.lim (atF S.fs i) k))) List.any._f).1 fun e => keyA e == (atF S.fs i).c) = true := (hasK_go _ _).trans hK9
  have hcl : (cutH S.h 0).length ≤ 8 := by
   have := hc1.length_eq
   rw [List.length_eraseIdx] at this
   split at this <;> omega
  have hpu := push17 .imm (l := cutH S.h 0) (by omega) ((atF S.fs i).s + un (atF S.fs i).rs k S.q * Cw (atF S.fs i).w, (atF S.fs i).c)
  have hpf : ∃ h', (bif decide (0 < (sv (atF S.fs i).rs k S.q).length) then vev50_0 Tk.imm (R (cutH S.h 0)) ((atF S.fs i).s + un (atF S.fs i).rs k S.q * Cw (atF S.fs i).w) (atF S.fs i).c else R (cutH S.h 0)) = R h' ∧ HeapL h' ∧ Perm h' (busyF (S.fs.set i (srvF S.q S.lim (atF S.fs i) k))) := by
   rw [busy_set hi]
   unfold bz
   by_cases hz : 0 < (sv (atF S.fs i).rs k S.q).length
   ·have hps := pushH_spec (cutH S.h 0) ((atF S.fs i).s + un (atF S.fs i).rs k S.q * Cw (atF S.fs i).w, (atF S.fs i).c)
    refine ⟨pushH (cutH S.h 0) ((atF S.fs i).s + un (atF S.fs i).rs k S.q * Cw (atF S.fs i).w, (atF S.fs i).c), by rw [decide_eq_true hz]; exact hpu.1, hps.2, ?_⟩
    rw [if_pos hz]
    have h1 := (List.perm_append_comm (l₁ := cutH S.h 0) (l₂ := [((atF S.fs i).s + un (atF S.fs i).rs k S.q * Cw (atF S.fs i).w, (atF S.fs i).c)])).trans (hrest.append_left [((atF S.fs i).s + un (atF S.fs i).rs k S.q * Cw (atF S.fs i).w, (atF S.fs i).c)])
    have h3 := (List.perm_middle (a := ((atF S.fs i).s + un (atF S.fs i).rs k S.q * Cw (atF S.fs i).w, (atF S.fs i).c)) (l₁ := busyF (S.fs.take i)) (l₂ := busyF (S.fs.drop (i + 1)))).symm
    exact hps.1.trans (h1.trans h3)
   ·refine ⟨cutH S.h 0, by rw [decide_eq_false hz]; rfl, hc2, ?_⟩
    rw [if_neg hz]
    simpa using hrest
  obtain ⟨h', k1, k2, k3⟩ := hpf
  refine ⟨⟨(atF S.fs i).c, q0 (atF S.fs i).rs k, un (atF S.fs i).rs k S.q, q2 (atF S.fs i).rs k - un (atF S.fs i).rs k S.q, true⟩, _, I.set hi (x := srvF S.q S.lim (atF S.fs i) k) rfl (by omega) hfx ht' hbl' k2 k3, .inr ⟨i, k, ⟨hi, hk, hn, hlst, h', rfl⟩, rfl⟩, ⟨⟨?_, ?_, ?_, ?_, ?_⟩, ?_, ?_, ?_, ?_, (ords_set (x := srvF S.q S.lim (atF S.fs i) k) hi rfl).symm, rfl, rfl, ?_⟩, fun L hL => ?_⟩
  ·unfold vev31_0; rw [p3, e2, e3, e4, e5, e6, a4, e10]; rfl
  ·unfold vev31_1; rw [p3, e2, e3, e4, e5, e6, a4, e0, e1, s1]; rfl
  ·unfold vev31_2; rw [p3, e2, e3, e4, e5, e6, a4]; rfl
  ·unfold vev31_3; rw [p3, e2, e3, e4, e5, e6, a4, e0, e1, s3]; rfl
  ·unfold vev31_4; rw [p3, e2, e3, e4, e5, e6, a4]; rfl
  ·unfold vev31_5; rw [p3, e2, e3, e4, e5, e6, a4, p0, p2', e8, e9, e10, hB.1]; exact k1
  ·unfold vev31_6; rw [p3, e2, e3, e4, e5, e6, a4, a0]; rfl
  ·unfold vev31_7; rw [p3, e2, e3, e4, e5, e6, a4, wrapOf _ (by omega) (by omega)]; rfl
  ·unfold vev31_8; rw [p3, e2, e3, e4, e5, e6, a4, e9]; rfl
  ·unfold vev31_9
   rw [p3, p4, p2', e0, e1, e2, e3, e4, e5, e6, a4, a5, c6, e7, e8, e9, e10, hK7', hK9', hB.1, hB.2, p0, hpu.2, tabsF_hasAt hi]
   cases decide (0 < (srvF S.q S.lim (atF S.fs i) k).rs.length) <;> rfl
  ·have hx69 := nx69 (q := S.q) (lim := S.lim) (t := S.t) (k := S.k) (tk := .imm) hL h8
   have hni := hlst.nx I.one
   rw [hni] at hx69
   obtain ⟨n0, n1⟩ := hx69
   have hc := hL.cells hi
   have hi0 : decide ((i : Int) < 0) = false := decide_eq_false (by omega)
   have g0 : rev32_0 S.q S.lim S.t S.k L = S.lim := by unfold rev32_0; rw [n0]; exact hc.2.2.2.2.2.1.trans f.l
   have g1 : rev32_1 S.q S.lim S.t S.k L = (atF S.fs i).rs := by unfold rev32_1; rw [n0]; exact hc.2.2.2.2.2.2
   have g2 : rev32_2 S.q S.lim S.t S.k L = (atF S.fs i).w := by unfold rev32_2; rw [n0]; exact hc.2.1
   have g3 : rev32_3 S.q S.lim S.t S.k L = (atF S.fs i).s := by unfold rev32_3; rw [n0]; exact hc.2.2.1
   have g4 : rev32_4 S.q S.lim S.t S.k L = (atF S.fs i).f := by unfold rev32_4; rw [n0]; exact hc.2.2.2.1
   have g5 : rev32_5 S.q S.lim S.t S.k L = (atF S.fs i).k := by unfold rev32_5; rw [n0]; exact hc.2.2.2.2.1
   have g6 : rev32_6 S.q S.lim S.t S.k L = un (atF S.fs i).rs k S.q := by unfold rev32_6; rw [g0, g1, ← c5, s5]
   have g7 : rev32_7 S.q S.lim S.t S.k L = (atF S.fs i).s := by unfold rev32_7; rw [g2, g3, g4, g5, g6, b0]
   have g8 : rev32_8 S.q S.lim S.t S.k L = S.k + un (atF S.fs i).rs k S.q := by unfold rev32_8; rw [g6, wrapOf _ (by omega) (by omega)]
   have g9 : rev32_9 S.q S.lim S.t S.k L = (atF S.fs i).c := by unfold rev32_9; rw [n0]; exact hc.1
   have g10 : rev32_10 S.q S.lim S.t S.k L = (atF S.fs i).s + un (atF S.fs i).rs k S.q * Cw (atF S.fs i).w := by unfold rev32_10; rw [g2, g3, g4, g5, g6, b1]
   have g11 : rev32_11 S.q S.lim S.t S.k L = (atF S.fs i).s + un (atF S.fs i).rs k S.q * Cw (atF S.fs i).w := by unfold rev32_11; rw [g2, g3, g4, g5, g6, b2]
   have g12 : rev32_12 S.q S.lim S.t S.k L = (atF S.fs i).k + un (atF S.fs i).rs k S.q := by unfold rev32_12; rw [g2, g3, g4, g5, g6, b3]
   have g13 : rev32_13 S.q S.lim S.t S.k L = sv (atF S.fs i).rs k S.q := by unfold rev32_13; rw [g0, g1, ← c0, s0]
   have hwith := with54 (q := S.q) (lim := S.lim) (t := (atF S.fs i).s) (k := S.k + un (atF S.fs i).rs k S.q) hL h8 hi (srvF S.q S.lim (atF S.fs i) k)
   refine ⟨⟨?_, ?_, ?_, ?_, ?_⟩, ?_, ?_, ?_, ?_⟩
   ·unfold vev32_3; rw [n0, hi0, g9]; rfl
   ·unfold vev32_4; rw [n0, hi0, g0, g1, ← c1, s1]; rfl
   ·unfold vev32_5; rw [n0, hi0, g6]; rfl
   ·unfold vev32_6; rw [n0, hi0, g0, g1, ← c3, s3]; rfl
   ·unfold vev32_7; rw [n0, hi0]; rfl
   ·unfold vev32_0; rw [n0, hi0, g0, g2, g7, g8, g9, g10, g11, g12, g13]; exact hwith.1
   ·unfold vev32_1; rw [n0, hi0, g7]; rfl
   ·unfold vev32_2; rw [n0, hi0, g8]; rfl
   ·unfold vev32_8; rw [n1, n0, hi0, hL.len, in2 hi, g0, g1, d6, g2, g3, g4, g5, g6, b5, g7, g8, g9, g10, g11, g12, g13, hwith.2]; rfl
 ·have hz : S.h = [] := List.length_eq_zero_iff.1 (by omega)
  have hbz : busyF S.fs = [] := by
   have := I.pm
   rw [hz] at this
   exact this.nil_eq.symm
  rw [decide_eq_false h0] at p3
  refine ⟨⟨0, 0, 0, 0, false⟩, S, I, .inl ⟨hbz, rfl, rfl⟩, ⟨⟨?_, ?_, ?_, ?_, ?_⟩, ?_, ?_, ?_, ?_, rfl, rfl, rfl, ?_⟩, fun L hL => ?_⟩
  ·unfold vev31_0; rw [p3]; rfl
  ·unfold vev31_1; rw [p3]; rfl
  ·unfold vev31_2; rw [p3]; rfl
  ·unfold vev31_3; rw [p3]; rfl
  ·unfold vev31_4; rw [p3]; rfl
  ·unfold vev31_5; rw [p3]; rfl
  ·unfold vev31_6; rw [p3]; rfl
  ·unfold vev31_7; rw [p3]; rfl
  ·unfold vev31_8; rw [p3]; rfl
  ·unfold vev31_9; rw [p3, p4]; rfl
  ·have hx69 := nx69 (q := S.q) (lim := S.lim) (t := S.t) (k := S.k) (tk := .imm) hL h8
   have hni : nxF S.fs S.fs.length = -1 := by
    rcases nxF_spec S.fs S.fs.length with ⟨h1, _⟩ | ⟨a, _, h2, h3, _⟩
    ·exact h1
    ·have := idle_all hbz a h2
     omega
   rw [hni] at hx69
   obtain ⟨n0, n1⟩ := hx69
   have hi0 : decide ((-1 : Int) < 0) = true := rfl
   refine ⟨⟨?_, ?_, ?_, ?_, ?_⟩, ?_, ?_, ?_, ?_⟩
   ·unfold vev32_3; rw [n0, hi0]; rfl
   ·unfold vev32_4; rw [n0, hi0]; rfl
   ·unfold vev32_5; rw [n0, hi0]; rfl
   ·unfold vev32_6; rw [n0, hi0]; rfl
   ·unfold vev32_7; rw [n0, hi0]; rfl
   ·unfold vev32_0; rw [n0, hi0]; exact hL
   ·unfold vev32_1; rw [n0, hi0]; rfl
   ·unfold vev32_2; rw [n0, hi0]; rfl
   ·unfold vev32_8; rw [n1, n0, hi0]; rfl
end Go.Proofs.Gv
namespace Go.Proofs.Gv
open Go.Proofs
noncomputable def rev41_0 (w s f k w2 s2 f2 k2 a b q : Int) : Int := IntKind.i64.wrap (IntKind.i64.wrap (IntKind.i64.wrap (k - a) * w2) - IntKind.i64.wrap (IntKind.i64.wrap (k2 - b) * w))
noncomputable def rev41_1 (w s f k w2 s2 f2 k2 a b q : Int) : Int := IntKind.i64.wrap (0 - rev41_0 w s f k w2 s2 f2 k2 a b q)
noncomputable def rev41_2 (w s f k w2 s2 f2 k2 a b q : Int) : Int := if if true = true then rev41_0 w s f k w2 s2 f2 k2 a b q < rev41_1 w s f k w2 s2 f2 k2 a b q else rev41_1 w s f k w2 s2 f2 k2 a b q < rev41_0 w s f k w2 s2 f2 k2 a b q then rev41_1 w s f k w2 s2 f2 k2 a b q else rev41_0 w s f k w2 s2 f2 k2 a b q
noncomputable def rev41_3 (w s f k w2 s2 f2 k2 a b q : Int) : Int := IntKind.i64.wrap (q * IntKind.i64.wrap (w + w2))
noncomputable def vev41_0 (w s f k w2 s2 f2 k2 a b q : Int) : Bool := bif bif vev77_0 w s f k != 0 then true else bif vev77_0 w2 s2 f2 k2 != 0 then true else !vev78_0 q 1099511627776 then false else bif bif !vev78_0 a k then true else !vev78_0 b k2 then false else decide (rev41_2 w s f k w2 s2 f2 k2 a b q ≤ rev41_3 w s f k w2 s2 f2 k2 a b q)
theorem ev41 (w s f k w2 s2 f2 k2 a b q : Int) : eF kB noLsp 41 Try.f41 [.agg [iA w, iA s, iA f, iA k], .agg [iA w2, iA s2, iA f2, iA k2], .agg [iA a, iA b], iA q] [] = bif true then some (true, AV.bool (vev41_0 w s f k w2 s2 f2 k2 a b q), []) else none := by
 refine Eq.trans (b := bif bif vev77_0 w s f k != 0 then true else bif bif false then true else vev77_0 w2 s2 f2 k2 != 0 then true else true then bif bif vev77_0 w s f k != 0 then true else bif bif false then true else vev77_0 w2 s2 f2 k2 != 0 then true else bif false then true else !vev78_0 q 1099511627776 then some (true, AV.bool false, []) else bif bif !vev78_0 a k then true else true then bif bif !vev78_0 a k then true else bif false then true else !vev78_0 b k2 then some (true, AV.bool false, []) else some (true, AV.bool (decide (rev41_2 w s f k w2 s2 f2 k2 a b q ≤ rev41_3 w s f k w2 s2 f2 k2 a b q)), []) else none else none) (by kernel_rfl) ?_
 unfold vev41_0
 generalize (vev77_0 w2 s2 f2 k2 != 0) = c0
 generalize (vev77_0 w s f k != 0) = c1
 generalize (!vev78_0 q 1099511627776) = c2
 generalize (!vev78_0 b k2) = c3
 generalize (!vev78_0 a k) = c4
 cases c1; cases c0; cases c2; cases c4; cases c3; rfl; rfl; rfl; rfl; rfl; rfl
noncomputable def sp41 : Sp
 | [.agg [.int .i64 w, .int .i64 s, .int .i64 f, .int .i64 k], .agg [.int .i64 w2, .int .i64 s2, .int .i64 f2, .int .i64 k2], .agg [.int .i64 a, .int .i64 b], .int .i64 q], [] => spW (true) (some ((true, AV.bool (vev41_0 w s f k w2 s2 f2 k2 a b q), [])))
 | _, _ => none
noncomputable def k41 : Gam := spG 41 sp41 kB
theorem k41_ok : GamOK Try.prog k41 := spG_ok kB_ok fun T C r outs hs => by
   unfold sp41 at hs
   split at hs
   ·rename_i w s f k w2 s2 f2 k2 a b q
    obtain ⟨hb, rfl, rfl⟩ := spT_inv hs
    have he := ev41 w s f k w2 s2 f2 k2 a b q
    obtain ⟨r0, o0, h0, he⟩ := evFin_inv he
    obtain ⟨h1, h2⟩ := fn_ok mixed plain (gk_ok kB_ok 30) Try.func41 (fun c _ => LoopsOK.none (fun _ _ => rfl) c) h0
    exact ⟨h1, h2.fin he⟩
   ·cases hs
noncomputable def rn40_5_0 (c : LL) (d e f : Int) (g : LL) (h i : Int) (a b : LL) : Int := IntKind.i64.wrap (1 + IntKind.i64.wrap ((intOf ((c.getD d.toNat []).getD 0 AV.junk)).tmod 16))
noncomputable def rn40_5_1 (c : LL) (d e f : Int) (g : LL) (h i : Int) (a b : LL) : LL := vev13_1 e f h i a b g d (rn40_5_0 c d e f g h i a b)
noncomputable def rn40_5_2 (c : LL) (d e f : Int) (g : LL) (h i : Int) (a b : LL) : LL := vev13_2 e f h i a b g d (rn40_5_0 c d e f g h i a b)
noncomputable def go40_5 (c : LL) (d e f : Int) (g : LL) (h i : Int) (a b : LL) : Bool := bif decide (d < (↑c.length : Int)) then bif decide (0 ≤ d) && decide (d < (↑c.length : Int)) then bif vev13_3 e f h i a b g d (rn40_5_0 c d e f g h i a b) then bif vev13_0 e f h i a b g d (rn40_5_0 c d e f g h i a b) != 0 then false else bif vev15_3 e f h i (rn40_5_1 c d e f g h i a b) (rn40_5_2 c d e f g h i a b) g d 1 3 1000000 then bif vev15_0 e f h i (rn40_5_1 c d e f g h i a b) (rn40_5_2 c d e f g h i a b) g d 1 3 (1000000 : Int) != 0 then false else true else false else false else false else false
noncomputable def nx40_5_1 (c : LL) (d e f : Int) (g : LL) (h i : Int) (a b : LL) : Int := IntKind.i64.wrap (d + 1)
noncomputable def nx40_5_4 (c : LL) (d e f : Int) (g : LL) (h i : Int) (a b : LL) : LL := vev15_1 e f h i (rn40_5_1 c d e f g h i a b) (rn40_5_2 c d e f g h i a b) g d 1 3 1000000
noncomputable def nx40_5_7 (c : LL) (d e f : Int) (g : LL) (h i : Int) (a b : LL) : LL := rn40_5_1 c d e f g h i a b
noncomputable def nx40_5_8 (c : LL) (d e f : Int) (g : LL) (h i : Int) (a b : LL) : LL := vev15_2 e f h i (rn40_5_1 c d e f g h i a b) (rn40_5_2 c d e f g h i a b) g d 1 3 1000000
noncomputable def xc40_5_0 (c : LL) (d e f : Int) (g : LL) (h i : Int) (a b : LL) : Bool := bif decide (d < (↑c.length : Int)) then bif decide (0 ≤ d) && decide (d < (↑c.length : Int)) then bif vev13_3 e f h i a b g d (rn40_5_0 c d e f g h i a b) then bif vev13_0 e f h i a b g d (rn40_5_0 c d e f g h i a b) != 0 then true else bif vev15_3 e f h i (rn40_5_1 c d e f g h i a b) (rn40_5_2 c d e f g h i a b) g d 1 3 1000000 then vev15_0 e f h i (rn40_5_1 c d e f g h i a b) (rn40_5_2 c d e f g h i a b) g d 1 3 (1000000 : Int) != 0 else false else false else false else false
noncomputable def xv40_5_0_0 (c : LL) (d e f : Int) (g : LL) (h i : Int) (a b : LL) : LL := bif vev13_0 e f h i a b g d (rn40_5_0 c d e f g h i a b) != 0 then g else vev15_1 e f h i (rn40_5_1 c d e f g h i a b) (rn40_5_2 c d e f g h i a b) g d 1 3 1000000
noncomputable def xc40_5_1 (c : LL) (d e f : Int) (g : LL) (h i : Int) (a b : LL) : Bool := bif decide (d < (↑c.length : Int)) then false else true
theorem rd40_5 (rest : Lsp) (c : LL) (d e f : Int) (g : LL) (i j : Int) (a b : LL) : rV k41 rest 40 0 Try.f40 5 [1, 5, 7] [0, 1, 2, 3, 4] [4, 5] [0, 1, 2] [AV.sl Tk.imm [Kd.int IntKind.u8] c, AV.hp 0 0, iA d] [bV e f 1 2 g i j, Blk.row kI1 a, Blk.tbl kF b none, Blk.dead, Blk.dead] = bif go40_5 c d e f g i j a b then some (Ex.norm, [AV.sl Tk.imm [Kd.int IntKind.u8] c, AV.hp 0 0, iA (nx40_5_1 c d e f g i j a b)], [bV e f 1 2 (nx40_5_4 c d e f g i j a b) i j, Blk.row kI1 (nx40_5_7 c d e f g i j a b), Blk.tbl kF (nx40_5_8 c d e f g i j a b) none, Blk.dead, Blk.dead]) else bif xc40_5_0 c d e f g i j a b then some (Ex.ret, [AV.nilp, AV.hp 0 0], [bV e f 3 4 (xv40_5_0_0 c d e f g i j a b) i j, Blk.dead, Blk.dead]) else bif xc40_5_1 c d e f g i j a b then some (Ex.exit 0, [AV.junk, AV.hp 0 0], (bS e f g i j a b)) else none := by
 refine Eq.trans (b := bif decide (d < (↑c.length : Int)) then bif decide (0 ≤ d) && decide (d < (↑c.length : Int)) then bif vev13_3 e f i j a b g d (rn40_5_0 c d e f g i j a b) then bif vev13_0 e f i j a b g d (rn40_5_0 c d e f g i j a b) != 0 then some (Ex.ret, [AV.nilp, AV.hp 0 0], [bV e f 3 4 g i j, Blk.dead, Blk.dead]) else bif vev15_3 e f i j (rn40_5_1 c d e f g i j a b) (rn40_5_2 c d e f g i j a b) g d 1 3 1000000 then bif bif false then true else vev15_0 e f i j (rn40_5_1 c d e f g i j a b) (rn40_5_2 c d e f g i j a b) g d 1 3 (1000000 : Int) != 0 then some (Ex.ret, [AV.nilp, AV.hp 0 0], [bV e f 3 4 (vev15_1 e f i j (rn40_5_1 c d e f g i j a b) (rn40_5_2 c d e f g i j a b) g d 1 3 1000000) i j, Blk.dead, Blk.dead]) else some (Ex.norm, [AV.sl Tk.imm [Kd.int IntKind.u8] c, AV.hp 0 0, iA (IntKind.i64.wrap (d + 1))], [bV e f 1 2 (vev15_1 e f i j (rn40_5_1 c d e f g i j a b) (rn40_5_2 c d e f g i j a b) g d 1 3 1000000) i j, Blk.row kI1 (rn40_5_1 c d e f g i j a b), Blk.tbl kF (vev15_2 e f i j (rn40_5_1 c d e f g i j a b) (rn40_5_2 c d e f g i j a b) g d 1 3 1000000) none, Blk.dead, Blk.dead]) else none else none else none else some (Ex.exit 0, [AV.junk, AV.hp 0 0], (bS e f g i j a b))) (by kernel_rfl) ?_
 unfold go40_5 nx40_5_1 nx40_5_4 nx40_5_7 nx40_5_8 xc40_5_0 xv40_5_0_0 xc40_5_1
 generalize (vev15_0 e f i j (rn40_5_1 c d e f g i j a b) (rn40_5_2 c d e f g i j a b) g d 1 3 (1000000 : Int) != 0) = c0
 generalize (vev15_3 _ _ _ _ _ _ _ _ _ _ _) = c1
 generalize (decide (0 ≤ d) && decide (d < (↑c.length : Int))) = c2
 generalize (vev13_0 e f i j a b g d (rn40_5_0 c d e f g i j a b) != 0) = c3
 generalize (decide (d < (↑c.length : Int))) = c4
 generalize (vev13_3 _ _ _ _ _ _ _ _ _) = c5
 cases c4; rfl; cases c2; rfl; cases c5; rfl; cases c3; cases c1; rfl; cases c0; rfl; rfl; rfl
abbrev pl40_5 : Type := LL × Int × Int × Int × Int
abbrev sl40_5 : Type := Int × LL × LL × LL
noncomputable def vt40_5 (a : pl40_5 × sl40_5) : List AV := [AV.sl Tk.imm [Kd.int IntKind.u8] a.1.1, AV.hp 0 0, iA a.2.1]
noncomputable def vc40_5 (a : pl40_5 × sl40_5) : List Blk := [bV a.1.2.1 a.1.2.2.1 1 2 a.2.2.1 a.1.2.2.2.1 a.1.2.2.2.2, Blk.row kI1 a.2.2.2.1, Blk.tbl kF a.2.2.2.2 none, Blk.dead, Blk.dead]
noncomputable def de40_5 (vt : List AV) (vc : List Blk) : Option (pl40_5 × sl40_5) :=
 match vt with
 | [qa0, qa1, qa2] => (match vc with
 | [qb0, qb1, qb2, qb3, qb4] => (match qa0 with
 | .sl Tk.imm [Kd.int IntKind.u8] t1 => (match qa1 with
 | AV.hp (0) (0) => (match qa2 with
 | .int .i64 t7 => (match qb0 with
 | .var [.int .i64 b0_0, .int .i64 b0_1, AV.rf (1) [.int .i64], AV.mp (2) [.int .i64, .int .i64, .int .i64, .int .i64, .int .i64, .int .i64, .sl [.int .i64, .int .i64, .int .i64, .int .i64]], .sl Tk.imm [.int .i64, .int .i64] b0_4, .int .i64 b0_5, .int .i64 b0_6] => (match qb1 with
 | .row [.int .i64] b1 => (match qb2 with
 | Blk.tbl [.int .i64, .int .i64, .int .i64, .int .i64, .int .i64, .int .i64, .sl [.int .i64, .int .i64, .int .i64, .int .i64]] b2 none => (match qb3 with
 | Blk.dead => (match qb4 with
 | Blk.dead => (some ((t1, b0_0, b0_1, b0_5, b0_6), (t7, b0_4, b1, b2)))
 | _ => none)
 | _ => none)
 | _ => none)
 | _ => none)
 | _ => none)
 | _ => none)
 | _ => none)
 | _ => none)
 | _ => none)
 | _ => none
theorem de40_5_ok (vt : List AV) (vc : List Blk) (a : pl40_5 × sl40_5) (h : de40_5 vt vc = some a) : vt = vt40_5 a ∧ vc = vc40_5 a := by
 unfold de40_5 at h
 iterate 10 (split at h; rotate_left; · cases h)
 injection h with h; subst h; exact ⟨rfl, rfl⟩
noncomputable def g40_5 (p : pl40_5) (s : sl40_5) : Bool := go40_5 p.1 s.1 p.2.1 p.2.2.1 s.2.1 p.2.2.2.1 p.2.2.2.2 s.2.2.1 s.2.2.2
noncomputable def n40_5 (p : pl40_5) (s : sl40_5) : sl40_5 := (nx40_5_1 p.1 s.1 p.2.1 p.2.2.1 s.2.1 p.2.2.2.1 p.2.2.2.2 s.2.2.1 s.2.2.2, nx40_5_4 p.1 s.1 p.2.1 p.2.2.1 s.2.1 p.2.2.2.1 p.2.2.2.2 s.2.2.1 s.2.2.2, nx40_5_7 p.1 s.1 p.2.1 p.2.2.1 s.2.1 p.2.2.2.1 p.2.2.2.2 s.2.2.1 s.2.2.2, nx40_5_8 p.1 s.1 p.2.1 p.2.2.1 s.2.1 p.2.2.2.1 p.2.2.2.2 s.2.2.1 s.2.2.2)
noncomputable def y40_5 (p : pl40_5) (s : sl40_5) : List (Bool × Out) := [(xc40_5_0 p.1 s.1 p.2.1 p.2.2.1 s.2.1 p.2.2.2.1 p.2.2.2.2 s.2.2.1 s.2.2.2, (Ex.ret, [AV.nilp, AV.hp 0 0], [bV p.2.1 p.2.2.1 3 4 (xv40_5_0_0 p.1 s.1 p.2.1 p.2.2.1 s.2.1 p.2.2.2.1 p.2.2.2.2 s.2.2.1 s.2.2.2) p.2.2.2.1 p.2.2.2.2, Blk.dead, Blk.dead]))]
noncomputable def z40_5 (p : pl40_5) (s : sl40_5) : Bool := xc40_5_1 p.1 s.1 p.2.1 p.2.2.1 s.2.1 p.2.2.2.1 p.2.2.2.2 s.2.2.1 s.2.2.2
noncomputable def d40_5 (p : pl40_5) (s : sl40_5) : Out := (Ex.exit 0, [AV.junk, AV.hp 0 0], (bS p.2.1 p.2.2.1 s.2.1 p.2.2.2.1 p.2.2.2.2 s.2.2.1 s.2.2.2))
noncomputable def ls40_5 := lspOf [1, 5, 7] [0, 1, 2, 3, 4] [4, 5] [0, 1, 2] Try.f40.ntmps (0 + tab.nid 40) de40_5 (spI g40_5 n40_5 y40_5 z40_5 d40_5)
theorem lo40_5 (rest : Lsp) : lO k41 (selL 5 ls40_5 rest) 40 0 Try.f40 5 := LoopOK1.iter (i := 5) (by kernel_rfl) [1, 5, 7] [0, 1, 2, 3, 4] [4, 5] [0, 1, 2] vt40_5 vc40_5 de40_5 g40_5 n40_5 y40_5 z40_5 d40_5 (fun _ => rfl) de40_5_ok (fun p s => rd40_5 (selL 5 ls40_5 rest) (p.1) (s.1) (p.2.1) (p.2.2.1) (s.2.1) (p.2.2.2.1) (p.2.2.2.2) (s.2.2.1) (s.2.2.2)) (fun _ _ => rfl)
noncomputable def lsp40 : Lsp := (selL 5 ls40_5 noLsp)
theorem loops40 : ∀ c, Try.f40.body = some c → lsO k41 lsp40 40 0 Try.f40 c := loops_of [5] (by kernel_rfl) (by kernel_rfl) (fun i hi => by simp only [List.mem_cons, List.not_mem_nil, or_false] at hi; subst hi; exact lo40_5 noLsp)
noncomputable def rev40_0 (q : Int) (ws : LL) : sl40_5 := finL (g40_5 (ws, q, 4, 0, 0)) (n40_5 (ws, q, 4, 0, 0)) (0, [], [], [])
noncomputable def rev40_1 (q : Int) (ws : LL) : LL := (rev40_0 q ws).snd.fst
noncomputable def rev40_2 (q : Int) (ws : LL) : LL := (rev40_0 q ws).snd.snd.fst
noncomputable def rev40_3 (q : Int) (ws : LL) : LL := (rev40_0 q ws).snd.snd.snd
theorem ev40 (q : Int) (ws : LL) : evFun (cfg Try.prog tab 100000 (gk k41 30) lsp40 40 ([] : List Blk).length Try.f40.ntmps) Try.f40 [iA q, .sl .imm [.int .u8] ws] [] = bif okN q 4 then bif (spI g40_5 n40_5 y40_5 z40_5 d40_5 ((ws, q, 4, 0, 0), 0, [], [], [])).fst then bif xc40_5_0 ws (rev40_0 q ws).fst q 4 (rev40_1 q ws) 0 0 (rev40_2 q ws) (rev40_3 q ws) then some (AV.nilp, []) else some (AV.hp 0 0, (bS q 4 (rev40_1 q ws) 0 0 (rev40_2 q ws) (rev40_3 q ws))) else none else none := by kernel_rfl
end Go.Proofs.Gv
namespace Go.Proofs.Gv
open Go.Proofs
noncomputable def ok40 (q : Int) (ws : List (List AV)) : Bool := bif okN q 4 then bif (spI g40_5 n40_5 y40_5 z40_5 d40_5 ((ws, q, (4 : Int), (0 : Int), (0 : Int)), (0 : Int), [], [], [])).fst then bif xc40_5_0 ws (rev40_0 q ws).fst q (4 : Int) (rev40_1 q ws) (0 : Int) (0 : Int) (rev40_2 q ws) (rev40_3 q ws) then false else true else false else false
noncomputable def sp40 : List AV → List Blk → Option (Bool × AV × List Blk)
 | [.int .i64 q, .sl .imm [.int .u8] ws], [] => some (ok40 q ws, .hp 0 0, [.var [.int .i64 q, .int .i64 4, .rf 1 [.int .i64], .mp 2 kdFl, .sl .imm [.int .i64, .int .i64] (rev40_1 q ws), .int .i64 0, .int .i64 0], .row [.int .i64] (rev40_2 q ws), .tbl kdFl (rev40_3 q ws) none])
 | _, _ => none
noncomputable def k40 : Gam := spG 40 sp40 k41
theorem k40_ok : GamOK Try.prog k40 := spG_ok k41_ok fun T C r outs h => by
 unfold sp40 at h
 split at h
 ·rename_i q ws
  simp only [Option.some.injEq, Prod.mk.injEq] at h
  obtain ⟨h1, rfl, rfl⟩ := h
  have he := ev40 q ws
  unfold ok40 at h1
  generalize okN q 4 = a at he h1
  generalize (spI g40_5 n40_5 y40_5 z40_5 d40_5 ((ws, q, (4 : Int), (0 : Int), (0 : Int)), (0 : Int), [], [], [])).fst = b at he h1
  generalize xc40_5_0 ws (rev40_0 q ws).fst q (4 : Int) (rev40_1 q ws) (0 : Int) (0 : Int) (rev40_2 q ws) (rev40_3 q ws) = c at he h1
  cases a <;> cases b <;> cases c <;> first | exact fn_ok mixed plain (gk_ok k41_ok 30) Try.func40 loops40 he | cases h1
 ·cases h
end Go.Proofs.Gv
namespace Go.Proofs.Gv
open Go.Proofs
open List (Perm)
def FullR (r : Int) (rs : List (List AV)) : Prop := ∃ j, j < rs.length ∧ q0 rs j = 1 ∧ r ≤ q2 rs j
theorem FullR.pos {r : Int} {rs : List (List AV)} (h : FullR r rs) : 0 < rs.length := by obtain ⟨j, hj, _⟩ := h; omega
theorem FullR.mono {r r' : Int} {rs : List (List AV)} (h : FullR r rs) (hr : r' ≤ r) : FullR r' rs := by obtain ⟨j, h1, h2, h3⟩ := h; exact ⟨j, h1, h2, by omega⟩
theorem FullR.pu {r : Int} {rs : List (List AV)} (h : FullR r rs) (id n z : Int) : FullR r (pu rs id n z) := by
 obtain ⟨j, h1, h2, h3⟩ := h
 have hq := q_pu (es := rs) (id := id) (rank := n) (cost := z) j
 refine ⟨j, by rw [pu_len]; omega, ?_, ?_⟩
 ·rw [hq.1, if_neg (by omega)]; exact h2
 ·rw [hq.2.2.1, if_neg (by omega)]; exact h3
theorem FullR.wo {r : Int} {rs : List (List AV)} (h : FullR r rs) {k : Nat} (hk : k < rs.length) (hne : q0 rs k ≠ 1) : FullR r (wo rs k) := by
 obtain ⟨j, h1, h2, h3⟩ := h
 have hjk : j ≠ k := fun e => hne (by rw [← e]; exact h2)
 by_cases hlt : j < k
 ·have hq := q_wo (es := rs) (j := j) hk
  rw [if_pos hlt] at hq
  exact ⟨j, by rw [len_wo hk]; omega, by rw [hq.1]; exact h2, by rw [hq.2.2.1]; exact h3⟩
 ·have hq := q_wo (es := rs) (j := j - 1) hk
  rw [if_neg (by omega), show j - 1 + 1 = j by omega] at hq
  exact ⟨j - 1, by rw [len_wo hk]; omega, by rw [hq.1]; exact h2, by rw [hq.2.2.1]; exact h3⟩
theorem FullR.sv {r : Int} {rs : List (List AV)} (h : FullR r rs) {k : Nat} (hk : k < rs.length) {q : Int} (hu : un rs k q ≤ q) (hr : q < r) (hq : 0 ≤ q) : FullR (r - q) (sv rs k q) := by
 obtain ⟨j, h1, h2, h3⟩ := h
 have hs := q_sq (q := q) hk j
 have hf : FullR (r - q) (sq rs k q) := by
  refine ⟨j, by rw [sq_len]; exact h1, by rw [hs.1]; exact h2, ?_⟩
  rw [hs.2.2.1]
  split
  ·rename_i e; rw [← e] at hu ⊢; omega
  ·omega
 unfold Gv.sv
 by_cases hz : q2 rs k - un rs k q = 0
 ·rw [decide_eq_true hz, cond_true]
  have hjk : j ≠ k := fun e => by rw [← e] at hz hu; omega
  have hf' : FullR (r - q) (Gv.wo (sq rs k q) k) := by
   have hk' : k < (sq rs k q).length := by rw [sq_len]; exact hk
   by_cases hlt : j < k
   ·have hw := q_wo (es := sq rs k q) (j := j) hk'
    rw [if_pos hlt] at hw
    refine ⟨j, by rw [len_wo hk', sq_len]; omega, by rw [hw.1, hs.1]; exact h2, ?_⟩
    rw [hw.2.2.1, hs.2.2.1, if_neg hjk]; omega
   ·have hw := q_wo (es := sq rs k q) (j := j - 1) hk'
    rw [if_neg (by omega), show j - 1 + 1 = j by omega] at hw
    refine ⟨j - 1, by rw [len_wo hk', sq_len]; omega, by rw [hw.1, hs.1]; exact h2, ?_⟩
    rw [hw.2.2.1, hs.2.2.1, if_neg hjk]; omega
  exact hf'
 ·rw [decide_eq_false hz, cond_false]
  exact hf
structure NF (n : Nat) (W : Nat → Int) (q : Int) (fs : List Fl) : Prop where
 len : fs.length = n
 w : ∀ i, i < n → (atF fs i).w = W i
 s : ∀ i, i < n → (atF fs i).s = (atF fs i).k * Cw (W i)
 near : ∀ i j, i < n → j < n → (atF fs i).s ≤ (atF fs j).s + q * Cw (W i)
 k0 : ∀ i, i < n → 0 ≤ (atF fs i).k ∧ (atF fs i).k ≤ 1099511627776
def FullF (r : Int) (fs : List Fl) : Prop := ∀ i, i < fs.length → FullR r (atF fs i).rs
theorem FullF.set {r : Int} {fs : List Fl} (h : FullF r fs) {i : Nat} {x : Fl} (hx : FullR r x.rs) : FullF r (fs.set i x) := by
 intro j hj
 rw [atF_set]
 split
 ·exact hx
 ·exact h j (by simpa using hj)
theorem NF.same {n : Nat} {W : Nat → Int} {q : Int} {fs : List Fl} (h : NF n W q fs) {i : Nat} {x : Fl} (hw : x.w = (atF fs i).w) (hs : x.s = (atF fs i).s) (hk : x.k = (atF fs i).k) : NF n W q (fs.set i x) := by
 have key : ∀ j, (atF (fs.set i x) j).w = (atF fs j).w ∧ (atF (fs.set i x) j).s = (atF fs j).s ∧ (atF (fs.set i x) j).k = (atF fs j).k := by
  intro j
  rw [atF_set]
  split
  ·rename_i e; rw [e.1]; exact ⟨hw, hs, hk⟩
  ·exact ⟨rfl, rfl, rfl⟩
 refine ⟨by rw [List.length_set]; exact h.len, fun j hj => ?_, fun j hj => ?_, fun a b ha hb => ?_, fun j hj => ?_⟩
 ·rw [(key j).1]; exact h.w j hj
 ·rw [(key j).2.1, (key j).2.2]; exact h.s j hj
 ·rw [(key a).2.1, (key b).2.1]; exact h.near a b ha hb
 ·rw [(key j).2.2]; exact h.k0 j hj
theorem NF.serve {n : Nat} {W : Nat → Int} {q lim : Int} {fs : List Fl} (h : NF n W q fs) (hW : ∀ i, i < n → 1 ≤ W i ∧ W i ≤ 16) (hq : 0 ≤ q) {i k : Nat} (hi : i < fs.length) (hall : ∀ b, b < fs.length → 0 < (atF fs b).rs.length) (hl : LeastF fs fs.length i) (hu : 0 ≤ un (atF fs i).rs k q ∧ un (atF fs i).rs k q ≤ q) (hk : (atF fs i).k + un (atF fs i).rs k q ≤ 1099511627776) : NF n W q (fs.set i (srvF q lim (atF fs i) k)) := by
 have hn := h.len
 have hin : i < n := by omega
 have hle : ∀ b, b < fs.length → (atF fs i).s ≤ (atF fs b).s := by
  intro b hb
  have := ltI_not.1 (hl.2.2 b hb (hall b hb))
  unfold keyF at this
  dsimp only at this
  omega
 have hc := Cw_spec (hW i hin)
 have hb1 : 0 ≤ un (atF fs i).rs k q * Cw (W i) := Int.mul_nonneg hu.1 (by omega)
 have hb2 : un (atF fs i).rs k q * Cw (W i) ≤ q * Cw (W i) := Int.mul_le_mul_of_nonneg_right hu.2 (by omega)
 have hwi := h.w i hin
 have hat : ∀ j, atF (fs.set i (srvF q lim (atF fs i) k)) j = if j = i then srvF q lim (atF fs i) k else atF fs j := by
  intro j
  rw [atF_set]
  by_cases e : j = i
  ·rw [if_pos ⟨e, hi⟩, if_pos e]
  ·rw [if_neg (fun hh => e hh.1), if_neg e]
 refine ⟨by rw [List.length_set]; exact hn, fun j hj => ?_, fun j hj => ?_, fun a b ha hb => ?_, fun j hj => ?_⟩
 ·rw [hat]
  split
  ·rename_i e; rw [e]; exact hwi
  ·exact h.w j hj
 ·rw [hat]
  split
  ·rename_i e
   rw [e]
   show (atF fs i).s + un (atF fs i).rs k q * Cw (atF fs i).w = ((atF fs i).k + un (atF fs i).rs k q) * Cw (W i)
   rw [hwi, h.s i hin, Int.add_mul]
  ·exact h.s j hj
 ·have hca := Cw_spec (hW a ha)
  have hqa : 0 ≤ q * Cw (W a) := Int.mul_nonneg hq (by omega)
  rw [hat, hat]
  by_cases ea : a = i <;> by_cases eb : b = i
  ·rw [if_pos ea, if_pos eb]; omega
  ·rw [if_pos ea, if_neg eb]
   show (atF fs i).s + un (atF fs i).rs k q * Cw (atF fs i).w ≤ (atF fs b).s + q * Cw (W a)
   have := hle b (by omega)
   rw [hwi, ea]
   omega
  ·rw [if_neg ea, if_pos eb]
   show (atF fs a).s ≤ (atF fs i).s + un (atF fs i).rs k q * Cw (atF fs i).w + q * Cw (W a)
   have := h.near a i ha hin
   rw [hwi]
   omega
  ·rw [if_neg ea, if_neg eb]; exact h.near a b ha hb
 ·rw [hat]
  split
  ·have := h.k0 i hin
   show 0 ≤ (atF fs i).k + un (atF fs i).rs k q ∧ (atF fs i).k + un (atF fs i).rs k q ≤ 1099511627776
   omega
  ·exact h.k0 j hj
theorem weigh_of {w1 w2 X Y q C1 C2 : Int} (e1 : w1 * C1 = 720720) (e2 : w2 * C2 = 720720) (h1 : 1 ≤ w1) (h2 : 1 ≤ w2) (h : X * C1 - Y * C2 ≤ q * C1 + q * C2) : X * w2 - Y * w1 ≤ q * (w1 + w2) := by
 have hp : 0 ≤ w1 * w2 := Int.mul_nonneg (by omega) (by omega)
 have h3 := Int.mul_le_mul_of_nonneg_left h hp
 have a1 : w1 * w2 * (X * C1 - Y * C2) = (X * w2) * (w1 * C1) - (Y * w1) * (w2 * C2) := by grind
 have a2 : w1 * w2 * (q * C1 + q * C2) = (q * w2) * (w1 * C1) + (q * w1) * (w2 * C2) := by grind
 rw [a1, a2, e1, e2] at h3
 rw [Int.mul_add]
 omega
theorem near41 {n : Nat} {W : Nat → Int} {q : Int} {fs fs0 : List Fl} (h : NF n W q fs) (h0 : NF n W q fs0) (hW : ∀ i, i < n → 1 ≤ W i ∧ W i ≤ 16) (hq : 0 ≤ q ∧ q ≤ 1000) (hmono : ∀ i, i < n → (atF fs0 i).k ≤ (atF fs i).k)
  {lim K : Int} (hfl : ∀ i, i < n → FlOK lim K (atF fs i)) (hK : K ≤ 1099511627776) {a b : Nat} (ha : a < n) (hb : b < n) :
  vev41_0 (atF fs a).w (atF fs a).s (atF fs a).f (atF fs a).k (atF fs b).w (atF fs b).s (atF fs b).f (atF fs b).k (atF fs0 a).k (atF fs0 b).k q = true := by
 have ca := (chkT (hfl a ha) hK).1
 have cb := (chkT (hfl b hb) hK).1
 have wa := hW a ha
 have wb := hW b hb
 have sa := Cw_spec wa
 have sb := Cw_spec wb
 have ka := h.k0 a ha
 have kb := h.k0 b hb
 have ka0 := h0.k0 a ha
 have kb0 := h0.k0 b hb
 have ma := hmono a ha
 have mb := hmono b hb
 have hXa : ((atF fs a).k - (atF fs0 a).k) * Cw (W a) = (atF fs a).s - (atF fs0 a).s := by rw [Int.sub_mul, ← h.s a ha, ← h0.s a ha]
 have hXb : ((atF fs b).k - (atF fs0 b).k) * Cw (W b) = (atF fs b).s - (atF fs0 b).s := by rw [Int.sub_mul, ← h.s b hb, ← h0.s b hb]
 have n1 := h.near a b ha hb
 have n2 := h.near b a hb ha
 have n3 := h0.near a b ha hb
 have n4 := h0.near b a hb ha
 have l1 := weigh_of sa.1 sb.1 wa.1 wb.1 (X := (atF fs a).k - (atF fs0 a).k) (Y := (atF fs b).k - (atF fs0 b).k) (q := q) (by rw [hXa, hXb]; omega)
 have l2 := weigh_of sb.1 sa.1 wb.1 wa.1 (X := (atF fs b).k - (atF fs0 b).k) (Y := (atF fs a).k - (atF fs0 a).k) (q := q) (by rw [hXa, hXb]; omega)
 have hwa := h.w a ha
 have hwb := h.w b hb
 have p1 : 0 ≤ ((atF fs a).k - (atF fs0 a).k) * W b ∧ ((atF fs a).k - (atF fs0 a).k) * W b ≤ 1099511627776 * 16 :=
  ⟨Int.mul_nonneg (by omega) (by omega), Int.mul_le_mul (by omega) wb.2 (by omega) (by omega)⟩
 have p2 : 0 ≤ ((atF fs b).k - (atF fs0 b).k) * W a ∧ ((atF fs b).k - (atF fs0 b).k) * W a ≤ 1099511627776 * 16 :=
  ⟨Int.mul_nonneg (by omega) (by omega), Int.mul_le_mul (by omega) wa.2 (by omega) (by omega)⟩
 have p3 : 0 ≤ q * (W a + W b) ∧ q * (W a + W b) ≤ 1000 * 32 := ⟨Int.mul_nonneg hq.1 (by omega), Int.mul_le_mul hq.2 (by omega) (by omega) (by omega)⟩
 have e0 : rev41_0 (atF fs a).w (atF fs a).s (atF fs a).f (atF fs a).k (atF fs b).w (atF fs b).s (atF fs b).f (atF fs b).k (atF fs0 a).k (atF fs0 b).k q = ((atF fs a).k - (atF fs0 a).k) * W b - ((atF fs b).k - (atF fs0 b).k) * W a := by
  unfold rev41_0
  rw [hwa, hwb, wrapOf ((atF fs a).k - (atF fs0 a).k) (by omega) (by omega), wrapOf ((atF fs b).k - (atF fs0 b).k) (by omega) (by omega), wrapOf (((atF fs a).k - (atF fs0 a).k) * W b) (by omega) (by omega), wrapOf (((atF fs b).k - (atF fs0 b).k) * W a) (by omega) (by omega), wrapOf _ (by omega) (by omega)]
 have e3 : rev41_3 (atF fs a).w (atF fs a).s (atF fs a).f (atF fs a).k (atF fs b).w (atF fs b).s (atF fs b).f (atF fs b).k (atF fs0 a).k (atF fs0 b).k q = q * (W a + W b) := by
  unfold rev41_3
  rw [hwa, hwb, wrapOf (W a + W b) (by omega) (by omega), wrapOf _ (by omega) (by omega)]
 have e1 : rev41_1 (atF fs a).w (atF fs a).s (atF fs a).f (atF fs a).k (atF fs b).w (atF fs b).s (atF fs b).f (atF fs b).k (atF fs0 a).k (atF fs0 b).k q = 0 - (((atF fs a).k - (atF fs0 a).k) * W b - ((atF fs b).k - (atF fs0 b).k) * W a) := by
  unfold rev41_1
  rw [e0, wrapOf _ (by omega) (by omega)]
 have e2 : rev41_2 (atF fs a).w (atF fs a).s (atF fs a).f (atF fs a).k (atF fs b).w (atF fs b).s (atF fs b).f (atF fs b).k (atF fs0 a).k (atF fs0 b).k q ≤ q * (W a + W b) := by
  unfold rev41_2
  rw [e0, e1]
  have e : W b + W a = W a + W b := Int.add_comm _ _
  rw [e] at l2
  split <;> omega
 unfold vev41_0
 rw [ca, cb, e3, decide_eq_true e2]
 unfold vev78_0
 rw [decide_eq_true (show 0 ≤ q by omega), decide_eq_true (show q ≤ 1099511627776 by omega), decide_eq_true (show 0 ≤ (atF fs0 a).k by omega), decide_eq_true ma, decide_eq_true (show 0 ≤ (atF fs0 b).k by omega), decide_eq_true mb]
 rfl
end Go.Proofs.Gv
namespace Go.Proofs.Gv
open Go.Proofs
theorem atF_app1 {fs : List Fl} {x : Fl} {j : Nat} (h : j < fs.length) : atF (fs ++ [x]) j = atF fs j := by
 unfold atF
 rw [List.getD_eq_getElem?_getD, List.getD_eq_getElem?_getD, List.getElem?_append_left h]
theorem atF_app2 {fs : List Fl} {x : Fl} : atF (fs ++ [x]) fs.length = x := by
 unfold atF
 rw [List.getD_eq_getElem?_getD, List.getElem?_append_right (Nat.le_refl _)]
 simp
def wt (ws : List (List AV)) (j : Nat) : Int := 1 + intOf ((ws.getD j []).getD 0 .junk) % 16
theorem wt_b (ws : List (List AV)) (j : Nat) : 1 ≤ wt ws j ∧ wt ws j ≤ 16 := by unfold wt; omega
theorem u8_pos {ws : List (List AV)} (hw : ∀ x ∈ ws, okKL [.int .u8] x) {j : Nat} (hj : j < ws.length) : 0 ≤ intOf ((ws.getD j []).getD 0 .junk) ∧ intOf ((ws.getD j []).getD 0 .junk) ≤ 255 := by
 have h1 := hw _ (getD_mem hj)
 generalize ws.getD j [] = x at h1
 simp only [okKL, okK] at h1
 obtain ⟨_, _, rfl, ⟨a, rfl, ha⟩, rfl⟩ := h1
 have k : ∀ x : Int, (decide (0 ≤ x) && decide (x ≤ 255)) = true → 0 ≤ x ∧ x ≤ 255 := fun x h => by simpa using h
 exact k _ ha
theorem join_ok {S : Sc} (I : Inv S) {c n : Int} (hl : S.fs.length < 8) (hc : 0 ≤ c ∧ c ≤ 2147483647) (hn : 1 ≤ n ∧ n ≤ 16) (hno : ∀ i, i < S.fs.length → (atF S.fs i).c ≠ c) : vev13_0 S.q S.lim S.t S.k (ordsF S.fs) (tabsF S.fs) (R S.h) c n = 0 := by
 have hK : hasK (tabsF S.fs) c = false := tabsF_hasNo hno
 have hJ : okJn c n = true := by unfold okJn; simpa using ⟨hn, hc⟩
 unfold vev13_0
 rw [progJ, hJ, hK, tabsF_len, decide_eq_false (show ¬ (S.fs.length : Int) ≥ 8 by omega), (lim44 I.lim).2]
 rfl
theorem admit_ok {S : Sc} (I : Inv S) {i : Nat} (hi : i < S.fs.length) (hr : (atF S.fs i).rs = []) {id n z : Int} (hf : vev84_0 id n z 0 = true) (hz : z ≤ 1099511627776 - S.k - blF S.fs) : vev15_0 S.q S.lim S.t S.k (ordsF S.fs) (tabsF S.fs) (R S.h) (atF S.fs i).c id n z = 0 := by
 have hK : hasK (tabsF S.fs) (atF S.fs i).c = true := tabsF_hasAt hi
 have f := I.fl i hi
 have hfb : 0 ≤ blF S.fs := (blN_b I.gd S.fs.length (Nat.le_refl _)).1
 have hkb := I.k
 have e0 : rev15_0 S.q S.lim S.t S.k (ordsF S.fs) (tabsF S.fs) (R S.h) (atF S.fs i).c id n z = S.lim := by unfold rev15_0; rw [tab_at I.one hi]; exact f.l
 have e1 : rev15_1 S.q S.lim S.t S.k (ordsF S.fs) (tabsF S.fs) (R S.h) (atF S.fs i).c id n z = (atF S.fs i).rs := by unfold rev15_1; rw [tab_at I.one hi]; rfl
 have s := s47 (id := id) (rank := n) (cost := z) f.g (by rw [hr]; simp) hf (by rw [hr]; intro j hj; simp at hj)
 have e2 : rev15_2 S.q S.lim S.t S.k (ordsF S.fs) (tabsF S.fs) (R S.h) (atF S.fs i).c id n z = 0 := by unfold rev15_2; rw [e0, e1]; exact s.2.1
 have b34 := bl34 (q := S.q) (t := S.t) (k := S.k) (rd := R S.h) I.len I.one I.gd
 have e3 : rev15_3 S.q S.lim S.t S.k (ordsF S.fs) (tabsF S.fs) (R S.h) (atF S.fs i).c id n z = 1099511627776 - S.k - blF S.fs := by
  unfold rev15_3
  rw [b34.1, wrapOf (1099511627776 - S.k) (by omega) (by omega), wrapOf (1099511627776 - S.k - blF S.fs) (by omega) (by omega)]
 unfold vev15_0
 rw [hK, e2, e3, decide_eq_false (by omega)]
 rfl
structure BG (q : Int) (ws : List (List AV)) (i : Nat) (S : Sc) : Prop where
 I : Inv S
 q : S.q = q
 lim : S.lim = 4
 t : S.t = 0
 k : S.k = 0
 len : S.fs.length = i
 bl : blF S.fs = 1000000 * (i : Int)
 fl : ∀ j, j < i → (atF S.fs j).c = (j : Int) ∧ (atF S.fs j).w = wt ws j ∧ (atF S.fs j).s = 0 ∧ (atF S.fs j).k = 0 ∧ (atF S.fs j).f = 0
 full : FullF 1000000 S.fs
theorem step40 {q : Int} {ws : List (List AV)} (hw : ∀ x ∈ ws, okKL [.int .u8] x) (h8 : ws.length ≤ 8) {i : Nat} (hi : i < ws.length) {S : Sc} (B : BG q ws i S) : ∃ S', BG q ws (i + 1) S' ∧
  g40_5 (ws, q, 4, 0, 0) ((i : Int), R S.h, ordsF S.fs, tabsF S.fs) = true ∧ n40_5 (ws, q, 4, 0, 0) ((i : Int), R S.h, ordsF S.fs, tabsF S.fs) = (((i + 1 : Nat) : Int), R S'.h, ordsF S'.fs, tabsF S'.fs) := by
 obtain ⟨sq, sl, st, sk, fs, h⟩ := S
 obtain ⟨I, rfl, rfl, rfl, rfl, rfl, hbl, hfl, hfull⟩ := B
 dsimp only at *
 have hwb := wt_b ws fs.length
 have hx := u8_pos hw hi
 have hno : ∀ j, j < fs.length → (atF fs j).c ≠ (fs.length : Int) := fun j hj => by rw [(hfl j hj).1]; omega
 obtain ⟨e, S1, I1, hst, ⟨j0, j1, j2, j3⟩, _⟩ := join13 I (fs.length : Int) (wt ws fs.length)
 have he := join_ok I (c := (fs.length : Int)) (n := wt ws fs.length) (by show fs.length < 8; omega) (by omega) hwb hno
 rw [j0] at he
 subst he
 rcases hst with ⟨h0, _⟩ | ⟨_, rfl⟩
 ·exact absurd rfl h0
 dsimp only at *
 have hlen : (fs ++ [(⟨(fs.length : Int), wt ws fs.length, 0, 0, 0, 4, []⟩ : Fl)]).length = fs.length + 1 := by simp
 have hat2 : atF (fs ++ [(⟨(fs.length : Int), wt ws fs.length, 0, 0, 0, 4, []⟩ : Fl)]) fs.length = ⟨(fs.length : Int), wt ws fs.length, 0, 0, 0, 4, []⟩ := atF_app2
 have hbl1 : blF (fs ++ [(⟨(fs.length : Int), wt ws fs.length, 0, 0, 0, 4, []⟩ : Fl)]) = 1000000 * (fs.length : Int) := by
  rw [blF_eq, blL_app, ← blF_eq, hbl]
  show _ + (lfQ [] + 0) = _
  have : lfQ [] = 0 := rfl
  omega
 obtain ⟨e2, S2, I2, hst2, ⟨k0, k1, k2, k3, k4⟩, _⟩ := admit15 I1 (fs.length : Int) 1 3 1000000
 have he2 := admit_ok I1 (i := fs.length) (id := 1) (n := 3) (z := 1000000) (by rw [hlen]; omega) (by rw [hat2]) (by decide) (by dsimp only; rw [hbl1]; omega)
 dsimp only at he2 k0
 rw [hat2] at he2
 dsimp only at he2
 rw [k0] at he2
 subst he2
 rcases hst2 with ⟨h0, _⟩ | ⟨_, i', h', hi', hc', _, _, rfl⟩
 ·exact absurd rfl h0
 dsimp only at *
 have ei : i' = fs.length := by
  by_cases e : i' < fs.length
  ·rw [atF_app1 e, (hfl i' e).1] at hc'; omega
  ·rw [hlen] at hi'; omega
 subst ei
 rw [hat2] at I2 k2 k3
 have hrn' : ∀ a b c d f, rn40_5_0 ws (fs.length : Int) sq 4 a b c d f = wt ws fs.length := by
  intro a b c d f
  unfold rn40_5_0 wt
  rw [Int.toNat_natCast, Int.tmod_eq_emod_of_nonneg hx.1, wrapOf (intOf ((ws.getD fs.length []).getD 0 .junk) % 16) (by omega) (by omega), wrapOf _ (by omega) (by omega)]
 have hnx : IntKind.i64.wrap ((fs.length : Int) + 1) = ((fs.length + 1 : Nat) : Int) := nxt8 fs.length ws.length hi h8
 have hadm : admF 0 4 (⟨(fs.length : Int), wt ws fs.length, 0, 0, 0, 4, []⟩ : Fl) 1 3 1000000 = ⟨(fs.length : Int), wt ws fs.length, 0, 0, 0, 4, pu [] 1 3 1000000⟩ := rfl
 rw [hadm] at I2 k2 k3
 have hatS : ∀ j, atF ((fs ++ [(⟨(fs.length : Int), wt ws fs.length, 0, 0, 0, 4, []⟩ : Fl)]).set fs.length ⟨(fs.length : Int), wt ws fs.length, 0, 0, 0, 4, pu [] 1 3 1000000⟩) j = if j = fs.length then ⟨(fs.length : Int), wt ws fs.length, 0, 0, 0, 4, pu [] 1 3 1000000⟩ else atF (fs ++ [(⟨(fs.length : Int), wt ws fs.length, 0, 0, 0, 4, []⟩ : Fl)]) j := by
  intro j
  rw [atF_set]
  by_cases e : j = fs.length
  ·rw [if_pos ⟨e, by rw [hlen]; omega⟩, if_pos e]
  ·rw [if_neg (fun hh => e hh.1), if_neg e]
 refine ⟨_, ⟨I2, rfl, rfl, rfl, rfl, by dsimp only; rw [List.length_set, hlen], ?_, ?_, ?_⟩, ?_, ?_⟩
 ·dsimp only
  rw [blF_eq, blL_set (by rw [hlen]; omega), ← blF_eq, hbl1, hat2, lfQ_pu]
  show 1000000 * (fs.length : Int) - lfQ [] + (lfQ [] + 1000000) = _
  omega
 ·intro j hj
  dsimp only
  rw [hatS]
  by_cases e : j = fs.length
  ·rw [if_pos e, e]; exact ⟨rfl, rfl, rfl, rfl, rfl⟩
  ·rw [if_neg e, atF_app1 (by omega)]; exact hfl j (by omega)
 ·intro j hj
  dsimp only at hj ⊢
  rw [List.length_set, hlen] at hj
  rw [hatS]
  by_cases e : j = fs.length
  ·rw [if_pos e]; exact ⟨0, (show 0 < (pu [] 1 3 1000000).length by rw [pu_len]; omega), (show q0 (pu [] 1 3 1000000) 0 = 1 from rfl), (show (1000000 : Int) ≤ q2 (pu [] 1 3 1000000) 0 from Int.le_refl 1000000)⟩
  ·rw [if_neg e, atF_app1 (by omega)]; exact hfull j (by omega)
 ·unfold g40_5 go40_5 rn40_5_1 rn40_5_2
  dsimp only
  simp only [hrn', j1, j2, j3, j0, k0, k4, bne_self_eq_false, cond_false, cond_true, decide_eq_true (show (0 : Int) ≤ (fs.length : Int) by omega), Bool.and_true, decide_eq_true (show (fs.length : Int) < (ws.length : Int) by omega)]
 ·unfold n40_5 nx40_5_1 nx40_5_4 nx40_5_7 nx40_5_8 rn40_5_1 rn40_5_2
  dsimp only
  simp only [hrn', j1, j2, k1, k2, hnx]
  rw [k3]
theorem ends40 {q : Int} {ws : List (List AV)} (hw : ∀ x ∈ ws, okKL [.int .u8] x) (h8 : ws.length ≤ 8) : ∀ (n i : Nat) (S : Sc), ws.length - i = n → i ≤ ws.length → BG q ws i S →
  ∃ S' : Sc, BG q ws ws.length S' ∧ Ends (g40_5 (ws, q, 4, 0, 0)) (n40_5 (ws, q, 4, 0, 0)) ((i : Int), R S.h, ordsF S.fs, tabsF S.fs) ((ws.length : Int), R S'.h, ordsF S'.fs, tabsF S'.fs) := by
 intro n
 induction n with
 | zero =>
   intro i S hn hi B
   have : i = ws.length := by omega
   subst this
   refine ⟨S, B, Ends.stop ?_⟩
   unfold g40_5 go40_5
   dsimp only
   rw [decide_eq_false (show ¬ (ws.length : Int) < (ws.length : Int) by omega)]
   rfl
 | succ n ih =>
   intro i S hn hi B
   obtain ⟨S1, B1, s1, s2⟩ := step40 hw h8 (show i < ws.length by omega) B
   obtain ⟨S2, B2, e2⟩ := ih (i + 1) S1 (by omega) (by omega) B1
   refine ⟨S2, B2, Ends.step s1 ?_⟩
   rw [s2]
   exact e2
theorem begun40 {q : Int} {ws : List (List AV)} (hq : 1 ≤ q ∧ q ≤ 1000) (hw : ∀ x ∈ ws, okKL [.int .u8] x) (h8 : ws.length ≤ 8) : ∃ S : Sc, BG q ws ws.length S ∧ ok40 q ws = true ∧ rev40_1 q ws = R S.h ∧ rev40_2 q ws = ordsF S.fs ∧ rev40_3 q ws = tabsF S.fs := by
 have I0 : Inv ⟨q, 4, 0, 0, [], []⟩ := ⟨hq, by simp, by simp, fun i j hi => by simp at hi, fun i hi => by simp at hi, ⟨by simp, by simp⟩, ⟨by simp, by simp [blF, blN]⟩, fun k _ hk => by simp at hk, List.Perm.refl _⟩
 have B0 : BG q ws 0 ⟨q, 4, 0, 0, [], []⟩ := ⟨I0, rfl, rfl, rfl, rfl, rfl, rfl, fun j hj => by omega, fun j hj => by simp at hj⟩
 obtain ⟨S, B, he⟩ := ends40 hw h8 ws.length 0 _ (by omega) (by omega) B0
 have f := he.fin
 have f2 : rev40_0 q ws = ((ws.length : Int), R S.h, ordsF S.fs, tabsF S.fs) := f.2
 have f1 : stopsB (g40_5 (ws, q, (4 : Int), (0 : Int), (0 : Int))) (n40_5 (ws, q, (4 : Int), (0 : Int), (0 : Int))) ((0 : Int), [], [], []) = true := f.1
 have f3 : finL (g40_5 (ws, q, (4 : Int), (0 : Int), (0 : Int))) (n40_5 (ws, q, (4 : Int), (0 : Int), (0 : Int))) ((0 : Int), [], [], []) = ((ws.length : Int), R S.h, ordsF S.fs, tabsF S.fs) := f.2
 refine ⟨S, B, ?_, ?_, ?_, ?_⟩
 ·unfold ok40
  simp only [spI]
  rw [f1, f2, f3, okN_iff.2 ⟨hq, by omega⟩]
  unfold z40_5 xc40_5_1 y40_5 xc40_5_0
  dsimp only
  rw [decide_eq_false (show ¬ (ws.length : Int) < (ws.length : Int) by omega)]
  rfl
 ·unfold rev40_1; rw [f2]
 ·unfold rev40_2; rw [f2]
 ·unfold rev40_3; rw [f2]
theorem BG.nf {q : Int} {ws : List (List AV)} {n : Nat} {S : Sc} (B : BG q ws n S) (hq : 0 ≤ q) : NF n (wt ws) q S.fs := by
 refine ⟨B.len, fun i hi => (B.fl i hi).2.1, fun i hi => ?_, fun i j hi hj => ?_, fun i hi => ?_⟩
 ·rw [(B.fl i hi).2.2.1, (B.fl i hi).2.2.2.1]; simp
 ·rw [(B.fl i hi).2.2.1, (B.fl j hj).2.2.1]
  have := Cw_spec (wt_b ws i)
  have := Int.mul_nonneg hq (show 0 ≤ Cw (wt ws i) by omega)
  omega
 ·rw [(B.fl i hi).2.2.2.1]; omega
end Go.Proofs.Gv
