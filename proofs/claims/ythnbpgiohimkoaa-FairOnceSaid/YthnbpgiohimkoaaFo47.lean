import Derived.Test.YthnbpgiohimkoaaFo46
set_option linter.unusedVariables false
namespace Go.Proofs.Gv
open Go.Proofs
theorem lfQ_nil : lfQ [] = 0 := rfl
theorem blF_push (fs : List Fl) (x : Fl) (h : x.rs = []) : blF (fs ++ [x]) = blF fs := by
 rw [blF_eq, blF_eq, blL_app]
 simp only [blL, h, lfQ_nil]
 omega
theorem blF_set {fs : List Fl} {i : Nat} (hi : i < fs.length) (x : Fl) : blF (fs.set i x) = blF fs - lfQ (atF fs i).rs + lfQ x.rs := by rw [blF_eq, blF_eq, blL_set hi]
theorem blF_erase {fs : List Fl} {i : Nat} (hi : i < fs.length) : blF (fs.eraseIdx i) = blF fs - lfQ (atF fs i).rs := by rw [blF_eq, blF_eq, blL_erase hi]
theorem bl_idle {fs : List Fl} (h : ∀ b, b < fs.length → (atF fs b).rs.length = 0) : blF fs = 0 := by
 have key : ∀ n, n ≤ fs.length → blN fs n = 0 := by
  intro n
  induction n with
  | zero => intro _; rfl
  | succ n ih =>
    intro hn
    have hz : (atF fs n).rs = [] := List.length_eq_zero_iff.1 (h n (by omega))
    show blN fs n + lfQ (atF fs n).rs = 0
    rw [ih (by omega), hz]
    rfl
 exact key _ (Nat.le_refl _)
theorem bl_busy {S : Sc} (I : Inv S) {i : Nat} (hi : i < S.fs.length) (hb : 0 < (atF S.fs i).rs.length) : 0 < blF S.fs := by
 have h1 := blF_erase hi
 have h2 := (lfQ_b (I.fl i hi).g).1
 have h3 : 0 ≤ blF (S.fs.eraseIdx i) := by
  refine (blN_b (lim := S.lim) (fs := S.fs.eraseIdx i) (fun j hj => ?_) _ (Nat.le_refl _)).1
  have hm : atF (S.fs.eraseIdx i) j ∈ S.fs := List.mem_of_mem_eraseIdx (atF_mem hj)
  have := I.fls _ hm
  exact ⟨this.l, this.g, this.r⟩
 omega
theorem cost_b (x : Int) : 1 ≤ IntKind.i64.wrap (1 + IntKind.i64.wrap ((IntKind.u64.wrap x).tmod 20)) ∧ IntKind.i64.wrap (1 + IntKind.i64.wrap ((IntKind.u64.wrap x).tmod 20)) ≤ 20 := by
 have h : 0 ≤ IntKind.u64.wrap x := by
  have : IntKind.u64.wrap x = x % 18446744073709551616 := by
   simp [IntKind.wrap, IntKind.signed, IntKind.bits]
  rw [this]; omega
 have e := Int.tmod_eq_emod_of_nonneg (b := 20) h
 rw [e, wrapOf (IntKind.u64.wrap x % 20) (by omega) (by omega), wrapOf _ (by omega) (by omega)]
 omega
theorem step7 {S : Sc} (I : Inv S) (hq3 : S.q = 3) {l : List (List AV)} {i : Nat} (hi : i < l.length) (h80 : l.length ≤ 80) {adm gone : Int} (hg : 0 ≤ gone) (ha : adm = blF S.fs + S.k + gone) (hb : adm ≤ 20 * (i : Int)) : ∃ S' adm' gone', Inv S' ∧ S'.q = S.q ∧ S'.lim = S.lim ∧ 0 ≤ gone' ∧ adm' = blF S'.fs + S'.k + gone' ∧ adm' ≤ 20 * ((i + 1 : Nat) : Int) ∧
  g7_8 (l, S.q, S.lim) (adm, gone, (i : Int), R S.h, S.t, S.k, ordsF S.fs, tabsF S.fs) = true ∧
  n7_8 (l, S.q, S.lim) (adm, gone, (i : Int), R S.h, S.t, S.k, ordsF S.fs, tabsF S.fs) = (adm', gone', ((i + 1 : Nat) : Int), R S'.h, S'.t, S'.k, ordsF S'.fs, tabsF S'.fs) := by
 have hw : IntKind.i64.wrap ((i : Int) + 1) = ((i + 1 : Nat) : Int) := nxt i l.length hi (by omega)
 have hlt : decide ((i : Int) < (l.length : Int)) = true := decide_eq_true (by omega)
 have hk := I.k
 have hfb : 0 ≤ blF S.fs := (blN_b I.gd S.fs.length (Nat.le_refl _)).1
 have b0 := bl34 (q := S.q) (t := S.t) (k := S.k) (rd := R S.h) I.len I.one I.gd
 have hgn : decide (gone < 0) = false := decide_eq_false (by omega)
 unfold g7_8 n7_8
 dsimp only
 unfold go7_8 nx7_8_1 nx7_8_2 nx7_8_3 nx7_8_6 nx7_8_7 nx7_8_8 nx7_8_9 nx7_8_10
 unfold rn7_8_25 rn7_8_24 rn7_8_18 rn7_8_17 rn7_8_9 rn7_8_8 rn7_8_7 rn7_8_2 rn7_8_3 rn7_8_4 rn7_8_5 rn7_8_6 rn7_8_12 rn7_8_13 rn7_8_14 rn7_8_15 rn7_8_16 rn7_8_19 rn7_8_20 rn7_8_21 rn7_8_22 rn7_8_23
 have hz := cost_b (intOf ((l.getD (i : Int).toNat []).getD ((0 : Nat) + (1 : Nat) + (1 : Nat) + (1 : Nat) + (1 : Nat)) AV.junk))
 have ez : rn7_8_11 l adm gone (i : Int) S.q S.lim (R S.h) S.t S.k (ordsF S.fs) (tabsF S.fs) = IntKind.i64.wrap (1 + IntKind.i64.wrap ((IntKind.u64.wrap (intOf ((l.getD (i : Int).toNat []).getD ((0 : Nat) + (1 : Nat) + (1 : Nat) + (1 : Nat) + (1 : Nat)) AV.junk))).tmod 20)) := rfl
 rw [← ez] at hz
 rw [hw, in2 hi, hlt]
 generalize rn7_8_0 l adm gone (i : Int) S.q S.lim (R S.h) S.t S.k (ordsF S.fs) (tabsF S.fs) = a
 generalize rn7_8_1 l adm gone (i : Int) S.q S.lim (R S.h) S.t S.k (ordsF S.fs) (tabsF S.fs) = n
 generalize rn7_8_10 l adm gone (i : Int) S.q S.lim (R S.h) S.t S.k (ordsF S.fs) (tabsF S.fs) = d
 generalize rn7_8_11 l adm gone (i : Int) S.q S.lim (R S.h) S.t S.k (ordsF S.fs) (tabsF S.fs) = z at hz ⊢
 generalize Int.tmod (intOf ((l.getD (i : Int).toNat []).getD 0 AV.junk)) 8 = kind
 cases (kind == 0) with
 | true =>
   obtain ⟨e, S', I', hst, ⟨j0, j1, j2, j3⟩, _⟩ := join13 I a n
   have hs : S'.q = S.q ∧ S'.lim = S.lim ∧ S'.t = S.t ∧ S'.k = S.k ∧ S'.h = S.h := by rcases hst with ⟨_, rfl⟩ | ⟨_, rfl⟩ <;> exact ⟨rfl, rfl, rfl, rfl, rfl⟩
   have hbl : blF S'.fs = blF S.fs := by
    rcases hst with ⟨_, rfl⟩ | ⟨_, rfl⟩
    ·rfl
    ·exact blF_push _ _ rfl
   have b1 := bl34 (q := S'.q) (t := S'.t) (k := S'.k) (rd := R S'.h) I'.len I'.one I'.gd
   rw [hs.1, hs.2.1, hs.2.2.1, hs.2.2.2.1, hs.2.2.2.2] at b1
   have w1 : IntKind.i64.wrap (IntKind.i64.wrap (blF S'.fs + S.k) + gone) = adm := by
    rw [wrapOf (blF S'.fs + S.k) (by omega) (by omega), wrapOf _ (by omega) (by omega)]; omega
   refine ⟨S', adm, gone, I', hs.1, hs.2.1, hg, by rw [hbl, hs.2.2.2.1]; exact ha, by omega, ?_, ?_⟩
   ·simp only [cond_true, b0.2, j1, j2, j3, b1.1, b1.2, w1, bne_self_eq_false, cond_false, hgn]
   ·simp only [cond_true, j1, j2, hs.2.2.1, hs.2.2.2.1, hs.2.2.2.2]
 | false =>
 cases (kind == 1) with
 | true =>
   obtain ⟨e, S', I', hst, ⟨j0, j1, j2, j3, j4⟩, _⟩ := leave27 I a
   have hs : S'.q = S.q ∧ S'.lim = S.lim ∧ S'.t = S.t ∧ S'.k = S.k := by rcases hst with ⟨_, rfl⟩ | ⟨_, _, _, _, _, rfl⟩ <;> exact ⟨rfl, rfl, rfl, rfl⟩
   have hbl : 0 ≤ blF S'.fs ∧ blF S'.fs ≤ blF S.fs := by
    have h0 := (blN_b I'.gd S'.fs.length (Nat.le_refl _)).1
    refine ⟨h0, ?_⟩
    rcases hst with ⟨_, rfl⟩ | ⟨_, j, _, hj, _, rfl⟩
    ·exact Int.le_refl _
    ·have h1 := blF_erase hj
     have h2 := (lfQ_b (I.fl j hj).g).1
     show blF (S.fs.eraseIdx j) ≤ _
     omega
   have b1 := bl34 (q := S'.q) (t := S'.t) (k := S'.k) (rd := R S'.h) I'.len I'.one I'.gd
   rw [hs.1, hs.2.1, hs.2.2.1, hs.2.2.2] at b1
   have w2 : IntKind.i64.wrap (gone + IntKind.i64.wrap (blF S.fs - blF S'.fs)) = gone + (blF S.fs - blF S'.fs) := by
    rw [wrapOf (blF S.fs - blF S'.fs) (by omega) (by omega), wrapOf _ (by omega) (by omega)]
   have w1 : IntKind.i64.wrap (IntKind.i64.wrap (blF S'.fs + S.k) + (gone + (blF S.fs - blF S'.fs))) = adm := by
    rw [wrapOf (blF S'.fs + S.k) (by omega) (by omega), wrapOf _ (by omega) (by omega)]; omega
   have hgn' : decide (gone + (blF S.fs - blF S'.fs) < 0) = false := decide_eq_false (by omega)
   refine ⟨S', adm, gone + (blF S.fs - blF S'.fs), I', hs.1, hs.2.1, by omega, by rw [hs.2.2.2]; omega, by omega, ?_, ?_⟩
   ·simp only [cond_true, cond_false, b0.1, b0.2, j1, j2, j3, j4, b1.1, b1.2, w2, w1, bne_self_eq_false, hgn']
   ·simp only [cond_true, cond_false, b0.1, j1, j2, j3, b1.1, w2, hs.2.2.1, hs.2.2.2]
 | false =>
 have adc : ∃ e S' adm', Inv S' ∧ (S'.q = S.q ∧ S'.lim = S.lim ∧ S'.t = S.t ∧ S'.k = S.k) ∧ adm' = blF S'.fs + S'.k + gone ∧ adm' ≤ 20 * ((i + 1 : Nat) : Int) ∧
   (vev15_0 S.q S.lim S.t S.k (ordsF S.fs) (tabsF S.fs) (R S.h) a d n z = e ∧ vev15_1 S.q S.lim S.t S.k (ordsF S.fs) (tabsF S.fs) (R S.h) a d n z = R S'.h ∧ vev15_2 S.q S.lim S.t S.k (ordsF S.fs) (tabsF S.fs) (R S.h) a d n z = tabsF S'.fs ∧ ordsF S.fs = ordsF S'.fs ∧ vev15_3 S.q S.lim S.t S.k (ordsF S.fs) (tabsF S.fs) (R S.h) a d n z = true) ∧
   (vev34_0 S.q S.lim S.t S.k (ordsF S.fs) (tabsF S'.fs) (R S'.h) = blF S'.fs ∧ vev34_1 S.q S.lim S.t S.k (ordsF S.fs) (tabsF S'.fs) (R S'.h) = true) ∧ IntKind.i64.wrap (IntKind.i64.wrap (blF S'.fs + S.k) + gone) = adm' ∧ ((e = 0 ∧ IntKind.i64.wrap (adm + z) = adm') ∨ (e ≠ 0 ∧ adm = adm')) := by
  obtain ⟨e, S', I', hst, hj, _⟩ := admit15 I a d n z
  have hs : S'.q = S.q ∧ S'.lim = S.lim ∧ S'.t = S.t ∧ S'.k = S.k := by rcases hst with ⟨_, rfl⟩ | ⟨_, _, _, _, _, _, _, rfl⟩ <;> exact ⟨rfl, rfl, rfl, rfl⟩
  have b1 := bl34 (q := S'.q) (t := S'.t) (k := S'.k) (rd := R S'.h) I'.len I'.one I'.gd
  rw [hs.1, hs.2.1, hs.2.2.1, hs.2.2.2, ← hj.2.2.2.1] at b1
  have hk' := I'.k
  have hb' := (blN_b I'.gd S'.fs.length (Nat.le_refl _)).1
  have hb'' : 0 ≤ blF S'.fs := hb'
  have hcs : (e ≠ 0 ∧ blF S'.fs = blF S.fs) ∨ (e = 0 ∧ blF S'.fs = blF S.fs + z) := by
   rcases hst with ⟨h, rfl⟩ | ⟨h, j, _, hjj, _, _, _, rfl⟩
   ·exact .inl ⟨h, rfl⟩
   ·refine .inr ⟨h, ?_⟩
    show blF (S.fs.set j _) = _
    rw [blF_set hjj, lfQ_pu]
    omega
  rw [hs.2.2.2] at hk'
  have w1 : IntKind.i64.wrap (IntKind.i64.wrap (blF S'.fs + S.k) + gone) = blF S'.fs + S.k + gone := by
   rw [wrapOf (blF S'.fs + S.k) (by omega) (by omega), wrapOf _ (by omega) (by omega)]
  refine ⟨e, S', blF S'.fs + S'.k + gone, I', hs, rfl, ?_, hj, b1, by rw [w1, hs.2.2.2], ?_⟩
  ·rw [hs.2.2.2]; omega
  ·rw [hs.2.2.2]
   rcases hcs with ⟨h1, h2⟩ | ⟨h1, h2⟩
   ·exact .inr ⟨h1, by omega⟩
   ·refine .inl ⟨h1, ?_⟩
    rw [wrapOf _ (by omega) (by omega)]
    omega
 have adm' : ∀ c : Bool, c = true → True := fun _ _ => trivial
 cases (kind == 2) with
 | true =>
   obtain ⟨e, S', adm2, I', hs, h1, h2, ⟨j0, j1, j2, j3, j4⟩, b1, w1, h3⟩ := adc
   refine ⟨S', adm2, gone, I', hs.1, hs.2.1, hg, h1, h2, ?_, ?_⟩
   ·rcases h3 with ⟨rfl, h3⟩ | ⟨h3, h4⟩
    ·simp only [cond_true, cond_false, b0.1, b0.2, j0, j1, j2, j4, b1.1, b1.2, w1, h3, bne_self_eq_false, beq_self_eq_true, hgn]
    ·have : (e == 0) = false := beq_eq_false_iff_ne.2 h3
     simp only [cond_true, cond_false, b0.1, b0.2, j0, j1, j2, j4, b1.1, b1.2, w1, this, h4, bne_self_eq_false, hgn]
   ·rcases h3 with ⟨rfl, h3⟩ | ⟨h3, h4⟩
    ·simp only [cond_true, cond_false, j0, j1, j2, h3, beq_self_eq_true, hs.2.2.1, hs.2.2.2]
     rw [j3]
    ·have : (e == 0) = false := beq_eq_false_iff_ne.2 h3
     simp only [cond_true, cond_false, j0, j1, j2, this, h4, hs.2.2.1, hs.2.2.2]
     rw [j3]
 | false =>
 cases (kind == 3) with
 | true =>
   obtain ⟨e, S', adm2, I', hs, h1, h2, ⟨j0, j1, j2, j3, j4⟩, b1, w1, h3⟩ := adc
   refine ⟨S', adm2, gone, I', hs.1, hs.2.1, hg, h1, h2, ?_, ?_⟩
   ·rcases h3 with ⟨rfl, h3⟩ | ⟨h3, h4⟩
    ·simp only [cond_true, cond_false, b0.1, b0.2, j0, j1, j2, j4, b1.1, b1.2, w1, h3, bne_self_eq_false, beq_self_eq_true, hgn]
    ·have : (e == 0) = false := beq_eq_false_iff_ne.2 h3
     simp only [cond_true, cond_false, b0.1, b0.2, j0, j1, j2, j4, b1.1, b1.2, w1, this, h4, bne_self_eq_false, hgn]
   ·rcases h3 with ⟨rfl, h3⟩ | ⟨h3, h4⟩
    ·simp only [cond_true, cond_false, j0, j1, j2, h3, beq_self_eq_true, hs.2.2.1, hs.2.2.2]
     rw [j3]
    ·have : (e == 0) = false := beq_eq_false_iff_ne.2 h3
     simp only [cond_true, cond_false, j0, j1, j2, this, h4, hs.2.2.1, hs.2.2.2]
     rw [j3]
 | false =>
 cases (kind == 4) with
 | true =>
   obtain ⟨e, S', I', hst, ⟨j0, j1, j2, j3, j4⟩, _⟩ := cancel29 I a d
   have hs : S'.q = S.q ∧ S'.lim = S.lim ∧ S'.t = S.t ∧ S'.k = S.k := by rcases hst with ⟨_, rfl⟩ | ⟨_, _, _, _, _, _, _, _, rfl⟩ <;> exact ⟨rfl, rfl, rfl, rfl⟩
   have hbl : 0 ≤ blF S'.fs ∧ blF S'.fs ≤ blF S.fs := by
    have h0 := (blN_b I'.gd S'.fs.length (Nat.le_refl _)).1
    refine ⟨h0, ?_⟩
    rcases hst with ⟨_, rfl⟩ | ⟨_, j, k, _, hj, _, hk2, _, rfl⟩
    ·exact Int.le_refl _
    ·have h2 := ((I.fl j hj).g.q2b hk2).1
     show blF (S.fs.set j _) ≤ _
     rw [blF_set hj, lfQ_wo hk2]
     omega
   have b1 := bl34 (q := S'.q) (t := S'.t) (k := S'.k) (rd := R S'.h) I'.len I'.one I'.gd
   rw [hs.1, hs.2.1, hs.2.2.1, hs.2.2.2, ← j3] at b1
   have w2 : IntKind.i64.wrap (gone + IntKind.i64.wrap (blF S.fs - blF S'.fs)) = gone + (blF S.fs - blF S'.fs) := by
    rw [wrapOf (blF S.fs - blF S'.fs) (by omega) (by omega), wrapOf _ (by omega) (by omega)]
   have w1 : IntKind.i64.wrap (IntKind.i64.wrap (blF S'.fs + S.k) + (gone + (blF S.fs - blF S'.fs))) = adm := by
    rw [wrapOf (blF S'.fs + S.k) (by omega) (by omega), wrapOf _ (by omega) (by omega)]; omega
   have hgn' : decide (gone + (blF S.fs - blF S'.fs) < 0) = false := decide_eq_false (by omega)
   refine ⟨S', adm, gone + (blF S.fs - blF S'.fs), I', hs.1, hs.2.1, by omega, by rw [hs.2.2.2]; omega, by omega, ?_, ?_⟩
   ·simp only [cond_true, cond_false, b0.1, b0.2, j1, j2, j4, b1.1, b1.2, w2, w1, bne_self_eq_false, hgn']
   ·simp only [cond_true, cond_false, b0.1, j1, j2, b1.1, w2, hs.2.2.1, hs.2.2.2]
    rw [j3]
 | false =>
   obtain ⟨o, S', I', hst, ⟨⟨a0, a1, a2, a3, a4⟩, b5, b6, b7, b8, b9, hq, hlim, b10⟩, _⟩ := serve31 I
   have b1 := bl34 (q := S'.q) (t := S'.t) (k := S'.k) (rd := R S'.h) I'.len I'.one I'.gd
   rw [hq, hlim, ← b9] at b1
   have hk' := I'.k
   have hb' : 0 ≤ blF S'.fs := (blN_b I'.gd S'.fs.length (Nat.le_refl _)).1
   rcases hst with ⟨hz1, rfl, rfl⟩ | ⟨j, k, so, rfl⟩
   ·have hz2 := bl_idle (idle_all hz1)
    have hd : decide (blF S'.fs > 0) = false := decide_eq_false (by omega)
    have w1 : IntKind.i64.wrap (IntKind.i64.wrap (blF S'.fs + S'.k) + gone) = adm := by
     rw [wrapOf (blF S'.fs + S'.k) (by omega) (by omega), wrapOf _ (by omega) (by omega)]; omega
    refine ⟨S', adm, gone, I', rfl, rfl, hg, ha, by omega, ?_, ?_⟩
    ·simp only [cond_true, cond_false, a4, b0.1, b0.2, b5, b6, b7, b8, b10, hd, b1.1, b1.2, w1, bne_self_eq_false, beq_self_eq_true, Bool.not_true, hgn]
    ·simp only [cond_false, b5, b6, b7, b8]
   ·obtain ⟨h', hS⟩ := so.st
    have f := I.fl j so.hi
    have hu := un_le f.g so.hk I.q.1
    have hbp := bl_busy I so.hi (by have := so.hk; omega)
    have hbl : blF S'.fs = blF S.fs - un (atF S.fs j).rs k S.q := by
     rw [hS]
     show blF (S.fs.set j _) = _
     rw [blF_set so.hi, lfQ_sv so.hk]
     omega
    have hkk : S'.k = S.k + un (atF S.fs j).rs k S.q := by rw [hS]
    have hd : decide (blF S.fs > 0) = true := decide_eq_true hbp
    dsimp only at a0 a1 a2 a3 a4
    generalize un (atF S.fs j).rs k S.q = u at *
    have w1 : IntKind.i64.wrap (IntKind.i64.wrap (blF S'.fs + S'.k) + gone) = adm := by
     rw [wrapOf (blF S'.fs + S'.k) (by omega) (by omega), wrapOf _ (by omega) (by omega)]; omega
    have w2 : IntKind.i64.wrap (blF S.fs - u) = blF S'.fs := by rw [wrapOf _ (by omega) (by omega), hbl]
    have w3 : IntKind.i64.wrap (S.k + u) = S'.k := by rw [wrapOf _ (by omega) (by omega), hkk]
    have d1 : decide (u < 1) = false := decide_eq_false (by omega)
    have d2 : decide (u > 3) = false := decide_eq_false (by omega)
    have d3 : decide (q2 (atF S.fs j).rs k - u < 0) = false := decide_eq_false (by omega)
    refine ⟨S', adm, gone, I', hq, hlim, hg, by omega, by omega, ?_, ?_⟩
    ·simp only [cond_true, cond_false, a2, a3, a4, b0.1, b0.2, b5, b6, b7, b8, b10, hd, b1.1, b1.2, w1, w2, w3, d1, d2, d3, bne_self_eq_false, beq_self_eq_true, Bool.not_true, hgn]
    ·simp only [cond_false, b5, b6, b7, b8]
     rw [b9]
theorem ends7 {l : List (List AV)} (h80 : l.length ≤ 80) : ∀ (n i : Nat) (S : Sc) (adm gone : Int), l.length - i = n → i ≤ l.length → Inv S → S.q = 3 → 0 ≤ gone → adm = blF S.fs + S.k + gone → adm ≤ 20 * (i : Int) →
  ∃ (S' : Sc) (adm' gone' : Int), Ends (g7_8 (l, S.q, S.lim)) (n7_8 (l, S.q, S.lim)) (adm, gone, (i : Int), R S.h, S.t, S.k, ordsF S.fs, tabsF S.fs) (adm', gone', (l.length : Int), R S'.h, S'.t, S'.k, ordsF S'.fs, tabsF S'.fs) := by
 intro n
 induction n with
 | zero =>
   intro i S adm gone hn hi I hq hg ha hb
   have : i = l.length := by omega
   subst this
   refine ⟨S, adm, gone, Ends.stop ?_⟩
   unfold g7_8 go7_8
   dsimp only
   rw [decide_eq_false (show ¬ (l.length : Int) < (l.length : Int) by omega)]
   rfl
 | succ n ih =>
   intro i S adm gone hn hi I hq hg ha hb
   obtain ⟨S1, a1, g1, I1, q1, m1, hg1, ha1, hb1, s1, s2⟩ := step7 I hq (show i < l.length by omega) h80 hg ha hb
   obtain ⟨S2, a2, g2, e2⟩ := ih (i + 1) S1 a1 g1 (by omega) (by omega) I1 (q1.trans hq) hg1 ha1 hb1
   refine ⟨S2, a2, g2, Ends.step s1 ?_⟩
   rw [s2]
   rw [q1, m1] at e2
   exact e2
theorem law7 (l : List (List AV)) : FnOK Try.prog 7 [.sl .imm [.int .u8, .int .i64, .int .i64, .int .i64, .int .i64] l] [] (.bool true) [] := by
 have x : vev7_0 l = true ∧ vev7_1 l = true := by
  by_cases hbig : (l.length : Int) > 80
  ·unfold vev7_0 vev7_1
   rw [decide_eq_true hbig]
   exact ⟨rfl, rfl⟩
  ·have I0 : Inv ⟨3, 2, 0, 0, [], []⟩ := ⟨by simp, by simp, by simp, fun i j hi => by simp at hi, fun i hi => by simp at hi, ⟨by simp, by simp⟩, ⟨by simp, by simp [blF, blN]⟩, fun k _ hk => by simp at hk, List.Perm.refl _⟩
   obtain ⟨S', a', g', he⟩ := ends7 (l := l) (by omega) l.length 0 ⟨3, 2, 0, 0, [], []⟩ 0 0 (by omega) (by omega) I0 rfl (by omega) rfl (by omega)
   have f := he.fin
   have f2 : rev7_0 l = (a', g', (l.length : Int), R S'.h, S'.t, S'.k, ordsF S'.fs, tabsF S'.fs) := f.2
   have f1 : stopsB (g7_8 (l, (3 : Int), (2 : Int))) (n7_8 (l, (3 : Int), (2 : Int))) ((0 : Int), (0 : Int), (0 : Int), [], (0 : Int), (0 : Int), [], []) = true := f.1
   have f3 : finL (g7_8 (l, (3 : Int), (2 : Int))) (n7_8 (l, (3 : Int), (2 : Int))) ((0 : Int), (0 : Int), (0 : Int), [], (0 : Int), (0 : Int), [], []) = (a', g', (l.length : Int), R S'.h, S'.t, S'.k, ordsF S'.fs, tabsF S'.fs) := f.2
   constructor
   ·unfold vev7_0
    rw [f2, decide_eq_false hbig]
    dsimp only
    unfold xc7_8_0
    rw [decide_eq_false (show ¬ (l.length : Int) < (l.length : Int) by omega)]
    rfl
   ·unfold vev7_1
    simp only [spI]
    rw [f1, f3, decide_eq_false hbig]
    unfold z7_8 xc7_8_1 y7_8 xc7_8_0
    dsimp only
    rw [decide_eq_false (show ¬ (l.length : Int) < (l.length : Int) by omega)]
    rfl
 have h := ev7 l
 rw [x.1, x.2, cond_true] at h
 exact (fn_ok mixed plain (gk_ok k72_ok 30) Try.func7 loops7 h).2
end Go.Proofs.Gv
