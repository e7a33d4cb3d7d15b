import Derived.Test.YthnbpgiohimkoaaPw47
import Derived.Test.YthnbpgiohimkoaaPw39
set_option linter.unusedVariables false
namespace Go.Proofs.Gv
open Go.Proofs
set_option maxRecDepth 20000
theorem put2 {S : Sc} (I : Inv S) {L : List (List AV)} (hL : Lk L S.fs) (c n id m z : Int) : ∃ S2 L2, Inv S2 ∧ S2.q = S.q ∧ S2.lim = S.lim ∧ S2.t = S.t ∧ S2.k = S.k ∧ Lk L2 S2.fs ∧
  vev13_3 S.q S.lim S.t S.k (ordsF S.fs) (tabsF S.fs) (R S.h) c n = true ∧ vev14_2 S.q S.lim S.t S.k L c n = true ∧
  (vev15_3 S.q S.lim S.t S.k (vev13_1 S.q S.lim S.t S.k (ordsF S.fs) (tabsF S.fs) (R S.h) c n) (vev13_2 S.q S.lim S.t S.k (ordsF S.fs) (tabsF S.fs) (R S.h) c n) (R S.h) c id m z = true ∧
    vev15_1 S.q S.lim S.t S.k (vev13_1 S.q S.lim S.t S.k (ordsF S.fs) (tabsF S.fs) (R S.h) c n) (vev13_2 S.q S.lim S.t S.k (ordsF S.fs) (tabsF S.fs) (R S.h) c n) (R S.h) c id m z = R S2.h ∧
    vev15_2 S.q S.lim S.t S.k (vev13_1 S.q S.lim S.t S.k (ordsF S.fs) (tabsF S.fs) (R S.h) c n) (vev13_2 S.q S.lim S.t S.k (ordsF S.fs) (tabsF S.fs) (R S.h) c n) (R S.h) c id m z = tabsF S2.fs ∧
    vev13_1 S.q S.lim S.t S.k (ordsF S.fs) (tabsF S.fs) (R S.h) c n = ordsF S2.fs) ∧
  vev16_2 S.q S.lim S.t S.k (vev14_0 S.q S.lim S.t S.k L c n) c id m z = true ∧ vev16_0 S.q S.lim S.t S.k (vev14_0 S.q S.lim S.t S.k L c n) c id m z = L2 := by
 obtain ⟨e, S1, I1, hst, ⟨j0, j1, j2, j3⟩, hd⟩ := join13 I c n
 have hs : S1.q = S.q ∧ S1.lim = S.lim ∧ S1.t = S.t ∧ S1.k = S.k ∧ S1.h = S.h := by rcases hst with ⟨_, rfl⟩ | ⟨_, rfl⟩ <;> exact ⟨rfl, rfl, rfl, rfl, rfl⟩
 obtain ⟨f0, f1, f2⟩ := hd L hL
 obtain ⟨e2, S2, I2, hst2, ⟨k0, k1, k2, k3, k4⟩, hd2⟩ := admit15 I1 c id m z
 obtain ⟨g0, g1, g2⟩ := hd2 _ f0
 rw [hs.1, hs.2.1, hs.2.2.1, hs.2.2.2.1, hs.2.2.2.2] at k0 k1 k2 k4
 rw [hs.1, hs.2.1, hs.2.2.1, hs.2.2.2.1] at g0 g1 g2
 have hs2 : S2.q = S1.q ∧ S2.lim = S1.lim ∧ S2.t = S1.t ∧ S2.k = S1.k := by rcases hst2 with ⟨_, rfl⟩ | ⟨_, _, _, _, _, _, _, rfl⟩ <;> exact ⟨rfl, rfl, rfl, rfl⟩
 refine ⟨S2, _, I2, hs2.1.trans hs.1, hs2.2.1.trans hs.2.1, hs2.2.2.1.trans hs.2.2.1, hs2.2.2.2.trans hs.2.2.2.1, g0, j3, f2, ?_, g2, rfl⟩
 rw [j1, j2]
 exact ⟨k4, k1, k2, k3⟩
theorem step38b {S : Sc} (I : Inv S) {L costs l us ss : List (List AV)} {d : Int} (hL : Lk L S.fs) (h12 : costs.length ≤ 12) {i : Nat} (hi : i < costs.length) : ∃ S2 L2, Inv S2 ∧ S2.q = S.q ∧ S2.lim = S.lim ∧ S2.t = S.t ∧ S2.k = S.k ∧ Lk L2 S2.fs ∧
  g3_8 (costs, l, S.q, S.lim, S.t, S.k, us, ss, d, S.q, S.lim, S.t, S.k) ((i : Int), L, R S.h, ordsF S.fs, tabsF S.fs) = true ∧ n3_8 (costs, l, S.q, S.lim, S.t, S.k, us, ss, d, S.q, S.lim, S.t, S.k) ((i : Int), L, R S.h, ordsF S.fs, tabsF S.fs) = (((i + 1 : Nat) : Int), L2, R S2.h, ordsF S2.fs, tabsF S2.fs) := by
 have hw : IntKind.i64.wrap ((i : Int) + 1) = ((i + 1 : Nat) : Int) := nxt i costs.length hi (by omega)
 obtain ⟨S2, L2, I2, a1, a2, a3, a4, lk, b1, c1, ⟨b2, b3, b4, b5⟩, c2, c3⟩ := put2 I hL ((i : Int).tmod 3) (rn3_8_0 costs l (i : Int) S.q S.lim L S.t S.k us ss d S.q S.lim (R S.h) S.t S.k (ordsF S.fs) (tabsF S.fs)) (rn3_8_3 costs l (i : Int) S.q S.lim L S.t S.k us ss d S.q S.lim (R S.h) S.t S.k (ordsF S.fs) (tabsF S.fs)) (rn3_8_5 costs l (i : Int) S.q S.lim L S.t S.k us ss d S.q S.lim (R S.h) S.t S.k (ordsF S.fs) (tabsF S.fs)) (rn3_8_6 costs l (i : Int) S.q S.lim L S.t S.k us ss d S.q S.lim (R S.h) S.t S.k (ordsF S.fs) (tabsF S.fs))
 refine ⟨S2, L2, I2, a1, a2, a3, a4, lk, ?_, ?_⟩
 ·show go3_8 costs l (i : Int) S.q S.lim L S.t S.k us ss d S.q S.lim (R S.h) S.t S.k (ordsF S.fs) (tabsF S.fs) = true
  unfold go3_8
  unfold rn3_8_1 rn3_8_2 rn3_8_7
  rw [b1, b2, c1, c2, in2 hi, decide_eq_true (show (i : Int) < (costs.length : Int) by omega)]
  rfl
 ·show (nx3_8_2 costs l (i : Int) S.q S.lim L S.t S.k us ss d S.q S.lim (R S.h) S.t S.k (ordsF S.fs) (tabsF S.fs), nx3_8_5 costs l (i : Int) S.q S.lim L S.t S.k us ss d S.q S.lim (R S.h) S.t S.k (ordsF S.fs) (tabsF S.fs), nx3_8_13 costs l (i : Int) S.q S.lim L S.t S.k us ss d S.q S.lim (R S.h) S.t S.k (ordsF S.fs) (tabsF S.fs), nx3_8_16 costs l (i : Int) S.q S.lim L S.t S.k us ss d S.q S.lim (R S.h) S.t S.k (ordsF S.fs) (tabsF S.fs), nx3_8_17 costs l (i : Int) S.q S.lim L S.t S.k us ss d S.q S.lim (R S.h) S.t S.k (ordsF S.fs) (tabsF S.fs)) = _
  unfold nx3_8_2 nx3_8_5 nx3_8_13 nx3_8_16 nx3_8_17
  unfold rn3_8_1 rn3_8_2 rn3_8_7
  rw [b3, b4, b5, c3]
  unfold rn3_8_3
  rw [hw]
theorem ends38b {costs l us ss : List (List AV)} {d : Int} (h12 : costs.length ≤ 12) : ∀ (n i : Nat) (S : Sc) (L : List (List AV)), costs.length - i = n → i ≤ costs.length → Inv S → Lk L S.fs → ∃ S' L', Inv S' ∧ S'.q = S.q ∧ S'.lim = S.lim ∧ S'.t = S.t ∧ S'.k = S.k ∧ Lk L' S'.fs ∧
  Ends (g3_8 (costs, l, S.q, S.lim, S.t, S.k, us, ss, d, S.q, S.lim, S.t, S.k)) (n3_8 (costs, l, S.q, S.lim, S.t, S.k, us, ss, d, S.q, S.lim, S.t, S.k)) ((i : Int), L, R S.h, ordsF S.fs, tabsF S.fs) ((costs.length : Int), L', R S'.h, ordsF S'.fs, tabsF S'.fs) := by
 intro n
 induction n with
 | zero =>
   intro i S L hn hi I hL
   have : i = costs.length := by omega
   subst this
   refine ⟨S, L, I, rfl, rfl, rfl, rfl, hL, Ends.stop ?_⟩
   show go3_8 costs l (costs.length : Int) S.q S.lim L S.t S.k us ss d S.q S.lim (R S.h) S.t S.k (ordsF S.fs) (tabsF S.fs) = false
   unfold go3_8
   rw [decide_eq_false (show ¬ (costs.length : Int) < (costs.length : Int) by omega)]
   rfl
 | succ n ih =>
   intro i S L hn hi I hL
   obtain ⟨S1, L1, I1, q1, m1, t1, k1, lk1, s1, s2⟩ := step38b (l := l) (us := us) (ss := ss) (d := d) I hL h12 (show i < costs.length by omega)
   obtain ⟨S2, L2, I2, q2', m2, t2, k2, lk2, e2⟩ := ih (i + 1) S1 L1 (by omega) (by omega) I1 lk1
   refine ⟨S2, L2, I2, q2'.trans q1, m2.trans m1, t2.trans t1, k2.trans k1, lk2, Ends.step s1 ?_⟩
   rw [s2]
   rw [q1, m1, t1, k1] at e2
   exact e2
def I64s (l : List (List AV)) : Prop := ∀ r ∈ l, ∃ w, r = [AV.int .i64 w]
theorem i64_of {l : List (List AV)} (h : ∀ x ∈ l, okKL [.int .i64] x) : I64s l := fun r hr => by
 obtain ⟨x, xs, rfl, ⟨n, rfl, hw⟩, hx⟩ := h r hr
 simp only [okKL] at hx
 subst hx
 exact ⟨n, rfl⟩
theorem i64_at {l : List (List AV)} (h : I64s l) {i : Nat} (hi : i < l.length) : ∃ w, l.getD i [] = [AV.int .i64 w] := by
 obtain ⟨w, hw⟩ := h l[i] (List.getElem_mem hi)
 refine ⟨w, ?_⟩
 rw [List.getD_eq_getElem?_getD, List.getElem?_eq_getElem hi]
 exact hw
theorem xR_app (b : Bool) (a c e f : Int) (W : List (List AV)) : (bif b then W ++ [[AV.int IntKind.i64 a, AV.int IntKind.i64 c, AV.int IntKind.i64 e, AV.int IntKind.i64 f]] else W) = W ++ xR b a c e f := by
 unfold xR
 cases b
 ·simp
 ·rfl
theorem runP {l t13 x0 x1 u0 s0 : List (List AV)} {x2 d0 : Int} (hl : I64s l) (h40 : l.length ≤ 1000) : ∀ (n i : Nat) (S : Sc) (L us ss : List (List AV)) (d : Int) (W : List (List AV)), l.length - i = n → i ≤ l.length → Inv S → Lk L S.fs → us.length ≤ 1000 → ss.length ≤ 1000 → W.length ≤ i →
  ∃ (S' : Sc) (L' us' ss' : List (List AV)) (d' : Int) (O : List (List AV)), us'.length = us.length ∧ ss'.length = ss.length ∧ O.length ≤ n ∧ fold39 S.q S.lim (ordsF S.fs) (l.drop i) us ss d (R S.h) S.t S.k (tabsF S.fs) = some ((us', ss', d'), (R S'.h, S'.t, S'.k, tabsF S'.fs), O) ∧
   Ends (g3_18 (l, t13, x0, x1, x2, S.q, S.lim, u0, s0, d0)) (n3_18 (l, t13, x0, x1, x2, S.q, S.lim, u0, s0, d0)) ((i : Int), us, ss, d, L, S.t, S.k, W) ((l.length : Int), us', ss', d', L', S'.t, S'.k, W ++ O) := by
 intro n
 induction n with
 | zero =>
   intro i S L us ss d W hn hi I hL hu hs hW
   have : i = l.length := by omega
   subst this
   refine ⟨S, L, us, ss, d, [], rfl, rfl, by simp, by rw [List.drop_length]; rfl, ?_⟩
   rw [List.append_nil]
   refine Ends.stop ?_
   show go3_18 l t13 (l.length : Int) us ss d x0 x1 x2 S.q S.lim L S.t S.k u0 s0 d0 W = false
   unfold go3_18
   rw [decide_eq_false (show ¬ (l.length : Int) < (l.length : Int) by omega)]
   rfl
 | succ n ih =>
   intro i S L us ss d W hn hi I hL hu hs hW
   have hi' : i < l.length := by omega
   obtain ⟨w, hw⟩ := i64_at hl hi'
   obtain ⟨S1, L1, us1, ss1, d1, o, T⟩ := turnP I hL d w hu hs
   have hrn : rn3_18_0 l t13 (i : Int) us ss d x0 x1 x2 S.q S.lim L S.t S.k u0 s0 d0 W = w := by
    unfold rn3_18_0
    rw [Int.toNat_natCast, hw]
    rfl
   have h1 : (rn3_18_1 l t13 (i : Int) us ss d x0 x1 x2 S.q S.lim L S.t S.k u0 s0 d0 W).length = 1 := rfl
   have one := T.one
   obtain ⟨S', L', us', ss', d', O, n1, n2, n3, f, e⟩ := ih (i + 1) S1 L1 us1 ss1 d1 (W ++ o) (by omega) (by omega) T.I T.lk (by rw [T.nu]; exact hu) (by rw [T.ns]; exact hs) (by rw [List.length_append]; omega)
   rw [T.q, T.lim] at f e
   rw [T.ord] at f
   refine ⟨S', L', us', ss', d', o ++ O, n1.trans T.nu, n2.trans T.ns, by rw [List.length_append]; omega, ?_, Ends.step ?_ ?_⟩
   ·have hdr : l.drop i = [AV.int .i64 w] :: l.drop (i + 1) := by
     rw [List.drop_eq_getElem_cons hi']
     rw [List.getD_eq_getElem?_getD, List.getElem?_eq_getElem hi'] at hw
     have hw' : l[i] = [AV.int .i64 w] := hw
     rw [hw']
    rw [hdr]
    unfold fold39
    simp only [T.c12, T.c0, T.c1, T.c2, T.c8, T.c9, T.c10, T.c11, f]
    rw [T.cx]
   ·show go3_18 l t13 (i : Int) us ss d x0 x1 x2 S.q S.lim L S.t S.k u0 s0 d0 W = true
    unfold go3_18
    rw [hrn, h1, T.d11, in2 hi', decide_eq_true (show (i : Int) < (l.length : Int) by omega), decide_eq_true (show (W.length + 1) * 32 ≤ 140737488355328 by omega), decide_eq_true (show W.length + 1 ≤ 9223372036854775807 by omega)]
    cases vev18_10 us ss d S.q S.lim S.t S.k L w <;> rfl
   ·have hn : n3_18 (l, t13, x0, x1, x2, S.q, S.lim, u0, s0, d0) ((i : Int), us, ss, d, L, S.t, S.k, W) = (((i + 1 : Nat) : Int), us1, ss1, d1, L1, S1.t, S1.k, W ++ o) := by
     show (nx3_18_2 l t13 (i : Int) us ss d x0 x1 x2 S.q S.lim L S.t S.k u0 s0 d0 W, nx3_18_3 l t13 (i : Int) us ss d x0 x1 x2 S.q S.lim L S.t S.k u0 s0 d0 W, nx3_18_4 l t13 (i : Int) us ss d x0 x1 x2 S.q S.lim L S.t S.k u0 s0 d0 W, nx3_18_5 l t13 (i : Int) us ss d x0 x1 x2 S.q S.lim L S.t S.k u0 s0 d0 W, nx3_18_11 l t13 (i : Int) us ss d x0 x1 x2 S.q S.lim L S.t S.k u0 s0 d0 W, nx3_18_12 l t13 (i : Int) us ss d x0 x1 x2 S.q S.lim L S.t S.k u0 s0 d0 W, nx3_18_13 l t13 (i : Int) us ss d x0 x1 x2 S.q S.lim L S.t S.k u0 s0 d0 W, nx3_18_17 l t13 (i : Int) us ss d x0 x1 x2 S.q S.lim L S.t S.k u0 s0 d0 W) = _
     unfold nx3_18_2 nx3_18_3 nx3_18_4 nx3_18_5 nx3_18_11 nx3_18_12 nx3_18_13 nx3_18_17 rn3_18_1
     rw [hrn, T.d0, T.d1, T.d2, T.d3, T.d4, T.d5, xR_app, T.dx, nxt i l.length hi' h40]
    rw [hn, ← List.append_assoc]
    exact e
theorem ends27 {O : List (List AV)} (hO : O.length ≤ 1000) : Ends (g3_27 (O, O)) (n3_27 (O, O)) (0 : Int) (O.length : Int) := by
 refine Ends.count O.length (fun i : Nat => (i : Int)) (fun i hi => ⟨?_, ?_⟩) ?_
 ·show go3_27 O (i : Int) O = true
  unfold go3_27
  rw [in2 hi, decide_eq_true (show (i : Int) < (O.length : Int) by omega)]
  simp
 ·exact nxt i O.length hi hO
 ·show go3_27 O (O.length : Int) O = false
  unfold go3_27
  rw [decide_eq_false (show ¬ (O.length : Int) < (O.length : Int) by omega)]
  rfl
theorem v17_any {order l us ss : List (List AV)} {d : Int} {ready : List (List AV)} {t k : Int} {es us' ss' : List (List AV)} {d' : Int} {r2 : List (List AV)} {t2 k2 : Int} {e2 O : List (List AV)} (h : fold39 5 3 order l us ss d ready t k es = some ((us', ss', d'), (r2, t2, k2, e2), O)) (hu : us'.length ≤ 1000) (hs : ss'.length ≤ 1000) (hl : l.length ≤ 1000000) :
  vev17_0 5 3 order l us ss d ready t k es = us' ∧ vev17_1 5 3 order l us ss d ready t k es = ss' ∧ vev17_2 5 3 order l us ss d ready t k es = d' ∧ vev17_3 5 3 order l us ss d ready t k es = O ∧ vev17_8 5 3 order l us ss d ready t k es = true := by
 have hv : v17 5 3 order l us ss d ready t k es = ((us', ss', d'), (r2, t2, k2, e2), O) := by unfold v17; rw [h]; rfl
 have g0 : vev17_0 5 3 order l us ss d ready t k es = us' := by unfold vev17_0; rw [hv]
 have g1 : vev17_1 5 3 order l us ss d ready t k es = ss' := by unfold vev17_1; rw [hv]
 have g2 : vev17_2 5 3 order l us ss d ready t k es = d' := by unfold vev17_2; rw [hv]
 refine ⟨g0, g1, g2, by unfold vev17_3; rw [hv], ?_⟩
 unfold vev17_8
 rw [g0, g1, g2, h, v56 us' ss' d' hu hs, Nat.ble_eq_true_of_le hl]
 rfl
theorem main3 (us ss : List (List AV)) (d : Int) (costs l : List (List AV)) (hl : I64s l) : vev3_0 us ss d costs l = true ∧ vev3_1 us ss d costs l = true := by
 by_cases hb1 : (us.length : Int) > 20
 ·unfold vev3_0 vev3_1
  rw [decide_eq_true hb1]
  exact ⟨rfl, rfl⟩
 by_cases hb2 : (ss.length : Int) > 20
 ·unfold vev3_0 vev3_1
  rw [decide_eq_false hb1, decide_eq_true hb2]
  exact ⟨rfl, rfl⟩
 by_cases hb3 : (costs.length : Int) > 12
 ·unfold vev3_0 vev3_1
  rw [decide_eq_false hb1, decide_eq_false hb2, decide_eq_true hb3]
  exact ⟨rfl, rfl⟩
 by_cases hb4 : (l.length : Int) > 40
 ·unfold vev3_0 vev3_1
  rw [decide_eq_false hb1, decide_eq_false hb2, decide_eq_false hb3, decide_eq_true hb4]
  exact ⟨rfl, rfl⟩
 have I0 : Inv ⟨5, 3, 0, 0, [], []⟩ := ⟨by simp, by simp, by simp, fun i j hi => by simp at hi, fun i hi => by simp at hi, ⟨by simp, by simp⟩, ⟨by simp, by simp [blF, blN]⟩, fun k _ hk => by simp at hk, List.Perm.refl _⟩
 have L0 : Lk [] (Sc.fs ⟨5, 3, 0, 0, [], []⟩) := ⟨rfl, fun i hi => by simp at hi⟩
 obtain ⟨S, L, I, q1, m1, t1, k1, lk, e8⟩ := ends38b (costs := costs) (l := l) (us := us) (ss := ss) (d := d) (by omega) costs.length 0 ⟨5, 3, 0, 0, [], []⟩ [] (by omega) (by omega) I0 L0
 have f8 := e8.fin
 have f1 : stopsB (g3_8 (costs, l, (5 : Int), (3 : Int), (0 : Int), (0 : Int), us, ss, d, (5 : Int), (3 : Int), (0 : Int), (0 : Int))) (n3_8 (costs, l, (5 : Int), (3 : Int), (0 : Int), (0 : Int), us, ss, d, (5 : Int), (3 : Int), (0 : Int), (0 : Int))) ((0 : Int), [], [], [], []) = true := f8.1
 have f2 : finL (g3_8 (costs, l, (5 : Int), (3 : Int), (0 : Int), (0 : Int), us, ss, d, (5 : Int), (3 : Int), (0 : Int), (0 : Int))) (n3_8 (costs, l, (5 : Int), (3 : Int), (0 : Int), (0 : Int), us, ss, d, (5 : Int), (3 : Int), (0 : Int), (0 : Int))) ((0 : Int), [], [], [], []) = ((costs.length : Int), L, R S.h, ordsF S.fs, tabsF S.fs) := f8.2
 have r0 : rev3_0 us ss d costs l = ((costs.length : Int), L, R S.h, ordsF S.fs, tabsF S.fs) := f2
 have s8 : (spI g3_8 n3_8 y3_8 z3_8 d3_8 ((costs, l, (5 : Int), (3 : Int), (0 : Int), (0 : Int), us, ss, d, (5 : Int), (3 : Int), (0 : Int), (0 : Int)), (0 : Int), [], [], [], [])).fst = true := by
  simp only [spI]
  rw [f1, f2]
  unfold y3_8 z3_8 xc3_8_0
  dsimp only
  rw [decide_eq_false (show ¬ (costs.length : Int) < (costs.length : Int) by omega)]
  rfl
 have r1 : rev3_1 us ss d costs l = ordsF S.fs := by unfold rev3_1; rw [r0]
 have r2 : rev3_2 us ss d costs l = R S.h := by unfold rev3_2; rw [r0]
 have r3 : rev3_3 us ss d costs l = tabsF S.fs := by unfold rev3_3; rw [r0]
 have r0' : (rev3_0 us ss d costs l).snd.fst = L := by rw [r0]
 have hq : S.q = 5 := q1
 have hm : S.lim = 3 := m1
 have ht : S.t = 0 := t1
 have hk : S.k = 0 := k1
 obtain ⟨p18, hp18⟩ : ∃ p : pl3_18, (l, rev3_4 us ss d costs l, rev3_5 us ss d costs l, rev3_6 us ss d costs l, rev3_7 us ss d costs l, (5 : Int), (3 : Int), us, ss, d) = p := ⟨_, rfl⟩
 obtain ⟨S', L', us', ss', d', O, n1, n2, n3, fo, e18⟩ := runP (t13 := rev3_4 us ss d costs l) (x0 := rev3_5 us ss d costs l) (x1 := rev3_6 us ss d costs l) (x2 := rev3_7 us ss d costs l) (u0 := us) (s0 := ss) (d0 := d) hl (by omega) l.length 0 S L us ss d [] (by omega) (by omega) I lk (by omega) (by omega) (by simp)
 rw [hq, hm, ht, hk] at e18 fo
 rw [hp18, List.nil_append] at e18
 rw [List.drop_zero] at fo
 obtain ⟨a0, a1, a2, a3, a8⟩ := v17_any fo (by omega) (by omega) (by omega)
 have r4 : rev3_4 us ss d costs l = O := by unfold rev3_4; rw [r1, r2, r3]; exact a3
 have r5 : rev3_5 us ss d costs l = us' := by unfold rev3_5; rw [r1, r2, r3]; exact a0
 have r6 : rev3_6 us ss d costs l = ss' := by unfold rev3_6; rw [r1, r2, r3]; exact a1
 have r7 : rev3_7 us ss d costs l = d' := by unfold rev3_7; rw [r1, r2, r3]; exact a2
 have f18 := e18.fin
 have r8 : rev3_8 us ss d costs l = ((l.length : Int), us', ss', d', L', S'.t, S'.k, O) := by unfold rev3_8; rw [hp18, r0']; exact f18.2
 have r9 : rev3_9 us ss d costs l = O := by unfold rev3_9; rw [r8]
 have r10 : rev3_10 us ss d costs l = us' := by unfold rev3_10; rw [r8]
 have r11 : rev3_11 us ss d costs l = ss' := by unfold rev3_11; rw [r8]
 have r12 : rev3_12 us ss d costs l = d' := by unfold rev3_12; rw [r8]
 have s18 : (spI g3_18 n3_18 y3_18 z3_18 d3_18 (p18, (0 : Int), us, ss, d, L, (0 : Int), (0 : Int), [])).fst = true := by
  have g1 : stopsB (g3_18 p18) (n3_18 p18) ((0 : Int), us, ss, d, L, (0 : Int), (0 : Int), []) = true := f18.1
  have g2 : finL (g3_18 p18) (n3_18 p18) ((0 : Int), us, ss, d, L, (0 : Int), (0 : Int), []) = ((l.length : Int), us', ss', d', L', S'.t, S'.k, O) := f18.2
  simp only [spI]
  rw [g1, g2]
  unfold y3_18 z3_18 xc3_18_0
  rw [← hp18]
  dsimp only
  rw [decide_eq_false (show ¬ (l.length : Int) < (l.length : Int) by omega)]
  rfl
 have f27 := (ends27 (O := O) (by omega)).fin
 have r13 : rev3_13 us ss d costs l = (O.length : Int) := by unfold rev3_13; rw [r4, r9]; exact f27.2
 have x27 : xc3_27_0 O (O.length : Int) O = false := by
  unfold xc3_27_0
  rw [decide_eq_false (show ¬ (O.length : Int) < (O.length : Int) by omega)]
  rfl
 have s27 : (spI g3_27 n3_27 y3_27 z3_27 d3_27 ((O, O), (0 : Int))).fst = true := by
  simp only [spI]
  rw [f27.2, f27.1]
  unfold y3_27 z3_27 xc3_27_1
  simp only [x27]
  rw [decide_eq_false (show ¬ (O.length : Int) < (O.length : Int) by omega)]
  rfl
 have c1 := c2021 us ss d (by omega)
 have c2 := c2223 us ss d (by omega)
 have c3 := c19s us' ss' d' (by omega) (by omega)
 have m8 : vev17_8 (5 : Int) (3 : Int) (rev3_1 us ss d costs l) l us ss d (rev3_2 us ss d costs l) (0 : Int) (0 : Int) (rev3_3 us ss d costs l) = true := by rw [r1, r2, r3]; exact a8
 constructor
 ·unfold vev3_0
  rw [r13, r4, r5, r6, r7, r9, r10, r11, r12, c3.1, c3.2, c1.1, c1.2.1, c1.2.2.1, c1.2.2.2, c2.1, c2.2.1, c2.2.2, x27, decide_eq_false hb1, decide_eq_false hb2, decide_eq_false hb3, decide_eq_false hb4]
  simp
 ·unfold vev3_1
  rw [hp18, r0', s18, m8, s8, r4, r5, r6, r7, r9, r10, r11, r12, c3.1, c3.2, c1.1, c1.2.1, c1.2.2.1, c1.2.2.2, c2.1, c2.2.1, c2.2.2, s27, decide_eq_false hb1, decide_eq_false hb2, decide_eq_false hb3, decide_eq_false hb4]
  simp
theorem law3 (us ss : List (List AV)) (d : Int) (costs l : List (List AV)) (hl : ∀ x ∈ l, okKL [.int .i64] x) : FnOK Try.prog 3 [.agg [.sl .imm [.int .i64] us, .sl .imm [.int .i64] ss, .int .i64 d], .sl .imm [.int .u8] costs, .sl .imm [.int .i64] l] [] (.bool true) [] := by
 have x := main3 us ss d costs l (i64_of hl)
 have h := ev3 us ss d costs l
 rw [x.1, x.2, cond_true] at h
 exact (fn_ok mixed plain (gk_ok k18_ok 30) Try.func3 loops3 h).2
end Go.Proofs.Gv
