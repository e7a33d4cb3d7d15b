/-
The plain law of AgingOnce.
-/
import Derived.Test.YtgaadhlneglidaaGpAg6
import Derived.Test.YtgaadhlneglidaaGaAg7
namespace Go.Proofs.Gv
open Go.Proofs
set_option linter.unusedVariables false
variable {es x rs cs cost got : List (List AV)} {L l id rank c Q : Int}
/-- A number in a list. -/
def iv (l : List (List AV)) (k : Nat) : Int := intOf ((l.getD k []).getD 0 .junk)
theorem iv_app (l : List (List AV)) (a : Int) (k : Nat) : iv (l ++ [[.int .i64 a]]) k = if k = l.length then a else iv l k := by
  unfold iv
  simp only [List.getD_eq_getElem?_getD]
  rcases Nat.lt_trichotomy k l.length with h | h | h
  · rw [List.getElem?_append_left h, if_neg (by omega)]
  · rw [List.getElem?_append_right (by omega), h, Nat.sub_self, if_pos rfl]
    rfl
  · rw [List.getElem?_append_right (by omega), if_neg (by omega), List.getElem?_eq_none (l := [[AV.int .i64 a]]) (i := k - l.length) (by simp; omega), List.getElem?_eq_none (l := l) (i := k) (by omega)]
theorem iv_set (l : List (List AV)) (a : Int) (m k : Nat) : iv (l.set m [.int .i64 a]) k = if k = m ∧ m < l.length then a else iv l k := by
  unfold iv
  rw [gD_set]
  by_cases h : k = m ∧ m < l.length
  · rw [if_pos h, if_pos h]; rfl
  · rw [if_neg h, if_neg h]
/-- What holds all along. -/
structure On (L : Int) (es cost got : List (List AV)) : Prop where
  g : Good L es
  n : got.length = cost.length
  ids : ∀ j, j < es.length → 1 ≤ q0 es j ∧ q0 es j ≤ cost.length
  sum : ∀ j, j < es.length → iv got (q0 es j - 1).toNat + q2 es j = iv cost (q0 es j - 1).toNat
  top : ∀ k, k < cost.length → 1 ≤ iv cost k ∧ iv cost k ≤ 255
  pas : ∀ j, j < es.length → q3 es j ≤ L
theorem On.push (v : On L es cost got) (hl : es.length < 16) (hf : vev28_0 (1 + (cost.length : Int)) rank c 0 = true) (hc : 1 ≤ c ∧ c ≤ 255) : On L (pu es (1 + (cost.length : Int)) rank c) (cost ++ [[.int .i64 c]]) (got ++ [[.int .i64 0]]) := by
  have hn := v.n
  have hlim := v.g.lim
  have l1 : (cost ++ [[AV.int .i64 c]]).length = cost.length + 1 := by rw [List.length_append]; rfl
  have l2 : (got ++ [[AV.int .i64 0]]).length = got.length + 1 := by rw [List.length_append]; rfl
  refine ⟨pu_good v.g hl hf (fun j hj => by have := v.ids j hj; omega), by omega, fun j hj => ?_, fun j hj => ?_, fun k hk => ?_, fun j hj => ?_⟩
  · rw [pu_len] at hj
    rw [(q_pu j).1, l1]
    by_cases h : j = es.length
    · rw [if_pos h]; omega
    · rw [if_neg h]; have := v.ids j (by omega); omega
  · rw [pu_len] at hj
    rw [(q_pu j).1, (q_pu j).2.2.1, iv_app, iv_app]
    by_cases h : j = es.length
    · rw [if_pos h, if_pos h, if_pos (by omega), if_pos (by omega)]; omega
    · have h2 := v.ids j (by omega)
      rw [if_neg h, if_neg h, if_neg (by omega), if_neg (by omega)]
      exact v.sum j (by omega)
  · rw [iv_app]
    by_cases h : k = cost.length
    · rw [if_pos h]; exact hc
    · rw [if_neg h]; exact v.top k (by omega)
  · rw [pu_len] at hj
    rw [(q_pu j).2.2.2]
    by_cases h : j = es.length
    · rw [if_pos h]; omega
    · rw [if_neg h]; exact v.pas j (by omega)
/-- The place of what was served. -/
theorem On.at (v : On L es cost got) {k : Nat} (hk : k < es.length) : ∃ m : Nat, m < cost.length ∧ q0 es k - 1 = (m : Int) ∧ iv got m + q2 es k = iv cost m ∧ 1 ≤ iv cost m ∧ iv cost m ≤ 255 := by
  have h1 := v.ids k hk
  have h2 := v.sum k hk
  have h3 := v.top (q0 es k - 1).toNat (by omega)
  exact ⟨(q0 es k - 1).toNat, by omega, by omega, h2, h3⟩
theorem On.serve (v : On L es cost got) {k m : Nat} (hk : k < es.length) (hn : nx L es = (k : Int)) (hq : 1 ≤ Q) (hm : q0 es k - 1 = (m : Int)) : On L (sv es k Q) cost (got.set m [.int .i64 (iv got m + un es k Q)]) := by
  have hl := v.n
  have hb := v.ids k hk
  have hu := un_le v.g hk hq
  refine ⟨sv_good v.g hk hq, by rw [List.length_set]; exact hl, fun j hj => ?_, fun j hj => ?_, v.top, fun j hj => ?_⟩
  · rw [(sv_q hk j).1]
    exact v.ids _ (fr_lt hk hj).1
  · have hlt := fr_lt hk hj
    have hi := v.ids _ hlt.1
    have hs := v.sum _ hlt.1
    rw [(sv_q hk j).1, (sv_q hk j).2.1, iv_set]
    by_cases h : fr es k Q j = k
    · rw [h] at hs hi
      rw [if_pos h, h, if_pos ⟨by omega, by omega⟩]
      have : (q0 es k - 1).toNat = m := by omega
      rw [this] at hs ⊢
      omega
    · have hne : q0 es (fr es k Q j) ≠ q0 es k := fun e => h (v.g.one k _ hk hlt.1 e)
      rw [if_neg h, if_neg (fun e => by omega)]
      exact hs
  · have hlt := fr_lt hk hj
    have hf := fits.1 (v.g.fit _ hlt.1)
    have hp := v.pas _ hlt.1
    have hlim := v.g.lim
    have hmw := mn_w (x := q3 es (fr es k Q j)) (by omega) (by omega)
    rw [(sv_q hk j).2.2]
    by_cases h : fr es k Q j < k
    · have ho : q3 es (fr es k Q j) < L := by
        by_cases h2 : q3 es (fr es k Q j) < L
        · exact h2
        · have := nx_old v.g hn hk hlt.1 (by omega); omega
      rw [if_pos h]
      omega
    · rw [if_neg h]; exact hp
theorem push5 (v : On L es cost got) (hn : cost.length ≤ 40) (hr : 0 ≤ rank ∧ rank ≤ 7) (hc : 1 ≤ c ∧ c ≤ 255) : vev10_2 L es (1 + (cost.length : Int)) rank c = true ∧ ((vev10_1 L es (1 + (cost.length : Int)) rank c = 0 ∧ On L (vev10_0 L es (1 + (cost.length : Int)) rank c) (cost ++ [[.int .i64 c]]) (got ++ [[.int .i64 0]])) ∨ (¬ (es.length : Int) < 16 ∧ vev10_1 L es (1 + (cost.length : Int)) rank c = 7 ∧ vev10_0 L es (1 + (cost.length : Int)) rank c = es)) := by
  have hN : es.length ≤ 1000 := by have := v.g.len; omega
  have hf : vev28_0 (1 + (cost.length : Int)) rank c 0 = true := fits.2 ⟨by omega, hr, by omega, by omega⟩
  refine ⟨(r10 hN).2.2.1, ?_⟩
  by_cases h : es.length < 16
  · have hs := s10 v.g h hf (fun j hj => by have := v.ids j hj; omega)
    rw [hs.1, hs.2.1]
    exact Or.inl ⟨rfl, v.push h hf hc⟩
  · refine Or.inr ⟨by omega, ?_, ?_⟩
    · unfold vev10_1
      rw [(r24 hN).1, good_chk v.g, hf, (r36a hN).1, ix_none (fun j hj => by have := v.ids j hj; omega), decide_eq_true (show (es.length : Int) ≥ 16 by omega)]
      rfl
    · unfold vev10_0
      rw [(r24 hN).1, good_chk v.g, hf, (r36a hN).1, ix_none (fun j hj => by have := v.ids j hj; omega), decide_eq_true (show (es.length : Int) ≥ 16 by omega)]
      rfl
theorem serve5 (v : On L es cost got) (hq : 1 ≤ Q ∧ Q ≤ 9) : vev14_6 L es Q = true ∧ ((es.length = 0 ∧ vev14_5 L es Q = 0 ∧ vev14_0 L es Q = es) ∨ ∃ k m : Nat, k < es.length ∧ m < cost.length ∧ q0 es k - 1 = (m : Int) ∧ vev14_5 L es Q = un es k Q ∧ (1 ≤ un es k Q ∧ un es k Q ≤ Q ∧ un es k Q ≤ q2 es k) ∧ vev14_1 L es Q = q0 es k ∧ vev14_3 L es Q = q2 es k - un es k Q ∧ iv got m + q2 es k = iv cost m ∧ ((1 ≤ iv cost m ∧ iv cost m ≤ 255) ∧ q2 es k ≤ 1099511627776) ∧ ((vev14_0 L es Q).length : Int) = (if q2 es k - un es k Q = 0 then (es.length : Int) - 1 else (es.length : Int)) ∧ On L (vev14_0 L es Q) cost (got.set m [.int .i64 (iv got m + un es k Q)])) := by
  have hN : es.length ≤ 1000 := by have := v.g.len; omega
  refine ⟨(r14 hN).2.1, ?_⟩
  by_cases h : es.length = 0
  · have hx := nx_none (l := L) h
    refine Or.inl ⟨h, ?_, ?_⟩
    · unfold vev14_5
      rw [(r20 hN).1, decide_eq_true hx]
      rfl
    · unfold vev14_0
      rw [(r20 hN).1, decide_eq_true hx]
      rfl
  · obtain ⟨k, hk, hn, _⟩ := nx_some v.g (by omega)
    obtain ⟨e0, e1, e3, e5⟩ := s15 v.g hk hn hq.1
    have hu := un_le v.g hk hq.1
    obtain ⟨m, hm, hm1, hm2, hm3⟩ := v.at hk
    have hf := fits.1 (v.g.fit k hk)
    refine Or.inr ⟨k, m, hk, hm, hm1, e5, ⟨hu.1, hu.2.2, hu.2.1⟩, e1, e3, hm2, ⟨hm3, by omega⟩, ?_, ?_⟩
    · rw [e0, sv_len hk]
      split <;> omega
    · rw [e0]
      exact v.serve hk hn hq.1 hm1
theorem ends29 {t1 t2 b b7 b8 : List (List AV)} {t10 a a2 : Int} (hN : x.length ≤ 1000) (hp : ∀ j, j < x.length → q3 x j ≤ L) : Ends (g5_29 (t1, t2, t10, a, x, a2, b, L, b7, b8)) (n5_29 (t1, t2, t10, a, x, a2, b, L, b7, b8)) (0 : Int) (x.length : Int) := by
  refine Ends.count (go := g5_29 (t1, t2, t10, a, x, a2, b, L, b7, b8)) (next := n5_29 (t1, t2, t10, a, x, a2, b, L, b7, b8)) x.length (fun i => (i : Int)) (fun i hi => ?_) ?_
  · refine ⟨?_, nxt i _ hi hN⟩
    show go5_29 t1 t2 t10 (i : Int) a x a2 b L b7 b8 = true
    have h := hp i hi
    unfold go5_29 rn5_29_0
    rw [Int.toNat_natCast]
    have e : decide (intOf ((x.getD i []).getD (0 + 1 + 1 + 1) AV.junk) > L) = false := decide_eq_false (show ¬ q3 x i > L by omega)
    rw [e, decide_eq_true (show (i : Int) < (x.length : Int) by omega), decide_eq_true (show (0 : Int) ≤ (i : Int) by omega)]
    rfl
  · show go5_29 t1 t2 t10 (x.length : Int) a x a2 b L b7 b8 = false
    unfold go5_29
    rw [decide_eq_false (by omega)]
    rfl
theorem s29 {t1 t2 b b7 b8 : List (List AV)} {t10 a a2 : Int} (hN : x.length ≤ 1000) (hp : ∀ j, j < x.length → q3 x j ≤ L) : (spI g5_29 n5_29 y5_29 z5_29 d5_29 ((t1, t2, t10, a, x, a2, b, L, b7, b8), (0 : Int))).fst = true := by
  have h := (ends29 (t1 := t1) (t2 := t2) (b := b) (b7 := b7) (b8 := b8) (t10 := t10) (a := a) (a2 := a2) hN hp).fin
  simp only [spI]
  rw [h.2, h.1]
  unfold y5_29 z5_29 xc5_29_1
  dsimp only
  rw [decide_eq_false (show ¬ (x.length : Int) < (x.length : Int) by omega)]
  simp
theorem push5a {i : Nat} (hb : okB rs) (hr : i < rs.length) (hi : i < cs.length) (v : On L es cost got) (hn : cost.length ≤ 39) (hc : 1 ≤ rn5_8_0 rs cs (i : Int) L es L cost got ∧ rn5_8_0 rs cs (i : Int) L es L cost got ≤ 255) : go5_8 rs cs (i : Int) L es L cost got = true ∧ On L (nx5_8_4 rs cs (i : Int) L es L cost got) (nx5_8_6 rs cs (i : Int) L es L cost got) (nx5_8_7 rs cs (i : Int) L es L cost got) ∧ (nx5_8_6 rs cs (i : Int) L es L cost got).length ≤ cost.length + 1 := by
  have e1 : rn5_8_1 rs cs (i : Int) L es L cost got = 1 + (cost.length : Int) := by unfold rn5_8_1; exact wrapOf _ (by omega) (by omega)
  have e3 : rn5_8_3 rs cs (i : Int) L es L cost got = rn5_8_0 rs cs (i : Int) L es L cost got := by unfold rn5_8_3; exact wrapOf _ (by omega) (by omega)
  have e5 : rn5_8_5 rs cs (i : Int) L es L cost got = [[.int .i64 (rn5_8_0 rs cs (i : Int) L es L cost got)]] := by unfold rn5_8_5; rw [e3]
  have er : 0 ≤ rn5_8_2 rs cs (i : Int) L es L cost got ∧ rn5_8_2 rs cs (i : Int) L es L cost got ≤ 7 := by
    have h := byte_in hb hr
    unfold rn5_8_2
    rw [Int.toNat_natCast, wrapOf _ (by omega) (by omega), Int.tmod_eq_emod_of_nonneg h.1]
    omega
  have hp := push5 v (by omega) er hc
  have e4 : rn5_8_4 rs cs (i : Int) L es L cost got = vev10_1 L es (1 + (cost.length : Int)) (rn5_8_2 rs cs (i : Int) L es L cost got) (rn5_8_0 rs cs (i : Int) L es L cost got) := by unfold rn5_8_4; rw [e1, e3]
  unfold go5_8 nx5_8_4 nx5_8_6 nx5_8_7
  rw [decide_eq_true (show (i : Int) < (rs.length : Int) by omega), decide_eq_true (show (i : Int) < (cs.length : Int) by omega), decide_eq_true (show (0 : Int) ≤ (i : Int) by omega), decide_eq_true (show rn5_8_0 rs cs (i : Int) L es L cost got > 0 by omega), e1, e3, e4, e5, hp.1]
  obtain ⟨h1, h2⟩ | ⟨h0, h1, h2⟩ := hp.2
  · rw [h1]
    refine ⟨?_, h2, ?_⟩
    · have l5 : [[AV.int IntKind.i64 (rn5_8_0 rs cs (i : Int) L es L cost got)]].length = 1 := rfl
      have l6 : [[AV.int IntKind.i64 0]].length = 1 := rfl
      rw [l5, l6, decide_eq_true (show (cost.length + 1) * 8 ≤ 140737488355328 by omega), decide_eq_true (show cost.length + 1 ≤ 9223372036854775807 by omega), v.n, decide_eq_true (show (cost.length + 1) * 8 ≤ 140737488355328 by omega), decide_eq_true (show cost.length + 1 ≤ 9223372036854775807 by omega)]
      rfl
    · show (cost ++ [[AV.int IntKind.i64 (rn5_8_0 rs cs (i : Int) L es L cost got)]]).length ≤ _
      rw [List.length_append]
      exact Nat.le_refl _
  · rw [h1, h2, decide_eq_false h0]
    exact ⟨rfl, v, Nat.le_succ _⟩
theorem serve5a {i : Nat} (hb : okB rs) (hr : i < rs.length) (hi : i < cs.length) (v : On L es cost got) (hn : cost.length ≤ 40) (hc : rn5_8_0 rs cs (i : Int) L es L cost got = 0) : go5_8 rs cs (i : Int) L es L cost got = true ∧ On L (nx5_8_4 rs cs (i : Int) L es L cost got) (nx5_8_6 rs cs (i : Int) L es L cost got) (nx5_8_7 rs cs (i : Int) L es L cost got) ∧ (nx5_8_6 rs cs (i : Int) L es L cost got).length ≤ cost.length + 1 := by
  have eq : 1 ≤ rn5_8_6 rs cs (i : Int) L es L cost got ∧ rn5_8_6 rs cs (i : Int) L es L cost got ≤ 9 := by
    have h := byte_in hb hr
    unfold rn5_8_6
    rw [Int.toNat_natCast, wrapOf (intOf _) (by omega) (by omega), Int.tmod_eq_emod_of_nonneg h.1, wrapOf _ (by omega) (by omega)]
    omega
  obtain ⟨hs14, hs⟩ := serve5 v eq
  have hlen := v.g.len
  have a7 : rn5_8_7 rs cs (i : Int) L es L cost got = vev14_5 L es (rn5_8_6 rs cs (i : Int) L es L cost got) := rfl
  have a8 : rn5_8_8 rs cs (i : Int) L es L cost got = vev14_1 L es (rn5_8_6 rs cs (i : Int) L es L cost got) := rfl
  have a12 : rn5_8_12 rs cs (i : Int) L es L cost got = vev14_3 L es (rn5_8_6 rs cs (i : Int) L es L cost got) := rfl
  have a15 : rn5_8_15 rs cs (i : Int) L es L cost got = vev14_0 L es (rn5_8_6 rs cs (i : Int) L es L cost got) := rfl
  have a17 : rn5_8_17 rs cs (i : Int) L es L cost got = (es.length : Int) - 1 := by unfold rn5_8_17; exact wrapOf _ (by omega) (by omega)
  obtain ⟨h0, h5, hv⟩ | ⟨k, m, hk, hm, hm1, h5, hu, h1, h3, hs1, hs2, hl, hv⟩ := hs
  · have e15 : rn5_8_15 rs cs (i : Int) L es L cost got = es := by rw [a15, hv]
    have e7 : rn5_8_7 rs cs (i : Int) L es L cost got = 0 := by rw [a7, h5]
    have hf := (ends29 (t1 := rs) (t2 := cs) (b := es) (b7 := cost) (b8 := got) (t10 := (i : Int)) (a := L) (a2 := L) (by omega) v.pas).fin
    have e21 : rn5_8_21 rs cs (i : Int) L es L cost got = (es.length : Int) := by unfold rn5_8_21; rw [e15, hf.2]
    have hsp := s29 (t1 := rs) (t2 := cs) (b := es) (b7 := cost) (b8 := got) (t10 := (i : Int)) (a := L) (a2 := L) (by omega) v.pas
    have e20 : rn5_8_20 rs cs (i : Int) L es L cost got = 0 := by unfold rn5_8_20; rw [e15, (r24 (l := L) (tk := .imm) (es := es) (by omega)).1, good_chk v.g]
    have hx : xc5_29_0 rs cs (i : Int) (es.length : Int) L es L es L cost got = false := by
      unfold xc5_29_0
      rw [decide_eq_false (show ¬ (es.length : Int) < (es.length : Int) by omega)]
      rfl
    unfold go5_8 nx5_8_4 nx5_8_6 nx5_8_7
    rw [decide_eq_true (show (i : Int) < (rs.length : Int) by omega), decide_eq_true (show (i : Int) < (cs.length : Int) by omega), decide_eq_true (show (0 : Int) ≤ (i : Int) by omega), hc, decide_eq_false (show ¬ (0 : Int) > 0 by omega), hs14, e7, e15, e20, e21, hsp, hx, (r24 (l := L) (tk := .imm) (es := es) (by omega)).2, h0, decide_eq_false (show ¬ (0 : Int) > rn5_8_6 rs cs (i : Int) L es L cost got by omega), decide_eq_false (show ¬ (0 : Int) > 0 by omega)]
    exact ⟨rfl, v, Nat.le_succ _⟩
  · have e7 : rn5_8_7 rs cs (i : Int) L es L cost got = un es k (rn5_8_6 rs cs (i : Int) L es L cost got) := by rw [a7, h5]
    have e8 : rn5_8_8 rs cs (i : Int) L es L cost got = q0 es k := by rw [a8, h1]
    have e9 : rn5_8_9 rs cs (i : Int) L es L cost got = (m : Int) := by unfold rn5_8_9; rw [e8, hm1]; exact wrapOf _ (by omega) (by omega)
    have e12 : rn5_8_12 rs cs (i : Int) L es L cost got = q2 es k - un es k (rn5_8_6 rs cs (i : Int) L es L cost got) := by rw [a12, h3]
    have e10 : rn5_8_10 rs cs (i : Int) L es L cost got = got.set m [.int .i64 (iv got m + un es k (rn5_8_6 rs cs (i : Int) L es L cost got))] := by
      unfold rn5_8_10
      rw [e9, e7, Int.toNat_natCast]
      have h : IntKind.i64.wrap (iv got m + un es k (rn5_8_6 rs cs (i : Int) L es L cost got)) = iv got m + un es k (rn5_8_6 rs cs (i : Int) L es L cost got) := wrapOf _ (by omega) (by omega)
      show got.set m [.int .i64 (IntKind.i64.wrap (iv got m + un es k (rn5_8_6 rs cs (i : Int) L es L cost got)))] = _
      rw [h]
    have e11 : rn5_8_11 rs cs (i : Int) L es L cost got = (cost.length : Int) := by unfold rn5_8_11; rw [e10, List.length_set, v.n]
    have e14 : rn5_8_14 rs cs (i : Int) L es L cost got = iv cost m := by unfold rn5_8_14; rw [e9, Int.toNat_natCast]; rfl
    have e13 : rn5_8_13 rs cs (i : Int) L es L cost got = iv cost m := by
      unfold rn5_8_13
      rw [e9, e10, e12, Int.toNat_natCast]
      have h := iv_set got (iv got m + un es k (rn5_8_6 rs cs (i : Int) L es L cost got)) m m
      rw [if_pos ⟨rfl, by rw [v.n]; exact hm⟩] at h
      have h' : intOf (((got.set m [AV.int .i64 (iv got m + un es k (rn5_8_6 rs cs (i : Int) L es L cost got))]).getD m []).getD 0 AV.junk) = iv got m + un es k (rn5_8_6 rs cs (i : Int) L es L cost got) := h
      rw [h', wrapOf _ (by omega) (by omega)]
      omega
    have hN : (vev14_0 L es (rn5_8_6 rs cs (i : Int) L es L cost got)).length ≤ 1000 := by have := hv.g.len; omega
    have hf := (ends29 (t1 := rs) (t2 := cs) (b := vev14_0 L es (rn5_8_6 rs cs (i : Int) L es L cost got)) (b7 := cost) (b8 := got.set m [.int .i64 (iv got m + un es k (rn5_8_6 rs cs (i : Int) L es L cost got))]) (t10 := (i : Int)) (a := L) (a2 := L) hN hv.pas).fin
    have e16 : rn5_8_16 rs cs (i : Int) L es L cost got = ((vev14_0 L es (rn5_8_6 rs cs (i : Int) L es L cost got)).length : Int) := by unfold rn5_8_16; rw [a15]
    have e18 : rn5_8_18 rs cs (i : Int) L es L cost got = ((vev14_0 L es (rn5_8_6 rs cs (i : Int) L es L cost got)).length : Int) := by unfold rn5_8_18; rw [a15, e10, hf.2]
    have hsp := s29 (t1 := rs) (t2 := cs) (b := vev14_0 L es (rn5_8_6 rs cs (i : Int) L es L cost got)) (b7 := cost) (b8 := got.set m [.int .i64 (iv got m + un es k (rn5_8_6 rs cs (i : Int) L es L cost got))]) (t10 := (i : Int)) (a := L) (a2 := L) hN hv.pas
    have e20 : rn5_8_20 rs cs (i : Int) L es L cost got = 0 := by unfold rn5_8_20; rw [a15, (r24 hN).1, good_chk hv.g]
    have en : (!(q2 es k - un es k (rn5_8_6 rs cs (i : Int) L es L cost got) == 0) == (((vev14_0 L es (rn5_8_6 rs cs (i : Int) L es L cost got)).length : Int) == (es.length : Int) - 1)) = false := by
      rw [hl]
      by_cases hz : q2 es k - un es k (rn5_8_6 rs cs (i : Int) L es L cost got) = 0
      · rw [if_pos hz, hz]; simp
      · rw [if_neg hz, show (q2 es k - un es k (rn5_8_6 rs cs (i : Int) L es L cost got) == 0) = false by simpa using hz, show ((es.length : Int) == (es.length : Int) - 1) = false by rw [beq_eq_false_iff_ne]; omega]; rfl
    have e0' : (un es k (rn5_8_6 rs cs (i : Int) L es L cost got) == 0) = false := by rw [beq_eq_false_iff_ne]; omega
    have e0q : ((es.length : Int) == 0) = false := by rw [beq_eq_false_iff_ne]; omega
    unfold go5_8 nx5_8_4 nx5_8_6 nx5_8_7
    rw [decide_eq_true (show (i : Int) < (rs.length : Int) by omega), decide_eq_true (show (i : Int) < (cs.length : Int) by omega), decide_eq_true (show (0 : Int) ≤ (i : Int) by omega), hc, decide_eq_false (show ¬ (0 : Int) > 0 by omega), hs14, e7, e8, e9, e11, e13, e14, e12, e16, e18, a17, e20, e10, a15, hsp, v.n, (r24 hN).2, en, e0', e0q, decide_eq_false (show ¬ un es k (rn5_8_6 rs cs (i : Int) L es L cost got) > rn5_8_6 rs cs (i : Int) L es L cost got by omega), decide_eq_true (show un es k (rn5_8_6 rs cs (i : Int) L es L cost got) > 0 by omega), decide_eq_false (show ¬ q0 es k < 1 by omega), decide_eq_false (show ¬ q0 es k > (cost.length : Int) by omega), decide_eq_true (show (0 : Int) ≤ (m : Int) by omega), decide_eq_true (show (m : Int) < (cost.length : Int) by omega), decide_eq_false (show ¬ ((vev14_0 L es (rn5_8_6 rs cs (i : Int) L es L cost got)).length : Int) < ((vev14_0 L es (rn5_8_6 rs cs (i : Int) L es L cost got)).length : Int) by omega), decide_eq_true (show iv cost m = iv cost m from rfl), decide_eq_true (show (0 : Int) = 0 from rfl)]
    exact ⟨rfl, hv, Nat.le_succ _⟩
theorem push5b {i : Nat} (hb : okB rs) (hr : ¬ i < rs.length) (hi : i < cs.length) (v : On L es cost got) (hn : cost.length ≤ 39) (hc : 1 ≤ rn5_8_0 rs cs (i : Int) L es L cost got ∧ rn5_8_0 rs cs (i : Int) L es L cost got ≤ 255) : go5_8 rs cs (i : Int) L es L cost got = true ∧ On L (nx5_8_4 rs cs (i : Int) L es L cost got) (nx5_8_6 rs cs (i : Int) L es L cost got) (nx5_8_7 rs cs (i : Int) L es L cost got) ∧ (nx5_8_6 rs cs (i : Int) L es L cost got).length ≤ cost.length + 1 := by
  have e1 : rn5_8_1 rs cs (i : Int) L es L cost got = 1 + (cost.length : Int) := by unfold rn5_8_1; exact wrapOf _ (by omega) (by omega)
  have e3 : rn5_8_3 rs cs (i : Int) L es L cost got = rn5_8_0 rs cs (i : Int) L es L cost got := by unfold rn5_8_3; exact wrapOf _ (by omega) (by omega)
  have e5 : rn5_8_5 rs cs (i : Int) L es L cost got = [[.int .i64 (rn5_8_0 rs cs (i : Int) L es L cost got)]] := by unfold rn5_8_5; rw [e3]
  have er : 0 ≤ Int.tmod 0 8 ∧ Int.tmod 0 8 ≤ 7 := by decide
  have hp := push5 v (by omega) er hc
  have e4 : rn5_8_22 rs cs (i : Int) L es L cost got = vev10_1 L es (1 + (cost.length : Int)) (Int.tmod 0 8) (rn5_8_0 rs cs (i : Int) L es L cost got) := by unfold rn5_8_22; rw [e1, e3]
  unfold go5_8 nx5_8_4 nx5_8_6 nx5_8_7
  rw [decide_eq_false (show ¬ (i : Int) < (rs.length : Int) by omega), decide_eq_true (show (i : Int) < (cs.length : Int) by omega), decide_eq_true (show (0 : Int) ≤ (i : Int) by omega), decide_eq_true (show rn5_8_0 rs cs (i : Int) L es L cost got > 0 by omega), e1, e3, e4, e5, hp.1]
  obtain ⟨h1, h2⟩ | ⟨h0, h1, h2⟩ := hp.2
  · rw [h1]
    refine ⟨?_, h2, ?_⟩
    · have l5 : [[AV.int IntKind.i64 (rn5_8_0 rs cs (i : Int) L es L cost got)]].length = 1 := rfl
      have l6 : [[AV.int IntKind.i64 0]].length = 1 := rfl
      rw [l5, l6, decide_eq_true (show (cost.length + 1) * 8 ≤ 140737488355328 by omega), decide_eq_true (show cost.length + 1 ≤ 9223372036854775807 by omega), v.n, decide_eq_true (show (cost.length + 1) * 8 ≤ 140737488355328 by omega), decide_eq_true (show cost.length + 1 ≤ 9223372036854775807 by omega)]
      rfl
    · show (cost ++ [[AV.int IntKind.i64 (rn5_8_0 rs cs (i : Int) L es L cost got)]]).length ≤ _
      rw [List.length_append]
      exact Nat.le_refl _
  · rw [h1, h2, decide_eq_false h0]
    exact ⟨rfl, v, Nat.le_succ _⟩
theorem serve5b {i : Nat} (hb : okB rs) (hr : ¬ i < rs.length) (hi : i < cs.length) (v : On L es cost got) (hn : cost.length ≤ 40) (hc : rn5_8_0 rs cs (i : Int) L es L cost got = 0) : go5_8 rs cs (i : Int) L es L cost got = true ∧ On L (nx5_8_4 rs cs (i : Int) L es L cost got) (nx5_8_6 rs cs (i : Int) L es L cost got) (nx5_8_7 rs cs (i : Int) L es L cost got) ∧ (nx5_8_6 rs cs (i : Int) L es L cost got).length ≤ cost.length + 1 := by
  have eq : 1 ≤ IntKind.i64.wrap (1 + Int.tmod 0 9) ∧ IntKind.i64.wrap (1 + Int.tmod 0 9) ≤ 9 := by
    rw [wrapOf _ (by decide) (by decide)]
    decide
  obtain ⟨hs14, hs⟩ := serve5 v eq
  have hlen := v.g.len
  have a7 : rn5_8_23 rs cs (i : Int) L es L cost got = vev14_5 L es (IntKind.i64.wrap (1 + Int.tmod 0 9)) := rfl
  have a8 : rn5_8_24 rs cs (i : Int) L es L cost got = vev14_1 L es (IntKind.i64.wrap (1 + Int.tmod 0 9)) := rfl
  have a12 : rn5_8_28 rs cs (i : Int) L es L cost got = vev14_3 L es (IntKind.i64.wrap (1 + Int.tmod 0 9)) := rfl
  have a15 : rn5_8_31 rs cs (i : Int) L es L cost got = vev14_0 L es (IntKind.i64.wrap (1 + Int.tmod 0 9)) := rfl
  have a17 : rn5_8_17 rs cs (i : Int) L es L cost got = (es.length : Int) - 1 := by unfold rn5_8_17; exact wrapOf _ (by omega) (by omega)
  obtain ⟨h0, h5, hv⟩ | ⟨k, m, hk, hm, hm1, h5, hu, h1, h3, hs1, hs2, hl, hv⟩ := hs
  · have e15 : rn5_8_31 rs cs (i : Int) L es L cost got = es := by rw [a15, hv]
    have e7 : rn5_8_23 rs cs (i : Int) L es L cost got = 0 := by rw [a7, h5]
    have hf := (ends29 (t1 := rs) (t2 := cs) (b := es) (b7 := cost) (b8 := got) (t10 := (i : Int)) (a := L) (a2 := L) (by omega) v.pas).fin
    have e21 : rn5_8_36 rs cs (i : Int) L es L cost got = (es.length : Int) := by unfold rn5_8_36; rw [e15, hf.2]
    have hsp := s29 (t1 := rs) (t2 := cs) (b := es) (b7 := cost) (b8 := got) (t10 := (i : Int)) (a := L) (a2 := L) (by omega) v.pas
    have e20 : rn5_8_35 rs cs (i : Int) L es L cost got = 0 := by unfold rn5_8_35; rw [e15, (r24 (l := L) (tk := .imm) (es := es) (by omega)).1, good_chk v.g]
    have hx : xc5_29_0 rs cs (i : Int) (es.length : Int) L es L es L cost got = false := by
      unfold xc5_29_0
      rw [decide_eq_false (show ¬ (es.length : Int) < (es.length : Int) by omega)]
      rfl
    unfold go5_8 nx5_8_4 nx5_8_6 nx5_8_7
    rw [decide_eq_false (show ¬ (i : Int) < (rs.length : Int) by omega), decide_eq_true (show (i : Int) < (cs.length : Int) by omega), decide_eq_true (show (0 : Int) ≤ (i : Int) by omega), hc, decide_eq_false (show ¬ (0 : Int) > 0 by omega), hs14, e7, e15, e20, e21, hsp, hx, (r24 (l := L) (tk := .imm) (es := es) (by omega)).2, h0, decide_eq_false (show ¬ (0 : Int) > IntKind.i64.wrap (1 + Int.tmod 0 9) by omega), decide_eq_false (show ¬ (0 : Int) > 0 by omega)]
    exact ⟨rfl, v, Nat.le_succ _⟩
  · have e7 : rn5_8_23 rs cs (i : Int) L es L cost got = un es k (IntKind.i64.wrap (1 + Int.tmod 0 9)) := by rw [a7, h5]
    have e8 : rn5_8_24 rs cs (i : Int) L es L cost got = q0 es k := by rw [a8, h1]
    have e9 : rn5_8_25 rs cs (i : Int) L es L cost got = (m : Int) := by unfold rn5_8_25; rw [e8, hm1]; exact wrapOf _ (by omega) (by omega)
    have e12 : rn5_8_28 rs cs (i : Int) L es L cost got = q2 es k - un es k (IntKind.i64.wrap (1 + Int.tmod 0 9)) := by rw [a12, h3]
    have e10 : rn5_8_26 rs cs (i : Int) L es L cost got = got.set m [.int .i64 (iv got m + un es k (IntKind.i64.wrap (1 + Int.tmod 0 9)))] := by
      unfold rn5_8_26
      rw [e9, e7, Int.toNat_natCast]
      have h : IntKind.i64.wrap (iv got m + un es k (IntKind.i64.wrap (1 + Int.tmod 0 9))) = iv got m + un es k (IntKind.i64.wrap (1 + Int.tmod 0 9)) := wrapOf _ (by omega) (by omega)
      show got.set m [.int .i64 (IntKind.i64.wrap (iv got m + un es k (IntKind.i64.wrap (1 + Int.tmod 0 9))))] = _
      rw [h]
    have e11 : rn5_8_27 rs cs (i : Int) L es L cost got = (cost.length : Int) := by unfold rn5_8_27; rw [e10, List.length_set, v.n]
    have e14 : rn5_8_30 rs cs (i : Int) L es L cost got = iv cost m := by unfold rn5_8_30; rw [e9, Int.toNat_natCast]; rfl
    have e13 : rn5_8_29 rs cs (i : Int) L es L cost got = iv cost m := by
      unfold rn5_8_29
      rw [e9, e10, e12, Int.toNat_natCast]
      have h := iv_set got (iv got m + un es k (IntKind.i64.wrap (1 + Int.tmod 0 9))) m m
      rw [if_pos ⟨rfl, by rw [v.n]; exact hm⟩] at h
      have h' : intOf (((got.set m [AV.int .i64 (iv got m + un es k (IntKind.i64.wrap (1 + Int.tmod 0 9)))]).getD m []).getD 0 AV.junk) = iv got m + un es k (IntKind.i64.wrap (1 + Int.tmod 0 9)) := h
      rw [h', wrapOf _ (by omega) (by omega)]
      omega
    have hN : (vev14_0 L es (IntKind.i64.wrap (1 + Int.tmod 0 9))).length ≤ 1000 := by have := hv.g.len; omega
    have hf := (ends29 (t1 := rs) (t2 := cs) (b := vev14_0 L es (IntKind.i64.wrap (1 + Int.tmod 0 9))) (b7 := cost) (b8 := got.set m [.int .i64 (iv got m + un es k (IntKind.i64.wrap (1 + Int.tmod 0 9)))]) (t10 := (i : Int)) (a := L) (a2 := L) hN hv.pas).fin
    have e16 : rn5_8_32 rs cs (i : Int) L es L cost got = ((vev14_0 L es (IntKind.i64.wrap (1 + Int.tmod 0 9))).length : Int) := by unfold rn5_8_32; rw [a15]
    have e18 : rn5_8_33 rs cs (i : Int) L es L cost got = ((vev14_0 L es (IntKind.i64.wrap (1 + Int.tmod 0 9))).length : Int) := by unfold rn5_8_33; rw [a15, e10, hf.2]
    have hsp := s29 (t1 := rs) (t2 := cs) (b := vev14_0 L es (IntKind.i64.wrap (1 + Int.tmod 0 9))) (b7 := cost) (b8 := got.set m [.int .i64 (iv got m + un es k (IntKind.i64.wrap (1 + Int.tmod 0 9)))]) (t10 := (i : Int)) (a := L) (a2 := L) hN hv.pas
    have e20 : rn5_8_35 rs cs (i : Int) L es L cost got = 0 := by unfold rn5_8_35; rw [a15, (r24 hN).1, good_chk hv.g]
    have en : (!(q2 es k - un es k (IntKind.i64.wrap (1 + Int.tmod 0 9)) == 0) == (((vev14_0 L es (IntKind.i64.wrap (1 + Int.tmod 0 9))).length : Int) == (es.length : Int) - 1)) = false := by
      rw [hl]
      by_cases hz : q2 es k - un es k (IntKind.i64.wrap (1 + Int.tmod 0 9)) = 0
      · rw [if_pos hz, hz]; simp
      · rw [if_neg hz, show (q2 es k - un es k (IntKind.i64.wrap (1 + Int.tmod 0 9)) == 0) = false by simpa using hz, show ((es.length : Int) == (es.length : Int) - 1) = false by rw [beq_eq_false_iff_ne]; omega]; rfl
    have e0' : (un es k (IntKind.i64.wrap (1 + Int.tmod 0 9)) == 0) = false := by rw [beq_eq_false_iff_ne]; omega
    have e0q : ((es.length : Int) == 0) = false := by rw [beq_eq_false_iff_ne]; omega
    unfold go5_8 nx5_8_4 nx5_8_6 nx5_8_7
    rw [decide_eq_false (show ¬ (i : Int) < (rs.length : Int) by omega), decide_eq_true (show (i : Int) < (cs.length : Int) by omega), decide_eq_true (show (0 : Int) ≤ (i : Int) by omega), hc, decide_eq_false (show ¬ (0 : Int) > 0 by omega), hs14, e7, e8, e9, e11, e13, e14, e12, e16, e18, a17, e20, e10, a15, hsp, v.n, (r24 hN).2, en, e0', e0q, decide_eq_false (show ¬ un es k (IntKind.i64.wrap (1 + Int.tmod 0 9)) > IntKind.i64.wrap (1 + Int.tmod 0 9) by omega), decide_eq_true (show un es k (IntKind.i64.wrap (1 + Int.tmod 0 9)) > 0 by omega), decide_eq_false (show ¬ q0 es k < 1 by omega), decide_eq_false (show ¬ q0 es k > (cost.length : Int) by omega), decide_eq_true (show (0 : Int) ≤ (m : Int) by omega), decide_eq_true (show (m : Int) < (cost.length : Int) by omega), decide_eq_false (show ¬ ((vev14_0 L es (IntKind.i64.wrap (1 + Int.tmod 0 9))).length : Int) < ((vev14_0 L es (IntKind.i64.wrap (1 + Int.tmod 0 9))).length : Int) by omega), decide_eq_true (show iv cost m = iv cost m from rfl), decide_eq_true (show (0 : Int) = 0 from rfl)]
    exact ⟨rfl, hv, Nat.le_succ _⟩
theorem round5 {i : Nat} (hb : okB rs) (hcs : okB cs) (hi : i < cs.length) (hn : cs.length ≤ 40) (v : On L es cost got) (hl : cost.length ≤ i) : go5_8 rs cs (i : Int) L es L cost got = true ∧ On L (nx5_8_4 rs cs (i : Int) L es L cost got) (nx5_8_6 rs cs (i : Int) L es L cost got) (nx5_8_7 rs cs (i : Int) L es L cost got) ∧ (nx5_8_6 rs cs (i : Int) L es L cost got).length ≤ i + 1 := by
  have e0 : 0 ≤ rn5_8_0 rs cs (i : Int) L es L cost got ∧ rn5_8_0 rs cs (i : Int) L es L cost got ≤ 255 := by
    unfold rn5_8_0
    rw [Int.toNat_natCast]
    exact byte_in hcs hi
  have key : go5_8 rs cs (i : Int) L es L cost got = true ∧ On L (nx5_8_4 rs cs (i : Int) L es L cost got) (nx5_8_6 rs cs (i : Int) L es L cost got) (nx5_8_7 rs cs (i : Int) L es L cost got) ∧ (nx5_8_6 rs cs (i : Int) L es L cost got).length ≤ cost.length + 1 := by
    by_cases hr : i < rs.length
    · by_cases hc : rn5_8_0 rs cs (i : Int) L es L cost got = 0
      · exact serve5a hb hr hi v (by omega) hc
      · exact push5a hb hr hi v (by omega) (by omega)
    · by_cases hc : rn5_8_0 rs cs (i : Int) L es L cost got = 0
      · exact serve5b hb hr hi v (by omega) hc
      · exact push5b hb hr hi v (by omega) (by omega)
  exact ⟨key.1, key.2.1, by omega⟩
noncomputable def e5 (rs cs : List (List AV)) (L : Int) : Nat → List (List AV) × List (List AV) × List (List AV)
  | 0 => ([], [], [])
  | i + 1 => (nx5_8_4 rs cs (i : Int) L (e5 rs cs L i).1 L (e5 rs cs L i).2.1 (e5 rs cs L i).2.2, nx5_8_6 rs cs (i : Int) L (e5 rs cs L i).1 L (e5 rs cs L i).2.1 (e5 rs cs L i).2.2, nx5_8_7 rs cs (i : Int) L (e5 rs cs L i).1 L (e5 rs cs L i).2.1 (e5 rs cs L i).2.2)
theorem inv5 (hb : okB rs) (hcs : okB cs) (hn : cs.length ≤ 40) (hL : 1 ≤ L ∧ L ≤ 9) : ∀ i : Nat, i ≤ cs.length → On L (e5 rs cs L i).1 (e5 rs cs L i).2.1 (e5 rs cs L i).2.2 ∧ (e5 rs cs L i).2.1.length ≤ i
  | 0, _ => ⟨⟨⟨by omega, Nat.zero_le 16, fun i hi => absurd hi (Nat.not_lt_zero _), fun i j hi => absurd hi (Nat.not_lt_zero _)⟩, rfl, fun i hi => absurd hi (Nat.not_lt_zero _), fun i hi => absurd hi (Nat.not_lt_zero _), fun i hi => absurd hi (Nat.not_lt_zero _), fun i hi => absurd hi (Nat.not_lt_zero _)⟩, Nat.le_refl _⟩
  | i + 1, hi => by
    obtain ⟨v, hl⟩ := inv5 hb hcs hn hL i (by omega)
    obtain ⟨_, h2, h3⟩ := round5 hb hcs (by omega) hn v hl
    exact ⟨h2, h3⟩
theorem ends5 (hb : okB rs) (hcs : okB cs) (hn : cs.length ≤ 40) (hL : 1 ≤ L ∧ L ≤ 9) : Ends (g5_8 (rs, cs, L, L)) (n5_8 (rs, cs, L, L)) ((0 : Int), [], [], []) ((cs.length : Int), e5 rs cs L cs.length) := by
  refine Ends.count (go := g5_8 (rs, cs, L, L)) (next := n5_8 (rs, cs, L, L)) cs.length (fun i => ((i : Int), e5 rs cs L i)) (fun i hi => ?_) ?_
  · obtain ⟨v, hl⟩ := inv5 hb hcs hn hL i (by omega)
    obtain ⟨h1, _⟩ := round5 hb hcs hi hn v hl
    refine ⟨h1, ?_⟩
    have hw : nx5_8_2 rs cs (i : Int) L (e5 rs cs L i).1 L (e5 rs cs L i).2.1 (e5 rs cs L i).2.2 = ((i + 1 : Nat) : Int) := nxt i _ hi (by omega)
    show (nx5_8_2 rs cs (i : Int) L (e5 rs cs L i).1 L (e5 rs cs L i).2.1 (e5 rs cs L i).2.2, _) = _
    rw [hw]
    rfl
  · show go5_8 rs cs (cs.length : Int) L _ L _ _ = false
    unfold go5_8
    rw [decide_eq_false (show ¬ (cs.length : Int) < (cs.length : Int) by omega)]
    rfl
theorem plain5 {limit : Int} (hl : 0 ≤ limit ∧ limit ≤ 255) (hb : okB rs) (hcs : okB cs) : vev5_0 limit rs cs = true ∧ vev5_1 limit rs cs = true := by
  unfold vev5_0 vev5_1
  by_cases a1 : (cs.length : Int) > 40
  · rw [decide_eq_true a1]; exact ⟨rfl, rfl⟩
  by_cases a2 : (rs.length : Int) > 40
  · rw [decide_eq_false a1, decide_eq_true a2]; exact ⟨rfl, rfl⟩
  rw [decide_eq_false a1, decide_eq_false a2]
  have e0 : 1 ≤ rev5_0 limit rs cs ∧ rev5_0 limit rs cs ≤ 9 := by
    unfold rev5_0
    rw [Int.tmod_eq_emod_of_nonneg hl.1, wrapOf (limit % 9) (by omega) (by omega), wrapOf _ (by omega) (by omega)]
    omega
  have h34 : vev34_0 (rev5_0 limit rs cs) 1 1000 = true := (in34 _ _ _).2 (by omega)
  have e1 : rev5_1 limit rs cs = rev5_0 limit rs cs := by unfold rev5_1 vev18_0; rw [h34]; rfl
  have e18 : vev18_1 (rev5_0 limit rs cs) = 0 := by unfold vev18_1; rw [h34]; rfl
  have hE := (ends5 hb hcs (by omega) e0).fin
  have e2 : rev5_2 limit rs cs = ((cs.length : Int), e5 rs cs (rev5_0 limit rs cs) cs.length) := by unfold rev5_2; rw [e1, hE.2]
  have s2 : (spI g5_8 n5_8 y5_8 z5_8 d5_8 ((rs, cs, rev5_0 limit rs cs, rev5_0 limit rs cs), (0 : Int), [], [], [])).fst = true := by
    simp only [spI]
    rw [hE.2, hE.1]
    unfold y5_8 z5_8 xc5_8_1
    dsimp only
    rw [decide_eq_false (show ¬ (cs.length : Int) < (cs.length : Int) by omega)]
    simp
  have hx : ∀ a b d : List (List AV), xc5_8_0 rs cs (cs.length : Int) (rev5_0 limit rs cs) a (rev5_0 limit rs cs) b d = false := fun a b d => by
    unfold xc5_8_0
    rw [decide_eq_false (show ¬ (cs.length : Int) < (cs.length : Int) by omega)]
    rfl
  rw [e1, e18, e2, s2]
  dsimp only
  rw [hx]
  exact ⟨rfl, rfl⟩
theorem law5 {limit : Int} (hl : (Lit.int .u8 limit).wf = true) (hb : okB rs) (hcs : okB cs) : FnOK Try.prog 5 [.int .u8 limit, .sl .imm [.int .u8] rs, .sl .imm [.int .u8] cs] [] (.bool true) [] := by
  have hl' : 0 ≤ limit ∧ limit ≤ 255 := by
    have h2 : (decide (0 ≤ limit) && decide (limit ≤ 255)) = true := hl
    simpa using h2
  obtain ⟨h0, h3⟩ := plain5 hl' hb hcs
  have he := ev5 limit rs cs
  rw [h3, h0, cond_true] at he
  exact (fn_ok mixed plain (gk_ok k17_ok 30) Try.func5 loops5 he).2
end Go.Proofs.Gv
