/-
The plain law of AgingEnds.
-/
import Derived.Test.YtgaadhlneglidaaGpAgJ
import Derived.Test.YtgaadhlneglidaaGaAg6
namespace Go.Proofs.Gv
open Go.Proofs
set_option linter.unusedVariables false
variable {es es2 ls : List (List AV)} {l id rank cost q : Int}
/-- A sum. -/
def sS (f : Nat → Int) : Nat → Int
  | 0 => 0
  | n + 1 => sS f n + f n
theorem sS_congr {f g : Nat → Int} : ∀ n, (∀ j, j < n → f j = g j) → sS f n = sS g n
  | 0, _ => rfl
  | n + 1, h => by
    show sS f n + f n = sS g n + g n
    rw [sS_congr n (fun j hj => h j (by omega)), h n (by omega)]
theorem sS_dec {f g : Nat → Int} {k : Nat} {c : Int} (h : ∀ j, g j = if j = k then f j - c else f j) : ∀ n, sS g n = sS f n - if k < n then c else 0
  | 0 => by show (0 : Int) = 0 - _; rw [if_neg (by omega)]; rfl
  | n + 1 => by
    show sS g n + g n = sS f n + f n - _
    rw [sS_dec h n, h n]
    by_cases h1 : n = k
    · rw [if_pos h1, if_neg (by omega), if_pos (by omega)]; omega
    · rw [if_neg h1]
      by_cases h2 : k < n
      · rw [if_pos h2, if_pos (by omega)]; omega
      · rw [if_neg h2, if_neg (by omega)]; omega
theorem sS_wo {f g : Nat → Int} {k : Nat} : ∀ n, (∀ j, j < n → g j = f (if j < k then j else j + 1)) → f k = 0 → sS g n = if n ≤ k then sS f n else sS f (n + 1)
  | 0, _, _ => by rw [if_pos (by omega)]; rfl
  | n + 1, h, h0 => by
    show sS g n + g n = if n + 1 ≤ k then sS f n + f n else sS f n + f n + f (n + 1)
    rw [sS_wo n (fun j hj => h j (by omega)) h0, h n (by omega)]
    rcases Nat.lt_trichotomy n k with h1 | h1 | h1
    · rw [if_pos (by omega), if_pos h1, if_pos (by omega)]
    · rw [if_pos (by omega), if_neg (by omega), if_neg (by omega), h1, h0]; omega
    · rw [if_neg (by omega), if_neg (by omega), if_neg (by omega)]; rfl
theorem sS_nn {f : Nat → Int} : ∀ n, (∀ j, j < n → 0 ≤ f j) → 0 ≤ sS f n
  | 0, _ => Int.le_refl _
  | n + 1, h => by
    have := sS_nn n (fun j hj => h j (by omega))
    have := h n (by omega)
    show 0 ≤ sS f n + f n
    omega
theorem sS_le {f : Nat → Int} {c : Int} : ∀ n, (∀ j, j < n → f j ≤ c) → sS f n ≤ n * c
  | 0, _ => by show (0 : Int) ≤ _; simp
  | n + 1, h => by
    have h1 := sS_le n (fun j hj => h j (by omega))
    have h2 := h n (by omega)
    show sS f n + f n ≤ ((n + 1 : Nat) : Int) * c
    rw [Int.natCast_add, Int.add_mul]
    omega
theorem sm_S : ∀ n, n ≤ 1000 → (∀ j, j < n → 0 ≤ q2 es j ∧ q2 es j ≤ 1099511627776) → sm es n = sS (q2 es) n
  | 0, _, _ => rfl
  | n + 1, hn, h => by
    have ih := sm_S n (by omega) (fun j hj => h j (by omega))
    have h1 := sS_nn (f := q2 es) n (fun j hj => (h j (by omega)).1)
    have h2 := sS_le (f := q2 es) n (fun j hj => (h j (by omega)).2)
    have h3 := h n (by omega)
    show IntKind.i64.wrap (sm es n + q2 es n) = sS (q2 es) n + q2 es n
    rw [ih, wrapOf _ (by omega) (by omega)]
/-- Where a request lay ahead of a service. -/
def fr (es : List (List AV)) (k : Nat) (q : Int) (j : Nat) : Nat := if q2 es k - un es k q = 0 then (if j < k then j else j + 1) else j
theorem sv_q {k : Nat} (hk : k < es.length) (j : Nat) : q0 (sv es k q) j = q0 es (fr es k q j) ∧ q2 (sv es k q) j = (if fr es k q j = k then q2 es k - un es k q else q2 es (fr es k q j)) ∧ q3 (sv es k q) j = (if fr es k q j < k then mn (IntKind.i64.wrap (q3 es (fr es k q j) + 1)) else q3 es (fr es k q j)) := by
  have hl := sq_len (es := es) (q := q) k
  unfold sv fr
  by_cases h : q2 es k - un es k q = 0
  · rw [decide_eq_true h, cond_true, if_pos h]
    obtain ⟨w0, w1, w2, w3⟩ := q_wo (es := sq es k q) (j := j) (k := k) (by omega)
    obtain ⟨s0, s1, s2, s3⟩ := q_sq (q := q) hk (if j < k then j else j + 1)
    exact ⟨w0.trans s0, w2.trans s2, w3.trans s3⟩
  · rw [decide_eq_false h, cond_false, if_neg h]
    obtain ⟨s0, s1, s2, s3⟩ := q_sq (q := q) hk j
    exact ⟨s0, s2, s3⟩
theorem fr_lt {k j : Nat} (hk : k < es.length) (hj : j < (sv es k q).length) : fr es k q j < es.length ∧ (q2 es k - un es k q = 0 → fr es k q j ≠ k) := by
  rw [sv_len hk] at hj
  unfold fr
  by_cases h : q2 es k - un es k q = 0
  · rw [if_pos h] at hj ⊢
    exact ⟨by split <;> omega, fun _ => by split <;> omega⟩
  · rw [if_neg h] at hj ⊢
    exact ⟨hj, fun h2 => absurd h2 h⟩
theorem sv_sum {k j : Nat} (hk : k < es.length) : sS (q2 (sv es k q)) (j + 1) = sS (q2 es) (fr es k q j + 1) - if k < fr es k q j + 1 then un es k q else 0 := by
  rw [← sS_dec (f := q2 es) (g := fun i => if i = k then q2 es i - un es k q else q2 es i) (fun _ => rfl)]
  by_cases h : q2 es k - un es k q = 0
  · have e := sS_wo (f := fun i => if i = k then q2 es i - un es k q else q2 es i) (g := q2 (sv es k q)) (k := k) (j + 1) (fun i _ => by
      rw [(sv_q (q := q) hk i).2.1]
      unfold fr
      rw [if_pos h]
      by_cases h1 : (if i < k then i else i + 1) = k
      · simp only [h1, if_true]
      · simp only [if_neg h1]) (by show (if k = k then _ else _) = (0 : Int); rw [if_pos rfl]; exact h)
    rw [e]
    unfold fr
    rw [if_pos h]
    by_cases h1 : j < k
    · rw [if_pos h1, if_pos (by omega)]
    · rw [if_neg h1, if_neg (by omega)]
  · have hf : ∀ i, fr es k q i = i := fun i => by unfold fr; rw [if_neg h]
    rw [hf]
    exact sS_congr _ (fun i _ => by
      rw [(sv_q (q := q) hk i).2.1, hf]
      by_cases h1 : i = k
      · subst h1; simp
      · rw [if_neg h1, if_neg h1])
/-- What holds all along. -/
structure Inv (l most : Int) (i : Nat) (b : Int) (es : List (List AV)) : Prop where
  g : Good l es
  ids : ∀ j, j < es.length → q0 es j ≤ b
  x : ∀ k, k < es.length → q0 es k = 1000 → q3 es k ≤ l ∧ sS (q2 es) (k + 1) + l - q3 es k + i ≤ most
theorem Inv.push {most b : Int} {i : Nat} (v : Inv l most i b es) (hl : es.length < 16) (hf : vev28_0 id rank cost 0 = true) (hb : b < id) (h1 : id ≠ 1000) : Inv l most i id (pu es id rank cost) := by
  refine ⟨pu_good v.g hl hf (fun j hj => by have := v.ids j hj; omega), fun j hj => ?_, fun k hk he => ?_⟩
  · rw [pu_len] at hj
    rw [(q_pu j).1]
    by_cases h : j = es.length
    · rw [if_pos h]; exact Int.le_refl _
    · rw [if_neg h]; have := v.ids j (by omega); omega
  · rw [pu_len] at hk
    rw [(q_pu k).1] at he
    by_cases h : k = es.length
    · rw [if_pos h] at he; exact absurd he h1
    · rw [if_neg h] at he
      have hx := v.x k (by omega) he
      rw [(q_pu k).2.2.2, if_neg h]
      rw [sS_congr (f := q2 (pu es id rank cost)) (g := q2 es) (k + 1) (fun j hj => by rw [(q_pu j).2.2.1, if_neg (by omega)])]
      exact hx
theorem Inv.serve {most b : Int} {i k : Nat} (v : Inv l most i b es) (hk : k < es.length) (hn : nx l es = (k : Int)) : Inv l most (i + 1) b (sv es k 1) := by
  have hu := un_le v.g hk (Int.le_refl 1)
  have hu1 : un es k 1 = 1 := by omega
  refine ⟨sv_good v.g hk (Int.le_refl _), fun j hj => ?_, fun j hj he => ?_⟩
  · rw [(sv_q hk j).1]
    exact v.ids _ (fr_lt hk hj).1
  · rw [(sv_q hk j).1] at he
    have hlt := fr_lt hk hj
    have hx := v.x _ hlt.1 he
    have hf := fits.1 (v.g.fit _ hlt.1)
    have hlim := v.g.lim
    rw [sv_sum hk, (sv_q hk j).2.2, hu1]
    have hm := mn_w (x := q3 es (fr es k 1 j)) (by omega) (by omega)
    by_cases h : fr es k 1 j < k
    · have ho : q3 es (fr es k 1 j) < l := by
        by_cases h2 : q3 es (fr es k 1 j) < l
        · exact h2
        · have := nx_old v.g hn hk hlt.1 (by omega); omega
      have hm4 := hm.2.2.2 (by omega)
      rw [if_pos h, if_neg (by omega), hm4]
      push_cast
      omega
    · rw [if_neg h, if_pos (by omega)]
      push_cast
      omega
theorem Inv.none {most b : Int} {i : Nat} (v : Inv l most i b es) (h : es.length = 0) : Inv l most (i + 1) b es := ⟨v.g, v.ids, fun k hk => by omega⟩
theorem Inv.weak {most b c : Int} {i : Nat} (v : Inv l most i b es) (h : b ≤ c) : Inv l most i c es := ⟨v.g, fun j hj => by have := v.ids j hj; omega, v.x⟩
/-- One service. -/
theorem Inv.one {most b : Int} {i : Nat} (v : Inv l most i b es) : vev14_6 l es 1 = true ∧ (bif vev14_5 l es 1 != (1 : Int) then decide ((es.length : Int) > (0 : Int)) else false) = false ∧ Inv l most (i + 1) b (vev14_0 l es 1) := by
  have hN : es.length ≤ 1000 := by have := v.g.len; omega
  refine ⟨(r14 hN).2.1, ?_⟩
  by_cases h : es.length = 0
  · have hx := nx_none (l := l) h
    have e0 : vev14_0 l es 1 = es := by
      unfold vev14_0
      rw [(r20 hN).1, decide_eq_true hx]
      rfl
    rw [e0, decide_eq_false (show ¬ (es.length : Int) > 0 by omega)]
    exact ⟨by cases (vev14_5 l es 1 != 1) <;> rfl, v.none h⟩
  · obtain ⟨k, hk, hn, _⟩ := nx_some v.g (by omega)
    obtain ⟨e0, _, _, e5⟩ := s15 v.g hk hn (Int.le_refl 1)
    have hu := un_le v.g hk (Int.le_refl 1)
    have hu1 : un es k 1 = 1 := by omega
    rw [e0, e5, hu1]
    exact ⟨rfl, v.serve hk hn⟩
abbrev okB (ls : List (List AV)) : Prop := ∀ x ∈ ls, okKL [.int .u8] x
theorem byte_in (h : okB ls) {i : Nat} (hi : i < ls.length) : 0 ≤ intOf ((ls.getD i []).getD 0 .junk) ∧ intOf ((ls.getD i []).getD 0 .junk) ≤ 255 := by
  have hm := getD_mem hi
  have hx := h _ hm
  simp only [okKL, okK] at hx
  obtain ⟨_, _, e, ⟨a, rfl, ha⟩, rfl⟩ := hx
  rw [e]
  have h2 : (decide (0 ≤ a) && decide (a ≤ 255)) = true := ha
  change 0 ≤ a ∧ a ≤ 255
  simpa using h2
/-- One round. -/
theorem round6 (h : okB ls) {most : Int} {i : Nat} (hm : most ≤ 3000) (hi : (i : Int) < most) (v : Inv l most i (1000 + i) es) : go6_14 ls most (i : Int) l es = true ∧ nx6_14_2 ls most (i : Int) l es = ((i + 1 : Nat) : Int) ∧ Inv l most (i + 1) (1000 + (i + 1 : Nat)) (nx6_14_4 ls most (i : Int) l es) := by
  have hN : es.length ≤ 1000 := by have := v.g.len; omega
  have hw : nx6_14_2 ls most (i : Int) l es = ((i + 1 : Nat) : Int) := by
    unfold nx6_14_2
    rw [wrapOf _ (by omega) (by omega)]
    rfl
  refine ⟨?_, hw, ?_⟩ <;> clear hw
  all_goals
    by_cases hc : i < ls.length ∧ es.length < 16
    · obtain ⟨c1, c2⟩ := hc
      have hb := byte_in h c1
      have e1 : rn6_14_1 ls most (i : Int) l es = intOf ((ls.getD i []).getD 0 .junk) := by unfold rn6_14_1; rw [Int.toNat_natCast]
      have e0 : rn6_14_0 ls most (i : Int) l es = 1001 + i := by unfold rn6_14_0; exact wrapOf _ (by omega) (by omega)
      have e2 : 0 ≤ rn6_14_2 ls most (i : Int) l es ∧ rn6_14_2 ls most (i : Int) l es ≤ 7 := by
        unfold rn6_14_2
        rw [e1, Int.tmod_eq_emod_of_nonneg hb.1, wrapOf _ (by omega) (by omega)]
        omega
      have e3 : 1 ≤ rn6_14_3 ls most (i : Int) l es ∧ rn6_14_3 ls most (i : Int) l es ≤ 256 := by
        unfold rn6_14_3
        rw [e1, Int.tdiv_eq_ediv_of_nonneg hb.1, IntKind.wrap_u8]
        rw [wrapOf (_ % 256) (by omega) (by omega), wrapOf _ (by omega) (by omega)]
        omega
      have hf : vev28_0 (1001 + (i : Int)) (rn6_14_2 ls most (i : Int) l es) (rn6_14_3 ls most (i : Int) l es) 0 = true := fits.2 ⟨by omega, e2, by omega, by omega⟩
      have hs := s10 v.g c2 hf (fun j hj => by have := v.ids j hj; omega)
      have hp := v.push c2 hf (by omega) (by omega)
      have h1 := hp.one
      have e4 : rn6_14_4 ls most (i : Int) l es = pu es (1001 + (i : Int)) (rn6_14_2 ls most (i : Int) l es) (rn6_14_3 ls most (i : Int) l es) := by unfold rn6_14_4; rw [e0, hs.1]
      first
        | (unfold go6_14 rn6_14_5
           rw [e4, e0, hs.2.1, hs.2.2, h1.1, h1.2.1, decide_eq_true hi, decide_eq_true (show (i : Int) < (ls.length : Int) by omega), decide_eq_true (show (es.length : Int) < 16 by omega), decide_eq_true (show (0 : Int) ≤ (i : Int) by omega)]
           rfl)
        | (unfold nx6_14_4
           rw [e4, decide_eq_true (show (i : Int) < (ls.length : Int) by omega), decide_eq_true (show (es.length : Int) < 16 by omega)]
           exact h1.2.2.weak (by push_cast; omega))
    · have h1 := v.one
      have hc' : (bif decide ((i : Int) < (ls.length : Int)) then decide ((es.length : Int) < 16) else false) = false := by
        by_cases c1 : i < ls.length
        · rw [decide_eq_true (show (i : Int) < (ls.length : Int) by omega), decide_eq_false (show ¬ (es.length : Int) < 16 from fun c2 => hc ⟨c1, by omega⟩)]
          rfl
        · rw [decide_eq_false (show ¬ (i : Int) < (ls.length : Int) by omega)]
          rfl
      first
        | (unfold go6_14
           rw [hc', h1.1, h1.2.1, decide_eq_true hi]
           rfl)
        | (unfold nx6_14_4
           rw [hc']
           exact h1.2.2.weak (by push_cast; omega))
noncomputable def e6 (ls : List (List AV)) (most l : Int) (p : List (List AV)) : Nat → List (List AV)
  | 0 => p
  | i + 1 => nx6_14_4 ls most (i : Int) l (e6 ls most l p i)
theorem inv6 (h : okB ls) {most : Int} (hm : most ≤ 3000) (v : Inv l most 0 1000 es) : ∀ i : Nat, (i : Int) ≤ most → Inv l most i (1000 + i) (e6 ls most l es i)
  | 0, _ => v
  | i + 1, hi => (round6 h hm (by omega) (inv6 h hm v i (by omega))).2.2
theorem ends6b (h : okB ls) {most : Nat} (hm : (most : Int) ≤ 3000) (v : Inv l most 0 1000 es) : Ends (g6_14 (ls, (most : Int), l)) (n6_14 (ls, (most : Int), l)) ((0 : Int), es) ((most : Int), e6 ls most l es most) := by
  refine Ends.count (go := g6_14 (ls, (most : Int), l)) (next := n6_14 (ls, (most : Int), l)) most (fun i => ((i : Int), e6 ls most l es i)) (fun i hi => ?_) ?_
  · have hv := inv6 h hm v i (by omega)
    obtain ⟨h1, h2, _⟩ := round6 h hm (by omega) hv
    refine ⟨h1, ?_⟩
    show (nx6_14_2 ls most (i : Int) l (e6 ls most l es i), nx6_14_4 ls most (i : Int) l (e6 ls most l es i)) = _
    rw [h2]
    rfl
  · show go6_14 ls most (most : Int) l (e6 ls most l es most) = false
    unfold go6_14
    rw [decide_eq_false (by omega)]
    rfl
theorem ends6a (hN : es.length ≤ 1000) : Ends (g6_5 (cost, ls, l, es)) (n6_5 (cost, ls, l, es)) (0 : Int) ((ff (fun i => decide (q2 es i > 9) || (decide (q0 es i > 900) || decide (l > 20))) es.length : Nat) : Int) := by
  refine Ends.first _ _ (fun i hi => ?_) (fun i hi => nxt i _ hi hN)
  show go6_5 cost ls (i : Int) l es = _
  unfold go6_5 rn6_5_0 rn6_5_1
  rw [Int.toNat_natCast]
  by_cases h : i < es.length
  · rw [decide_eq_true (show (i : Int) < (es.length : Int) by omega), decide_eq_true h, decide_eq_true (show (0 : Int) ≤ (i : Int) by omega)]
    show (bif (bif decide (q2 es i > 9) then true else true) then bif (bif decide (q2 es i > 9) then true else bif decide (q0 es i > 900) then true else decide (l > 20)) then false else true else false) = _
    cases decide (q2 es i > 9) <;> cases decide (q0 es i > 900) <;> cases decide (l > 20) <;> rfl
  · rw [decide_eq_false (show ¬ (i : Int) < (es.length : Int) by omega), decide_eq_false h]
    rfl
theorem x6a (hN : es.length ≤ 1000) : let k := ff (fun i => decide (q2 es i > 9) || (decide (q0 es i > 900) || decide (l > 20))) es.length
    xc6_5_0 cost ls (k : Int) l es = decide (k < es.length) ∧ (xc6_5_0 cost ls (k : Int) l es || xc6_5_1 cost ls (k : Int) l es) = true := by
  intro k
  have h0 : k ≤ es.length := ff_le _ _
  unfold xc6_5_0 xc6_5_1 rn6_5_0 rn6_5_1
  rw [Int.toNat_natCast]
  by_cases h : k < es.length
  · have h3 := ff_hit h
    have h3 : (decide (q2 es k > 9) || (decide (q0 es k > 900) || decide (l > 20))) = true := h3
    rw [decide_eq_true (show (k : Int) < (es.length : Int) by omega), decide_eq_true h, decide_eq_true (show (0 : Int) ≤ (k : Int) by omega)]
    show (bif (bif decide (q2 es k > 9) then true else true) then bif true && true then (bif decide (q2 es k > 9) then true else bif true && true then bif decide (q0 es k > 900) then true else decide (l > 20) else false) else false else false) = true ∧ ((bif (bif decide (q2 es k > 9) then true else true) then bif true && true then (bif decide (q2 es k > 9) then true else bif true && true then bif decide (q0 es k > 900) then true else decide (l > 20) else false) else false else false) || false) = true
    revert h3
    cases decide (q2 es k > 9) <;> cases decide (q0 es k > 900) <;> cases decide (l > 20) <;> intro h3 <;> first | exact ⟨rfl, rfl⟩ | cases h3
  · rw [decide_eq_false (show ¬ (k : Int) < (es.length : Int) by omega), decide_eq_false h]
    exact ⟨rfl, rfl⟩
/-- What stands ahead of all else: the list is copied, however long. -/
theorem r9L (h : okQ es) (hL : es.length * 32 ≤ 140737488355328) : vev9_1 l es = true := by
  have h1 := Ends.count (go := g9_3 (l, l, es, 0)) (next := n9_3 (l, l, es, 0)) es.length (fun i => ((i : Int), es.take i)) (fun i hi => by
    have hl : (es.take i).length = i := by rw [List.length_take]; omega
    have he : es.take (i + 1) = es.take i ++ [[.int .i64 (q0 es i), .int .i64 (q1 es i), .int .i64 (q2 es i), .int .i64 (q3 es i)]] := by
      rw [Gv.take_step [] hi, row_eq h hi]
    constructor
    · show go9_3 (i : Int) l l es 0 (es.take i) = true
      unfold go9_3 rn9_3_0
      rw [decide_eq_true (show (i : Int) < (es.length : Int) by omega), decide_eq_true (show (0 : Int) ≤ (i : Int) by omega), hl]
      dsimp only [List.length_singleton, List.length_cons, List.length_nil]
      rw [decide_eq_true (show (i + (0 + 1)) * 32 ≤ 140737488355328 by omega), decide_eq_true (show i + (0 + 1) ≤ 9223372036854775807 by omega)]
      rfl
    · show (nx9_3_0 (i : Int) l l es 0 (es.take i), nx9_3_5 (i : Int) l l es 0 (es.take i)) = _
      unfold nx9_3_0 nx9_3_5 rn9_3_0
      rw [wrapOf ((i : Int) + 1) (by omega) (by omega), Int.toNat_natCast]
      exact Prod.ext rfl he.symm) (by
    show go9_3 (es.length : Int) l l es 0 (es.take es.length) = false
    unfold go9_3
    rw [decide_eq_false (by omega)]
    rfl)
  rw [List.take_length] at h1
  have h1 : Ends (g9_3 (l, l, es, 0)) (n9_3 (l, l, es, 0)) ((0 : Int), []) ((es.length : Int), es) := h1
  have h2 := h1.fin
  unfold vev9_1
  simp only [spI]
  rw [h2.2, h2.1]
  unfold z9_3 xc9_3_0
  dsimp only
  rw [decide_eq_false (by omega)]
  rfl
theorem plain6 (hL : es.length * 32 ≤ 140737488355328) (h : okQ es) (hb : okB ls) (hc : 0 ≤ cost ∧ cost ≤ 255) : vev6_0 l es cost ls = true ∧ vev6_1 l es cost ls = true := by
  unfold vev6_0 vev6_1 vev7_0
  by_cases a1 : (es.length : Int) ≤ 24
  · have hN : es.length ≤ 1000 := by omega
    have h9 := r9 (l := l) h hN
    have hk := x6a (l := l) (es := es) (cost := cost) (ls := ls) hN
    have hf := (ends6a (l := l) (es := es) (cost := cost) (ls := ls) hN).fin
    have e1 : rev6_1 l es cost ls = ((ff (fun i => decide (q2 es i > 9) || (decide (q0 es i > 900) || decide (l > 20))) es.length : Nat) : Int) := by unfold rev6_1; rw [h9.1, hf.2]
    have s1 : (spI g6_5 n6_5 y6_5 z6_5 d6_5 ((cost, ls, l, es), (0 : Int))).fst = true := by
      simp only [spI]
      rw [hf.2, hf.1]
      unfold y6_5 z6_5
      simpa using hk.2
    have e0 : rev6_0 l es cost ls = (es.length : Int) := by unfold rev6_0; rw [h9.1]
    rw [e0, e1, h9.1, h9.2, s1, hk.1, (r24 hN).1, (r24 hN).2, decide_eq_true a1]
    by_cases a2 : (ls.length : Int) > 200
    · rw [decide_eq_true a2]; exact ⟨rfl, rfl⟩
    rw [decide_eq_false a2]
    by_cases a3 : chk l es = 0
    · by_cases a4 : (es.length : Int) > 12
      · rw [decide_eq_true a4, a3]; exact ⟨rfl, rfl⟩
      by_cases a5 : ff (fun i => decide (q2 es i > 9) || (decide (q0 es i > 900) || decide (l > 20))) es.length < es.length
      · rw [decide_eq_true a5, decide_eq_false a4, a3]; exact ⟨rfl, rfl⟩
      rw [decide_eq_false a5, decide_eq_false a4, a3]
      have g := chk_good a3
      have hle := ff_le (fun i => decide (q2 es i > 9) || (decide (q0 es i > 900) || decide (l > 20))) es.length
      have hq : ∀ j, j < es.length → q2 es j ≤ 9 ∧ q0 es j ≤ 900 := fun j hj => by
        have := ff_miss (P := fun i => decide (q2 es i > 9) || (decide (q0 es i > 900) || decide (l > 20))) (N := es.length) (j := j) (by omega)
        simp only [Bool.or_eq_false_iff, decide_eq_false_iff_not] at this
        omega
      have e2 : 1 ≤ rev6_2 l es cost ls ∧ rev6_2 l es cost ls ≤ 9 := by
        unfold rev6_2
        rw [Int.tmod_eq_emod_of_nonneg hc.1, wrapOf (cost % 9) (by omega) (by omega), wrapOf _ (by omega) (by omega)]
        omega
      have hfit : vev28_0 1000 7 (rev6_2 l es cost ls) 0 = true := fits.2 ⟨by omega, by omega, by omega, by omega⟩
      have hs := s10 (cost := rev6_2 l es cost ls) g (by omega) hfit (fun j hj => by have := hq j hj; omega)
      have gp := pu_good g (by omega) hfit (fun j hj => by have := hq j hj; omega)
      have e3 : rev6_3 l es cost ls = pu es 1000 7 (rev6_2 l es cost ls) := by unfold rev6_3; rw [h9.1, hs.1]
      have hpl : (pu es 1000 7 (rev6_2 l es cost ls)).length = es.length + 1 := pu_len
      have hp2 : ∀ j, j < es.length + 1 → 0 ≤ q2 (pu es 1000 7 (rev6_2 l es cost ls)) j ∧ q2 (pu es 1000 7 (rev6_2 l es cost ls)) j ≤ 9 := fun j hj => by
        rw [(q_pu j).2.2.1]
        by_cases hj2 : j = es.length
        · rw [if_pos hj2]; omega
        · rw [if_neg hj2]
          have := hq j (by omega)
          have := fits.1 (g.fit j (by omega))
          omega
      have b1 := sS_nn (f := q2 (pu es 1000 7 (rev6_2 l es cost ls))) (es.length + 1) (fun j hj => (hp2 j hj).1)
      have b2 := sS_le (f := q2 (pu es 1000 7 (rev6_2 l es cost ls))) (es.length + 1) (fun j hj => (hp2 j hj).2)
      have h22 := r22 (tk := .imm) (l := l) (es := pu es 1000 7 (rev6_2 l es cost ls)) (by omega)
      have e22 : vev22_0 l Tk.imm (pu es 1000 7 (rev6_2 l es cost ls)) = sS (q2 (pu es 1000 7 (rev6_2 l es cost ls))) (es.length + 1) := by
        rw [h22.1]
        unfold lft
        rw [good_chk gp, hpl, ← sm_S (es.length + 1) (by omega) (fun j hj => by have := hp2 j hj; omega)]
        rfl
      have hlim := g.lim
      obtain ⟨most, hmost⟩ : ∃ most : Nat, (most : Int) = sS (q2 (pu es 1000 7 (rev6_2 l es cost ls))) (es.length + 1) + l := ⟨(sS (q2 (pu es 1000 7 (rev6_2 l es cost ls))) (es.length + 1) + l).toNat, by omega⟩
      have e4 : rev6_4 l es cost ls = (most : Int) := by
        unfold rev6_4
        rw [e3, e22, hmost]
        exact wrapOf _ (by omega) (by omega)
      have v : Inv l most 0 1000 (pu es 1000 7 (rev6_2 l es cost ls)) := ⟨gp, fun j hj => by
        rw [(q_pu j).1]
        by_cases hj2 : j = es.length
        · rw [if_pos hj2]; omega
        · rw [if_neg hj2]; have := hq j (by omega); omega, fun k hk he => by
        rw [(q_pu k).1] at he
        by_cases hk2 : k = es.length
        · rw [(q_pu k).2.2.2, if_pos hk2, hk2]
          exact ⟨by omega, by push_cast; omega⟩
        · rw [if_neg hk2] at he
          have := hq k (by omega)
          omega⟩
      have hE := (ends6b hb (by omega) v).fin
      have hI := inv6 hb (show (most : Int) ≤ 3000 by omega) v most (Int.le_refl _)
      have e5 : rev6_5 l es cost ls = ((most : Int), e6 ls most l (pu es 1000 7 (rev6_2 l es cost ls)) most) := by unfold rev6_5; rw [e3, e4, hE.2]
      have e6' : rev6_6 l es cost ls = e6 ls most l (pu es 1000 7 (rev6_2 l es cost ls)) most := by unfold rev6_6; rw [e5]
      have s2 : (spI g6_14 n6_14 y6_14 z6_14 d6_14 ((ls, (most : Int), l), (0 : Int), pu es 1000 7 (rev6_2 l es cost ls))).fst = true := by
        simp only [spI]
        rw [hE.2, hE.1]
        unfold y6_14 z6_14 xc6_14_1
        dsimp only
        rw [decide_eq_false (show ¬ (most : Int) < (most : Int) by omega)]
        simp
      rw [e5, e6', e4, e3, s2, hs.2.1, hs.2.2, h22.2]
      generalize e6 ls most l (pu es 1000 7 (rev6_2 l es cost ls)) most = fs at hI
      have hfl : fs.length ≤ 1000 := by have := hI.g.len; omega
      have hno : ∀ j, j < fs.length → q0 fs j ≠ 1000 := fun j hj he => by
        have hx := hI.x j hj he
        have hf2 := fits.1 (hI.g.fit j hj)
        have hnn := sS_nn (f := q2 fs) j (fun i hi => by have := fits.1 (hI.g.fit i (by omega)); omega)
        have : sS (q2 fs) (j + 1) = sS (q2 fs) j + q2 fs j := rfl
        omega
      have hd : vev12_1 l fs 1000 = false := by
        unfold vev12_1
        rw [(r36a hfl).1, ix_none hno]
        rfl
      rw [hd, (r12 hfl).2.2.1]
      have hx0 : xc6_14_0 ls (most : Int) (most : Int) l fs = false := by
        unfold xc6_14_0
        rw [decide_eq_false (show ¬ (most : Int) < (most : Int) by omega)]
        rfl
      dsimp only
      rw [hx0]
      exact ⟨rfl, rfl⟩
    · have hne : (chk l es != 0) = true := by simpa using a3
      rw [hne]
      exact ⟨rfl, rfl⟩
  · rw [decide_eq_false a1, r9L h hL]
    exact ⟨rfl, rfl⟩
theorem law6 (hL : es.length * 32 ≤ 140737488355328) (h : okQ es) (hb : okB ls) (hc : (Lit.int .u8 cost).wf = true) : FnOK Try.prog 6 [.agg [.int .i64 l, .sl .imm [.int .i64, .int .i64, .int .i64, .int .i64] es], .int .u8 cost, .sl .imm [.int .u8] ls] [] (.bool true) [] := by
  have hc' : 0 ≤ cost ∧ cost ≤ 255 := by
    have h2 : (decide (0 ≤ cost) && decide (cost ≤ 255)) = true := hc
    simpa using h2
  obtain ⟨h0, h3⟩ := plain6 (l := l) hL h hb hc'
  have he := ev6 l es cost ls
  rw [h3, h0, cond_true] at he
  exact (fn_ok mixed plain (gk_ok k17_ok 30) Try.func6 loops6 he).2
end Go.Proofs.Gv
