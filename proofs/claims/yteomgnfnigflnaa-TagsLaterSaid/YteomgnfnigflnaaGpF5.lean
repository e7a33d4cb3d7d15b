/-
The plain law of TagsFair: each two are near since any time.
-/
import Derived.Test.YteomgnfnigflnaaGaF5
import Derived.Test.YteomgnfnigflnaaGpRunT
import Derived.Test.YteomgnfnigflnaaGwA
import Derived.Test.YteomgnfnigflnaaGwG
namespace Go.Proofs.Gv
open Go.Proofs
set_option linter.unusedVariables false
/-- The weight that a byte tells, and the cost that a number tells. -/
def wN (x : List AV) : Int := IntKind.i64.wrap (1 + IntKind.i64.wrap ((intOf (x.getD 0 .junk)).tmod 16))
def cN (x : List AV) : Int := IntKind.i64.wrap (1 + IntKind.i64.wrap (intOf (x.getD 0 .junk)))
def cRow (x : List AV) : List AV := [.int .i64 (cN x)]
def tOf (x : List AV) : List AV := eT (wN x) 0 0 0
theorem wN_ok {x : List AV} (h : okKL [.int .u8] x) : 1 ≤ wN x ∧ wN x ≤ 16 := by
  simp only [okKL, okK] at h
  obtain ⟨_, _, rfl, ⟨a, rfl, h⟩, rfl⟩ := h
  have h' : 0 ≤ a ∧ a ≤ 255 := by
    have h2 : (decide (0 ≤ a) && decide (a ≤ 255)) = true := h
    simpa using h2
  unfold wN
  change 1 ≤ IntKind.i64.wrap (1 + IntKind.i64.wrap (a.tmod 16)) ∧ IntKind.i64.wrap (1 + IntKind.i64.wrap (a.tmod 16)) ≤ 16
  rw [Int.tmod_eq_emod_of_nonneg h'.1, wrapOf (a % 16) (by omega) (by omega), wrapOf _ (by omega) (by omega)]
  omega
theorem cN_ok {x : List AV} (h : okKL [.int .u16] x) : 1 ≤ cN x ∧ cN x ≤ 65536 := by
  simp only [okKL, okK] at h
  obtain ⟨_, _, rfl, ⟨a, rfl, h⟩, rfl⟩ := h
  have h' : 0 ≤ a ∧ a ≤ 65535 := by
    have h2 : (decide (0 ≤ a) && decide (a ≤ 65535)) = true := h
    simpa using h2
  unfold cN
  change 1 ≤ IntKind.i64.wrap (1 + IntKind.i64.wrap a) ∧ IntKind.i64.wrap (1 + IntKind.i64.wrap a) ≤ 65536
  rw [wrapOf a (by omega) (by omega), wrapOf _ (by omega) (by omega)]
  omega
theorem new_ok {w : Int} (h : 1 ≤ w ∧ w ≤ 16) : vev11_0 w = w ∧ vev11_1 w = 0 := by
  unfold vev11_0 vev11_1
  rw [t29, decide_eq_true h]
  exact ⟨rfl, rfl⟩
/-- The greatest cost. -/
def mxF (q : Int) (x : List AV) : Int := if q < cN x then cN x else q
def mxL (l : List (List AV)) : Int := l.foldl mxF 0
theorem mxL_step {l : List (List AV)} {i : Nat} (h : i < l.length) : mxL (l.take (i + 1)) = mxF (mxL (l.take i)) (l.getD i []) := by
  unfold mxL
  rw [Gv.take_step [] h, List.foldl_append]
  rfl
theorem mx_ge : ∀ (l : List (List AV)) (q : Int), q ≤ l.foldl mxF q ∧ ∀ x ∈ l, cN x ≤ l.foldl mxF q := by
  intro l
  induction l with
  | nil => intro q; exact ⟨Int.le_refl _, fun x hx => by cases hx⟩
  | cons y l ih =>
    intro q
    obtain ⟨h1, h2⟩ := ih (mxF q y)
    have h3 : q ≤ mxF q y ∧ cN y ≤ mxF q y := by unfold mxF; split <;> omega
    simp only [List.foldl_cons]
    refine ⟨by omega, fun x hx => ?_⟩
    rcases List.mem_cons.1 hx with h | h
    · subst h; omega
    · exact h2 x h
theorem mx_le : ∀ (l : List (List AV)) (q : Int), q ≤ 65536 → (∀ x ∈ l, cN x ≤ 65536) → l.foldl mxF q ≤ 65536 := by
  intro l
  induction l with
  | nil => intro q h _; exact h
  | cons y l ih =>
    intro q h h'
    simp only [List.foldl_cons]
    refine ih _ ?_ fun x hx => h' x (List.mem_cons_of_mem _ hx)
    have := h' y List.mem_cons_self
    unfold mxF
    split <;> omega
theorem ends5_6 {ws cs : List (List AV)} {since : Int} (hw : ∀ x ∈ ws, 1 ≤ wN x ∧ wN x ≤ 16) (hl : ws.length ≤ 100) :
    Ends (g5_6 (ws, cs, since, 0)) (n5_6 (ws, cs, since, 0)) ((0 : Int), []) ((ws.length : Int), ws.map tOf) := by
  have h := Ends.count (go := g5_6 (ws, cs, since, 0)) (next := n5_6 (ws, cs, since, 0)) ws.length (fun i => ((i : Int), (ws.take i).map tOf)) (fun i hi => ?_) ?_
  · simpa using h
  · have d1 : decide ((i : Int) < (ws.length : Int)) = true := decide_eq_true (by omega)
    have d2 : decide ((0 : Int) ≤ (i : Int)) = true := decide_eq_true (by omega)
    have hx : ws.getD i [] ∈ ws := by simp [List.getD, hi]
    obtain ⟨n1, n2⟩ := new_ok (hw _ hx)
    have hlen : ((ws.take i).map tOf).length = i := by simp; omega
    refine ⟨?_, ?_⟩
    · unfold g5_6 go5_6
      dsimp only
      rw [Int.toNat_natCast, d1, d2, hlen, decide_eq_true (show (i + 1) * 32 ≤ 140737488355328 by omega), decide_eq_true (show i + 1 ≤ 9223372036854775807 by omega)]
      unfold wN at n2
      rw [n2]
      rfl
    · unfold n5_6
      dsimp only
      unfold nx5_6_4 nx5_6_5
      rw [Int.toNat_natCast, wrapN i ws.length hi (by omega), Gv.take_step [] hi, List.map_append]
      unfold wN at n1
      rw [n1]
      rfl
  · unfold g5_6 go5_6
    dsimp only
    rw [decide_eq_false (by omega)]
    rfl
theorem ends5_14 {cs L : List (List AV)} {since : Int} (hs : 0 ≤ since ∧ since ≤ 255) (hl : cs.length ≤ 100) :
    Ends (g5_14 (cs, since, L)) (n5_14 (cs, since, L)) ((0 : Int), (0 : Int), [], []) (mxL cs, (cs.length : Int), cs.map cRow, (cs.take (min since.toNat cs.length)).map cRow) := by
  have h := Ends.count (go := g5_14 (cs, since, L)) (next := n5_14 (cs, since, L)) cs.length (fun i => (mxL (cs.take i), (i : Int), (cs.take i).map cRow, (cs.take (min since.toNat i)).map cRow)) (fun i hi => ?_) ?_
  · simpa [mxL] using h
  · have d1 : decide ((i : Int) < (cs.length : Int)) = true := decide_eq_true (by omega)
    have d2 : decide ((0 : Int) ≤ (i : Int)) = true := decide_eq_true (by omega)
    have hlen : ((cs.take i).map cRow).length = i := by simp; omega
    have hlen2 : ((cs.take (min since.toNat i)).map cRow).length ≤ i := by simp; omega
    generalize hF : (cs.take (min since.toNat i)).map cRow = F at hlen2
    refine ⟨?_, ?_⟩
    · unfold g5_14 go5_14
      dsimp only
      rw [d1, d2, hlen, decide_eq_true (show (i + 1) * 8 ≤ 140737488355328 by omega), decide_eq_true (show i + 1 ≤ 9223372036854775807 by omega), decide_eq_true (show (F.length + 1) * 8 ≤ 140737488355328 by omega), decide_eq_true (show F.length + 1 ≤ 9223372036854775807 by omega)]
      simp only [cond_true, Bool.and_self, Bool.cond_self]
    · unfold n5_14
      dsimp only
      unfold nx5_14_2 nx5_14_3 nx5_14_5 nx5_14_6
      rw [Int.toNat_natCast, wrapN i cs.length hi (by omega), wrapOf since (by omega) (by omega), mxL_step hi, Gv.take_step [] hi, List.map_append]
      have e4 : (bif decide ((i : Int) < since) then F ++ [[AV.int IntKind.i64 (cN (cs.getD i []))]] else F) = (cs.take (min since.toNat (i + 1))).map cRow := by
        by_cases hc : (i : Int) < since
        · rw [decide_eq_true hc, cond_true, show min since.toNat (i + 1) = i + 1 by omega, Gv.take_step [] hi, List.map_append, ← hF, show min since.toNat i = i by omega]
          rfl
        · rw [decide_eq_false hc, cond_false, show min since.toNat (i + 1) = since.toNat by omega, ← hF, show min since.toNat i = since.toNat by omega]
      rw [← e4]
      rfl
  · unfold g5_14 go5_14
    dsimp only
    rw [decide_eq_false (by omega)]
    rfl
theorem eT0 {w s f k : Int} : intOf ((eT w s f k).getD 0 AV.junk) = w := rfl
theorem eT1 {w s f k : Int} : intOf ((eT w s f k).getD (0 + 1) AV.junk) = s := rfl
theorem eT2 {w s f k : Int} : intOf ((eT w s f k).getD (0 + 1 + 1) AV.junk) = f := rfl
theorem eT3 {w s f k : Int} : intOf ((eT w s f k).getD (0 + 1 + 1 + 1) AV.junk) = k := rfl
section
variable {n : Nat} {W K1 K2 : Nat → Int} {q : Int} {was now L : List (List AV)}
/-- What is known of two times. -/
structure Two (n : Nat) (W K1 K2 : Nat → Int) (q : Int) (was now : List (List AV)) : Prop where
  hW : ∀ i, 1 ≤ W i ∧ W i ≤ 16
  hq : 0 ≤ q ∧ q ≤ 65536
  g1 : Good n W 0 K1 was
  g2 : Good n W 0 K2 now
  t1 : Tight n W q K1
  t2 : Tight n W q K2
  k1 : ∀ i, 0 ≤ K1 i ∧ K1 i ≤ K2 i
  k2 : ∀ i, K2 i ≤ 5242880
  hn : n ≤ 100
theorem pair_ok (h : Two n W K1 K2 q was now) {i k : Nat} (hi : i < n) (hk : k < i) : go5_29 q was now (i : Int) (k : Int) L = true := by
  obtain ⟨f1, e1, _, _⟩ := h.g1.el i hi
  obtain ⟨f2, e2, _, _⟩ := h.g1.el k (by omega)
  obtain ⟨f3, e3, f31, f32⟩ := h.g2.el i hi
  obtain ⟨f4, e4, f41, f42⟩ := h.g2.el k (by omega)
  have l1 := h.g1.len
  have l2 := h.g2.len
  have d0 : decide ((k : Int) < (i : Int)) = true := decide_eq_true (by omega)
  have d1 : decide ((0 : Int) ≤ (i : Int)) = true := decide_eq_true (by omega)
  have d2 : decide ((0 : Int) ≤ (k : Int)) = true := decide_eq_true (by omega)
  have d3 : decide ((i : Int) < (now.length : Int)) = true := decide_eq_true (by omega)
  have d4 : decide ((k : Int) < (now.length : Int)) = true := decide_eq_true (by omega)
  have d5 : decide ((i : Int) < (was.length : Int)) = true := decide_eq_true (by omega)
  have d6 : decide ((k : Int) < (was.length : Int)) = true := decide_eq_true (by omega)
  obtain ⟨c1, c2⟩ := charge_of (h.hW i) (c := q) h.hq
  obtain ⟨c3, c4⟩ := charge_of (h.hW k) (c := q) h.hq
  have wi := h.hW i
  have wk := h.hW k
  obtain ⟨p1, p2, p3⟩ := Cw_spec wi
  obtain ⟨p4, p5, p6⟩ := Cw_spec wk
  have a1 := h.t1 i k hi (by omega)
  have a2 := h.t1 k i (by omega) hi
  have a3 := h.t2 i k hi (by omega)
  have a4 := h.t2 k i (by omega) hi
  have k1i := h.k1 i
  have k1k := h.k1 k
  have k2i := h.k2 i
  have k2k := h.k2 k
  have b1 := prod_bound (k := K2 i) (M := 5242880) (by omega) (by omega) ⟨p2, p3⟩
  have b2 := prod_bound (k := K2 k) (M := 5242880) (by omega) (by omega) ⟨p5, p6⟩
  have m1 : (K2 i - K1 i) * W k - (K2 k - K1 k) * W i ≤ q * (W i + W k) := by
    refine weigh_of p1 p4 (by omega) (by omega) ?_
    rw [Int.sub_mul, Int.sub_mul]
    omega
  have m2 : (K2 k - K1 k) * W i - (K2 i - K1 i) * W k ≤ q * (W i + W k) := by
    rw [Int.add_comm (W i) (W k)]
    refine weigh_of p4 p1 (by omega) (by omega) ?_
    rw [Int.sub_mul, Int.sub_mul]
    omega
  have hn : vev26_0 (W i) (0 + K2 i * Cw (W i)) f3 (K2 i) (W k) (0 + K2 k * Cw (W k)) f4 (K2 k) (K1 i) (K1 k) q = true :=
    near_of ⟨wi, by omega, by omega, by omega⟩ ⟨wk, by omega, by omega, by omega⟩ k1i k1k h.hq k2i k2k m1 m2
  have nn : ((0 : Int) != 0) = false := rfl
  have s1 : decide (IntKind.i64.wrap (0 + K2 i * Cw (W i) - (0 + K2 k * Cw (W k))) > (if if true = true then q * Cw (W i) < q * Cw (W k) else q * Cw (W k) < q * Cw (W i) then q * Cw (W k) else q * Cw (W i))) = false := by
    rw [wrapOf _ (by omega) (by omega)]
    simp only [if_true]
    rw [decide_eq_false]
    split <;> omega
  have s2 : decide (IntKind.i64.wrap (0 + K2 k * Cw (W k) - (0 + K2 i * Cw (W i))) > (if if true = true then q * Cw (W i) < q * Cw (W k) else q * Cw (W k) < q * Cw (W i) then q * Cw (W k) else q * Cw (W i))) = false := by
    rw [wrapOf _ (by omega) (by omega)]
    simp only [if_true]
    rw [decide_eq_false]
    split <;> omega
  unfold go5_29
  rw [Int.toNat_natCast, Int.toNat_natCast, e1, e2, e3, e4, eT0, eT0, eT1, eT1, eT2, eT2, eT3, eT3, eT3, eT3, d0, d1, d2, d3, d4, d5, d6, t9_2, t9_2, c1, c2, c3, c4, hn, nn, s1, s2]
  rfl
theorem ends5_29 (h : Two n W K1 K2 q was now) {i : Nat} (hi : i < n) : Ends (g5_29 (q, was, now, (i : Int), L)) (n5_29 (q, was, now, (i : Int), L)) (0 : Int) (i : Int) := by
  refine Ends.count (go := g5_29 (q, was, now, (i : Int), L)) (next := n5_29 (q, was, now, (i : Int), L)) i (fun k => (k : Int)) (fun k hk => ⟨pair_ok h hi hk, ?_⟩) ?_
  · unfold n5_29 nx5_29_4
    exact wrapN k n (by omega) (by have := h.hn; omega)
  · unfold g5_29 go5_29
    dsimp only
    rw [decide_eq_false (by omega)]
    rfl
theorem xc29 {i : Int} : xc5_29_0 q was now i i L = false := by
  unfold xc5_29_0
  rw [decide_eq_false (by omega)]
  rfl
theorem ends5_26 (h : Two n W K1 K2 q was now) (hl : L.length = n) : Ends (g5_26 (q, was, now, L)) (n5_26 (q, was, now, L)) (0 : Int) (n : Int) := by
  refine Ends.count (go := g5_26 (q, was, now, L)) (next := n5_26 (q, was, now, L)) n (fun k => (k : Int)) (fun k hk => ⟨?_, ?_⟩) ?_
  · have hf := (ends5_29 (L := L) h hk).fin
    unfold g5_26 go5_26
    simp only [spI]
    rw [hf.2, hf.1, hl, decide_eq_true (show (k : Int) < (n : Int) by omega), xc29]
    unfold y5_29 z5_29 xc5_29_1
    dsimp only
    rw [decide_eq_false (show ¬ ((k : Int) < (k : Int)) by omega), xc29]
    rfl
  · unfold n5_26 nx5_26_3
    exact wrapN k n (by omega) (by have := h.hn; omega)
  · unfold g5_26 go5_26
    dsimp only
    rw [hl, decide_eq_false (by omega)]
    rfl
theorem xc26 (hl : L.length = n) : xc5_26_0 q was now (n : Int) L = false := by
  unfold xc5_26_0
  rw [hl, decide_eq_false (by omega)]
  rfl
end
theorem runW18_len : ∀ (cs es : List (List AV)), (runW18 es cs).length = cs.length := by
  intro cs
  induction cs with
  | nil => intro es; rfl
  | cons c cs ih => intro es; simp only [runW18, List.length_cons]; rw [ih]
theorem runE18_len : ∀ (cs es : List (List AV)), (runE18 es cs).length = es.length := by
  intro cs
  induction cs with
  | nil => intro es; rfl
  | cons c cs ih => intro es; simp only [runE18]; rw [ih, stepE18_len]
section
variable {ws cs : List (List AV)} {since : Int}
def wAt (ws : List (List AV)) (i : Nat) : Int := if i < ws.length then wN (ws.getD i []) else 1
theorem good0 (hw : ∀ x ∈ ws, 1 ≤ wN x ∧ wN x ≤ 16) : Good ws.length (wAt ws) 0 (fun _ => 0) (ws.map tOf) := by
  refine ⟨by simp, fun i hi => ⟨0, ?_, by omega, by omega⟩⟩
  unfold wAt
  rw [if_pos hi]
  simp [List.getD, hi, tOf]
theorem wAt_ok (hw : ∀ x ∈ ws, 1 ≤ wN x ∧ wN x ≤ 16) : ∀ i, 1 ≤ wAt ws i ∧ wAt ws i ≤ 16 := by
  intro i
  unfold wAt
  split
  · rename_i hi
    exact hw _ (by simp [List.getD, hi])
  · omega
theorem two5 (hw : ∀ x ∈ ws, 1 ≤ wN x ∧ wN x ≤ 16) (hc : ∀ x ∈ cs, 1 ≤ cN x ∧ cN x ≤ 65536) (h1 : 2 ≤ ws.length) (h2 : ws.length ≤ 8) (h3 : cs.length ≤ 80) (s : Nat) :
    ∃ K1 K2, Two ws.length (wAt ws) K1 K2 (mxL cs) (runE18 (ws.map tOf) ((cs.take s).map cRow)) (runE18 (ws.map tOf) (cs.map cRow)) := by
  have hW := wAt_ok hw
  have hg := good0 hw
  have hm := mx_ge cs 0
  have hm2 : mxL cs ≤ 65536 := mx_le cs 0 (by omega) fun x hx => (hc x hx).2
  have hm1 : 0 ≤ mxL cs := hm.1
  have hT0 : Tight ws.length (wAt ws) (mxL cs) (fun _ => 0) := by
    intro i j _ _
    have := Cw_spec (hW i)
    have : 0 ≤ mxL cs * Cw (wAt ws i) := Int.mul_nonneg hm1 (by omega)
    simp only [Int.zero_mul]
    omega
  have hcr : ∀ (l : List (List AV)), (∀ x ∈ l, x ∈ cs) → ∀ x ∈ l.map cRow, 1 ≤ gT x 0 ∧ gT x 0 ≤ mxL cs := by
    intro l hl x hx
    obtain ⟨y, hy, rfl⟩ := List.mem_map.1 hx
    have hy' := hl y hy
    exact ⟨(hc y hy').1, hm.2 y hy'⟩
  have e0 : ((cs.take s).map cRow).length ≤ 80 := by simp; omega
  have e1 : ((cs.take s).map cRow).length + ((cs.drop s).map cRow).length = cs.length := by simp; omega
  obtain ⟨ts, _, _, _, _, g1, _, t1, b1⟩ := run_good (b := 0) (b' := 0) (by omega) hW (by omega) (by omega) hm2 ((cs.take s).map cRow) (fun _ => 0) 0 _ _ (hcr _ fun x hx => List.mem_of_mem_take hx) (fun i => by omega) (by omega) hT0 hg hg
  obtain ⟨ts2, _, _, _, _, g2, _, t2, b2⟩ := run_good (b := 0) (b' := 0) (by omega) hW (by omega) (by omega) hm2 ((cs.drop s).map cRow) (trail (fun _ => 0) ts ((cs.take s).map cRow)) (0 + ((cs.take s).map cRow).length * 65536) _ _ (hcr _ fun x hx => List.mem_of_mem_drop hx) (fun i => (b1 i).1) (by omega) t1 g1 g1
  refine ⟨_, _, hW, ⟨hm1, hm2⟩, g1, ?_, t1, t2, fun i => ⟨(b1 i).1.1, (b2 i).2⟩, fun i => ?_, by omega⟩
  · rw [← runE18_append, ← List.map_append, List.take_append_drop] at g2
    exact g2
  · have := (b2 i).1.2
    omega
theorem guard5 : (bif decide ((↑ws.length : Int) > (8 : Int)) then true else bif decide ((↑ws.length : Int) < (2 : Int)) then true else decide ((↑cs.length : Int) > (80 : Int))) = false → 2 ≤ ws.length ∧ ws.length ≤ 8 ∧ cs.length ≤ 80 := by
  intro h
  by_cases h1 : (↑ws.length : Int) > 8
  · rw [decide_eq_true h1] at h; cases h
  · rw [decide_eq_false h1, cond_false] at h
    by_cases h2 : (↑ws.length : Int) < 2
    · rw [decide_eq_true h2] at h; cases h
    · rw [decide_eq_false h2, cond_false, decide_eq_false_iff_not] at h
      omega
theorem nne (n : Nat) : ((n : Int) != (n : Int)) = false := by simp
theorem e5 (hw : ∀ x ∈ ws, 1 ≤ wN x ∧ wN x ≤ 16) (hc : ∀ x ∈ cs, 1 ≤ cN x ∧ cN x ≤ 65536) (hs : 0 ≤ since ∧ since ≤ 255) : vev5_0 ws cs since = true ∧ vev5_1 ws cs since = true := by
  unfold vev5_0 vev5_1
  cases hb : (bif decide ((↑ws.length : Int) > (8 : Int)) then true else bif decide ((↑ws.length : Int) < (2 : Int)) then true else decide ((↑cs.length : Int) > (80 : Int))) with
  | true =>
    rw [cond_true, cond_true]
    exact ⟨by kernel_rfl, rfl⟩
  | false =>
    obtain ⟨h1, h2, h3⟩ := guard5 hb
    rw [cond_false, cond_false]
    have f6 := (ends5_6 (cs := cs) (since := since) hw (by omega)).fin
    have f14 := (ends5_14 (L := ws.map tOf) hs (show cs.length ≤ 100 by omega)).fin
    have hr1 := r18t (t1 := Tk.lent) (t2 := Tk.lent) (es := ws.map tOf) (cs := (cs.take (min since.toNat cs.length)).map cRow) (by simp; omega) (by simp; omega)
    have hr2 := r18t (t1 := Tk.lent) (t2 := Tk.lent) (es := ws.map tOf) (cs := cs.map cRow) (by simp; omega) (by simp; omega)
    obtain ⟨K1, K2, h⟩ := two5 hw hc h1 h2 h3 (min since.toNat cs.length)
    have f26 := (ends5_26 (L := ws.map tOf) h (by simp)).fin
    have x6 : xc5_6_0 ws cs since 0 (ws.length : Int) (ws.map tOf) = false := by
      unfold xc5_6_0
      rw [decide_eq_false (by omega)]
      rfl
    have x26 := xc26 (n := ws.length) (L := ws.map tOf) (q := mxL cs) (was := runE18 (ws.map tOf) ((cs.take (min since.toNat cs.length)).map cRow)) (now := runE18 (ws.map tOf) (cs.map cRow)) (by simp)
    rw [f6.2, f14.2]
    dsimp only
    rw [hr1.1, hr2.1, hr2.2.1, hr1.2.2, hr2.2.2, f26.2, x6, x26, runE18_len, runE18_len, runW18_len, nne, nne]
    refine ⟨?_, ?_⟩
    · simp only [cond_false]
      kernel_rfl
    · simp only [spI]
      rw [f6.2, f6.1, f14.2, f14.1, f26.2, f26.1]
      unfold z5_6 z5_14 z5_26 xc5_6_1 xc5_14_0 xc5_26_1
      dsimp only
      rw [decide_eq_false (show ¬ ((ws.length : Int) < (ws.length : Int)) by omega), decide_eq_false (show ¬ ((cs.length : Int) < (cs.length : Int)) by omega), decide_eq_false (show ¬ ((ws.length : Int) < ((ws.map tOf).length : Int)) by simp)]
      simp only [cond_true, cond_false, Bool.or_true, Bool.and_self, Bool.true_and]
theorem law5 (hw : ∀ x ∈ ws, okKL [.int .u8] x) (hc : ∀ x ∈ cs, okKL [.int .u16] x) (hs : (Lit.int .u8 since).wf = true) : FnOK Try.prog 5 [.sl .imm [.int .u8] ws, .sl .imm [.int .u16] cs, .int .u8 since] [] (.bool true) [] := by
  have hs' : 0 ≤ since ∧ since ≤ 255 := by
    have h2 : (decide (0 ≤ since) && decide (since ≤ 255)) = true := hs
    simpa using h2
  obtain ⟨h0, h1⟩ := e5 (fun x hx => wN_ok (hw x hx)) (fun x hx => cN_ok (hc x hx)) hs'
  have he := ev5 ws cs since
  rw [h1, h0, cond_true] at he
  exact (fn_ok mixed plain (gk_ok k18t_ok 30) Try.func5 loops5 he).2
end
end Go.Proofs.Gv
