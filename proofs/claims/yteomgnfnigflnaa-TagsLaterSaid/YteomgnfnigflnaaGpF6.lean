/-
The plain law of TagsLater: who begins later is served alike.
-/
import Derived.Test.YteomgnfnigflnaaGaF6
import Derived.Test.YteomgnfnigflnaaGpF5
namespace Go.Proofs.Gv
open Go.Proofs
set_option linter.unusedVariables false
def tOff (b : Int) (x : List AV) : List AV := eT (wN x) b 0 0
def sL (l : List (List AV)) (a : Int) : Int := l.foldl (fun s x => s + cN x) a
theorem sL_step {l : List (List AV)} {i : Nat} (h : i < l.length) : sL (l.take (i + 1)) 0 = sL (l.take i) 0 + cN (l.getD i []) := by
  unfold sL
  rw [Gv.take_step [] h, List.foldl_append]
  rfl
theorem sL_bound : ∀ (l : List (List AV)) (a : Int), (∀ x ∈ l, 1 ≤ cN x ∧ cN x ≤ 65536) → a ≤ sL l a ∧ sL l a ≤ a + l.length * 65536 := by
  intro l
  induction l with
  | nil => intro a _; simp [sL]
  | cons x l ih =>
    intro a h
    have h1 := h x List.mem_cons_self
    have h2 := ih (a + cN x) fun y hy => h y (List.mem_cons_of_mem _ hy)
    have e : sL (x :: l) a = sL l (a + cN x) := rfl
    rw [e, List.length_cons]
    omega
section
variable {ws cs : List (List AV)} {off : Int}
theorem ends6_5 (hw : ∀ x ∈ ws, 1 ≤ wN x ∧ wN x ≤ 16) (hl : ws.length ≤ 100) (ho : 0 ≤ off ∧ off ≤ 4294967295) :
    Ends (g6_5 (ws, cs, off)) (n6_5 (ws, cs, off)) ((0 : Int), [], []) ((ws.length : Int), ws.map tOf, ws.map (tOff off)) := by
  have h := Ends.count (go := g6_5 (ws, cs, off)) (next := n6_5 (ws, cs, off)) ws.length (fun i => ((i : Int), (ws.take i).map tOf, (ws.take i).map (tOff off))) (fun i hi => ?_) ?_
  · simpa using h
  · have d1 : decide ((i : Int) < (ws.length : Int)) = true := decide_eq_true (by omega)
    have d2 : decide ((0 : Int) ≤ (i : Int)) = true := decide_eq_true (by omega)
    have hx : ws.getD i [] ∈ ws := by simp [List.getD, hi]
    obtain ⟨n1, n2⟩ := new_ok (hw _ hx)
    have hlen : ((ws.take i).map tOf).length = i := by simp; omega
    have hlen2 : ((ws.take i).map (tOff off)).length = i := by simp; omega
    refine ⟨?_, ?_⟩
    · unfold g6_5 go6_5
      dsimp only
      rw [Int.toNat_natCast, d1, d2, hlen, hlen2, decide_eq_true (show (i + 1) * 32 ≤ 140737488355328 by omega), decide_eq_true (show i + 1 ≤ 9223372036854775807 by omega)]
      unfold wN at n2
      rw [n2]
      rfl
    · unfold n6_5
      dsimp only
      unfold nx6_5_3 nx6_5_4 nx6_5_5
      rw [Int.toNat_natCast, wrapN i ws.length hi (by omega), Gv.take_step [] hi, List.map_append, List.map_append, wrapOf off (by omega) (by omega)]
      unfold wN at n1
      rw [n1]
      rfl
  · unfold g6_5 go6_5
    dsimp only
    rw [decide_eq_false (by omega)]
    rfl
theorem ends6_16 {a b : List (List AV)} (hl : cs.length ≤ 100) :
    Ends (g6_16 (cs, off, a, b)) (n6_16 (cs, off, a, b)) ((0 : Int), (0 : Int), []) (mxL cs, (cs.length : Int), cs.map cRow) := by
  have h := Ends.count (go := g6_16 (cs, off, a, b)) (next := n6_16 (cs, off, a, b)) cs.length (fun i => (mxL (cs.take i), (i : Int), (cs.take i).map cRow)) (fun i hi => ?_) ?_
  · simpa [mxL] using h
  · have d1 : decide ((i : Int) < (cs.length : Int)) = true := decide_eq_true (by omega)
    have d2 : decide ((0 : Int) ≤ (i : Int)) = true := decide_eq_true (by omega)
    have hlen : ((cs.take i).map cRow).length = i := by simp; omega
    refine ⟨?_, ?_⟩
    · unfold g6_16 go6_16
      dsimp only
      rw [d1, d2, hlen, decide_eq_true (show (i + 1) * 8 ≤ 140737488355328 by omega), decide_eq_true (show i + 1 ≤ 9223372036854775807 by omega)]
      rfl
    · unfold n6_16
      dsimp only
      unfold nx6_16_2 nx6_16_3 nx6_16_4
      rw [Int.toNat_natCast, wrapN i cs.length hi (by omega), mxL_step hi, Gv.take_step [] hi, List.map_append]
      rfl
  · unfold g6_16 go6_16
    dsimp only
    rw [decide_eq_false (by omega)]
    rfl
end
section
variable {off most : Int} {x y z : List (List AV)} {who alone : List (List AV)} {cs : List (List AV)} {n : Nat} {W K : Nat → Int} {q sum : Int}
theorem ends6_27 (hc : ∀ x ∈ cs, 1 ≤ cN x ∧ cN x ≤ 65536) (hl : cs.length ≤ 100) (hw : who.length = cs.length) (ha : alone.length = cs.length) (h0 : ∀ i, i < cs.length → intOf ((alone.getD i []).getD 0 AV.junk) = 0) :
    Ends (g6_27 (off, most, x, who, y, who, z, alone, cs.map cRow)) (n6_27 (off, most, x, who, y, who, z, alone, cs.map cRow)) ((0 : Int), (0 : Int)) (sL cs 0, (cs.length : Int)) := by
  have h := Ends.count (go := g6_27 (off, most, x, who, y, who, z, alone, cs.map cRow)) (next := n6_27 (off, most, x, who, y, who, z, alone, cs.map cRow)) cs.length (fun i => (sL (cs.take i) 0, (i : Int))) (fun i hi => ?_) ?_
  · simpa [sL] using h
  · have d1 : decide ((i : Int) < (cs.length : Int)) = true := decide_eq_true (by omega)
    have d2 : decide ((0 : Int) ≤ (i : Int)) = true := decide_eq_true (by omega)
    have hb := sL_bound (cs.take i) 0 fun x hx => hc x (List.mem_of_mem_take hx)
    have hx : cs.getD i [] ∈ cs := by simp [List.getD, hi]
    have hcx := hc _ hx
    have hr : (cs.map cRow).getD i [] = cRow (cs.getD i []) := by simp [List.getD, hi]
    have hlt : (cs.take i).length = i := by simp; omega
    refine ⟨?_, ?_⟩
    · unfold g6_27 go6_27
      dsimp only
      rw [Int.toNat_natCast, List.length_map, hw, ha, d1, d2, h0 i hi]
      simp only [bne_self_eq_false, cond_true, cond_false, Bool.and_self]
    · unfold n6_27
      dsimp only
      unfold nx6_27_8 nx6_27_9
      rw [Int.toNat_natCast, wrapN i cs.length hi (by omega), hr, sL_step hi]
      have e : intOf ((cRow (cs.getD i [])).getD 0 AV.junk) = cN (cs.getD i []) := rfl
      rw [e, wrapOf _ (by omega) (by omega)]
  · unfold g6_27 go6_27
    dsimp only
    rw [List.length_map, decide_eq_false (by omega)]
    rfl
theorem xc27 : xc6_27_0 off most x who y who z alone sum (cs.length : Int) (cs.map cRow) = false := by
  unfold xc6_27_0
  rw [List.length_map, decide_eq_false (by omega)]
  rfl
/-- What is known of the runs. -/
structure Late (n : Nat) (W K : Nat → Int) (off q : Int) (x y : List (List AV)) : Prop where
  hn : n ≤ 100
  hW : ∀ i, 1 ≤ W i ∧ W i ≤ 16
  hq : 0 ≤ q ∧ q ≤ 65536
  ho : 0 ≤ off ∧ off ≤ 4294967295
  g1 : Good n W 0 K x
  g2 : Good n W off K y
  t1 : Tight n W q K
  k1 : ∀ i, 0 ≤ K i ∧ K i ≤ 5242880
theorem heavy {w1 w2 k1 k2 C1 C2 : Int} (e1 : w1 * C1 = 720720) (e2 : w2 * C2 = 720720) (h1 : 1 ≤ w1) (h2 : 1 ≤ w2) (hC : 0 ≤ C1) (hw : w2 ≤ w1) (hk : 0 ≤ k1) (h : k2 * C2 - k1 * C1 ≤ q * C2) : k2 ≤ k1 + q := by
  have h3 := Int.mul_le_mul_of_nonneg_left h (show 0 ≤ w2 by omega)
  have a1 : w2 * (k2 * C2 - k1 * C1) = k2 * (w2 * C2) - k1 * (w2 * C1) := by grind
  have a2 : w2 * (q * C2) = q * (w2 * C2) := by grind
  rw [a1, a2, e2] at h3
  have a3 : w2 * C1 ≤ 720720 := by rw [← e1]; exact Int.mul_le_mul_of_nonneg_right hw hC
  have a4 : k1 * (w2 * C1) ≤ k1 * 720720 := Int.mul_le_mul_of_nonneg_left a3 hk
  omega
theorem ends6_38 (h : Late n W K off most x y) {i : Nat} (hi : i < n) : Ends (g6_38 (off, most, x, y, z, sum, (i : Int))) (n6_38 (off, most, x, y, z, sum, (i : Int))) (0 : Int) (n : Int) := by
  have l1 := h.g1.len
  refine Ends.count (go := g6_38 (off, most, x, y, z, sum, (i : Int))) (next := n6_38 (off, most, x, y, z, sum, (i : Int))) n (fun k => (k : Int)) (fun k hk => ⟨?_, ?_⟩) ?_
  · obtain ⟨f1, e1, _, _⟩ := h.g1.el i hi
    obtain ⟨f2, e2, _, _⟩ := h.g1.el k hk
    have d1 : decide ((i : Int) < (x.length : Int)) = true := decide_eq_true (by omega)
    have d2 : decide ((0 : Int) ≤ (i : Int)) = true := decide_eq_true (by omega)
    have d3 : decide ((k : Int) < (x.length : Int)) = true := decide_eq_true (by omega)
    have d4 : decide ((0 : Int) ≤ (k : Int)) = true := decide_eq_true (by omega)
    have wi := h.hW i
    have wk := h.hW k
    have ci := Cw_spec wi
    have ck := Cw_spec wk
    have ki := h.k1 i
    have kk := h.k1 k
    have hq := h.hq
    have ht := h.t1 k i hk hi
    unfold g6_38 go6_38
    dsimp only
    rw [Int.toNat_natCast, Int.toNat_natCast, e1, e2, eT0, eT0, eT3, eT3, d1, d2, d3, d4, wrapOf (2 * most) (by omega) (by omega), wrapOf (K i + 2 * most) (by omega) (by omega)]
    by_cases hc : W i ≥ W k
    · have := heavy (q := most) ci.1 ck.1 (by omega) (by omega) (by omega) hc ki.1 ht
      rw [decide_eq_true hc, decide_eq_false (show ¬ (K i + 2 * most < K k) by omega)]
      rfl
    · rw [decide_eq_false hc]
      rfl
  · unfold n6_38 nx6_38_7
    exact wrapN k n hk (by have := h.hn; omega)
  · unfold g6_38 go6_38
    dsimp only
    rw [decide_eq_false (by omega)]
    rfl
theorem xc38 (h : Late n W K off most x y) {i : Int} : xc6_38_0 off most x y z sum i (n : Int) = false := by
  have l1 := h.g1.len
  unfold xc6_38_0
  rw [decide_eq_false (by omega)]
  rfl
theorem ends6_33 (h : Late n W K off most x y) : Ends (g6_33 (off, most, x, y, z, sum)) (n6_33 (off, most, x, y, z, sum)) (0 : Int) (n : Int) := by
  have l1 := h.g1.len
  have l2 := h.g2.len
  refine Ends.count (go := g6_33 (off, most, x, y, z, sum)) (next := n6_33 (off, most, x, y, z, sum)) n (fun k => (k : Int)) (fun i hi => ⟨?_, ?_⟩) ?_
  · obtain ⟨f1, e1, _, _⟩ := h.g1.el i hi
    obtain ⟨f2, e2, _, _⟩ := h.g2.el i hi
    have d1 : decide ((i : Int) < (x.length : Int)) = true := decide_eq_true (by omega)
    have d2 : decide ((0 : Int) ≤ (i : Int)) = true := decide_eq_true (by omega)
    have d3 : decide ((i : Int) < (y.length : Int)) = true := decide_eq_true (by omega)
    have ci := Cw_spec (h.hW i)
    have ki := h.k1 i
    have ho := h.ho
    have hb := prod_bound (k := K i) (M := 5242880) ki (by omega) ci.2
    have hf := (ends6_38 (z := z) (sum := sum) h hi).fin
    unfold g6_33 go6_33 rn6_33_0
    simp only [spI]
    rw [hf.1, hf.2, xc38 h, Int.toNat_natCast, e1, e2, eT1, eT1, eT3, eT3, d1, d2, d3, wrapOf off (by omega) (by omega), wrapOf (0 + K i * Cw (W i) + off) (by omega) (by omega), show 0 + K i * Cw (W i) + off = off + K i * Cw (W i) by omega]
    unfold z6_38 xc6_38_1
    dsimp only
    rw [decide_eq_false (show ¬ ((n : Int) < (x.length : Int)) by omega)]
    simp only [bne_self_eq_false, cond_true, cond_false, Bool.and_self, Bool.or_true]
  · unfold n6_33 nx6_33_6
    exact wrapN i n hi (by have := h.hn; omega)
  · unfold g6_33 go6_33
    dsimp only
    rw [decide_eq_false (by omega)]
    rfl
theorem xc33 (h : Late n W K off most x y) : xc6_33_0 off most x y z sum (n : Int) = false := by
  have l1 := h.g1.len
  unfold xc6_33_0
  rw [decide_eq_false (by omega)]
  rfl
end
theorem trail_zero : ∀ (ts : List Nat) (l : List (List AV)) (K : Nat → Int), (∀ t ∈ ts, t < 1) → ts.length = l.length → trail K ts (l.map cRow) 0 = sL l (K 0) := by
  intro ts
  induction ts with
  | nil => intro l K _ h; cases l with
    | nil => rfl
    | cons x l => cases h
  | cons t ts ih =>
    intro l K ht h
    cases l with
    | nil => cases h
    | cons x l =>
      have h0 : t = 0 := by have := ht t List.mem_cons_self; omega
      subst h0
      rw [List.map_cons, trail, ih l _ (fun t ht' => ht t (List.mem_cons_of_mem _ ht')) (by simpa using h)]
      rfl
section
variable {ws cs : List (List AV)} {off : Int}
theorem goodOff (off : Int) : Good ws.length (wAt ws) off (fun _ => 0) (ws.map (tOff off)) := by
  refine ⟨by simp, fun i hi => ⟨0, ?_, by omega, by omega⟩⟩
  unfold wAt
  rw [if_pos hi]
  simp [List.getD, hi, tOff]
theorem tight0 {n : Nat} {W : Nat → Int} {q : Int} (hW : ∀ i, 1 ≤ W i ∧ W i ≤ 16) (hq : 0 ≤ q) : Tight n W q (fun _ => 0) := by
  intro i j _ _
  have := Cw_spec (hW i)
  have : 0 ≤ q * Cw (W i) := Int.mul_nonneg hq (by omega)
  simp only [Int.zero_mul]
  omega
theorem late6 (hw : ∀ x ∈ ws, 1 ≤ wN x ∧ wN x ≤ 16) (hc : ∀ x ∈ cs, 1 ≤ cN x ∧ cN x ≤ 65536) (h1 : 1 ≤ ws.length) (h2 : ws.length ≤ 8) (h3 : cs.length ≤ 80) (ho : 0 ≤ off ∧ off ≤ 4294967295) :
    ∃ K ts, Late ws.length (wAt ws) K off (mxL cs) (runE18 (ws.map tOf) (cs.map cRow)) (runE18 (ws.map (tOff off)) (cs.map cRow)) ∧ ts.length = cs.length ∧ (∀ t ∈ ts, t < ws.length) ∧ K = trail (fun _ => 0) ts (cs.map cRow) ∧
      runW18 (ws.map tOf) (cs.map cRow) = ts.map (fun t : Nat => [AV.int .i64 (t : Int)]) ∧ runW18 (ws.map (tOff off)) (cs.map cRow) = ts.map (fun t : Nat => [AV.int .i64 (t : Int)]) := by
  have hW := wAt_ok hw
  have hm := mx_ge cs 0
  have hm2 : mxL cs ≤ 65536 := mx_le cs 0 (by omega) fun x hx => (hc x hx).2
  have hm1 : 0 ≤ mxL cs := hm.1
  have hcr : ∀ x ∈ cs.map cRow, 1 ≤ gT x 0 ∧ gT x 0 ≤ mxL cs := by
    intro x hx
    obtain ⟨y, hy, rfl⟩ := List.mem_map.1 hx
    exact ⟨(hc y hy).1, hm.2 y hy⟩
  obtain ⟨ts, i1, i2, i3, i4, g1, g2, t1, b1⟩ := run_good (b := 0) (b' := off) (by omega) hW (by omega) ho hm2 (cs.map cRow) (fun _ => 0) 0 _ _ hcr (fun i => by omega) (by simp; omega) (tight0 hW hm1) (good0 hw) (goodOff off)
  refine ⟨_, ts, ⟨by omega, hW, ⟨hm1, hm2⟩, ho, g1, g2, t1, fun i => ?_⟩, by simpa using i1, i2, rfl, i3, i4⟩
  have := (b1 i).1
  rw [List.length_map] at this
  omega
theorem guard6 : (bif decide ((↑ws.length : Int) < (2 : Int)) then true else bif decide ((↑ws.length : Int) > (6 : Int)) then true else decide ((↑cs.length : Int) > (60 : Int))) = false → 2 ≤ ws.length ∧ ws.length ≤ 6 ∧ cs.length ≤ 60 := by
  intro h
  by_cases h1 : (↑ws.length : Int) < 2
  · rw [decide_eq_true h1] at h; cases h
  · rw [decide_eq_false h1, cond_false] at h
    by_cases h2 : (↑ws.length : Int) > 6
    · rw [decide_eq_true h2] at h; cases h
    · rw [decide_eq_false h2, cond_false, decide_eq_false_iff_not] at h
      omega
theorem e6 (hw : ∀ x ∈ ws, 1 ≤ wN x ∧ wN x ≤ 16) (hc : ∀ x ∈ cs, 1 ≤ cN x ∧ cN x ≤ 65536) (ho : 0 ≤ off ∧ off ≤ 4294967295) : vev6_0 ws cs off = true ∧ vev6_1 ws cs off = true := by
  unfold vev6_0 vev6_1 rev6_3 rev6_2 rev6_1 rev6_0
  cases hb : (bif decide ((↑ws.length : Int) < (2 : Int)) then true else bif decide ((↑ws.length : Int) > (6 : Int)) then true else decide ((↑cs.length : Int) > (60 : Int))) with
  | true =>
    rw [cond_true, cond_true]
    exact ⟨by kernel_rfl, rfl⟩
  | false =>
    obtain ⟨h1, h2, h3⟩ := guard6 hb
    rw [cond_false, cond_false]
    obtain ⟨w0, ws', rfl⟩ : ∃ w0 ws', ws = w0 :: ws' := by
      cases ws with
      | nil => simp at h1
      | cons a l => exact ⟨a, l, rfl⟩
    have f5 := (ends6_5 (cs := cs) hw (by omega) ho).fin
    have f16 := (ends6_16 (off := off) (a := (w0 :: ws').map tOf) (b := (w0 :: ws').map (tOff off)) (show cs.length ≤ 100 by omega)).fin
    have ht1 : List.take (Int.toNat 1) (List.drop (nat_lit 0) ((w0 :: ws').map tOf)) = [w0].map tOf := rfl
    have hr1 := r18t (t1 := Tk.lent) (t2 := Tk.lent) (es := (w0 :: ws').map tOf) (cs := cs.map cRow) (by rw [List.length_map]; omega) (by rw [List.length_map]; omega)
    have hr2 := r18t (t1 := Tk.lent) (t2 := Tk.lent) (es := (w0 :: ws').map (tOff off)) (cs := cs.map cRow) (by rw [List.length_map]; omega) (by rw [List.length_map]; omega)
    have hr3 := r18t (t1 := Tk.lent) (t2 := Tk.lent) (es := [w0].map tOf) (cs := cs.map cRow) (by simp) (by rw [List.length_map]; omega)
    obtain ⟨K, ts, hL, i1, i2, _, i3, i4⟩ := late6 hw hc (by omega) (by omega) (by omega) ho
    obtain ⟨K', ts', hL', j1, j2, j5, j3, j4⟩ := late6 (ws := [w0]) (cs := cs) (off := 0) (fun x hx => hw x (by rw [List.mem_singleton] at hx; subst hx; exact List.mem_cons_self)) hc (by simp) (by simp) (by omega) (by omega)
    have z0 : ∀ i, i < cs.length → intOf (((runW18 ([w0].map tOf) (cs.map cRow)).getD i []).getD 0 AV.junk) = 0 := by
      intro i hi
      rw [j3]
      have hi' : i < ts'.length := by omega
      have : ts'[i] < 1 := by simpa using j2 _ (List.getElem_mem hi')
      simp [List.getD, hi']
      change (ts'[i] : Int) = 0
      omega
    have f27 := (ends6_27 (off := off) (most := mxL cs) (x := runE18 ((w0 :: ws').map tOf) (cs.map cRow)) (y := runE18 ((w0 :: ws').map (tOff off)) (cs.map cRow)) (z := runE18 ([w0].map tOf) (cs.map cRow)) (who := ts.map (fun t : Nat => [AV.int .i64 (t : Int)])) (alone := runW18 ([w0].map tOf) (cs.map cRow)) hc (by omega) (by rw [List.length_map, i1]) (by rw [runW18_len, List.length_map]) z0).fin
    have f33 := (ends6_33 (z := runE18 ([w0].map tOf) (cs.map cRow)) (sum := sL cs 0) hL).fin
    have x5 : xc6_5_0 (w0 :: ws') cs off ((w0 :: ws').length : Int) ((w0 :: ws').map tOf) ((w0 :: ws').map (tOff off)) = false := by
      unfold xc6_5_0
      rw [decide_eq_false (by omega)]
      rfl
    have x27 := xc27 (off := off) (most := mxL cs) (x := runE18 ((w0 :: ws').map tOf) (cs.map cRow)) (y := runE18 ((w0 :: ws').map (tOff off)) (cs.map cRow)) (z := runE18 ([w0].map tOf) (cs.map cRow)) (who := ts.map (fun t : Nat => [AV.int .i64 (t : Int)])) (alone := runW18 ([w0].map tOf) (cs.map cRow)) (cs := cs) (sum := sL cs 0)
    have x33 := xc33 (z := runE18 ([w0].map tOf) (cs.map cRow)) (sum := sL cs 0) hL
    have zs : intOf (((runE18 ([w0].map tOf) (cs.map cRow)).getD (Int.toNat 0) []).getD (0 + 1 + 1 + 1) AV.junk) = sL cs 0 := by
      obtain ⟨f, hf, _⟩ := hL'.g1.el 0 (by simp)
      have e0 : Int.toNat 0 = 0 := rfl
      rw [e0, hf, eT3, j5, trail_zero ts' cs _ (by simpa using j2) j1]
    have zl : (runE18 ([w0].map tOf) (cs.map cRow)).length = 1 := by rw [runE18_len]; rfl
    rw [f5.2]
    try dsimp only
    rw [f16.2]
    try dsimp only
    rw [ht1, hr1.1, hr1.2.1, hr2.1, hr2.2.1, hr3.1, hr3.2.1, i3, i4, f27.2]
    try dsimp only
    rw [f33.2, x5, x27, x33, zs, hr1.2.2, hr2.2.2, hr3.2.2]
    simp only [List.length_map, runW18_len, runE18_len, i1, nne, List.length_singleton]
    refine ⟨?_, ?_⟩
    · simp only [cond_false, beq_self_eq_true]
      kernel_rfl
    · simp only [spI]
      rw [f5.2, f5.1]
      try dsimp only
      rw [f16.2, f16.1, f27.2, f27.1]
      try dsimp only
      rw [f33.2, f33.1]
      unfold z6_5 z6_16 z6_27 z6_33 xc6_5_1 xc6_16_0 xc6_27_1 xc6_33_1
      try dsimp only
      have l1 := hL.g1.len
      rw [decide_eq_false (show ¬ (((w0 :: ws').length : Int) < ((w0 :: ws').length : Int)) by omega), decide_eq_false (show ¬ ((cs.length : Int) < (cs.length : Int)) by omega), List.length_map, decide_eq_false (show ¬ ((cs.length : Int) < (cs.length : Int)) by omega), l1, decide_eq_false (show ¬ (((w0 :: ws').length : Int) < ((w0 :: ws').length : Int)) by omega)]
      simp only [cond_true, cond_false, Bool.or_true, Bool.and_self, Bool.true_and]
      unfold bnd
      rw [decide_eq_true (show (1 : Int) ≤ ((w0 :: ws').length : Int) by omega)]
      rfl
theorem law6 (hw : ∀ x ∈ ws, okKL [.int .u8] x) (hc : ∀ x ∈ cs, okKL [.int .u16] x) (hs : (Lit.int .u32 off).wf = true) : FnOK Try.prog 6 [.sl .imm [.int .u8] ws, .sl .imm [.int .u16] cs, .int .u32 off] [] (.bool true) [] := by
  have hs' : 0 ≤ off ∧ off ≤ 4294967295 := by
    have h2 : (decide (0 ≤ off) && decide (off ≤ 4294967295)) = true := hs
    simpa using h2
  obtain ⟨h0, h1⟩ := e6 (fun x hx => wN_ok (hw x hx)) (fun x hx => cN_ok (hc x hx)) hs'
  have he := ev6 ws cs off
  rw [h1, h0, cond_true] at he
  exact (fn_ok mixed plain (gk_ok k18t_ok 30) Try.func6 loops6 he).2
end
end Go.Proofs.Gv
