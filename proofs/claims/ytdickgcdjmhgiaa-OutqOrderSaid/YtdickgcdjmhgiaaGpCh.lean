/-
The plain law of OutqChanges: both sides put and take alike.
-/
import Derived.Test.YtdickgcdjmhgiaaGcChL
import Derived.Test.YtdickgcdjmhgiaaGpOutA
import Derived.Test.YtdickgcdjmhgiaaGwA
namespace Go.Proofs.Gv
open Go.Proofs
set_option linter.unusedVariables false
def FitS (es : List (List AV)) : Prop := ∀ x ∈ es, [.str (gS x)] = x
theorem sum_eq : ∀ (l : List (List AV)) (m : Int), 0 ≤ m → m + (sumN l : Int) ≤ 4611686018427387904 → sumW m l = m + (sumN l : Int) := by
  intro l
  induction l with
  | nil => intro m _ _; simp [sumW, sumN]
  | cons e l ih =>
    intro m h0 h
    simp only [sumN] at h
    have hw : IntKind.i64.wrap (m + ((gS e).length : Int)) = m + ((gS e).length : Int) := by rw [IntKind.wrap_i64]; omega
    simp only [sumW, sumN]
    rw [hw, ih _ (by omega) (by omega)]
    omega
theorem sumN_le : ∀ (l : List (List AV)), bigS l = false → sumN l ≤ 70000 * l.length := by
  intro l
  induction l with
  | nil => intro _; exact Nat.le_refl _
  | cons e l ih =>
    intro hb
    unfold bigS at hb
    rw [List.any_cons, Bool.or_eq_false_iff, decide_eq_false_iff_not] at hb
    have := ih hb.2
    simp only [sumN, List.length_cons]
    omega
theorem empty_cons {e : List AV} {l : List (List AV)} (h : emptyS (e :: l) = false) : 1 ≤ (gS e).length ∧ emptyS l = false := by
  unfold emptyS at h
  rw [List.any_cons, Bool.or_eq_false_iff] at h
  refine ⟨?_, h.2⟩
  have h1 := h.1
  cases hg : gS e with
  | nil => rw [hg] at h1; cases h1
  | cons x l => simp
theorem full_tail : ∀ (l : List (List AV)) (n : Int) (o : Nat), (o : Int) = n → emptyS l = false → FitS l → rst12 n o l = l ∧ byt12 n o l = [] := by
  intro l
  induction l with
  | nil => intro n o _ _ _; exact ⟨rfl, rfl⟩
  | cons e l ih =>
    intro n o ho he hf
    obtain ⟨h1, h2⟩ := empty_cons he
    have hk : kN n o (gS e).length = 0 := by
      unfold kN
      have : (n - (o : Int)).toNat = 0 := by omega
      rw [this]
      exact Nat.min_eq_left (Nat.zero_le _)
    have hb : Nat.blt 0 (gS e).length = true := by simpa [Nat.blt] using h1
    obtain ⟨h3, h4⟩ := ih n o ho h2 fun x hx => hf x (List.mem_cons_of_mem _ hx)
    simp only [rst12, byt12, hk, hb, cond_true, Nat.add_zero, List.take_zero, List.nil_append, List.drop_zero, h3, h4]
    rw [hf e List.mem_cons_self]
    exact ⟨rfl, trivial⟩
theorem drainL : ∀ (l : List (List AV)) (n : Int) (o : Nat), (o : Int) ≤ n → n ≤ 9223372036854775807 → emptyS l = false → FitS l →
    cntD n o l ≤ l.length ∧ ((bytD n o l).length + o : Int) ≤ n ∧ (cntD n o l = l.length → byt12 n o l = bytD n o l ∧ rst12 n o l = []) ∧
    (cntD n o l < l.length → (n - (o : Int) - ((bytD n o l).length : Int)) < ((gS (l.getD (cntD n o l) [])).length : Int) ∧
      byt12 n o l = bytD n o l ++ (gS (l.getD (cntD n o l) [])).take (n - (o : Int) - ((bytD n o l).length : Int)).toNat ∧
      rst12 n o l = [.str ((gS (l.getD (cntD n o l) [])).drop (n - (o : Int) - ((bytD n o l).length : Int)).toNat)] :: l.drop (cntD n o l + 1)) := by
  intro l
  induction l with
  | nil =>
    intro n o h1 h2 _ _
    refine ⟨Nat.le_refl _, by simp [bytD]; exact h1, fun _ => ⟨rfl, rfl⟩, fun h => absurd h (Nat.lt_irrefl _)⟩
  | cons e l ih =>
    intro n o h1 h2 he hf
    obtain ⟨g1, g2⟩ := empty_cons he
    have hw : IntKind.i64.wrap (n - (o : Int)) = n - (o : Int) := by rw [IntKind.wrap_i64]; omega
    have hf' : FitS l := fun x hx => hf x (List.mem_cons_of_mem _ hx)
    by_cases hc : ((gS e).length : Int) > n - (o : Int)
    · have hc0 : cntD n o (e :: l) = 0 := by simp only [cntD, hw, decide_eq_true hc, cond_true]
      have hb0 : bytD n o (e :: l) = [] := by simp only [bytD, hw, decide_eq_true hc, cond_true]
      have hk : kN n o (gS e).length = (n - (o : Int)).toNat := Nat.min_eq_left (by omega)
      have hblt : Nat.blt (n - (o : Int)).toNat (gS e).length = true := by
        have : (n - (o : Int)).toNat + 1 ≤ (gS e).length := by omega
        simpa [Nat.blt] using this
      obtain ⟨t1, t2⟩ := full_tail l n (o + (n - (o : Int)).toNat) (by omega) g2 hf'
      rw [hc0, hb0]
      refine ⟨Nat.zero_le _, by simp; exact h1, fun h => by simp at h, fun _ => ?_⟩
      simp only [List.length_nil, byt12, rst12, hk, hblt, cond_true, t1, t2, List.append_nil, List.nil_append]
      have hz : (n - (o : Int) - ((0 : Nat) : Int)).toNat = (n - (o : Int)).toNat := by omega
      rw [hz]
      refine ⟨by simpa using hc, rfl, rfl⟩
    · have hc1 : cntD n o (e :: l) = cntD n (o + (gS e).length) l + 1 := by simp only [cntD, hw, decide_eq_false hc, cond_false]
      have hb1 : bytD n o (e :: l) = gS e ++ bytD n (o + (gS e).length) l := by simp only [bytD, hw, decide_eq_false hc, cond_false]
      have hk : kN n o (gS e).length = (gS e).length := Nat.min_eq_right (by omega)
      have hblt : Nat.blt (gS e).length (gS e).length = false := by
        cases hq : Nat.blt (gS e).length (gS e).length with
        | false => rfl
        | true =>
          have : (gS e).length + 1 ≤ (gS e).length := by simpa [Nat.blt] using hq
          omega
      obtain ⟨i1, i2, i3, i4⟩ := ih n (o + (gS e).length) (by omega) h2 g2 hf'
      rw [hc1, hb1]
      have hy : byt12 n o (e :: l) = gS e ++ byt12 n (o + (gS e).length) l := by simp only [byt12, hk, List.take_length]
      have hrr : rst12 n o (e :: l) = rst12 n (o + (gS e).length) l := by simp only [rst12, hk, hblt, cond_false]
      rw [hy, hrr, List.length_cons, List.length_append]
      have hidx : (e :: l).getD (cntD n (o + (gS e).length) l + 1) [] = l.getD (cntD n (o + (gS e).length) l) [] := by simp [List.getD]
      have harith : n - (o : Int) - (((gS e).length + (bytD n (o + (gS e).length) l).length : Nat) : Int) = n - ((o + (gS e).length : Nat) : Int) - ((bytD n (o + (gS e).length) l).length : Int) := by omega
      refine ⟨by omega, by omega, fun h => ?_, fun h => ?_⟩
      · obtain ⟨e1, e2⟩ := i3 (by omega)
        exact ⟨by rw [e1], e2⟩
      · obtain ⟨e1, e2, e3⟩ := i4 (by omega)
        rw [hidx, harith]
        refine ⟨e1, by rw [e2, List.append_assoc], ?_⟩
        rw [e3]
        rfl
def cD (n : Int) (es : List (List AV)) : Nat := (Int.ofNat (nat_lit 0 + cntD n (0 : Nat) (List.drop (nat_lit 0) es))).toNat
def lD (n : Int) (es : List (List AV)) : List (List AV) := [] ++ List.replicate (cD n es) [v2a (Value.string (ByteArray.mk #[]))] ++ List.drop ((0 : Nat) + cD n es) es
def leftD (n : Int) (es : List (List AV)) : Int := IntKind.i64.wrap (n - (↑([] ++ List.map ofB (bytD n (0 : Nat) (List.drop (nat_lit 0) es))).length : Int))
def condD (n : Int) (es : List (List AV)) : Bool := bif decide (leftD n es > (0 : Int)) then decide ((↑((lD n es).length - cD n es) : Int) > (0 : Int)) else false
def strD (n : Int) (es : List (List AV)) : List UInt8 := strOf (((lD n es).getD (Int.toNat (0 : Int) + cD n es) []).getD (0 : Nat) AV.junk)
noncomputable def g11 (es : List (List AV)) (a b n : Int) : Bool := bif decide (n < (1 : Int)) then true else bif vev14_1 es a b then vev14_0 es a b != (0 : Int) else false
section
variable {es : List (List AV)} {a b n : Int}
theorem v110 : vev11_0 es a b n = bif g11 es a b n then es else bif condD n es then List.take ((lD n es).length - cD n es) (List.drop (cD n es) ((lD n es).set (Int.toNat (0 : Int) + cD n es) [.str (List.drop (leftD n es).toNat (strD n es))])) else List.take ((lD n es).length - cD n es) (List.drop (cD n es) (lD n es)) := rfl
theorem v112 : vev11_2 es a b n = bif g11 es a b n then [] else bif condD n es then [] ++ List.map ofB (bytD n 0 es) ++ List.map ofB (List.take (leftD n es).toNat (strD n es)) else [] ++ List.map ofB (bytD n 0 es) := rfl
theorem v111 : vev11_1 es a b n = bif g11 es a b n then b else bif condD n es then IntKind.i64.wrap (b + (↑([] ++ List.map ofB (bytD n 0 es) ++ List.map ofB (List.take (leftD n es).toNat (strD n es))).length : Int)) else IntKind.i64.wrap (b + (↑([] ++ List.map ofB (bytD n 0 es)).length : Int)) := rfl
theorem cD_eq : cD n es = cntD n 0 es := by
  show 0 + cntD n 0 es = cntD n 0 es
  exact Nat.zero_add _
theorem lD_facts (h : cntD n 0 es ≤ es.length) : (lD n es).length = es.length ∧ List.drop (cntD n 0 es) (lD n es) = es.drop (cntD n 0 es) ∧ ∀ x, List.drop (cntD n 0 es) ((lD n es).set (cntD n 0 es) x) = (es.drop (cntD n 0 es)).set 0 x := by
  unfold lD
  rw [cD_eq, Nat.zero_add, List.nil_append]
  refine ⟨by rw [List.length_append, List.length_replicate, List.length_drop]; omega, ?_, fun x => ?_⟩
  · rw [List.drop_append, List.drop_of_length_le (by simp), List.length_replicate]; simp
  · rw [List.drop_set, if_neg (by omega), List.drop_append, List.drop_of_length_le (by simp), List.length_replicate]; simp
theorem drain_same (hn : 1 ≤ n) (hn2 : n ≤ 9223372036854775807) (he : emptyS es = false) (hf : FitS es) :
    (bif condD n es then List.take ((lD n es).length - cD n es) (List.drop (cD n es) ((lD n es).set (Int.toNat (0 : Int) + cD n es) [.str (List.drop (leftD n es).toNat (strD n es))])) else List.take ((lD n es).length - cD n es) (List.drop (cD n es) (lD n es))) = rst12 n 0 es ∧
    (bif condD n es then [] ++ List.map ofB (bytD n 0 es) ++ List.map ofB (List.take (leftD n es).toNat (strD n es)) else [] ++ List.map ofB (bytD n 0 es)) = List.map ofB (byt12 n 0 es) ∧
    (condD n es = true → leftD n es = n - ((bytD n 0 es).length : Int) ∧ cntD n 0 es < es.length ∧ strD n es = gS (es.getD (cntD n 0 es) []) ∧ leftD n es < ((strD n es).length : Int)) ∧ ((bytD n 0 es).length : Int) ≤ n := by
  obtain ⟨d1, d2, d3, d4⟩ := drainL es n 0 (by omega) hn2 he hf
  obtain ⟨l1, l2, l3⟩ := lD_facts (n := n) (es := es) d1
  have hB : ((bytD n 0 es).length : Int) ≤ n := by omega
  have hL : leftD n es = n - ((bytD n 0 es).length : Int) := by
    have : leftD n es = IntKind.i64.wrap (n - ((([] ++ List.map ofB (bytD n 0 es)).length : Nat) : Int)) := rfl
    rw [this, List.nil_append, List.length_map, IntKind.wrap_i64]; omega
  have h00 : Int.toNat (0 : Int) + cD n es = cntD n 0 es := by rw [cD_eq]; simp
  have hz : n - ((0 : Nat) : Int) - ((bytD n 0 es).length : Int) = leftD n es := by rw [hL]; omega
  rw [hz] at d4
  have hstr : cntD n 0 es < es.length → strD n es = gS (es.getD (cntD n 0 es) []) := by
    intro h
    unfold strD
    rw [h00]
    have : (lD n es).getD (cntD n 0 es) [] = es.getD (cntD n 0 es) [] := by
      have e1 : (List.drop (cntD n 0 es) (lD n es))[0]? = (es.drop (cntD n 0 es))[0]? := by rw [l2]
      simp only [List.getElem?_drop, Nat.add_zero] at e1
      simp only [List.getD, e1]
    rw [this]
  have hcond : condD n es = (decide (leftD n es > 0) && decide (cntD n 0 es < es.length)) := by
    unfold condD
    rw [l1, cD_eq]
    cases decide (leftD n es > 0) with
    | false => rfl
    | true =>
      rw [cond_true, Bool.true_and]
      by_cases h : cntD n 0 es < es.length
      · rw [decide_eq_true h, decide_eq_true_eq]; omega
      · rw [decide_eq_false h, decide_eq_false_iff_not]; omega
  have htk : ∀ (x : List (List AV)), x.length ≤ es.length - cntD n 0 es → List.take (es.length - cntD n 0 es) x = x := fun x hx => List.take_of_length_le hx
  refine ⟨?_, ?_, ?_, hB⟩
  · rw [h00, l1, cD_eq]
    cases hq : condD n es with
    | true =>
      rw [hcond, Bool.and_eq_true, decide_eq_true_eq, decide_eq_true_eq] at hq
      rw [cond_true, l3, hstr hq.2, (d4 hq.2).2.2, htk _ (by rw [List.length_set, List.length_drop]; omega)]
      rw [drop_step (α := List AV) [] hq.2]
      rfl
    | false =>
      rw [cond_false, l2, htk _ (by rw [List.length_drop]; omega)]
      rw [hcond, Bool.and_eq_false_iff, decide_eq_false_iff_not, decide_eq_false_iff_not] at hq
      by_cases h : cntD n 0 es < es.length
      · have h0 : leftD n es = 0 := by rcases hq with hq | hq <;> omega
        rw [(d4 h).2.2, h0, drop_step (α := List AV) [] h]
        have hm : es.getD (cntD n 0 es) [] ∈ es := by simp [List.getD, h]
        have := hf _ hm
        rw [show (0 : Int).toNat = 0 from rfl, List.drop_zero, this]
      · have h' : cntD n 0 es = es.length := by omega
        rw [(d3 h').2, h', List.drop_length]
  · cases hq : condD n es with
    | true =>
      rw [hcond, Bool.and_eq_true, decide_eq_true_eq, decide_eq_true_eq] at hq
      rw [cond_true, hstr hq.2, (d4 hq.2).2.1, List.map_append, List.nil_append]
    | false =>
      rw [cond_false, List.nil_append]
      rw [hcond, Bool.and_eq_false_iff, decide_eq_false_iff_not, decide_eq_false_iff_not] at hq
      by_cases h : cntD n 0 es < es.length
      · have h0 : leftD n es = 0 := by rcases hq with hq | hq <;> omega
        rw [(d4 h).2.1, h0, show (0 : Int).toNat = 0 from rfl, List.take_zero, List.append_nil]
      · have h' : cntD n 0 es = es.length := by omega
        rw [(d3 h').1]
  · intro hq
    rw [hcond, Bool.and_eq_true, decide_eq_true_eq, decide_eq_true_eq] at hq
    refine ⟨hL, hq.2, hstr hq.2, ?_⟩
    rw [hstr hq.2]
    exact (d4 hq.2).1
theorem count_in {x : Int} (h : vev23_0 x = true) : 0 ≤ x ∧ x ≤ 1099511627776 := by
  unfold vev23_0 at h
  by_cases k1 : x ≥ 0
  · by_cases k2 : x ≤ 1099511627776
    · exact ⟨k1, k2⟩
    · simp [k1, k2] at h
  · simp [k1] at h
/-- What is known of a queue that may be. -/
theorem good (h : (vev14_0 es a b != (0 : Int)) = false) : emptyS es = false ∧ sumW 0 es ≤ 65536 ∧ (0 ≤ a ∧ a ≤ 1099511627776) ∧ 0 ≤ b ∧ b ≤ 1099511627776 := by
  unfold vev14_0 at h
  rw [e22, e16, sum0] at h
  cases h1 : emptyS es with
  | true => rw [h1] at h; cases h
  | false =>
    rw [h1, cond_false] at h
    cases h2 : decide (sumW 0 es > 65536) with
    | true => rw [h2] at h; cases h
    | false =>
      rw [h2, cond_false] at h
      cases h3 : vev23_0 a with
      | false => rw [h3] at h; cases h
      | true =>
        cases h4 : vev23_0 b with
        | false => rw [h3, h4] at h; cases h
        | true =>
          rw [decide_eq_false_iff_not] at h2
          exact ⟨rfl, by omega, count_in h3, count_in h4⟩
theorem push_cond {bs : List (List AV)} (hl : vev7_0 es a b = true) (hL : es.length ≤ 9223372036854775807) (hb : bs.length ≤ 70000) (h : (vev14_0 es a b != (0 : Int)) = false) :
    (bif vev18_1 es a b then bif decide ((↑bs.length : Int) > vev18_0 es a b) then true else decide (a > IntKind.i64.wrap ((1099511627776 : Int) - (↑bs.length : Int))) else false) =
    (bif vev17_1 es a b then bif decide ((↑bs.length : Int) > IntKind.i64.wrap ((65536 : Int) - vev17_0 es a b)) then true else decide (IntKind.i64.wrap (a + (↑bs.length : Int)) > (1099511627776 : Int)) else false) := by
  obtain ⟨h1, h2, h3, h4⟩ := good h
  rw [o18 hL, o17 hL, cond_true, cond_true]
  have e1 : vev18_0 es a b = IntKind.i64.wrap ((65536 : Int) - vev17_0 es a b) := by
    unfold vev18_0
    rw [h, cond_false, e16]
  rw [e1]
  have e2 : IntKind.i64.wrap ((1099511627776 : Int) - (↑bs.length : Int)) = 1099511627776 - (↑bs.length : Int) := by rw [IntKind.wrap_i64]; omega
  have e3 : IntKind.i64.wrap (a + (↑bs.length : Int)) = a + (↑bs.length : Int) := by rw [IntKind.wrap_i64]; omega
  rw [e2, e3]
  have e4 : decide (a > 1099511627776 - (↑bs.length : Int)) = decide (a + (↑bs.length : Int) > 1099511627776) := by
    by_cases q : a > 1099511627776 - (↑bs.length : Int)
    · rw [decide_eq_true q, decide_eq_true (by omega)]
    · rw [decide_eq_false q, decide_eq_false (by omega)]
  rw [e4]
theorem len_cond (bs : List (List AV)) {α : Type} (x y : α) : (bif decide ((↑bs.length : Int) > (0 : Int)) then x else y) = (bif (↑bs.length : Int) == (0 : Int) then y else x) := by
  by_cases h : (↑bs.length : Int) > 0
  · have : ((↑bs.length : Int) == 0) = false := by rw [beq_eq_false_iff_ne]; omega
    rw [decide_eq_true h, this]; rfl
  · have : ((↑bs.length : Int) == 0) = true := by rw [beq_iff_eq]; omega
    rw [decide_eq_false h, this]; rfl
theorem push_same {bs : List (List AV)} (hl : vev7_0 es a b = true) (hL : es.length ≤ 9223372036854775807) (hb : bs.length ≤ 70000) : vev9_0 es a b bs = vev10_0 es a b bs ∧ vev9_1 es a b bs = vev10_1 es a b bs ∧ vev9_2 es a b bs = vev10_2 es a b bs := by
  unfold vev9_0 vev9_1 vev9_2 vev10_0 vev10_1 vev10_2
  rw [← e14 hl]
  cases h : (vev14_0 es a b != (0 : Int)) with
  | true => exact ⟨rfl, rfl, rfl⟩
  | false => rw [cond_false, cond_false, cond_false, cond_false, cond_false, cond_false, push_cond hl hL hb h, len_cond, len_cond]; exact ⟨rfl, rfl, rfl⟩
theorem g_same (hl : vev7_0 es a b = true) (hL : es.length ≤ 9223372036854775807) : g11 es a b n = (bif vev15_1 es a b then bif vev15_0 es a b != (0 : Int) then true else decide (n < (1 : Int)) else false) := by
  unfold g11
  rw [o14 hL, o15 hL, ← e14 hl]
  cases decide (n < 1) <;> cases (vev14_0 es a b != (0 : Int)) <;> rfl
theorem g_inv (hL : es.length ≤ 9223372036854775807) (h : g11 es a b n = false) : 1 ≤ n ∧ (vev14_0 es a b != (0 : Int)) = false := by
  unfold g11 at h
  rw [o14 hL, cond_true] at h
  cases hq : decide (n < 1) with
  | true => rw [hq] at h; cases h
  | false =>
    rw [hq, cond_false] at h
    rw [decide_eq_false_iff_not] at hq
    exact ⟨by omega, h⟩
theorem drain_all (hl : vev7_0 es a b = true) (hL : es.length ≤ 9223372036854775807) (hn2 : n ≤ 9223372036854775807) (hf : FitS es) :
    vev11_0 es a b n = vev12_0 es a b n ∧ vev11_1 es a b n = vev12_1 es a b n ∧ vev11_2 es a b n = vev12_2 es a b n := by
  rw [v110, v111, v112]
  have e0 : vev12_0 es a b n = bif (bif vev15_1 es a b then bif vev15_0 es a b != (0 : Int) then true else decide (n < (1 : Int)) else false) then es else rst12 n 0 es := rfl
  have e1 : vev12_1 es a b n = bif (bif vev15_1 es a b then bif vev15_0 es a b != (0 : Int) then true else decide (n < (1 : Int)) else false) then b else IntKind.i64.wrap (b + (↑(List.map ofB (byt12 n 0 es)).length : Int)) := rfl
  have e2 : vev12_2 es a b n = bif (bif vev15_1 es a b then bif vev15_0 es a b != (0 : Int) then true else decide (n < (1 : Int)) else false) then [] else List.map ofB (byt12 n 0 es) := rfl
  rw [e0, e1, e2, ← g_same hl hL]
  cases hg : g11 es a b n with
  | true => exact ⟨rfl, rfl, rfl⟩
  | false =>
    obtain ⟨hn, hgd⟩ := g_inv hL hg
    obtain ⟨d1, d2, _, _⟩ := drain_same hn hn2 (good hgd).1 hf
    simp only [cond_false]
    refine ⟨d1, ?_, d2⟩
    rw [← d2]
    cases condD n es <;> rfl
theorem isB_map (l : List UInt8) : (List.map ofB l).all isB = true := by
  rw [List.all_eq_true]
  intro x hx
  obtain ⟨u, _, rfl⟩ := List.mem_map.1 hx
  have := u.toNat_lt
  simp [ofB, isB, intOf]
  omega
theorem f12 (hl : vev7_0 es a b = true) (hL : es.length ≤ 9223372036854775807) (hn2 : n ≤ 9223372036854775807) : vev12_3 es a b n = true ∧ (vev12_2 es a b n).all isB = true := by
  have e2 : vev12_2 es a b n = bif (bif vev15_1 es a b then bif vev15_0 es a b != (0 : Int) then true else decide (n < (1 : Int)) else false) then [] else List.map ofB (byt12 n 0 es) := rfl
  unfold vev12_3
  rw [e2, o15 hL, cond_true]
  obtain ⟨l1, l2⟩ := light hl
  have hs := sumN_le es l1
  cases hc : (bif vev15_0 es a b != (0 : Int) then true else decide (n < (1 : Int))) with
  | true => simp only [cond_true]; exact ⟨trivial, rfl⟩
  | false =>
    have hn : ¬ n < 1 := by
      cases h0 : (vev15_0 es a b != (0 : Int)) with
      | true => rw [h0] at hc; cases hc
      | false => rw [h0, cond_false, decide_eq_false_iff_not] at hc; exact hc
    have hsp : (sp12L (es, [], [], a, b, a, b, n, 0)).1 = true := by
      simp only [sp12L, Bool.and_eq_true, decide_eq_true_eq, List.length_nil, List.drop_zero]
      exact ⟨⟨by omega, hn2⟩, Nat.ble_eq_true_of_le (by omega), Nat.ble_eq_true_of_le (by omega), Nat.ble_eq_true_of_le hL⟩
    simp only [cond_false, cond_true]
    rw [hsp]
    exact ⟨rfl, isB_map _⟩
theorem rst_len (n : Int) : ∀ (l : List (List AV)) (o : Nat), (rst12 n o l).length ≤ l.length := by
  intro l
  induction l with
  | nil => intro o; exact Nat.le_refl _
  | cons e l ih =>
    intro o
    simp only [rst12]
    have := ih (o + kN n o (gS e).length)
    cases Nat.blt (kN n o (gS e).length) (gS e).length with
    | true => simp only [cond_true, List.length_cons]; omega
    | false => simp only [cond_false, List.length_cons]; omega
theorem f11 (hl : vev7_0 es a b = true) (hL : es.length ≤ 9223372036854775807) (hn2 : n ≤ 9223372036854775807) (hf : FitS es) : vev11_3 es a b n = true := by
  obtain ⟨l1, l2⟩ := light hl
  have hs := sumN_le es l1
  have h21 : vev21_0 es a b = true := by
    unfold vev21_0
    rw [Nat.ble_eq_true_of_le (by omega)]; rfl
  have e3 : vev11_3 es a b n = bif vev21_0 es a b then bif bif decide (n < (1 : Int)) then true else vev14_1 es a b then bif g11 es a b n then true else bif (sp11L (es, [], a, b, n, 0, (↑es.length : Int), 0)).fst then bif bnd (0 : Int) (Int.ofNat (cD n es)) (↑es.length : Int) then bif bnd (Int.ofNat (cD n es)) (↑(lD n es).length : Int) (↑(lD n es).length : Int) then bif condD n es then bif decide ((0 : Int) ≤ (0 : Int)) && decide ((0 : Int) < (↑((lD n es).length - cD n es) : Int)) then bif bnd (0 : Int) (leftD n es) (↑(strD n es).length : Int) then bif bif decide ((([] ++ List.map ofB (bytD n 0 es)).length + (List.map ofB (List.take (leftD n es).toNat (strD n es))).length) * (1 : Nat) ≤ (140737488355328 : Nat)) then decide (([] ++ List.map ofB (bytD n 0 es)).length + (List.map ofB (List.take (leftD n es).toNat (strD n es))).length ≤ (9223372036854775807 : Nat)) else false then bif bnd (leftD n es) (↑(strD n es).length : Int) (↑(strD n es).length : Int) then true else false else false else false else false else true else false else false else false else false else false := rfl
  rw [e3, h21, o14 hL, cond_true]
  cases hg : g11 es a b n with
  | true => simp only [cond_true, Bool.cond_self]
  | false =>
    obtain ⟨hn, hgd⟩ := g_inv hL hg
    obtain ⟨he, hS, _, _⟩ := good hgd
    obtain ⟨_, _, d3, d4⟩ := drain_same hn hn2 he hf
    obtain ⟨k1, _, _, _⟩ := drainL es n 0 (by omega) hn2 he hf
    obtain ⟨m1, _, _⟩ := lD_facts (n := n) (es := es) k1
    have hsp : (sp11L (es, [], a, b, n, 0, (↑es.length : Int), 0)).1 = true := by
      simp only [sp11L, Bool.and_eq_true, decide_eq_true_eq, List.length_nil, List.drop_zero]
      exact ⟨⟨rfl, trivial⟩, Nat.ble_eq_true_of_le (by omega), Nat.ble_eq_true_of_le hL⟩
    have b1 : bnd (0 : Int) (Int.ofNat (cD n es)) (↑es.length : Int) = true := by
      rw [cD_eq]
      simp only [bnd, Bool.and_eq_true, decide_eq_true_eq, Int.ofNat_eq_natCast]; omega
    have b2 : bnd (Int.ofNat (cD n es)) (↑(lD n es).length : Int) (↑(lD n es).length : Int) = true := by
      rw [cD_eq, m1]
      simp only [bnd, Bool.and_eq_true, decide_eq_true_eq, Int.ofNat_eq_natCast]; omega
    rw [hsp, b1, b2]
    cases hc : condD n es with
    | false => simp only [cond_true, cond_false, Bool.cond_self]
    | true =>
      obtain ⟨q1, q2, q3, q4⟩ := d3 hc
      have hp : leftD n es ≥ 0 := by omega
      have c1 : decide ((0 : Int) < (↑((lD n es).length - cD n es) : Int)) = true := by rw [m1, cD_eq, decide_eq_true_eq]; omega
      have c2 : bnd (0 : Int) (leftD n es) (↑(strD n es).length : Int) = true := by simp only [bnd, Bool.and_eq_true, decide_eq_true_eq]; omega
      have c3 : bnd (leftD n es) (↑(strD n es).length : Int) (↑(strD n es).length : Int) = true := by simp only [bnd, Bool.and_eq_true, decide_eq_true_eq]; omega
      have htk : (List.map ofB (List.take (leftD n es).toNat (strD n es))).length = (leftD n es).toNat := by rw [List.length_map, List.length_take]; exact Nat.min_eq_left (by omega)
      have hm : es.getD (cntD n 0 es) [] ∈ es := by simp [List.getD, q2]
      have hbig : (strD n es).length ≤ 70000 := by
        rw [q3]
        unfold bigS at l1
        have h' := List.any_eq_false.1 l1 _ hm
        have h2' : ¬ ((gS (es.getD (cntD n 0 es) [])).length : Int) > 70000 := fun hgt => h' (decide_eq_true hgt)
        omega
      have hby : (bytD n 0 es).length ≤ sumN es := by
        have : ∀ (l : List (List AV)) (o : Nat), (bytD n o l).length ≤ sumN l := by
          intro l
          induction l with
          | nil => intro o; exact Nat.le_refl _
          | cons e l ih =>
            intro o
            simp only [bytD, sumN]
            cases decide (((gS e).length : Int) > IntKind.i64.wrap (n - (o : Int))) with
            | true => simp
            | false => simp only [cond_false, List.length_append]; have := ih (o + (gS e).length); omega
        exact this es 0
      have c4 : decide ((([] ++ List.map ofB (bytD n 0 es)).length + (leftD n es).toNat) * (1 : Nat) ≤ (140737488355328 : Nat)) = true := by rw [List.nil_append, List.length_map, decide_eq_true_eq]; omega
      have c5 : decide (([] ++ List.map ofB (bytD n 0 es)).length + (leftD n es).toNat ≤ (9223372036854775807 : Nat)) = true := by rw [List.nil_append, List.length_map, decide_eq_true_eq]; omega
      rw [htk, c1, c2, c3, c4, c5]
      simp only [cond_true, Bool.cond_self]
      rfl
end
theorem missS_self : ∀ (l : List (List AV)), missS l l = false := by
  intro l
  induction l with
  | nil => rfl
  | cons x l ih => simp only [missS, beq_self_eq_true, Bool.not_true, Bool.false_or, ih]
theorem same13 (l : List (List AV)) (x y : Int) : vev13_0 l x y l x y = true := by
  unfold vev13_0
  have hd : List.drop (nat_lit 0) l = l := rfl
  rw [hd, missS_self]
  simp only [bne_self_eq_false, cond_false]
theorem same13t (l : List (List AV)) (x y : Int) : vev13t_0 l x y l x y = true := by
  unfold vev13t_0
  have hd : List.drop (nat_lit 0) l = l := rfl
  rw [hd, missS_self]
  simp only [bne_self_eq_false, cond_false]
theorem ok13t {l : List (List AV)} (h : l.length ≤ 9223372036854775807) (x y : Int) : vev13t_1 l x y l x y = true := by
  unfold vev13t_1
  simp only [sp13tL, decide_eq_true h, decide_true, Bool.and_self, cond_true, Bool.cond_self]
section
variable {es bs : List (List AV)} {a b n : Int}
theorem f9 (hl : vev7_0 es a b = true) (hL : es.length ≤ 9223372036854775807) (hb : bs.length ≤ 70000) (hB : bs.all isB = true) : vev9_3 es a b bs = true ∧ vev10_3 es a b bs = true := by
  obtain ⟨l1, l2⟩ := light hl
  have h21 : vev21_0 es a b = true := by
    unfold vev21_0
    rw [Nat.ble_eq_true_of_le (by omega)]; rfl
  have r1 : decide ((es.length + (1 : Nat)) * (16 : Nat) ≤ (140737488355328 : Nat)) = true := by rw [decide_eq_true_eq]; omega
  have r2 : decide (es.length + (1 : Nat) ≤ (9223372036854775807 : Nat)) = true := by rw [decide_eq_true_eq]; omega
  have r3 : decide (es.length * (16 : Nat) ≤ (140737488355328 : Nat)) = true := by rw [decide_eq_true_eq]; omega
  have r4 : decide (es.length ≤ (9223372036854775807 : Nat)) = true := by rw [decide_eq_true_eq]; omega
  unfold vev9_3 vev10_3
  rw [h21, o14 hL, o18 hL, o15 hL, o17 hL, hB, r1, r2, r3, r4]
  simp only [cond_true, Bool.cond_self]
  exact ⟨trivial, trivial⟩
theorem push_len (hb : (vev9_0 es a b bs) = es ∨ (vev9_0 es a b bs) = es ++ [[AV.str (List.map byteOf bs)]]) (h : es.length ≤ 20) : (vev9_0 es a b bs).length ≤ 9223372036854775807 := by
  rcases hb with hb | hb <;> rw [hb]
  · omega
  · rw [List.length_append, List.length_singleton]; omega
theorem push_or : (vev9_0 es a b bs) = es ∨ (vev9_0 es a b bs) = es ++ [[AV.str (List.map byteOf bs)]] := by
  unfold vev9_0
  cases (vev14_0 es a b != (0 : Int)) with
  | true => exact .inl rfl
  | false =>
    simp only [cond_false]
    cases (bif vev18_1 es a b then bif decide ((↑bs.length : Int) > vev18_0 es a b) then true else decide (a > IntKind.i64.wrap ((1099511627776 : Int) - (↑bs.length : Int))) else false) with
    | true => exact .inl rfl
    | false =>
      simp only [cond_false]
      cases decide ((↑bs.length : Int) > (0 : Int)) with
      | true => exact .inr rfl
      | false => exact .inl rfl
theorem drain_len (h : es.length ≤ 20) : (vev12_0 es a b n).length ≤ 9223372036854775807 := by
  have e0 : vev12_0 es a b n = bif (bif vev15_1 es a b then bif vev15_0 es a b != (0 : Int) then true else decide (n < (1 : Int)) else false) then es else rst12 n 0 es := rfl
  rw [e0]
  have := rst_len n es 0
  cases (bif vev15_1 es a b then bif vev15_0 es a b != (0 : Int) then true else decide (n < (1 : Int)) else false) with
  | true => simp only [cond_true]; omega
  | false => simp only [cond_false]; omega
theorem guard_inv (hL : es.length ≤ 9223372036854775807) (h : (bif vev7_1 es a b then bif !vev7_0 es a b then true else decide ((↑bs.length : Int) > (70000 : Int)) else false) = false) : vev7_0 es a b = true ∧ bs.length ≤ 70000 := by
  rw [o7 hL, cond_true] at h
  cases h7 : vev7_0 es a b with
  | false => rw [h7] at h; cases h
  | true =>
    rw [h7, Bool.not_true, cond_false, decide_eq_false_iff_not] at h
    exact ⟨rfl, by omega⟩
theorem e3_0 (hL : es.length ≤ 9223372036854775807) (hn2 : n ≤ 9223372036854775807) (hf : FitS es) : vev3_0 es a b bs n = true := by
  unfold vev3_0
  cases hg : (bif vev7_1 es a b then bif !vev7_0 es a b then true else decide ((↑bs.length : Int) > (70000 : Int)) else false) with
  | true => rfl
  | false =>
    obtain ⟨hl, hb⟩ := guard_inv hL hg
    obtain ⟨p1, p2, p3⟩ := push_same (bs := bs) hl hL hb
    obtain ⟨d1, d2, d3⟩ := drain_all (n := n) hl hL hn2 hf
    have hw : (List.replicate (0 : Nat) [v2a (Value.string (ByteArray.mk #[]))] ++ es) = es := rfl
    rw [p1, p2, p3, d1, d2, d3, hw, same13, same13, same13t]
    simp only [beq_self_eq_true, cond_true, cond_false]
theorem e3_1 (hL : es.length ≤ 9223372036854775807) (hn2 : n ≤ 9223372036854775807) (hf : FitS es) (hB : bs.all isB = true) : vev3_1 es a b bs n = true := by
  unfold vev3_1
  rw [o7 hL]
  cases hg : (bif true then bif !vev7_0 es a b then true else decide ((↑bs.length : Int) > (70000 : Int)) else false) with
  | true => rfl
  | false =>
    obtain ⟨hl, hb⟩ := guard_inv (a := a) (b := b) hL (by rw [o7 hL]; exact hg)
    obtain ⟨l1, l2⟩ := light hl
    obtain ⟨p1, p2, p3⟩ := push_same (bs := bs) hl hL hb
    obtain ⟨d1, d2, d3⟩ := drain_all (n := n) hl hL hn2 hf
    have hw : (List.replicate (0 : Nat) [v2a (Value.string (ByteArray.mk #[]))] ++ es) = es := rfl
    have hpl := push_len (es := es) (a := a) (b := b) (bs := bs) push_or l2
    have hdl := drain_len (es := es) (a := a) (b := b) (n := n) l2
    have r3 : decide (((0 : Nat) + es.length) * (16 : Nat) ≤ (140737488355328 : Nat)) = true := by rw [decide_eq_true_eq]; omega
    have r4 : decide ((0 : Nat) + es.length ≤ (9223372036854775807 : Nat)) = true := by rw [decide_eq_true_eq]; omega
    rw [(f9 hl hL hb hB).1, (f9 hl hL hb hB).2, f11 hl hL hn2 hf, (f12 hl hL hn2).1, r3, r4, hw, ok13t hL, d1, d2, d3, (f12 hl hL hn2).2, o13 hdl, o13 hpl]
    simp only [cond_true, cond_false, Bool.cond_self]
theorem law3 (h : es.length ≤ maxLen) (hE : ∀ x ∈ es, okKL [.str] x) (hB : ∀ x ∈ bs, okKL [.int .u8] x) (hn : (Lit.int .i64 n).wf = true) : FnOK Try.prog 3 [.agg [.sl .imm [.str] es, .int .i64 a, .int .i64 b], .sl .imm [.int .u8] bs, .int .i64 n] [] (.bool true) [] := by
  have hm : maxLen = 9223372036854775807 := by rfl
  rw [hm] at h
  have hf : FitS es := by
    intro x hx
    have := hE x hx
    simp only [okKL, okK] at this
    obtain ⟨_, _, rfl, ⟨s, rfl, _⟩, rfl⟩ := this
    rfl
  have hB' : bs.all isB = true := by
    rw [List.all_eq_true]
    intro x hx
    have := hB x hx
    simp only [okKL, okK] at this
    obtain ⟨_, _, rfl, ⟨m, rfl, w⟩, rfl⟩ := this
    have := wf_u8 w
    unfold isB
    simp [intOf]
    omega
  have hn' := (wf_i64 hn).2
  have he := ev3 es a b bs n
  rw [e3_1 h hn' hf hB', e3_0 h hn' hf, cond_true] at he
  exact (fn_ok mixed plain (gk_ok k13t_ok 30) Try.func3 (fun c _ => LoopsOK.none (fun _ _ => rfl) c) he).2
end
end Go.Proofs.Gv
