/-
Queues of up to a hundred parts: what is put, and taken, and told.
-/
import Derived.Test.YtdickgcdjmhgiaaGpCu
namespace Go.Proofs.Gv
open Go.Proofs
set_option linter.unusedVariables false
section
variable {es bs : List (List AV)} {a b n : Int}
theorem f11w (l1 : bigS es = false) (l2 : es.length ≤ 100) (hn2 : n ≤ 9223372036854775807) (hf : FitS es) : vev11_3 es a b n = true := by
  have hL : es.length ≤ 9223372036854775807 := by omega
  have hs := sumN_le es l1
  have h21 : vev21_0 es a b = true := by
    unfold vev21_0
    rw [Nat.ble_eq_true_of_le (by omega)]; rfl
  have e3 : vev11_3 es a b n = bif vev21_0 es a b then bif bif decide (n < (1 : Int)) then true else vev14_1 es a b then bif g11 es a b n then true else bif (sp11L (es, [], a, b, n, 0, (↑es.length : Int), 0)).fst then bif bnd (0 : Int) (Int.ofNat (cD n es)) (↑es.length : Int) then bif bnd (Int.ofNat (cD n es)) (↑(lD n es).length : Int) (↑(lD n es).length : Int) then bif condD n es then bif decide ((0 : Int) ≤ (0 : Int)) && decide ((0 : Int) < (↑((lD n es).length - cD n es) : Int)) then bif bnd (0 : Int) (leftD n es) (↑(strD n es).length : Int) then bif bif decide ((([] ++ List.map ofB (bytD n 0 es)).length + (List.map ofB (List.take (leftD n es).toNat (strD n es))).length) * (1 : Nat) ≤ (140737488355328 : Nat)) then decide (([] ++ List.map ofB (bytD n 0 es)).length + (List.map ofB (List.take (leftD n es).toNat (strD n es))).length ≤ (9223372036854775807 : Nat)) else false then bif bnd (leftD n es) (↑(strD n es).length : Int) (↑(strD n es).length : Int) then true else false else false else false else false else true else false else false else false else false else false := rfl
  rw [e3, h21, o14 hL, cond_true]
  cases hg : g11 es a b n with
  | true => simp only [cond_true, Bool.cond_self]
  | false =>
    obtain ⟨hn, hgd⟩ := g_inv hL hg
    obtain ⟨he, hS, _, _⟩ := good hgd
    obtain ⟨_, _, d3, d4⟩ := drain_same hn hn2 he hf
    obtain ⟨k1, _, _, _⟩ := drainL es n 0 (by omega) hn2 he hf
    obtain ⟨m1, _, _⟩ := lD_facts (n := n) (es := es) k1
    have hsp : (sp11L (es, [], a, b, n, 0, (↑es.length : Int), 0)).1 = true := by
      simp only [sp11L, Bool.and_eq_true, decide_eq_true_eq, List.length_nil, List.drop_zero]
      exact ⟨⟨rfl, trivial⟩, Nat.ble_eq_true_of_le (by omega), Nat.ble_eq_true_of_le hL⟩
    have b1 : bnd (0 : Int) (Int.ofNat (cD n es)) (↑es.length : Int) = true := by
      rw [cD_eq]
      simp only [bnd, Bool.and_eq_true, decide_eq_true_eq, Int.ofNat_eq_natCast]; omega
    have b2 : bnd (Int.ofNat (cD n es)) (↑(lD n es).length : Int) (↑(lD n es).length : Int) = true := by
      rw [cD_eq, m1]
      simp only [bnd, Bool.and_eq_true, decide_eq_true_eq, Int.ofNat_eq_natCast]; omega
    rw [hsp, b1, b2]
    cases hc : condD n es with
    | false => simp only [cond_true, cond_false, Bool.cond_self]
    | true =>
      obtain ⟨q1, q2, q3, q4⟩ := d3 hc
      have hp : leftD n es ≥ 0 := by omega
      have c1 : decide ((0 : Int) < (↑((lD n es).length - cD n es) : Int)) = true := by rw [m1, cD_eq, decide_eq_true_eq]; omega
      have c2 : bnd (0 : Int) (leftD n es) (↑(strD n es).length : Int) = true := by simp only [bnd, Bool.and_eq_true, decide_eq_true_eq]; omega
      have c3 : bnd (leftD n es) (↑(strD n es).length : Int) (↑(strD n es).length : Int) = true := by simp only [bnd, Bool.and_eq_true, decide_eq_true_eq]; omega
      have htk : (List.map ofB (List.take (leftD n es).toNat (strD n es))).length = (leftD n es).toNat := by rw [List.length_map, List.length_take]; exact Nat.min_eq_left (by omega)
      have hm : es.getD (cntD n 0 es) [] ∈ es := by simp [List.getD, q2]
      have hbig : (strD n es).length ≤ 70000 := by
        rw [q3]
        unfold bigS at l1
        have h' := List.any_eq_false.1 l1 _ hm
        have h2' : ¬ ((gS (es.getD (cntD n 0 es) [])).length : Int) > 70000 := fun hgt => h' (decide_eq_true hgt)
        omega
      have hby : (bytD n 0 es).length ≤ sumN es := by
        have : ∀ (l : List (List AV)) (o : Nat), (bytD n o l).length ≤ sumN l := by
          intro l
          induction l with
          | nil => intro o; exact Nat.le_refl _
          | cons e l ih =>
            intro o
            simp only [bytD, sumN]
            cases decide (((gS e).length : Int) > IntKind.i64.wrap (n - (o : Int))) with
            | true => simp
            | false => simp only [cond_false, List.length_append]; have := ih (o + (gS e).length); omega
        exact this es 0
      have c4 : decide ((([] ++ List.map ofB (bytD n 0 es)).length + (leftD n es).toNat) * (1 : Nat) ≤ (140737488355328 : Nat)) = true := by rw [List.nil_append, List.length_map, decide_eq_true_eq]; omega
      have c5 : decide (([] ++ List.map ofB (bytD n 0 es)).length + (leftD n es).toNat ≤ (9223372036854775807 : Nat)) = true := by rw [List.nil_append, List.length_map, decide_eq_true_eq]; omega
      rw [htk, c1, c2, c3, c4, c5]
      simp only [cond_true, Bool.cond_self]
      rfl
theorem f9w (l1 : bigS es = false) (l2 : es.length ≤ 100) (hb : bs.length ≤ 70000) (hB : bs.all isB = true) : vev9_3 es a b bs = true ∧ vev10_3 es a b bs = true := by
  have hL : es.length ≤ 9223372036854775807 := by omega
  have h21 : vev21_0 es a b = true := by
    unfold vev21_0
    rw [Nat.ble_eq_true_of_le (by omega)]; rfl
  have r1 : decide ((es.length + (1 : Nat)) * (16 : Nat) ≤ (140737488355328 : Nat)) = true := by rw [decide_eq_true_eq]; omega
  have r2 : decide (es.length + (1 : Nat) ≤ (9223372036854775807 : Nat)) = true := by rw [decide_eq_true_eq]; omega
  have r3 : decide (es.length * (16 : Nat) ≤ (140737488355328 : Nat)) = true := by rw [decide_eq_true_eq]; omega
  have r4 : decide (es.length ≤ (9223372036854775807 : Nat)) = true := by rw [decide_eq_true_eq]; omega
  unfold vev9_3 vev10_3
  rw [h21, o14 hL, o18 hL, o15 hL, o17 hL, hB, r1, r2, r3, r4]
  simp only [cond_true, Bool.cond_self]
  exact ⟨trivial, trivial⟩
/-- What a queue that may be is like. -/
def GoodW (es : List (List AV)) (a b : Int) : Prop := emptyS es = false ∧ bigS es = false ∧ es.length ≤ 100 ∧ FitS es ∧ sumN es ≤ 65536 ∧ (0 ≤ a ∧ a ≤ 1099511627776) ∧ (0 ≤ b ∧ b ≤ 1099511627776) ∧ a = b + (sumN es : Int)
theorem good_mkW (h : GoodW es a b) : bigS es = false ∧ vev14_0 es a b = 0 ∧ vev18_0 es a b = 65536 - (sumN es : Int) := by
  obtain ⟨g1, l1, l2, hf, g2, g3, g4, g5⟩ := h
  have hs := sum_eq es 0 (Int.le_refl _) (by omega)
  have h14 : vev14_0 es a b = 0 := by
    unfold vev14_0
    rw [e22, e16, sum0, g1, hs, decide_eq_false (show ¬ (0 + (sumN es : Int) > 65536) by omega), count_mk g3, count_mk g4]
    have hw : IntKind.i64.wrap (a - b) = a - b := by rw [IntKind.wrap_i64]; omega
    rw [hw]
    have : (a - b != 0 + (sumN es : Int)) = false := by rw [bne_eq_false_iff_eq]; omega
    rw [this]
    rfl
  refine ⟨l1, h14, ?_⟩
  unfold vev18_0
  rw [h14, e16, sum0, hs]
  have hw : IntKind.i64.wrap (65536 - (0 + (sumN es : Int))) = 65536 - (sumN es : Int) := by rw [IntKind.wrap_i64]; omega
  rw [hw]
  rfl
/-- What is taken off a queue that may be. -/
theorem take_goodW (h : GoodW es a b) (r : Nat) (hr : r ≤ 1000000) : vev11_0 es a b (r : Int) = Rn r es ∧ vev11_1 es a b (r : Int) = b + ((Bn r es).length : Int) ∧ vev11_2 es a b (r : Int) = List.map ofB (Bn r es) ∧ vev11_3 es a b (r : Int) = true ∧ GoodW (Rn r es) a (b + ((Bn r es).length : Int)) := by
  obtain ⟨m1, m2, m3⟩ := good_mkW h
  obtain ⟨g1, l1, l2, hf, g2, g3, g4, g5⟩ := h
  have hL : es.length ≤ 9223372036854775807 := by omega
  have h14 : (vev14_0 es a b != (0 : Int)) = false := by rw [m2]; rfl
  obtain ⟨q1, q2, q3, q4⟩ := rst_facts (r : Int) es 0
  have hq4 : (Bn r es).length + sumN (Rn r es) = sumN es := q4
  have hlen : (Rn r es).length ≤ es.length := rst_len (r : Int) es 0
  have hG : GoodW (Rn r es) a (b + ((Bn r es).length : Int)) := ⟨q2, q1 l1, by omega, q3, by omega, g3, by omega, by omega⟩
  have hf11 := f11w (n := (r : Int)) (a := a) (b := b) l1 l2 (by omega) hf
  by_cases h0 : r = 0
  · subst h0
    obtain ⟨z1, z2⟩ := R0 g1 hf
    have hg : g11 es a b ((0 : Nat) : Int) = true := rfl
    refine ⟨?_, ?_, ?_, hf11, hG⟩
    · rw [v110, hg, z1]; rfl
    · rw [v111, hg, z2]; simp
    · rw [v112, hg, z2]; rfl
  · have hg : g11 es a b (r : Int) = false := by
      unfold g11
      rw [o14 hL, h14, decide_eq_false (show ¬ ((r : Int) < 1) by omega)]; rfl
    obtain ⟨d1, d2, _, _⟩ := drain_same (n := (r : Int)) (by omega) (by omega) g1 hf
    refine ⟨?_, ?_, ?_, hf11, hG⟩
    · rw [v110, hg, cond_false, d1]; rfl
    · rw [v111, hg, cond_false]
      have e1 : (bif condD (r : Int) es then IntKind.i64.wrap (b + (↑([] ++ List.map ofB (bytD (r : Int) 0 es) ++ List.map ofB (List.take (leftD (r : Int) es).toNat (strD (r : Int) es))).length : Int)) else IntKind.i64.wrap (b + (↑([] ++ List.map ofB (bytD (r : Int) 0 es)).length : Int))) = IntKind.i64.wrap (b + (↑(bif condD (r : Int) es then [] ++ List.map ofB (bytD (r : Int) 0 es) ++ List.map ofB (List.take (leftD (r : Int) es).toNat (strD (r : Int) es)) else [] ++ List.map ofB (bytD (r : Int) 0 es)).length : Int)) := by cases condD (r : Int) es <;> rfl
      rw [e1, d2, List.length_map]
      have hB : (byt12 (r : Int) 0 es).length = (Bn r es).length := rfl
      rw [hB, IntKind.wrap_i64]
      omega
    · rw [v112, hg, cond_false, d2]; rfl
theorem len_good (h : GoodW es a b) : vev16_0 es a b = (sumN es : Int) ∧ vev14_1 es a b = true ∧ vev16_1 es a b = true ∧ vev18_1 es a b = true := by
  obtain ⟨g1, l1, l2, hf, g2, g3, g4, g5⟩ := h
  have hs := sum_eq es 0 (Int.le_refl _) (by omega)
  have hL : es.length ≤ 9223372036854775807 := by omega
  refine ⟨?_, o14 hL, o16 hL, o18 hL⟩
  rw [e16, sum0, hs]
  omega
theorem sumN_app : ∀ (l m : List (List AV)), sumN (l ++ m) = sumN l + sumN m := by
  intro l m
  induction l with
  | nil => simp [sumN]
  | cons e l ih => simp only [List.cons_append, sumN, ih]; omega
/-- What is put behind a queue that may be. -/
theorem push_goodW (h : GoodW es a b) (t : List UInt8) (h0 : 1 ≤ t.length) (h1 : t.length ≤ 200) (h2 : es.length + 1 ≤ 100) (h3 : sumN es + t.length ≤ 65536) (h4 : a + (t.length : Int) ≤ 1099511627776) :
    vev9_0 es a b (List.map ofB t) = es ++ [[.str t]] ∧ vev9_1 es a b (List.map ofB t) = a + (t.length : Int) ∧ vev9_2 es a b (List.map ofB t) = 0 ∧ vev9_3 es a b (List.map ofB t) = true ∧ GoodW (es ++ [[.str t]]) (a + (t.length : Int)) b := by
  obtain ⟨m1, m2, m3⟩ := good_mkW h
  obtain ⟨_, _, _, m6⟩ := len_good h
  obtain ⟨g1, l1, l2, hf, g2, g3, g4, g5⟩ := h
  have h14 : (vev14_0 es a b != (0 : Int)) = false := by rw [m2]; rfl
  have hlen : (List.map ofB t).length = t.length := List.length_map _
  have e2 : IntKind.i64.wrap ((1099511627776 : Int) - (t.length : Int)) = 1099511627776 - (t.length : Int) := by rw [IntKind.wrap_i64]; omega
  have hc : (bif vev18_1 es a b then bif decide ((↑(List.map ofB t).length : Int) > vev18_0 es a b) then true else decide (a > IntKind.i64.wrap ((1099511627776 : Int) - (↑(List.map ofB t).length : Int))) else false) = false := by
    rw [m6, cond_true, m3, hlen, e2, decide_eq_false (show ¬ ((t.length : Int) > 65536 - (sumN es : Int)) by omega), cond_false, decide_eq_false_iff_not]
    omega
  have hp : decide ((↑(List.map ofB t).length : Int) > (0 : Int)) = true := by rw [hlen, decide_eq_true_eq]; omega
  refine ⟨?_, ?_, ?_, (f9w (a := a) (b := b) l1 l2 (by omega) (isB_map t)).1, ?_⟩
  · unfold vev9_0
    rw [h14, cond_false, hc, cond_false, hp, cond_true, bytes_of]
  · unfold vev9_1
    rw [h14, cond_false, hc, cond_false, hp, cond_true, hlen, IntKind.wrap_i64]
    omega
  · unfold vev9_2
    rw [h14, cond_false, hc]
    rfl
  · have hg : gS [AV.str t] = t := rfl
    refine ⟨?_, ?_, by rw [List.length_append, List.length_singleton]; omega, fun x hx => ?_, ?_, by omega, g4, ?_⟩
    · unfold emptyS at g1 ⊢
      rw [List.any_append, g1, Bool.false_or, List.any_cons, List.any_nil, Bool.or_false, hg, beq_eq_false_iff_ne]
      intro hq
      rw [hq] at h0
      exact absurd h0 (by decide)
    · unfold bigS at l1 ⊢
      rw [List.any_append, l1, Bool.false_or, List.any_cons, List.any_nil, Bool.or_false, hg, decide_eq_false_iff_not]
      omega
    · rcases List.mem_append.1 hx with hx | hx
      · exact hf x hx
      · rw [List.mem_singleton] at hx
        subst hx; rfl
    · rw [sumN_app]
      simp only [sumN, hg]
      omega
    · rw [sumN_app]
      simp only [sumN, hg]
      omega
end
end Go.Proofs.Gv
