/-
Ids: plain facts of the searches and of the checks, on both sides.
-/
import Derived.Test.YtgpmodjpehimhaaGaId3
import Derived.Test.YtgpmodjpehimhaaGwA
import Derived.Test.YtgpmodjpehimhaaGwI
namespace Go.Proofs.Gv
open Go.Proofs
set_option linter.unusedVariables false
variable {tk tk0 tk2 : Tk} {es es0 es2 es3 es4 : List (List AV)} {l l2 id n : Int}
/-- One of a client's numbers. -/
def od (n : Int) : Bool := decide (1 ≤ n) && (decide (n ≤ 2147483647) && decide (n % 2 = 1))
theorem and1 {n : Int} (h0 : 1 ≤ n) (h1 : n ≤ 2147483647) : bits .and .i64 n 1 = n % 2 := by
  obtain ⟨m, rfl⟩ : ∃ m : Nat, n = (m : Int) := ⟨n.toNat, by omega⟩
  have hm : m < 18446744073709551616 := by omega
  unfold bits
  have h2 : (BitVec.ofInt IntKind.i64.bits (m : Int) &&& BitVec.ofInt IntKind.i64.bits 1).toNat = m % 2 := by
    rw [BitVec.toNat_and]
    have e1 : (BitVec.ofInt IntKind.i64.bits (m : Int)).toNat = m := by
      rw [BitVec.toNat_ofInt]
      show ((m : Int) % (18446744073709551616 : Nat)).toNat = m
      omega
    have e2 : (BitVec.ofInt IntKind.i64.bits 1).toNat = 1 := by decide
    rw [e1, e2, Nat.and_one_is_mod]
  show IntKind.i64.wrap ((BitVec.ofInt IntKind.i64.bits (m : Int) &&& BitVec.ofInt IntKind.i64.bits 1).toNat : Int) = _
  rw [h2, wrap64 _ (by omega) (by omega)]
  omega
theorem r15 : vev15_0 n = od n := by
  unfold vev15_0 od
  by_cases h0 : 1 ≤ n
  · rw [decide_eq_true h0, decide_eq_true (show n > 0 by omega)]
    by_cases h1 : n ≤ 2147483647
    · rw [decide_eq_true h1, and1 h0 h1]
      simp only [cond_true, Bool.true_and]
      exact Bool.eq_iff_iff.2 (by simp)
    · rw [decide_eq_false h1]; rfl
  · rw [decide_eq_false h0, decide_eq_false (show ¬ n > 0 by omega)]; rfl
theorem r16 : vev16_0 n = od n := by
  unfold vev16_0 od
  by_cases h0 : 1 ≤ n
  · rw [decide_eq_true h0, Int.tmod_eq_emod_of_nonneg (by omega)]
    by_cases h1 : n ≤ 2147483647
    · rw [decide_eq_true h1]
      simp only [cond_true, Bool.true_and]
      exact Bool.eq_iff_iff.2 (by simp)
    · rw [decide_eq_false h1]; rfl
  · rw [decide_eq_false h0]; rfl
theorem sk17_2 (hN : es.length ≤ 1000) : finL (g17_2 (tk, es, n)) (n17_2 (tk, es, n)) (0 : Int) = ((fs (fun i => at0 es i == n) 0 es.length : Nat) : Int) ∧ (spI g17_2 n17_2 y17_2 z17_2 d17_2 ((tk, es, n), (0 : Int))).fst = true ∧ xc17_2_0 tk es n ((fs (fun i => at0 es i == n) 0 es.length : Nat) : Int) = hasF (fun i => at0 es i == n) 0 es.length :=
  seek (go := g17_2) (next := n17_2) (alts := y17_2) (dB := z17_2) (d := d17_2) (p := (tk, es, n)) (fun i => at0 es i == n) 0 es.length (fun t => xc17_2_0 tk es n t) (fun i hs hi => by
    show go17_2 tk es n (i : Int) = _
    unfold go17_2
    rw [dge, dlt, Int.toNat_natCast]
    by_cases h : i < es.length
    · rw [decide_eq_true h]
      show (bif (at0 es i == n) then false else true) = (true && !(at0 es i == n))
      cases (at0 es i == n) <;> rfl
    · rw [decide_eq_false h]
      rfl) (fun i hi => step64 i _ hi (by omega)) (fun i hs hi => by
    show xc17_2_0 tk es n (i : Int) = _
    unfold xc17_2_0
    rw [dge, dlt, Int.toNat_natCast]
    by_cases h : i < es.length
    · rw [decide_eq_true h]
      rfl
    · rw [decide_eq_false h]
      rfl) (fun i => Bool.or_false _) (fun i => by
    show xc17_2_1 tk es n (i : Int) = _
    unfold xc17_2_1
    rw [dlt]
    cases decide (i < es.length) <;> rfl)
theorem r17 (hN : es.length ≤ 1000) : vev17_0 tk es n = inn es n ∧ vev17_1 tk es n = true := by
  have h := sk17_2 (tk := tk) (n := n) hN
  unfold vev17_0 vev17_1 rev17_0
  rw [h.1, h.2.1, h.2.2]
  exact ⟨by show (bif inn es n then true else false) = _; cases inn es n <;> rfl, rfl⟩
theorem sk26_2 (hN : es.length ≤ 1000) : finL (g26_2 (tk, es, n, (es.length : Int))) (n26_2 (tk, es, n, (es.length : Int))) (0 : Int) = ((fs (fun i => n == at0 es i) 0 es.length : Nat) : Int) ∧ (spI g26_2 n26_2 y26_2 z26_2 d26_2 ((tk, es, n, (es.length : Int)), (0 : Int))).fst = true ∧ xc26_2_0 tk es n (es.length : Int) ((fs (fun i => n == at0 es i) 0 es.length : Nat) : Int) = hasF (fun i => n == at0 es i) 0 es.length :=
  seek (go := g26_2) (next := n26_2) (alts := y26_2) (dB := z26_2) (d := d26_2) (p := (tk, es, n, (es.length : Int))) (fun i => n == at0 es i) 0 es.length (fun t => xc26_2_0 tk es n (es.length : Int) t) (fun i hs hi => by
    show go26_2 tk es n (es.length : Int) (i : Int) = _
    unfold go26_2
    rw [dge, dlt, Int.toNat_natCast]
    by_cases h : i < es.length
    · rw [decide_eq_true h]
      show (bif (n == at0 es i) then false else true) = (true && !(n == at0 es i))
      cases (n == at0 es i) <;> rfl
    · rw [decide_eq_false h]
      rfl) (fun i hi => step64 i _ hi (by omega)) (fun i hs hi => by
    show xc26_2_0 tk es n (es.length : Int) (i : Int) = _
    unfold xc26_2_0
    rw [dge, dlt, Int.toNat_natCast]
    by_cases h : i < es.length
    · rw [decide_eq_true h]
      rfl
    · rw [decide_eq_false h]
      rfl) (fun i => Bool.or_false _) (fun i => by
    show xc26_2_1 tk es n (es.length : Int) (i : Int) = _
    unfold xc26_2_1
    rw [dlt]
    cases decide (i < es.length) <;> rfl)
theorem inn_sym : hasF (fun i => n == at0 es i) 0 es.length = inn es n := hasF_congr (fun i _ _ => Bool.eq_iff_iff.2 (by simp; exact eq_comm))
theorem r26 (hN : es.length ≤ 1000) : vev26_0 tk es n = (bif inn es n then ((fs (fun i => n == at0 es i) 0 es.length : Nat) : Int) else -1) ∧ vev26_1 tk es n = true := by
  have h := sk26_2 (tk := tk) (n := n) hN
  unfold vev26_0 vev26_1 rev26_0
  rw [h.1, h.2.1, h.2.2, inn_sym]
  exact ⟨rfl, rfl⟩
theorem r29 (hN : es.length ≤ 1000) : vev29_0 tk es n = inn es n ∧ vev29_1 tk es n = true := by
  unfold vev29_0 vev29_1
  rw [(r26 hN).1, (r26 hN).2]
  refine ⟨?_, rfl⟩
  cases inn es n with
  | true => exact decide_eq_true (show ((fs (fun i => n == at0 es i) 0 es.length : Nat) : Int) ≥ 0 by omega)
  | false => rfl
/-- Some number is not above the one ahead of it. -/
def fall (es : List (List AV)) : Bool := hasF (fun i => decide (at0 es i ≤ at0 es (i - 1))) 1 es.length
theorem sk19_2 (hN : es.length ≤ 1000) : finL (g19_2 (tk, es)) (n19_2 (tk, es)) (1 : Int) = ((fs (fun i => decide (at0 es i ≤ at0 es (i - 1))) 1 es.length : Nat) : Int) ∧ (spI g19_2 n19_2 y19_2 z19_2 d19_2 ((tk, es), (1 : Int))).fst = true ∧ xc19_2_0 tk es ((fs (fun i => decide (at0 es i ≤ at0 es (i - 1))) 1 es.length : Nat) : Int) = hasF (fun i => decide (at0 es i ≤ at0 es (i - 1))) 1 es.length :=
  seek (go := g19_2) (next := n19_2) (alts := y19_2) (dB := z19_2) (d := d19_2) (p := (tk, es)) (fun i => decide (at0 es i ≤ at0 es (i - 1))) 1 es.length (fun t => xc19_2_0 tk es t) (fun i hs hi => by
    show go19_2 tk es (i : Int) = _
    unfold go19_2 rn19_2_1 rn19_2_2 rn19_2_0
    rw [dge, dlt, Int.toNat_natCast]
    by_cases h : i < es.length
    · have hw : IntKind.i64.wrap ((i : Int) - 1) = ((i - 1 : Nat) : Int) := by rw [wrap64 _ (by omega) (by omega)]; omega
      rw [decide_eq_true h, hw, dge, dlt, Int.toNat_natCast, decide_eq_true (show i - 1 < es.length by omega)]
      show (bif (decide (at0 es i ≤ at0 es (i - 1))) then false else true) = (true && !(decide (at0 es i ≤ at0 es (i - 1))))
      cases (decide (at0 es i ≤ at0 es (i - 1))) <;> rfl
    · rw [decide_eq_false h]
      rfl) (fun i hi => step64 i _ hi (by omega)) (fun i hs hi => by
    show xc19_2_0 tk es (i : Int) = _
    unfold xc19_2_0 rn19_2_1 rn19_2_2 rn19_2_0
    rw [dge, dlt, Int.toNat_natCast]
    by_cases h : i < es.length
    · have hw : IntKind.i64.wrap ((i : Int) - 1) = ((i - 1 : Nat) : Int) := by rw [wrap64 _ (by omega) (by omega)]; omega
      rw [decide_eq_true h, hw, dge, dlt, Int.toNat_natCast, decide_eq_true (show i - 1 < es.length by omega)]
      rfl
    · rw [decide_eq_false h]
      rfl) (fun i => Bool.or_false _) (fun i => by
    show xc19_2_1 tk es (i : Int) = _
    unfold xc19_2_1
    rw [dlt]
    cases decide (i < es.length) <;> rfl)
theorem sk10_6 (hN : es.length ≤ 1000) : finL (g10_6 (l, tk, es, tk2, es2)) (n10_6 (l, tk, es, tk2, es2)) (1 : Int) = ((fs (fun i => decide (at0 es i ≤ at0 es (i - 1))) 1 es.length : Nat) : Int) ∧ (spI g10_6 n10_6 y10_6 z10_6 d10_6 ((l, tk, es, tk2, es2), (1 : Int))).fst = true ∧ xc10_6_0 ((fs (fun i => decide (at0 es i ≤ at0 es (i - 1))) 1 es.length : Nat) : Int) l tk es tk2 es2 = hasF (fun i => decide (at0 es i ≤ at0 es (i - 1))) 1 es.length :=
  seek (go := g10_6) (next := n10_6) (alts := y10_6) (dB := z10_6) (d := d10_6) (p := (l, tk, es, tk2, es2)) (fun i => decide (at0 es i ≤ at0 es (i - 1))) 1 es.length (fun t => xc10_6_0 t l tk es tk2 es2) (fun i hs hi => by
    show go10_6 (i : Int) l tk es tk2 es2 = _
    unfold go10_6 rn10_6_1 rn10_6_2 rn10_6_0
    rw [dge, dlt, Int.toNat_natCast]
    by_cases h : i < es.length
    · have hw : IntKind.i64.wrap ((i : Int) - 1) = ((i - 1 : Nat) : Int) := by rw [wrap64 _ (by omega) (by omega)]; omega
      rw [decide_eq_true h, hw, dge, dlt, Int.toNat_natCast, decide_eq_true (show i - 1 < es.length by omega)]
      show (bif (decide (at0 es i ≤ at0 es (i - 1))) then false else true) = (true && !(decide (at0 es i ≤ at0 es (i - 1))))
      cases (decide (at0 es i ≤ at0 es (i - 1))) <;> rfl
    · rw [decide_eq_false h]
      rfl) (fun i hi => step64 i _ hi (by omega)) (fun i hs hi => by
    show xc10_6_0 (i : Int) l tk es tk2 es2 = _
    unfold xc10_6_0 rn10_6_1 rn10_6_2 rn10_6_0
    rw [dge, dlt, Int.toNat_natCast]
    by_cases h : i < es.length
    · have hw : IntKind.i64.wrap ((i : Int) - 1) = ((i - 1 : Nat) : Int) := by rw [wrap64 _ (by omega) (by omega)]; omega
      rw [decide_eq_true h, hw, dge, dlt, Int.toNat_natCast, decide_eq_true (show i - 1 < es.length by omega)]
      rfl
    · rw [decide_eq_false h]
      rfl) (fun i => Bool.or_false _) (fun i => by
    show xc10_6_1 (i : Int) l tk es tk2 es2 = _
    unfold xc10_6_1
    rw [dlt]
    cases decide (i < es.length) <;> rfl)
theorem r19 (hN : es.length ≤ 1000) : vev19_0 tk es = !fall es ∧ vev19_1 tk es = true := by
  have h := sk19_2 (tk := tk) hN
  unfold vev19_0 vev19_1 rev19_0
  rw [h.1, h.2.1, h.2.2]
  exact ⟨by show (bif fall es then false else true) = _; cases fall es <;> rfl, rfl⟩
/-- Some number is none that began. -/
def alien (l : Int) (es : List (List AV)) : Bool := hasF (fun i => !od (at0 es i) || decide (at0 es i > l)) 0 es.length
theorem r18 : vev18_0 n l tk es tk2 es2 = (!od n || decide (n > l)) := by
  unfold vev18_0
  rw [r15]
  cases od n <;> rfl
theorem sk28_2 (hN : es0.length ≤ 1000) : finL (g28_2 (tk0, es0, (es0.length : Int), l, tk, es, tk2, es2)) (n28_2 (tk0, es0, (es0.length : Int), l, tk, es, tk2, es2)) (0 : Int) = ((fs (fun i => !od (at0 es0 i) || decide (at0 es0 i > l)) 0 es0.length : Nat) : Int) ∧ (spI g28_2 n28_2 y28_2 z28_2 d28_2 ((tk0, es0, (es0.length : Int), l, tk, es, tk2, es2), (0 : Int))).fst = true ∧ xc28_2_0 tk0 es0 (es0.length : Int) ((fs (fun i => !od (at0 es0 i) || decide (at0 es0 i > l)) 0 es0.length : Nat) : Int) l tk es tk2 es2 = hasF (fun i => !od (at0 es0 i) || decide (at0 es0 i > l)) 0 es0.length :=
  seek (go := g28_2) (next := n28_2) (alts := y28_2) (dB := z28_2) (d := d28_2) (p := (tk0, es0, (es0.length : Int), l, tk, es, tk2, es2)) (fun i => !od (at0 es0 i) || decide (at0 es0 i > l)) 0 es0.length (fun t => xc28_2_0 tk0 es0 (es0.length : Int) t l tk es tk2 es2) (fun i hs hi => by
    show go28_2 tk0 es0 (es0.length : Int) (i : Int) l tk es tk2 es2 = _
    unfold go28_2
    rw [dge, dlt, Int.toNat_natCast]
    by_cases h : i < es0.length
    · rw [decide_eq_true h, r18]
      show (bif (!od (at0 es0 i) || decide (at0 es0 i > l)) then false else true) = (true && !(!od (at0 es0 i) || decide (at0 es0 i > l)))
      cases (!od (at0 es0 i) || decide (at0 es0 i > l)) <;> rfl
    · rw [decide_eq_false h]
      rfl) (fun i hi => step64 i _ hi (by omega)) (fun i hs hi => by
    show xc28_2_0 tk0 es0 (es0.length : Int) (i : Int) l tk es tk2 es2 = _
    unfold xc28_2_0
    rw [dge, dlt, Int.toNat_natCast]
    by_cases h : i < es0.length
    · rw [decide_eq_true h, r18]
      rfl
    · rw [decide_eq_false h]
      rfl) (fun i => Bool.or_false _) (fun i => by
    show xc28_2_1 tk0 es0 (es0.length : Int) (i : Int) l tk es tk2 es2 = _
    unfold xc28_2_1
    rw [dlt]
    cases decide (i < es0.length) <;> rfl)
theorem r20 (hN : es0.length ≤ 1000) : vev20_0 tk0 es0 l tk es tk2 es2 = alien l es0 ∧ vev20_1 tk0 es0 l tk es tk2 es2 = true := by
  have h := sk28_2 (tk0 := tk0) (l := l) (tk := tk) (es := es) (tk2 := tk2) (es2 := es2) hN
  unfold vev20_0 vev20_1 rev20_0 vev28_0 vev28_1 rev28_0
  rw [h.1, h.2.1, h.2.2]
  refine ⟨?_, rfl⟩
  show decide ((bif alien l es0 then _ else (-1 : Int)) ≥ 0) = _
  cases alien l es0 with
  | true => exact decide_eq_true (show ((fs _ 0 es0.length : Nat) : Int) ≥ 0 by omega)
  | false => rfl
theorem sk22_2 (hN : es.length ≤ 1000) : finL (g22_2 (tk, es, l)) (n22_2 (tk, es, l)) (0 : Int) = ((fs (fun i => !od (at0 es i) || decide (at0 es i > l)) 0 es.length : Nat) : Int) ∧ (spI g22_2 n22_2 y22_2 z22_2 d22_2 ((tk, es, l), (0 : Int))).fst = true ∧ xc22_2_0 tk es l ((fs (fun i => !od (at0 es i) || decide (at0 es i > l)) 0 es.length : Nat) : Int) = hasF (fun i => !od (at0 es i) || decide (at0 es i > l)) 0 es.length :=
  seek (go := g22_2) (next := n22_2) (alts := y22_2) (dB := z22_2) (d := d22_2) (p := (tk, es, l)) (fun i => !od (at0 es i) || decide (at0 es i > l)) 0 es.length (fun t => xc22_2_0 tk es l t) (fun i hs hi => by
    show go22_2 tk es l (i : Int) = _
    unfold go22_2 rn22_2_0
    rw [dge, dlt, Int.toNat_natCast]
    by_cases h : i < es.length
    · have e3 : intOf ((es.getD i []).getD 0 AV.junk) = at0 es i := rfl
      rw [decide_eq_true h, e3, r16]
      cases (od (at0 es i)) <;> cases (decide (at0 es i > l)) <;> rfl
    · rw [decide_eq_false h]
      rfl) (fun i hi => step64 i _ hi (by omega)) (fun i hs hi => by
    show xc22_2_0 tk es l (i : Int) = _
    unfold xc22_2_0 rn22_2_0
    rw [dge, dlt, Int.toNat_natCast]
    by_cases h : i < es.length
    · have e3 : intOf ((es.getD i []).getD 0 AV.junk) = at0 es i := rfl
      rw [decide_eq_true h, e3, r16]
      cases (od (at0 es i)) <;> cases (decide (at0 es i > l)) <;> rfl
    · rw [decide_eq_false h]
      rfl) (fun i => Bool.or_false _) (fun i => by
    show xc22_2_1 tk es l (i : Int) = _
    unfold xc22_2_1
    rw [dlt]
    cases decide (i < es.length) <;> rfl)
theorem r22 (hN : es.length ≤ 1000) : vev22_0 tk es l = !alien l es ∧ vev22_1 tk es l = true := by
  have h := sk22_2 (tk := tk) (l := l) hN
  unfold vev22_0 vev22_1 rev22_0
  rw [h.1, h.2.1, h.2.2]
  exact ⟨by show (bif alien l es then false else true) = _; cases alien l es <;> rfl, rfl⟩
/-- Some number is open and cut, or cut twice. -/
def twc (es es2 : List (List AV)) : Bool := hasF (fun i => inn es (at0 es2 i) || inn (es2.take i) (at0 es2 i)) 0 es2.length
theorem tk_len {i : Nat} (hN : es2.length ≤ 1000) : (es2.take i).length ≤ 1000 := by rw [List.length_take]; omega
theorem bnd0 {i N : Nat} (h : i < N) : bnd 0 (i : Int) (N : Int) = true := by
  unfold bnd
  rw [decide_eq_true (show (0 : Int) ≤ 0 by omega), decide_eq_true (show (0 : Int) ≤ (i : Int) by omega), decide_eq_true (show (i : Int) ≤ (N : Int) by omega)]
  rfl
theorem sk21_2 (hN : es.length ≤ 1000) (hN2 : es2.length ≤ 1000) : finL (g21_2 (tk2, es2, (es2.length : Int), l, tk, es, tk2, es2)) (n21_2 (tk2, es2, (es2.length : Int), l, tk, es, tk2, es2)) (0 : Int) = ((fs (fun i => inn es (at0 es2 i) || inn (es2.take i) (at0 es2 i)) 0 es2.length : Nat) : Int) ∧ (spI g21_2 n21_2 y21_2 z21_2 d21_2 ((tk2, es2, (es2.length : Int), l, tk, es, tk2, es2), (0 : Int))).fst = true ∧ xc21_2_0 tk2 es2 (es2.length : Int) ((fs (fun i => inn es (at0 es2 i) || inn (es2.take i) (at0 es2 i)) 0 es2.length : Nat) : Int) l tk es tk2 es2 = hasF (fun i => inn es (at0 es2 i) || inn (es2.take i) (at0 es2 i)) 0 es2.length :=
  seek (go := g21_2) (next := n21_2) (alts := y21_2) (dB := z21_2) (d := d21_2) (p := (tk2, es2, (es2.length : Int), l, tk, es, tk2, es2)) (fun i => inn es (at0 es2 i) || inn (es2.take i) (at0 es2 i)) 0 es2.length (fun t => xc21_2_0 tk2 es2 (es2.length : Int) t l tk es tk2 es2) (fun i hs hi => by
    show go21_2 tk2 es2 (es2.length : Int) (i : Int) l tk es tk2 es2 = _
    unfold go21_2 rn21_2_0
    rw [dge, dlt, Int.toNat_natCast]
    by_cases h : i < es2.length
    · have e1 := r29 (tk := tk) (es := es) (n := at0 es2 i) hN
      have e2 := r29 (tk := tk2) (es := es2.take i) (n := at0 es2 i) (tk_len hN2)
      have e3 : intOf ((es2.getD i []).getD 0 AV.junk) = at0 es2 i := rfl
      rw [decide_eq_true h, e3, e1.1, e1.2, e2.1, e2.2, bnd0 h]
      cases (inn es (at0 es2 i)) <;> cases (inn (es2.take i) (at0 es2 i)) <;> rfl
    · rw [decide_eq_false h]
      rfl) (fun i hi => step64 i _ hi (by omega)) (fun i hs hi => by
    show xc21_2_0 tk2 es2 (es2.length : Int) (i : Int) l tk es tk2 es2 = _
    unfold xc21_2_0 rn21_2_0
    rw [dge, dlt, Int.toNat_natCast]
    by_cases h : i < es2.length
    · have e1 := r29 (tk := tk) (es := es) (n := at0 es2 i) hN
      have e2 := r29 (tk := tk2) (es := es2.take i) (n := at0 es2 i) (tk_len hN2)
      have e3 : intOf ((es2.getD i []).getD 0 AV.junk) = at0 es2 i := rfl
      rw [decide_eq_true h, e3, e1.1, e1.2, e2.1, e2.2, bnd0 h]
      cases (inn es (at0 es2 i)) <;> cases (inn (es2.take i) (at0 es2 i)) <;> rfl
    · rw [decide_eq_false h]
      rfl) (fun i => Bool.or_false _) (fun i => by
    show xc21_2_1 tk2 es2 (es2.length : Int) (i : Int) l tk es tk2 es2 = _
    unfold xc21_2_1
    rw [dlt]
    cases decide (i < es2.length) <;> rfl)
theorem sk10_13 (hN : es.length ≤ 1000) (hN2 : es2.length ≤ 1000) : finL (g10_13 (l, tk, es, tk2, es2)) (n10_13 (l, tk, es, tk2, es2)) (0 : Int) = ((fs (fun i => inn es (at0 es2 i) || inn (es2.take i) (at0 es2 i)) 0 es2.length : Nat) : Int) ∧ (spI g10_13 n10_13 y10_13 z10_13 d10_13 ((l, tk, es, tk2, es2), (0 : Int))).fst = true ∧ xc10_13_0 ((fs (fun i => inn es (at0 es2 i) || inn (es2.take i) (at0 es2 i)) 0 es2.length : Nat) : Int) l tk es tk2 es2 = hasF (fun i => inn es (at0 es2 i) || inn (es2.take i) (at0 es2 i)) 0 es2.length :=
  seek (go := g10_13) (next := n10_13) (alts := y10_13) (dB := z10_13) (d := d10_13) (p := (l, tk, es, tk2, es2)) (fun i => inn es (at0 es2 i) || inn (es2.take i) (at0 es2 i)) 0 es2.length (fun t => xc10_13_0 t l tk es tk2 es2) (fun i hs hi => by
    show go10_13 (i : Int) l tk es tk2 es2 = _
    unfold go10_13 rn10_13_0
    rw [dge, dlt, Int.toNat_natCast]
    by_cases h : i < es2.length
    · have e1 := r17 (tk := tk) (es := es) (n := at0 es2 i) hN
      have e2 := r17 (tk := tk2) (es := es2.take i) (n := at0 es2 i) (tk_len hN2)
      have e3 : intOf ((es2.getD i []).getD 0 AV.junk) = at0 es2 i := rfl
      rw [decide_eq_true h, e3, e1.1, e1.2, e2.1, e2.2, bnd0 h]
      cases (inn es (at0 es2 i)) <;> cases (inn (es2.take i) (at0 es2 i)) <;> rfl
    · rw [decide_eq_false h]
      rfl) (fun i hi => step64 i _ hi (by omega)) (fun i hs hi => by
    show xc10_13_0 (i : Int) l tk es tk2 es2 = _
    unfold xc10_13_0 rn10_13_0
    rw [dge, dlt, Int.toNat_natCast]
    by_cases h : i < es2.length
    · have e1 := r17 (tk := tk) (es := es) (n := at0 es2 i) hN
      have e2 := r17 (tk := tk2) (es := es2.take i) (n := at0 es2 i) (tk_len hN2)
      have e3 : intOf ((es2.getD i []).getD 0 AV.junk) = at0 es2 i := rfl
      rw [decide_eq_true h, e3, e1.1, e1.2, e2.1, e2.2, bnd0 h]
      cases (inn es (at0 es2 i)) <;> cases (inn (es2.take i) (at0 es2 i)) <;> rfl
    · rw [decide_eq_false h]
      rfl) (fun i => Bool.or_false _) (fun i => by
    show xc10_13_1 (i : Int) l tk es tk2 es2 = _
    unfold xc10_13_1
    rw [dlt]
    cases decide (i < es2.length) <;> rfl)
theorem r21 (hN : es.length ≤ 1000) (hN2 : es2.length ≤ 1000) : vev21_0 l tk es tk2 es2 = twc es es2 ∧ vev21_1 l tk es tk2 es2 = true := by
  have h := sk21_2 (tk := tk) (tk2 := tk2) (l := l) hN hN2
  unfold vev21_0 vev21_1 rev21_0
  rw [h.1, h.2.1, h.2.2]
  exact ⟨by show (bif twc es es2 then true else false) = _; cases twc es es2 <;> rfl, rfl⟩
/-- What Check answers. -/
def chkI (l : Int) (es es2 : List (List AV)) : Int := bif (bif l != 0 then !od l else false) then 8 else bif (bif decide (es.length > 16) then true else decide (es2.length > 8)) then 7 else bif fall es then 10 else bif (bif alien l es then true else alien l es2) then 4 else bif twc es es2 then 12 else 0
theorem dgt {a b : Nat} : decide ((a : Int) > (b : Int)) = decide (a > b) := decide_eq_decide.2 (by omega)
theorem r9 (hN : es.length ≤ 1000) (hN2 : es2.length ≤ 1000) : vev9_0 l tk es tk2 es2 = chkI l es es2 ∧ vev9_1 l tk es tk2 es2 = true := by
  unfold vev9_0 vev9_1 chkI
  rw [r15, (r19 hN).1, (r19 hN).2, (r20 hN).1, (r20 hN).2, (r20 hN2).1, (r20 hN2).2, (r21 hN hN2).1, (r21 hN hN2).2, show decide ((es.length : Int) > 16) = decide (es.length > 16) from dgt (b := 16), show decide ((es2.length : Int) > 8) = decide (es2.length > 8) from dgt (b := 8)]
  cases (bif l != 0 then !od l else false) <;> cases (bif decide (es.length > 16) then true else decide (es2.length > 8)) <;> cases fall es <;> cases alien l es <;> cases alien l es2 <;> cases twc es es2 <;> exact ⟨rfl, rfl⟩
theorem r10 (hN : es.length ≤ 1000) (hN2 : es2.length ≤ 1000) : vev10_0 l tk es tk2 es2 = chkI l es es2 ∧ vev10_1 l tk es tk2 es2 = true := by
  have h1 := sk10_6 (tk := tk) (l := l) (tk2 := tk2) (es2 := es2) hN
  have h2 := sk10_13 (tk := tk) (l := l) (tk2 := tk2) hN hN2
  unfold vev10_0 vev10_1 chkI rev10_0 rev10_1
  rw [h1.1, h1.2.1, h1.2.2, h2.1, h2.2.1, h2.2.2, r16, (r22 hN).1, (r22 hN).2, (r22 hN2).1, (r22 hN2).2, show decide ((es.length : Int) > 16) = decide (es.length > 16) from dgt (b := 16), show decide ((es2.length : Int) > 8) = decide (es2.length > 8) from dgt (b := 8)]
  show (bif (bif l != 0 then !od l else false) then (8 : Int) else bif (bif decide (es.length > 16) then true else decide (es2.length > 8)) then 7 else bif fall es then 10 else bif (bif true then bif !!alien l es then true else bif true then !!alien l es2 else false else false) then 4 else bif twc es es2 then 12 else 0) = _ ∧ (bif (bif l != 0 then !od l else false) then true else bif (bif decide (es.length > 16) then true else decide (es2.length > 8)) then true else bif true then bif fall es then true else bif (bif true then bif !!alien l es then true else true else false) then bif (bif true then bif !!alien l es then true else bif true then !!alien l es2 else false else false) then true else bif true then true else false else false else false) = true
  cases (bif l != 0 then !od l else false) <;> cases (bif decide (es.length > 16) then true else decide (es2.length > 8)) <;> cases fall es <;> cases alien l es <;> cases alien l es2 <;> cases twc es es2 <;> exact ⟨rfl, rfl⟩
/-- A stream's class. -/
def clsI (l : Int) (es es2 : List (List AV)) (id : Int) : Int := bif !od id then 0 else bif decide (id > l) then 1 else bif inn es id then 2 else bif inn es2 id then 4 else 3
theorem r8 (hN : es.length ≤ 1000) (hN2 : es2.length ≤ 1000) : vev8_0 l es es2 id = clsI l es es2 id ∧ vev8_1 l es es2 id = true := by
  unfold vev8_0 vev8_1 clsI
  rw [r16, (r17 hN).1, (r17 hN).2, (r17 hN2).1, (r17 hN2).2]
  cases od id <;> cases decide (id > l) <;> cases inn es id <;> cases inn es2 id <;> exact ⟨rfl, rfl⟩
theorem sk7_10 {t5 t6 t24 : Int} {t23 t23b : List (List AV)} (hN : es.length ≤ 1000) (h6 : (decide ((0 : Int) ≤ t6) && decide (t6 < ((2 : Nat) : Int))) = true) : finL (g7_10 (id, t5, t6, t23, t23b, t24, es, (es.length : Int))) (n7_10 (id, t5, t6, t23, t23b, t24, es, (es.length : Int))) (0 : Int) = ((fs (fun i => at0 es i == id) 0 es.length : Nat) : Int) ∧ (spI g7_10 n7_10 y7_10 z7_10 d7_10 ((id, t5, t6, t23, t23b, t24, es, (es.length : Int)), (0 : Int))).fst = true ∧ xc7_10_0 id t5 t6 t23 t23b t24 es (es.length : Int) ((fs (fun i => at0 es i == id) 0 es.length : Nat) : Int) = inn es id :=
  seek (go := g7_10) (next := n7_10) (alts := y7_10) (dB := z7_10) (d := d7_10) (p := (id, t5, t6, t23, t23b, t24, es, (es.length : Int))) (fun i => at0 es i == id) 0 es.length (fun t => xc7_10_0 id t5 t6 t23 t23b t24 es (es.length : Int) t) (fun i hs hi => by
    show go7_10 id t5 t6 t23 t23b t24 es (es.length : Int) (i : Int) = _
    unfold go7_10
    rw [dge, dlt, Int.toNat_natCast]
    cases decide (i < es.length) with
    | false => rfl
    | true =>
      show (bif at0 es i == id then false else true) = (true && !(at0 es i == id))
      cases (at0 es i == id) <;> rfl) (fun i hi => step64 i _ hi (by omega)) (fun i hs hi => by
    show xc7_10_0 id t5 t6 t23 t23b t24 es (es.length : Int) (i : Int) = _
    unfold xc7_10_0
    rw [dge, dlt, Int.toNat_natCast, h6]
    cases decide (i < es.length) with
    | false => rfl
    | true =>
      show (bif at0 es i == id then true else false) = (true && (at0 es i == id))
      cases (at0 es i == id) <;> rfl) (fun i => Bool.or_false _) (fun i => by
    show xc7_10_1 id t5 t6 t23 t23b t24 es (es.length : Int) (i : Int) = _
    unfold xc7_10_1
    rw [dlt]
    cases decide (i < es.length) <;> rfl)
theorem in2a : (decide ((0 : Int) ≤ 0) && decide ((0 : Int) < ((2 : Nat) : Int))) = true := rfl
theorem in2b : (decide ((0 : Int) ≤ 1) && decide ((1 : Int) < ((2 : Nat) : Int))) = true := rfl
theorem go7a (hN : es.length ≤ 1000) : go7_7 id 3 es es2 0 = !inn es id ∧ xc7_7_0 id 3 es es2 0 = inn es id := by
  have h := sk7_10 (id := id) (t5 := 3) (t6 := 0) (t24 := 0) (t23 := es) (t23b := es2) (es := es) hN in2a
  have e0 : rn7_7_0 id 3 es es2 0 = es := rfl
  have e1 : rn7_7_1 id 3 es es2 0 = (es.length : Int) := rfl
  have e2 : rn7_7_2 id 3 es es2 0 = ((fs (fun i => at0 es i == id) 0 es.length : Nat) : Int) := by unfold rn7_7_2; rw [e0, e1, h.1]
  unfold go7_7 xc7_7_0
  rw [e0, e1, e2, h.2.1, h.2.2, in2a]
  cases inn es id <;> exact ⟨rfl, rfl⟩
theorem go7b (hN : es2.length ≤ 1000) : go7_7 id 3 es es2 1 = !inn es2 id ∧ xc7_7_0 id 3 es es2 1 = inn es2 id := by
  have h := sk7_10 (id := id) (t5 := 3) (t6 := 1) (t24 := 1) (t23 := es) (t23b := es2) (es := es2) hN in2b
  have e0 : rn7_7_0 id 3 es es2 1 = es2 := rfl
  have e1 : rn7_7_1 id 3 es es2 1 = (es2.length : Int) := rfl
  have e2 : rn7_7_2 id 3 es es2 1 = ((fs (fun i => at0 es2 i == id) 0 es2.length : Nat) : Int) := by unfold rn7_7_2; rw [e0, e1, h.1]
  unfold go7_7 xc7_7_0
  rw [e0, e1, e2, h.2.1, h.2.2, in2b]
  cases inn es2 id <;> exact ⟨rfl, rfl⟩
theorem r7 (hN : es.length ≤ 1000) (hN2 : es2.length ≤ 1000) : vev7_0 l es es2 id = clsI l es es2 id ∧ vev7_1 l es es2 id = true := by
  have ga := go7a (id := id) (es2 := es2) hN
  have gb := go7b (id := id) (es := es) hN2
  have w0 : n7_7 (id, 3, es, es2) 0 = 1 := by show IntKind.i64.wrap (0 + 1) = 1; rfl
  have w1 : n7_7 (id, 3, es, es2) 1 = 2 := by show IntKind.i64.wrap (1 + 1) = 2; rfl
  have g2 : go7_7 id 3 es es2 2 = false := rfl
  have hE : Ends (g7_7 (id, 3, es, es2)) (n7_7 (id, 3, es, es2)) (0 : Int) (bif inn es id then 0 else bif inn es2 id then 1 else 2) := by
    cases ha : inn es id with
    | true => exact Ends.stop (by show go7_7 id 3 es es2 0 = false; rw [ga.1, ha]; rfl)
    | false =>
      refine Ends.step (by show go7_7 id 3 es es2 0 = true; rw [ga.1, ha]; rfl) ?_
      rw [w0]
      cases hb : inn es2 id with
      | true => exact Ends.stop (by show go7_7 id 3 es es2 1 = false; rw [gb.1, hb]; rfl)
      | false =>
        refine Ends.step (by show go7_7 id 3 es es2 1 = true; rw [gb.1, hb]; rfl) ?_
        rw [w1]
        exact Ends.stop g2
  have hf := hE.fin
  unfold vev7_0 vev7_1 clsI rev7_0
  rw [r15]
  simp only [spI]
  rw [hf.2, hf.1]
  have hv0 : xv7_7_0_0 id 3 es es2 0 = 2 := rfl
  have hv1 : xv7_7_0_0 id 3 es es2 1 = 4 := rfl
  have hv2 : xv7_7_0_0 id 3 es es2 2 = 3 := rfl
  have y0 : ∀ t : Int, ((y7_7 (id, 3, es, es2) t).any (fun q => q.1) || z7_7 (id, 3, es, es2) t) = xc7_7_0 id 3 es es2 t := fun t => rfl
  rw [y0]
  cases ha : inn es id with
  | true =>
    dsimp only [cond_true]
    rw [ga.2, ha, hv0]
    cases od id <;> cases decide (id > l) <;> exact ⟨rfl, rfl⟩
  | false =>
    cases hb : inn es2 id with
    | true =>
      dsimp only [cond_true, cond_false]
      rw [gb.2, hb, hv1]
      cases od id <;> cases decide (id > l) <;> exact ⟨rfl, rfl⟩
    | false =>
      dsimp only [cond_false]
      rw [show xc7_7_0 id 3 es es2 2 = true from rfl, hv2]
      cases od id <;> cases decide (id > l) <;> exact ⟨rfl, rfl⟩
/-- Are two lists the same? -/
def eqI (es es3 : List (List AV)) : Bool := bif (es.length : Int) != (es3.length : Int) then false else !hasF (fun i => at0 es i != at0 es3 i) 0 es.length
theorem sk23_4 (hN : es.length ≤ 1000) (hq0 : es.length = es3.length) : finL (g23_4 (tk, es, tk2, es3, (es.length : Int))) (n23_4 (tk, es, tk2, es3, (es.length : Int))) (0 : Int) = ((fs (fun i => at0 es i != at0 es3 i) 0 es.length : Nat) : Int) ∧ (spI g23_4 n23_4 y23_4 z23_4 d23_4 ((tk, es, tk2, es3, (es.length : Int)), (0 : Int))).fst = true ∧ xc23_4_0 tk es tk2 es3 (es.length : Int) ((fs (fun i => at0 es i != at0 es3 i) 0 es.length : Nat) : Int) = hasF (fun i => at0 es i != at0 es3 i) 0 es.length :=
  seek (go := g23_4) (next := n23_4) (alts := y23_4) (dB := z23_4) (d := d23_4) (p := (tk, es, tk2, es3, (es.length : Int))) (fun i => at0 es i != at0 es3 i) 0 es.length (fun t => xc23_4_0 tk es tk2 es3 (es.length : Int) t) (fun i hs hi => by
    show go23_4 tk es tk2 es3 (es.length : Int) (i : Int) = _
    unfold go23_4
    rw [dge, Int.toNat_natCast, dlt (N := es.length)]
    by_cases h : i < es.length
    · have hq : i < es3.length := by omega
      rw [decide_eq_true h, dlt, decide_eq_true hq]
      show (bif (at0 es i != at0 es3 i) then false else true) = (true && !(at0 es i != at0 es3 i))
      cases (at0 es i != at0 es3 i) <;> rfl
    · rw [decide_eq_false h]
      rfl) (fun i hi => step64 i _ hi (by omega)) (fun i hs hi => by
    show xc23_4_0 tk es tk2 es3 (es.length : Int) (i : Int) = _
    unfold xc23_4_0
    rw [dge, Int.toNat_natCast, dlt (N := es.length)]
    by_cases h : i < es.length
    · have hq : i < es3.length := by omega
      rw [decide_eq_true h, dlt, decide_eq_true hq]
      rfl
    · rw [decide_eq_false h]
      rfl) (fun i => Bool.or_false _) (fun i => by
    show xc23_4_1 tk es tk2 es3 (es.length : Int) (i : Int) = _
    unfold xc23_4_1
    rw [dlt]
    cases decide (i < es.length) <;> rfl)
theorem sk24_4 (hN : es.length ≤ 1000) (hq0 : es.length = es3.length) : finL (g24_4 (tk, es, tk2, es3)) (n24_4 (tk, es, tk2, es3)) (0 : Int) = ((fs (fun i => at0 es i != at0 es3 i) 0 es.length : Nat) : Int) ∧ (spI g24_4 n24_4 y24_4 z24_4 d24_4 ((tk, es, tk2, es3), (0 : Int))).fst = true ∧ xc24_4_0 tk es tk2 es3 ((fs (fun i => at0 es i != at0 es3 i) 0 es.length : Nat) : Int) = hasF (fun i => at0 es i != at0 es3 i) 0 es.length :=
  seek (go := g24_4) (next := n24_4) (alts := y24_4) (dB := z24_4) (d := d24_4) (p := (tk, es, tk2, es3)) (fun i => at0 es i != at0 es3 i) 0 es.length (fun t => xc24_4_0 tk es tk2 es3 t) (fun i hs hi => by
    show go24_4 tk es tk2 es3 (i : Int) = _
    unfold go24_4
    rw [dge, Int.toNat_natCast, dlt (N := es.length)]
    by_cases h : i < es.length
    · have hq : i < es3.length := by omega
      rw [decide_eq_true h, dlt, decide_eq_true hq]
      show (bif (at0 es i != at0 es3 i) then false else true) = (true && !(at0 es i != at0 es3 i))
      cases (at0 es i != at0 es3 i) <;> rfl
    · rw [decide_eq_false h]
      rfl) (fun i hi => step64 i _ hi (by omega)) (fun i hs hi => by
    show xc24_4_0 tk es tk2 es3 (i : Int) = _
    unfold xc24_4_0
    rw [dge, Int.toNat_natCast, dlt (N := es.length)]
    by_cases h : i < es.length
    · have hq : i < es3.length := by omega
      rw [decide_eq_true h, dlt, decide_eq_true hq]
      rfl
    · rw [decide_eq_false h]
      rfl) (fun i => Bool.or_false _) (fun i => by
    show xc24_4_1 tk es tk2 es3 (i : Int) = _
    unfold xc24_4_1
    rw [dlt]
    cases decide (i < es.length) <;> rfl)
theorem r23 (hN : es.length ≤ 1000) : vev23_0 tk es tk2 es3 = eqI es es3 ∧ vev23_1 tk es tk2 es3 = true := by
  unfold vev23_0 vev23_1 eqI rev23_0
  by_cases hq : es.length = es3.length
  · have h := sk23_4 (tk := tk) (tk2 := tk2) hN hq
    rw [show ((es.length : Int) != (es3.length : Int)) = false by rw [hq]; simp, h.1, h.2.1, h.2.2]
    cases hasF (fun i => at0 es i != at0 es3 i) 0 es.length <;> exact ⟨rfl, rfl⟩
  · rw [show ((es.length : Int) != (es3.length : Int)) = true by rw [bne_iff_ne]; omega]
    exact ⟨rfl, rfl⟩
theorem r24 (hN : es.length ≤ 1000) : vev24_0 tk es tk2 es3 = eqI es es3 ∧ vev24_1 tk es tk2 es3 = true := by
  unfold vev24_0 vev24_1 eqI rev24_0
  by_cases hq : es.length = es3.length
  · have h := sk24_4 (tk := tk) (tk2 := tk2) hN hq
    rw [show ((es.length : Int) != (es3.length : Int)) = false by rw [hq]; simp, h.1, h.2.1, h.2.2]
    cases hasF (fun i => at0 es i != at0 es3 i) 0 es.length <;> exact ⟨rfl, rfl⟩
  · rw [show ((es.length : Int) != (es3.length : Int)) = true by rw [bne_iff_ne]; omega]
    exact ⟨rfl, rfl⟩
theorem plain3 (id : Int) : vev3_0 l es es2 l2 es3 es4 id = true ∧ vev3_1 l es es2 l2 es3 es4 id = true := by
  unfold vev3_0 vev3_1 vev5_0
  by_cases h1 : (es.length : Int) ≤ 40
  · by_cases h2 : (es2.length : Int) ≤ 40
    · have hN : es.length ≤ 1000 := by omega
      have hN2 : es2.length ≤ 1000 := by omega
      have e7 := r7 (l := l) (id := id) hN hN2
      have e8 := r8 (l := l) (id := id) hN hN2
      have e9 := r9 (tk := .imm) (tk2 := .imm) (l := l) hN hN2
      have e10 := r10 (tk := .imm) (tk2 := .imm) (l := l) hN hN2
      unfold vev11_0 vev11_1 vev12_0 vev12_1
      rw [e7.1, e7.2, e8.1, e8.2, e9.1, e9.2, e10.1, e10.2, (r23 (tk := .imm) (tk2 := .imm) (es3 := es3) hN).1, (r23 (tk := .imm) (tk2 := .imm) (es3 := es3) hN).2, (r23 (tk := .imm) (tk2 := .imm) (es3 := es4) hN2).1, (r23 (tk := .imm) (tk2 := .imm) (es3 := es4) hN2).2, (r24 (tk := .imm) (tk2 := .imm) (es3 := es3) hN).1, (r24 (tk := .imm) (tk2 := .imm) (es3 := es3) hN).2, (r24 (tk := .imm) (tk2 := .imm) (es3 := es4) hN2).1, (r24 (tk := .imm) (tk2 := .imm) (es3 := es4) hN2).2, decide_eq_true h1, decide_eq_true h2, beq_self_eq_true, beq_self_eq_true]
      cases (bif decide ((es3.length : Int) ≤ 40) then bif true then decide ((es4.length : Int) ≤ 40) else false else false) <;> cases (l == l2) <;> cases eqI es es3 <;> cases eqI es2 es4 <;> exact ⟨rfl, rfl⟩
    · rw [decide_eq_true h1, decide_eq_false h2]; exact ⟨rfl, rfl⟩
  · rw [decide_eq_false h1]; exact ⟨rfl, rfl⟩
theorem law3 (id : Int) : FnOK Try.prog 3 [.agg [.int .i64 l, .sl .imm [.int .i64] es, .sl .imm [.int .i64] es2], .agg [.int .i64 l2, .sl .imm [.int .i64] es3, .sl .imm [.int .i64] es4], .int .i64 id] [] (.bool true) [] := by
  obtain ⟨h0, h1⟩ := plain3 (l := l) (es := es) (es2 := es2) (l2 := l2) (es3 := es3) (es4 := es4) id
  have he := ev3 l es es2 l2 es3 es4 id
  rw [h1, h0, cond_true] at he
  exact (fn_ok mixed plain (gk_ok k5_ok 30) Try.func3 (fun c _ => LoopsOK.none (fun _ _ => rfl) c) he).2
end Go.Proofs.Gv
