/-
FrameLongs: what is longer than a frame may be is not put.
-/
import Derived.Test.YtndephedgodneaaGaFr11
import Derived.Test.YtndephedgodneaaGpFr4
import Derived.Test.YtndephedgodneaaGwA
namespace Go.Proofs.Gv
open Go.Proofs
set_option linter.unusedVariables false
/-- How long a payload is that has a text and, it may be, padding. -/
def more (P : Bool) (pa : Int) : Nat := bif P then 1 + pa.toNat else 0
section
variable {t g pa : Int} {d : List UInt8} {P : Bool}
theorem pay5 (ht : t = 0 ∨ t = 1) (ha : 0 ≤ pa ∧ pa ≤ 255) (hP : vev64_0 t g 1 d pa 0 false 0 0 0 0 .imm [] = P) (hW : vev65_0 t g 1 d pa 0 false 0 0 0 0 .imm [] = false) (h0 : P = false → pa = 0) (hl : d.length ≤ 17000) :
    (vev45_0 t g 1 d pa 0 false 0 0 0 0 []).length = d.length + more P pa ∧ vev45_1 t g 1 d pa 0 false 0 0 0 0 [] = true := by
  obtain ⟨p1, p2⟩ := r45 (t := t) (g := g) (n := 1) (d := d) (pa := pa) (de := 0) (so := false) (we := 0) (co := 0) (la := 0) (inc := 0) (ps := []) ha (by omega) (by omega) (by omega) (by omega) (by rw [List.length_nil]; omega)
  refine ⟨?_, p2⟩
  rw [p1, hP, hW]
  have e7 : (t == 7) = false := beq_eq_false_iff_ne.2 (by omega)
  have e3 : (t == 3) = false := beq_eq_false_iff_ne.2 (by omega)
  have e8 : (t == 8) = false := beq_eq_false_iff_ne.2 (by omega)
  have e4 : (t == 4) = false := beq_eq_false_iff_ne.2 (by omega)
  unfold payN more
  rw [e7, e3, e8, e4]
  cases P
  · have hz := h0 rfl
    subst hz
    simp only [cond_false, Bool.or_self, List.nil_append, List.length_append, List.length_map, List.length_replicate]
    rfl
  · simp only [cond_false, cond_true, Bool.or_self, List.nil_append, List.length_append, List.length_map, List.length_replicate, List.length_cons, List.length_nil]
    omega
theorem put5 (ht : t = 0 ∨ t = 1) (ha : 0 ≤ pa ∧ pa ≤ 255) (hP : vev64_0 t g 1 d pa 0 false 0 0 0 0 .imm [] = P) (hW : vev65_0 t g 1 d pa 0 false 0 0 0 0 .imm [] = false) (h0 : P = false → pa = 0) (hl : d.length ≤ 17000) :
    (16384 < d.length + more P pa → vev17r_1 t g 1 d pa 0 false 0 0 0 0 [] = 5 ∧ (vev17r_0 t g 1 d pa 0 false 0 0 0 0 []).length = 0 ∧ vev17r_2 t g 1 d pa 0 false 0 0 0 0 [] = true ∧ vev21_0 t g 1 d pa 0 false 0 0 0 0 [] = 0 ∧ vev21_1 t g 1 d pa 0 false 0 0 0 0 [] = true) ∧
    (d.length + more P pa ≤ 16384 → vev17r_1 t g 1 d pa 0 false 0 0 0 0 [] = 0 ∧ (vev17r_0 t g 1 d pa 0 false 0 0 0 0 []).length = 9 + (d.length + more P pa) ∧ vev17r_2 t g 1 d pa 0 false 0 0 0 0 [] = true ∧ vev21_0 t g 1 d pa 0 false 0 0 0 0 [] = ((d.length + more P pa : Nat) : Int) ∧ vev21_1 t g 1 d pa 0 false 0 0 0 0 [] = true) := by
  obtain ⟨p1, p2⟩ := pay5 ht ha hP hW h0 hl
  have a1 : vev49_0 1 = true := rfl
  have a0 : vev49_0 0 = true := rfl
  have a5 : decide (pa < 0) = false := decide_eq_false (by omega)
  have a6 : decide (pa > 255) = false := decide_eq_false (by omega)
  have e2 : (t == 2) = false := beq_eq_false_iff_ne.2 (by omega)
  have e3 : (t == 3) = false := beq_eq_false_iff_ne.2 (by omega)
  have e4 : (t == 4) = false := beq_eq_false_iff_ne.2 (by omega)
  have e6 : (t == 6) = false := beq_eq_false_iff_ne.2 (by omega)
  have e8 : (t == 8) = false := beq_eq_false_iff_ne.2 (by omega)
  have a7 : vev50_0 t g 1 d pa 0 false 0 0 0 0 [] = false := by
    unfold vev50_0
    rw [hP, hW, e2, e3, e4, e6, e8]
    have q : ((0 : Int) != 0) = false := rfl
    have q2 : decide ((([] : List (List AV)).length : Int) > 0) = false := rfl
    rw [q, q2]
    cases P
    · rw [h0 rfl]
      rfl
    · cases (pa != 0) <;> rfl
  have v19 : vev19_1 t g 1 d pa 0 false 0 0 0 0 [] = true := by
    simp only [vev19_1, a1, a0, a5, a6, a7, p2, Bool.not_true, cond_false, cond_true]
  have r19 : rev19_0 t g 1 d pa 0 false 0 0 0 0 [] = ((d.length + more P pa : Nat) : Int) := by
    unfold rev19_0
    rw [p1]
  refine ⟨fun hb => ?_, fun hb => ?_⟩
  · have v : vev19_0 t g 1 d pa 0 false 0 0 0 0 [] = 5 := by
      simp only [vev19_0, a1, a0, a5, a6, a7, r19, Bool.not_true, cond_false]
      rw [decide_eq_true (by omega)]
      rfl
    simp only [vev17r_1, vev17r_0, vev17r_2, rev17r_0, vev21_0, vev21_1, v, v19, cond_true, show ((5 : Int) != 0) = true from rfl, List.length_nil, and_self]
  · have v : vev19_0 t g 1 d pa 0 false 0 0 0 0 [] = 0 := by
      simp only [vev19_0, a1, a0, a5, a6, a7, r19, Bool.not_true, cond_false]
      rw [decide_eq_false (by omega)]
      rfl
    have hq : ((0 : Int) != 0) = false := rfl
    refine ⟨?_, ?_, ?_, ?_, ?_⟩
    · unfold vev17r_1 rev17r_0
      rw [v]
      rfl
    · have e0 : vev17r_0 t g 1 d pa 0 false 0 0 0 0 [] = hR ((vev45_0 t g 1 d pa 0 false 0 0 0 0 []).length : Int) t g 1 ++ vev45_0 t g 1 d pa 0 false 0 0 0 0 [] := by
        unfold vev17r_0 rev17r_0
        rw [v]
        rfl
      rw [e0, List.length_append, p1]
      rfl
    · have l1 : ∀ L, (hR L t g 1).length = 9 := fun _ => rfl
      unfold vev17r_2 rev17r_0 rev17r_2 rev17r_1
      rw [v, v19, p2, l1, p1]
      unfold hB
      rw [decide_eq_false (show ¬ ((d.length + more P pa : Nat) : Int) < 0 by omega), decide_eq_false (show ¬ ((d.length + more P pa : Nat) : Int) > 16777215 by omega), decide_eq_true (show (9 + (d.length + more P pa)) * 1 ≤ 140737488355328 by omega), decide_eq_true (show 9 + (d.length + more P pa) ≤ 9223372036854775807 by omega)]
      rfl
    · unfold vev21_0
      rw [v, p1]
      rfl
    · unfold vev21_1
      rw [v, v19, p2]
      rfl
end
theorem and88 : (bits BinOp.and IntKind.u8 8 8 != (0 : Int)) = true := by decide
theorem and832 : (bits BinOp.and IntKind.u8 8 32 != (0 : Int)) = false := by decide
theorem and08 : (bits BinOp.and IntKind.u8 0 8 != (0 : Int)) = false := by decide
theorem and032 : (bits BinOp.and IntKind.u8 0 32 != (0 : Int)) = false := by decide
theorem flags8 {t : Int} (ht : t = 0 ∨ t = 1) (d : List UInt8) (pa : Int) : vev64_0 t 8 1 d pa 0 false 0 0 0 0 .imm [] = true ∧ vev65_0 t 8 1 d pa 0 false 0 0 0 0 .imm [] = false := by
  rcases ht with h | h <;> subst h <;> unfold vev64_0 vev65_0 vev56_0 <;> rw [and88, and832] <;> exact ⟨rfl, rfl⟩
theorem flags0 {t : Int} (ht : t = 0 ∨ t = 1) (d : List UInt8) (pa : Int) : vev64_0 t 0 1 d pa 0 false 0 0 0 0 .imm [] = false ∧ vev65_0 t 0 1 d pa 0 false 0 0 0 0 .imm [] = false := by
  rcases ht with h | h <;> subst h <;> unfold vev64_0 vev65_0 vev56_0 <;> rw [and08, and032] <;> exact ⟨rfl, rfl⟩
theorem r5 {n pa kind : Int} (hn : 0 ≤ n ∧ n ≤ 65535) (ha : 0 ≤ pa ∧ pa ≤ 255) (hk : 0 ≤ kind ∧ kind ≤ 255) : vev5_0 n pa kind = true ∧ vev5_1 n pa kind = true := by
  have ht : kind.tmod 2 = 0 ∨ kind.tmod 2 = 1 := by rw [Int.tmod_eq_emod_of_nonneg hk.1]; omega
  have e0 : rev5_0 n pa kind = n % 17001 := by unfold rev5_0; rw [wrapOf _ (by omega) (by omega), Int.tmod_eq_emod_of_nonneg hn.1]
  have hN : 0 ≤ n % 17001 ∧ n % 17001 ≤ 17000 := by omega
  have e1 : rev5_1 n pa kind = n % 17001 := by unfold rev5_1; rw [e0]; simp
  have e2 : (rev5_2 n pa kind).all isB = true := by
    unfold rev5_2
    rw [List.all_eq_true]
    intro x hx
    rw [List.eq_of_mem_replicate hx]
    rfl
  have e3 : (rev5_3 n pa kind).length = (n % 17001).toNat := by unfold rev5_3 rev5_2; rw [List.length_map, List.length_replicate, e0]
  have e4 : rev5_4 n pa kind = n % 17001 := by unfold rev5_4; rw [e3]; omega
  have e5 : rev5_5 n pa kind = 1 + pa := by unfold rev5_5; rw [wrapOf pa (by omega) (by omega), wrapOf _ (by omega) (by omega)]
  have e6 : rev5_6 n pa kind = n % 17001 + (1 + pa) := by unfold rev5_6; rw [e4, e5, wrapOf _ (by omega) (by omega)]
  have e7 : rev5_7 n pa kind = n % 17001 := by unfold rev5_7; rw [e4, wrapOf _ (by omega) (by omega)]; omega
  have wp : IntKind.i64.wrap pa = pa := wrapOf _ (by omega) (by omega)
  have w1 : IntKind.i64.wrap (IntKind.i64.wrap (9 + n % 17001) + (1 + pa)) = 9 + (n % 17001 + (1 + pa)) := by rw [wrapOf (9 + n % 17001) (by omega) (by omega), wrapOf _ (by omega) (by omega)]; omega
  have w0 : IntKind.i64.wrap (IntKind.i64.wrap (9 + n % 17001) + 0) = 9 + n % 17001 := by rw [wrapOf (9 + n % 17001) (by omega) (by omega), wrapOf _ (by omega) (by omega)]; omega
  have g1 : (decide ((0 : Int) ≤ n % 17001) && n % 17001 == n % 17001) = true := by rw [decide_eq_true hN.1, beq_self_eq_true]; rfl
  have g2 : decide (n % 17001 ≤ (140737488355328 : Int)) = true := decide_eq_true (by omega)
  have g3 : decide (n % 17001 ≤ (9223372036854775807 : Int)) = true := decide_eq_true (by omega)
  rcases bcase (decide (pa > 0)) with hp | hp
  · have hp' := of_decide_eq_true hp
    obtain ⟨f1, f2⟩ := flags8 ht (rev5_3 n pa kind) pa
    obtain ⟨b1, b2⟩ := put5 (P := true) ht ha f1 f2 (fun h => by cases h) (by rw [e3]; omega)
    have hm : ((rev5_3 n pa kind).length + more true pa : Nat) = (n % 17001 + (1 + pa)).toNat := by rw [e3]; unfold more; rw [cond_true]; omega
    rcases bcase (decide (n % 17001 + (1 + pa) > 16384)) with hb | hb
    · have hb' := of_decide_eq_true hb
      obtain ⟨c1, c2, c3, c4, c5⟩ := b1 (by rw [hm]; omega)
      unfold vev5_0 vev5_1
      rw [e0, e1, e2, e6, wp, hp, hb, g1, g2, g3, c1, c2, c3, c4, c5]
      exact ⟨rfl, rfl⟩
    · have hb' := of_decide_eq_false hb
      obtain ⟨c1, c2, c3, c4, c5⟩ := b2 (by rw [hm]; omega)
      have c6 : ((9 + ((rev5_3 n pa kind).length + more true pa) : Nat) : Int) = 9 + (n % 17001 + (1 + pa)) := by rw [hm]; omega
      have c7 : (((rev5_3 n pa kind).length + more true pa : Nat) : Int) = n % 17001 + (1 + pa) := by rw [hm]; omega
      unfold vev5_0 vev5_1
      rw [e0, e1, e2, e4, e5, e6, wp, hp, hb, g1, g2, g3, c1, c2, c3, c4, c5, w1, c6, c7]
      simp only [beq_self_eq_true, cond_true, cond_false, and_self]
  · obtain ⟨f1, f2⟩ := flags0 ht (rev5_3 n pa kind) 0
    obtain ⟨b1, b2⟩ := put5 (P := false) ht (by omega) f1 f2 (fun _ => rfl) (by rw [e3]; omega)
    have hm : ((rev5_3 n pa kind).length + more false 0 : Nat) = (n % 17001).toNat := by rw [e3]; unfold more; rw [cond_false]; omega
    rcases bcase (decide (n % 17001 > 16384)) with hb | hb
    · have hb' := of_decide_eq_true hb
      obtain ⟨c1, c2, c3, c4, c5⟩ := b1 (by rw [hm]; omega)
      unfold vev5_0 vev5_1
      rw [e0, e1, e2, e7, hp, hb, g1, g2, g3, c1, c2, c3, c4, c5]
      exact ⟨rfl, rfl⟩
    · have hb' := of_decide_eq_false hb
      obtain ⟨c1, c2, c3, c4, c5⟩ := b2 (by rw [hm]; omega)
      have c6 : ((9 + ((rev5_3 n pa kind).length + more false 0) : Nat) : Int) = 9 + n % 17001 := by rw [hm]; omega
      have c7 : (((rev5_3 n pa kind).length + more false 0 : Nat) : Int) = n % 17001 := by rw [hm]; omega
      unfold vev5_0 vev5_1
      rw [e0, e1, e2, e4, e7, hp, hb, g1, g2, g3, c1, c2, c3, c4, c5, w0, c6, c7]
      simp only [beq_self_eq_true, cond_true, cond_false, and_self]
theorem law5 {n pa kind : Int} (hn : (Lit.int .u16 n).wf = true) (ha : (Lit.int .u8 pa).wf = true) (hk : (Lit.int .u8 kind).wf = true) : FnOK Try.prog 5 [.int .u16 n, .int .u8 pa, .int .u8 kind] [] (.bool true) [] := by
  have kk : ∀ x : Int, (Lit.int .u8 x).wf = true → 0 ≤ x ∧ x ≤ 255 := fun x h => by
    have h2 : (decide (0 ≤ x) && decide (x ≤ 255)) = true := h
    simpa using h2
  have k16 : ∀ x : Int, (Lit.int .u16 x).wf = true → 0 ≤ x ∧ x ≤ 65535 := fun x h => by
    have h2 : (decide (0 ≤ x) && decide (x ≤ 65535)) = true := h
    simpa using h2
  obtain ⟨h0, h1⟩ := r5 (k16 _ hn) (kk _ ha) (kk _ hk)
  have he := ev5 n pa kind
  rw [h1, h0, cond_true] at he
  exact (fn_ok mixed plain (gk_ok k17r_ok 30) Try.func5 (fun c _ => LoopsOK.none (fun _ _ => rfl) c) he).2
end Go.Proofs.Gv
