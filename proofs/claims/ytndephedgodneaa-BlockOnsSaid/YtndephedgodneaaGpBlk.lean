/-
The plain law of BlockOns: what both sides reckon is the same.
-/
import Derived.Test.YtndephedgodneaaGcBlkL
namespace Go.Proofs.Gv
set_option linter.unusedVariables false
theorem e28 (s : Int) (d : List UInt8) (e : Bool) : vev28_0 s d e = vev29_0 s d e := by
  unfold vev28_0 vev29_0
  simp only [bne]
  generalize decide (s < (0 : Int)) = a
  generalize decide (s > (2147483647 : Int)) = b
  generalize (s == (0 : Int)) = c
  generalize (d == (ByteArray.mk #[]).data.toList) = f
  generalize decide ((↑d.length : Int) > (4096 : Int)) = h
  cases a <;> cases b <;> cases c <;> cases f <;> cases e <;> rfl
theorem has_all : (List.range 256).all (fun n => ((bits BinOp.and IntKind.u8 (n : Int) (4 : Int) == (0 : Int)) == !vev55b_0 n) && ((bits BinOp.and IntKind.u8 (n : Int) (1 : Int) == (0 : Int)) == !vev55a_0 n)) = true := by kernel_rfl
theorem has_of (g : Int) (h : 0 ≤ g ∧ g ≤ 255) : (bits BinOp.and IntKind.u8 g (4 : Int) == (0 : Int)) = !vev55b_0 g ∧ (bits BinOp.and IntKind.u8 g (1 : Int) == (0 : Int)) = !vev55a_0 g := by
  obtain ⟨n, rfl⟩ := Int.eq_ofNat_of_zero_le h.1
  have := List.all_eq_true.1 has_all n (by rw [List.mem_range]; omega)
  simpa using this
theorem e26_0 (s : Int) (d : List UInt8) (e : Bool) (t g sn : Int) (da : List UInt8) (pa de : Int) (so : Bool) (we co la inc : Int) (ps : List (List AV)) (hg : 0 ≤ g ∧ g ≤ 255) : vev26_0 s d e t g sn da pa de so we co la inc ps = vev27_0 s d e t g sn da pa de so we co la inc ps := by
  obtain ⟨h4, h1⟩ := has_of g hg
  have h19 : ((t == (1 : Int)) && (t == (9 : Int))) = false := by by_cases h : t = 1 <;> simp [h]
  unfold vev26_0 vev27_0 vev54_0 vev54_1
  simp only [bne, h4, h1, e28, Bool.not_not]
  generalize (vev29_0 s d e == (0 : Int)) = c0
  generalize (t == (9 : Int)) = c1 at h19 ⊢
  generalize (t == (1 : Int)) = c2 at h19 ⊢
  generalize (s == (0 : Int)) = c5
  generalize (sn == s) = c6
  generalize decide (sn < (1 : Int)) = c3
  generalize decide (sn > (2147483647 : Int)) = c4
  generalize decide ((↑(d ++ da).length : Int) > (4096 : Int)) = c7
  generalize vev55b_0 g = c8
  generalize vev55a_0 g = c9
  cases c0 <;> (try rfl) <;> cases c1 <;> cases c2 <;> (try (cases h19; done)) <;> clear h19 <;> cases c5 <;> (try rfl) <;> cases c6 <;> (try rfl) <;> cases c3 <;> (try rfl) <;> cases c4 <;> (try rfl) <;> cases c7 <;> (try rfl) <;> cases c8 <;> (try rfl) <;> cases c9 <;> rfl
theorem e26_1 (s : Int) (d : List UInt8) (e : Bool) (t g sn : Int) (da : List UInt8) (pa de : Int) (so : Bool) (we co la inc : Int) (ps : List (List AV)) (hg : 0 ≤ g ∧ g ≤ 255) : vev26_1 s d e t g sn da pa de so we co la inc ps = vev27_1 s d e t g sn da pa de so we co la inc ps := by
  obtain ⟨h4, h1⟩ := has_of g hg
  have h19 : ((t == (1 : Int)) && (t == (9 : Int))) = false := by by_cases h : t = 1 <;> simp [h]
  unfold vev26_1 vev27_1 vev54_0 vev54_1
  simp only [bne, h4, h1, e28, Bool.not_not]
  generalize (vev29_0 s d e == (0 : Int)) = c0
  generalize (t == (9 : Int)) = c1 at h19 ⊢
  generalize (t == (1 : Int)) = c2 at h19 ⊢
  generalize (s == (0 : Int)) = c5
  generalize (sn == s) = c6
  generalize decide (sn < (1 : Int)) = c3
  generalize decide (sn > (2147483647 : Int)) = c4
  generalize decide ((↑(d ++ da).length : Int) > (4096 : Int)) = c7
  generalize vev55b_0 g = c8
  generalize vev55a_0 g = c9
  cases c0 <;> (try rfl) <;> cases c1 <;> cases c2 <;> (try (cases h19; done)) <;> clear h19 <;> cases c5 <;> (try rfl) <;> cases c6 <;> (try rfl) <;> cases c3 <;> (try rfl) <;> cases c4 <;> (try rfl) <;> cases c7 <;> (try rfl) <;> cases c8 <;> (try rfl) <;> cases c9 <;> rfl
theorem e26_2 (s : Int) (d : List UInt8) (e : Bool) (t g sn : Int) (da : List UInt8) (pa de : Int) (so : Bool) (we co la inc : Int) (ps : List (List AV)) (hg : 0 ≤ g ∧ g ≤ 255) : vev26_2 s d e t g sn da pa de so we co la inc ps = vev27_2 s d e t g sn da pa de so we co la inc ps := by
  obtain ⟨h4, h1⟩ := has_of g hg
  have h19 : ((t == (1 : Int)) && (t == (9 : Int))) = false := by by_cases h : t = 1 <;> simp [h]
  unfold vev26_2 vev27_2 vev54_0 vev54_1
  simp only [bne, h4, h1, e28, Bool.not_not]
  generalize (vev29_0 s d e == (0 : Int)) = c0
  generalize (t == (9 : Int)) = c1 at h19 ⊢
  generalize (t == (1 : Int)) = c2 at h19 ⊢
  generalize (s == (0 : Int)) = c5
  generalize (sn == s) = c6
  generalize decide (sn < (1 : Int)) = c3
  generalize decide (sn > (2147483647 : Int)) = c4
  generalize decide ((↑(d ++ da).length : Int) > (4096 : Int)) = c7
  generalize vev55b_0 g = c8
  generalize vev55a_0 g = c9
  cases c0 <;> (try rfl) <;> cases c1 <;> cases c2 <;> (try (cases h19; done)) <;> clear h19 <;> cases c5 <;> (try rfl) <;> cases c6 <;> (try rfl) <;> cases c3 <;> (try rfl) <;> cases c4 <;> (try rfl) <;> cases c7 <;> (try rfl) <;> cases c8 <;> (try rfl) <;> cases c9 <;> rfl
theorem e26_3 (s : Int) (d : List UInt8) (e : Bool) (t g sn : Int) (da : List UInt8) (pa de : Int) (so : Bool) (we co la inc : Int) (ps : List (List AV)) (hg : 0 ≤ g ∧ g ≤ 255) : vev26_3 s d e t g sn da pa de so we co la inc ps = vev27_3 s d e t g sn da pa de so we co la inc ps := by
  obtain ⟨h4, h1⟩ := has_of g hg
  have h19 : ((t == (1 : Int)) && (t == (9 : Int))) = false := by by_cases h : t = 1 <;> simp [h]
  unfold vev26_3 vev27_3 vev54_0 vev54_1
  simp only [bne, h4, h1, e28, Bool.not_not]
  generalize (vev29_0 s d e == (0 : Int)) = c0
  generalize (t == (9 : Int)) = c1 at h19 ⊢
  generalize (t == (1 : Int)) = c2 at h19 ⊢
  generalize (s == (0 : Int)) = c5
  generalize (sn == s) = c6
  generalize decide (sn < (1 : Int)) = c3
  generalize decide (sn > (2147483647 : Int)) = c4
  generalize decide ((↑(d ++ da).length : Int) > (4096 : Int)) = c7
  generalize vev55b_0 g = c8
  generalize vev55a_0 g = c9
  cases c0 <;> (try rfl) <;> cases c1 <;> cases c2 <;> (try (cases h19; done)) <;> clear h19 <;> cases c5 <;> (try rfl) <;> cases c6 <;> (try rfl) <;> cases c3 <;> (try rfl) <;> cases c4 <;> (try rfl) <;> cases c7 <;> (try rfl) <;> cases c8 <;> (try rfl) <;> cases c9 <;> rfl
theorem e26_4 (s : Int) (d : List UInt8) (e : Bool) (t g sn : Int) (da : List UInt8) (pa de : Int) (so : Bool) (we co la inc : Int) (ps : List (List AV)) (hg : 0 ≤ g ∧ g ≤ 255) : vev26_4 s d e t g sn da pa de so we co la inc ps = vev27_4 s d e t g sn da pa de so we co la inc ps := by
  obtain ⟨h4, h1⟩ := has_of g hg
  have h19 : ((t == (1 : Int)) && (t == (9 : Int))) = false := by by_cases h : t = 1 <;> simp [h]
  unfold vev26_4 vev27_4 vev54_0 vev54_1
  simp only [bne, h4, h1, e28, Bool.not_not]
  generalize (vev29_0 s d e == (0 : Int)) = c0
  generalize (t == (9 : Int)) = c1 at h19 ⊢
  generalize (t == (1 : Int)) = c2 at h19 ⊢
  generalize (s == (0 : Int)) = c5
  generalize (sn == s) = c6
  generalize decide (sn < (1 : Int)) = c3
  generalize decide (sn > (2147483647 : Int)) = c4
  generalize decide ((↑(d ++ da).length : Int) > (4096 : Int)) = c7
  generalize vev55b_0 g = c8
  generalize vev55a_0 g = c9
  cases c0 <;> (try rfl) <;> cases c1 <;> cases c2 <;> (try (cases h19; done)) <;> clear h19 <;> cases c5 <;> (try rfl) <;> cases c6 <;> (try rfl) <;> cases c3 <;> (try rfl) <;> cases c4 <;> (try rfl) <;> cases c7 <;> (try rfl) <;> cases c8 <;> (try rfl) <;> cases c9 <;> rfl
theorem e26_5 (s : Int) (d : List UInt8) (e : Bool) (t g sn : Int) (da : List UInt8) (pa de : Int) (so : Bool) (we co la inc : Int) (ps : List (List AV)) (hg : 0 ≤ g ∧ g ≤ 255) : vev26_5 s d e t g sn da pa de so we co la inc ps = vev27_5 s d e t g sn da pa de so we co la inc ps := by
  obtain ⟨h4, h1⟩ := has_of g hg
  have h19 : ((t == (1 : Int)) && (t == (9 : Int))) = false := by by_cases h : t = 1 <;> simp [h]
  unfold vev26_5 vev27_5 vev54_0 vev54_1
  simp only [bne, h4, h1, e28, Bool.not_not]
  generalize (vev29_0 s d e == (0 : Int)) = c0
  generalize (t == (9 : Int)) = c1 at h19 ⊢
  generalize (t == (1 : Int)) = c2 at h19 ⊢
  generalize (s == (0 : Int)) = c5
  generalize (sn == s) = c6
  generalize decide (sn < (1 : Int)) = c3
  generalize decide (sn > (2147483647 : Int)) = c4
  generalize decide ((↑(d ++ da).length : Int) > (4096 : Int)) = c7
  generalize vev55b_0 g = c8
  generalize vev55a_0 g = c9
  cases c0 <;> (try rfl) <;> cases c1 <;> cases c2 <;> (try (cases h19; done)) <;> clear h19 <;> cases c5 <;> (try rfl) <;> cases c6 <;> (try rfl) <;> cases c3 <;> (try rfl) <;> cases c4 <;> (try rfl) <;> cases c7 <;> (try rfl) <;> cases c8 <;> (try rfl) <;> cases c9 <;> rfl
theorem e26_6 (s : Int) (d : List UInt8) (e : Bool) (t g sn : Int) (da : List UInt8) (pa de : Int) (so : Bool) (we co la inc : Int) (ps : List (List AV)) (hg : 0 ≤ g ∧ g ≤ 255) : vev26_6 s d e t g sn da pa de so we co la inc ps = vev27_6 s d e t g sn da pa de so we co la inc ps := by
  obtain ⟨h4, h1⟩ := has_of g hg
  have h19 : ((t == (1 : Int)) && (t == (9 : Int))) = false := by by_cases h : t = 1 <;> simp [h]
  unfold vev26_6 vev27_6 vev54_0 vev54_1
  simp only [bne, h4, h1, e28, Bool.not_not]
  generalize (vev29_0 s d e == (0 : Int)) = c0
  generalize (t == (9 : Int)) = c1 at h19 ⊢
  generalize (t == (1 : Int)) = c2 at h19 ⊢
  generalize (s == (0 : Int)) = c5
  generalize (sn == s) = c6
  generalize decide (sn < (1 : Int)) = c3
  generalize decide (sn > (2147483647 : Int)) = c4
  generalize decide ((↑(d ++ da).length : Int) > (4096 : Int)) = c7
  generalize vev55b_0 g = c8
  generalize vev55a_0 g = c9
  cases c0 <;> (try rfl) <;> cases c1 <;> cases c2 <;> (try (cases h19; done)) <;> clear h19 <;> cases c5 <;> (try rfl) <;> cases c6 <;> (try rfl) <;> cases c3 <;> (try rfl) <;> cases c4 <;> (try rfl) <;> cases c7 <;> (try rfl) <;> cases c8 <;> (try rfl) <;> cases c9 <;> rfl
theorem e26_7 (s : Int) (d : List UInt8) (e : Bool) (t g sn : Int) (da : List UInt8) (pa de : Int) (so : Bool) (we co la inc : Int) (ps : List (List AV)) (hg : 0 ≤ g ∧ g ≤ 255) : vev26_7 s d e t g sn da pa de so we co la inc ps = vev27_7 s d e t g sn da pa de so we co la inc ps := by
  obtain ⟨h4, h1⟩ := has_of g hg
  have h19 : ((t == (1 : Int)) && (t == (9 : Int))) = false := by by_cases h : t = 1 <;> simp [h]
  unfold vev26_7 vev27_7 vev54_0 vev54_1
  simp only [bne, h4, h1, e28, Bool.not_not]
  generalize (vev29_0 s d e == (0 : Int)) = c0
  generalize (t == (9 : Int)) = c1 at h19 ⊢
  generalize (t == (1 : Int)) = c2 at h19 ⊢
  generalize (s == (0 : Int)) = c5
  generalize (sn == s) = c6
  generalize decide (sn < (1 : Int)) = c3
  generalize decide (sn > (2147483647 : Int)) = c4
  generalize decide ((↑(d ++ da).length : Int) > (4096 : Int)) = c7
  generalize vev55b_0 g = c8
  generalize vev55a_0 g = c9
  cases c0 <;> (try rfl) <;> cases c1 <;> cases c2 <;> (try (cases h19; done)) <;> clear h19 <;> cases c5 <;> (try rfl) <;> cases c6 <;> (try rfl) <;> cases c3 <;> (try rfl) <;> cases c4 <;> (try rfl) <;> cases c7 <;> (try rfl) <;> cases c8 <;> (try rfl) <;> cases c9 <;> rfl
theorem e26_7w (s : Int) (d : List UInt8) (e : Bool) (t g sn : Int) (da : List UInt8) (pa de : Int) (so : Bool) (we co la inc : Int) (ps : List (List AV)) (hg : 0 ≤ g ∧ g ≤ 255) : IntKind.i64.wrap (vev26_7 s d e t g sn da pa de so we co la inc ps) = vev27_7 s d e t g sn da pa de so we co la inc ps := by
  rw [e26_7 s d e t g sn da pa de so we co la inc ps hg]
  unfold vev27_7
  simp only [cond_eq_ite]
  repeat' split
  all_goals rfl
theorem e8_0 (s : Int) (d : List UInt8) (e : Bool) (s2 : Int) (d2 : List UInt8) (e2 : Bool) (t g sn : Int) (da : List UInt8) (pa de : Int) (so : Bool) (we co la inc : Int) (ps : List (List AV)) (hg : 0 ≤ g ∧ g ≤ 255) : vev8_0 s d e s2 d2 e2 t g sn da pa de so we co la inc ps = true := by
  unfold vev8_0
  rw [e26_0 s d e t g sn da pa de so we co la inc ps hg]
  rw [e26_1 s d e t g sn da pa de so we co la inc ps hg]
  rw [e26_2 s d e t g sn da pa de so we co la inc ps hg]
  rw [e26_3 s d e t g sn da pa de so we co la inc ps hg]
  rw [e26_4 s d e t g sn da pa de so we co la inc ps hg]
  rw [e26_5 s d e t g sn da pa de so we co la inc ps hg]
  rw [e26_6 s d e t g sn da pa de so we co la inc ps hg]
  rw [e26_7w s d e t g sn da pa de so we co la inc ps hg]
  rw [e28]
  unfold vev30_0 vev31_0
  simp only [beq_self_eq_true, Bool.and_self, cond_true, Bool.cond_self]
theorem e8_1 (s : Int) (d : List UInt8) (e : Bool) (s2 : Int) (d2 : List UInt8) (e2 : Bool) (t g sn : Int) (da : List UInt8) (pa de : Int) (so : Bool) (we co la inc : Int) (ps : List (List AV)) : vev8_1 s d e s2 d2 e2 t g sn da pa de so we co la inc ps = true := by
  unfold vev8_1
  cases h1 : decide ((↑d.length : Int) > (5000 : Int)) with
  | true => rfl
  | false =>
    cases h2 : decide ((↑da.length : Int) > (5000 : Int)) with
    | true => rfl
    | false =>
      simp only [decide_eq_false_iff_not] at h1 h2
      have hl : decide (d.length + da.length ≤ (9223372036854775807 : Nat)) = true := by rw [decide_eq_true_eq]; omega
      have e1 : vev26_8 s d e t g sn da pa de so we co la inc ps = true := by unfold vev26_8; simp only [hl, cond_true, Bool.cond_self]
      have e2 : vev27_8 s d e t g sn da pa de so we co la inc ps = true := by unfold vev27_8; simp only [hl, cond_true, Bool.cond_self]
      rw [e1, e2]
      simp only [cond_true, Bool.cond_self]
theorem law8 (s : Int) (d : List UInt8) (e : Bool) (s2 : Int) (d2 : List UInt8) (e2 : Bool) (t g sn : Int) (da : List UInt8) (pa de : Int) (so : Bool) (we co la inc : Int) (ps : List (List AV)) (hg : 0 ≤ g ∧ g ≤ 255) : FnOK Try.prog 8 [.agg [.int .i64 s, .str d, .bool e], .agg [.int .i64 s2, .str d2, .bool e2], .agg [.int .u8 t, .int .u8 g, .int .i64 sn, .str da, .int .i64 pa, .int .i64 de, .bool so, .int .u8 we, .int .u32 co, .int .i64 la, .int .i64 inc, .sl .imm [.int .u16, .int .u32] ps]] [] (.bool true) [] := by
  have he := ev8 s d e s2 d2 e2 t g sn da pa de so we co la inc ps
  rw [e8_1, e8_0 s d e s2 d2 e2 t g sn da pa de so we co la inc ps hg, cond_true] at he
  exact (fn_ok mixed plain (gk_ok k31_ok 30) Try.func8 (fun c _ => LoopsOK.none (fun _ _ => rfl) c) he).2
end Go.Proofs.Gv
