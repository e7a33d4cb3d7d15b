/-
The loops of outq and of its document: what they do.
-/
import Derived.Test.YtdickgcdjmhgiaaGlOut
namespace Go.Proofs.Gv
open Go.Proofs
set_option linter.unusedVariables false
/-- A text of a row. -/
abbrev gS (e : List AV) : List UInt8 := strOf (e.getD 0 .junk)
def sumW (n : Int) : List (List AV) → Int
  | [] => n
  | e :: l => sumW (IntKind.i64.wrap (n + ((gS e).length : Int))) l
def bigS (l : List (List AV)) : Bool := l.any fun e => decide (((gS e).length : Int) > 70000)
def emptyS (l : List (List AV)) : Bool := l.any fun e => gS e == (ByteArray.mk #[]).data.toList
def hasS (x : List UInt8) (l : List (List AV)) : Bool := l.any fun e => x == gS e
def atS (x : List UInt8) (i : Nat) : List (List AV) → Nat
  | [] => i
  | e :: l => cond (x == gS e) i (atS x (i + 1) l)
def missS : List (List AV) → List (List AV) → Bool
  | [], _ => false
  | _ :: _, [] => true
  | e :: l, f :: m => !(gS e == gS f) || missS l m
theorem lt_dec {i n : Nat} (h : i < n) : decide ((i : Int) < (n : Int)) = true := by rw [decide_eq_true_eq]; omega
theorem ge_dec {i n : Nat} (h : ¬ i < n) : decide ((i : Int) < (n : Int)) = false := by rw [decide_eq_false_iff_not]; omega
theorem nn_dec (i : Nat) : decide ((0 : Int) ≤ (i : Int)) = true := by rw [decide_eq_true_eq]; omega
noncomputable def VT7 (a : List (List AV) × Int × Int × Nat) : List AV := [.hp 0 0, .int .i64 (.ofNat a.2.2.2)]
noncomputable def VC7 (a : List (List AV) × Int × Int × Nat) : List Blk := [.var [.sl .imm [.str] a.1, .int .i64 a.2.1, .int .i64 a.2.2.1]]
noncomputable def dec7 : List AV → List Blk → Option (List (List AV) × Int × Int × Nat)
  | [.hp 0 0, .int .i64 (.ofNat i)], [.var [.sl .imm [.str] es, .int .i64 a, .int .i64 b]] => some (es, a, b, i)
  | _, _ => none
noncomputable def sp7L (a : List (List AV) × Int × Int × Nat) : Bool × List (Bool × Ex × List AV × List Blk) × Ex × List AV × List Blk := (decide (a.1.length ≤ 9223372036854775807), [(bigS (a.1.drop a.2.2.2), .ret, [.hp 0 0, .bool false], VC7 a)], .exit 0, [.hp 0 0, .junk], VC7 a)
noncomputable def lsp7 : Lsp := fun i s => match Nat.beq i 2 with
  | true => lspOf [1, 3] [0] [1, 2] [0] Try.f7.ntmps (0 + tab.nid 7) dec7 sp7L s
  | false => none
theorem lok7 (gam : Gam) : LoopOK1 (cfg Try.prog tab 100000 gam lsp7 7 0 Try.f7.ntmps) (loopAt Try.f7 2) := by
  refine LoopOK1.of (i := 2) (by kernel_rfl) [1, 3] [0] [1, 2] [0] VT7 VC7 dec7 sp7L (fun a => a.1.length - a.2.2.2) (fun s => rfl) (fun vt vc a h => ?_) (fun a ha => ?_)
  · unfold dec7 at h
    split at h
    · injection h with h
      subst h
      exact ⟨rfl, rfl⟩
    · cases h
  · obtain ⟨es, a, b, i⟩ := a
    have hl : es.length ≤ 9223372036854775807 := by simpa only [sp7L, decide_eq_true_eq] using ha
    have hr := rd7_2 lsp7 gam es a b i
    by_cases hi : i < es.length
    · rw [lt_dec hi, nn_dec, Int.toNat_natCast, wrapN i es.length hi hl, Bool.and_self, cond_true, cond_true] at hr
      have hd := drop_step (α := List AV) [] hi
      cases hc : decide (((gS (es.getD i [])).length : Int) > 70000) with
      | true =>
        have hc' := hc
        unfold gS at hc'
        rw [hc', cond_true] at hr
        refine ⟨_, _, _, hr, ?_⟩
        simp only [sp7L, bigS, hd, List.any_cons, hc, Bool.true_or, pickE, cond_true]
        rfl
      | false =>
        have hc' := hc
        unfold gS at hc'
        rw [hc', cond_false] at hr
        refine ⟨_, _, _, hr, (es, a, b, i + 1), rfl, rfl, ha, ?_, by simp only; omega⟩
        simp only [sp7L, bigS, hd, List.any_cons, hc, Bool.false_or]
        rfl
    · rw [ge_dec hi, cond_false] at hr
      refine ⟨_, _, _, hr, ?_⟩
      simp only [sp7L, bigS, List.drop_eq_nil_of_le (Nat.le_of_not_lt hi), List.any_nil, pickE, cond_false]
      rfl
theorem loops7 (gam : Gam) : ∀ c, Try.f7.body = some c → LoopsOK (cfg Try.prog tab 100000 gam lsp7 7 ([] : List Blk).length Try.f7.ntmps) c := loops_one (i := 2) (by kernel_rfl) (lok7 gam)
noncomputable def VT15 (a : List (List AV) × Int × Int × Nat) : List AV := [.hp 0 0, .int .i64 (.ofNat a.2.2.2)]
noncomputable def VC15 (a : List (List AV) × Int × Int × Nat) : List Blk := [.var [.sl .imm [.str] a.1, .int .i64 a.2.1, .int .i64 a.2.2.1]]
noncomputable def dec15 : List AV → List Blk → Option (List (List AV) × Int × Int × Nat)
  | [.hp 0 0, .int .i64 (.ofNat i)], [.var [.sl .imm [.str] es, .int .i64 a, .int .i64 b]] => some (es, a, b, i)
  | _, _ => none
noncomputable def sp15L (a : List (List AV) × Int × Int × Nat) : Bool × List (Bool × Ex × List AV × List Blk) × Ex × List AV × List Blk := (decide (a.1.length ≤ 9223372036854775807), [(emptyS (a.1.drop a.2.2.2), .ret, [.hp 0 0, .int .i64 4], VC15 a)], .exit 0, [.hp 0 0, .junk], VC15 a)
noncomputable def lsp15 : Lsp := fun i s => match Nat.beq i 2 with
  | true => lspOf [1, 3] [0] [1, 2] [0] Try.f15.ntmps (0 + tab.nid 15) dec15 sp15L s
  | false => none
theorem lok15 (gam : Gam) : LoopOK1 (cfg Try.prog tab 100000 gam lsp15 15 0 Try.f15.ntmps) (loopAt Try.f15 2) := by
  refine LoopOK1.of (i := 2) (by kernel_rfl) [1, 3] [0] [1, 2] [0] VT15 VC15 dec15 sp15L (fun a => a.1.length - a.2.2.2) (fun s => rfl) (fun vt vc a h => ?_) (fun a ha => ?_)
  · unfold dec15 at h
    split at h
    · injection h with h
      subst h
      exact ⟨rfl, rfl⟩
    · cases h
  · obtain ⟨es, a, b, i⟩ := a
    have hl : es.length ≤ 9223372036854775807 := by simpa only [sp15L, decide_eq_true_eq] using ha
    have hr := rd15_2 lsp15 gam es a b i
    by_cases hi : i < es.length
    · rw [lt_dec hi, nn_dec, Int.toNat_natCast, wrapN i es.length hi hl, Bool.and_self, cond_true, cond_true] at hr
      have hd := drop_step (α := List AV) [] hi
      cases hc : (gS (es.getD i []) == (ByteArray.mk #[]).data.toList) with
      | true =>
        have hc' := hc
        unfold gS at hc'
        rw [hc', cond_true] at hr
        refine ⟨_, _, _, hr, ?_⟩
        simp only [sp15L, emptyS, hd, List.any_cons, hc, Bool.true_or, pickE, cond_true]
        rfl
      | false =>
        have hc' := hc
        unfold gS at hc'
        rw [hc', cond_false] at hr
        refine ⟨_, _, _, hr, (es, a, b, i + 1), rfl, rfl, ha, ?_, by simp only; omega⟩
        simp only [sp15L, emptyS, hd, List.any_cons, hc, Bool.false_or]
        rfl
    · rw [ge_dec hi, cond_false] at hr
      refine ⟨_, _, _, hr, ?_⟩
      simp only [sp15L, emptyS, List.drop_eq_nil_of_le (Nat.le_of_not_lt hi), List.any_nil, pickE, cond_false]
      rfl
theorem loops15 (gam : Gam) : ∀ c, Try.f15.body = some c → LoopsOK (cfg Try.prog tab 100000 gam lsp15 15 ([] : List Blk).length Try.f15.ntmps) c := loops_one (i := 2) (by kernel_rfl) (lok15 gam)
noncomputable def VT13 (a : List (List AV) × Int × Int × List (List AV) × Int × Int × Nat) : List AV := [.hp 0 0, .hp 1 0, .int .i64 (.ofNat a.2.2.2.2.2.2)]
noncomputable def VC13 (a : List (List AV) × Int × Int × List (List AV) × Int × Int × Nat) : List Blk := [.var [.sl .imm [.str] a.1, .int .i64 a.2.1, .int .i64 a.2.2.1], .var [.sl .imm [.str] a.2.2.2.1, .int .i64 a.2.2.2.2.1, .int .i64 a.2.2.2.2.2.1]]
noncomputable def dec13 : List AV → List Blk → Option (List (List AV) × Int × Int × List (List AV) × Int × Int × Nat)
  | [.hp 0 0, .hp 1 0, .int .i64 (.ofNat i)], [.var [.sl .imm [.str] es, .int .i64 a, .int .i64 b], .var [.sl .imm [.str] es2, .int .i64 a2, .int .i64 b2]] => some (es, a, b, es2, a2, b2, i)
  | _, _ => none
noncomputable def sp13L (a : List (List AV) × Int × Int × List (List AV) × Int × Int × Nat) : Bool × List (Bool × Ex × List AV × List Blk) × Ex × List AV × List Blk := (decide (a.1.length ≤ 9223372036854775807) && decide (a.1.length = a.2.2.2.1.length), [(missS (a.1.drop a.2.2.2.2.2.2) (a.2.2.2.1.drop a.2.2.2.2.2.2), .ret, [.bool false], [])], .exit 0, [.junk], [])
noncomputable def lsp13 : Lsp := fun i s => match Nat.beq i 4 with
  | true => lspOf [2, 3, 5] [0, 1] [4] [] Try.f13.ntmps (0 + tab.nid 13) dec13 sp13L s
  | false => none
theorem lok13 (gam : Gam) : LoopOK1 (cfg Try.prog tab 100000 gam lsp13 13 0 Try.f13.ntmps) (loopAt Try.f13 4) := by
  refine LoopOK1.of (i := 4) (by kernel_rfl) [2, 3, 5] [0, 1] [4] [] VT13 VC13 dec13 sp13L (fun a => a.1.length - a.2.2.2.2.2.2) (fun s => rfl) (fun vt vc a h => ?_) (fun a ha => ?_)
  · unfold dec13 at h
    split at h
    · injection h with h
      subst h
      exact ⟨rfl, rfl⟩
    · cases h
  · obtain ⟨es, a, b, es2, a2, b2, i⟩ := a
    have hl : es.length ≤ 9223372036854775807 ∧ es.length = es2.length := by simpa only [sp13L, decide_eq_true_eq, Bool.and_eq_true] using ha
    have hr := rd13_4 lsp13 gam es a b es2 a2 b2 i
    by_cases hi : i < es.length
    · have hi2 : i < es2.length := by omega
      rw [lt_dec hi, lt_dec hi2, nn_dec, Int.toNat_natCast, wrapN i es.length hi hl.1, Bool.and_self, cond_true, cond_true, cond_true] at hr
      have hd := drop_step (α := List AV) [] hi
      have hd2 := drop_step (α := List AV) [] hi2
      cases hc : (gS (es.getD i []) == gS (es2.getD i [])) with
      | false =>
        have hc' := hc
        unfold gS at hc'
        rw [hc', Bool.not_false, cond_true] at hr
        refine ⟨_, _, _, hr, ?_⟩
        simp only [sp13L, hd, hd2, missS, hc, Bool.not_false, Bool.true_or, pickE, cond_true]
      | true =>
        have hc' := hc
        unfold gS at hc'
        rw [hc', Bool.not_true, cond_false] at hr
        refine ⟨_, _, _, hr, (es, a, b, es2, a2, b2, i + 1), rfl, rfl, ha, ?_, by simp only; omega⟩
        simp only [sp13L, hd, hd2, missS, hc, Bool.not_true, Bool.false_or]
    · rw [ge_dec hi, cond_false] at hr
      refine ⟨_, _, _, hr, ?_⟩
      simp only [sp13L, List.drop_eq_nil_of_le (Nat.le_of_not_lt hi), missS, pickE, cond_false]
theorem loops13 (gam : Gam) : ∀ c, Try.f13.body = some c → LoopsOK (cfg Try.prog tab 100000 gam lsp13 13 ([] : List Blk).length Try.f13.ntmps) c := loops_one (i := 4) (by kernel_rfl) (lok13 gam)
noncomputable def VT25 (a : List (List AV) × List (List AV) × Int × Nat) : List AV := [.sl .imm [.str] a.1, .sl .imm [.str] a.2.1, .int .i64 a.2.2.1, .int .i64 (.ofNat a.2.2.2)]
noncomputable def VC25 (a : List (List AV) × List (List AV) × Int × Nat) : List Blk := []
noncomputable def dec25 : List AV → List Blk → Option (List (List AV) × List (List AV) × Int × Nat)
  | [.sl .imm [.str] es, .sl .imm [.str] es2, .int .i64 n, .int .i64 (.ofNat i)], [] => some (es, es2, n, i)
  | _, _ => none
noncomputable def sp25L (a : List (List AV) × List (List AV) × Int × Nat) : Bool × List (Bool × Ex × List AV × List Blk) × Ex × List AV × List Blk := (decide (a.1.length ≤ 9223372036854775807) && (decide (a.1.length = a.2.1.length) && decide (a.2.2.1 = (a.1.length : Int))), [(missS (a.1.drop a.2.2.2) (a.2.1.drop a.2.2.2), .ret, [.bool false], [])], .exit 0, [.junk], [])
noncomputable def lsp25 : Lsp := fun i s => match Nat.beq i 4 with
  | true => lspOf [0, 1, 12, 13] [] [4] [] Try.f25.ntmps (0 + tab.nid 25) dec25 sp25L s
  | false => none
theorem lok25 (gam : Gam) : LoopOK1 (cfg Try.prog tab 100000 gam lsp25 25 0 Try.f25.ntmps) (loopAt Try.f25 4) := by
  refine LoopOK1.of (i := 4) (by kernel_rfl) [0, 1, 12, 13] [] [4] [] VT25 VC25 dec25 sp25L (fun a => a.1.length - a.2.2.2) (fun s => rfl) (fun vt vc a h => ?_) (fun a ha => ?_)
  · unfold dec25 at h
    split at h
    · injection h with h
      subst h
      exact ⟨rfl, rfl⟩
    · cases h
  · obtain ⟨es, es2, n, i⟩ := a
    have hl : es.length ≤ 9223372036854775807 ∧ es.length = es2.length ∧ n = (es.length : Int) := by simpa only [sp25L, decide_eq_true_eq, Bool.and_eq_true] using ha
    obtain ⟨hl1, hl2, rfl⟩ := hl
    have hr := rd25_4 lsp25 gam es es2 i
    by_cases hi : i < es.length
    · have hi2 : i < es2.length := by omega
      rw [lt_dec hi, lt_dec hi2, nn_dec, Int.toNat_natCast, wrapN i es.length hi hl1, Bool.and_self, cond_true, cond_true, cond_true] at hr
      have hd := drop_step (α := List AV) [] hi
      have hd2 := drop_step (α := List AV) [] hi2
      cases hc : (gS (es.getD i []) == gS (es2.getD i [])) with
      | false =>
        have hc' := hc
        unfold gS at hc'
        rw [hc', Bool.not_false, cond_true] at hr
        refine ⟨_, _, _, hr, ?_⟩
        simp only [sp25L, hd, hd2, missS, hc, Bool.not_false, Bool.true_or, pickE, cond_true]
      | true =>
        have hc' := hc
        unfold gS at hc'
        rw [hc', Bool.not_true, cond_false] at hr
        refine ⟨_, _, _, hr, (es, es2, _, i + 1), rfl, rfl, ha, ?_, by simp only; omega⟩
        simp only [sp25L, hd, hd2, missS, hc, Bool.not_true, Bool.false_or]
    · rw [ge_dec hi, cond_false] at hr
      refine ⟨_, _, _, hr, ?_⟩
      simp only [sp25L, List.drop_eq_nil_of_le (Nat.le_of_not_lt hi), missS, pickE, cond_false]
theorem loops25 (gam : Gam) : ∀ c, Try.f25.body = some c → LoopsOK (cfg Try.prog tab 100000 gam lsp25 25 ([] : List Blk).length Try.f25.ntmps) c := loops_one (i := 4) (by kernel_rfl) (lok25 gam)
noncomputable def VT16 (a : Int × List (List AV) × Int × Nat) : List AV := [.int .i64 a.1, .sl .imm [.str] a.2.1, .int .i64 a.2.2.1, .int .i64 (.ofNat a.2.2.2)]
noncomputable def VC16 (a : Int × List (List AV) × Int × Nat) : List Blk := []
noncomputable def dec16 : List AV → List Blk → Option (Int × List (List AV) × Int × Nat)
  | [.int .i64 n, .sl .imm [.str] es, .int .i64 m, .int .i64 (.ofNat i)], [] => some (n, es, m, i)
  | _, _ => none
noncomputable def sp16L (a : Int × List (List AV) × Int × Nat) : Bool × List (Bool × Ex × List AV × List Blk) × Ex × List AV × List Blk := (decide (a.2.1.length ≤ 9223372036854775807) && decide (a.2.2.1 = (a.2.1.length : Int)), [], .exit 0, [.int .i64 (sumW a.1 (a.2.1.drop a.2.2.2))], [])
noncomputable def lsp16 : Lsp := fun i s => match Nat.beq i 3 with
  | true => lspOf [3, 7, 8, 9] [] [3] [] Try.f16.ntmps (0 + tab.nid 16) dec16 sp16L s
  | false => none
theorem lok16 (gam : Gam) : LoopOK1 (cfg Try.prog tab 100000 gam lsp16 16 0 Try.f16.ntmps) (loopAt Try.f16 3) := by
  refine LoopOK1.of (i := 3) (by kernel_rfl) [3, 7, 8, 9] [] [3] [] VT16 VC16 dec16 sp16L (fun a => a.2.1.length - a.2.2.2) (fun s => rfl) (fun vt vc a h => ?_) (fun a ha => ?_)
  · unfold dec16 at h
    split at h
    · injection h with h
      subst h
      exact ⟨rfl, rfl⟩
    · cases h
  · obtain ⟨n, es, m, i⟩ := a
    have hl : es.length ≤ 9223372036854775807 ∧ m = (es.length : Int) := by simpa only [sp16L, decide_eq_true_eq, Bool.and_eq_true] using ha
    obtain ⟨hl1, rfl⟩ := hl
    have hr := rd16_3 lsp16 gam es n i
    by_cases hi : i < es.length
    · rw [lt_dec hi, nn_dec, Int.toNat_natCast, wrapN i es.length hi hl1, Bool.and_self, cond_true, cond_true] at hr
      have hd := drop_step (α := List AV) [] hi
      refine ⟨_, _, _, hr, (IntKind.i64.wrap (n + ((gS (es.getD i [])).length : Int)), es, _, i + 1), rfl, rfl, ha, ?_, by simp only; omega⟩
      simp only [sp16L, hd, sumW]
    · rw [ge_dec hi, cond_false] at hr
      refine ⟨_, _, _, hr, ?_⟩
      simp only [sp16L, List.drop_eq_nil_of_le (Nat.le_of_not_lt hi), sumW, pickE]
theorem loops16 (gam : Gam) : ∀ c, Try.f16.body = some c → LoopsOK (cfg Try.prog tab 100000 gam lsp16 16 ([] : List Blk).length Try.f16.ntmps) c := loops_one (i := 3) (by kernel_rfl) (lok16 gam)
noncomputable def VT17 (a : List (List AV) × Int × Int × Int × Nat) : List AV := [.hp 0 0, .int .i64 a.2.2.2.1, .int .i64 (.ofNat a.2.2.2.2)]
noncomputable def VC17 (a : List (List AV) × Int × Int × Int × Nat) : List Blk := [.var [.sl .imm [.str] a.1, .int .i64 a.2.1, .int .i64 a.2.2.1]]
noncomputable def dec17 : List AV → List Blk → Option (List (List AV) × Int × Int × Int × Nat)
  | [.hp 0 0, .int .i64 n, .int .i64 (.ofNat i)], [.var [.sl .imm [.str] es, .int .i64 a, .int .i64 b]] => some (es, a, b, n, i)
  | _, _ => none
noncomputable def sp17L (a : List (List AV) × Int × Int × Int × Nat) : Bool × List (Bool × Ex × List AV × List Blk) × Ex × List AV × List Blk := (decide (a.1.length ≤ 9223372036854775807), [], .exit 0, [.int .i64 (sumW a.2.2.2.1 (a.1.drop a.2.2.2.2))], [])
noncomputable def lsp17 : Lsp := fun i s => match Nat.beq i 3 with
  | true => lspOf [1, 3, 4] [0] [3] [] Try.f17.ntmps (0 + tab.nid 17) dec17 sp17L s
  | false => none
theorem lok17 (gam : Gam) : LoopOK1 (cfg Try.prog tab 100000 gam lsp17 17 0 Try.f17.ntmps) (loopAt Try.f17 3) := by
  refine LoopOK1.of (i := 3) (by kernel_rfl) [1, 3, 4] [0] [3] [] VT17 VC17 dec17 sp17L (fun a => a.1.length - a.2.2.2.2) (fun s => rfl) (fun vt vc a h => ?_) (fun a ha => ?_)
  · unfold dec17 at h
    split at h
    · injection h with h
      subst h
      exact ⟨rfl, rfl⟩
    · cases h
  · obtain ⟨es, a, b, n, i⟩ := a
    have hl1 : es.length ≤ 9223372036854775807 := by simpa only [sp17L, decide_eq_true_eq] using ha
    have hr := rd17_3 lsp17 gam es a b n i
    by_cases hi : i < es.length
    · rw [lt_dec hi, nn_dec, Int.toNat_natCast, wrapN i es.length hi hl1, Bool.and_self, cond_true, cond_true] at hr
      have hd := drop_step (α := List AV) [] hi
      refine ⟨_, _, _, hr, (es, a, b, IntKind.i64.wrap (n + ((gS (es.getD i [])).length : Int)), i + 1), rfl, rfl, ha, ?_, by simp only; omega⟩
      simp only [sp17L, hd, sumW]
    · rw [ge_dec hi, cond_false] at hr
      refine ⟨_, _, _, hr, ?_⟩
      simp only [sp17L, List.drop_eq_nil_of_le (Nat.le_of_not_lt hi), sumW, pickE]
theorem loops17 (gam : Gam) : ∀ c, Try.f17.body = some c → LoopsOK (cfg Try.prog tab 100000 gam lsp17 17 ([] : List Blk).length Try.f17.ntmps) c := loops_one (i := 3) (by kernel_rfl) (lok17 gam)
noncomputable def VT27 (a : List (List AV) × List UInt8 × Int × Nat) : List AV := [.sl .imm [.str] a.1, .str a.2.1, .int .i64 a.2.2.1, .int .i64 (.ofNat a.2.2.2)]
noncomputable def VC27 (a : List (List AV) × List UInt8 × Int × Nat) : List Blk := []
noncomputable def dec27 : List AV → List Blk → Option (List (List AV) × List UInt8 × Int × Nat)
  | [.sl .imm [.str] es, .str x, .int .i64 n, .int .i64 (.ofNat i)], [] => some (es, x, n, i)
  | _, _ => none
noncomputable def sp27L (a : List (List AV) × List UInt8 × Int × Nat) : Bool × List (Bool × Ex × List AV × List Blk) × Ex × List AV × List Blk := (decide (a.1.length ≤ 9223372036854775807) && decide (a.2.2.1 = (a.1.length : Int)), [(hasS a.2.1 (a.1.drop a.2.2.2), .ret, [.int .i64 (.ofNat (atS a.2.1 a.2.2.2 (a.1.drop a.2.2.2)))], [])], .exit 0, [.junk], [])
noncomputable def lsp27 : Lsp := fun i s => match Nat.beq i 2 with
  | true => lspOf [0, 1, 7, 8] [] [4] [] Try.f27.ntmps (0 + tab.nid 27) dec27 sp27L s
  | false => none
theorem lok27 (gam : Gam) : LoopOK1 (cfg Try.prog tab 100000 gam lsp27 27 0 Try.f27.ntmps) (loopAt Try.f27 2) := by
  refine LoopOK1.of (i := 2) (by kernel_rfl) [0, 1, 7, 8] [] [4] [] VT27 VC27 dec27 sp27L (fun a => a.1.length - a.2.2.2) (fun s => rfl) (fun vt vc a h => ?_) (fun a ha => ?_)
  · unfold dec27 at h
    split at h
    · injection h with h
      subst h
      exact ⟨rfl, rfl⟩
    · cases h
  · obtain ⟨es, x, n, i⟩ := a
    have hl : es.length ≤ 9223372036854775807 ∧ n = (es.length : Int) := by simpa only [sp27L, decide_eq_true_eq, Bool.and_eq_true] using ha
    obtain ⟨hl1, rfl⟩ := hl
    have hr := rd27_2 lsp27 gam es x i
    by_cases hi : i < es.length
    · rw [lt_dec hi, nn_dec, Int.toNat_natCast, wrapN i es.length hi hl1, Bool.and_self, cond_true, cond_true] at hr
      have hd := drop_step (α := List AV) [] hi
      cases hc : (x == gS (es.getD i [])) with
      | true =>
        have hc' := hc
        unfold gS at hc'
        rw [hc', cond_true] at hr
        refine ⟨_, _, _, hr, ?_⟩
        simp only [sp27L, hd, hasS, atS, List.any_cons, hc, Bool.true_or, pickE, cond_true]
        rfl
      | false =>
        have hc' := hc
        unfold gS at hc'
        rw [hc', cond_false] at hr
        refine ⟨_, _, _, hr, (es, x, _, i + 1), rfl, rfl, ha, ?_, by simp only; omega⟩
        simp only [sp27L, hd, hasS, atS, List.any_cons, hc, Bool.false_or, cond_false]
    · rw [ge_dec hi, cond_false] at hr
      refine ⟨_, _, _, hr, ?_⟩
      simp only [sp27L, hasS, List.drop_eq_nil_of_le (Nat.le_of_not_lt hi), List.any_nil, pickE, cond_false]
theorem loops27 (gam : Gam) : ∀ c, Try.f27.body = some c → LoopsOK (cfg Try.prog tab 100000 gam lsp27 27 ([] : List Blk).length Try.f27.ntmps) c := loops_one (i := 2) (by kernel_rfl) (lok27 gam)
end Go.Proofs.Gv
