/-
The loops that run tags, of tags and of its document: what they do.
-/
import Derived.Test.YteomgnfnigflnaaGlRun
import Derived.Test.YteomgnfnigflnaaGpTagA
namespace Go.Proofs.Gv
open Go.Proofs
set_option linter.unusedVariables false
set_option maxHeartbeats 1000000
/-- Whose turn it is. -/
def turnF (es : List (List AV)) : Int := firstF es 0 es (-1)
theorem firstF_lt {es : List (List AV)} : ∀ (l : List (List AV)) (i : Nat) (a : Int), i + l.length ≤ es.length → a < (es.length : Int) → firstF es i l a < (es.length : Int) := by
  intro l
  induction l with
  | nil => intro i a _ h; exact h
  | cons e l ih =>
    intro i a hl h
    rw [List.length_cons] at hl
    refine ih (i + 1) _ (by omega) ?_
    unfold nextF
    cases (bif decide (a < 0) then true else decide (gT e 1 < gT (es.getD a.toNat []) 1)) with
    | true => simp only [cond_true]; omega
    | false => exact h
theorem turn_lt (es : List (List AV)) : turnF es < (es.length : Int) := firstF_lt es 0 (-1) (by omega) (by omega)
noncomputable def serve18 (e : List AV) (c : Int) : List AV := [.int .i64 (gT e 0), .int .i64 (vev7_1 0 (gT e 0) (gT e 1) (gT e 2) (gT e 3) c), .int .i64 (vev7_2 0 (gT e 0) (gT e 1) (gT e 2) (gT e 3) c), .int .i64 (vev7_3 0 (gT e 0) (gT e 1) (gT e 2) (gT e 3) c)]
noncomputable def code18 (e : List AV) (c : Int) : Int := vev7_4 0 (gT e 0) (gT e 1) (gT e 2) (gT e 3) c
noncomputable def serve20 (e : List AV) (c : Int) : List AV := [.int .i64 (gT e 0), .int .i64 (vev8_1 0 (gT e 0) (gT e 1) (gT e 2) (gT e 3) c), .int .i64 (vev8_2 0 (gT e 0) (gT e 1) (gT e 2) (gT e 3) c), .int .i64 (vev8_3 0 (gT e 0) (gT e 1) (gT e 2) (gT e 3) c)]
noncomputable def code20 (e : List AV) (c : Int) : Int := vev8_4 0 (gT e 0) (gT e 1) (gT e 2) (gT e 3) c
noncomputable def stepE18 (es : List (List AV)) (c : Int) : List (List AV) := bif decide (turnF es ≥ 0) then (bif decide (c > 0) then es.set (turnF es).toNat (serve18 (es.getD (turnF es).toNat []) c) else es) else es
noncomputable def stepW18 (es : List (List AV)) (c : Int) : Int := bif decide (turnF es ≥ 0) then (bif decide (c > 0) then (bif code18 (es.getD (turnF es).toNat []) c != 0 then -1 else turnF es) else -1) else -1
noncomputable def stepE20 (es : List (List AV)) (c : Int) : List (List AV) := bif decide (turnF es < 0) then es else bif decide (c < 1) then es else bif code20 (es.getD (turnF es).toNat []) c != 0 then es else es.set (turnF es).toNat (serve20 (es.getD (turnF es).toNat []) c)
noncomputable def stepW20 (es : List (List AV)) (c : Int) : Int := bif decide (turnF es < 0) then -1 else bif decide (c < 1) then -1 else bif code20 (es.getD (turnF es).toNat []) c != 0 then -1 else turnF es
noncomputable def runE18 : List (List AV) → List (List AV) → List (List AV)
  | es, [] => es
  | es, c :: cs => runE18 (stepE18 es (gT c 0)) cs
noncomputable def runW18 : List (List AV) → List (List AV) → List (List AV)
  | _, [] => []
  | es, c :: cs => [.int .i64 (stepW18 es (gT c 0))] :: runW18 (stepE18 es (gT c 0)) cs
theorem stepE18_len (es : List (List AV)) (c : Int) : (stepE18 es c).length = es.length := by
  unfold stepE18
  cases decide (turnF es ≥ 0) <;> cases decide (c > 0) <;>  simp only [cond_true, cond_false, List.length_set]
noncomputable def runE20 : List (List AV) → List (List AV) → List (List AV)
  | es, [] => es
  | es, c :: cs => runE20 (stepE20 es (gT c 0)) cs
noncomputable def runW20 : List (List AV) → List (List AV) → List (List AV)
  | _, [] => []
  | es, c :: cs => [.int .i64 (stepW20 es (gT c 0))] :: runW20 (stepE20 es (gT c 0)) cs
theorem stepE20_len (es : List (List AV)) (c : Int) : (stepE20 es c).length = es.length := by
  unfold stepE20
  cases decide (turnF es < 0) <;> cases decide (c < 1) <;> cases (code20 (es.getD (turnF es).toNat []) c != 0) <;> simp only [cond_true, cond_false, List.length_set]
noncomputable def VT18 (a : List (List AV) × List (List AV) × List (List AV) × Int × Nat) : List AV := [.rf 4 kT, .rf 3 [.int .i64], .sl .imm [.int .i64] a.2.1, .int .i64 a.2.2.2.1, .int .i64 (.ofNat a.2.2.2.2)]
noncomputable def VC18 (a : List (List AV) × List (List AV) × List (List AV) × Int × Nat) : List Blk := [.dead, .dead, .row [.int .i64] a.2.2.1, .row kT a.1]
noncomputable def dec18 : List AV → List Blk → Option (List (List AV) × List (List AV) × List (List AV) × Int × Nat)
  | [.rf 4 [.int .i64, .int .i64, .int .i64, .int .i64], .rf 3 [.int .i64], .sl .imm [.int .i64] cs, .int .i64 n, .int .i64 (.ofNat i)], [.dead, .dead, .row [.int .i64] who, .row [.int .i64, .int .i64, .int .i64, .int .i64] es] => some (es, cs, who, n, i)
  | _, _ => none
noncomputable def sp18L (a : List (List AV) × List (List AV) × List (List AV) × Int × Nat) : Bool × List (Bool × Ex × List AV × List Blk) × Ex × List AV × List Blk :=
  (decide (a.2.2.2.1 = (a.2.1.length : Int)) && (Nat.ble ((a.2.2.1.length + (a.2.1.length - a.2.2.2.2)) * 8) 140737488355328 && (Nat.ble a.1.length 9223372036854775807 && Nat.ble a.2.1.length 9223372036854775807)), [], .exit 0, [.rf 4 kT, .rf 3 [.int .i64]], [.row [.int .i64] (a.2.2.1 ++ runW18 a.1 (a.2.1.drop a.2.2.2.2)), .row kT (runE18 a.1 (a.2.1.drop a.2.2.2.2))])
noncomputable def lsp18 : Lsp := fun i s => match Nat.beq i 4 with
  | true => lspOf [6, 7, 17, 18, 19] [0, 2, 3, 4] [6, 7] [3, 4] Try.f18.ntmps (0 + tab.nid 18) dec18 sp18L s
  | false => none
theorem lok18 : LoopOK1 (cfg Try.prog tab 100000 (gk k27 30) lsp18 18 0 Try.f18.ntmps) (loopAt Try.f18 4) := by
  refine LoopOK1.of (i := 4) (by kernel_rfl) [6, 7, 17, 18, 19] [0, 2, 3, 4] [6, 7] [3, 4] VT18 VC18 dec18 sp18L (fun a => a.2.1.length - a.2.2.2.2) (fun s => rfl) (fun vt vc a h => ?_) (fun a ha => ?_)
  · unfold dec18 at h
    split at h
    · injection h with h
      subst h
      exact ⟨rfl, rfl⟩
    · cases h
  · obtain ⟨es, cs, who, n, i⟩ := a
    have ha' := ha
    simp only [sp18L, Bool.and_eq_true, decide_eq_true_eq] at ha'
    obtain ⟨rfl, hw, hE, hl⟩ := ha'
    have hl := Nat.le_of_ble_eq_true hl
    have hE' := Nat.le_of_ble_eq_true hE
    have hw := Nat.le_of_ble_eq_true hw
    by_cases hi : i < cs.length
    · have hd := drop_step (α := List AV) [] hi
      have b5 : decide ((who.length + 1) * 8 ≤ 140737488355328) = true := by rw [decide_eq_true_eq]; omega
      have b6 : decide (who.length + 1 ≤ 9223372036854775807) = true := by rw [decide_eq_true_eq]; omega
      have h24 : vev24_1 Tk.lent es = true := by
        unfold vev24_1
        simp only [sp24L, hE, decide_true, Bool.and_true, Bool.true_and]
        rw [decide_eq_true (Or.inr (by decide))]
        rfl
      have h0 : vev24_0 Tk.lent es = turnF es := rfl
      have key : roundV (cfg Try.prog tab 100000 (gk k27 30) lsp18 18 0 Try.f18.ntmps) (loopAt Try.f18 4) [6, 7, 17, 18, 19] [0, 2, 3, 4] [6, 7] [3, 4] (VT18 (es, cs, who, (cs.length : Int), i)) (VC18 (es, cs, who, (cs.length : Int), i)) = some (.norm, VT18 (stepE18 es (gT (cs.getD i []) 0), cs, who ++ [[.int .i64 (stepW18 es (gT (cs.getD i []) 0))]], (cs.length : Int), i + 1), VC18 (stepE18 es (gT (cs.getD i []) 0), cs, who ++ [[.int .i64 (stepW18 es (gT (cs.getD i []) 0))]], (cs.length : Int), i + 1)) := by
        have hr := rd18_4 lsp18 es cs who i
        rw [lt_dec hi, nn_dec, b5, b6, wrapN i cs.length hi hl, h24, h0, t7_5, Int.toNat_natCast] at hr
        have hlt := turn_lt es
        by_cases hA : turnF es ≥ 0
        · rw [decide_eq_true hA, decide_eq_true hlt] at hr
          by_cases hC : gT (cs.getD i []) 0 > 0
          · rw [decide_eq_true hC] at hr
            simp only [cond_true, Bool.and_self] at hr
            cases hq : (code18 (es.getD (turnF es).toNat []) (gT (cs.getD i []) 0) != 0) with
            | true =>
              have hq' := hq
              unfold code18 gT at hq'
              simp only [Nat.zero_add, Nat.reduceAdd] at hr
              rw [hq', cond_true] at hr
              refine Eq.trans hr ?_
              unfold stepE18 stepW18
              rw [decide_eq_true hA, decide_eq_true hC, hq]
              rfl
            | false =>
              have hq' := hq
              unfold code18 gT at hq'
              simp only [Nat.zero_add, Nat.reduceAdd] at hr
              rw [hq', cond_false] at hr
              refine Eq.trans hr ?_
              unfold stepE18 stepW18
              rw [decide_eq_true hA, decide_eq_true hC, hq]
              rfl
          · rw [decide_eq_false hC] at hr
            refine Eq.trans hr ?_
            unfold stepE18 stepW18
            rw [decide_eq_true hA, decide_eq_false hC]
            rfl
        · rw [decide_eq_false hA] at hr
          refine Eq.trans hr ?_
          unfold stepE18 stepW18
          rw [decide_eq_false hA]
          rfl
      refine ⟨_, _, _, key, (stepE18 es (gT (cs.getD i []) 0), cs, who ++ [[.int .i64 (stepW18 es (gT (cs.getD i []) 0))]], (cs.length : Int), i + 1), rfl, rfl, ?_, ?_, by simp only; omega⟩
      · simp only [sp18L, Bool.and_eq_true, decide_eq_true_eq]
        exact ⟨trivial, Nat.ble_eq_true_of_le (by rw [List.length_append, List.length_singleton]; omega), Nat.ble_eq_true_of_le (by rw [stepE18_len]; exact hE'), Nat.ble_eq_true_of_le hl⟩
      · simp only [sp18L, hd, runE18, runW18, List.append_assoc, List.singleton_append]
    · have hr := rd18_4 lsp18 es cs who i
      rw [ge_dec hi] at hr
      refine ⟨_, _, _, hr, ?_⟩
      simp only [sp18L, List.drop_eq_nil_of_le (Nat.le_of_not_lt hi), runE18, runW18, List.append_nil, pickE]
theorem loops18 : ∀ c, Try.f18.body = some c → LoopsOK (cfg Try.prog tab 100000 (gk k27 30) lsp18 18 ([] : List Blk).length Try.f18.ntmps) c := loops_one (i := 4) (by kernel_rfl) lok18
noncomputable def VT20 (a : List (List AV) × List (List AV) × List (List AV) × Nat) : List AV := [.sl .imm [.int .i64] a.2.1, .rf 6 kT, .rf 5 [.int .i64], .int .i64 (.ofNat a.2.2.2)]
noncomputable def VC20 (a : List (List AV) × List (List AV) × List (List AV) × Nat) : List Blk := [.dead, .dead, .dead, .dead, .row [.int .i64] a.2.2.1, .row kT a.1]
noncomputable def dec20 : List AV → List Blk → Option (List (List AV) × List (List AV) × List (List AV) × Nat)
  | [.sl .imm [.int .i64] cs, .rf 6 [.int .i64, .int .i64, .int .i64, .int .i64], .rf 5 [.int .i64], .int .i64 (.ofNat i)], [.dead, .dead, .dead, .dead, .row [.int .i64] who, .row [.int .i64, .int .i64, .int .i64, .int .i64] es] => some (es, cs, who, i)
  | _, _ => none
noncomputable def sp20L (a : List (List AV) × List (List AV) × List (List AV) × Nat) : Bool × List (Bool × Ex × List AV × List Blk) × Ex × List AV × List Blk :=
  ((Nat.ble ((a.2.2.1.length + (a.2.1.length - a.2.2.2)) * 8) 140737488355328 && (Nat.ble a.1.length 9223372036854775807 && Nat.ble a.2.1.length 9223372036854775807)), [], .exit 0, [.rf 6 kT, .rf 5 [.int .i64]], [.row [.int .i64] (a.2.2.1 ++ runW20 a.1 (a.2.1.drop a.2.2.2)), .row kT (runE20 a.1 (a.2.1.drop a.2.2.2))])
noncomputable def lsp20 : Lsp := fun i s => match Nat.beq i 5 with
  | true => lspOf [1, 6, 7, 8] [0, 1, 3, 4, 5, 6] [6, 7] [5, 6] Try.f20.ntmps (0 + tab.nid 20) dec20 sp20L s
  | false => none
theorem lok20 : LoopOK1 (cfg Try.prog tab 100000 (gk k27 30) lsp20 20 0 Try.f20.ntmps) (loopAt Try.f20 5) := by
  refine LoopOK1.of (i := 5) (by kernel_rfl) [1, 6, 7, 8] [0, 1, 3, 4, 5, 6] [6, 7] [5, 6] VT20 VC20 dec20 sp20L (fun a => a.2.1.length - a.2.2.2) (fun s => rfl) (fun vt vc a h => ?_) (fun a ha => ?_)
  · unfold dec20 at h
    split at h
    · injection h with h
      subst h
      exact ⟨rfl, rfl⟩
    · cases h
  · obtain ⟨es, cs, who, i⟩ := a
    have ha' := ha
    simp only [sp20L, Bool.and_eq_true, decide_eq_true_eq] at ha'
    obtain ⟨hw, hE, hl⟩ := ha'
    have hl := Nat.le_of_ble_eq_true hl
    have hE' := Nat.le_of_ble_eq_true hE
    have hw := Nat.le_of_ble_eq_true hw
    by_cases hi : i < cs.length
    · have hd := drop_step (α := List AV) [] hi
      have b5 : decide ((who.length + 1) * 8 ≤ 140737488355328) = true := by rw [decide_eq_true_eq]; omega
      have b6 : decide (who.length + 1 ≤ 9223372036854775807) = true := by rw [decide_eq_true_eq]; omega
      have h24 : vev25_1 Tk.lent es = true := by
        unfold vev25_1
        simp only [sp25L, hE, decide_true, Bool.and_true, Bool.true_and]
        rw [decide_eq_true (Or.inr (by decide))]
        rfl
      have h0 : vev25_0 Tk.lent es = turnF es := rfl
      have key : roundV (cfg Try.prog tab 100000 (gk k27 30) lsp20 20 0 Try.f20.ntmps) (loopAt Try.f20 5) [1, 6, 7, 8] [0, 1, 3, 4, 5, 6] [6, 7] [5, 6] (VT20 (es, cs, who, i)) (VC20 (es, cs, who, i)) = some (.norm, VT20 (stepE20 es (gT (cs.getD i []) 0), cs, who ++ [[.int .i64 (stepW20 es (gT (cs.getD i []) 0))]], i + 1), VC20 (stepE20 es (gT (cs.getD i []) 0), cs, who ++ [[.int .i64 (stepW20 es (gT (cs.getD i []) 0))]], i + 1)) := by
        have hr := rd20_5 lsp20 es cs who i
        rw [lt_dec hi, nn_dec, b5, b6, wrapN i cs.length hi hl, h24, h0, t8_5, Int.toNat_natCast] at hr
        have hlt := turn_lt es
        by_cases hA : turnF es < 0
        · rw [decide_eq_true hA] at hr
          refine Eq.trans hr ?_
          unfold stepE20 stepW20
          rw [decide_eq_true hA]
          rfl
        · rw [decide_eq_false hA, decide_eq_true (show (0 : Int) ≤ turnF es by omega), decide_eq_true hlt] at hr
          by_cases hC : gT (cs.getD i []) 0 < 1
          · rw [decide_eq_true hC] at hr
            refine Eq.trans hr ?_
            unfold stepE20 stepW20
            rw [decide_eq_false hA, decide_eq_true hC]
            rfl
          · rw [decide_eq_false hC] at hr
            simp only [cond_true, cond_false, Bool.and_self] at hr
            cases hq : (code20 (es.getD (turnF es).toNat []) (gT (cs.getD i []) 0) != 0) with
            | true =>
              have hq' := hq
              unfold code20 gT at hq'
              simp only [Nat.zero_add, Nat.reduceAdd] at hr
              rw [hq', cond_true] at hr
              refine Eq.trans hr ?_
              unfold stepE20 stepW20
              rw [decide_eq_false hA, decide_eq_false hC, hq]
              rfl
            | false =>
              have hq' := hq
              unfold code20 gT at hq'
              simp only [Nat.zero_add, Nat.reduceAdd] at hr
              rw [hq', cond_false] at hr
              refine Eq.trans hr ?_
              unfold stepE20 stepW20
              rw [decide_eq_false hA, decide_eq_false hC, hq]
              rfl
      refine ⟨_, _, _, key, (stepE20 es (gT (cs.getD i []) 0), cs, who ++ [[.int .i64 (stepW20 es (gT (cs.getD i []) 0))]], i + 1), rfl, rfl, ?_, ?_, by simp only; omega⟩
      · simp only [sp20L, Bool.and_eq_true, decide_eq_true_eq]
        exact ⟨Nat.ble_eq_true_of_le (by rw [List.length_append, List.length_singleton]; omega), Nat.ble_eq_true_of_le (by rw [stepE20_len]; exact hE'), Nat.ble_eq_true_of_le hl⟩
      · simp only [sp20L, hd, runE20, runW20, List.append_assoc, List.singleton_append]
    · have hr := rd20_5 lsp20 es cs who i
      rw [ge_dec hi] at hr
      refine ⟨_, _, _, hr, ?_⟩
      simp only [sp20L, List.drop_eq_nil_of_le (Nat.le_of_not_lt hi), runE20, runW20, List.append_nil, pickE]
theorem loops20 : ∀ c, Try.f20.body = some c → LoopsOK (cfg Try.prog tab 100000 (gk k27 30) lsp20 20 ([] : List Blk).length Try.f20.ntmps) c := loops_one (i := 5) (by kernel_rfl) lok20
end Go.Proofs.Gv
