/-
The loops of tags and of its document that only look, and those that turn tags: what they do.
-/
import Derived.Test.YteomgnfnigflnaaGlTag
namespace Go.Proofs.Gv
open Go.Proofs
set_option linter.unusedVariables false
abbrev kT : List Kd := [.int .i64, .int .i64, .int .i64, .int .i64]
theorem lt_dec {i n : Nat} (h : i < n) : decide ((i : Int) < (n : Int)) = true := by rw [decide_eq_true_eq]; omega
theorem ge_dec {i n : Nat} (h : ¬ i < n) : decide ((i : Int) < (n : Int)) = false := by rw [decide_eq_false_iff_not]; omega
theorem nn_dec (i : Nat) : decide ((0 : Int) ≤ (i : Int)) = true := by rw [decide_eq_true_eq]; omega
theorem spT_inv {ok b' : Bool} {r r' : AV} {o o' : List Blk} (h : spW ok (some (b', r', o')) = some (true, r, o)) : ok = true ∧ r' = r ∧ o' = o := by
  unfold spW at h
  injection h with h
  injection h with h1 h
  injection h with h2 h3
  exact ⟨h1, h2, h3⟩
/-- A number of a tag. -/
abbrev gT (e : List AV) (j : Nat) : Int := intOf (e.getD j .junk)
def fitT (e : List AV) : List AV := [.int .i64 (gT e 0), .int .i64 (gT e 1), .int .i64 (gT e 2), .int .i64 (gT e 3)]
def nextF (es : List (List AV)) (e : List AV) (i : Nat) (a : Int) : Int := bif (bif decide (a < 0) then true else decide (gT e 1 < gT (es.getD a.toNat []) 1)) then (i : Int) else a
def firstF (es : List (List AV)) : Nat → List (List AV) → Int → Int
  | _, [], a => a
  | i, e :: l, a => firstF es (i + 1) l (nextF es e i a)
def missT : List (List AV) → List (List AV) → Bool
  | [], _ => false
  | _ :: _, [] => true
  | e :: l, f :: m => !(gT e 0 == gT f 0 && (gT e 1 == gT f 1 && (gT e 2 == gT f 2 && (gT e 3 == gT f 3 && true)))) || missT l m
def missI : List (List AV) → List (List AV) → Bool
  | [], _ => false
  | _ :: _, [] => true
  | e :: l, f :: m => gT e 0 != gT f 0 || missI l m
noncomputable def VT24 (a : Tk × List (List AV) × Int × Int × Nat) : List AV := [.sl a.1 kT a.2.1, .int .i64 a.2.2.1, .int .i64 a.2.2.2.1, .int .i64 (.ofNat a.2.2.2.2)]
noncomputable def VC24 (a : Tk × List (List AV) × Int × Int × Nat) : List Blk := []
noncomputable def dec24 : List AV → List Blk → Option (Tk × List (List AV) × Int × Int × Nat)
  | [.sl tk [.int .i64, .int .i64, .int .i64, .int .i64] es, .int .i64 a, .int .i64 n, .int .i64 (.ofNat i)], [] => some (tk, es, a, n, i)
  | _, _ => none
noncomputable def sp24L (a : Tk × List (List AV) × Int × Int × Nat) : Bool × List (Bool × Ex × List AV × List Blk) × Ex × List AV × List Blk := ((decide (a.2.2.2.1 = (a.2.1.length : Int)) && (decide (a.2.2.1 < (a.2.1.length : Int) ∨ a.2.2.1 < 0) && Nat.ble a.2.1.length 9223372036854775807)), [], .exit 0, [.int .i64 (firstF a.2.1 a.2.2.2.2 (a.2.1.drop a.2.2.2.2) a.2.2.1)], [])
noncomputable def lsp24 : Lsp := fun i s => match Nat.beq i 3 with
  | true => lspOf [0, 3, 6, 7] [] [3] [] Try.f24.ntmps (0 + tab.nid 24) dec24 sp24L s
  | false => none
theorem lok24 (gam : Gam) : LoopOK1 (cfg Try.prog tab 100000 gam lsp24 24 0 Try.f24.ntmps) (loopAt Try.f24 3) := by
  refine LoopOK1.of (i := 3) (by kernel_rfl) [0, 3, 6, 7] [] [3] [] VT24 VC24 dec24 sp24L (fun a => a.2.1.length - a.2.2.2.2) (fun s => rfl) (fun vt vc a h => ?_) (fun a ha => ?_)
  · unfold dec24 at h
    split at h
    · injection h with h
      subst h
      exact ⟨rfl, rfl⟩
    · cases h
  · obtain ⟨tk, es, a, n, i⟩ := a
    have ha' := ha
    simp only [sp24L, Bool.and_eq_true, decide_eq_true_eq] at ha'
    obtain ⟨rfl, ha2, hl⟩ := ha'
    have hl := Nat.le_of_ble_eq_true hl
    have hr := rd24_3 lsp24 gam tk es a i
    by_cases hi : i < es.length
    · have hd := drop_step (α := List AV) [] hi
      have hg : (bif decide (a < (0 : Int)) then true else bif decide ((0 : Int) ≤ (i : Int)) && decide ((i : Int) < (es.length : Int)) then bif decide ((0 : Int) ≤ a) && decide (a < (es.length : Int)) then true else false else false) = true := by
        rw [lt_dec hi, nn_dec]
        by_cases h0 : a < 0
        · rw [decide_eq_true h0]; rfl
        · rw [decide_eq_false h0, decide_eq_true (show (0 : Int) ≤ a by omega), decide_eq_true (show a < (es.length : Int) by omega)]; rfl
      have hg2 : (bif decide (a < (0 : Int)) then true else bif decide ((0 : Int) ≤ (i : Int)) && decide ((i : Int) < (es.length : Int)) then bif decide ((0 : Int) ≤ a) && decide (a < (es.length : Int)) then bif false then true else decide (intOf ((es.getD (i : Int).toNat []).getD (0 + 1) AV.junk) < intOf ((es.getD a.toNat []).getD (0 + 1) AV.junk)) else false else false) = (bif decide (a < 0) then true else decide (gT (es.getD i []) 1 < gT (es.getD a.toNat []) 1)) := by
        rw [lt_dec hi, nn_dec]
        by_cases h0 : a < 0
        · rw [decide_eq_true h0]; rfl
        · rw [decide_eq_false h0, decide_eq_true (show (0 : Int) ≤ a by omega), decide_eq_true (show a < (es.length : Int) by omega)]; rfl
      rw [hg, hg2, lt_dec hi, wrapN i es.length hi hl] at hr
      have hok : nextF es (es.getD i []) i a < (es.length : Int) ∨ nextF es (es.getD i []) i a < 0 := by
        unfold nextF
        cases (bif decide (a < 0) then true else decide (gT (es.getD i []) 1 < gT (es.getD a.toNat []) 1)) with
        | true => left; simp only [cond_true]; omega
        | false => exact ha2
      have key : roundV (cfg Try.prog tab 100000 gam lsp24 24 0 Try.f24.ntmps) (loopAt Try.f24 3) [0, 3, 6, 7] [] [3] [] (VT24 (tk, es, a, (es.length : Int), i)) (VC24 (tk, es, a, (es.length : Int), i)) = some (.norm, VT24 (tk, es, nextF es (es.getD i []) i a, (es.length : Int), i + 1), VC24 (tk, es, nextF es (es.getD i []) i a, (es.length : Int), i + 1)) := by
        refine Eq.trans hr ?_
        simp only [cond_true]
        unfold nextF
        cases (bif decide (a < 0) then true else decide (gT (es.getD i []) 1 < gT (es.getD a.toNat []) 1)) <;> rfl
      clear hr
      refine ⟨_, _, _, key, (tk, es, nextF es (es.getD i []) i a, (es.length : Int), i + 1), rfl, rfl, ?_, ?_, by simp only; omega⟩
      · simp only [sp24L, Bool.and_eq_true, decide_eq_true_eq]
        exact ⟨trivial, hok, Nat.ble_eq_true_of_le hl⟩
      · simp only [sp24L, hd, firstF]
    · rw [ge_dec hi] at hr
      refine ⟨_, _, _, hr, ?_⟩
      simp only [sp24L, List.drop_eq_nil_of_le (Nat.le_of_not_lt hi), firstF, pickE]
theorem loops24 (gam : Gam) : ∀ c, Try.f24.body = some c → LoopsOK (cfg Try.prog tab 100000 gam lsp24 24 ([] : List Blk).length Try.f24.ntmps) c := loops_one (i := 3) (by kernel_rfl) (lok24 gam)
noncomputable def VT25 (a : Tk × List (List AV) × Int × Nat) : List AV := [.sl a.1 kT a.2.1, .int .i64 a.2.2.1, .int .i64 (.ofNat a.2.2.2)]
noncomputable def VC25 (a : Tk × List (List AV) × Int × Nat) : List Blk := []
noncomputable def dec25 : List AV → List Blk → Option (Tk × List (List AV) × Int × Nat)
  | [.sl tk [.int .i64, .int .i64, .int .i64, .int .i64] es, .int .i64 a, .int .i64 (.ofNat i)], [] => some (tk, es, a, i)
  | _, _ => none
noncomputable def sp25L (a : Tk × List (List AV) × Int × Nat) : Bool × List (Bool × Ex × List AV × List Blk) × Ex × List AV × List Blk := ((decide (a.2.2.1 < (a.2.1.length : Int) ∨ a.2.2.1 < 0) && Nat.ble a.2.1.length 9223372036854775807), [], .exit 0, [.int .i64 (firstF a.2.1 a.2.2.2 (a.2.1.drop a.2.2.2) a.2.2.1)], [])
noncomputable def lsp25 : Lsp := fun i s => match Nat.beq i 3 with
  | true => lspOf [0, 3, 4] [] [3] [] Try.f25.ntmps (0 + tab.nid 25) dec25 sp25L s
  | false => none
theorem lok25 (gam : Gam) : LoopOK1 (cfg Try.prog tab 100000 gam lsp25 25 0 Try.f25.ntmps) (loopAt Try.f25 3) := by
  refine LoopOK1.of (i := 3) (by kernel_rfl) [0, 3, 4] [] [3] [] VT25 VC25 dec25 sp25L (fun a => a.2.1.length - a.2.2.2) (fun s => rfl) (fun vt vc a h => ?_) (fun a ha => ?_)
  · unfold dec25 at h
    split at h
    · injection h with h
      subst h
      exact ⟨rfl, rfl⟩
    · cases h
  · obtain ⟨tk, es, a, i⟩ := a
    have ha' := ha
    simp only [sp25L, Bool.and_eq_true, decide_eq_true_eq] at ha'
    obtain ⟨ha2, hl⟩ := ha'
    have hl := Nat.le_of_ble_eq_true hl
    have hr := rd25_3 lsp25 gam tk es a i
    by_cases hi : i < es.length
    · have hd := drop_step (α := List AV) [] hi
      have hg : (bif decide (a < (0 : Int)) then true else bif decide ((0 : Int) ≤ (i : Int)) && decide ((i : Int) < (es.length : Int)) then bif decide ((0 : Int) ≤ a) && decide (a < (es.length : Int)) then true else false else false) = true := by
        rw [lt_dec hi, nn_dec]
        by_cases h0 : a < 0
        · rw [decide_eq_true h0]; rfl
        · rw [decide_eq_false h0, decide_eq_true (show (0 : Int) ≤ a by omega), decide_eq_true (show a < (es.length : Int) by omega)]; rfl
      have hg2 : (bif decide (a < (0 : Int)) then true else bif decide ((0 : Int) ≤ (i : Int)) && decide ((i : Int) < (es.length : Int)) then bif decide ((0 : Int) ≤ a) && decide (a < (es.length : Int)) then bif false then true else decide (intOf ((es.getD (i : Int).toNat []).getD (0 + 1) AV.junk) < intOf ((es.getD a.toNat []).getD (0 + 1) AV.junk)) else false else false) = (bif decide (a < 0) then true else decide (gT (es.getD i []) 1 < gT (es.getD a.toNat []) 1)) := by
        rw [lt_dec hi, nn_dec]
        by_cases h0 : a < 0
        · rw [decide_eq_true h0]; rfl
        · rw [decide_eq_false h0, decide_eq_true (show (0 : Int) ≤ a by omega), decide_eq_true (show a < (es.length : Int) by omega)]; rfl
      rw [hg, hg2, lt_dec hi, wrapN i es.length hi hl] at hr
      have hok : nextF es (es.getD i []) i a < (es.length : Int) ∨ nextF es (es.getD i []) i a < 0 := by
        unfold nextF
        cases (bif decide (a < 0) then true else decide (gT (es.getD i []) 1 < gT (es.getD a.toNat []) 1)) with
        | true => left; simp only [cond_true]; omega
        | false => exact ha2
      have key : roundV (cfg Try.prog tab 100000 gam lsp25 25 0 Try.f25.ntmps) (loopAt Try.f25 3) [0, 3, 4] [] [3] [] (VT25 (tk, es, a, i)) (VC25 (tk, es, a, i)) = some (.norm, VT25 (tk, es, nextF es (es.getD i []) i a, i + 1), VC25 (tk, es, nextF es (es.getD i []) i a, i + 1)) := by
        refine Eq.trans hr ?_
        simp only [cond_true]
        unfold nextF
        cases (bif decide (a < 0) then true else decide (gT (es.getD i []) 1 < gT (es.getD a.toNat []) 1)) <;> rfl
      clear hr
      refine ⟨_, _, _, key, (tk, es, nextF es (es.getD i []) i a, i + 1), rfl, rfl, ?_, ?_, by simp only; omega⟩
      · simp only [sp25L, Bool.and_eq_true, decide_eq_true_eq]
        exact ⟨hok, Nat.ble_eq_true_of_le hl⟩
      · simp only [sp25L, hd, firstF]
    · rw [ge_dec hi] at hr
      refine ⟨_, _, _, hr, ?_⟩
      simp only [sp25L, List.drop_eq_nil_of_le (Nat.le_of_not_lt hi), firstF, pickE]
theorem loops25 (gam : Gam) : ∀ c, Try.f25.body = some c → LoopsOK (cfg Try.prog tab 100000 gam lsp25 25 ([] : List Blk).length Try.f25.ntmps) c := loops_one (i := 3) (by kernel_rfl) (lok25 gam)
noncomputable def VT19 (a : List (List AV) × List (List AV) × Nat) : List AV := [.sl .imm kT a.1, .rf 1 kT, .int .i64 (.ofNat a.2.2)]
noncomputable def VC19 (a : List (List AV) × List (List AV) × Nat) : List Blk := [.dead, .row kT a.2.1]
noncomputable def dec19 : List AV → List Blk → Option (List (List AV) × List (List AV) × Nat)
  | [.sl .imm [.int .i64, .int .i64, .int .i64, .int .i64] es, .rf 1 [.int .i64, .int .i64, .int .i64, .int .i64], .int .i64 (.ofNat i)], [.dead, .row [.int .i64, .int .i64, .int .i64, .int .i64] out] => some (es, out, i)
  | _, _ => none
noncomputable def sp19L (a : List (List AV) × List (List AV) × Nat) : Bool × List (Bool × Ex × List AV × List Blk) × Ex × List AV × List Blk := (Nat.ble ((a.2.1.length + (a.1.length - a.2.2)) * 32) 140737488355328 && Nat.ble a.1.length 9223372036854775807, [], .exit 0, [.rf 1 kT], [.row kT (a.2.1 ++ (a.1.drop a.2.2).map fitT)])
noncomputable def lsp19 : Lsp := fun i s => match Nat.beq i 3 with
  | true => lspOf [0, 3, 4] [0, 1] [3] [1] Try.f19.ntmps (0 + tab.nid 19) dec19 sp19L s
  | false => none
theorem lok19 (gam : Gam) : LoopOK1 (cfg Try.prog tab 100000 gam lsp19 19 0 Try.f19.ntmps) (loopAt Try.f19 3) := by
  refine LoopOK1.of (i := 3) (by kernel_rfl) [0, 3, 4] [0, 1] [3] [1] VT19 VC19 dec19 sp19L (fun a => a.1.length - a.2.2) (fun s => rfl) (fun vt vc a h => ?_) (fun a ha => ?_)
  · unfold dec19 at h
    split at h
    · injection h with h
      subst h
      exact ⟨rfl, rfl⟩
    · cases h
  · obtain ⟨es, out, i⟩ := a
    have ha' := ha
    simp only [sp19L, Bool.and_eq_true] at ha'
    obtain ⟨hr1, hl⟩ := ha'
    have hl := Nat.le_of_ble_eq_true hl
    have hr1 := Nat.le_of_ble_eq_true hr1
    by_cases hi : i < es.length
    · have hd := drop_step (α := List AV) [] hi
      have b5 : decide ((out.length + 1) * 32 ≤ 140737488355328) = true := by rw [decide_eq_true_eq]; omega
      have b6 : decide (out.length + 1 ≤ 9223372036854775807) = true := by rw [decide_eq_true_eq]; omega
      have hr := rd19_3 lsp19 gam es out i
      rw [lt_dec hi, nn_dec, b5, b6, wrapN i es.length hi hl] at hr
      have key : roundV (cfg Try.prog tab 100000 gam lsp19 19 0 Try.f19.ntmps) (loopAt Try.f19 3) [0, 3, 4] [0, 1] [3] [1] (VT19 (es, out, i)) (VC19 (es, out, i)) = some (.norm, VT19 (es, out ++ [fitT (es.getD i [])], i + 1), VC19 (es, out ++ [fitT (es.getD i [])], i + 1)) := by
        refine Eq.trans hr ?_
        simp only [cond_true, Bool.and_self, Int.toNat_natCast]
        rfl
      clear hr
      refine ⟨_, _, _, key, (es, out ++ [fitT (es.getD i [])], i + 1), rfl, rfl, ?_, ?_, by simp only; omega⟩
      · simp only [sp19L, Bool.and_eq_true]
        exact ⟨Nat.ble_eq_true_of_le (by rw [List.length_append, List.length_singleton]; omega), Nat.ble_eq_true_of_le hl⟩
      · simp only [sp19L, hd, List.map_cons, List.append_assoc, List.singleton_append]
    · have hr := rd19_3 lsp19 gam es out i
      rw [ge_dec hi] at hr
      refine ⟨_, _, _, hr, ?_⟩
      simp only [sp19L, List.drop_eq_nil_of_le (Nat.le_of_not_lt hi), List.map_nil, List.append_nil, pickE]
theorem loops19 (gam : Gam) : ∀ c, Try.f19.body = some c → LoopsOK (cfg Try.prog tab 100000 gam lsp19 19 ([] : List Blk).length Try.f19.ntmps) c := loops_one (i := 3) (by kernel_rfl) (lok19 gam)
noncomputable def VT22 (a : List (List AV) × List (List AV) × Nat) : List AV := [.sl .imm kT a.1, .rf 1 kT, .int .i64 (.ofNat a.2.2)]
noncomputable def VC22 (a : List (List AV) × List (List AV) × Nat) : List Blk := [.dead, .row kT a.2.1]
noncomputable def dec22 : List AV → List Blk → Option (List (List AV) × List (List AV) × Nat)
  | [.sl .imm [.int .i64, .int .i64, .int .i64, .int .i64] es, .rf 1 [.int .i64, .int .i64, .int .i64, .int .i64], .int .i64 (.ofNat i)], [.dead, .row [.int .i64, .int .i64, .int .i64, .int .i64] out] => some (es, out, i)
  | _, _ => none
noncomputable def sp22L (a : List (List AV) × List (List AV) × Nat) : Bool × List (Bool × Ex × List AV × List Blk) × Ex × List AV × List Blk := (Nat.ble ((a.2.1.length + (a.1.length - a.2.2)) * 32) 140737488355328 && Nat.ble a.1.length 9223372036854775807, [], .exit 0, [.rf 1 kT], [.row kT (a.2.1 ++ (a.1.drop a.2.2).map fitT)])
noncomputable def lsp22 : Lsp := fun i s => match Nat.beq i 3 with
  | true => lspOf [0, 3, 4] [0, 1] [3] [1] Try.f22.ntmps (0 + tab.nid 22) dec22 sp22L s
  | false => none
theorem lok22 (gam : Gam) : LoopOK1 (cfg Try.prog tab 100000 gam lsp22 22 0 Try.f22.ntmps) (loopAt Try.f22 3) := by
  refine LoopOK1.of (i := 3) (by kernel_rfl) [0, 3, 4] [0, 1] [3] [1] VT22 VC22 dec22 sp22L (fun a => a.1.length - a.2.2) (fun s => rfl) (fun vt vc a h => ?_) (fun a ha => ?_)
  · unfold dec22 at h
    split at h
    · injection h with h
      subst h
      exact ⟨rfl, rfl⟩
    · cases h
  · obtain ⟨es, out, i⟩ := a
    have ha' := ha
    simp only [sp22L, Bool.and_eq_true] at ha'
    obtain ⟨hr1, hl⟩ := ha'
    have hl := Nat.le_of_ble_eq_true hl
    have hr1 := Nat.le_of_ble_eq_true hr1
    by_cases hi : i < es.length
    · have hd := drop_step (α := List AV) [] hi
      have b5 : decide ((out.length + 1) * 32 ≤ 140737488355328) = true := by rw [decide_eq_true_eq]; omega
      have b6 : decide (out.length + 1 ≤ 9223372036854775807) = true := by rw [decide_eq_true_eq]; omega
      have hr := rd22_3 lsp22 gam es out i
      rw [lt_dec hi, nn_dec, b5, b6, wrapN i es.length hi hl] at hr
      have key : roundV (cfg Try.prog tab 100000 gam lsp22 22 0 Try.f22.ntmps) (loopAt Try.f22 3) [0, 3, 4] [0, 1] [3] [1] (VT22 (es, out, i)) (VC22 (es, out, i)) = some (.norm, VT22 (es, out ++ [fitT (es.getD i [])], i + 1), VC22 (es, out ++ [fitT (es.getD i [])], i + 1)) := by
        refine Eq.trans hr ?_
        simp only [cond_true, Bool.and_self, Int.toNat_natCast]
        rfl
      clear hr
      refine ⟨_, _, _, key, (es, out ++ [fitT (es.getD i [])], i + 1), rfl, rfl, ?_, ?_, by simp only; omega⟩
      · simp only [sp22L, Bool.and_eq_true]
        exact ⟨Nat.ble_eq_true_of_le (by rw [List.length_append, List.length_singleton]; omega), Nat.ble_eq_true_of_le hl⟩
      · simp only [sp22L, hd, List.map_cons, List.append_assoc, List.singleton_append]
    · have hr := rd22_3 lsp22 gam es out i
      rw [ge_dec hi] at hr
      refine ⟨_, _, _, hr, ?_⟩
      simp only [sp22L, List.drop_eq_nil_of_le (Nat.le_of_not_lt hi), List.map_nil, List.append_nil, pickE]
theorem loops22 (gam : Gam) : ∀ c, Try.f22.body = some c → LoopsOK (cfg Try.prog tab 100000 gam lsp22 22 ([] : List Blk).length Try.f22.ntmps) c := loops_one (i := 3) (by kernel_rfl) (lok22 gam)
noncomputable def VT21 (a : List (List AV) × List (List AV) × Nat) : List AV := [.sl .imm [.int .i64, .int .i64, .int .i64, .int .i64] a.1, .sl .imm [.int .i64, .int .i64, .int .i64, .int .i64] a.2.1, .int .i64 (.ofNat a.2.2)]
noncomputable def VC21 (a : List (List AV) × List (List AV) × Nat) : List Blk := []
noncomputable def dec21 : List AV → List Blk → Option (List (List AV) × List (List AV) × Nat)
  | [.sl .imm [.int .i64, .int .i64, .int .i64, .int .i64] es, .sl .imm [.int .i64, .int .i64, .int .i64, .int .i64] es2, .int .i64 (.ofNat i)], [] => some (es, es2, i)
  | _, _ => none
noncomputable def sp21L (a : List (List AV) × List (List AV) × Nat) : Bool × List (Bool × Ex × List AV × List Blk) × Ex × List AV × List Blk := (Nat.ble a.1.length 9223372036854775807 && decide (a.1.length = a.2.1.length), [(missT (a.1.drop a.2.2) (a.2.1.drop a.2.2), .ret, [.bool false], [])], .exit 0, [.junk], [])
noncomputable def lsp21 : Lsp := fun i s => match Nat.beq i 4 with
  | true => lspOf [0, 1, 5] [] [4] [] Try.f21.ntmps (0 + tab.nid 21) dec21 sp21L s
  | false => none
theorem lok21 (gam : Gam) : LoopOK1 (cfg Try.prog tab 100000 gam lsp21 21 0 Try.f21.ntmps) (loopAt Try.f21 4) := by
  refine LoopOK1.of (i := 4) (by kernel_rfl) [0, 1, 5] [] [4] [] VT21 VC21 dec21 sp21L (fun a => a.1.length - a.2.2) (fun s => rfl) (fun vt vc a h => ?_) (fun a ha => ?_)
  · unfold dec21 at h
    split at h
    · injection h with h
      subst h
      exact ⟨rfl, rfl⟩
    · cases h
  · obtain ⟨es, es2, i⟩ := a
    have hl : Nat.ble es.length 9223372036854775807 = true ∧ es.length = es2.length := by simpa only [sp21L, decide_eq_true_eq, Bool.and_eq_true] using ha
    have hl1 := Nat.le_of_ble_eq_true hl.1
    have hr := rd21_4 lsp21 gam es es2 i
    by_cases hi : i < es.length
    · have hi2 : i < es2.length := by omega
      rw [lt_dec hi, lt_dec hi2, nn_dec, Int.toNat_natCast, wrapN i es.length hi hl1, Bool.and_self, cond_true, cond_true, cond_true] at hr
      have hd := drop_step (α := List AV) [] hi
      have hd2 := drop_step (α := List AV) [] hi2
      cases hc : (gT (es.getD i []) 0 == gT (es2.getD i []) 0 && (gT (es.getD i []) (0 + 1) == gT (es2.getD i []) (0 + 1) && (gT (es.getD i []) (0 + 1 + 1) == gT (es2.getD i []) (0 + 1 + 1) && (gT (es.getD i []) (0 + 1 + 1 + 1) == gT (es2.getD i []) (0 + 1 + 1 + 1) && true)))) with
      | false =>
        have hc' := hc
        unfold gT at hc'
        rw [hc', Bool.not_false, cond_true] at hr
        refine ⟨_, _, _, hr, ?_⟩
        try simp only [Nat.zero_add, Nat.reduceAdd] at hc
        simp only [sp21L, hd, hd2, missT, hc, Bool.not_false, Bool.true_or, pickE, cond_true]
      | true =>
        have hc' := hc
        unfold gT at hc'
        rw [hc', Bool.not_true, cond_false] at hr
        refine ⟨_, _, _, hr, (es, es2, i + 1), rfl, rfl, ha, ?_, by simp only; omega⟩
        try simp only [Nat.zero_add, Nat.reduceAdd] at hc
        simp only [sp21L, hd, hd2, missT, hc, Bool.not_true, Bool.false_or]
    · rw [ge_dec hi, cond_false] at hr
      refine ⟨_, _, _, hr, ?_⟩
      simp only [sp21L, List.drop_eq_nil_of_le (Nat.le_of_not_lt hi), missT, pickE, cond_false]
theorem loops21 (gam : Gam) : ∀ c, Try.f21.body = some c → LoopsOK (cfg Try.prog tab 100000 gam lsp21 21 ([] : List Blk).length Try.f21.ntmps) c := loops_one (i := 4) (by kernel_rfl) (lok21 gam)
noncomputable def VT23 (a : List (List AV) × List (List AV) × Nat) : List AV := [.sl .imm [.int .i64] a.1, .sl .imm [.int .i64] a.2.1, .int .i64 (.ofNat a.2.2)]
noncomputable def VC23 (a : List (List AV) × List (List AV) × Nat) : List Blk := []
noncomputable def dec23 : List AV → List Blk → Option (List (List AV) × List (List AV) × Nat)
  | [.sl .imm [.int .i64] es, .sl .imm [.int .i64] es2, .int .i64 (.ofNat i)], [] => some (es, es2, i)
  | _, _ => none
noncomputable def sp23L (a : List (List AV) × List (List AV) × Nat) : Bool × List (Bool × Ex × List AV × List Blk) × Ex × List AV × List Blk := (Nat.ble a.1.length 9223372036854775807 && decide (a.1.length = a.2.1.length), [(missI (a.1.drop a.2.2) (a.2.1.drop a.2.2), .ret, [.bool false], [])], .exit 0, [.junk], [])
noncomputable def lsp23 : Lsp := fun i s => match Nat.beq i 4 with
  | true => lspOf [0, 1, 5] [] [4] [] Try.f23.ntmps (0 + tab.nid 23) dec23 sp23L s
  | false => none
theorem lok23 (gam : Gam) : LoopOK1 (cfg Try.prog tab 100000 gam lsp23 23 0 Try.f23.ntmps) (loopAt Try.f23 4) := by
  refine LoopOK1.of (i := 4) (by kernel_rfl) [0, 1, 5] [] [4] [] VT23 VC23 dec23 sp23L (fun a => a.1.length - a.2.2) (fun s => rfl) (fun vt vc a h => ?_) (fun a ha => ?_)
  · unfold dec23 at h
    split at h
    · injection h with h
      subst h
      exact ⟨rfl, rfl⟩
    · cases h
  · obtain ⟨es, es2, i⟩ := a
    have hl : Nat.ble es.length 9223372036854775807 = true ∧ es.length = es2.length := by simpa only [sp23L, decide_eq_true_eq, Bool.and_eq_true] using ha
    have hl1 := Nat.le_of_ble_eq_true hl.1
    have hr := rd23_4 lsp23 gam es es2 i
    by_cases hi : i < es.length
    · have hi2 : i < es2.length := by omega
      rw [lt_dec hi, lt_dec hi2, nn_dec, Int.toNat_natCast, wrapN i es.length hi hl1, Bool.and_self, cond_true, cond_true, cond_true] at hr
      have hd := drop_step (α := List AV) [] hi
      have hd2 := drop_step (α := List AV) [] hi2
      cases hc : (gT (es.getD i []) 0 != gT (es2.getD i []) 0) with
      | true =>
        have hc' := hc
        unfold gT at hc'
        rw [hc', cond_true] at hr
        refine ⟨_, _, _, hr, ?_⟩
        try simp only [Nat.zero_add, Nat.reduceAdd] at hc
        simp only [sp23L, hd, hd2, missI, hc, Bool.not_false, Bool.true_or, pickE, cond_true]
      | false =>
        have hc' := hc
        unfold gT at hc'
        rw [hc', cond_false] at hr
        refine ⟨_, _, _, hr, (es, es2, i + 1), rfl, rfl, ha, ?_, by simp only; omega⟩
        try simp only [Nat.zero_add, Nat.reduceAdd] at hc
        simp only [sp23L, hd, hd2, missI, hc, Bool.not_true, Bool.false_or]
    · rw [ge_dec hi, cond_false] at hr
      refine ⟨_, _, _, hr, ?_⟩
      simp only [sp23L, List.drop_eq_nil_of_le (Nat.le_of_not_lt hi), missI, pickE, cond_false]
theorem loops23 (gam : Gam) : ∀ c, Try.f23.body = some c → LoopsOK (cfg Try.prog tab 100000 gam lsp23 23 ([] : List Blk).length Try.f23.ntmps) c := loops_one (i := 4) (by kernel_rfl) (lok23 gam)
end Go.Proofs.Gv
