/-
The loop of the law of BlockParts: it ends where all frames are the same.
-/
import Derived.Test.YtndephedgodneaaGlPar9
import Derived.Test.YtndephedgodneaaGsPar
namespace Go.Proofs.Gv
open Go.Proofs
set_option linter.unusedVariables false
noncomputable def same2 (x y : List AV) : Bool := vev14_0 (intOf (x.getD 0 .junk)) (intOf (x.getD 1 .junk)) (intOf (x.getD 2 .junk)) (strOf (x.getD 3 .junk)) (intOf (x.getD 4 .junk)) (intOf (x.getD 5 .junk)) (boolOf (x.getD 6 .junk)) (intOf (x.getD 7 .junk)) (intOf (x.getD 8 .junk)) (intOf (x.getD 9 .junk)) (intOf (x.getD 10 .junk)) (elsO (x.getD 11 .junk)) (intOf (y.getD 0 .junk)) (intOf (y.getD 1 .junk)) (intOf (y.getD 2 .junk)) (strOf (y.getD 3 .junk)) (intOf (y.getD 4 .junk)) (intOf (y.getD 5 .junk)) (boolOf (y.getD 6 .junk)) (intOf (y.getD 7 .junk)) (intOf (y.getD 8 .junk)) (intOf (y.getD 9 .junk)) (intOf (y.getD 10 .junk)) (elsO (y.getD 11 .junk))
noncomputable def okS2 (x y : List AV) : Bool := vev14_1 (intOf (x.getD 0 .junk)) (intOf (x.getD 1 .junk)) (intOf (x.getD 2 .junk)) (strOf (x.getD 3 .junk)) (intOf (x.getD 4 .junk)) (intOf (x.getD 5 .junk)) (boolOf (x.getD 6 .junk)) (intOf (x.getD 7 .junk)) (intOf (x.getD 8 .junk)) (intOf (x.getD 9 .junk)) (intOf (x.getD 10 .junk)) (elsO (x.getD 11 .junk)) (intOf (y.getD 0 .junk)) (intOf (y.getD 1 .junk)) (intOf (y.getD 2 .junk)) (strOf (y.getD 3 .junk)) (intOf (y.getD 4 .junk)) (intOf (y.getD 5 .junk)) (boolOf (y.getD 6 .junk)) (intOf (y.getD 7 .junk)) (intOf (y.getD 8 .junk)) (intOf (y.getD 9 .junk)) (intOf (y.getD 10 .junk)) (elsO (y.getD 11 .junk))
noncomputable def allS : List (List AV) → List (List AV) → Bool
  | [], _ => true
  | _ :: _, [] => false
  | x :: l, y :: m => okS2 x y && (same2 x y && allS l m)
noncomputable def VT9 (a : List (List AV) × List (List AV) × Nat) : List AV := [.sl .imm fK a.1, .sl .imm fK a.2.1, .int .i64 (.ofNat a.2.2)]
noncomputable def VC9 (a : List (List AV) × List (List AV) × Nat) : List Blk := []
noncomputable def dec9 : List AV → List Blk → Option (List (List AV) × List (List AV) × Nat)
  | [.sl .imm [.int .u8, .int .u8, .int .i64, .str, .int .i64, .int .i64, .bool, .int .u8, .int .u32, .int .i64, .int .i64, .sl [.int .u16, .int .u32]] es, .sl .imm [.int .u8, .int .u8, .int .i64, .str, .int .i64, .int .i64, .bool, .int .u8, .int .u32, .int .i64, .int .i64, .sl [.int .u16, .int .u32]] fs, .int .i64 (.ofNat i)], [] => some (es, fs, i)
  | _, _ => none
noncomputable def sp9L (a : List (List AV) × List (List AV) × Nat) : Bool × List (Bool × Ex × List AV × List Blk) × Ex × List AV × List Blk :=
  (Nat.ble a.1.length 9223372036854775807 && allS (a.1.drop a.2.2) (a.2.1.drop a.2.2), [], .exit 0, [.sl .imm fK a.1], [])
noncomputable def lsp9 : Lsp := fun i s => match Nat.beq i 8 with
  | true => lspOf [7, 9, 11] [] [7] [] Try.f9.ntmps (0 + tab.nid 9) dec9 sp9L s
  | false => none
theorem rd9 (es fs : List (List AV)) (i : Nat) : roundV (cfg Try.prog tab 100000 (gk k14 30) lsp9 9 0 Try.f9.ntmps) (loopAt Try.f9 8) [7, 9, 11] [] [7] [] (VT9 (es, fs, i)) (VC9 (es, fs, i)) =
    bif decide ((i : Int) < (es.length : Int)) then bif decide ((0 : Int) ≤ (i : Int)) && decide ((i : Int) < (es.length : Int)) then bif decide ((0 : Int) ≤ (i : Int)) && decide ((i : Int) < (fs.length : Int)) then
      bif okS2 (es.getD (i : Int).toNat []) (fs.getD (i : Int).toNat []) then bif !same2 (es.getD (i : Int).toNat []) (fs.getD (i : Int).toNat []) then some (.ret, [.sl .imm fK es], []) else some (.norm, [.sl .imm fK es, .sl .imm fK fs, .int .i64 (IntKind.i64.wrap ((i : Int) + 1))], []) else none else none else none
    else some (.exit 0, [.sl .imm fK es], []) := rd9_8 lsp9 es fs i
theorem lok9 : LoopOK1 (cfg Try.prog tab 100000 (gk k14 30) lsp9 9 0 Try.f9.ntmps) (loopAt Try.f9 8) := by
  refine LoopOK1.of (i := 8) (by kernel_rfl) [7, 9, 11] [] [7] [] VT9 VC9 dec9 sp9L (fun a => a.1.length - a.2.2) (fun s => rfl) (fun vt vc a h => ?_) (fun a ha => ?_)
  · unfold dec9 at h
    split at h
    · injection h with h
      subst h
      exact ⟨rfl, rfl⟩
    · cases h
  · obtain ⟨es, fs, i⟩ := a
    have hl : Nat.ble es.length 9223372036854775807 = true ∧ allS (es.drop i) (fs.drop i) = true := by simpa only [sp9L, Bool.and_eq_true] using ha
    have hl1 := Nat.le_of_ble_eq_true hl.1
    have hr := rd9 es fs i
    by_cases hi : i < es.length
    · have hd := drop_step (α := List AV) [] hi
      have hs := hl.2
      rw [hd] at hs
      by_cases hi2 : i < fs.length
      · have hd2 := drop_step (α := List AV) [] hi2
        rw [hd2] at hs
        simp only [allS, Bool.and_eq_true] at hs
        rw [lt_dec hi, lt_dec hi2, nn_dec, Int.toNat_natCast, wrapN i es.length hi hl1, hs.1, hs.2.1] at hr
        refine ⟨_, _, _, hr, (es, fs, i + 1), rfl, rfl, ?_, rfl, by simp only; omega⟩
        simp only [sp9L, hl.1, hs.2.2, Bool.and_self]
      · rw [List.drop_eq_nil_of_le (Nat.le_of_not_lt hi2)] at hs
        simp [allS] at hs
    · rw [ge_dec hi] at hr
      exact ⟨_, _, _, hr, rfl⟩
theorem loops9 : ∀ c, Try.f9.body = some c → LoopsOK (cfg Try.prog tab 100000 (gk k14 30) lsp9 9 ([] : List Blk).length Try.f9.ntmps) c := loops_one (i := 8) (by kernel_rfl) lok9
end Go.Proofs.Gv
