/-
The loops of Drain, of outq and of its document: what they do.
-/
import Derived.Test.YtdickgcdjmhgiaaGlDr
import Derived.Test.YtdickgcdjmhgiaaGsOut
namespace Go.Proofs.Gv
open Go.Proofs
set_option linter.unusedVariables false
set_option maxHeartbeats 1000000
def sumN : List (List AV) → Nat
  | [] => 0
  | e :: l => (gS e).length + sumN l
def cntD (n : Int) : Nat → List (List AV) → Nat
  | _, [] => 0
  | o, e :: l => bif decide (((gS e).length : Int) > IntKind.i64.wrap (n - (o : Int))) then 0 else cntD n (o + (gS e).length) l + 1
def bytD (n : Int) : Nat → List (List AV) → List UInt8
  | _, [] => []
  | o, e :: l => bif decide (((gS e).length : Int) > IntKind.i64.wrap (n - (o : Int))) then [] else gS e ++ bytD n (o + (gS e).length) l
def kN (n : Int) (o len : Nat) : Nat := Nat.min (n - (o : Int)).toNat len
def byt12 (n : Int) : Nat → List (List AV) → List UInt8
  | _, [] => []
  | o, e :: l => (gS e).take (kN n o (gS e).length) ++ byt12 n (o + kN n o (gS e).length) l
def rst12 (n : Int) : Nat → List (List AV) → List (List AV)
  | _, [] => []
  | o, e :: l => bif Nat.blt (kN n o (gS e).length) (gS e).length then [.str ((gS e).drop (kN n o (gS e).length))] :: rst12 n (o + kN n o (gS e).length) l else rst12 n (o + kN n o (gS e).length) l
abbrev T11 : Type := List (List AV) × List (List AV) × Int × Int × Int × Nat × Int × Nat
noncomputable def VT11 (x : T11) : List AV := [.int .i64 x.2.2.2.2.1, .hp 5 0, .hp 3 0, .rf 6 [.int .u8], .int .i64 (.ofNat x.2.2.2.2.2.1), .rf 7 [.str], .int .i64 x.2.2.2.2.2.2.1, .int .i64 (.ofNat x.2.2.2.2.2.2.2)]
noncomputable def VC11 (x : T11) : List Blk := [.dead, .dead, .dead, .var [.rf 7 [.str], .int .i64 x.2.2.1, .int .i64 x.2.2.2.1], .var [.nil, .int .i64 0, .int .i64 0], .row [.int .u8] x.2.1, .row [.str] x.1]
noncomputable def dec11 : List AV → List Blk → Option T11
  | [.int .i64 n, .hp 5 0, .hp 3 0, .rf 6 [.int .u8], .int .i64 (.ofNat w), .rf 7 [.str], .int .i64 m, .int .i64 (.ofNat i)], [.dead, .dead, .dead, .var [.rf 7 [.str], .int .i64 a, .int .i64 b], .var [.nil, .int .i64 0, .int .i64 0], .row [.int .u8] out, .row [.str] es] => some (es, out, a, b, n, w, m, i)
  | _, _ => none
noncomputable def sp11L (x : T11) : Bool × List (Bool × Ex × List AV × List Blk) × Ex × List AV × List Blk :=
  ((Nat.beq x.2.2.2.2.2.1 x.2.2.2.2.2.2.2 && decide (x.2.2.2.2.2.2.1 = (x.1.length : Int))) && (Nat.ble (x.2.1.length + sumN (x.1.drop x.2.2.2.2.2.2.2)) 140737488355328 && Nat.ble x.1.length 9223372036854775807), [], .exit 0,
    [.int .i64 x.2.2.2.2.1, .hp 5 0, .hp 3 0, .rf 6 [.int .u8], .int .i64 (.ofNat (x.2.2.2.2.2.2.2 + cntD x.2.2.2.2.1 x.2.1.length (x.1.drop x.2.2.2.2.2.2.2)))],
    [.var [.rf 7 [.str], .int .i64 x.2.2.1, .int .i64 x.2.2.2.1], .var [.nil, .int .i64 0, .int .i64 0], .row [.int .u8] (x.2.1 ++ (bytD x.2.2.2.2.1 x.2.1.length (x.1.drop x.2.2.2.2.2.2.2)).map ofB), .row [.str] x.1])
noncomputable def lsp11 : Lsp := fun i s => match Nat.beq i 7 with
  | true => lspOf [1, 4, 6, 7, 8, 23, 24, 25] [0, 1, 2, 3, 5, 6, 7] [1, 4, 6, 7, 8] [3, 5, 6, 7] Try.f11.ntmps (0 + tab.nid 11) dec11 sp11L s
  | false => none
theorem lok11 (gam : Gam) : LoopOK1 (cfg Try.prog tab 100000 gam lsp11 11 0 Try.f11.ntmps) (loopAt Try.f11 7) := by
  refine LoopOK1.of (i := 7) (by kernel_rfl) [1, 4, 6, 7, 8, 23, 24, 25] [0, 1, 2, 3, 5, 6, 7] [1, 4, 6, 7, 8] [3, 5, 6, 7] VT11 VC11 dec11 sp11L (fun x => x.1.length - x.2.2.2.2.2.2.2) (fun s => rfl) (fun vt vc a h => ?_) (fun a ha => ?_)
  · unfold dec11 at h
    split at h
    · injection h with h
      subst h
      exact ⟨rfl, rfl⟩
    · cases h
  · obtain ⟨es, out, a, b, n, w, m, i⟩ := a
    have ha' := ha
    simp only [sp11L, Bool.and_eq_true, decide_eq_true_eq] at ha'
    obtain ⟨⟨hw, rfl⟩, hr1, hl⟩ := ha'
    have hw := Nat.eq_of_beq_eq_true hw
    subst hw
    have hl := Nat.le_of_ble_eq_true hl
    have hr1' := Nat.le_of_ble_eq_true hr1
    by_cases hi : w < es.length
    · have hd := drop_step (α := List AV) [] hi
      rw [hd] at hr1'
      simp only [sumN] at hr1'
      have hr := rd11_7 lsp11 gam es out a b n w
      rw [lt_dec hi, nn_dec, Int.toNat_natCast, wrapN w es.length hi hl, List.length_map] at hr
      simp only [Bool.and_self, cond_true] at hr
      cases hc : decide (((gS (es.getD w [])).length : Int) > IntKind.i64.wrap (n - (out.length : Int))) with
      | true =>
        have hc' := hc
        unfold gS at hc'
        rw [hc', cond_true] at hr
        refine ⟨_, _, _, hr, ?_⟩
        simp only [sp11L, hd, cntD, bytD, hc, cond_true, List.map_nil, List.append_nil, pickE]
        rfl
      | false =>
        have hc' := hc
        unfold gS at hc'
        rw [hc', cond_false] at hr
        have b5 : decide ((out.length + (strOf ((es.getD w []).getD 0 AV.junk)).length) * 1 ≤ 140737488355328) = true := by
          rw [decide_eq_true_eq]
          have : (strOf ((es.getD w []).getD 0 AV.junk)).length = (gS (es.getD w [])).length := rfl
          omega
        have b6 : decide (out.length + (strOf ((es.getD w []).getD 0 AV.junk)).length ≤ 9223372036854775807) = true := by
          rw [decide_eq_true_eq]
          have : (strOf ((es.getD w []).getD 0 AV.junk)).length = (gS (es.getD w [])).length := rfl
          omega
        rw [b5, b6] at hr
        have key : roundV (cfg Try.prog tab 100000 gam lsp11 11 0 Try.f11.ntmps) (loopAt Try.f11 7) [1, 4, 6, 7, 8, 23, 24, 25] [0, 1, 2, 3, 5, 6, 7] [1, 4, 6, 7, 8] [3, 5, 6, 7] (VT11 (es, out, a, b, n, w, (es.length : Int), w)) (VC11 (es, out, a, b, n, w, (es.length : Int), w)) =
            some (.norm, VT11 (es, out ++ (gS (es.getD w [])).map ofB, a, b, n, w + 1, (es.length : Int), w + 1), VC11 (es, out ++ (gS (es.getD w [])).map ofB, a, b, n, w + 1, (es.length : Int), w + 1)) := hr
        clear hr
        have hlen : (out ++ (gS (es.getD w [])).map ofB).length = out.length + (gS (es.getD w [])).length := by rw [List.length_append, List.length_map]
        refine ⟨_, _, _, key, (es, out ++ (gS (es.getD w [])).map ofB, a, b, n, w + 1, (es.length : Int), w + 1), rfl, rfl, ?_, ?_, by simp only; omega⟩
        · simp only [sp11L, Bool.and_eq_true, decide_eq_true_eq, hlen]
          exact ⟨⟨Nat.beq_refl _, trivial⟩, Nat.ble_eq_true_of_le (by omega), Nat.ble_eq_true_of_le hl⟩
        · simp only [sp11L, hlen, hd, cntD, bytD, hc, cond_false, List.map_append, List.append_assoc, Nat.add_assoc, Nat.add_comm 1]
    · have hr := rd11_7 lsp11 gam es out a b n w
      rw [ge_dec hi] at hr
      refine ⟨_, _, _, hr, ?_⟩
      simp only [sp11L, List.drop_eq_nil_of_le (Nat.le_of_not_lt hi), cntD, bytD, List.map_nil, List.append_nil, pickE]
      rfl
theorem loops11 (gam : Gam) : ∀ c, Try.f11.body = some c → LoopsOK (cfg Try.prog tab 100000 gam lsp11 11 ([] : List Blk).length Try.f11.ntmps) c := loops_one (i := 7) (by kernel_rfl) (lok11 gam)
abbrev T12 : Type := List (List AV) × List (List AV) × List (List AV) × Int × Int × Int × Int × Int × Nat
noncomputable def VT12 (x : T12) : List AV := [.int .i64 x.2.2.2.2.2.2.2.1, .hp 3 0, .hp 4 0, .hp 2 0, .rf 6 [.int .u8], .int .i64 (.ofNat x.2.2.2.2.2.2.2.2)]
noncomputable def VC12 (x : T12) : List Blk := [.dead, .dead, .var [.rf 5 [.str], .int .i64 x.2.2.2.1, .int .i64 x.2.2.2.2.1], .var [.sl .imm [.str] x.1, .int .i64 x.2.2.2.2.2.1, .int .i64 x.2.2.2.2.2.2.1], .var [.nil, .int .i64 0, .int .i64 0], .row [.str] x.2.2.1, .row [.int .u8] x.2.1]
noncomputable def dec12 : List AV → List Blk → Option T12
  | [.int .i64 n, .hp 3 0, .hp 4 0, .hp 2 0, .rf 6 [.int .u8], .int .i64 (.ofNat i)], [.dead, .dead, .var [.rf 5 [.str], .int .i64 a, .int .i64 b], .var [.sl .imm [.str] es, .int .i64 a2, .int .i64 b2], .var [.nil, .int .i64 0, .int .i64 0], .row [.str] rest, .row [.int .u8] out] => some (es, out, rest, a, b, a2, b2, n, i)
  | _, _ => none
noncomputable def sp12L (x : T12) : Bool × List (Bool × Ex × List AV × List Blk) × Ex × List AV × List Blk :=
  ((decide ((x.2.1.length : Int) ≤ x.2.2.2.2.2.2.2.1) && decide (x.2.2.2.2.2.2.2.1 ≤ 9223372036854775807)) && (Nat.ble (x.2.1.length + sumN (x.1.drop x.2.2.2.2.2.2.2.2)) 140737488355328 && (Nat.ble ((x.2.2.1.length + (x.1.length - x.2.2.2.2.2.2.2.2)) * 16) 140737488355328 && Nat.ble x.1.length 9223372036854775807)), [], .exit 0,
    [.hp 4 0, .hp 2 0, .rf 6 [.int .u8]],
    [.var [.rf 5 [.str], .int .i64 x.2.2.2.1, .int .i64 x.2.2.2.2.1], .var [.nil, .int .i64 0, .int .i64 0], .row [.str] (x.2.2.1 ++ rst12 x.2.2.2.2.2.2.2.1 x.2.1.length (x.1.drop x.2.2.2.2.2.2.2.2)), .row [.int .u8] (x.2.1 ++ (byt12 x.2.2.2.2.2.2.2.1 x.2.1.length (x.1.drop x.2.2.2.2.2.2.2.2)).map ofB)])
noncomputable def lsp12 : Lsp := fun i s => match Nat.beq i 6 with
  | true => lspOf [1, 2, 4, 6, 7, 8] [0, 1, 2, 3, 4, 5, 6] [4, 6, 7] [2, 4, 5, 6] Try.f12.ntmps (0 + tab.nid 12) dec12 sp12L s
  | false => none
theorem min_eq {n : Int} {o len : Nat} (h : (o : Int) ≤ n) (hn : n ≤ 9223372036854775807) : (if if false = true then IntKind.i64.wrap (n - (o : Int)) < (len : Int) else (len : Int) < IntKind.i64.wrap (n - (o : Int)) then (len : Int) else IntKind.i64.wrap (n - (o : Int))) = (kN n o len : Int) := by
  have hw : IntKind.i64.wrap (n - (o : Int)) = n - (o : Int) := by rw [IntKind.wrap_i64]; omega
  rw [hw]
  unfold kN
  simp only [Bool.false_eq_true, if_false]
  by_cases h2 : (len : Int) < n - (o : Int)
  · rw [if_pos h2, show Nat.min (n - (o : Int)).toNat len = len from Nat.min_eq_right (by omega)]
  · rw [if_neg h2, show Nat.min (n - (o : Int)).toNat len = (n - (o : Int)).toNat from Nat.min_eq_left (by omega)]; omega
theorem lok12 (gam : Gam) : LoopOK1 (cfg Try.prog tab 100000 gam lsp12 12 0 Try.f12.ntmps) (loopAt Try.f12 6) := by
  refine LoopOK1.of (i := 6) (by kernel_rfl) [1, 2, 4, 6, 7, 8] [0, 1, 2, 3, 4, 5, 6] [4, 6, 7] [2, 4, 5, 6] VT12 VC12 dec12 sp12L (fun x => x.1.length - x.2.2.2.2.2.2.2.2) (fun s => rfl) (fun vt vc a h => ?_) (fun a ha => ?_)
  · unfold dec12 at h
    split at h
    · injection h with h
      subst h
      exact ⟨rfl, rfl⟩
    · cases h
  · obtain ⟨es, out, rest, a, b, a2, b2, n, i⟩ := a
    have ha' := ha
    simp only [sp12L, Bool.and_eq_true, decide_eq_true_eq] at ha'
    obtain ⟨⟨h1, h2⟩, hr1, hr2, hl⟩ := ha'
    have hl := Nat.le_of_ble_eq_true hl
    have hr1' := Nat.le_of_ble_eq_true hr1
    have hr2' := Nat.le_of_ble_eq_true hr2
    by_cases hi : i < es.length
    · have hd := drop_step (α := List AV) [] hi
      rw [hd] at hr1'
      simp only [sumN] at hr1'
      have hk1 : kN n out.length (gS (es.getD i [])).length ≤ (gS (es.getD i [])).length := Nat.min_le_right _ _
      have hk2 : (kN n out.length (gS (es.getD i [])).length : Int) ≤ n - (out.length : Int) := by
        have : kN n out.length (gS (es.getD i [])).length ≤ (n - (out.length : Int)).toNat := Nat.min_le_left _ _
        omega
      generalize hK : kN n out.length (gS (es.getD i [])).length = K at hk1 hk2
      have c1 : bnd (0 : Int) (K : Int) ((gS (es.getD i [])).length : Int) = true := by simp only [bnd, Bool.and_eq_true, decide_eq_true_eq]; omega
      have c2 : bnd (K : Int) ((gS (es.getD i [])).length : Int) ((gS (es.getD i [])).length : Int) = true := by simp only [bnd, Bool.and_eq_true, decide_eq_true_eq]; omega
      have htl : (List.map ofB (List.take K (gS (es.getD i [])))).length = K := by rw [List.length_map, List.length_take]; exact Nat.min_eq_left hk1
      have b5 : decide ((out.length + K) * 1 ≤ 140737488355328) = true := by rw [decide_eq_true_eq]; omega
      have b6 : decide (out.length + K ≤ 9223372036854775807) = true := by rw [decide_eq_true_eq]; omega
      have b7 : decide ((rest.length + 1) * 16 ≤ 140737488355328) = true := by rw [decide_eq_true_eq]; omega
      have b8 : decide (rest.length + 1 ≤ 9223372036854775807) = true := by rw [decide_eq_true_eq]; omega
      have hlt : decide ((K : Int) < ((gS (es.getD i [])).length : Int)) = Nat.blt K (gS (es.getD i [])).length := by
        cases hq : Nat.blt K (gS (es.getD i [])).length with
        | true => have : K + 1 ≤ (gS (es.getD i [])).length := by simpa [Nat.blt] using hq
                  rw [decide_eq_true_eq]; omega
        | false =>
          have : ¬ (K + 1 ≤ (gS (es.getD i [])).length) := fun h => by
            have : Nat.blt K (gS (es.getD i [])).length = true := by simpa [Nat.blt] using h
            rw [hq] at this; cases this
          rw [decide_eq_false_iff_not]; omega
      have hlen : (out ++ (List.take K (gS (es.getD i []))).map ofB).length = out.length + K := by rw [List.length_append, htl]
      have key : roundV (cfg Try.prog tab 100000 gam lsp12 12 0 Try.f12.ntmps) (loopAt Try.f12 6) [1, 2, 4, 6, 7, 8] [0, 1, 2, 3, 4, 5, 6] [4, 6, 7] [2, 4, 5, 6] (VT12 (es, out, rest, a, b, a2, b2, n, i)) (VC12 (es, out, rest, a, b, a2, b2, n, i)) =
          some (.norm, VT12 (es, out ++ (List.take K (gS (es.getD i []))).map ofB, (bif Nat.blt K (gS (es.getD i [])).length then rest ++ [[.str ((gS (es.getD i [])).drop K)]] else rest), a, b, a2, b2, n, i + 1), VC12 (es, out ++ (List.take K (gS (es.getD i []))).map ofB, (bif Nat.blt K (gS (es.getD i [])).length then rest ++ [[.str ((gS (es.getD i [])).drop K)]] else rest), a, b, a2, b2, n, i + 1)) := by
        have hr := rd12_6 lsp12 gam es out rest a b a2 b2 n i
        have hg : strOf ((es.getD i []).getD 0 AV.junk) = gS (es.getD i []) := rfl
        rw [lt_dec hi, nn_dec, Int.toNat_natCast, wrapN i es.length hi hl, hg] at hr
        simp only [min_eq h1 h2, hK, Int.toNat_natCast, htl] at hr
        rw [c1, c2, b5, b6, b7, b8, hlt] at hr
        simp only [Bool.and_self, cond_true] at hr
        refine Eq.trans hr ?_
        clear hr
        cases Nat.blt K (gS (es.getD i [])).length <;> rfl
      refine ⟨_, _, _, key, (es, out ++ (List.take K (gS (es.getD i []))).map ofB, (bif Nat.blt K (gS (es.getD i [])).length then rest ++ [[.str ((gS (es.getD i [])).drop K)]] else rest), a, b, a2, b2, n, i + 1), rfl, rfl, ?_, ?_, by simp only; omega⟩
      · clear key
        simp only [sp12L, Bool.and_eq_true, decide_eq_true_eq, hlen]
        refine ⟨⟨by omega, h2⟩, Nat.ble_eq_true_of_le (by omega), Nat.ble_eq_true_of_le ?_, Nat.ble_eq_true_of_le hl⟩
        cases Nat.blt K (gS (es.getD i [])).length with
        | true => simp only [cond_true, List.length_append, List.length_singleton]; omega
        | false => simp only [cond_false]; omega
      · clear key
        simp only [sp12L, hlen, hd, byt12, rst12, hK, List.map_append, List.append_assoc]
        cases Nat.blt K (gS (es.getD i [])).length with
        | true => simp only [cond_true, List.append_assoc, List.singleton_append]
        | false => simp only [cond_false]
    · have hr := rd12_6 lsp12 gam es out rest a b a2 b2 n i
      rw [ge_dec hi] at hr
      refine ⟨_, _, _, hr, ?_⟩
      simp only [sp12L, List.drop_eq_nil_of_le (Nat.le_of_not_lt hi), byt12, rst12, List.map_nil, List.append_nil, pickE]
theorem loops12 (gam : Gam) : ∀ c, Try.f12.body = some c → LoopsOK (cfg Try.prog tab 100000 gam lsp12 12 ([] : List Blk).length Try.f12.ntmps) c := loops_one (i := 6) (by kernel_rfl) (lok12 gam)
end Go.Proofs.Gv
