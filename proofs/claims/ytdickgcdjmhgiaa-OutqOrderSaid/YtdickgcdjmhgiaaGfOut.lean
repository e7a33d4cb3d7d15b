import Derived.Test.YtdickgcdjmhgiaaGt
import Derived.KernelRfl
import Derived.Test.YtdickgcdjmhgiaaGsOut
import Derived.Test.YtdickgcdjmhgiaaGeOut
namespace Go.Proofs.Gv
open Go.Proofs
set_option linter.unusedVariables false
noncomputable def vev21_0 (es : List (List AV)) (a : Int) (b : Int) : Bool := bif (es.length * (16 : Nat)).ble (140737488355328 : Nat) then true else false
theorem ev21 (es : List (List AV)) (a : Int) (b : Int) : evFun (cfg Try.prog tab 100000 (gk k26c 30) noLsp 21 ([] : List Blk).length Try.f21.ntmps) Try.f21 [.agg [.sl .imm [.str] es, .int .i64 a, .int .i64 b]] [] = bif vev21_0 es a b then some (AV.agg [AV.rf (nat_lit 0) [Kd.str], AV.int IntKind.i64 a, AV.int IntKind.i64 b], [Blk.row [Kd.str] es]) else none := by
  have h : evFun (cfg Try.prog tab 100000 (gk k26c 30) noLsp 21 ([] : List Blk).length Try.f21.ntmps) Try.f21 [.agg [.sl .imm [.str] es, .int .i64 a, .int .i64 b]] [] = bif (es.length * (16 : Nat)).ble (140737488355328 : Nat) then some (AV.agg [AV.rf (nat_lit 0) [Kd.str], AV.int IntKind.i64 a, AV.int IntKind.i64 b], [Blk.row [Kd.str] es]) else none := by kernel_rfl
  rw [h]
  clear h
  unfold vev21_0
  generalize ((es.length * (16 : Nat)).ble (140737488355328 : Nat)) = c0
  cases c0
  · skip
    rfl
  · skip
    rfl
-- spec vev21_0 es a b ;; (AV.agg [AV.rf (nat_lit 0) [Kd.str], AV.int IntKind.i64 a, AV.int IntKind.i64 b], [Blk.row [Kd.str] es])
noncomputable def sp21 : List AV → List Blk → Option (Bool × AV × List Blk)
  | [.agg [.sl .imm [.str] es, .int .i64 a, .int .i64 b]], [] => spW (vev21_0 es a b) (fin Try.prog (tab.frz 21) ([] : List Blk).length Try.f21.resultTypes.toList (some ((AV.agg [AV.rf (nat_lit 0) [Kd.str], AV.int IntKind.i64 a, AV.int IntKind.i64 b], [Blk.row [Kd.str] es]))))
  | _, _ => none
noncomputable def k21 : Gam := fun f T C => match Nat.beq f 21 with
  | true => (sp21 T C).or (k26c f T C)
  | false => k26c f T C
theorem k21_ok : GamOK Try.prog k21 := by
  intro f T C r outs h
  unfold k21 at h
  cases hf : Nat.beq f 21 with
  | false => rw [hf] at h; exact k26c_ok f T C r outs h
  | true =>
    have hf' := Nat.eq_of_beq_eq_true hf
    subst hf'
    rw [hf] at h
    dsimp only at h
    cases hs : sp21 T C with
    | none => rw [hs] at h; exact k26c_ok _ T C r outs h
    | some x =>
      rw [hs] at h
      have hx : x = (true, r, outs) := by simpa using h
      subst hx
      unfold sp21 at hs
      split at hs
      · rename_i es a b
        obtain ⟨hb, hs⟩ := spW_inv hs
        have he := ev21 es a b
        rw [hb, cond_true] at he
        obtain ⟨h1, h2⟩ := fn_ok mixed plain (gk_ok k26c_ok 30) Try.func21 (fun c _ => LoopsOK.none (fun _ _ => rfl) c) he
        exact ⟨h1, h2.fin hs⟩
      · cases hs
noncomputable def vev9_0 (es : List (List AV)) (a : Int) (b : Int) (bs : List (List AV)) : List (List AV) := bif vev14_0 es a b != (0 : Int) then es else bif bif vev18_1 es a b then bif decide ((↑bs.length : Int) > vev18_0 es a b) then true else decide (a > IntKind.i64.wrap ((1099511627776 : Int) - (↑bs.length : Int))) else false then es else bif decide ((↑bs.length : Int) > (0 : Int)) then es ++ [[AV.str (List.map byteOf bs)]] else es
noncomputable def vev9_1 (es : List (List AV)) (a : Int) (b : Int) (bs : List (List AV)) : Int := bif vev14_0 es a b != (0 : Int) then a else bif bif vev18_1 es a b then bif decide ((↑bs.length : Int) > vev18_0 es a b) then true else decide (a > IntKind.i64.wrap ((1099511627776 : Int) - (↑bs.length : Int))) else false then a else bif decide ((↑bs.length : Int) > (0 : Int)) then IntKind.i64.wrap (a + (↑bs.length : Int)) else a
noncomputable def vev9_2 (es : List (List AV)) (a : Int) (b : Int) (bs : List (List AV)) : Int := bif vev14_0 es a b != (0 : Int) then vev14_0 es a b else bif bif vev18_1 es a b then bif decide ((↑bs.length : Int) > vev18_0 es a b) then true else decide (a > IntKind.i64.wrap ((1099511627776 : Int) - (↑bs.length : Int))) else false then (7 : Int) else (0 : Int)
noncomputable def vev9_3 (es : List (List AV)) (a : Int) (b : Int) (bs : List (List AV)) : Bool := bif vev21_0 es a b then bif vev14_1 es a b then bif vev14_0 es a b != (0 : Int) then true else bif vev18_1 es a b then bif bif vev18_1 es a b then bif decide ((↑bs.length : Int) > vev18_0 es a b) then true else decide (a > IntKind.i64.wrap ((1099511627776 : Int) - (↑bs.length : Int))) else false then true else bif decide ((↑bs.length : Int) > (0 : Int)) then bif bs.all isB then bif bif decide ((es.length + (1 : Nat)) * (16 : Nat) ≤ (140737488355328 : Nat)) then decide (es.length + (1 : Nat) ≤ (9223372036854775807 : Nat)) else false then true else false else false else true else false else false else false
theorem ev9 (es : List (List AV)) (a : Int) (b : Int) (bs : List (List AV)) : evFin (cfg Try.prog tab 100000 (gk k21 30) noLsp 9 ([] : List Blk).length Try.f9.ntmps) ([] : List Blk).length Try.f9.resultTypes.toList Try.f9 [.agg [.sl .imm [.str] es, .int .i64 a, .int .i64 b], .sl .imm [.int .u8] bs] [] = bif vev9_3 es a b bs then some (true, AV.tup [AV.agg [AV.sl Tk.imm [Kd.str] (vev9_0 es a b bs), AV.int IntKind.i64 (vev9_1 es a b bs), AV.int IntKind.i64 b], AV.int IntKind.i64 (vev9_2 es a b bs)], []) else none := by
  have h : evFin (cfg Try.prog tab 100000 (gk k21 30) noLsp 9 ([] : List Blk).length Try.f9.ntmps) ([] : List Blk).length Try.f9.resultTypes.toList Try.f9 [.agg [.sl .imm [.str] es, .int .i64 a, .int .i64 b], .sl .imm [.int .u8] bs] [] = bif vev21_0 es a b then bif vev14_1 es a b then bif vev14_0 es a b != (0 : Int) then some (true, AV.tup [AV.agg [AV.sl Tk.imm [Kd.str] es, AV.int IntKind.i64 a, AV.int IntKind.i64 b], AV.int IntKind.i64 (vev14_0 es a b)], []) else bif bif vev18_1 es a b then bif decide ((↑bs.length : Int) > vev18_0 es a b) then true else true else false then bif bif vev18_1 es a b then bif decide ((↑bs.length : Int) > vev18_0 es a b) then true else bif false then true else decide (a > IntKind.i64.wrap ((1099511627776 : Int) - (↑bs.length : Int))) else false then some (true, AV.tup [AV.agg [AV.sl Tk.imm [Kd.str] es, AV.int IntKind.i64 a, AV.int IntKind.i64 b], AV.int IntKind.i64 (7 : Int)], []) else bif decide ((↑bs.length : Int) > (0 : Int)) then bif bs.all isB then bif bif decide ((es.length + (1 : Nat)) * (16 : Nat) ≤ (140737488355328 : Nat)) then decide (es.length + (1 : Nat) ≤ (9223372036854775807 : Nat)) else false then some (true, AV.tup [AV.agg [AV.sl Tk.imm [Kd.str] (es ++ [[AV.str (List.map byteOf bs)]]), AV.int IntKind.i64 (IntKind.i64.wrap (a + (↑bs.length : Int))), AV.int IntKind.i64 b], AV.int IntKind.i64 (0 : Int)], []) else none else none else some (true, AV.tup [AV.agg [AV.sl Tk.imm [Kd.str] es, AV.int IntKind.i64 a, AV.int IntKind.i64 b], AV.int IntKind.i64 (0 : Int)], []) else none else none else none := by kernel_rfl
  rw [h]
  clear h
  unfold vev9_0 vev9_1 vev9_2 vev9_3
  generalize (decide ((es.length + (1 : Nat)) * (16 : Nat) ≤ (140737488355328 : Nat))) = c0
  generalize (decide (a > IntKind.i64.wrap ((1099511627776 : Int) - (↑bs.length : Int)))) = c1
  generalize (decide (es.length + (1 : Nat) ≤ (9223372036854775807 : Nat))) = c2
  generalize (decide ((↑bs.length : Int) > (0 : Int))) = c3
  generalize (decide ((↑bs.length : Int) > vev18_0 es a b)) = c4
  generalize (vev14_0 es a b != (0 : Int)) = c5
  generalize (bs.all isB) = c6
  generalize (vev21_0 es a b) = c7
  generalize (vev14_1 es a b) = c8
  generalize (vev18_1 es a b) = c9
  cases c7
  · skip
    rfl
  · skip
    cases c8
    · skip
      rfl
    · skip
      cases c5
      · skip
        cases c9
        · skip
          rfl
        · skip
          cases c4
          · skip
            cases c1
            · skip
              cases c3
              · skip
                rfl
              · skip
                cases c6
                · skip
                  rfl
                · skip
                  cases c0
                  · skip
                    rfl
                  · skip
                    cases c2
                    · skip
                      rfl
                    · skip
                      rfl
            · skip
              rfl
          · skip
            rfl
      · skip
        rfl
-- spec vev9_3 es a b bs ;; (true, AV.tup [AV.agg [AV.sl Tk.imm [Kd.str] (vev9_0 es a b bs), AV.int IntKind.i64 (vev9_1 es a b bs), AV.int IntKind.i64 b], AV.int IntKind.i64 (vev9_2 es a b bs)], [])
noncomputable def sp9 : List AV → List Blk → Option (Bool × AV × List Blk)
  | [.agg [.sl .imm [.str] es, .int .i64 a, .int .i64 b], .sl .imm [.int .u8] bs], [] => spW (vev9_3 es a b bs) (some ((true, AV.tup [AV.agg [AV.sl Tk.imm [Kd.str] (vev9_0 es a b bs), AV.int IntKind.i64 (vev9_1 es a b bs), AV.int IntKind.i64 b], AV.int IntKind.i64 (vev9_2 es a b bs)], [])))
  | _, _ => none
noncomputable def k9 : Gam := fun f T C => match Nat.beq f 9 with
  | true => (sp9 T C).or (k21 f T C)
  | false => k21 f T C
theorem k9_ok : GamOK Try.prog k9 := by
  intro f T C r outs h
  unfold k9 at h
  cases hf : Nat.beq f 9 with
  | false => rw [hf] at h; exact k21_ok f T C r outs h
  | true =>
    have hf' := Nat.eq_of_beq_eq_true hf
    subst hf'
    rw [hf] at h
    dsimp only at h
    cases hs : sp9 T C with
    | none => rw [hs] at h; exact k21_ok _ T C r outs h
    | some x =>
      rw [hs] at h
      have hx : x = (true, r, outs) := by simpa using h
      subst hx
      unfold sp9 at hs
      split at hs
      · rename_i es a b bs
        obtain ⟨hb, rfl, rfl⟩ := spT_inv hs
        have he := ev9 es a b bs
        rw [hb, cond_true] at he
        obtain ⟨r0, o0, h0, he⟩ := evFin_inv he
        obtain ⟨h1, h2⟩ := fn_ok mixed plain (gk_ok k21_ok 30) Try.func9 (fun c _ => LoopsOK.none (fun _ _ => rfl) c) h0
        exact ⟨h1, h2.fin he⟩
      · cases hs
noncomputable def vev10_0 (es : List (List AV)) (a : Int) (b : Int) (bs : List (List AV)) : List (List AV) := bif vev15_0 es a b != (0 : Int) then es else bif bif vev17_1 es a b then bif decide ((↑bs.length : Int) > IntKind.i64.wrap ((65536 : Int) - vev17_0 es a b)) then true else decide (IntKind.i64.wrap (a + (↑bs.length : Int)) > (1099511627776 : Int)) else false then es else bif (↑bs.length : Int) == (0 : Int) then es else es ++ [[AV.str (List.map byteOf bs)]]
noncomputable def vev10_1 (es : List (List AV)) (a : Int) (b : Int) (bs : List (List AV)) : Int := bif vev15_0 es a b != (0 : Int) then a else bif bif vev17_1 es a b then bif decide ((↑bs.length : Int) > IntKind.i64.wrap ((65536 : Int) - vev17_0 es a b)) then true else decide (IntKind.i64.wrap (a + (↑bs.length : Int)) > (1099511627776 : Int)) else false then a else bif (↑bs.length : Int) == (0 : Int) then a else IntKind.i64.wrap (a + (↑bs.length : Int))
noncomputable def vev10_2 (es : List (List AV)) (a : Int) (b : Int) (bs : List (List AV)) : Int := bif vev15_0 es a b != (0 : Int) then vev15_0 es a b else bif bif vev17_1 es a b then bif decide ((↑bs.length : Int) > IntKind.i64.wrap ((65536 : Int) - vev17_0 es a b)) then true else decide (IntKind.i64.wrap (a + (↑bs.length : Int)) > (1099511627776 : Int)) else false then (7 : Int) else (0 : Int)
noncomputable def vev10_3 (es : List (List AV)) (a : Int) (b : Int) (bs : List (List AV)) : Bool := bif vev15_1 es a b then bif vev15_0 es a b != (0 : Int) then true else bif vev17_1 es a b then bif bif vev17_1 es a b then bif decide ((↑bs.length : Int) > IntKind.i64.wrap ((65536 : Int) - vev17_0 es a b)) then true else decide (IntKind.i64.wrap (a + (↑bs.length : Int)) > (1099511627776 : Int)) else false then true else bif (↑bs.length : Int) == (0 : Int) then true else bif bif decide (es.length * (16 : Nat) ≤ (140737488355328 : Nat)) then decide (es.length ≤ (9223372036854775807 : Nat)) else false then bif bs.all isB then bif bif decide ((es.length + (1 : Nat)) * (16 : Nat) ≤ (140737488355328 : Nat)) then decide (es.length + (1 : Nat) ≤ (9223372036854775807 : Nat)) else false then true else false else false else false else false else false
theorem ev10 (es : List (List AV)) (a : Int) (b : Int) (bs : List (List AV)) : evFin (cfg Try.prog tab 100000 (gk k9 30) noLsp 10 ([] : List Blk).length Try.f10.ntmps) ([] : List Blk).length Try.f10.resultTypes.toList Try.f10 [.agg [.sl .imm [.str] es, .int .i64 a, .int .i64 b], .sl .imm [.int .u8] bs] [] = bif vev10_3 es a b bs then some (true, AV.tup [AV.agg [AV.sl Tk.imm [Kd.str] (vev10_0 es a b bs), AV.int IntKind.i64 (vev10_1 es a b bs), AV.int IntKind.i64 b], AV.int IntKind.i64 (vev10_2 es a b bs)], []) else none := by
  have h : evFin (cfg Try.prog tab 100000 (gk k9 30) noLsp 10 ([] : List Blk).length Try.f10.ntmps) ([] : List Blk).length Try.f10.resultTypes.toList Try.f10 [.agg [.sl .imm [.str] es, .int .i64 a, .int .i64 b], .sl .imm [.int .u8] bs] [] = bif vev15_1 es a b then bif vev15_0 es a b != (0 : Int) then some (true, AV.tup [AV.agg [AV.sl Tk.imm [Kd.str] es, AV.int IntKind.i64 a, AV.int IntKind.i64 b], AV.int IntKind.i64 (vev15_0 es a b)], []) else bif bif vev17_1 es a b then bif decide ((↑bs.length : Int) > IntKind.i64.wrap ((65536 : Int) - vev17_0 es a b)) then true else true else false then bif bif vev17_1 es a b then bif decide ((↑bs.length : Int) > IntKind.i64.wrap ((65536 : Int) - vev17_0 es a b)) then true else bif false then true else decide (IntKind.i64.wrap (a + (↑bs.length : Int)) > (1099511627776 : Int)) else false then some (true, AV.tup [AV.agg [AV.sl Tk.imm [Kd.str] es, AV.int IntKind.i64 a, AV.int IntKind.i64 b], AV.int IntKind.i64 (7 : Int)], []) else bif (↑bs.length : Int) == (0 : Int) then some (true, AV.tup [AV.agg [AV.sl Tk.imm [Kd.str] es, AV.int IntKind.i64 a, AV.int IntKind.i64 b], AV.int IntKind.i64 (0 : Int)], []) else bif bif decide (es.length * (16 : Nat) ≤ (140737488355328 : Nat)) then decide (es.length ≤ (9223372036854775807 : Nat)) else false then bif bs.all isB then bif bif decide ((es.length + (1 : Nat)) * (16 : Nat) ≤ (140737488355328 : Nat)) then decide (es.length + (1 : Nat) ≤ (9223372036854775807 : Nat)) else false then some (true, AV.tup [AV.agg [AV.sl Tk.imm [Kd.str] (es ++ [[AV.str (List.map byteOf bs)]]), AV.int IntKind.i64 (IntKind.i64.wrap (a + (↑bs.length : Int))), AV.int IntKind.i64 b], AV.int IntKind.i64 (0 : Int)], []) else none else none else none else none else none := by kernel_rfl
  rw [h]
  clear h
  unfold vev10_0 vev10_1 vev10_2 vev10_3
  generalize (decide ((es.length + (1 : Nat)) * (16 : Nat) ≤ (140737488355328 : Nat))) = c0
  generalize (decide ((↑bs.length : Int) > IntKind.i64.wrap ((65536 : Int) - vev17_0 es a b))) = c1
  generalize (decide (IntKind.i64.wrap (a + (↑bs.length : Int)) > (1099511627776 : Int))) = c2
  generalize (decide (es.length * (16 : Nat) ≤ (140737488355328 : Nat))) = c3
  generalize (decide (es.length + (1 : Nat) ≤ (9223372036854775807 : Nat))) = c4
  generalize (decide (es.length ≤ (9223372036854775807 : Nat))) = c5
  generalize ((↑bs.length : Int) == (0 : Int)) = c6
  generalize (vev15_0 es a b != (0 : Int)) = c7
  generalize (bs.all isB) = c8
  generalize (vev17_1 es a b) = c9
  generalize (vev15_1 es a b) = c10
  cases c10
  · skip
    rfl
  · skip
    cases c7
    · skip
      cases c9
      · skip
        rfl
      · skip
        cases c1
        · skip
          cases c2
          · skip
            cases c6
            · skip
              cases c3
              · skip
                rfl
              · skip
                cases c5
                · skip
                  rfl
                · skip
                  cases c8
                  · skip
                    rfl
                  · skip
                    cases c0
                    · skip
                      rfl
                    · skip
                      cases c4
                      · skip
                        rfl
                      · skip
                        rfl
            · skip
              rfl
          · skip
            rfl
        · skip
          rfl
    · skip
      rfl
-- spec vev10_3 es a b bs ;; (true, AV.tup [AV.agg [AV.sl Tk.imm [Kd.str] (vev10_0 es a b bs), AV.int IntKind.i64 (vev10_1 es a b bs), AV.int IntKind.i64 b], AV.int IntKind.i64 (vev10_2 es a b bs)], [])
noncomputable def sp10 : List AV → List Blk → Option (Bool × AV × List Blk)
  | [.agg [.sl .imm [.str] es, .int .i64 a, .int .i64 b], .sl .imm [.int .u8] bs], [] => spW (vev10_3 es a b bs) (some ((true, AV.tup [AV.agg [AV.sl Tk.imm [Kd.str] (vev10_0 es a b bs), AV.int IntKind.i64 (vev10_1 es a b bs), AV.int IntKind.i64 b], AV.int IntKind.i64 (vev10_2 es a b bs)], [])))
  | _, _ => none
noncomputable def k10 : Gam := fun f T C => match Nat.beq f 10 with
  | true => (sp10 T C).or (k9 f T C)
  | false => k9 f T C
theorem k10_ok : GamOK Try.prog k10 := by
  intro f T C r outs h
  unfold k10 at h
  cases hf : Nat.beq f 10 with
  | false => rw [hf] at h; exact k9_ok f T C r outs h
  | true =>
    have hf' := Nat.eq_of_beq_eq_true hf
    subst hf'
    rw [hf] at h
    dsimp only at h
    cases hs : sp10 T C with
    | none => rw [hs] at h; exact k9_ok _ T C r outs h
    | some x =>
      rw [hs] at h
      have hx : x = (true, r, outs) := by simpa using h
      subst hx
      unfold sp10 at hs
      split at hs
      · rename_i es a b bs
        obtain ⟨hb, rfl, rfl⟩ := spT_inv hs
        have he := ev10 es a b bs
        rw [hb, cond_true] at he
        obtain ⟨r0, o0, h0, he⟩ := evFin_inv he
        obtain ⟨h1, h2⟩ := fn_ok mixed plain (gk_ok k9_ok 30) Try.func10 (fun c _ => LoopsOK.none (fun _ _ => rfl) c) h0
        exact ⟨h1, h2.fin he⟩
      · cases hs
end Go.Proofs.Gv
