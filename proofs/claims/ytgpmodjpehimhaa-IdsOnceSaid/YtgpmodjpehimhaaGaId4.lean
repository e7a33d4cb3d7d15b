import Derived.Test.YtgpmodjpehimhaaGt
import Derived.KernelRfl
import Derived.Test.YtgpmodjpehimhaaGwF
import Derived.Test.YtgpmodjpehimhaaGaId2
namespace Go.Proofs.Gv
open Go.Proofs
set_option linter.unusedVariables false
noncomputable def vev25_0 (l : Int) (tk : Tk) (es : List (List AV)) (tk2 : Tk) (es2 : List (List AV)) : Bool := bif (es.length * (8 : Nat)).ble (140737488355328 : Nat) then bif (es2.length * (8 : Nat)).ble (140737488355328 : Nat) then true else false else false
theorem ev25 (l : Int) (tk : Tk) (es : List (List AV)) (tk2 : Tk) (es2 : List (List AV)) : evFun (cfg Try.prog tab 100000 (gk k7 30) noLsp 25 ([] : List Blk).length Try.f25.ntmps) Try.f25 [.agg [.int .i64 l, .sl tk [.int .i64] es, .sl tk2 [.int .i64] es2]] [] = bif vev25_0 l tk es tk2 es2 then some (AV.agg [AV.int IntKind.i64 l, AV.rf (nat_lit 0) [Kd.int IntKind.i64], AV.rf (nat_lit 1) [Kd.int IntKind.i64]], [Blk.row [Kd.int IntKind.i64] es, Blk.row [Kd.int IntKind.i64] es2]) else none := by
  have h : evFun (cfg Try.prog tab 100000 (gk k7 30) noLsp 25 ([] : List Blk).length Try.f25.ntmps) Try.f25 [.agg [.int .i64 l, .sl tk [.int .i64] es, .sl tk2 [.int .i64] es2]] [] = bif (es.length * (8 : Nat)).ble (140737488355328 : Nat) then bif (es2.length * (8 : Nat)).ble (140737488355328 : Nat) then some (AV.agg [AV.int IntKind.i64 l, AV.rf (nat_lit 0) [Kd.int IntKind.i64], AV.rf (nat_lit 1) [Kd.int IntKind.i64]], [Blk.row [Kd.int IntKind.i64] es, Blk.row [Kd.int IntKind.i64] es2]) else none else none := by kernel_rfl
  rw [h]
  clear h
  unfold vev25_0
  generalize ((es2.length * (8 : Nat)).ble (140737488355328 : Nat)) = c0
  generalize ((es.length * (8 : Nat)).ble (140737488355328 : Nat)) = c1
  cases c1
  · skip
    rfl
  · skip
    cases c0
    · skip
      rfl
    · skip
      rfl
-- spec vev25_0 l tk es tk2 es2 ;; (AV.agg [AV.int IntKind.i64 l, AV.rf (nat_lit 0) [Kd.int IntKind.i64], AV.rf (nat_lit 1) [Kd.int IntKind.i64]], [Blk.row [Kd.int IntKind.i64] es, Blk.row [Kd.int IntKind.i64] es2])
noncomputable def sp25 : List AV → List Blk → Option (Bool × AV × List Blk)
  | [.agg [.int .i64 l, .sl tk [.int .i64] es, .sl tk2 [.int .i64] es2]], [] => spW (vev25_0 l tk es tk2 es2) (fin Try.prog (tab.frz 25) ([] : List Blk).length Try.f25.resultTypes.toList (some ((AV.agg [AV.int IntKind.i64 l, AV.rf (nat_lit 0) [Kd.int IntKind.i64], AV.rf (nat_lit 1) [Kd.int IntKind.i64]], [Blk.row [Kd.int IntKind.i64] es, Blk.row [Kd.int IntKind.i64] es2]))))
  | _, _ => none
noncomputable def k25 : Gam := fun f T C => match Nat.beq f 25 with
  | true => (sp25 T C).or (k7 f T C)
  | false => k7 f T C
theorem k25_ok : GamOK Try.prog k25 := by
  intro f T C r outs h
  unfold k25 at h
  cases hf : Nat.beq f 25 with
  | false => rw [hf] at h; exact k7_ok f T C r outs h
  | true =>
    have hf' := Nat.eq_of_beq_eq_true hf
    subst hf'
    rw [hf] at h
    dsimp only at h
    cases hs : sp25 T C with
    | none => rw [hs] at h; exact k7_ok _ T C r outs h
    | some x =>
      rw [hs] at h
      have hx : x = (true, r, outs) := by simpa using h
      subst hx
      unfold sp25 at hs
      split at hs
      · rename_i l tk es tk2 es2
        obtain ⟨hb, hs⟩ := spW_inv hs
        have he := ev25 l tk es tk2 es2
        rw [hb, cond_true] at he
        obtain ⟨h1, h2⟩ := fn_ok mixed plain (gk_ok k7_ok 30) Try.func25 (fun c _ => LoopsOK.none (fun _ _ => rfl) c) he
        exact ⟨h1, h2.fin hs⟩
      · cases hs
noncomputable def rev27_0 (es : List (List AV)) (i : Int) (j : Int) : List (List AV) := List.take (es.length - j.toNat) (List.drop j.toNat es)
noncomputable def rev27_1 (es : List (List AV)) (i : Int) (j : Int) : Int := (↑(i.toNat + (rev27_0 es i j).length) : Int)
noncomputable def rev27_2 (es : List (List AV)) (i : Int) (j : Int) : List (List AV) := List.take ((0 : Nat) + i.toNat) es ++ rev27_0 es i j ++ List.drop ((0 : Nat) + i.toNat + (rev27_0 es i j).length) es
theorem ev27 (es : List (List AV)) (i : Int) (j : Int) : evFin (cfg Try.prog tab 100000 (gk k25 30) noLsp 27 ([.row [.int .i64] es] : List Blk).length Try.f27.ntmps) ([.row [.int .i64] es] : List Blk).length Try.f27.resultTypes.toList Try.f27 [.rf 0 [.int .i64], .int .i64 i, .int .i64 j] [.row [.int .i64] es] = bif bnd i j (↑es.length : Int) && bnd j (↑es.length : Int) (↑es.length : Int) then bif i == j then some (true, AV.rf (nat_lit 0) [Kd.int IntKind.i64], [Blk.row [Kd.int IntKind.i64] es]) else bif bnd (0 : Int) i (↑es.length : Int) then bif bnd j (↑es.length : Int) (↑es.length : Int) then bif bif decide ((0 : Nat) + i.toNat + (rev27_0 es i j).length ≤ es.length) then bif decide (i.toNat + (rev27_0 es i j).length ≤ es.length) then bif decide ((i.toNat + (rev27_0 es i j).length) * (8 : Nat) ≤ (140737488355328 : Nat)) then decide (i.toNat + (rev27_0 es i j).length ≤ (9223372036854775807 : Nat)) else false else false else false then bif bnd (rev27_1 es i j) (↑es.length : Int) (↑es.length : Int) && decide ((0 : Nat) + (↑es.length : Int).toNat ≤ (rev27_2 es i j).length) then some (true, AV.rs (nat_lit 0) [Kd.int IntKind.i64] (nat_lit 0) (i.toNat + (rev27_0 es i j).length) es.length, [Blk.row [Kd.int IntKind.i64] (List.take ((rev27_1 es i j).toNat + (0 : Nat)) (rev27_2 es i j) ++ List.replicate ((↑es.length : Int).toNat - (rev27_1 es i j).toNat) [AV.int IntKind.i64 (0 : Int)] ++ List.drop ((rev27_1 es i j).toNat + (0 : Nat) + ((↑es.length : Int).toNat - (rev27_1 es i j).toNat)) (rev27_2 es i j))]) else none else none else none else none else none := by kernel_rfl
noncomputable def sp27 : List AV → List Blk → Option (Bool × AV × List Blk)
  | [.rf 0 [.int .i64], .int .i64 i, .int .i64 j], [.row [.int .i64] es] => some (decide (0 ≤ i) && (decide (i < j) && (decide (j ≤ (es.length : Int)) && decide (es.length * 8 ≤ 140737488355328))), .rs 0 [.int .i64] 0 (i.toNat + (es.length - j.toNat)) es.length, [.row [.int .i64] (es.take i.toNat ++ es.drop j.toNat ++ List.replicate (j.toNat - i.toNat) [.int .i64 0])])
  | _, _ => none
noncomputable def k27 : Gam := fun f T C => match Nat.beq f 27 with
  | true => (sp27 T C).or (k25 f T C)
  | false => k25 f T C
theorem k27_ok : GamOK Try.prog k27 := by
  intro f T C r outs h
  unfold k27 at h
  cases hf : Nat.beq f 27 with
  | false => rw [hf] at h; exact k25_ok f T C r outs h
  | true =>
    have hf' := Nat.eq_of_beq_eq_true hf
    subst hf'
    rw [hf] at h
    dsimp only at h
    cases hs : sp27 T C with
    | none => rw [hs] at h; exact k25_ok _ T C r outs h
    | some x =>
      rw [hs] at h
      have hx : x = (true, r, outs) := by simpa using h
      subst hx
      unfold sp27 at hs
      split at hs
      · rename_i i j es
        injection hs with hs
        injection hs with hb hs
        injection hs with e1 e2
        subst e1 e2
        simp only [Bool.and_eq_true, decide_eq_true_eq] at hb
        obtain ⟨h0, hij, hj, hm⟩ := hb
        have he := ev27 es i j
        have a0 : rev27_0 es i j = es.drop j.toNat := by
          unfold rev27_0
          rw [List.take_of_length_le (by rw [List.length_drop]; omega)]
        have l0 : (es.drop j.toNat).length = es.length - j.toNat := List.length_drop ..
        have a1 : rev27_1 es i j = ((i.toNat + (es.length - j.toNat) : Nat) : Int) := by unfold rev27_1; rw [a0, l0]
        have a2 : rev27_2 es i j = (es.take i.toNat ++ es.drop j.toNat) ++ es.drop (i.toNat + (es.length - j.toNat)) := by unfold rev27_2; rw [a0, l0, Nat.zero_add]
        have l2 : (es.take i.toNat ++ es.drop j.toNat).length = i.toNat + (es.length - j.toNat) := by rw [List.length_append, List.length_take, l0]; omega
        have l3 : (rev27_2 es i j).length = es.length := by rw [a2, List.length_append, l2, List.length_drop]; omega
        rw [show (bnd i j (es.length : Int) && bnd j (es.length : Int) (es.length : Int)) = true from by simp [bnd]; omega, cond_true,
          show (i == j) = false from by simp; omega, cond_false,
          show bnd 0 i (es.length : Int) = true from by simp [bnd]; omega, cond_true,
          show bnd j (es.length : Int) (es.length : Int) = true from by simp [bnd]; omega, cond_true,
          a0, l0, a1, l3, decide_eq_true (show 0 + i.toNat + (es.length - j.toNat) ≤ es.length by omega), cond_true, decide_eq_true (show i.toNat + (es.length - j.toNat) ≤ es.length by omega), cond_true,
          decide_eq_true (show (i.toNat + (es.length - j.toNat)) * 8 ≤ 140737488355328 by omega), cond_true, decide_eq_true (show i.toNat + (es.length - j.toNat) ≤ 9223372036854775807 by omega), cond_true,
          show (bnd ((i.toNat + (es.length - j.toNat) : Nat) : Int) (es.length : Int) (es.length : Int) && decide (0 + (es.length : Int).toNat ≤ es.length)) = true from by simp [bnd]; omega, cond_true,
          Int.toNat_natCast, Int.toNat_natCast, Nat.add_zero, a2, List.take_left' l2, show es.length - (i.toNat + (es.length - j.toNat)) = j.toNat - i.toNat by omega,
          List.drop_of_length_le (l := es.take i.toNat ++ es.drop j.toNat ++ es.drop (i.toNat + (es.length - j.toNat))) (by rw [List.length_append, l2, List.length_drop]; omega), List.append_nil] at he
        obtain ⟨r0, o0, h0, he⟩ := evFin_inv he
        obtain ⟨h1, h2⟩ := fn_ok mixed plain (gk_ok k25_ok 30) Try.func27 (fun c _ => LoopsOK.none (fun _ _ => rfl) c) h0
        exact ⟨h1, h2.fin he⟩
      · cases hs
noncomputable def rev14_0 (l : Int) (es : List (List AV)) (es2 : List (List AV)) (id : Int) : List (List AV) := [[AV.int IntKind.i64 id]]
noncomputable def vev14_0 (l : Int) (es : List (List AV)) (es2 : List (List AV)) (id : Int) : Int := bif vev9_0 l Tk.imm es Tk.imm es2 != (0 : Int) then l else bif vev7_0 l es es2 id != (1 : Int) then l else bif decide ((↑es.length : Int) ≥ (16 : Int)) then l else id
noncomputable def vev14_1 (l : Int) (es : List (List AV)) (es2 : List (List AV)) (id : Int) : List (List AV) := bif vev9_0 l Tk.imm es Tk.imm es2 != (0 : Int) then es else bif vev7_0 l es es2 id != (1 : Int) then es else bif decide ((↑es.length : Int) ≥ (16 : Int)) then es else es ++ rev14_0 l es es2 id
noncomputable def vev14_2 (l : Int) (es : List (List AV)) (es2 : List (List AV)) (id : Int) : Int := bif vev9_0 l Tk.imm es Tk.imm es2 != (0 : Int) then (2 : Int) else bif vev7_0 l es es2 id != (1 : Int) then (1 : Int) else bif decide ((↑es.length : Int) ≥ (16 : Int)) then (11 : Int) else (0 : Int)
noncomputable def vev14_3 (l : Int) (es : List (List AV)) (es2 : List (List AV)) (id : Int) : Bool := bif vev25_0 l Tk.imm es Tk.imm es2 then bif vev9_1 l Tk.imm es Tk.imm es2 then bif vev9_0 l Tk.imm es Tk.imm es2 != (0 : Int) then true else bif vev7_1 l es es2 id then bif vev7_0 l es es2 id != (1 : Int) then true else bif decide ((↑es.length : Int) ≥ (16 : Int)) then true else bif bif decide ((es.length + (rev14_0 l es es2 id).length) * (8 : Nat) ≤ (140737488355328 : Nat)) then decide (es.length + (rev14_0 l es es2 id).length ≤ (9223372036854775807 : Nat)) else false then true else false else false else false else false
theorem ev14 (l : Int) (es : List (List AV)) (es2 : List (List AV)) (id : Int) : evFin (cfg Try.prog tab 100000 (gk k27 30) noLsp 14 ([] : List Blk).length Try.f14.ntmps) ([] : List Blk).length Try.f14.resultTypes.toList Try.f14 [.agg [.int .i64 l, .sl .imm [.int .i64] es, .sl .imm [.int .i64] es2], .int .i64 id] [] = bif vev14_3 l es es2 id then some (true, AV.tup [AV.agg [AV.int IntKind.i64 (vev14_0 l es es2 id), AV.sl Tk.imm [Kd.int IntKind.i64] (vev14_1 l es es2 id), AV.sl Tk.imm [Kd.int IntKind.i64] es2], AV.int IntKind.u32 (vev14_2 l es es2 id)], []) else none := by
  have h : evFin (cfg Try.prog tab 100000 (gk k27 30) noLsp 14 ([] : List Blk).length Try.f14.ntmps) ([] : List Blk).length Try.f14.resultTypes.toList Try.f14 [.agg [.int .i64 l, .sl .imm [.int .i64] es, .sl .imm [.int .i64] es2], .int .i64 id] [] = bif vev25_0 l Tk.imm es Tk.imm es2 then bif vev9_1 l Tk.imm es Tk.imm es2 then bif vev9_0 l Tk.imm es Tk.imm es2 != (0 : Int) then some (true, AV.tup [AV.agg [AV.int IntKind.i64 l, AV.sl Tk.imm [Kd.int IntKind.i64] es, AV.sl Tk.imm [Kd.int IntKind.i64] es2], AV.int IntKind.u32 (2 : Int)], []) else bif vev7_1 l es es2 id then bif vev7_0 l es es2 id != (1 : Int) then some (true, AV.tup [AV.agg [AV.int IntKind.i64 l, AV.sl Tk.imm [Kd.int IntKind.i64] es, AV.sl Tk.imm [Kd.int IntKind.i64] es2], AV.int IntKind.u32 (1 : Int)], []) else bif decide ((↑es.length : Int) ≥ (16 : Int)) then some (true, AV.tup [AV.agg [AV.int IntKind.i64 l, AV.sl Tk.imm [Kd.int IntKind.i64] es, AV.sl Tk.imm [Kd.int IntKind.i64] es2], AV.int IntKind.u32 (11 : Int)], []) else bif bif decide ((es.length + (rev14_0 l es es2 id).length) * (8 : Nat) ≤ (140737488355328 : Nat)) then decide (es.length + (rev14_0 l es es2 id).length ≤ (9223372036854775807 : Nat)) else false then some (true, AV.tup [AV.agg [AV.int IntKind.i64 id, AV.sl Tk.imm [Kd.int IntKind.i64] (es ++ rev14_0 l es es2 id), AV.sl Tk.imm [Kd.int IntKind.i64] es2], AV.int IntKind.u32 (0 : Int)], []) else none else none else none else none := by kernel_rfl
  rw [h]
  clear h
  unfold vev14_0 vev14_1 vev14_2 vev14_3
  generalize (decide ((es.length + (rev14_0 l es es2 id).length) * (8 : Nat) ≤ (140737488355328 : Nat))) = c0
  generalize (decide (es.length + (rev14_0 l es es2 id).length ≤ (9223372036854775807 : Nat))) = c1
  generalize (decide ((↑es.length : Int) ≥ (16 : Int))) = c2
  generalize (vev9_0 l Tk.imm es Tk.imm es2 != (0 : Int)) = c3
  generalize (vev7_0 l es es2 id != (1 : Int)) = c4
  generalize (vev25_0 l Tk.imm es Tk.imm es2) = c5
  generalize (vev9_1 l Tk.imm es Tk.imm es2) = c6
  generalize (vev7_1 l es es2 id) = c7
  cases c5
  · skip
    rfl
  · skip
    cases c6
    · skip
      rfl
    · skip
      cases c3
      · skip
        cases c7
        · skip
          rfl
        · skip
          cases c4
          · skip
            cases c2
            · skip
              cases c0
              · skip
                rfl
              · skip
                cases c1
                · skip
                  rfl
                · skip
                  rfl
            · skip
              rfl
          · skip
            rfl
      · skip
        rfl
-- spec vev14_3 l es es2 id ;; (true, AV.tup [AV.agg [AV.int IntKind.i64 (vev14_0 l es es2 id), AV.sl Tk.imm [Kd.int IntKind.i64] (vev14_1 l es es2 id), AV.sl Tk.imm [Kd.int IntKind.i64] es2], AV.int IntKind.u32 (vev14_2 l es es2 id)], [])
noncomputable def sp14 : List AV → List Blk → Option (Bool × AV × List Blk)
  | [.agg [.int .i64 l, .sl .imm [.int .i64] es, .sl .imm [.int .i64] es2], .int .i64 id], [] => spW (vev14_3 l es es2 id) (some ((true, AV.tup [AV.agg [AV.int IntKind.i64 (vev14_0 l es es2 id), AV.sl Tk.imm [Kd.int IntKind.i64] (vev14_1 l es es2 id), AV.sl Tk.imm [Kd.int IntKind.i64] es2], AV.int IntKind.u32 (vev14_2 l es es2 id)], [])))
  | _, _ => none
noncomputable def k14 : Gam := fun f T C => match Nat.beq f 14 with
  | true => (sp14 T C).or (k27 f T C)
  | false => k27 f T C
theorem k14_ok : GamOK Try.prog k14 := by
  intro f T C r outs h
  unfold k14 at h
  cases hf : Nat.beq f 14 with
  | false => rw [hf] at h; exact k27_ok f T C r outs h
  | true =>
    have hf' := Nat.eq_of_beq_eq_true hf
    subst hf'
    rw [hf] at h
    dsimp only at h
    cases hs : sp14 T C with
    | none => rw [hs] at h; exact k27_ok _ T C r outs h
    | some x =>
      rw [hs] at h
      have hx : x = (true, r, outs) := by simpa using h
      subst hx
      unfold sp14 at hs
      split at hs
      · rename_i l es es2 id
        obtain ⟨hb, rfl, rfl⟩ := spT_inv hs
        have he := ev14 l es es2 id
        rw [hb, cond_true] at he
        obtain ⟨r0, o0, h0, he⟩ := evFin_inv he
        obtain ⟨h1, h2⟩ := fn_ok mixed plain (gk_ok k27_ok 30) Try.func14 (fun c _ => LoopsOK.none (fun _ _ => rfl) c) h0
        exact ⟨h1, h2.fin he⟩
      · cases hs
noncomputable def rev13_0 (l : Int) (es : List (List AV)) (es2 : List (List AV)) (id : Int) (cut : Bool) : Int := IntKind.i64.wrap (vev26_0 Tk.lent es id + (1 : Int))
noncomputable def rev13_1 (l : Int) (es : List (List AV)) (es2 : List (List AV)) (id : Int) (cut : Bool) : List (List AV) := [[AV.int IntKind.i64 id]]
noncomputable def rev13_2 (l : Int) (es : List (List AV)) (es2 : List (List AV)) (id : Int) (cut : Bool) : List (List AV) := es2 ++ rev13_1 l es es2 id cut
noncomputable def rev13_3 (l : Int) (es : List (List AV)) (es2 : List (List AV)) (id : Int) (cut : Bool) : Int := (↑(rev13_2 l es es2 id cut).length : Int)
noncomputable def rev13_4 (l : Int) (es : List (List AV)) (es2 : List (List AV)) (id : Int) (cut : Bool) : Int := IntKind.i64.wrap (rev13_3 l es es2 id cut - (8 : Int))
noncomputable def rev13_5 (l : Int) (es : List (List AV)) (es2 : List (List AV)) (id : Int) (cut : Bool) : Int := if if true = true then (0 : Int) < rev13_4 l es es2 id cut else rev13_4 l es es2 id cut < (0 : Int) then rev13_4 l es es2 id cut else (0 : Int)
noncomputable def vev13_0 (l : Int) (es : List (List AV)) (es2 : List (List AV)) (id : Int) (cut : Bool) : List (List AV) := bif bif decide (vev26_0 Tk.lent es id < (0 : Int)) then true else bif vev9_1 l Tk.imm es Tk.imm es2 then vev9_0 l Tk.imm es Tk.imm es2 != (0 : Int) else false then es else List.take (Int.toNat (vev26_0 Tk.lent es id) + (es.length - (rev13_0 l es es2 id cut).toNat)) (List.drop (0 : Nat) (List.take (Int.toNat (vev26_0 Tk.lent es id)) es ++ List.drop (rev13_0 l es es2 id cut).toNat es ++ List.replicate ((rev13_0 l es es2 id cut).toNat - Int.toNat (vev26_0 Tk.lent es id)) [AV.int IntKind.i64 (0 : Int)]))
noncomputable def vev13_1 (l : Int) (es : List (List AV)) (es2 : List (List AV)) (id : Int) (cut : Bool) : List (List AV) := bif bif decide (vev26_0 Tk.lent es id < (0 : Int)) then true else bif vev9_1 l Tk.imm es Tk.imm es2 then vev9_0 l Tk.imm es Tk.imm es2 != (0 : Int) else false then es2 else bif !cut then es2 else List.take ((rev13_2 l es es2 id cut).length - (rev13_5 l es es2 id cut).toNat) (List.drop (rev13_5 l es es2 id cut).toNat (rev13_2 l es es2 id cut))
noncomputable def vev13_2 (l : Int) (es : List (List AV)) (es2 : List (List AV)) (id : Int) (cut : Bool) : Bool := bif vev25_0 l Tk.imm es Tk.imm es2 then bif vev26_1 Tk.lent es id then bif bif decide (vev26_0 Tk.lent es id < (0 : Int)) then true else vev9_1 l Tk.imm es Tk.imm es2 then bif bif decide (vev26_0 Tk.lent es id < (0 : Int)) then true else bif vev9_1 l Tk.imm es Tk.imm es2 then vev9_0 l Tk.imm es Tk.imm es2 != (0 : Int) else false then true else bif decide ((0 : Int) ≤ vev26_0 Tk.lent es id) && (decide (vev26_0 Tk.lent es id < rev13_0 l es es2 id cut) && (decide (rev13_0 l es es2 id cut ≤ (↑es.length : Int)) && decide (es.length * (8 : Nat) ≤ (140737488355328 : Nat)))) then bif !cut then true else bif bif decide ((es2.length + (rev13_1 l es es2 id cut).length) * (8 : Nat) ≤ (140737488355328 : Nat)) then decide (es2.length + (rev13_1 l es es2 id cut).length ≤ (9223372036854775807 : Nat)) else false then bif bif bif decide ((0 : Int) ≤ rev13_5 l es es2 id cut) then decide (rev13_5 l es es2 id cut ≤ rev13_3 l es es2 id cut) else false then decide (rev13_3 l es es2 id cut ≤ rev13_3 l es es2 id cut) else false then true else false else false else false else false else false else false
theorem ev13 (l : Int) (es : List (List AV)) (es2 : List (List AV)) (id : Int) (cut : Bool) : evFin (cfg Try.prog tab 100000 (gk k14 30) noLsp 13 ([] : List Blk).length Try.f13.ntmps) ([] : List Blk).length Try.f13.resultTypes.toList Try.f13 [.agg [.int .i64 l, .sl .imm [.int .i64] es, .sl .imm [.int .i64] es2], .int .i64 id, .bool cut] [] = bif vev13_2 l es es2 id cut then some (true, AV.agg [AV.int IntKind.i64 l, AV.sl Tk.imm [Kd.int IntKind.i64] (vev13_0 l es es2 id cut), AV.sl Tk.imm [Kd.int IntKind.i64] (vev13_1 l es es2 id cut)], []) else none := by
  have h : evFin (cfg Try.prog tab 100000 (gk k14 30) noLsp 13 ([] : List Blk).length Try.f13.ntmps) ([] : List Blk).length Try.f13.resultTypes.toList Try.f13 [.agg [.int .i64 l, .sl .imm [.int .i64] es, .sl .imm [.int .i64] es2], .int .i64 id, .bool cut] [] = bif vev25_0 l Tk.imm es Tk.imm es2 then bif vev26_1 Tk.lent es id then bif bif decide (vev26_0 Tk.lent es id < (0 : Int)) then true else bif vev9_1 l Tk.imm es Tk.imm es2 then true else false then bif bif decide (vev26_0 Tk.lent es id < (0 : Int)) then true else bif vev9_1 l Tk.imm es Tk.imm es2 then bif false then true else vev9_0 l Tk.imm es Tk.imm es2 != (0 : Int) else false then some (true, AV.agg [AV.int IntKind.i64 l, AV.sl Tk.imm [Kd.int IntKind.i64] es, AV.sl Tk.imm [Kd.int IntKind.i64] es2], []) else bif decide ((0 : Int) ≤ vev26_0 Tk.lent es id) && (decide (vev26_0 Tk.lent es id < rev13_0 l es es2 id cut) && (decide (rev13_0 l es es2 id cut ≤ (↑es.length : Int)) && decide (es.length * (8 : Nat) ≤ (140737488355328 : Nat)))) then bif !cut then some (true, AV.agg [AV.int IntKind.i64 l, AV.sl Tk.imm [Kd.int IntKind.i64] (List.take (Int.toNat (vev26_0 Tk.lent es id) + (es.length - (rev13_0 l es es2 id cut).toNat)) (List.drop (0 : Nat) (List.take (Int.toNat (vev26_0 Tk.lent es id)) es ++ List.drop (rev13_0 l es es2 id cut).toNat es ++ List.replicate ((rev13_0 l es es2 id cut).toNat - Int.toNat (vev26_0 Tk.lent es id)) [AV.int IntKind.i64 (0 : Int)]))), AV.sl Tk.imm [Kd.int IntKind.i64] es2], []) else bif bif decide ((es2.length + (rev13_1 l es es2 id cut).length) * (8 : Nat) ≤ (140737488355328 : Nat)) then decide (es2.length + (rev13_1 l es es2 id cut).length ≤ (9223372036854775807 : Nat)) else false then bif bif bif decide ((0 : Int) ≤ rev13_5 l es es2 id cut) then decide (rev13_5 l es es2 id cut ≤ rev13_3 l es es2 id cut) else false then decide (rev13_3 l es es2 id cut ≤ rev13_3 l es es2 id cut) else false then some (true, AV.agg [AV.int IntKind.i64 l, AV.sl Tk.imm [Kd.int IntKind.i64] (List.take (Int.toNat (vev26_0 Tk.lent es id) + (es.length - (rev13_0 l es es2 id cut).toNat)) (List.drop (0 : Nat) (List.take (Int.toNat (vev26_0 Tk.lent es id)) es ++ List.drop (rev13_0 l es es2 id cut).toNat es ++ List.replicate ((rev13_0 l es es2 id cut).toNat - Int.toNat (vev26_0 Tk.lent es id)) [AV.int IntKind.i64 (0 : Int)]))), AV.sl Tk.imm [Kd.int IntKind.i64] (List.take ((rev13_2 l es es2 id cut).length - (rev13_5 l es es2 id cut).toNat) (List.drop (rev13_5 l es es2 id cut).toNat (rev13_2 l es es2 id cut)))], []) else none else none else none else none else none else none := by kernel_rfl
  rw [h]
  clear h
  unfold vev13_0 vev13_1 vev13_2
  generalize (decide ((0 : Int) ≤ vev26_0 Tk.lent es id) && (decide (vev26_0 Tk.lent es id < rev13_0 l es es2 id cut) && (decide (rev13_0 l es es2 id cut ≤ (↑es.length : Int)) && decide (es.length * (8 : Nat) ≤ (140737488355328 : Nat))))) = c0
  generalize (decide ((es2.length + (rev13_1 l es es2 id cut).length) * (8 : Nat) ≤ (140737488355328 : Nat))) = c1
  generalize (decide (es2.length + (rev13_1 l es es2 id cut).length ≤ (9223372036854775807 : Nat))) = c2
  generalize (decide (rev13_3 l es es2 id cut ≤ rev13_3 l es es2 id cut)) = c3
  generalize (decide (rev13_5 l es es2 id cut ≤ rev13_3 l es es2 id cut)) = c4
  generalize (decide ((0 : Int) ≤ rev13_5 l es es2 id cut)) = c5
  generalize (decide (vev26_0 Tk.lent es id < (0 : Int))) = c6
  generalize (vev9_0 l Tk.imm es Tk.imm es2 != (0 : Int)) = c7
  generalize (vev9_1 l Tk.imm es Tk.imm es2) = c8
  generalize (vev25_0 l Tk.imm es Tk.imm es2) = c9
  generalize (vev26_1 Tk.lent es id) = c10
  generalize (!cut) = c11
  cases c9
  · skip
    rfl
  · skip
    cases c10
    · skip
      rfl
    · skip
      cases c6
      · skip
        cases c8
        · skip
          rfl
        · skip
          cases c7
          · skip
            cases c0
            · skip
              rfl
            · skip
              cases c11
              · skip
                cases c1
                · skip
                  rfl
                · skip
                  cases c2
                  · skip
                    rfl
                  · skip
                    cases c5
                    · skip
                      rfl
                    · skip
                      cases c4
                      · skip
                        rfl
                      · skip
                        cases c3
                        · skip
                          rfl
                        · skip
                          rfl
              · skip
                rfl
          · skip
            rfl
      · skip
        rfl
-- spec vev13_2 l es es2 id cut ;; (true, AV.agg [AV.int IntKind.i64 l, AV.sl Tk.imm [Kd.int IntKind.i64] (vev13_0 l es es2 id cut), AV.sl Tk.imm [Kd.int IntKind.i64] (vev13_1 l es es2 id cut)], [])
noncomputable def sp13 : List AV → List Blk → Option (Bool × AV × List Blk)
  | [.agg [.int .i64 l, .sl .imm [.int .i64] es, .sl .imm [.int .i64] es2], .int .i64 id, .bool cut], [] => spW (vev13_2 l es es2 id cut) (some ((true, AV.agg [AV.int IntKind.i64 l, AV.sl Tk.imm [Kd.int IntKind.i64] (vev13_0 l es es2 id cut), AV.sl Tk.imm [Kd.int IntKind.i64] (vev13_1 l es es2 id cut)], [])))
  | _, _ => none
noncomputable def k13 : Gam := fun f T C => match Nat.beq f 13 with
  | true => (sp13 T C).or (k14 f T C)
  | false => k14 f T C
theorem k13_ok : GamOK Try.prog k13 := by
  intro f T C r outs h
  unfold k13 at h
  cases hf : Nat.beq f 13 with
  | false => rw [hf] at h; exact k14_ok f T C r outs h
  | true =>
    have hf' := Nat.eq_of_beq_eq_true hf
    subst hf'
    rw [hf] at h
    dsimp only at h
    cases hs : sp13 T C with
    | none => rw [hs] at h; exact k14_ok _ T C r outs h
    | some x =>
      rw [hs] at h
      have hx : x = (true, r, outs) := by simpa using h
      subst hx
      unfold sp13 at hs
      split at hs
      · rename_i l es es2 id cut
        obtain ⟨hb, rfl, rfl⟩ := spT_inv hs
        have he := ev13 l es es2 id cut
        rw [hb, cond_true] at he
        obtain ⟨r0, o0, h0, he⟩ := evFin_inv he
        obtain ⟨h1, h2⟩ := fn_ok mixed plain (gk_ok k14_ok 30) Try.func13 (fun c _ => LoopsOK.none (fun _ _ => rfl) c) h0
        exact ⟨h1, h2.fin he⟩
      · cases hs
noncomputable def rn4_6_0 (t0 : List (List AV)) (t4 : Int) (t5 : Int) (b1_0 : Int) (b1_1 : List (List AV)) (b1_2 : List (List AV)) : Int := IntKind.i64.wrap (intOf ((t0.getD t5.toNat []).getD (0 : Nat) AV.junk))
noncomputable def rn4_6_1 (t0 : List (List AV)) (t4 : Int) (t5 : Int) (b1_0 : Int) (b1_1 : List (List AV)) (b1_2 : List (List AV)) : List (List AV) := vev13_0 b1_0 b1_1 b1_2 (rn4_6_0 t0 t4 t5 b1_0 b1_1 b1_2) (boolOf ((t0.getD t5.toNat []).getD ((0 : Nat) + (1 : Nat) + (1 : Nat)) AV.junk))
noncomputable def rn4_6_2 (t0 : List (List AV)) (t4 : Int) (t5 : Int) (b1_0 : Int) (b1_1 : List (List AV)) (b1_2 : List (List AV)) : List (List AV) := vev13_1 b1_0 b1_1 b1_2 (rn4_6_0 t0 t4 t5 b1_0 b1_1 b1_2) (boolOf ((t0.getD t5.toNat []).getD ((0 : Nat) + (1 : Nat) + (1 : Nat)) AV.junk))
noncomputable def rn4_6_3 (t0 : List (List AV)) (t4 : Int) (t5 : Int) (b1_0 : Int) (b1_1 : List (List AV)) (b1_2 : List (List AV)) : Int := vev7_0 b1_0 b1_1 b1_2 (rn4_6_0 t0 t4 t5 b1_0 b1_1 b1_2)
noncomputable def rn4_6_4 (t0 : List (List AV)) (t4 : Int) (t5 : Int) (b1_0 : Int) (b1_1 : List (List AV)) (b1_2 : List (List AV)) : Int := (↑(rn4_6_2 t0 t4 t5 b1_0 b1_1 b1_2).length : Int)
noncomputable def rn4_6_5 (t0 : List (List AV)) (t4 : Int) (t5 : Int) (b1_0 : Int) (b1_1 : List (List AV)) (b1_2 : List (List AV)) : Int := vev14_0 b1_0 b1_1 b1_2 (rn4_6_0 t0 t4 t5 b1_0 b1_1 b1_2)
noncomputable def rn4_6_6 (t0 : List (List AV)) (t4 : Int) (t5 : Int) (b1_0 : Int) (b1_1 : List (List AV)) (b1_2 : List (List AV)) : List (List AV) := vev14_1 b1_0 b1_1 b1_2 (rn4_6_0 t0 t4 t5 b1_0 b1_1 b1_2)
noncomputable def go4_6 (t0 : List (List AV)) (t4 : Int) (t5 : Int) (b1_0 : Int) (b1_1 : List (List AV)) (b1_2 : List (List AV)) : Bool := bif decide (t5 < (↑t0.length : Int)) then bif decide ((0 : Int) ≤ t5) && decide (t5 < (↑t0.length : Int)) then bif vev7_1 b1_0 b1_1 b1_2 (rn4_6_0 t0 t4 t5 b1_0 b1_1 b1_2) then bif boolOf ((t0.getD t5.toNat []).getD ((0 : Nat) + (1 : Nat)) AV.junk) then bif vev13_2 b1_0 b1_1 b1_2 (rn4_6_0 t0 t4 t5 b1_0 b1_1 b1_2) (boolOf ((t0.getD t5.toNat []).getD ((0 : Nat) + (1 : Nat) + (1 : Nat)) AV.junk)) then bif vev7_1 b1_0 (rn4_6_1 t0 t4 t5 b1_0 b1_1 b1_2) (rn4_6_2 t0 t4 t5 b1_0 b1_1 b1_2) (rn4_6_0 t0 t4 t5 b1_0 b1_1 b1_2) then bif bif rn4_6_3 t0 t4 t5 b1_0 b1_1 b1_2 == (2 : Int) then decide ((0 : Int) ≤ t5) && decide (t5 < (↑t0.length : Int)) else true then bif bif rn4_6_3 t0 t4 t5 b1_0 b1_1 b1_2 == (2 : Int) then bif decide ((0 : Int) ≤ t5) && decide (t5 < (↑t0.length : Int)) then boolOf ((t0.getD t5.toNat []).getD ((0 : Nat) + (1 : Nat) + (1 : Nat)) AV.junk) else false else false then bif bif rn4_6_3 t0 t4 t5 b1_0 b1_1 b1_2 == (2 : Int) then bif decide ((0 : Int) ≤ t5) && decide (t5 < (↑t0.length : Int)) then !boolOf ((t0.getD t5.toNat []).getD ((0 : Nat) + (1 : Nat) + (1 : Nat)) AV.junk) else false else false then bif vev7_0 b1_0 (rn4_6_1 t0 t4 t5 b1_0 b1_1 b1_2) (rn4_6_2 t0 t4 t5 b1_0 b1_1 b1_2) (rn4_6_0 t0 t4 t5 b1_0 b1_1 b1_2) != (3 : Int) then false else bif bif b1_0 != t4 then true else vev9_1 b1_0 Tk.imm (rn4_6_1 t0 t4 t5 b1_0 b1_1 b1_2) Tk.imm (rn4_6_2 t0 t4 t5 b1_0 b1_1 b1_2) then bif bif b1_0 != t4 then true else bif vev9_1 b1_0 Tk.imm (rn4_6_1 t0 t4 t5 b1_0 b1_1 b1_2) Tk.imm (rn4_6_2 t0 t4 t5 b1_0 b1_1 b1_2) then bif vev9_0 b1_0 Tk.imm (rn4_6_1 t0 t4 t5 b1_0 b1_1 b1_2) Tk.imm (rn4_6_2 t0 t4 t5 b1_0 b1_1 b1_2) != (0 : Int) then true else decide (rn4_6_4 t0 t4 t5 b1_0 b1_1 b1_2 > (8 : Int)) else false then false else true else false else bif vev7_0 b1_0 (rn4_6_1 t0 t4 t5 b1_0 b1_1 b1_2) (rn4_6_2 t0 t4 t5 b1_0 b1_1 b1_2) (rn4_6_0 t0 t4 t5 b1_0 b1_1 b1_2) != (4 : Int) then false else bif bif b1_0 != t4 then true else vev9_1 b1_0 Tk.imm (rn4_6_1 t0 t4 t5 b1_0 b1_1 b1_2) Tk.imm (rn4_6_2 t0 t4 t5 b1_0 b1_1 b1_2) then bif bif b1_0 != t4 then true else bif vev9_1 b1_0 Tk.imm (rn4_6_1 t0 t4 t5 b1_0 b1_1 b1_2) Tk.imm (rn4_6_2 t0 t4 t5 b1_0 b1_1 b1_2) then bif vev9_0 b1_0 Tk.imm (rn4_6_1 t0 t4 t5 b1_0 b1_1 b1_2) Tk.imm (rn4_6_2 t0 t4 t5 b1_0 b1_1 b1_2) != (0 : Int) then true else decide (rn4_6_4 t0 t4 t5 b1_0 b1_1 b1_2 > (8 : Int)) else false then false else true else false else bif bif rn4_6_3 t0 t4 t5 b1_0 b1_1 b1_2 == (2 : Int) then bif decide ((0 : Int) ≤ t5) && decide (t5 < (↑t0.length : Int)) then !boolOf ((t0.getD t5.toNat []).getD ((0 : Nat) + (1 : Nat) + (1 : Nat)) AV.junk) else false else false then bif vev7_0 b1_0 (rn4_6_1 t0 t4 t5 b1_0 b1_1 b1_2) (rn4_6_2 t0 t4 t5 b1_0 b1_1 b1_2) (rn4_6_0 t0 t4 t5 b1_0 b1_1 b1_2) != (3 : Int) then false else bif bif b1_0 != t4 then true else vev9_1 b1_0 Tk.imm (rn4_6_1 t0 t4 t5 b1_0 b1_1 b1_2) Tk.imm (rn4_6_2 t0 t4 t5 b1_0 b1_1 b1_2) then bif bif b1_0 != t4 then true else bif vev9_1 b1_0 Tk.imm (rn4_6_1 t0 t4 t5 b1_0 b1_1 b1_2) Tk.imm (rn4_6_2 t0 t4 t5 b1_0 b1_1 b1_2) then bif vev9_0 b1_0 Tk.imm (rn4_6_1 t0 t4 t5 b1_0 b1_1 b1_2) Tk.imm (rn4_6_2 t0 t4 t5 b1_0 b1_1 b1_2) != (0 : Int) then true else decide (rn4_6_4 t0 t4 t5 b1_0 b1_1 b1_2 > (8 : Int)) else false then false else true else false else bif vev7_0 b1_0 (rn4_6_1 t0 t4 t5 b1_0 b1_1 b1_2) (rn4_6_2 t0 t4 t5 b1_0 b1_1 b1_2) (rn4_6_0 t0 t4 t5 b1_0 b1_1 b1_2) != rn4_6_3 t0 t4 t5 b1_0 b1_1 b1_2 then false else bif bif b1_0 != t4 then true else vev9_1 b1_0 Tk.imm (rn4_6_1 t0 t4 t5 b1_0 b1_1 b1_2) Tk.imm (rn4_6_2 t0 t4 t5 b1_0 b1_1 b1_2) then bif bif b1_0 != t4 then true else bif vev9_1 b1_0 Tk.imm (rn4_6_1 t0 t4 t5 b1_0 b1_1 b1_2) Tk.imm (rn4_6_2 t0 t4 t5 b1_0 b1_1 b1_2) then bif vev9_0 b1_0 Tk.imm (rn4_6_1 t0 t4 t5 b1_0 b1_1 b1_2) Tk.imm (rn4_6_2 t0 t4 t5 b1_0 b1_1 b1_2) != (0 : Int) then true else decide (rn4_6_4 t0 t4 t5 b1_0 b1_1 b1_2 > (8 : Int)) else false then false else true else false else false else false else false else bif vev14_3 b1_0 b1_1 b1_2 (rn4_6_0 t0 t4 t5 b1_0 b1_1 b1_2) then bif bif bif decide ((vev14_2 b1_0 b1_1 b1_2 (rn4_6_0 t0 t4 t5 b1_0 b1_1 b1_2) == (0 : Int)) = bif (rn4_6_0 t0 t4 t5 b1_0 b1_1 b1_2).tmod (2 : Int) == (1 : Int) then bif bif true then decide (rn4_6_0 t0 t4 t5 b1_0 b1_1 b1_2 > t4) else false then bif true then decide ((↑b1_1.length : Int) < (16 : Int)) else false else false else false) then false else true then true else bif bif (rn4_6_0 t0 t4 t5 b1_0 b1_1 b1_2).tmod (2 : Int) == (1 : Int) then bif decide (rn4_6_0 t0 t4 t5 b1_0 b1_1 b1_2 > t4) then decide ((↑b1_1.length : Int) < (16 : Int)) else false else false then vev7_1 (rn4_6_5 t0 t4 t5 b1_0 b1_1 b1_2) (rn4_6_6 t0 t4 t5 b1_0 b1_1 b1_2) b1_2 (rn4_6_0 t0 t4 t5 b1_0 b1_1 b1_2) else true then bif bif bif decide ((vev14_2 b1_0 b1_1 b1_2 (rn4_6_0 t0 t4 t5 b1_0 b1_1 b1_2) == (0 : Int)) = bif (rn4_6_0 t0 t4 t5 b1_0 b1_1 b1_2).tmod (2 : Int) == (1 : Int) then bif bif true then decide (rn4_6_0 t0 t4 t5 b1_0 b1_1 b1_2 > t4) else false then bif true then decide ((↑b1_1.length : Int) < (16 : Int)) else false else false else false) then false else true then true else bif bif (rn4_6_0 t0 t4 t5 b1_0 b1_1 b1_2).tmod (2 : Int) == (1 : Int) then bif decide (rn4_6_0 t0 t4 t5 b1_0 b1_1 b1_2 > t4) then decide ((↑b1_1.length : Int) < (16 : Int)) else false else false then bif vev7_1 (rn4_6_5 t0 t4 t5 b1_0 b1_1 b1_2) (rn4_6_6 t0 t4 t5 b1_0 b1_1 b1_2) b1_2 (rn4_6_0 t0 t4 t5 b1_0 b1_1 b1_2) then vev7_0 (rn4_6_5 t0 t4 t5 b1_0 b1_1 b1_2) (rn4_6_6 t0 t4 t5 b1_0 b1_1 b1_2) b1_2 (rn4_6_0 t0 t4 t5 b1_0 b1_1 b1_2) != (2 : Int) else false else false then false else bif bif (rn4_6_0 t0 t4 t5 b1_0 b1_1 b1_2).tmod (2 : Int) == (1 : Int) then bif decide (rn4_6_0 t0 t4 t5 b1_0 b1_1 b1_2 > t4) then decide ((↑b1_1.length : Int) < (16 : Int)) else false else false then bif bif rn4_6_5 t0 t4 t5 b1_0 b1_1 b1_2 != rn4_6_0 t0 t4 t5 b1_0 b1_1 b1_2 then true else vev9_1 (rn4_6_5 t0 t4 t5 b1_0 b1_1 b1_2) Tk.imm (rn4_6_6 t0 t4 t5 b1_0 b1_1 b1_2) Tk.imm b1_2 then bif bif rn4_6_5 t0 t4 t5 b1_0 b1_1 b1_2 != rn4_6_0 t0 t4 t5 b1_0 b1_1 b1_2 then true else bif vev9_1 (rn4_6_5 t0 t4 t5 b1_0 b1_1 b1_2) Tk.imm (rn4_6_6 t0 t4 t5 b1_0 b1_1 b1_2) Tk.imm b1_2 then bif vev9_0 (rn4_6_5 t0 t4 t5 b1_0 b1_1 b1_2) Tk.imm (rn4_6_6 t0 t4 t5 b1_0 b1_1 b1_2) Tk.imm b1_2 != (0 : Int) then true else decide ((↑b1_2.length : Int) > (8 : Int)) else false then false else true else false else bif bif rn4_6_5 t0 t4 t5 b1_0 b1_1 b1_2 != t4 then true else vev9_1 (rn4_6_5 t0 t4 t5 b1_0 b1_1 b1_2) Tk.imm (rn4_6_6 t0 t4 t5 b1_0 b1_1 b1_2) Tk.imm b1_2 then bif bif rn4_6_5 t0 t4 t5 b1_0 b1_1 b1_2 != t4 then true else bif vev9_1 (rn4_6_5 t0 t4 t5 b1_0 b1_1 b1_2) Tk.imm (rn4_6_6 t0 t4 t5 b1_0 b1_1 b1_2) Tk.imm b1_2 then bif vev9_0 (rn4_6_5 t0 t4 t5 b1_0 b1_1 b1_2) Tk.imm (rn4_6_6 t0 t4 t5 b1_0 b1_1 b1_2) Tk.imm b1_2 != (0 : Int) then true else decide ((↑b1_2.length : Int) > (8 : Int)) else false then false else true else false else false else false else false else false else false
noncomputable def nx4_6_1 (t0 : List (List AV)) (t4 : Int) (t5 : Int) (b1_0 : Int) (b1_1 : List (List AV)) (b1_2 : List (List AV)) : Int := bif boolOf ((t0.getD t5.toNat []).getD ((0 : Nat) + (1 : Nat)) AV.junk) then t4 else bif bif (rn4_6_0 t0 t4 t5 b1_0 b1_1 b1_2).tmod (2 : Int) == (1 : Int) then bif decide (rn4_6_0 t0 t4 t5 b1_0 b1_1 b1_2 > t4) then decide ((↑b1_1.length : Int) < (16 : Int)) else false else false then rn4_6_0 t0 t4 t5 b1_0 b1_1 b1_2 else t4
noncomputable def nx4_6_2 (t0 : List (List AV)) (t4 : Int) (t5 : Int) (b1_0 : Int) (b1_1 : List (List AV)) (b1_2 : List (List AV)) : Int := IntKind.i64.wrap (t5 + (1 : Int))
noncomputable def nx4_6_3 (t0 : List (List AV)) (t4 : Int) (t5 : Int) (b1_0 : Int) (b1_1 : List (List AV)) (b1_2 : List (List AV)) : Int := bif boolOf ((t0.getD t5.toNat []).getD ((0 : Nat) + (1 : Nat)) AV.junk) then b1_0 else rn4_6_5 t0 t4 t5 b1_0 b1_1 b1_2
noncomputable def nx4_6_4 (t0 : List (List AV)) (t4 : Int) (t5 : Int) (b1_0 : Int) (b1_1 : List (List AV)) (b1_2 : List (List AV)) : List (List AV) := bif boolOf ((t0.getD t5.toNat []).getD ((0 : Nat) + (1 : Nat)) AV.junk) then rn4_6_1 t0 t4 t5 b1_0 b1_1 b1_2 else rn4_6_6 t0 t4 t5 b1_0 b1_1 b1_2
noncomputable def nx4_6_5 (t0 : List (List AV)) (t4 : Int) (t5 : Int) (b1_0 : Int) (b1_1 : List (List AV)) (b1_2 : List (List AV)) : List (List AV) := bif boolOf ((t0.getD t5.toNat []).getD ((0 : Nat) + (1 : Nat)) AV.junk) then rn4_6_2 t0 t4 t5 b1_0 b1_1 b1_2 else b1_2
noncomputable def xc4_6_0 (t0 : List (List AV)) (t4 : Int) (t5 : Int) (b1_0 : Int) (b1_1 : List (List AV)) (b1_2 : List (List AV)) : Bool := bif decide (t5 < (↑t0.length : Int)) then bif decide ((0 : Int) ≤ t5) && decide (t5 < (↑t0.length : Int)) then bif vev7_1 b1_0 b1_1 b1_2 (rn4_6_0 t0 t4 t5 b1_0 b1_1 b1_2) then bif boolOf ((t0.getD t5.toNat []).getD ((0 : Nat) + (1 : Nat)) AV.junk) then bif vev13_2 b1_0 b1_1 b1_2 (rn4_6_0 t0 t4 t5 b1_0 b1_1 b1_2) (boolOf ((t0.getD t5.toNat []).getD ((0 : Nat) + (1 : Nat) + (1 : Nat)) AV.junk)) then bif vev7_1 b1_0 (rn4_6_1 t0 t4 t5 b1_0 b1_1 b1_2) (rn4_6_2 t0 t4 t5 b1_0 b1_1 b1_2) (rn4_6_0 t0 t4 t5 b1_0 b1_1 b1_2) then bif bif rn4_6_3 t0 t4 t5 b1_0 b1_1 b1_2 == (2 : Int) then decide ((0 : Int) ≤ t5) && decide (t5 < (↑t0.length : Int)) else true then bif bif rn4_6_3 t0 t4 t5 b1_0 b1_1 b1_2 == (2 : Int) then bif decide ((0 : Int) ≤ t5) && decide (t5 < (↑t0.length : Int)) then boolOf ((t0.getD t5.toNat []).getD ((0 : Nat) + (1 : Nat) + (1 : Nat)) AV.junk) else false else false then bif bif rn4_6_3 t0 t4 t5 b1_0 b1_1 b1_2 == (2 : Int) then bif decide ((0 : Int) ≤ t5) && decide (t5 < (↑t0.length : Int)) then !boolOf ((t0.getD t5.toNat []).getD ((0 : Nat) + (1 : Nat) + (1 : Nat)) AV.junk) else false else false then bif vev7_0 b1_0 (rn4_6_1 t0 t4 t5 b1_0 b1_1 b1_2) (rn4_6_2 t0 t4 t5 b1_0 b1_1 b1_2) (rn4_6_0 t0 t4 t5 b1_0 b1_1 b1_2) != (3 : Int) then true else bif bif b1_0 != t4 then true else vev9_1 b1_0 Tk.imm (rn4_6_1 t0 t4 t5 b1_0 b1_1 b1_2) Tk.imm (rn4_6_2 t0 t4 t5 b1_0 b1_1 b1_2) then bif b1_0 != t4 then true else bif vev9_1 b1_0 Tk.imm (rn4_6_1 t0 t4 t5 b1_0 b1_1 b1_2) Tk.imm (rn4_6_2 t0 t4 t5 b1_0 b1_1 b1_2) then bif vev9_0 b1_0 Tk.imm (rn4_6_1 t0 t4 t5 b1_0 b1_1 b1_2) Tk.imm (rn4_6_2 t0 t4 t5 b1_0 b1_1 b1_2) != (0 : Int) then true else decide (rn4_6_4 t0 t4 t5 b1_0 b1_1 b1_2 > (8 : Int)) else false else false else bif vev7_0 b1_0 (rn4_6_1 t0 t4 t5 b1_0 b1_1 b1_2) (rn4_6_2 t0 t4 t5 b1_0 b1_1 b1_2) (rn4_6_0 t0 t4 t5 b1_0 b1_1 b1_2) != (4 : Int) then true else bif bif b1_0 != t4 then true else vev9_1 b1_0 Tk.imm (rn4_6_1 t0 t4 t5 b1_0 b1_1 b1_2) Tk.imm (rn4_6_2 t0 t4 t5 b1_0 b1_1 b1_2) then bif b1_0 != t4 then true else bif vev9_1 b1_0 Tk.imm (rn4_6_1 t0 t4 t5 b1_0 b1_1 b1_2) Tk.imm (rn4_6_2 t0 t4 t5 b1_0 b1_1 b1_2) then bif vev9_0 b1_0 Tk.imm (rn4_6_1 t0 t4 t5 b1_0 b1_1 b1_2) Tk.imm (rn4_6_2 t0 t4 t5 b1_0 b1_1 b1_2) != (0 : Int) then true else decide (rn4_6_4 t0 t4 t5 b1_0 b1_1 b1_2 > (8 : Int)) else false else false else bif bif rn4_6_3 t0 t4 t5 b1_0 b1_1 b1_2 == (2 : Int) then bif decide ((0 : Int) ≤ t5) && decide (t5 < (↑t0.length : Int)) then !boolOf ((t0.getD t5.toNat []).getD ((0 : Nat) + (1 : Nat) + (1 : Nat)) AV.junk) else false else false then bif vev7_0 b1_0 (rn4_6_1 t0 t4 t5 b1_0 b1_1 b1_2) (rn4_6_2 t0 t4 t5 b1_0 b1_1 b1_2) (rn4_6_0 t0 t4 t5 b1_0 b1_1 b1_2) != (3 : Int) then true else bif bif b1_0 != t4 then true else vev9_1 b1_0 Tk.imm (rn4_6_1 t0 t4 t5 b1_0 b1_1 b1_2) Tk.imm (rn4_6_2 t0 t4 t5 b1_0 b1_1 b1_2) then bif b1_0 != t4 then true else bif vev9_1 b1_0 Tk.imm (rn4_6_1 t0 t4 t5 b1_0 b1_1 b1_2) Tk.imm (rn4_6_2 t0 t4 t5 b1_0 b1_1 b1_2) then bif vev9_0 b1_0 Tk.imm (rn4_6_1 t0 t4 t5 b1_0 b1_1 b1_2) Tk.imm (rn4_6_2 t0 t4 t5 b1_0 b1_1 b1_2) != (0 : Int) then true else decide (rn4_6_4 t0 t4 t5 b1_0 b1_1 b1_2 > (8 : Int)) else false else false else bif vev7_0 b1_0 (rn4_6_1 t0 t4 t5 b1_0 b1_1 b1_2) (rn4_6_2 t0 t4 t5 b1_0 b1_1 b1_2) (rn4_6_0 t0 t4 t5 b1_0 b1_1 b1_2) != rn4_6_3 t0 t4 t5 b1_0 b1_1 b1_2 then true else bif bif b1_0 != t4 then true else vev9_1 b1_0 Tk.imm (rn4_6_1 t0 t4 t5 b1_0 b1_1 b1_2) Tk.imm (rn4_6_2 t0 t4 t5 b1_0 b1_1 b1_2) then bif b1_0 != t4 then true else bif vev9_1 b1_0 Tk.imm (rn4_6_1 t0 t4 t5 b1_0 b1_1 b1_2) Tk.imm (rn4_6_2 t0 t4 t5 b1_0 b1_1 b1_2) then bif vev9_0 b1_0 Tk.imm (rn4_6_1 t0 t4 t5 b1_0 b1_1 b1_2) Tk.imm (rn4_6_2 t0 t4 t5 b1_0 b1_1 b1_2) != (0 : Int) then true else decide (rn4_6_4 t0 t4 t5 b1_0 b1_1 b1_2 > (8 : Int)) else false else false else false else false else false else bif vev14_3 b1_0 b1_1 b1_2 (rn4_6_0 t0 t4 t5 b1_0 b1_1 b1_2) then bif bif bif decide ((vev14_2 b1_0 b1_1 b1_2 (rn4_6_0 t0 t4 t5 b1_0 b1_1 b1_2) == (0 : Int)) = bif (rn4_6_0 t0 t4 t5 b1_0 b1_1 b1_2).tmod (2 : Int) == (1 : Int) then bif bif true then decide (rn4_6_0 t0 t4 t5 b1_0 b1_1 b1_2 > t4) else false then bif true then decide ((↑b1_1.length : Int) < (16 : Int)) else false else false else false) then false else true then true else bif bif (rn4_6_0 t0 t4 t5 b1_0 b1_1 b1_2).tmod (2 : Int) == (1 : Int) then bif decide (rn4_6_0 t0 t4 t5 b1_0 b1_1 b1_2 > t4) then decide ((↑b1_1.length : Int) < (16 : Int)) else false else false then vev7_1 (rn4_6_5 t0 t4 t5 b1_0 b1_1 b1_2) (rn4_6_6 t0 t4 t5 b1_0 b1_1 b1_2) b1_2 (rn4_6_0 t0 t4 t5 b1_0 b1_1 b1_2) else true then bif bif bif decide ((vev14_2 b1_0 b1_1 b1_2 (rn4_6_0 t0 t4 t5 b1_0 b1_1 b1_2) == (0 : Int)) = bif (rn4_6_0 t0 t4 t5 b1_0 b1_1 b1_2).tmod (2 : Int) == (1 : Int) then bif bif true then decide (rn4_6_0 t0 t4 t5 b1_0 b1_1 b1_2 > t4) else false then bif true then decide ((↑b1_1.length : Int) < (16 : Int)) else false else false else false) then false else true then true else bif bif (rn4_6_0 t0 t4 t5 b1_0 b1_1 b1_2).tmod (2 : Int) == (1 : Int) then bif decide (rn4_6_0 t0 t4 t5 b1_0 b1_1 b1_2 > t4) then decide ((↑b1_1.length : Int) < (16 : Int)) else false else false then bif vev7_1 (rn4_6_5 t0 t4 t5 b1_0 b1_1 b1_2) (rn4_6_6 t0 t4 t5 b1_0 b1_1 b1_2) b1_2 (rn4_6_0 t0 t4 t5 b1_0 b1_1 b1_2) then vev7_0 (rn4_6_5 t0 t4 t5 b1_0 b1_1 b1_2) (rn4_6_6 t0 t4 t5 b1_0 b1_1 b1_2) b1_2 (rn4_6_0 t0 t4 t5 b1_0 b1_1 b1_2) != (2 : Int) else false else false then true else bif bif (rn4_6_0 t0 t4 t5 b1_0 b1_1 b1_2).tmod (2 : Int) == (1 : Int) then bif decide (rn4_6_0 t0 t4 t5 b1_0 b1_1 b1_2 > t4) then decide ((↑b1_1.length : Int) < (16 : Int)) else false else false then bif bif rn4_6_5 t0 t4 t5 b1_0 b1_1 b1_2 != rn4_6_0 t0 t4 t5 b1_0 b1_1 b1_2 then true else vev9_1 (rn4_6_5 t0 t4 t5 b1_0 b1_1 b1_2) Tk.imm (rn4_6_6 t0 t4 t5 b1_0 b1_1 b1_2) Tk.imm b1_2 then bif rn4_6_5 t0 t4 t5 b1_0 b1_1 b1_2 != rn4_6_0 t0 t4 t5 b1_0 b1_1 b1_2 then true else bif vev9_1 (rn4_6_5 t0 t4 t5 b1_0 b1_1 b1_2) Tk.imm (rn4_6_6 t0 t4 t5 b1_0 b1_1 b1_2) Tk.imm b1_2 then bif vev9_0 (rn4_6_5 t0 t4 t5 b1_0 b1_1 b1_2) Tk.imm (rn4_6_6 t0 t4 t5 b1_0 b1_1 b1_2) Tk.imm b1_2 != (0 : Int) then true else decide ((↑b1_2.length : Int) > (8 : Int)) else false else false else bif bif rn4_6_5 t0 t4 t5 b1_0 b1_1 b1_2 != t4 then true else vev9_1 (rn4_6_5 t0 t4 t5 b1_0 b1_1 b1_2) Tk.imm (rn4_6_6 t0 t4 t5 b1_0 b1_1 b1_2) Tk.imm b1_2 then bif rn4_6_5 t0 t4 t5 b1_0 b1_1 b1_2 != t4 then true else bif vev9_1 (rn4_6_5 t0 t4 t5 b1_0 b1_1 b1_2) Tk.imm (rn4_6_6 t0 t4 t5 b1_0 b1_1 b1_2) Tk.imm b1_2 then bif vev9_0 (rn4_6_5 t0 t4 t5 b1_0 b1_1 b1_2) Tk.imm (rn4_6_6 t0 t4 t5 b1_0 b1_1 b1_2) Tk.imm b1_2 != (0 : Int) then true else decide ((↑b1_2.length : Int) > (8 : Int)) else false else false else false else false else false else false else false
noncomputable def xc4_6_1 (t0 : List (List AV)) (t4 : Int) (t5 : Int) (b1_0 : Int) (b1_1 : List (List AV)) (b1_2 : List (List AV)) : Bool := bif decide (t5 < (↑t0.length : Int)) then false else true
theorem rd4_6 (rest : Lsp) (t0 : List (List AV)) (t4 : Int) (t5 : Int) (b1_0 : Int) (b1_1 : List (List AV)) (b1_2 : List (List AV)) : roundV (cfg Try.prog tab 100000 (gk k13 30) rest 4 0 Try.f4.ntmps) (loopAt Try.f4 6) [0, 3, 4, 5] [1] [2] [] [AV.sl Tk.imm [Kd.int IntKind.u8, Kd.bool, Kd.bool] t0, AV.hp (nat_lit 1) (nat_lit 0), AV.int IntKind.i64 t4, AV.int IntKind.i64 t5] [Blk.var [AV.int IntKind.i64 b1_0, AV.sl Tk.imm [Kd.int IntKind.i64] b1_1, AV.sl Tk.imm [Kd.int IntKind.i64] b1_2]] = bif go4_6 t0 t4 t5 b1_0 b1_1 b1_2 then some (Ex.norm, [AV.sl Tk.imm [Kd.int IntKind.u8, Kd.bool, Kd.bool] t0, AV.hp (nat_lit 1) (nat_lit 0), AV.int IntKind.i64 (nx4_6_1 t0 t4 t5 b1_0 b1_1 b1_2), AV.int IntKind.i64 (nx4_6_2 t0 t4 t5 b1_0 b1_1 b1_2)], [Blk.var [AV.int IntKind.i64 (nx4_6_3 t0 t4 t5 b1_0 b1_1 b1_2), AV.sl Tk.imm [Kd.int IntKind.i64] (nx4_6_4 t0 t4 t5 b1_0 b1_1 b1_2), AV.sl Tk.imm [Kd.int IntKind.i64] (nx4_6_5 t0 t4 t5 b1_0 b1_1 b1_2)]]) else bif xc4_6_0 t0 t4 t5 b1_0 b1_1 b1_2 then some (Ex.ret, [AV.bool false], []) else bif xc4_6_1 t0 t4 t5 b1_0 b1_1 b1_2 then some (Ex.exit (nat_lit 0), [AV.junk], []) else none := by
  have h : roundV (cfg Try.prog tab 100000 (gk k13 30) rest 4 0 Try.f4.ntmps) (loopAt Try.f4 6) [0, 3, 4, 5] [1] [2] [] [AV.sl Tk.imm [Kd.int IntKind.u8, Kd.bool, Kd.bool] t0, AV.hp (nat_lit 1) (nat_lit 0), AV.int IntKind.i64 t4, AV.int IntKind.i64 t5] [Blk.var [AV.int IntKind.i64 b1_0, AV.sl Tk.imm [Kd.int IntKind.i64] b1_1, AV.sl Tk.imm [Kd.int IntKind.i64] b1_2]] = bif decide (t5 < (↑t0.length : Int)) then bif decide ((0 : Int) ≤ t5) && decide (t5 < (↑t0.length : Int)) then bif vev7_1 b1_0 b1_1 b1_2 (rn4_6_0 t0 t4 t5 b1_0 b1_1 b1_2) then bif decide ((0 : Int) ≤ t5) && decide (t5 < (↑t0.length : Int)) then bif boolOf ((t0.getD t5.toNat []).getD ((0 : Nat) + (1 : Nat)) AV.junk) then bif decide ((0 : Int) ≤ t5) && decide (t5 < (↑t0.length : Int)) then bif vev13_2 b1_0 b1_1 b1_2 (rn4_6_0 t0 t4 t5 b1_0 b1_1 b1_2) (boolOf ((t0.getD t5.toNat []).getD ((0 : Nat) + (1 : Nat) + (1 : Nat)) AV.junk)) then bif vev7_1 b1_0 (rn4_6_1 t0 t4 t5 b1_0 b1_1 b1_2) (rn4_6_2 t0 t4 t5 b1_0 b1_1 b1_2) (rn4_6_0 t0 t4 t5 b1_0 b1_1 b1_2) then bif bif rn4_6_3 t0 t4 t5 b1_0 b1_1 b1_2 == (2 : Int) then bif decide ((0 : Int) ≤ t5) && decide (t5 < (↑t0.length : Int)) then true else false else true then bif bif rn4_6_3 t0 t4 t5 b1_0 b1_1 b1_2 == (2 : Int) then bif decide ((0 : Int) ≤ t5) && decide (t5 < (↑t0.length : Int)) then bif true then boolOf ((t0.getD t5.toNat []).getD ((0 : Nat) + (1 : Nat) + (1 : Nat)) AV.junk) else false else false else false then bif bif rn4_6_3 t0 t4 t5 b1_0 b1_1 b1_2 == (2 : Int) then bif decide ((0 : Int) ≤ t5) && decide (t5 < (↑t0.length : Int)) then true else false else true then bif bif rn4_6_3 t0 t4 t5 b1_0 b1_1 b1_2 == (2 : Int) then bif decide ((0 : Int) ≤ t5) && decide (t5 < (↑t0.length : Int)) then bif true then !boolOf ((t0.getD t5.toNat []).getD ((0 : Nat) + (1 : Nat) + (1 : Nat)) AV.junk) else false else false else false then bif vev7_0 b1_0 (rn4_6_1 t0 t4 t5 b1_0 b1_1 b1_2) (rn4_6_2 t0 t4 t5 b1_0 b1_1 b1_2) (rn4_6_0 t0 t4 t5 b1_0 b1_1 b1_2) != (3 : Int) then some (Ex.ret, [AV.bool false], []) else bif bif b1_0 != t4 then true else bif vev9_1 b1_0 Tk.imm (rn4_6_1 t0 t4 t5 b1_0 b1_1 b1_2) Tk.imm (rn4_6_2 t0 t4 t5 b1_0 b1_1 b1_2) then bif bif false then true else vev9_0 b1_0 Tk.imm (rn4_6_1 t0 t4 t5 b1_0 b1_1 b1_2) Tk.imm (rn4_6_2 t0 t4 t5 b1_0 b1_1 b1_2) != (0 : Int) then true else true else false then bif bif b1_0 != t4 then true else bif vev9_1 b1_0 Tk.imm (rn4_6_1 t0 t4 t5 b1_0 b1_1 b1_2) Tk.imm (rn4_6_2 t0 t4 t5 b1_0 b1_1 b1_2) then bif bif false then true else vev9_0 b1_0 Tk.imm (rn4_6_1 t0 t4 t5 b1_0 b1_1 b1_2) Tk.imm (rn4_6_2 t0 t4 t5 b1_0 b1_1 b1_2) != (0 : Int) then true else bif false then true else decide (rn4_6_4 t0 t4 t5 b1_0 b1_1 b1_2 > (8 : Int)) else false then some (Ex.ret, [AV.bool false], []) else some (Ex.norm, [AV.sl Tk.imm [Kd.int IntKind.u8, Kd.bool, Kd.bool] t0, AV.hp (nat_lit 1) (nat_lit 0), AV.int IntKind.i64 t4, AV.int IntKind.i64 (IntKind.i64.wrap (t5 + (1 : Int)))], [Blk.var [AV.int IntKind.i64 b1_0, AV.sl Tk.imm [Kd.int IntKind.i64] (rn4_6_1 t0 t4 t5 b1_0 b1_1 b1_2), AV.sl Tk.imm [Kd.int IntKind.i64] (rn4_6_2 t0 t4 t5 b1_0 b1_1 b1_2)]]) else none else bif vev7_0 b1_0 (rn4_6_1 t0 t4 t5 b1_0 b1_1 b1_2) (rn4_6_2 t0 t4 t5 b1_0 b1_1 b1_2) (rn4_6_0 t0 t4 t5 b1_0 b1_1 b1_2) != (4 : Int) then some (Ex.ret, [AV.bool false], []) else bif bif b1_0 != t4 then true else bif vev9_1 b1_0 Tk.imm (rn4_6_1 t0 t4 t5 b1_0 b1_1 b1_2) Tk.imm (rn4_6_2 t0 t4 t5 b1_0 b1_1 b1_2) then bif bif false then true else vev9_0 b1_0 Tk.imm (rn4_6_1 t0 t4 t5 b1_0 b1_1 b1_2) Tk.imm (rn4_6_2 t0 t4 t5 b1_0 b1_1 b1_2) != (0 : Int) then true else true else false then bif bif b1_0 != t4 then true else bif vev9_1 b1_0 Tk.imm (rn4_6_1 t0 t4 t5 b1_0 b1_1 b1_2) Tk.imm (rn4_6_2 t0 t4 t5 b1_0 b1_1 b1_2) then bif bif false then true else vev9_0 b1_0 Tk.imm (rn4_6_1 t0 t4 t5 b1_0 b1_1 b1_2) Tk.imm (rn4_6_2 t0 t4 t5 b1_0 b1_1 b1_2) != (0 : Int) then true else bif false then true else decide (rn4_6_4 t0 t4 t5 b1_0 b1_1 b1_2 > (8 : Int)) else false then some (Ex.ret, [AV.bool false], []) else some (Ex.norm, [AV.sl Tk.imm [Kd.int IntKind.u8, Kd.bool, Kd.bool] t0, AV.hp (nat_lit 1) (nat_lit 0), AV.int IntKind.i64 t4, AV.int IntKind.i64 (IntKind.i64.wrap (t5 + (1 : Int)))], [Blk.var [AV.int IntKind.i64 b1_0, AV.sl Tk.imm [Kd.int IntKind.i64] (rn4_6_1 t0 t4 t5 b1_0 b1_1 b1_2), AV.sl Tk.imm [Kd.int IntKind.i64] (rn4_6_2 t0 t4 t5 b1_0 b1_1 b1_2)]]) else none else none else bif bif rn4_6_3 t0 t4 t5 b1_0 b1_1 b1_2 == (2 : Int) then bif decide ((0 : Int) ≤ t5) && decide (t5 < (↑t0.length : Int)) then true else false else true then bif bif rn4_6_3 t0 t4 t5 b1_0 b1_1 b1_2 == (2 : Int) then bif decide ((0 : Int) ≤ t5) && decide (t5 < (↑t0.length : Int)) then bif true then !boolOf ((t0.getD t5.toNat []).getD ((0 : Nat) + (1 : Nat) + (1 : Nat)) AV.junk) else false else false else false then bif vev7_0 b1_0 (rn4_6_1 t0 t4 t5 b1_0 b1_1 b1_2) (rn4_6_2 t0 t4 t5 b1_0 b1_1 b1_2) (rn4_6_0 t0 t4 t5 b1_0 b1_1 b1_2) != (3 : Int) then some (Ex.ret, [AV.bool false], []) else bif bif b1_0 != t4 then true else bif vev9_1 b1_0 Tk.imm (rn4_6_1 t0 t4 t5 b1_0 b1_1 b1_2) Tk.imm (rn4_6_2 t0 t4 t5 b1_0 b1_1 b1_2) then bif bif false then true else vev9_0 b1_0 Tk.imm (rn4_6_1 t0 t4 t5 b1_0 b1_1 b1_2) Tk.imm (rn4_6_2 t0 t4 t5 b1_0 b1_1 b1_2) != (0 : Int) then true else true else false then bif bif b1_0 != t4 then true else bif vev9_1 b1_0 Tk.imm (rn4_6_1 t0 t4 t5 b1_0 b1_1 b1_2) Tk.imm (rn4_6_2 t0 t4 t5 b1_0 b1_1 b1_2) then bif bif false then true else vev9_0 b1_0 Tk.imm (rn4_6_1 t0 t4 t5 b1_0 b1_1 b1_2) Tk.imm (rn4_6_2 t0 t4 t5 b1_0 b1_1 b1_2) != (0 : Int) then true else bif false then true else decide (rn4_6_4 t0 t4 t5 b1_0 b1_1 b1_2 > (8 : Int)) else false then some (Ex.ret, [AV.bool false], []) else some (Ex.norm, [AV.sl Tk.imm [Kd.int IntKind.u8, Kd.bool, Kd.bool] t0, AV.hp (nat_lit 1) (nat_lit 0), AV.int IntKind.i64 t4, AV.int IntKind.i64 (IntKind.i64.wrap (t5 + (1 : Int)))], [Blk.var [AV.int IntKind.i64 b1_0, AV.sl Tk.imm [Kd.int IntKind.i64] (rn4_6_1 t0 t4 t5 b1_0 b1_1 b1_2), AV.sl Tk.imm [Kd.int IntKind.i64] (rn4_6_2 t0 t4 t5 b1_0 b1_1 b1_2)]]) else none else bif vev7_0 b1_0 (rn4_6_1 t0 t4 t5 b1_0 b1_1 b1_2) (rn4_6_2 t0 t4 t5 b1_0 b1_1 b1_2) (rn4_6_0 t0 t4 t5 b1_0 b1_1 b1_2) != rn4_6_3 t0 t4 t5 b1_0 b1_1 b1_2 then some (Ex.ret, [AV.bool false], []) else bif bif b1_0 != t4 then true else bif vev9_1 b1_0 Tk.imm (rn4_6_1 t0 t4 t5 b1_0 b1_1 b1_2) Tk.imm (rn4_6_2 t0 t4 t5 b1_0 b1_1 b1_2) then bif bif false then true else vev9_0 b1_0 Tk.imm (rn4_6_1 t0 t4 t5 b1_0 b1_1 b1_2) Tk.imm (rn4_6_2 t0 t4 t5 b1_0 b1_1 b1_2) != (0 : Int) then true else true else false then bif bif b1_0 != t4 then true else bif vev9_1 b1_0 Tk.imm (rn4_6_1 t0 t4 t5 b1_0 b1_1 b1_2) Tk.imm (rn4_6_2 t0 t4 t5 b1_0 b1_1 b1_2) then bif bif false then true else vev9_0 b1_0 Tk.imm (rn4_6_1 t0 t4 t5 b1_0 b1_1 b1_2) Tk.imm (rn4_6_2 t0 t4 t5 b1_0 b1_1 b1_2) != (0 : Int) then true else bif false then true else decide (rn4_6_4 t0 t4 t5 b1_0 b1_1 b1_2 > (8 : Int)) else false then some (Ex.ret, [AV.bool false], []) else some (Ex.norm, [AV.sl Tk.imm [Kd.int IntKind.u8, Kd.bool, Kd.bool] t0, AV.hp (nat_lit 1) (nat_lit 0), AV.int IntKind.i64 t4, AV.int IntKind.i64 (IntKind.i64.wrap (t5 + (1 : Int)))], [Blk.var [AV.int IntKind.i64 b1_0, AV.sl Tk.imm [Kd.int IntKind.i64] (rn4_6_1 t0 t4 t5 b1_0 b1_1 b1_2), AV.sl Tk.imm [Kd.int IntKind.i64] (rn4_6_2 t0 t4 t5 b1_0 b1_1 b1_2)]]) else none else none else none else none else none else none else bif vev14_3 b1_0 b1_1 b1_2 (rn4_6_0 t0 t4 t5 b1_0 b1_1 b1_2) then bif bif (rn4_6_0 t0 t4 t5 b1_0 b1_1 b1_2).tmod (2 : Int) == (1 : Int) then bif bif true then decide (rn4_6_0 t0 t4 t5 b1_0 b1_1 b1_2 > t4) else false then true else true else true then bif bif bif decide ((vev14_2 b1_0 b1_1 b1_2 (rn4_6_0 t0 t4 t5 b1_0 b1_1 b1_2) == (0 : Int)) = bif (rn4_6_0 t0 t4 t5 b1_0 b1_1 b1_2).tmod (2 : Int) == (1 : Int) then bif bif true then decide (rn4_6_0 t0 t4 t5 b1_0 b1_1 b1_2 > t4) else false then bif true then decide ((↑b1_1.length : Int) < (16 : Int)) else false else false else false) then false else true then true else bif bif (rn4_6_0 t0 t4 t5 b1_0 b1_1 b1_2).tmod (2 : Int) == (1 : Int) then bif bif true then decide (rn4_6_0 t0 t4 t5 b1_0 b1_1 b1_2 > t4) else false then bif true then decide ((↑b1_1.length : Int) < (16 : Int)) else false else false else false then bif vev7_1 (rn4_6_5 t0 t4 t5 b1_0 b1_1 b1_2) (rn4_6_6 t0 t4 t5 b1_0 b1_1 b1_2) b1_2 (rn4_6_0 t0 t4 t5 b1_0 b1_1 b1_2) then true else false else true then bif bif bif decide ((vev14_2 b1_0 b1_1 b1_2 (rn4_6_0 t0 t4 t5 b1_0 b1_1 b1_2) == (0 : Int)) = bif (rn4_6_0 t0 t4 t5 b1_0 b1_1 b1_2).tmod (2 : Int) == (1 : Int) then bif bif true then decide (rn4_6_0 t0 t4 t5 b1_0 b1_1 b1_2 > t4) else false then bif true then decide ((↑b1_1.length : Int) < (16 : Int)) else false else false else false) then false else true then true else bif bif (rn4_6_0 t0 t4 t5 b1_0 b1_1 b1_2).tmod (2 : Int) == (1 : Int) then bif bif true then decide (rn4_6_0 t0 t4 t5 b1_0 b1_1 b1_2 > t4) else false then bif true then decide ((↑b1_1.length : Int) < (16 : Int)) else false else false else false then bif vev7_1 (rn4_6_5 t0 t4 t5 b1_0 b1_1 b1_2) (rn4_6_6 t0 t4 t5 b1_0 b1_1 b1_2) b1_2 (rn4_6_0 t0 t4 t5 b1_0 b1_1 b1_2) then bif false then true else bif true then vev7_0 (rn4_6_5 t0 t4 t5 b1_0 b1_1 b1_2) (rn4_6_6 t0 t4 t5 b1_0 b1_1 b1_2) b1_2 (rn4_6_0 t0 t4 t5 b1_0 b1_1 b1_2) != (2 : Int) else false else false else bif false then true else false then some (Ex.ret, [AV.bool false], []) else bif bif (rn4_6_0 t0 t4 t5 b1_0 b1_1 b1_2).tmod (2 : Int) == (1 : Int) then bif bif true then decide (rn4_6_0 t0 t4 t5 b1_0 b1_1 b1_2 > t4) else false then bif true then decide ((↑b1_1.length : Int) < (16 : Int)) else false else false else false then bif bif rn4_6_5 t0 t4 t5 b1_0 b1_1 b1_2 != rn4_6_0 t0 t4 t5 b1_0 b1_1 b1_2 then true else bif vev9_1 (rn4_6_5 t0 t4 t5 b1_0 b1_1 b1_2) Tk.imm (rn4_6_6 t0 t4 t5 b1_0 b1_1 b1_2) Tk.imm b1_2 then bif bif false then true else vev9_0 (rn4_6_5 t0 t4 t5 b1_0 b1_1 b1_2) Tk.imm (rn4_6_6 t0 t4 t5 b1_0 b1_1 b1_2) Tk.imm b1_2 != (0 : Int) then true else true else false then bif bif rn4_6_5 t0 t4 t5 b1_0 b1_1 b1_2 != rn4_6_0 t0 t4 t5 b1_0 b1_1 b1_2 then true else bif vev9_1 (rn4_6_5 t0 t4 t5 b1_0 b1_1 b1_2) Tk.imm (rn4_6_6 t0 t4 t5 b1_0 b1_1 b1_2) Tk.imm b1_2 then bif bif false then true else vev9_0 (rn4_6_5 t0 t4 t5 b1_0 b1_1 b1_2) Tk.imm (rn4_6_6 t0 t4 t5 b1_0 b1_1 b1_2) Tk.imm b1_2 != (0 : Int) then true else bif false then true else decide ((↑b1_2.length : Int) > (8 : Int)) else false then some (Ex.ret, [AV.bool false], []) else some (Ex.norm, [AV.sl Tk.imm [Kd.int IntKind.u8, Kd.bool, Kd.bool] t0, AV.hp (nat_lit 1) (nat_lit 0), AV.int IntKind.i64 (rn4_6_0 t0 t4 t5 b1_0 b1_1 b1_2), AV.int IntKind.i64 (IntKind.i64.wrap (t5 + (1 : Int)))], [Blk.var [AV.int IntKind.i64 (rn4_6_5 t0 t4 t5 b1_0 b1_1 b1_2), AV.sl Tk.imm [Kd.int IntKind.i64] (rn4_6_6 t0 t4 t5 b1_0 b1_1 b1_2), AV.sl Tk.imm [Kd.int IntKind.i64] b1_2]]) else none else bif bif rn4_6_5 t0 t4 t5 b1_0 b1_1 b1_2 != t4 then true else bif vev9_1 (rn4_6_5 t0 t4 t5 b1_0 b1_1 b1_2) Tk.imm (rn4_6_6 t0 t4 t5 b1_0 b1_1 b1_2) Tk.imm b1_2 then bif bif false then true else vev9_0 (rn4_6_5 t0 t4 t5 b1_0 b1_1 b1_2) Tk.imm (rn4_6_6 t0 t4 t5 b1_0 b1_1 b1_2) Tk.imm b1_2 != (0 : Int) then true else true else false then bif bif rn4_6_5 t0 t4 t5 b1_0 b1_1 b1_2 != t4 then true else bif vev9_1 (rn4_6_5 t0 t4 t5 b1_0 b1_1 b1_2) Tk.imm (rn4_6_6 t0 t4 t5 b1_0 b1_1 b1_2) Tk.imm b1_2 then bif bif false then true else vev9_0 (rn4_6_5 t0 t4 t5 b1_0 b1_1 b1_2) Tk.imm (rn4_6_6 t0 t4 t5 b1_0 b1_1 b1_2) Tk.imm b1_2 != (0 : Int) then true else bif false then true else decide ((↑b1_2.length : Int) > (8 : Int)) else false then some (Ex.ret, [AV.bool false], []) else some (Ex.norm, [AV.sl Tk.imm [Kd.int IntKind.u8, Kd.bool, Kd.bool] t0, AV.hp (nat_lit 1) (nat_lit 0), AV.int IntKind.i64 t4, AV.int IntKind.i64 (IntKind.i64.wrap (t5 + (1 : Int)))], [Blk.var [AV.int IntKind.i64 (rn4_6_5 t0 t4 t5 b1_0 b1_1 b1_2), AV.sl Tk.imm [Kd.int IntKind.i64] (rn4_6_6 t0 t4 t5 b1_0 b1_1 b1_2), AV.sl Tk.imm [Kd.int IntKind.i64] b1_2]]) else none else none else none else none else none else none else none else some (Ex.exit (nat_lit 0), [AV.junk], []) := by kernel_rfl
  rw [h]
  clear h
  unfold go4_6 nx4_6_1 nx4_6_2 nx4_6_3 nx4_6_4 nx4_6_5 xc4_6_0 xc4_6_1
  generalize (decide ((vev14_2 b1_0 b1_1 b1_2 (rn4_6_0 t0 t4 t5 b1_0 b1_1 b1_2) == (0 : Int)) = bif (rn4_6_0 t0 t4 t5 b1_0 b1_1 b1_2).tmod (2 : Int) == (1 : Int) then bif bif true then decide (rn4_6_0 t0 t4 t5 b1_0 b1_1 b1_2 > t4) else false then bif true then decide ((↑b1_1.length : Int) < (16 : Int)) else false else false else false)) = c0
  generalize (vev13_2 b1_0 b1_1 b1_2 (rn4_6_0 t0 t4 t5 b1_0 b1_1 b1_2) (boolOf ((t0.getD t5.toNat []).getD ((0 : Nat) + (1 : Nat) + (1 : Nat)) AV.junk))) = c1
  generalize (!boolOf ((t0.getD t5.toNat []).getD ((0 : Nat) + (1 : Nat) + (1 : Nat)) AV.junk)) = c2
  generalize (boolOf ((t0.getD t5.toNat []).getD ((0 : Nat) + (1 : Nat) + (1 : Nat)) AV.junk)) = c3
  generalize (decide ((0 : Int) ≤ t5) && decide (t5 < (↑t0.length : Int))) = c4
  generalize (vev7_0 b1_0 (rn4_6_1 t0 t4 t5 b1_0 b1_1 b1_2) (rn4_6_2 t0 t4 t5 b1_0 b1_1 b1_2) (rn4_6_0 t0 t4 t5 b1_0 b1_1 b1_2) != rn4_6_3 t0 t4 t5 b1_0 b1_1 b1_2) = c5
  generalize (vev7_0 b1_0 (rn4_6_1 t0 t4 t5 b1_0 b1_1 b1_2) (rn4_6_2 t0 t4 t5 b1_0 b1_1 b1_2) (rn4_6_0 t0 t4 t5 b1_0 b1_1 b1_2) != (4 : Int)) = c6
  generalize (vev7_0 (rn4_6_5 t0 t4 t5 b1_0 b1_1 b1_2) (rn4_6_6 t0 t4 t5 b1_0 b1_1 b1_2) b1_2 (rn4_6_0 t0 t4 t5 b1_0 b1_1 b1_2) != (2 : Int)) = c7
  generalize (vev7_0 b1_0 (rn4_6_1 t0 t4 t5 b1_0 b1_1 b1_2) (rn4_6_2 t0 t4 t5 b1_0 b1_1 b1_2) (rn4_6_0 t0 t4 t5 b1_0 b1_1 b1_2) != (3 : Int)) = c8
  generalize (decide (rn4_6_4 t0 t4 t5 b1_0 b1_1 b1_2 > (8 : Int))) = c9
  generalize (decide ((↑b1_1.length : Int) < (16 : Int))) = c10
  generalize (boolOf ((t0.getD t5.toNat []).getD ((0 : Nat) + (1 : Nat)) AV.junk)) = c11
  generalize (decide ((↑b1_2.length : Int) > (8 : Int))) = c12
  generalize (vev9_0 b1_0 Tk.imm (rn4_6_1 t0 t4 t5 b1_0 b1_1 b1_2) Tk.imm (rn4_6_2 t0 t4 t5 b1_0 b1_1 b1_2) != (0 : Int)) = c13
  generalize (vev9_0 (rn4_6_5 t0 t4 t5 b1_0 b1_1 b1_2) Tk.imm (rn4_6_6 t0 t4 t5 b1_0 b1_1 b1_2) Tk.imm b1_2 != (0 : Int)) = c14
  generalize (vev7_1 (rn4_6_5 t0 t4 t5 b1_0 b1_1 b1_2) (rn4_6_6 t0 t4 t5 b1_0 b1_1 b1_2) b1_2 (rn4_6_0 t0 t4 t5 b1_0 b1_1 b1_2)) = c15
  generalize (vev7_1 b1_0 (rn4_6_1 t0 t4 t5 b1_0 b1_1 b1_2) (rn4_6_2 t0 t4 t5 b1_0 b1_1 b1_2) (rn4_6_0 t0 t4 t5 b1_0 b1_1 b1_2)) = c16
  generalize ((rn4_6_0 t0 t4 t5 b1_0 b1_1 b1_2).tmod (2 : Int) == (1 : Int)) = c17
  generalize (decide (t5 < (↑t0.length : Int))) = c18
  generalize (decide (rn4_6_0 t0 t4 t5 b1_0 b1_1 b1_2 > t4)) = c19
  generalize (rn4_6_5 t0 t4 t5 b1_0 b1_1 b1_2 != rn4_6_0 t0 t4 t5 b1_0 b1_1 b1_2) = c20
  generalize (vev9_1 b1_0 Tk.imm (rn4_6_1 t0 t4 t5 b1_0 b1_1 b1_2) Tk.imm (rn4_6_2 t0 t4 t5 b1_0 b1_1 b1_2)) = c21
  generalize (vev9_1 (rn4_6_5 t0 t4 t5 b1_0 b1_1 b1_2) Tk.imm (rn4_6_6 t0 t4 t5 b1_0 b1_1 b1_2) Tk.imm b1_2) = c22
  generalize (rn4_6_3 t0 t4 t5 b1_0 b1_1 b1_2 == (2 : Int)) = c23
  generalize (rn4_6_5 t0 t4 t5 b1_0 b1_1 b1_2 != t4) = c24
  generalize (vev7_1 b1_0 b1_1 b1_2 (rn4_6_0 t0 t4 t5 b1_0 b1_1 b1_2)) = c25
  generalize (vev14_3 b1_0 b1_1 b1_2 (rn4_6_0 t0 t4 t5 b1_0 b1_1 b1_2)) = c26
  generalize (b1_0 != t4) = c27
  cases c18
  · skip
    rfl
  · skip
    cases c4
    · skip
      rfl
    · skip
      cases c25
      · skip
        rfl
      · skip
        cases c11
        · skip
          cases c26
          · skip
            rfl
          · skip
            cases c17
            · skip
              cases c0
              · skip
                rfl
              · skip
                cases c24
                · skip
                  cases c22
                  · skip
                    rfl
                  · skip
                    cases c14
                    · skip
                      cases c12
                      · skip
                        rfl
                      · skip
                        rfl
                    · skip
                      rfl
                · skip
                  rfl
            · skip
              cases c19
              · skip
                cases c0
                · skip
                  rfl
                · skip
                  cases c24
                  · skip
                    cases c22
                    · skip
                      rfl
                    · skip
                      cases c14
                      · skip
                        cases c12
                        · skip
                          rfl
                        · skip
                          rfl
                      · skip
                        rfl
                  · skip
                    rfl
              · skip
                cases c0
                · skip
                  rfl
                · skip
                  cases c10
                  · skip
                    cases c24
                    · skip
                      cases c22
                      · skip
                        rfl
                      · skip
                        cases c14
                        · skip
                          cases c12
                          · skip
                            rfl
                          · skip
                            rfl
                        · skip
                          rfl
                    · skip
                      rfl
                  · skip
                    cases c15
                    · skip
                      rfl
                    · skip
                      cases c7
                      · skip
                        cases c20
                        · skip
                          cases c22
                          · skip
                            rfl
                          · skip
                            cases c14
                            · skip
                              cases c12
                              · skip
                                rfl
                              · skip
                                rfl
                            · skip
                              rfl
                        · skip
                          rfl
                      · skip
                        rfl
        · skip
          cases c1
          · skip
            rfl
          · skip
            cases c16
            · skip
              rfl
            · skip
              cases c23
              · skip
                cases c5
                · skip
                  cases c27
                  · skip
                    cases c21
                    · skip
                      rfl
                    · skip
                      cases c13
                      · skip
                        cases c9
                        · skip
                          rfl
                        · skip
                          rfl
                      · skip
                        rfl
                  · skip
                    rfl
                · skip
                  rfl
              · skip
                cases c3
                · skip
                  cases c2
                  · skip
                    cases c5
                    · skip
                      cases c27
                      · skip
                        cases c21
                        · skip
                          rfl
                        · skip
                          cases c13
                          · skip
                            cases c9
                            · skip
                              rfl
                            · skip
                              rfl
                          · skip
                            rfl
                      · skip
                        rfl
                    · skip
                      rfl
                  · skip
                    cases c8
                    · skip
                      cases c27
                      · skip
                        cases c21
                        · skip
                          rfl
                        · skip
                          cases c13
                          · skip
                            cases c9
                            · skip
                              rfl
                            · skip
                              rfl
                          · skip
                            rfl
                      · skip
                        rfl
                    · skip
                      rfl
                · skip
                  cases c2
                  · skip
                    cases c6
                    · skip
                      cases c27
                      · skip
                        cases c21
                        · skip
                          rfl
                        · skip
                          cases c13
                          · skip
                            cases c9
                            · skip
                              rfl
                            · skip
                              rfl
                          · skip
                            rfl
                      · skip
                        rfl
                    · skip
                      rfl
                  · skip
                    cases c8
                    · skip
                      cases c27
                      · skip
                        cases c21
                        · skip
                          rfl
                        · skip
                          cases c13
                          · skip
                            cases c9
                            · skip
                              rfl
                            · skip
                              rfl
                          · skip
                            rfl
                      · skip
                        rfl
                    · skip
                      rfl
abbrev pl4_6 : Type := (List (List AV))
abbrev sl4_6 : Type := Int × Int × Int × (List (List AV)) × (List (List AV))
noncomputable def vt4_6 (a : pl4_6 × sl4_6) : List AV := [AV.sl Tk.imm [Kd.int IntKind.u8, Kd.bool, Kd.bool] a.1, AV.hp (nat_lit 1) (nat_lit 0), AV.int IntKind.i64 a.2.1, AV.int IntKind.i64 a.2.2.1]
noncomputable def vc4_6 (a : pl4_6 × sl4_6) : List Blk := [Blk.var [AV.int IntKind.i64 a.2.2.2.1, AV.sl Tk.imm [Kd.int IntKind.i64] a.2.2.2.2.1, AV.sl Tk.imm [Kd.int IntKind.i64] a.2.2.2.2.2]]
noncomputable def de4_6 (vt : List AV) (vc : List Blk) : Option (pl4_6 × sl4_6) :=
  match vt with
  | [qa0, qa1, qa2, qa3] => (match vc with
  | [qb0] => (match qa0 with
  | AV.sl Tk.imm [Kd.int IntKind.u8, Kd.bool, Kd.bool] t0 => (match qa1 with
  | AV.hp (1) (0) => (match qa2 with
  | AV.int IntKind.i64 t4 => (match qa3 with
  | AV.int IntKind.i64 t5 => (match qb0 with
  | Blk.var [AV.int IntKind.i64 b1_0, AV.sl Tk.imm [Kd.int IntKind.i64] b1_1, AV.sl Tk.imm [Kd.int IntKind.i64] b1_2] => (some (t0, (t4, t5, b1_0, b1_1, b1_2)))
  | _ => none)
  | _ => none)
  | _ => none)
  | _ => none)
  | _ => none)
  | _ => none)
  | _ => none
theorem de4_6_ok (vt : List AV) (vc : List Blk) (a : pl4_6 × sl4_6) (h : de4_6 vt vc = some a) : vt = vt4_6 a ∧ vc = vc4_6 a := by
  unfold de4_6 at h
  split at h
  rotate_left
  · cases h
  split at h
  rotate_left
  · cases h
  split at h
  rotate_left
  · cases h
  split at h
  rotate_left
  · cases h
  split at h
  rotate_left
  · cases h
  split at h
  rotate_left
  · cases h
  split at h
  rotate_left
  · cases h
  injection h with h
  subst h
  exact ⟨rfl, rfl⟩
noncomputable def g4_6 (p : pl4_6) (s : sl4_6) : Bool := go4_6 p s.1 s.2.1 s.2.2.1 s.2.2.2.1 s.2.2.2.2
noncomputable def n4_6 (p : pl4_6) (s : sl4_6) : sl4_6 := (nx4_6_1 p s.1 s.2.1 s.2.2.1 s.2.2.2.1 s.2.2.2.2, nx4_6_2 p s.1 s.2.1 s.2.2.1 s.2.2.2.1 s.2.2.2.2, nx4_6_3 p s.1 s.2.1 s.2.2.1 s.2.2.2.1 s.2.2.2.2, nx4_6_4 p s.1 s.2.1 s.2.2.1 s.2.2.2.1 s.2.2.2.2, nx4_6_5 p s.1 s.2.1 s.2.2.1 s.2.2.2.1 s.2.2.2.2)
noncomputable def y4_6 (p : pl4_6) (s : sl4_6) : List (Bool × Out) := [(xc4_6_0 p s.1 s.2.1 s.2.2.1 s.2.2.2.1 s.2.2.2.2, (Ex.ret, [AV.bool false], []))]
noncomputable def z4_6 (p : pl4_6) (s : sl4_6) : Bool := xc4_6_1 p s.1 s.2.1 s.2.2.1 s.2.2.2.1 s.2.2.2.2
noncomputable def d4_6 (p : pl4_6) (s : sl4_6) : Out := (Ex.exit (nat_lit 0), [AV.junk], [])
noncomputable def ls4_6 : St → Option (Bool × List (Bool × Ex × St) × Ex × St) := lspOf [0, 3, 4, 5] [1] [2] [] Try.f4.ntmps (0 + tab.nid 4) de4_6 (spI g4_6 n4_6 y4_6 z4_6 d4_6)
theorem lo4_6 (rest : Lsp) : LoopOK1 (cfg Try.prog tab 100000 (gk k13 30) (selL 6 ls4_6 rest) 4 0 Try.f4.ntmps) (loopAt Try.f4 6) := LoopOK1.iter (i := 6) (by kernel_rfl) [0, 3, 4, 5] [1] [2] [] vt4_6 vc4_6 de4_6 g4_6 n4_6 y4_6 z4_6 d4_6 (fun _ => rfl) de4_6_ok (fun p s => rd4_6 (selL 6 ls4_6 rest) p (s.1) (s.2.1) (s.2.2.1) (s.2.2.2.1) (s.2.2.2.2)) (fun _ _ => rfl)
noncomputable def lsp4 : Lsp := (selL 6 ls4_6 noLsp)
theorem loops4 : ∀ c, Try.f4.body = some c → LoopsOK (cfg Try.prog tab 100000 (gk k13 30) lsp4 4 0 Try.f4.ntmps) c := loops_of [6] (by kernel_rfl) (by kernel_rfl) (fun i hi => by
  simp only [List.mem_cons, List.not_mem_nil, or_false] at hi
  subst hi
  · exact lo4_6 noLsp)
noncomputable def rev4_0 (ls : List (List AV)) : sl4_6 := finL (g4_6 ls) (n4_6 ls) ((0 : Int), (0 : Int), (0 : Int), [], [])
noncomputable def vev4_0 (ls : List (List AV)) : Bool := bif decide ((↑ls.length : Int) > (80 : Int)) then true else bif xc4_6_0 ls (rev4_0 ls).fst (rev4_0 ls).snd.fst (rev4_0 ls).snd.snd.fst (rev4_0 ls).snd.snd.snd.fst (rev4_0 ls).snd.snd.snd.snd then false else true
noncomputable def vev4_1 (ls : List (List AV)) : Bool := bif decide ((↑ls.length : Int) > (80 : Int)) then true else bif (spI g4_6 n4_6 y4_6 z4_6 d4_6 (ls, (0 : Int), (0 : Int), (0 : Int), [], [])).fst then true else false
theorem ev4 (ls : List (List AV)) : evFun (cfg Try.prog tab 100000 (gk k13 30) lsp4 4 ([] : List Blk).length Try.f4.ntmps) Try.f4 [.sl .imm [.int .u8, .bool, .bool] ls] [] = bif vev4_1 ls then some (AV.bool (vev4_0 ls), []) else none := by
  have h : evFun (cfg Try.prog tab 100000 (gk k13 30) lsp4 4 ([] : List Blk).length Try.f4.ntmps) Try.f4 [.sl .imm [.int .u8, .bool, .bool] ls] [] = bif decide ((↑ls.length : Int) > (80 : Int)) then some (AV.bool true, []) else bif (spI g4_6 n4_6 y4_6 z4_6 d4_6 (ls, (0 : Int), (0 : Int), (0 : Int), [], [])).fst then bif xc4_6_0 ls (rev4_0 ls).fst (rev4_0 ls).snd.fst (rev4_0 ls).snd.snd.fst (rev4_0 ls).snd.snd.snd.fst (rev4_0 ls).snd.snd.snd.snd then some (AV.bool false, []) else some (AV.bool true, []) else none := by kernel_rfl
  rw [h]
  clear h
  unfold vev4_0 vev4_1
  generalize (xc4_6_0 ls (rev4_0 ls).fst (rev4_0 ls).snd.fst (rev4_0 ls).snd.snd.fst (rev4_0 ls).snd.snd.snd.fst (rev4_0 ls).snd.snd.snd.snd) = c0
  generalize ((spI g4_6 n4_6 y4_6 z4_6 d4_6 (ls, (0 : Int), (0 : Int), (0 : Int), [], [])).fst) = c1
  generalize (decide ((↑ls.length : Int) > (80 : Int))) = c2
  cases c2
  · skip
    cases c1
    · skip
      rfl
    · skip
      cases c0
      · skip
        rfl
      · skip
        rfl
  · skip
    rfl
-- spec vev4_1 ls ;; (AV.bool (vev4_0 ls), [])
-- law 4: loops loops4 gam k13
end Go.Proofs.Gv
