import Derived.Test.YtndephedgodneaaGt
import Derived.KernelRfl
namespace Go.Proofs.Gv
open Go.Proofs
set_option linter.unusedVariables false
theorem mixed : Try.prog.follows .mixedOrders = true := by kernel_rfl
theorem plain : plainNames Try.prog = true := by kernel_rfl
def k0 : Gam := fun _ _ _ => none
theorem k0_ok : GamOK Try.prog k0 := GamOK.none _
noncomputable abbrev gk (k : Gam) : Nat → Gam := gamN Try.prog tab 100000 k
theorem gk_ok {k : Gam} (h : GamOK Try.prog k) (d : Nat) : GamOK Try.prog (gk k d) := gamN_ok mixed plain h d
def spW (ok : Bool) (x : Option (Bool × AV × List Blk)) : Option (Bool × AV × List Blk) :=
  match x with
  | some (_, r, o) => some (ok, r, o)
  | none => none
theorem fin_true {P : Program} {frz : Bool} {m : Nat} {ts : List TypeId} {x : Option (AV × List Blk)} {b : Bool} {r : AV} {o : List Blk} (h : fin P frz m ts x = some (b, r, o)) : b = true := by
  unfold fin at h
  split at h
  · split at h <;> (injection h with h; injection h with h; exact h.symm)
  · cases h
theorem spW_inv {P : Program} {frz : Bool} {m : Nat} {ts : List TypeId} {x : Option (AV × List Blk)} {ok : Bool} {r : AV} {o : List Blk} (h : spW ok (fin P frz m ts x) = some (true, r, o)) : ok = true ∧ fin P frz m ts x = some (true, r, o) := by
  unfold spW at h
  split at h
  · rename_i b r' o' he
    injection h with h
    injection h with h1 h
    injection h with h2 h3
    subst h1 h2 h3
    have := fin_true he
    subst this
    exact ⟨rfl, he⟩
  · cases h
theorem ev25 : evFun (cfg Try.prog tab 100000 (gk k0 30) noLsp 25 ([] : List Blk).length Try.f25.ntmps) Try.f25 [] [] = some (AV.bool true, []) := by kernel_rfl
-- spec true ;; (AV.bool true, [])
noncomputable def sp25 : List AV → List Blk → Option (Bool × AV × List Blk)
  | [], [] => spW (true) (fin Try.prog (tab.frz 25) ([] : List Blk).length Try.f25.resultTypes.toList (some ((AV.bool true, []))))
  | _, _ => none
noncomputable def k25 : Gam := fun f T C => match Nat.beq f 25 with
  | true => (sp25 T C).or (k0 f T C)
  | false => k0 f T C
theorem k25_ok : GamOK Try.prog k25 := by
  intro f T C r outs h
  unfold k25 at h
  cases hf : Nat.beq f 25 with
  | false => rw [hf] at h; exact k0_ok f T C r outs h
  | true =>
    have hf' := Nat.eq_of_beq_eq_true hf
    subst hf'
    rw [hf] at h
    dsimp only at h
    cases hs : sp25 T C with
    | none => rw [hs] at h; exact k0_ok _ T C r outs h
    | some x =>
      rw [hs] at h
      have hx : x = (true, r, outs) := by simpa using h
      subst hx
      unfold sp25 at hs
      split at hs
      · obtain ⟨hb, hs⟩ := spW_inv hs
        have he := ev25 
        obtain ⟨h1, h2⟩ := fn_ok mixed plain (gk_ok k0_ok 30) Try.func25 (fun c _ => LoopsOK.none (fun _ _ => rfl) c) he
        exact ⟨h1, h2.fin hs⟩
      · cases hs
noncomputable def vev28_0 (s : Int) (d : List UInt8) (e : Bool) : Int := bif decide (s < (0 : Int)) then (8 : Int) else bif decide (s > (2147483647 : Int)) then (8 : Int) else bif bif !s != (0 : Int) then !(s == (0 : Int) && (d == (ByteArray.mk #[]).data.toList && (e == false && true))) else false then (4 : Int) else bif decide ((↑d.length : Int) > (4096 : Int)) then (5 : Int) else (0 : Int)
theorem ev28 (s : Int) (d : List UInt8) (e : Bool) : evFun (cfg Try.prog tab 100000 (gk k25 30) noLsp 28 ([] : List Blk).length Try.f28.ntmps) Try.f28 [.agg [.int .i64 s, .str d, .bool e]] [] = bif true then some (AV.int IntKind.i64 (vev28_0 s d e), []) else none := by
  have h : evFun (cfg Try.prog tab 100000 (gk k25 30) noLsp 28 ([] : List Blk).length Try.f28.ntmps) Try.f28 [.agg [.int .i64 s, .str d, .bool e]] [] = bif decide (s < (0 : Int)) then bif decide (s < (0 : Int)) then some (AV.int IntKind.i64 (8 : Int), []) else bif bif !s != (0 : Int) then true else true then bif bif !s != (0 : Int) then bif true then !(s == (0 : Int) && (d == (ByteArray.mk #[]).data.toList && (e == false && true))) else false else false then some (AV.int IntKind.i64 (4 : Int), []) else bif decide ((↑d.length : Int) > (4096 : Int)) then some (AV.int IntKind.i64 (5 : Int), []) else some (AV.int IntKind.i64 (0 : Int), []) else none else bif decide (s > (2147483647 : Int)) then some (AV.int IntKind.i64 (8 : Int), []) else bif bif !s != (0 : Int) then true else true then bif bif !s != (0 : Int) then bif true then !(s == (0 : Int) && (d == (ByteArray.mk #[]).data.toList && (e == false && true))) else false else false then some (AV.int IntKind.i64 (4 : Int), []) else bif decide ((↑d.length : Int) > (4096 : Int)) then some (AV.int IntKind.i64 (5 : Int), []) else some (AV.int IntKind.i64 (0 : Int), []) else none := by kernel_rfl
  rw [h]
  clear h
  unfold vev28_0
  generalize (!(s == (0 : Int) && (d == (ByteArray.mk #[]).data.toList && (e == false && true)))) = c0
  generalize (decide ((↑d.length : Int) > (4096 : Int))) = c1
  generalize (decide (s < (0 : Int))) = c2
  generalize (decide (s > (2147483647 : Int))) = c3
  generalize (!s != (0 : Int)) = c4
  cases c2
  · skip
    cases c3
    · skip
      cases c4
      · skip
        cases c1
        · skip
          rfl
        · skip
          rfl
      · skip
        cases c0
        · skip
          cases c1
          · skip
            rfl
          · skip
            rfl
        · skip
          rfl
    · skip
      rfl
  · skip
    rfl
-- spec true ;; (AV.int IntKind.i64 (vev28_0 s d e), [])
noncomputable def sp28 : List AV → List Blk → Option (Bool × AV × List Blk)
  | [.agg [.int .i64 s, .str d, .bool e]], [] => spW (true) (fin Try.prog (tab.frz 28) ([] : List Blk).length Try.f28.resultTypes.toList (some ((AV.int IntKind.i64 (vev28_0 s d e), []))))
  | _, _ => none
noncomputable def k28 : Gam := fun f T C => match Nat.beq f 28 with
  | true => (sp28 T C).or (k25 f T C)
  | false => k25 f T C
theorem k28_ok : GamOK Try.prog k28 := by
  intro f T C r outs h
  unfold k28 at h
  cases hf : Nat.beq f 28 with
  | false => rw [hf] at h; exact k25_ok f T C r outs h
  | true =>
    have hf' := Nat.eq_of_beq_eq_true hf
    subst hf'
    rw [hf] at h
    dsimp only at h
    cases hs : sp28 T C with
    | none => rw [hs] at h; exact k25_ok _ T C r outs h
    | some x =>
      rw [hs] at h
      have hx : x = (true, r, outs) := by simpa using h
      subst hx
      unfold sp28 at hs
      split at hs
      · rename_i s d e
        obtain ⟨hb, hs⟩ := spW_inv hs
        have he := ev28 s d e
        obtain ⟨h1, h2⟩ := fn_ok mixed plain (gk_ok k25_ok 30) Try.func28 (fun c _ => LoopsOK.none (fun _ _ => rfl) c) he
        exact ⟨h1, h2.fin hs⟩
      · cases hs
noncomputable def vev29_0 (s : Int) (d : List UInt8) (e : Bool) : Int := bif bif decide (s < (0 : Int)) then true else decide (s > (2147483647 : Int)) then (8 : Int) else bif bif s == (0 : Int) then bif !d == (ByteArray.mk #[]).data.toList then true else e else false then (4 : Int) else bif decide ((↑d.length : Int) > (4096 : Int)) then (5 : Int) else (0 : Int)
theorem ev29 (s : Int) (d : List UInt8) (e : Bool) : evFun (cfg Try.prog tab 100000 (gk k28 30) noLsp 29 ([] : List Blk).length Try.f29.ntmps) Try.f29 [.agg [.int .i64 s, .str d, .bool e]] [] = bif true then some (AV.int IntKind.i64 (vev29_0 s d e), []) else none := by
  have h : evFun (cfg Try.prog tab 100000 (gk k28 30) noLsp 29 ([] : List Blk).length Try.f29.ntmps) Try.f29 [.agg [.int .i64 s, .str d, .bool e]] [] = bif bif decide (s < (0 : Int)) then true else true then bif bif decide (s < (0 : Int)) then true else bif false then true else decide (s > (2147483647 : Int)) then some (AV.int IntKind.i64 (8 : Int), []) else bif bif s == (0 : Int) then bif !d == (ByteArray.mk #[]).data.toList then true else true else true then bif bif s == (0 : Int) then bif !d == (ByteArray.mk #[]).data.toList then bif true then true else false else bif true then bif false then true else e else false else false then some (AV.int IntKind.i64 (4 : Int), []) else bif decide ((↑d.length : Int) > (4096 : Int)) then some (AV.int IntKind.i64 (5 : Int), []) else some (AV.int IntKind.i64 (0 : Int), []) else none else none := by kernel_rfl
  rw [h]
  clear h
  unfold vev29_0
  generalize (decide ((↑d.length : Int) > (4096 : Int))) = c0
  generalize (!d == (ByteArray.mk #[]).data.toList) = c1
  generalize (decide (s < (0 : Int))) = c2
  generalize (decide (s > (2147483647 : Int))) = c3
  generalize (s == (0 : Int)) = c4
  generalize (e) = c5
  cases c2
  · skip
    cases c3
    · skip
      cases c4
      · skip
        cases c0
        · skip
          rfl
        · skip
          rfl
      · skip
        cases c1
        · skip
          cases c5
          · skip
            cases c0
            · skip
              rfl
            · skip
              rfl
          · skip
            rfl
        · skip
          rfl
    · skip
      rfl
  · skip
    rfl
-- spec true ;; (AV.int IntKind.i64 (vev29_0 s d e), [])
noncomputable def sp29 : List AV → List Blk → Option (Bool × AV × List Blk)
  | [.agg [.int .i64 s, .str d, .bool e]], [] => spW (true) (fin Try.prog (tab.frz 29) ([] : List Blk).length Try.f29.resultTypes.toList (some ((AV.int IntKind.i64 (vev29_0 s d e), []))))
  | _, _ => none
noncomputable def k29 : Gam := fun f T C => match Nat.beq f 29 with
  | true => (sp29 T C).or (k28 f T C)
  | false => k28 f T C
theorem k29_ok : GamOK Try.prog k29 := by
  intro f T C r outs h
  unfold k29 at h
  cases hf : Nat.beq f 29 with
  | false => rw [hf] at h; exact k28_ok f T C r outs h
  | true =>
    have hf' := Nat.eq_of_beq_eq_true hf
    subst hf'
    rw [hf] at h
    dsimp only at h
    cases hs : sp29 T C with
    | none => rw [hs] at h; exact k28_ok _ T C r outs h
    | some x =>
      rw [hs] at h
      have hx : x = (true, r, outs) := by simpa using h
      subst hx
      unfold sp29 at hs
      split at hs
      · rename_i s d e
        obtain ⟨hb, hs⟩ := spW_inv hs
        have he := ev29 s d e
        obtain ⟨h1, h2⟩ := fn_ok mixed plain (gk_ok k28_ok 30) Try.func29 (fun c _ => LoopsOK.none (fun _ _ => rfl) c) he
        exact ⟨h1, h2.fin hs⟩
      · cases hs
noncomputable def vev54_0 (s : Int) (d : List UInt8) (e : Bool) (t : Int) (g : Int) (sn : Int) (da : List UInt8) (pa : Int) (de : Int) (so : Bool) (we : Int) (co : Int) (la : Int) (inc : Int) (ps : List (List AV)) : Bool := bif bif bif t == (9 : Int) then true else t == (1 : Int) then bif decide (sn < (1 : Int)) then true else decide (sn > (2147483647 : Int)) else false then false else bif s != (0 : Int) then bif t == (9 : Int) then t == (9 : Int) else t == (9 : Int) else bif t == (9 : Int) then true else bif false then true else t == (1 : Int)
noncomputable def vev54_1 (s : Int) (d : List UInt8) (e : Bool) (t : Int) (g : Int) (sn : Int) (da : List UInt8) (pa : Int) (de : Int) (so : Bool) (we : Int) (co : Int) (la : Int) (inc : Int) (ps : List (List AV)) : Bool := bif bif bif t == (9 : Int) then true else t == (1 : Int) then bif decide (sn < (1 : Int)) then true else decide (sn > (2147483647 : Int)) else false then true else bif s != (0 : Int) then bif t == (9 : Int) then bif true then sn == s else false else false else !t == (9 : Int)
theorem ev54 (s : Int) (d : List UInt8) (e : Bool) (t : Int) (g : Int) (sn : Int) (da : List UInt8) (pa : Int) (de : Int) (so : Bool) (we : Int) (co : Int) (la : Int) (inc : Int) (ps : List (List AV)) : evFun (cfg Try.prog tab 100000 (gk k29 30) noLsp 54 ([] : List Blk).length Try.f54.ntmps) Try.f54 [.agg [.int .i64 s, .str d, .bool e], .agg [.int .u8 t, .int .u8 g, .int .i64 sn, .str da, .int .i64 pa, .int .i64 de, .bool so, .int .u8 we, .int .u32 co, .int .i64 la, .int .i64 inc, .sl .imm [.int .u16, .int .u32] ps]] [] = bif true then some (AV.tup [AV.bool (vev54_0 s d e t g sn da pa de so we co la inc ps), AV.bool (vev54_1 s d e t g sn da pa de so we co la inc ps)], []) else none := by
  have h : evFun (cfg Try.prog tab 100000 (gk k29 30) noLsp 54 ([] : List Blk).length Try.f54.ntmps) Try.f54 [.agg [.int .i64 s, .str d, .bool e], .agg [.int .u8 t, .int .u8 g, .int .i64 sn, .str da, .int .i64 pa, .int .i64 de, .bool so, .int .u8 we, .int .u32 co, .int .i64 la, .int .i64 inc, .sl .imm [.int .u16, .int .u32] ps]] [] = bif bif t == (9 : Int) then true else true then bif bif bif t == (9 : Int) then true else bif false then true else t == (1 : Int) then bif decide (sn < (1 : Int)) then true else true else true then bif bif bif t == (9 : Int) then true else bif false then true else t == (1 : Int) then bif decide (sn < (1 : Int)) then bif true then true else false else bif true then bif false then true else decide (sn > (2147483647 : Int)) else false else false then some (AV.tup [AV.bool false, AV.bool true], []) else bif s != (0 : Int) then bif bif t == (9 : Int) then true else true then some (AV.tup [AV.bool (bif t == (9 : Int) then t == (9 : Int) else t == (9 : Int)), AV.bool (bif t == (9 : Int) then bif true then sn == s else false else false)], []) else none else some (AV.tup [AV.bool (bif t == (9 : Int) then true else bif false then true else t == (1 : Int)), AV.bool !t == (9 : Int)], []) else none else none := by kernel_rfl
  rw [h]
  clear h
  unfold vev54_0 vev54_1
  generalize (decide (sn < (1 : Int))) = c0
  generalize (decide (sn > (2147483647 : Int))) = c1
  generalize (t == (1 : Int)) = c2
  generalize (t == (9 : Int)) = c3
  generalize (s != (0 : Int)) = c4
  cases c3
  · skip
    cases c2
    · skip
      cases c4
      · skip
        rfl
      · skip
        rfl
    · skip
      cases c0
      · skip
        cases c1
        · skip
          cases c4
          · skip
            rfl
          · skip
            rfl
        · skip
          rfl
      · skip
        rfl
  · skip
    cases c0
    · skip
      cases c1
      · skip
        cases c4
        · skip
          rfl
        · skip
          rfl
      · skip
        rfl
    · skip
      rfl
-- spec true ;; (AV.tup [AV.bool (vev54_0 s d e t g sn da pa de so we co la inc ps), AV.bool (vev54_1 s d e t g sn da pa de so we co la inc ps)], [])
noncomputable def sp54 : List AV → List Blk → Option (Bool × AV × List Blk)
  | [.agg [.int .i64 s, .str d, .bool e], .agg [.int .u8 t, .int .u8 g, .int .i64 sn, .str da, .int .i64 pa, .int .i64 de, .bool so, .int .u8 we, .int .u32 co, .int .i64 la, .int .i64 inc, .sl .imm [.int .u16, .int .u32] ps]], [] => spW (true) (fin Try.prog (tab.frz 54) ([] : List Blk).length Try.f54.resultTypes.toList (some ((AV.tup [AV.bool (vev54_0 s d e t g sn da pa de so we co la inc ps), AV.bool (vev54_1 s d e t g sn da pa de so we co la inc ps)], []))))
  | _, _ => none
noncomputable def k54 : Gam := fun f T C => match Nat.beq f 54 with
  | true => (sp54 T C).or (k29 f T C)
  | false => k29 f T C
theorem k54_ok : GamOK Try.prog k54 := by
  intro f T C r outs h
  unfold k54 at h
  cases hf : Nat.beq f 54 with
  | false => rw [hf] at h; exact k29_ok f T C r outs h
  | true =>
    have hf' := Nat.eq_of_beq_eq_true hf
    subst hf'
    rw [hf] at h
    dsimp only at h
    cases hs : sp54 T C with
    | none => rw [hs] at h; exact k29_ok _ T C r outs h
    | some x =>
      rw [hs] at h
      have hx : x = (true, r, outs) := by simpa using h
      subst hx
      unfold sp54 at hs
      split at hs
      · rename_i s d e t g sn da pa de so we co la inc ps
        obtain ⟨hb, hs⟩ := spW_inv hs
        have he := ev54 s d e t g sn da pa de so we co la inc ps
        obtain ⟨h1, h2⟩ := fn_ok mixed plain (gk_ok k29_ok 30) Try.func54 (fun c _ => LoopsOK.none (fun _ _ => rfl) c) he
        exact ⟨h1, h2.fin hs⟩
      · cases hs
noncomputable def vev26_0 (s : Int) (d : List UInt8) (e : Bool) (t : Int) (g : Int) (sn : Int) (da : List UInt8) (pa : Int) (de : Int) (so : Bool) (we : Int) (co : Int) (la : Int) (inc : Int) (ps : List (List AV)) : Int := bif vev28_0 s d e != (0 : Int) then s else bif !vev54_1 s d e t g sn da pa de so we co la inc ps then s else bif !vev54_0 s d e t g sn da pa de so we co la inc ps then s else bif decide ((↑(d ++ da).length : Int) > (4096 : Int)) then s else bif bits BinOp.and IntKind.u8 g (4 : Int) != (0 : Int) then (0 : Int) else sn
noncomputable def vev26_1 (s : Int) (d : List UInt8) (e : Bool) (t : Int) (g : Int) (sn : Int) (da : List UInt8) (pa : Int) (de : Int) (so : Bool) (we : Int) (co : Int) (la : Int) (inc : Int) (ps : List (List AV)) : List UInt8 := bif vev28_0 s d e != (0 : Int) then d else bif !vev54_1 s d e t g sn da pa de so we co la inc ps then d else bif !vev54_0 s d e t g sn da pa de so we co la inc ps then d else bif decide ((↑(d ++ da).length : Int) > (4096 : Int)) then d else bif bits BinOp.and IntKind.u8 g (4 : Int) != (0 : Int) then (ByteArray.mk #[]).data.toList else d ++ da
noncomputable def vev26_2 (s : Int) (d : List UInt8) (e : Bool) (t : Int) (g : Int) (sn : Int) (da : List UInt8) (pa : Int) (de : Int) (so : Bool) (we : Int) (co : Int) (la : Int) (inc : Int) (ps : List (List AV)) : Bool := bif vev28_0 s d e != (0 : Int) then e else bif !vev54_1 s d e t g sn da pa de so we co la inc ps then e else bif !vev54_0 s d e t g sn da pa de so we co la inc ps then e else bif t == (1 : Int) then bif decide ((↑(d ++ da).length : Int) > (4096 : Int)) then e else bif bits BinOp.and IntKind.u8 g (4 : Int) != (0 : Int) then false else bits BinOp.and IntKind.u8 g (1 : Int) != (0 : Int) else bif decide ((↑(d ++ da).length : Int) > (4096 : Int)) then e else bif bits BinOp.and IntKind.u8 g (4 : Int) != (0 : Int) then false else e
noncomputable def vev26_3 (s : Int) (d : List UInt8) (e : Bool) (t : Int) (g : Int) (sn : Int) (da : List UInt8) (pa : Int) (de : Int) (so : Bool) (we : Int) (co : Int) (la : Int) (inc : Int) (ps : List (List AV)) : Int := bif vev28_0 s d e != (0 : Int) then (0 : Int) else bif !vev54_1 s d e t g sn da pa de so we co la inc ps then (0 : Int) else bif !vev54_0 s d e t g sn da pa de so we co la inc ps then (0 : Int) else bif decide ((↑(d ++ da).length : Int) > (4096 : Int)) then (0 : Int) else bif bits BinOp.and IntKind.u8 g (4 : Int) != (0 : Int) then sn else (0 : Int)
noncomputable def vev26_4 (s : Int) (d : List UInt8) (e : Bool) (t : Int) (g : Int) (sn : Int) (da : List UInt8) (pa : Int) (de : Int) (so : Bool) (we : Int) (co : Int) (la : Int) (inc : Int) (ps : List (List AV)) : List UInt8 := bif vev28_0 s d e != (0 : Int) then (ByteArray.mk #[]).data.toList else bif !vev54_1 s d e t g sn da pa de so we co la inc ps then (ByteArray.mk #[]).data.toList else bif !vev54_0 s d e t g sn da pa de so we co la inc ps then (ByteArray.mk #[]).data.toList else bif decide ((↑(d ++ da).length : Int) > (4096 : Int)) then (ByteArray.mk #[]).data.toList else bif bits BinOp.and IntKind.u8 g (4 : Int) != (0 : Int) then d ++ da else (ByteArray.mk #[]).data.toList
noncomputable def vev26_5 (s : Int) (d : List UInt8) (e : Bool) (t : Int) (g : Int) (sn : Int) (da : List UInt8) (pa : Int) (de : Int) (so : Bool) (we : Int) (co : Int) (la : Int) (inc : Int) (ps : List (List AV)) : Bool := bif vev28_0 s d e != (0 : Int) then false else bif !vev54_1 s d e t g sn da pa de so we co la inc ps then false else bif !vev54_0 s d e t g sn da pa de so we co la inc ps then false else bif t == (1 : Int) then bif decide ((↑(d ++ da).length : Int) > (4096 : Int)) then false else bif bits BinOp.and IntKind.u8 g (4 : Int) != (0 : Int) then bits BinOp.and IntKind.u8 g (1 : Int) != (0 : Int) else false else bif decide ((↑(d ++ da).length : Int) > (4096 : Int)) then false else bif bits BinOp.and IntKind.u8 g (4 : Int) != (0 : Int) then e else false
noncomputable def vev26_6 (s : Int) (d : List UInt8) (e : Bool) (t : Int) (g : Int) (sn : Int) (da : List UInt8) (pa : Int) (de : Int) (so : Bool) (we : Int) (co : Int) (la : Int) (inc : Int) (ps : List (List AV)) : Bool := bif vev28_0 s d e != (0 : Int) then false else bif !vev54_1 s d e t g sn da pa de so we co la inc ps then false else bif !vev54_0 s d e t g sn da pa de so we co la inc ps then false else bif decide ((↑(d ++ da).length : Int) > (4096 : Int)) then false else bif bits BinOp.and IntKind.u8 g (4 : Int) != (0 : Int) then true else false
noncomputable def vev26_7 (s : Int) (d : List UInt8) (e : Bool) (t : Int) (g : Int) (sn : Int) (da : List UInt8) (pa : Int) (de : Int) (so : Bool) (we : Int) (co : Int) (la : Int) (inc : Int) (ps : List (List AV)) : Int := bif vev28_0 s d e != (0 : Int) then (0 : Int) else bif !vev54_1 s d e t g sn da pa de so we co la inc ps then (1 : Int) else bif !vev54_0 s d e t g sn da pa de so we co la inc ps then (0 : Int) else bif decide ((↑(d ++ da).length : Int) > (4096 : Int)) then (11 : Int) else (0 : Int)
noncomputable def vev26_8 (s : Int) (d : List UInt8) (e : Bool) (t : Int) (g : Int) (sn : Int) (da : List UInt8) (pa : Int) (de : Int) (so : Bool) (we : Int) (co : Int) (la : Int) (inc : Int) (ps : List (List AV)) : Bool := bif vev28_0 s d e != (0 : Int) then true else bif !vev54_1 s d e t g sn da pa de so we co la inc ps then true else bif !vev54_0 s d e t g sn da pa de so we co la inc ps then true else bif decide (d.length + da.length ≤ (9223372036854775807 : Nat)) then true else false
theorem ev26 (s : Int) (d : List UInt8) (e : Bool) (t : Int) (g : Int) (sn : Int) (da : List UInt8) (pa : Int) (de : Int) (so : Bool) (we : Int) (co : Int) (la : Int) (inc : Int) (ps : List (List AV)) : evFun (cfg Try.prog tab 100000 (gk k54 30) noLsp 26 ([] : List Blk).length Try.f26.ntmps) Try.f26 [.agg [.int .i64 s, .str d, .bool e], .agg [.int .u8 t, .int .u8 g, .int .i64 sn, .str da, .int .i64 pa, .int .i64 de, .bool so, .int .u8 we, .int .u32 co, .int .i64 la, .int .i64 inc, .sl .imm [.int .u16, .int .u32] ps]] [] = bif vev26_8 s d e t g sn da pa de so we co la inc ps then some (AV.tup [AV.agg [AV.int IntKind.i64 (vev26_0 s d e t g sn da pa de so we co la inc ps), AV.str (vev26_1 s d e t g sn da pa de so we co la inc ps), AV.bool (vev26_2 s d e t g sn da pa de so we co la inc ps)], AV.agg [AV.int IntKind.i64 (vev26_3 s d e t g sn da pa de so we co la inc ps), AV.str (vev26_4 s d e t g sn da pa de so we co la inc ps), AV.bool (vev26_5 s d e t g sn da pa de so we co la inc ps)], AV.bool (vev26_6 s d e t g sn da pa de so we co la inc ps), AV.int IntKind.u32 (vev26_7 s d e t g sn da pa de so we co la inc ps)], []) else none := by
  have h : evFun (cfg Try.prog tab 100000 (gk k54 30) noLsp 26 ([] : List Blk).length Try.f26.ntmps) Try.f26 [.agg [.int .i64 s, .str d, .bool e], .agg [.int .u8 t, .int .u8 g, .int .i64 sn, .str da, .int .i64 pa, .int .i64 de, .bool so, .int .u8 we, .int .u32 co, .int .i64 la, .int .i64 inc, .sl .imm [.int .u16, .int .u32] ps]] [] = bif vev28_0 s d e != (0 : Int) then some (AV.tup [AV.agg [AV.int IntKind.i64 s, AV.str d, AV.bool e], AV.agg [AV.int IntKind.i64 (0 : Int), AV.str (ByteArray.mk #[]).data.toList, AV.bool false], AV.bool false, AV.int IntKind.u32 (0 : Int)], []) else bif !vev54_1 s d e t g sn da pa de so we co la inc ps then some (AV.tup [AV.agg [AV.int IntKind.i64 s, AV.str d, AV.bool e], AV.agg [AV.int IntKind.i64 (0 : Int), AV.str (ByteArray.mk #[]).data.toList, AV.bool false], AV.bool false, AV.int IntKind.u32 (1 : Int)], []) else bif !vev54_0 s d e t g sn da pa de so we co la inc ps then some (AV.tup [AV.agg [AV.int IntKind.i64 s, AV.str d, AV.bool e], AV.agg [AV.int IntKind.i64 (0 : Int), AV.str (ByteArray.mk #[]).data.toList, AV.bool false], AV.bool false, AV.int IntKind.u32 (0 : Int)], []) else bif decide (d.length + da.length ≤ (9223372036854775807 : Nat)) then bif t == (1 : Int) then bif decide ((↑(d ++ da).length : Int) > (4096 : Int)) then some (AV.tup [AV.agg [AV.int IntKind.i64 s, AV.str d, AV.bool e], AV.agg [AV.int IntKind.i64 (0 : Int), AV.str (ByteArray.mk #[]).data.toList, AV.bool false], AV.bool false, AV.int IntKind.u32 (11 : Int)], []) else bif bits BinOp.and IntKind.u8 g (4 : Int) != (0 : Int) then some (AV.tup [AV.agg [AV.int IntKind.i64 (0 : Int), AV.str (ByteArray.mk #[]).data.toList, AV.bool false], AV.agg [AV.int IntKind.i64 sn, AV.str (d ++ da), AV.bool (bits BinOp.and IntKind.u8 g (1 : Int) != (0 : Int))], AV.bool true, AV.int IntKind.u32 (0 : Int)], []) else some (AV.tup [AV.agg [AV.int IntKind.i64 sn, AV.str (d ++ da), AV.bool (bits BinOp.and IntKind.u8 g (1 : Int) != (0 : Int))], AV.agg [AV.int IntKind.i64 (0 : Int), AV.str (ByteArray.mk #[]).data.toList, AV.bool false], AV.bool false, AV.int IntKind.u32 (0 : Int)], []) else bif decide ((↑(d ++ da).length : Int) > (4096 : Int)) then some (AV.tup [AV.agg [AV.int IntKind.i64 s, AV.str d, AV.bool e], AV.agg [AV.int IntKind.i64 (0 : Int), AV.str (ByteArray.mk #[]).data.toList, AV.bool false], AV.bool false, AV.int IntKind.u32 (11 : Int)], []) else bif bits BinOp.and IntKind.u8 g (4 : Int) != (0 : Int) then some (AV.tup [AV.agg [AV.int IntKind.i64 (0 : Int), AV.str (ByteArray.mk #[]).data.toList, AV.bool false], AV.agg [AV.int IntKind.i64 sn, AV.str (d ++ da), AV.bool e], AV.bool true, AV.int IntKind.u32 (0 : Int)], []) else some (AV.tup [AV.agg [AV.int IntKind.i64 sn, AV.str (d ++ da), AV.bool e], AV.agg [AV.int IntKind.i64 (0 : Int), AV.str (ByteArray.mk #[]).data.toList, AV.bool false], AV.bool false, AV.int IntKind.u32 (0 : Int)], []) else none := by kernel_rfl
  rw [h]
  clear h
  unfold vev26_0 vev26_1 vev26_2 vev26_3 vev26_4 vev26_5 vev26_6 vev26_7 vev26_8
  generalize (decide ((↑(d ++ da).length : Int) > (4096 : Int))) = c0
  generalize (decide (d.length + da.length ≤ (9223372036854775807 : Nat))) = c1
  generalize (bits BinOp.and IntKind.u8 g (4 : Int) != (0 : Int)) = c2
  generalize (!vev54_1 s d e t g sn da pa de so we co la inc ps) = c3
  generalize (!vev54_0 s d e t g sn da pa de so we co la inc ps) = c4
  generalize (vev28_0 s d e != (0 : Int)) = c5
  generalize (t == (1 : Int)) = c6
  cases c5
  · skip
    cases c3
    · skip
      cases c4
      · skip
        cases c1
        · skip
          rfl
        · skip
          cases c6
          · skip
            cases c0
            · skip
              cases c2
              · skip
                rfl
              · skip
                rfl
            · skip
              rfl
          · skip
            cases c0
            · skip
              cases c2
              · skip
                rfl
              · skip
                rfl
            · skip
              rfl
      · skip
        rfl
    · skip
      rfl
  · skip
    rfl
-- spec vev26_8 s d e t g sn da pa de so we co la inc ps ;; (AV.tup [AV.agg [AV.int IntKind.i64 (vev26_0 s d e t g sn da pa de so we co la inc ps), AV.str (vev26_1 s d e t g sn da pa de so we co la inc ps), AV.bool (vev26_2 s d e t g sn da pa de so we co la inc ps)], AV.agg [AV.int IntKind.i64 (vev26_3 s d e t g sn da pa de so we co la inc ps), AV.str (vev26_4 s d e t g sn da pa de so we co la inc ps), AV.bool (vev26_5 s d e t g sn da pa de so we co la inc ps)], AV.bool (vev26_6 s d e t g sn da pa de so we co la inc ps), AV.int IntKind.u32 (vev26_7 s d e t g sn da pa de so we co la inc ps)], [])
noncomputable def sp26 : List AV → List Blk → Option (Bool × AV × List Blk)
  | [.agg [.int .i64 s, .str d, .bool e], .agg [.int .u8 t, .int .u8 g, .int .i64 sn, .str da, .int .i64 pa, .int .i64 de, .bool so, .int .u8 we, .int .u32 co, .int .i64 la, .int .i64 inc, .sl .imm [.int .u16, .int .u32] ps]], [] => spW (vev26_8 s d e t g sn da pa de so we co la inc ps) (fin Try.prog (tab.frz 26) ([] : List Blk).length Try.f26.resultTypes.toList (some ((AV.tup [AV.agg [AV.int IntKind.i64 (vev26_0 s d e t g sn da pa de so we co la inc ps), AV.str (vev26_1 s d e t g sn da pa de so we co la inc ps), AV.bool (vev26_2 s d e t g sn da pa de so we co la inc ps)], AV.agg [AV.int IntKind.i64 (vev26_3 s d e t g sn da pa de so we co la inc ps), AV.str (vev26_4 s d e t g sn da pa de so we co la inc ps), AV.bool (vev26_5 s d e t g sn da pa de so we co la inc ps)], AV.bool (vev26_6 s d e t g sn da pa de so we co la inc ps), AV.int IntKind.u32 (vev26_7 s d e t g sn da pa de so we co la inc ps)], []))))
  | _, _ => none
noncomputable def k26 : Gam := fun f T C => match Nat.beq f 26 with
  | true => (sp26 T C).or (k54 f T C)
  | false => k54 f T C
theorem k26_ok : GamOK Try.prog k26 := by
  intro f T C r outs h
  unfold k26 at h
  cases hf : Nat.beq f 26 with
  | false => rw [hf] at h; exact k54_ok f T C r outs h
  | true =>
    have hf' := Nat.eq_of_beq_eq_true hf
    subst hf'
    rw [hf] at h
    dsimp only at h
    cases hs : sp26 T C with
    | none => rw [hs] at h; exact k54_ok _ T C r outs h
    | some x =>
      rw [hs] at h
      have hx : x = (true, r, outs) := by simpa using h
      subst hx
      unfold sp26 at hs
      split at hs
      · rename_i s d e t g sn da pa de so we co la inc ps
        obtain ⟨hb, hs⟩ := spW_inv hs
        have he := ev26 s d e t g sn da pa de so we co la inc ps
        rw [hb] at he
        obtain ⟨h1, h2⟩ := fn_ok mixed plain (gk_ok k54_ok 30) Try.func26 (fun c _ => LoopsOK.none (fun _ _ => rfl) c) he
        exact ⟨h1, h2.fin hs⟩
      · cases hs
noncomputable def vev55a_0 (f : Int) : Bool := bif f.tmod (2 : Int) == (0 : Int) then false else true
theorem ev55a (f : Int) : evFun (cfg Try.prog tab 100000 (gk k26 30) noLsp 55 ([] : List Blk).length Try.f55.ntmps) Try.f55 [.int .u8 f, .int .u8 1] [] = some (AV.bool (vev55a_0 f), []) := by
  have h : evFun (cfg Try.prog tab 100000 (gk k26 30) noLsp 55 ([] : List Blk).length Try.f55.ntmps) Try.f55 [.int .u8 f, .int .u8 1] [] = bif bif true then f.tmod (2 : Int) == (0 : Int) else false then some (AV.bool false, []) else some (AV.bool true, []) := by kernel_rfl
  rw [h]
  clear h
  unfold vev55a_0
  generalize (f.tmod (2 : Int) == (0 : Int)) = c0
  cases c0
  · skip
    rfl
  · skip
    rfl
-- spec true ;; (AV.bool (vev55a_0 f), [])
noncomputable def sp55a : List AV → List Blk → Option (Bool × AV × List Blk)
  | [.int .u8 f, .int .u8 1], [] => spW (true) (fin Try.prog (tab.frz 55) ([] : List Blk).length Try.f55.resultTypes.toList (some ((AV.bool (vev55a_0 f), []))))
  | _, _ => none
noncomputable def k55a : Gam := fun f T C => match Nat.beq f 55 with
  | true => (sp55a T C).or (k26 f T C)
  | false => k26 f T C
theorem k55a_ok : GamOK Try.prog k55a := by
  intro f T C r outs h
  unfold k55a at h
  cases hf : Nat.beq f 55 with
  | false => rw [hf] at h; exact k26_ok f T C r outs h
  | true =>
    have hf' := Nat.eq_of_beq_eq_true hf
    subst hf'
    rw [hf] at h
    dsimp only at h
    cases hs : sp55a T C with
    | none => rw [hs] at h; exact k26_ok _ T C r outs h
    | some x =>
      rw [hs] at h
      have hx : x = (true, r, outs) := by simpa using h
      subst hx
      unfold sp55a at hs
      split at hs
      · rename_i f
        obtain ⟨hb, hs⟩ := spW_inv hs
        have he := ev55a f
        obtain ⟨h1, h2⟩ := fn_ok mixed plain (gk_ok k26_ok 30) Try.func55 (fun c _ => LoopsOK.none (fun _ _ => rfl) c) he
        exact ⟨h1, h2.fin hs⟩
      · cases hs
noncomputable def vev55b_0 (f : Int) : Bool := bif (IntKind.u8.wrap ((IntKind.u8.wrap (f.tdiv (2 : Int))).tdiv (2 : Int))).tmod (2 : Int) == (0 : Int) then false else true
theorem ev55b (f : Int) : evFun (cfg Try.prog tab 100000 (gk k55a 30) noLsp 55 ([] : List Blk).length Try.f55.ntmps) Try.f55 [.int .u8 f, .int .u8 4] [] = some (AV.bool (vev55b_0 f), []) := by
  have h : evFun (cfg Try.prog tab 100000 (gk k55a 30) noLsp 55 ([] : List Blk).length Try.f55.ntmps) Try.f55 [.int .u8 f, .int .u8 4] [] = bif bif true then (IntKind.u8.wrap ((IntKind.u8.wrap (f.tdiv (2 : Int))).tdiv (2 : Int))).tmod (2 : Int) == (0 : Int) else false then some (AV.bool false, []) else some (AV.bool true, []) := by kernel_rfl
  rw [h]
  clear h
  unfold vev55b_0
  generalize ((IntKind.u8.wrap ((IntKind.u8.wrap (f.tdiv (2 : Int))).tdiv (2 : Int))).tmod (2 : Int) == (0 : Int)) = c0
  cases c0
  · skip
    rfl
  · skip
    rfl
-- spec true ;; (AV.bool (vev55b_0 f), [])
noncomputable def sp55b : List AV → List Blk → Option (Bool × AV × List Blk)
  | [.int .u8 f, .int .u8 4], [] => spW (true) (fin Try.prog (tab.frz 55) ([] : List Blk).length Try.f55.resultTypes.toList (some ((AV.bool (vev55b_0 f), []))))
  | _, _ => none
noncomputable def k55b : Gam := fun f T C => match Nat.beq f 55 with
  | true => (sp55b T C).or (k55a f T C)
  | false => k55a f T C
theorem k55b_ok : GamOK Try.prog k55b := by
  intro f T C r outs h
  unfold k55b at h
  cases hf : Nat.beq f 55 with
  | false => rw [hf] at h; exact k55a_ok f T C r outs h
  | true =>
    have hf' := Nat.eq_of_beq_eq_true hf
    subst hf'
    rw [hf] at h
    dsimp only at h
    cases hs : sp55b T C with
    | none => rw [hs] at h; exact k55a_ok _ T C r outs h
    | some x =>
      rw [hs] at h
      have hx : x = (true, r, outs) := by simpa using h
      subst hx
      unfold sp55b at hs
      split at hs
      · rename_i f
        obtain ⟨hb, hs⟩ := spW_inv hs
        have he := ev55b f
        obtain ⟨h1, h2⟩ := fn_ok mixed plain (gk_ok k55a_ok 30) Try.func55 (fun c _ => LoopsOK.none (fun _ _ => rfl) c) he
        exact ⟨h1, h2.fin hs⟩
      · cases hs
noncomputable def vev27_0 (s : Int) (d : List UInt8) (e : Bool) (t : Int) (g : Int) (sn : Int) (da : List UInt8) (pa : Int) (de : Int) (so : Bool) (we : Int) (co : Int) (la : Int) (inc : Int) (ps : List (List AV)) : Int := bif bif vev29_0 s d e != (0 : Int) then true else bif bif t == (1 : Int) then true else t == (9 : Int) then bif decide (sn < (1 : Int)) then true else decide (sn > (2147483647 : Int)) else false then s else bif bif s != (0 : Int) then bif t != (9 : Int) then true else sn != s else false then s else bif bif s == (0 : Int) then t == (9 : Int) else false then s else bif bif bif t == (1 : Int) then true else t == (9 : Int) then false else true then s else bif decide ((↑(d ++ da).length : Int) > (4096 : Int)) then s else bif vev55b_0 g then (0 : Int) else sn
noncomputable def vev27_1 (s : Int) (d : List UInt8) (e : Bool) (t : Int) (g : Int) (sn : Int) (da : List UInt8) (pa : Int) (de : Int) (so : Bool) (we : Int) (co : Int) (la : Int) (inc : Int) (ps : List (List AV)) : List UInt8 := bif bif vev29_0 s d e != (0 : Int) then true else bif bif t == (1 : Int) then true else t == (9 : Int) then bif decide (sn < (1 : Int)) then true else decide (sn > (2147483647 : Int)) else false then d else bif bif s != (0 : Int) then bif t != (9 : Int) then true else sn != s else false then d else bif bif s == (0 : Int) then t == (9 : Int) else false then d else bif bif bif t == (1 : Int) then true else t == (9 : Int) then false else true then d else bif decide ((↑(d ++ da).length : Int) > (4096 : Int)) then d else bif vev55b_0 g then (ByteArray.mk #[]).data.toList else d ++ da
noncomputable def vev27_2 (s : Int) (d : List UInt8) (e : Bool) (t : Int) (g : Int) (sn : Int) (da : List UInt8) (pa : Int) (de : Int) (so : Bool) (we : Int) (co : Int) (la : Int) (inc : Int) (ps : List (List AV)) : Bool := bif bif vev29_0 s d e != (0 : Int) then true else bif bif t == (1 : Int) then true else t == (9 : Int) then bif decide (sn < (1 : Int)) then true else decide (sn > (2147483647 : Int)) else false then e else bif bif s != (0 : Int) then bif t != (9 : Int) then true else sn != s else false then e else bif bif s == (0 : Int) then t == (9 : Int) else false then e else bif bif bif t == (1 : Int) then true else t == (9 : Int) then false else true then e else bif t == (1 : Int) then bif decide ((↑(d ++ da).length : Int) > (4096 : Int)) then e else bif vev55b_0 g then false else vev55a_0 g else bif decide ((↑(d ++ da).length : Int) > (4096 : Int)) then e else bif vev55b_0 g then false else e
noncomputable def vev27_3 (s : Int) (d : List UInt8) (e : Bool) (t : Int) (g : Int) (sn : Int) (da : List UInt8) (pa : Int) (de : Int) (so : Bool) (we : Int) (co : Int) (la : Int) (inc : Int) (ps : List (List AV)) : Int := bif bif vev29_0 s d e != (0 : Int) then true else bif bif t == (1 : Int) then true else t == (9 : Int) then bif decide (sn < (1 : Int)) then true else decide (sn > (2147483647 : Int)) else false then (0 : Int) else bif bif s != (0 : Int) then bif t != (9 : Int) then true else sn != s else false then (0 : Int) else bif bif s == (0 : Int) then t == (9 : Int) else false then (0 : Int) else bif bif bif t == (1 : Int) then true else t == (9 : Int) then false else true then (0 : Int) else bif decide ((↑(d ++ da).length : Int) > (4096 : Int)) then (0 : Int) else bif vev55b_0 g then sn else (0 : Int)
noncomputable def vev27_4 (s : Int) (d : List UInt8) (e : Bool) (t : Int) (g : Int) (sn : Int) (da : List UInt8) (pa : Int) (de : Int) (so : Bool) (we : Int) (co : Int) (la : Int) (inc : Int) (ps : List (List AV)) : List UInt8 := bif bif vev29_0 s d e != (0 : Int) then true else bif bif t == (1 : Int) then true else t == (9 : Int) then bif decide (sn < (1 : Int)) then true else decide (sn > (2147483647 : Int)) else false then (ByteArray.mk #[]).data.toList else bif bif s != (0 : Int) then bif t != (9 : Int) then true else sn != s else false then (ByteArray.mk #[]).data.toList else bif bif s == (0 : Int) then t == (9 : Int) else false then (ByteArray.mk #[]).data.toList else bif bif bif t == (1 : Int) then true else t == (9 : Int) then false else true then (ByteArray.mk #[]).data.toList else bif decide ((↑(d ++ da).length : Int) > (4096 : Int)) then (ByteArray.mk #[]).data.toList else bif vev55b_0 g then d ++ da else (ByteArray.mk #[]).data.toList
noncomputable def vev27_5 (s : Int) (d : List UInt8) (e : Bool) (t : Int) (g : Int) (sn : Int) (da : List UInt8) (pa : Int) (de : Int) (so : Bool) (we : Int) (co : Int) (la : Int) (inc : Int) (ps : List (List AV)) : Bool := bif bif vev29_0 s d e != (0 : Int) then true else bif bif t == (1 : Int) then true else t == (9 : Int) then bif decide (sn < (1 : Int)) then true else decide (sn > (2147483647 : Int)) else false then false else bif bif s != (0 : Int) then bif t != (9 : Int) then true else sn != s else false then false else bif bif s == (0 : Int) then t == (9 : Int) else false then false else bif bif bif t == (1 : Int) then true else t == (9 : Int) then false else true then false else bif t == (1 : Int) then bif decide ((↑(d ++ da).length : Int) > (4096 : Int)) then false else bif vev55b_0 g then vev55a_0 g else false else bif decide ((↑(d ++ da).length : Int) > (4096 : Int)) then false else bif vev55b_0 g then e else false
noncomputable def vev27_6 (s : Int) (d : List UInt8) (e : Bool) (t : Int) (g : Int) (sn : Int) (da : List UInt8) (pa : Int) (de : Int) (so : Bool) (we : Int) (co : Int) (la : Int) (inc : Int) (ps : List (List AV)) : Bool := bif bif vev29_0 s d e != (0 : Int) then true else bif bif t == (1 : Int) then true else t == (9 : Int) then bif decide (sn < (1 : Int)) then true else decide (sn > (2147483647 : Int)) else false then false else bif bif s != (0 : Int) then bif t != (9 : Int) then true else sn != s else false then false else bif bif s == (0 : Int) then t == (9 : Int) else false then false else bif bif bif t == (1 : Int) then true else t == (9 : Int) then false else true then false else bif decide ((↑(d ++ da).length : Int) > (4096 : Int)) then false else bif vev55b_0 g then true else false
noncomputable def vev27_7 (s : Int) (d : List UInt8) (e : Bool) (t : Int) (g : Int) (sn : Int) (da : List UInt8) (pa : Int) (de : Int) (so : Bool) (we : Int) (co : Int) (la : Int) (inc : Int) (ps : List (List AV)) : Int := bif bif vev29_0 s d e != (0 : Int) then true else bif bif t == (1 : Int) then true else t == (9 : Int) then bif decide (sn < (1 : Int)) then true else decide (sn > (2147483647 : Int)) else false then (0 : Int) else bif bif s != (0 : Int) then bif t != (9 : Int) then true else sn != s else false then (1 : Int) else bif bif s == (0 : Int) then t == (9 : Int) else false then (1 : Int) else bif bif bif t == (1 : Int) then true else t == (9 : Int) then false else true then (0 : Int) else bif decide ((↑(d ++ da).length : Int) > (4096 : Int)) then (11 : Int) else (0 : Int)
noncomputable def vev27_8 (s : Int) (d : List UInt8) (e : Bool) (t : Int) (g : Int) (sn : Int) (da : List UInt8) (pa : Int) (de : Int) (so : Bool) (we : Int) (co : Int) (la : Int) (inc : Int) (ps : List (List AV)) : Bool := bif bif vev29_0 s d e != (0 : Int) then true else bif bif t == (1 : Int) then true else t == (9 : Int) then bif decide (sn < (1 : Int)) then true else decide (sn > (2147483647 : Int)) else false then true else bif bif s != (0 : Int) then bif t != (9 : Int) then true else sn != s else false then true else bif bif s == (0 : Int) then t == (9 : Int) else false then true else bif bif bif t == (1 : Int) then true else t == (9 : Int) then false else true then true else bif decide (d.length + da.length ≤ (9223372036854775807 : Nat)) then true else false
theorem ev27 (s : Int) (d : List UInt8) (e : Bool) (t : Int) (g : Int) (sn : Int) (da : List UInt8) (pa : Int) (de : Int) (so : Bool) (we : Int) (co : Int) (la : Int) (inc : Int) (ps : List (List AV)) : evFun (cfg Try.prog tab 100000 (gk k55b 30) noLsp 27 ([] : List Blk).length Try.f27.ntmps) Try.f27 [.agg [.int .i64 s, .str d, .bool e], .agg [.int .u8 t, .int .u8 g, .int .i64 sn, .str da, .int .i64 pa, .int .i64 de, .bool so, .int .u8 we, .int .u32 co, .int .i64 la, .int .i64 inc, .sl .imm [.int .u16, .int .u32] ps]] [] = bif vev27_8 s d e t g sn da pa de so we co la inc ps then some (AV.tup [AV.agg [AV.int IntKind.i64 (vev27_0 s d e t g sn da pa de so we co la inc ps), AV.str (vev27_1 s d e t g sn da pa de so we co la inc ps), AV.bool (vev27_2 s d e t g sn da pa de so we co la inc ps)], AV.agg [AV.int IntKind.i64 (vev27_3 s d e t g sn da pa de so we co la inc ps), AV.str (vev27_4 s d e t g sn da pa de so we co la inc ps), AV.bool (vev27_5 s d e t g sn da pa de so we co la inc ps)], AV.bool (vev27_6 s d e t g sn da pa de so we co la inc ps), AV.int IntKind.i64 (vev27_7 s d e t g sn da pa de so we co la inc ps)], []) else none := by
  have h : evFun (cfg Try.prog tab 100000 (gk k55b 30) noLsp 27 ([] : List Blk).length Try.f27.ntmps) Try.f27 [.agg [.int .i64 s, .str d, .bool e], .agg [.int .u8 t, .int .u8 g, .int .i64 sn, .str da, .int .i64 pa, .int .i64 de, .bool so, .int .u8 we, .int .u32 co, .int .i64 la, .int .i64 inc, .sl .imm [.int .u16, .int .u32] ps]] [] = bif bif t == (1 : Int) then true else true then bif bif vev29_0 s d e != (0 : Int) then true else bif bif t == (1 : Int) then true else bif false then true else t == (9 : Int) then bif decide (sn < (1 : Int)) then true else true else true then bif bif vev29_0 s d e != (0 : Int) then true else bif bif t == (1 : Int) then true else bif false then true else t == (9 : Int) then bif decide (sn < (1 : Int)) then bif false then true else bif true then true else false else bif false then true else bif true then bif false then true else decide (sn > (2147483647 : Int)) else false else bif false then true else false then some (AV.tup [AV.agg [AV.int IntKind.i64 s, AV.str d, AV.bool e], AV.agg [AV.int IntKind.i64 (0 : Int), AV.str (ByteArray.mk #[]).data.toList, AV.bool false], AV.bool false, AV.int IntKind.i64 (0 : Int)], []) else bif bif s != (0 : Int) then bif t != (9 : Int) then true else true else true then bif bif s != (0 : Int) then bif t != (9 : Int) then bif true then true else false else bif true then bif false then true else sn != s else false else false then some (AV.tup [AV.agg [AV.int IntKind.i64 s, AV.str d, AV.bool e], AV.agg [AV.int IntKind.i64 (0 : Int), AV.str (ByteArray.mk #[]).data.toList, AV.bool false], AV.bool false, AV.int IntKind.i64 (1 : Int)], []) else bif bif s == (0 : Int) then true else true then bif bif s == (0 : Int) then bif true then t == (9 : Int) else false else false then some (AV.tup [AV.agg [AV.int IntKind.i64 s, AV.str d, AV.bool e], AV.agg [AV.int IntKind.i64 (0 : Int), AV.str (ByteArray.mk #[]).data.toList, AV.bool false], AV.bool false, AV.int IntKind.i64 (1 : Int)], []) else bif bif bif t == (1 : Int) then true else bif false then true else t == (9 : Int) then false else true then some (AV.tup [AV.agg [AV.int IntKind.i64 s, AV.str d, AV.bool e], AV.agg [AV.int IntKind.i64 (0 : Int), AV.str (ByteArray.mk #[]).data.toList, AV.bool false], AV.bool false, AV.int IntKind.i64 (0 : Int)], []) else bif decide (d.length + da.length ≤ (9223372036854775807 : Nat)) then bif t == (1 : Int) then bif decide ((↑(d ++ da).length : Int) > (4096 : Int)) then some (AV.tup [AV.agg [AV.int IntKind.i64 s, AV.str d, AV.bool e], AV.agg [AV.int IntKind.i64 (0 : Int), AV.str (ByteArray.mk #[]).data.toList, AV.bool false], AV.bool false, AV.int IntKind.i64 (11 : Int)], []) else bif vev55b_0 g then some (AV.tup [AV.agg [AV.int IntKind.i64 (0 : Int), AV.str (ByteArray.mk #[]).data.toList, AV.bool false], AV.agg [AV.int IntKind.i64 sn, AV.str (d ++ da), AV.bool (vev55a_0 g)], AV.bool true, AV.int IntKind.i64 (0 : Int)], []) else some (AV.tup [AV.agg [AV.int IntKind.i64 sn, AV.str (d ++ da), AV.bool (vev55a_0 g)], AV.agg [AV.int IntKind.i64 (0 : Int), AV.str (ByteArray.mk #[]).data.toList, AV.bool false], AV.bool false, AV.int IntKind.i64 (0 : Int)], []) else bif decide ((↑(d ++ da).length : Int) > (4096 : Int)) then some (AV.tup [AV.agg [AV.int IntKind.i64 s, AV.str d, AV.bool e], AV.agg [AV.int IntKind.i64 (0 : Int), AV.str (ByteArray.mk #[]).data.toList, AV.bool false], AV.bool false, AV.int IntKind.i64 (11 : Int)], []) else bif vev55b_0 g then some (AV.tup [AV.agg [AV.int IntKind.i64 (0 : Int), AV.str (ByteArray.mk #[]).data.toList, AV.bool false], AV.agg [AV.int IntKind.i64 sn, AV.str (d ++ da), AV.bool e], AV.bool true, AV.int IntKind.i64 (0 : Int)], []) else some (AV.tup [AV.agg [AV.int IntKind.i64 sn, AV.str (d ++ da), AV.bool e], AV.agg [AV.int IntKind.i64 (0 : Int), AV.str (ByteArray.mk #[]).data.toList, AV.bool false], AV.bool false, AV.int IntKind.i64 (0 : Int)], []) else none else none else none else none else none := by kernel_rfl
  rw [h]
  clear h
  unfold vev27_0 vev27_1 vev27_2 vev27_3 vev27_4 vev27_5 vev27_6 vev27_7 vev27_8
  generalize (decide ((↑(d ++ da).length : Int) > (4096 : Int))) = c0
  generalize (decide (d.length + da.length ≤ (9223372036854775807 : Nat))) = c1
  generalize (decide (sn > (2147483647 : Int))) = c2
  generalize (decide (sn < (1 : Int))) = c3
  generalize (vev29_0 s d e != (0 : Int)) = c4
  generalize (t != (9 : Int)) = c5
  generalize (t == (1 : Int)) = c6
  generalize (t == (9 : Int)) = c7
  generalize (s == (0 : Int)) = c8
  generalize (s != (0 : Int)) = c9
  generalize (sn != s) = c10
  generalize (vev55b_0 g) = c11
  cases c6
  · skip
    cases c4
    · skip
      cases c7
      · skip
        cases c9
        · skip
          cases c8
          · skip
            rfl
          · skip
            rfl
        · skip
          cases c5
          · skip
            cases c10
            · skip
              cases c8
              · skip
                rfl
              · skip
                rfl
            · skip
              rfl
          · skip
            rfl
      · skip
        cases c3
        · skip
          cases c2
          · skip
            cases c9
            · skip
              cases c8
              · skip
                cases c1
                · skip
                  rfl
                · skip
                  cases c0
                  · skip
                    cases c11
                    · skip
                      rfl
                    · skip
                      rfl
                  · skip
                    rfl
              · skip
                rfl
            · skip
              cases c5
              · skip
                cases c10
                · skip
                  cases c8
                  · skip
                    cases c1
                    · skip
                      rfl
                    · skip
                      cases c0
                      · skip
                        cases c11
                        · skip
                          rfl
                        · skip
                          rfl
                      · skip
                        rfl
                  · skip
                    rfl
                · skip
                  rfl
              · skip
                rfl
          · skip
            rfl
        · skip
          rfl
    · skip
      rfl
  · skip
    cases c4
    · skip
      cases c3
      · skip
        cases c2
        · skip
          cases c9
          · skip
            cases c8
            · skip
              cases c1
              · skip
                rfl
              · skip
                cases c0
                · skip
                  cases c11
                  · skip
                    rfl
                  · skip
                    rfl
                · skip
                  rfl
            · skip
              cases c7
              · skip
                cases c1
                · skip
                  rfl
                · skip
                  cases c0
                  · skip
                    cases c11
                    · skip
                      rfl
                    · skip
                      rfl
                  · skip
                    rfl
              · skip
                rfl
          · skip
            cases c5
            · skip
              cases c10
              · skip
                cases c8
                · skip
                  cases c1
                  · skip
                    rfl
                  · skip
                    cases c0
                    · skip
                      cases c11
                      · skip
                        rfl
                      · skip
                        rfl
                    · skip
                      rfl
                · skip
                  cases c7
                  · skip
                    cases c1
                    · skip
                      rfl
                    · skip
                      cases c0
                      · skip
                        cases c11
                        · skip
                          rfl
                        · skip
                          rfl
                      · skip
                        rfl
                  · skip
                    rfl
              · skip
                rfl
            · skip
              rfl
        · skip
          rfl
      · skip
        rfl
    · skip
      rfl
-- spec vev27_8 s d e t g sn da pa de so we co la inc ps ;; (AV.tup [AV.agg [AV.int IntKind.i64 (vev27_0 s d e t g sn da pa de so we co la inc ps), AV.str (vev27_1 s d e t g sn da pa de so we co la inc ps), AV.bool (vev27_2 s d e t g sn da pa de so we co la inc ps)], AV.agg [AV.int IntKind.i64 (vev27_3 s d e t g sn da pa de so we co la inc ps), AV.str (vev27_4 s d e t g sn da pa de so we co la inc ps), AV.bool (vev27_5 s d e t g sn da pa de so we co la inc ps)], AV.bool (vev27_6 s d e t g sn da pa de so we co la inc ps), AV.int IntKind.i64 (vev27_7 s d e t g sn da pa de so we co la inc ps)], [])
noncomputable def sp27 : List AV → List Blk → Option (Bool × AV × List Blk)
  | [.agg [.int .i64 s, .str d, .bool e], .agg [.int .u8 t, .int .u8 g, .int .i64 sn, .str da, .int .i64 pa, .int .i64 de, .bool so, .int .u8 we, .int .u32 co, .int .i64 la, .int .i64 inc, .sl .imm [.int .u16, .int .u32] ps]], [] => spW (vev27_8 s d e t g sn da pa de so we co la inc ps) (fin Try.prog (tab.frz 27) ([] : List Blk).length Try.f27.resultTypes.toList (some ((AV.tup [AV.agg [AV.int IntKind.i64 (vev27_0 s d e t g sn da pa de so we co la inc ps), AV.str (vev27_1 s d e t g sn da pa de so we co la inc ps), AV.bool (vev27_2 s d e t g sn da pa de so we co la inc ps)], AV.agg [AV.int IntKind.i64 (vev27_3 s d e t g sn da pa de so we co la inc ps), AV.str (vev27_4 s d e t g sn da pa de so we co la inc ps), AV.bool (vev27_5 s d e t g sn da pa de so we co la inc ps)], AV.bool (vev27_6 s d e t g sn da pa de so we co la inc ps), AV.int IntKind.i64 (vev27_7 s d e t g sn da pa de so we co la inc ps)], []))))
  | _, _ => none
noncomputable def k27 : Gam := fun f T C => match Nat.beq f 27 with
  | true => (sp27 T C).or (k55b f T C)
  | false => k55b f T C
theorem k27_ok : GamOK Try.prog k27 := by
  intro f T C r outs h
  unfold k27 at h
  cases hf : Nat.beq f 27 with
  | false => rw [hf] at h; exact k55b_ok f T C r outs h
  | true =>
    have hf' := Nat.eq_of_beq_eq_true hf
    subst hf'
    rw [hf] at h
    dsimp only at h
    cases hs : sp27 T C with
    | none => rw [hs] at h; exact k55b_ok _ T C r outs h
    | some x =>
      rw [hs] at h
      have hx : x = (true, r, outs) := by simpa using h
      subst hx
      unfold sp27 at hs
      split at hs
      · rename_i s d e t g sn da pa de so we co la inc ps
        obtain ⟨hb, hs⟩ := spW_inv hs
        have he := ev27 s d e t g sn da pa de so we co la inc ps
        rw [hb] at he
        obtain ⟨h1, h2⟩ := fn_ok mixed plain (gk_ok k55b_ok 30) Try.func27 (fun c _ => LoopsOK.none (fun _ _ => rfl) c) he
        exact ⟨h1, h2.fin hs⟩
      · cases hs
noncomputable def vev30_0 (s : Int) (d : List UInt8) (e : Bool) : Bool := s != (0 : Int)
theorem ev30 (s : Int) (d : List UInt8) (e : Bool) : evFun (cfg Try.prog tab 100000 (gk k27 30) noLsp 30 ([] : List Blk).length Try.f30.ntmps) Try.f30 [.agg [.int .i64 s, .str d, .bool e]] [] = some (AV.bool (vev30_0 s d e), []) := by kernel_rfl
-- spec true ;; (AV.bool (vev30_0 s d e), [])
noncomputable def sp30 : List AV → List Blk → Option (Bool × AV × List Blk)
  | [.agg [.int .i64 s, .str d, .bool e]], [] => spW (true) (fin Try.prog (tab.frz 30) ([] : List Blk).length Try.f30.resultTypes.toList (some ((AV.bool (vev30_0 s d e), []))))
  | _, _ => none
noncomputable def k30 : Gam := fun f T C => match Nat.beq f 30 with
  | true => (sp30 T C).or (k27 f T C)
  | false => k27 f T C
theorem k30_ok : GamOK Try.prog k30 := by
  intro f T C r outs h
  unfold k30 at h
  cases hf : Nat.beq f 30 with
  | false => rw [hf] at h; exact k27_ok f T C r outs h
  | true =>
    have hf' := Nat.eq_of_beq_eq_true hf
    subst hf'
    rw [hf] at h
    dsimp only at h
    cases hs : sp30 T C with
    | none => rw [hs] at h; exact k27_ok _ T C r outs h
    | some x =>
      rw [hs] at h
      have hx : x = (true, r, outs) := by simpa using h
      subst hx
      unfold sp30 at hs
      split at hs
      · rename_i s d e
        obtain ⟨hb, hs⟩ := spW_inv hs
        have he := ev30 s d e
        obtain ⟨h1, h2⟩ := fn_ok mixed plain (gk_ok k27_ok 30) Try.func30 (fun c _ => LoopsOK.none (fun _ _ => rfl) c) he
        exact ⟨h1, h2.fin hs⟩
      · cases hs
noncomputable def vev31_0 (s : Int) (d : List UInt8) (e : Bool) (s2 : Int) (d2 : List UInt8) (e2 : Bool) : Bool := s == s2 && (d == d2 && (e == e2 && true))
theorem ev31 (s : Int) (d : List UInt8) (e : Bool) (s2 : Int) (d2 : List UInt8) (e2 : Bool) : evFun (cfg Try.prog tab 100000 (gk k30 30) noLsp 31 ([] : List Blk).length Try.f31.ntmps) Try.f31 [.agg [.int .i64 s, .str d, .bool e], .agg [.int .i64 s2, .str d2, .bool e2]] [] = some (AV.bool (vev31_0 s d e s2 d2 e2), []) := by kernel_rfl
-- spec true ;; (AV.bool (vev31_0 s d e s2 d2 e2), [])
noncomputable def sp31 : List AV → List Blk → Option (Bool × AV × List Blk)
  | [.agg [.int .i64 s, .str d, .bool e], .agg [.int .i64 s2, .str d2, .bool e2]], [] => spW (true) (fin Try.prog (tab.frz 31) ([] : List Blk).length Try.f31.resultTypes.toList (some ((AV.bool (vev31_0 s d e s2 d2 e2), []))))
  | _, _ => none
noncomputable def k31 : Gam := fun f T C => match Nat.beq f 31 with
  | true => (sp31 T C).or (k30 f T C)
  | false => k30 f T C
theorem k31_ok : GamOK Try.prog k31 := by
  intro f T C r outs h
  unfold k31 at h
  cases hf : Nat.beq f 31 with
  | false => rw [hf] at h; exact k30_ok f T C r outs h
  | true =>
    have hf' := Nat.eq_of_beq_eq_true hf
    subst hf'
    rw [hf] at h
    dsimp only at h
    cases hs : sp31 T C with
    | none => rw [hs] at h; exact k30_ok _ T C r outs h
    | some x =>
      rw [hs] at h
      have hx : x = (true, r, outs) := by simpa using h
      subst hx
      unfold sp31 at hs
      split at hs
      · rename_i s d e s2 d2 e2
        obtain ⟨hb, hs⟩ := spW_inv hs
        have he := ev31 s d e s2 d2 e2
        obtain ⟨h1, h2⟩ := fn_ok mixed plain (gk_ok k30_ok 30) Try.func31 (fun c _ => LoopsOK.none (fun _ _ => rfl) c) he
        exact ⟨h1, h2.fin hs⟩
      · cases hs
end Go.Proofs.Gv
