import Derived.Test.YthnbpgiohimkoaaPw43
import Derived.Test.YthnbpgiohimkoaaPw44
import Derived.Test.YthnbpgiohimkoaaPw35
set_option linter.unusedVariables false
namespace Go.Proofs.Gv
open Go.RowKit
set_option maxRecDepth 20000
abbrev kdT : List Kd := [.int .i64, .int .i64, .int .i64, .int .i64, .int .i64, .int .i64, .sl [.int .i64, .int .i64, .int .i64, .int .i64]]
abbrev schC (q lim : Int) (order ready : List (List AV)) (t k : Int) (es : List (List AV)) : List Blk := [.var [.int .i64 q, .int .i64 lim, .rf 1 [.int .i64], .mp 2 kdT, .sl .imm [.int .i64, .int .i64] ready, .int .i64 t, .int .i64 k], .row [.int .i64] order, .tbl kdT es none]
abbrev FSt := (List (List AV) × List (List AV) × Int) × (List (List AV) × Int × Int × List (List AV)) × List (List AV)
noncomputable def fold39 (q lim : Int) (order : List (List AV)) : List (List AV) → List (List AV) → List (List AV) → Int → List (List AV) → Int → Int → List (List AV) → Option FSt
 | [], us, ss, d, ready, t, k, es => some ((us, ss, d), (ready, t, k, es), [])
 | r :: l, us, ss, d, ready, t, k, es => match r with
   | [.int .i64 w] => match vev39_12 us ss d w q lim t k order es ready with
     | true => match fold39 q lim order l (vev39_0 us ss d w q lim t k order es ready) (vev39_1 us ss d w q lim t k order es ready) (vev39_2 us ss d w q lim t k order es ready) (vev39_8 us ss d w q lim t k order es ready) (vev39_9 us ss d w q lim t k order es ready) (vev39_10 us ss d w q lim t k order es ready) (vev39_11 us ss d w q lim t k order es ready) with
       | some (p, st, o) => some (p, st, xR (vev39_7 us ss d w q lim t k order es ready) (vev39_3 us ss d w q lim t k order es ready) (vev39_4 us ss d w q lim t k order es ready) (vev39_5 us ss d w q lim t k order es ready) (vev39_6 us ss d w q lim t k order es ready) ++ o)
       | none => none
     | false => none
   | _ => none
noncomputable abbrev ans39 (us ss : List (List AV)) (d w q lim t k : Int) (order es ready : List (List AV)) : Bool × AV × List Blk :=
 (true, .tup [pA (vev39_0 us ss d w q lim t k order es ready) (vev39_1 us ss d w q lim t k order es ready) (vev39_2 us ss d w q lim t k order es ready), xA (vev39_3 us ss d w q lim t k order es ready) (vev39_4 us ss d w q lim t k order es ready) (vev39_5 us ss d w q lim t k order es ready) (vev39_6 us ss d w q lim t k order es ready), .bool (vev39_7 us ss d w q lim t k order es ready)], schC q lim order (vev39_8 us ss d w q lim t k order es ready) (vev39_9 us ss d w q lim t k order es ready) (vev39_10 us ss d w q lim t k order es ready) (vev39_11 us ss d w q lim t k order es ready))
theorem k39_39 (us ss : List (List AV)) (d w q lim t k : Int) (order es ready : List (List AV)) (h : vev39_12 us ss d w q lim t k order es ready = true) : k39 39 [pA us ss d, .hp 0 0, .int .i64 w] (schC q lim order ready t k es) = some (ans39 us ss d w q lim t k order es ready) := by
 have h1 : k39 39 [pA us ss d, .hp 0 0, .int .i64 w] (schC q lim order ready t k es) = (spW (vev39_12 us ss d w q lim t k order es ready) (some (ans39 us ss d w q lim t k order es ready))).or (k39n 39 [pA us ss d, .hp 0 0, .int .i64 w] (schC q lim order ready t k es)) := rfl
 rw [h1, h]
 rfl
theorem spG_at (f0 : FuncId) (sp : List AV → List Blk → Option (Bool × AV × List Blk)) (k : Gam) (T : List AV) (C : List Blk) : spG f0 sp k f0 T C = (sp T C).or (k f0 T C) := by
 unfold spG
 rw [Nat.beq_refl]
theorem k39_39n (us ss : List (List AV)) (d w : Int) (h : vev39n_1 us ss d w = true) :
  k39 39 [pA us ss d, .nilp, .int .i64 w] [] = some (true, .tup [pA us ss (vev39n_0 us ss d w), xA 0 0 0 0, .bool false], []) := by
 have a : k39 39 [pA us ss d, .nilp, .int .i64 w] [] = k39n 39 [pA us ss d, .nilp, .int .i64 w] [] := by
  show spG 39 sp39 k39n 39 _ _ = _
  rw [spG_at, show sp39 [pA us ss d, .nilp, .int .i64 w] [] = none from rfl, Option.none_or]
 have h1 : k39n 39 [pA us ss d, .nilp, .int .i64 w] [] = (spW (vev39n_1 us ss d w) (some (true, .tup [pA us ss (vev39n_0 us ss d w), xA 0 0 0 0, .bool false], []))).or (k31n 39 [pA us ss d, .nilp, .int .i64 w] []) := by
  show spG 39 sp39n k31n 39 _ _ = _
  rw [spG_at]
  rfl
 rw [a, h1, h]
 rfl
theorem k39_56 {O : List (List AV)} {D : List Blk} (us ss : List (List AV)) (d : Int) (h : vev56_0 us ss d = true) : end56 (k39 56 [pA us ss d] []) O D = some (true, .tup [pA us ss d, .sl .imm kindS4 O], D) := by
 have h1 : k39 56 [pA us ss d] [] = (spW (vev56_0 us ss d) (fin Try.prog (tab.frz 56) ([] : List Blk).length Try.f56.resultTypes.toList (some ((AV.agg [AV.rf 0 [Kd.int IntKind.i64], AV.rf 1 [Kd.int IntKind.i64], AV.int IntKind.i64 d], [Blk.row [Kd.int IntKind.i64] us, Blk.row [Kd.int IntKind.i64] ss]))))).or (k76 56 [pA us ss d] []) := rfl
 rw [h1, h]
 rfl
theorem fold39_ok {q lim : Int} {order : List (List AV)} : ∀ {l us ss : List (List AV)} {d : Int} {ready : List (List AV)} {t k : Int} {es : List (List AV)} {p : List (List AV) × List (List AV) × Int} {r2 : List (List AV)} {t2 k2 : Int} {e2 o : List (List AV)}, fold39 q lim order l us ss d ready t k es = some (p, (r2, t2, k2, e2), o) →
  runG k39 (.hp 0 0) l us ss d (schC q lim order ready t k es) = some (p, o, schC q lim order r2 t2 k2 e2) := by
 intro l
 induction l with
 | nil =>
   intro us ss d ready t k es p r2 t2 k2 e2 o h
   unfold fold39 at h
   injection h with h
   injection h with h1 h
   injection h with h2 h3
   injection h2 with h4 h2
   injection h2 with h5 h2
   injection h2 with h6 h7
   subst h1 h3 h4 h5 h6 h7
   rfl
 | cons r l ih =>
   intro us ss d ready t k es p r2 t2 k2 e2 o h
   unfold fold39 at h
   split at h
   ·rename_i w
    split at h
    ·rename_i hb
     split at h
     ·rename_i p' st' o' hr
      injection h with h
      injection h with h1 h
      injection h with h2 h3
      subst h1 h2 h3
      unfold runG
      have h9 := k39_39 us ss d w q lim t k order es ready hb
      have h8 := ih hr
      simp only [List.getD_cons_zero]
      rw [h9]
      dsimp only
      have e : unk (schC q lim order ready t k es) (schC q lim order (vev39_8 us ss d w q lim t k order es ready) (vev39_9 us ss d w q lim t k order es ready) (vev39_10 us ss d w q lim t k order es ready) (vev39_11 us ss d w q lim t k order es ready)) = schC q lim order (vev39_8 us ss d w q lim t k order es ready) (vev39_9 us ss d w q lim t k order es ready) (vev39_10 us ss d w q lim t k order es ready) (vev39_11 us ss d w q lim t k order es ready) := rfl
      rw [e, h8]
      rfl
     ·cases h
    ·cases h
   ·cases h
end Go.Proofs.Gv
namespace Go.Proofs.Gv
open Go.RowKit
set_option maxRecDepth 20000
noncomputable def fold39n (us ss : List (List AV)) : List (List AV) → Int → Option Int
 | [], d => some d
 | r :: l, d => match r with
   | [.int .i64 w] => match vev39n_1 us ss d w with
     | true => fold39n us ss l (vev39n_0 us ss d w)
     | false => none
   | _ => none
theorem fold39n_ok {us ss : List (List AV)} : ∀ {l : List (List AV)} {d d2 : Int}, fold39n us ss l d = some d2 → runG k39 .nilp l us ss d [] = some ((us, ss, d2), [], []) := by
 intro l
 induction l with
 | nil =>
   intro d d2 h
   unfold fold39n at h
   injection h with h
   subst h
   rfl
 | cons r l ih =>
   intro d d2 h
   unfold fold39n at h
   split at h
   ·rename_i w
    split at h
    ·rename_i hb
     have h9 := k39_39n us ss d w hb
     have h8 := ih h
     unfold runG
     simp only [List.getD_cons_zero]
     rw [h9]
     dsimp only
     have e : unk [] [] = [] := rfl
     rw [e, h8]
     rfl
    ·cases h
   ·cases h
noncomputable def v17 (q lim : Int) (order l us ss : List (List AV)) (d : Int) (ready : List (List AV)) (t k : Int) (es : List (List AV)) : FSt := (fold39 q lim order l us ss d ready t k es).getD (([], [], 0), ([], 0, 0, []), [])
noncomputable def vev17_0 (q lim : Int) (order l us ss : List (List AV)) (d : Int) (ready : List (List AV)) (t k : Int) (es : List (List AV)) : List (List AV) := (v17 q lim order l us ss d ready t k es).1.1
noncomputable def vev17_1 (q lim : Int) (order l us ss : List (List AV)) (d : Int) (ready : List (List AV)) (t k : Int) (es : List (List AV)) : List (List AV) := (v17 q lim order l us ss d ready t k es).1.2.1
noncomputable def vev17_2 (q lim : Int) (order l us ss : List (List AV)) (d : Int) (ready : List (List AV)) (t k : Int) (es : List (List AV)) : Int := (v17 q lim order l us ss d ready t k es).1.2.2
noncomputable def vev17_3 (q lim : Int) (order l us ss : List (List AV)) (d : Int) (ready : List (List AV)) (t k : Int) (es : List (List AV)) : List (List AV) := (v17 q lim order l us ss d ready t k es).2.2
noncomputable def vev17_4 (q lim : Int) (order l us ss : List (List AV)) (d : Int) (ready : List (List AV)) (t k : Int) (es : List (List AV)) : List (List AV) := (v17 q lim order l us ss d ready t k es).2.1.1
noncomputable def vev17_5 (q lim : Int) (order l us ss : List (List AV)) (d : Int) (ready : List (List AV)) (t k : Int) (es : List (List AV)) : Int := (v17 q lim order l us ss d ready t k es).2.1.2.1
noncomputable def vev17_6 (q lim : Int) (order l us ss : List (List AV)) (d : Int) (ready : List (List AV)) (t k : Int) (es : List (List AV)) : Int := (v17 q lim order l us ss d ready t k es).2.1.2.2.1
noncomputable def vev17_7 (q lim : Int) (order l us ss : List (List AV)) (d : Int) (ready : List (List AV)) (t k : Int) (es : List (List AV)) : List (List AV) := (v17 q lim order l us ss d ready t k es).2.1.2.2.2
noncomputable def vev17_8 (q lim : Int) (order l us ss : List (List AV)) (d : Int) (ready : List (List AV)) (t k : Int) (es : List (List AV)) : Bool := Nat.ble l.length 1000000 && (fold39 q lim order l us ss d ready t k es).isSome && vev56_0 (vev17_0 q lim order l us ss d ready t k es) (vev17_1 q lim order l us ss d ready t k es) (vev17_2 q lim order l us ss d ready t k es)
noncomputable def vev17n_0 (l us ss : List (List AV)) (d : Int) : Int := (fold39n us ss l d).getD 0
noncomputable def vev17n_1 (l us ss : List (List AV)) (d : Int) : Bool := Nat.ble l.length 1000000 && (fold39n us ss l d).isSome && vev56_0 us ss (vev17n_0 l us ss d)
noncomputable def sp17s : List AV → List Blk → Option (Bool × AV × List Blk)
 | [.agg [.sl .imm [.int .i64] us, .sl .imm [.int .i64] ss, .int .i64 d], .hp 0 0, .sl tk [.int .i64] l], [.var [.int .i64 q, .int .i64 lim, .rf 1 [.int .i64], .mp 2 [.int .i64, .int .i64, .int .i64, .int .i64, .int .i64, .int .i64, .sl [.int .i64, .int .i64, .int .i64, .int .i64]], .sl .imm [.int .i64, .int .i64] ready, .int .i64 t, .int .i64 k], .row [.int .i64] order, .tbl [.int .i64, .int .i64, .int .i64, .int .i64, .int .i64, .int .i64, .sl [.int .i64, .int .i64, .int .i64, .int .i64]] es none] =>
   spW (vev17_8 q lim order l us ss d ready t k es) (some (true, .tup [.agg [.sl .imm [.int .i64] (vev17_0 q lim order l us ss d ready t k es), .sl .imm [.int .i64] (vev17_1 q lim order l us ss d ready t k es), .int .i64 (vev17_2 q lim order l us ss d ready t k es)], .sl .imm [.int .i64, .int .i64, .int .i64, .int .i64] (vev17_3 q lim order l us ss d ready t k es)],
    [.var [.int .i64 q, .int .i64 lim, .rf 1 [.int .i64], .mp 2 [.int .i64, .int .i64, .int .i64, .int .i64, .int .i64, .int .i64, .sl [.int .i64, .int .i64, .int .i64, .int .i64]], .sl .imm [.int .i64, .int .i64] (vev17_4 q lim order l us ss d ready t k es), .int .i64 (vev17_5 q lim order l us ss d ready t k es), .int .i64 (vev17_6 q lim order l us ss d ready t k es)], .row [.int .i64] order, .tbl [.int .i64, .int .i64, .int .i64, .int .i64, .int .i64, .int .i64, .sl [.int .i64, .int .i64, .int .i64, .int .i64]] (vev17_7 q lim order l us ss d ready t k es) none]))
 | [.agg [.sl .imm [.int .i64] us, .sl .imm [.int .i64] ss, .int .i64 d], .nilp, .sl tk [.int .i64] l], [] =>
   spW (vev17n_1 l us ss d) (some (true, .tup [.agg [.sl .imm [.int .i64] us, .sl .imm [.int .i64] ss, .int .i64 (vev17n_0 l us ss d)], .sl .imm [.int .i64, .int .i64, .int .i64, .int .i64] []], []))
 | _, _ => none
noncomputable def k17 : Gam := fun f T C => match Nat.beq f 17 with
 | true => (sp17s T C).or (k39 f T C)
 | false => k39 f T C
theorem sp17_of {us ss l : List (List AV)} {d : Int} {s : AV} {tk : Tk} {C D : List Blk} {u v O : List (List AV)} {n : Int} (hl : Nat.ble l.length 1000000 = true) (hs : okS s C = true) (hr : runG k39 s l us ss d C = some ((u, v, n), O, D)) (h56 : vev56_0 u v n = true) :
  sp17 k39 [pA us ss d, s, .sl tk [.int .i64] l] C = some (true, .tup [pA u v n, .sl .imm kindS4 O], D) := by
 unfold sp17
 dsimp only
 rw [hl, hs, hr]
 exact k39_56 u v n h56
theorem k17_ok : GamOK Try.prog k17 := by
 intro f T C r outs h
 unfold k17 at h
 cases hf : Nat.beq f 17 with
 | false => rw [hf] at h; exact k39_ok f T C r outs h
 | true =>
   have hf' := Nat.eq_of_beq_eq_true hf
   subst hf'
   rw [hf] at h
   dsimp only at h
   cases hs : sp17s T C with
   | none => rw [hs, Option.none_or] at h; exact k39_ok _ T C r outs h
   | some x =>
     rw [hs] at h
     have hx : x = (true, r, outs) := by simpa using h
     subst hx
     refine r17_ok k39_ok 17 T C r outs ?_
     have key : sp17 k39 T C = some (true, r, outs) := by
      unfold sp17s at hs
      split at hs
      ·rename_i us ss d tk l q lim ready t k order es
       obtain ⟨hb, rfl, rfl⟩ := spT_inv hs
       unfold vev17_8 at hb
       rw [Bool.and_eq_true, Bool.and_eq_true] at hb
       obtain ⟨⟨h1, h2⟩, h3⟩ := hb
       obtain ⟨⟨p, st, o⟩, he⟩ := Option.isSome_iff_exists.1 h2
       have hv : v17 q lim order l us ss d ready t k es = (p, st, o) := by unfold v17; rw [he]; rfl
       unfold vev17_0 vev17_1 vev17_2 at h3
       unfold vev17_0 vev17_1 vev17_2 vev17_3 vev17_4 vev17_5 vev17_6 vev17_7
       rw [hv] at h3 ⊢
       exact sp17_of h1 rfl (fold39_ok he) h3
      ·rename_i us ss d tk l
       obtain ⟨hb, rfl, rfl⟩ := spT_inv hs
       unfold vev17n_1 at hb
       rw [Bool.and_eq_true, Bool.and_eq_true] at hb
       obtain ⟨⟨h1, h2⟩, h3⟩ := hb
       obtain ⟨d2, he⟩ := Option.isSome_iff_exists.1 h2
       have hv : vev17n_0 l us ss d = d2 := by unfold vev17n_0; rw [he]; rfl
       rw [hv] at h3 ⊢
       exact sp17_of h1 rfl (fold39n_ok he) h3
      ·cases hs
     unfold r17
     rw [show Nat.beq 17 17 = true from rfl, key]
     rfl
end Go.Proofs.Gv
namespace Go.Proofs.Gv
noncomputable def k17c : Gam := r17 (gk k118c 30)
theorem k17c_ok : GamOK Try.prog k17c := r17_ok (gk_ok k118c_ok 30)
end Go.Proofs.Gv
