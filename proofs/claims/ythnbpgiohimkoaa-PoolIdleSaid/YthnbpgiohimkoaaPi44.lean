import Derived.Test.YthnbpgiohimkoaaPi32
import Derived.Test.YthnbpgiohimkoaaPi43
import Derived.Test.YthnbpgiohimkoaaPi36
import Derived.Test.YthnbpgiohimkoaaPi37
import Derived.Test.YthnbpgiohimkoaaPi27
import Derived.KernelRfl
import Derived.Test.YthnbpgiohimkoaaPi30
import Derived.Test.YthnbpgiohimkoaaPi31
set_option linter.unusedVariables false
namespace Go.Proofs.Gv
open Go.RowKit
set_option maxRecDepth 20000
abbrev kdT : List Kd := [.int .i64, .int .i64, .int .i64, .int .i64, .int .i64, .int .i64, .sl [.int .i64, .int .i64, .int .i64, .int .i64]]
abbrev schC (q lim : Int) (order ready : List (List AV)) (t k : Int) (es : List (List AV)) : List Blk := [.var [.int .i64 q, .int .i64 lim, .rf 1 [.int .i64], .mp 2 kdT, .sl .imm [.int .i64, .int .i64] ready, .int .i64 t, .int .i64 k], .row [.int .i64] order, .tbl kdT es none]
abbrev FSt := (List (List AV) × List (List AV) × Int) × (List (List AV) × Int × Int × List (List AV)) × List (List AV)
noncomputable def fold39 (q lim : Int) (order : List (List AV)) : List (List AV) → List (List AV) → List (List AV) → Int → List (List AV) → Int → Int → List (List AV) → Option FSt
 | [], us, ss, d, ready, t, k, es => some ((us, ss, d), (ready, t, k, es), [])
 | r :: l, us, ss, d, ready, t, k, es => match r with
   | [.int .i64 w] => match vev39_12 us ss d w q lim t k order es ready with
     | true => match fold39 q lim order l (vev39_0 us ss d w q lim t k order es ready) (vev39_1 us ss d w q lim t k order es ready) (vev39_2 us ss d w q lim t k order es ready) (vev39_8 us ss d w q lim t k order es ready) (vev39_9 us ss d w q lim t k order es ready) (vev39_10 us ss d w q lim t k order es ready) (vev39_11 us ss d w q lim t k order es ready) with
       | some (p, st, o) => some (p, st, xR (vev39_7 us ss d w q lim t k order es ready) (vev39_3 us ss d w q lim t k order es ready) (vev39_4 us ss d w q lim t k order es ready) (vev39_5 us ss d w q lim t k order es ready) (vev39_6 us ss d w q lim t k order es ready) ++ o)
       | none => none
     | false => none
   | _ => none
noncomputable abbrev ans39 (us ss : List (List AV)) (d w q lim t k : Int) (order es ready : List (List AV)) : Bool × AV × List Blk :=
 (true, .tup [pA (vev39_0 us ss d w q lim t k order es ready) (vev39_1 us ss d w q lim t k order es ready) (vev39_2 us ss d w q lim t k order es ready), xA (vev39_3 us ss d w q lim t k order es ready) (vev39_4 us ss d w q lim t k order es ready) (vev39_5 us ss d w q lim t k order es ready) (vev39_6 us ss d w q lim t k order es ready), .bool (vev39_7 us ss d w q lim t k order es ready)], schC q lim order (vev39_8 us ss d w q lim t k order es ready) (vev39_9 us ss d w q lim t k order es ready) (vev39_10 us ss d w q lim t k order es ready) (vev39_11 us ss d w q lim t k order es ready))
theorem k39_39 (us ss : List (List AV)) (d w q lim t k : Int) (order es ready : List (List AV)) (h : vev39_12 us ss d w q lim t k order es ready = true) : k39 39 [pA us ss d, .hp 0 0, .int .i64 w] (schC q lim order ready t k es) = some (ans39 us ss d w q lim t k order es ready) := by
 have h1 : k39 39 [pA us ss d, .hp 0 0, .int .i64 w] (schC q lim order ready t k es) = (spW (vev39_12 us ss d w q lim t k order es ready) (some (ans39 us ss d w q lim t k order es ready))).or (k39n 39 [pA us ss d, .hp 0 0, .int .i64 w] (schC q lim order ready t k es)) := rfl
 rw [h1, h]
 rfl
theorem k39_39n (us ss : List (List AV)) (d w : Int) (h : vev39n_1 us ss d w = true) :
  k39 39 [pA us ss d, .nilp, .int .i64 w] [] = some (true, .tup [pA us ss (vev39n_0 us ss d w), xA 0 0 0 0, .bool false], []) := by
 have h1 : k39 39 [pA us ss d, .nilp, .int .i64 w] [] = (spW (vev39n_1 us ss d w) (some (true, .tup [pA us ss (vev39n_0 us ss d w), xA 0 0 0 0, .bool false], []))).or (k31n 39 [pA us ss d, .nilp, .int .i64 w] []) := rfl
 rw [h1, h]
 rfl
theorem k39_56 {O : List (List AV)} {D : List Blk} (us ss : List (List AV)) (d : Int) (h : vev56_0 us ss d = true) : end56 (k39 56 [pA us ss d] []) O D = some (true, .tup [pA us ss d, .sl .imm kindS4 O], D) := by
 have h1 : k39 56 [pA us ss d] [] = (spW (vev56_0 us ss d) (fin Try.prog (tab.frz 56) ([] : List Blk).length Try.f56.resultTypes.toList (some ((AV.agg [AV.rf 0 [Kd.int IntKind.i64], AV.rf 1 [Kd.int IntKind.i64], AV.int IntKind.i64 d], [Blk.row [Kd.int IntKind.i64] us, Blk.row [Kd.int IntKind.i64] ss]))))).or (k76 56 [pA us ss d] []) := rfl
 rw [h1, h]
 rfl
theorem fold39_ok {q lim : Int} {order : List (List AV)} : ∀ {l us ss : List (List AV)} {d : Int} {ready : List (List AV)} {t k : Int} {es : List (List AV)} {p : List (List AV) × List (List AV) × Int} {r2 : List (List AV)} {t2 k2 : Int} {e2 o : List (List AV)}, fold39 q lim order l us ss d ready t k es = some (p, (r2, t2, k2, e2), o) →
  runG k39 (.hp 0 0) l us ss d (schC q lim order ready t k es) = some (p, o, schC q lim order r2 t2 k2 e2) := by
 intro l
 induction l with
 | nil =>
   intro us ss d ready t k es p r2 t2 k2 e2 o h
   unfold fold39 at h
   injection h with h
   injection h with h1 h
   injection h with h2 h3
   injection h2 with h4 h2
   injection h2 with h5 h2
   injection h2 with h6 h7
   subst h1 h3 h4 h5 h6 h7
   rfl
 | cons r l ih =>
   intro us ss d ready t k es p r2 t2 k2 e2 o h
   unfold fold39 at h
   split at h
   ·rename_i w
    split at h
    ·rename_i hb
     split at h
     ·rename_i p' st' o' hr
      injection h with h
      injection h with h1 h
      injection h with h2 h3
      subst h1 h2 h3
      unfold runG
      have h9 := k39_39 us ss d w q lim t k order es ready hb
      have h8 := ih hr
      simp only [List.getD_cons_zero]
      rw [h9]
      dsimp only
      have e : unk (schC q lim order ready t k es) (schC q lim order (vev39_8 us ss d w q lim t k order es ready) (vev39_9 us ss d w q lim t k order es ready) (vev39_10 us ss d w q lim t k order es ready) (vev39_11 us ss d w q lim t k order es ready)) = schC q lim order (vev39_8 us ss d w q lim t k order es ready) (vev39_9 us ss d w q lim t k order es ready) (vev39_10 us ss d w q lim t k order es ready) (vev39_11 us ss d w q lim t k order es ready) := rfl
      rw [e, h8]
      rfl
     ·cases h
    ·cases h
   ·cases h
end Go.Proofs.Gv
namespace Go.Proofs.Gv
open Go.RowKit
set_option maxRecDepth 20000
noncomputable def fold39n (us ss : List (List AV)) : List (List AV) → Int → Option Int
 | [], d => some d
 | r :: l, d => match r with
   | [.int .i64 w] => match vev39n_1 us ss d w with
     | true => fold39n us ss l (vev39n_0 us ss d w)
     | false => none
   | _ => none
theorem fold39n_ok {us ss : List (List AV)} : ∀ {l : List (List AV)} {d d2 : Int}, fold39n us ss l d = some d2 → runG k39 .nilp l us ss d [] = some ((us, ss, d2), [], []) := by
 intro l
 induction l with
 | nil =>
   intro d d2 h
   unfold fold39n at h
   injection h with h
   subst h
   rfl
 | cons r l ih =>
   intro d d2 h
   unfold fold39n at h
   split at h
   ·rename_i w
    split at h
    ·rename_i hb
     have h9 := k39_39n us ss d w hb
     have h8 := ih h
     unfold runG
     simp only [List.getD_cons_zero]
     rw [h9]
     dsimp only
     have e : unk [] [] = [] := rfl
     rw [e, h8]
     rfl
    ·cases h
   ·cases h
noncomputable def v17 (q lim : Int) (order l us ss : List (List AV)) (d : Int) (ready : List (List AV)) (t k : Int) (es : List (List AV)) : FSt := (fold39 q lim order l us ss d ready t k es).getD (([], [], 0), ([], 0, 0, []), [])
noncomputable def vev17_0 (q lim : Int) (order l us ss : List (List AV)) (d : Int) (ready : List (List AV)) (t k : Int) (es : List (List AV)) : List (List AV) := (v17 q lim order l us ss d ready t k es).1.1
noncomputable def vev17_1 (q lim : Int) (order l us ss : List (List AV)) (d : Int) (ready : List (List AV)) (t k : Int) (es : List (List AV)) : List (List AV) := (v17 q lim order l us ss d ready t k es).1.2.1
noncomputable def vev17_2 (q lim : Int) (order l us ss : List (List AV)) (d : Int) (ready : List (List AV)) (t k : Int) (es : List (List AV)) : Int := (v17 q lim order l us ss d ready t k es).1.2.2
noncomputable def vev17_3 (q lim : Int) (order l us ss : List (List AV)) (d : Int) (ready : List (List AV)) (t k : Int) (es : List (List AV)) : List (List AV) := (v17 q lim order l us ss d ready t k es).2.2
noncomputable def vev17_4 (q lim : Int) (order l us ss : List (List AV)) (d : Int) (ready : List (List AV)) (t k : Int) (es : List (List AV)) : List (List AV) := (v17 q lim order l us ss d ready t k es).2.1.1
noncomputable def vev17_5 (q lim : Int) (order l us ss : List (List AV)) (d : Int) (ready : List (List AV)) (t k : Int) (es : List (List AV)) : Int := (v17 q lim order l us ss d ready t k es).2.1.2.1
noncomputable def vev17_6 (q lim : Int) (order l us ss : List (List AV)) (d : Int) (ready : List (List AV)) (t k : Int) (es : List (List AV)) : Int := (v17 q lim order l us ss d ready t k es).2.1.2.2.1
noncomputable def vev17_7 (q lim : Int) (order l us ss : List (List AV)) (d : Int) (ready : List (List AV)) (t k : Int) (es : List (List AV)) : List (List AV) := (v17 q lim order l us ss d ready t k es).2.1.2.2.2
noncomputable def vev17_8 (q lim : Int) (order l us ss : List (List AV)) (d : Int) (ready : List (List AV)) (t k : Int) (es : List (List AV)) : Bool := Nat.ble l.length 1000000 && (fold39 q lim order l us ss d ready t k es).isSome && vev56_0 (vev17_0 q lim order l us ss d ready t k es) (vev17_1 q lim order l us ss d ready t k es) (vev17_2 q lim order l us ss d ready t k es)
noncomputable def vev17n_0 (l us ss : List (List AV)) (d : Int) : Int := (fold39n us ss l d).getD 0
noncomputable def vev17n_1 (l us ss : List (List AV)) (d : Int) : Bool := Nat.ble l.length 1000000 && (fold39n us ss l d).isSome && vev56_0 us ss (vev17n_0 l us ss d)
noncomputable def sp17s : List AV → List Blk → Option (Bool × AV × List Blk)
 | [.agg [.sl .imm [.int .i64] us, .sl .imm [.int .i64] ss, .int .i64 d], .hp 0 0, .sl tk [.int .i64] l], [.var [.int .i64 q, .int .i64 lim, .rf 1 [.int .i64], .mp 2 [.int .i64, .int .i64, .int .i64, .int .i64, .int .i64, .int .i64, .sl [.int .i64, .int .i64, .int .i64, .int .i64]], .sl .imm [.int .i64, .int .i64] ready, .int .i64 t, .int .i64 k], .row [.int .i64] order, .tbl [.int .i64, .int .i64, .int .i64, .int .i64, .int .i64, .int .i64, .sl [.int .i64, .int .i64, .int .i64, .int .i64]] es none] =>
   spW (vev17_8 q lim order l us ss d ready t k es) (some (true, .tup [.agg [.sl .imm [.int .i64] (vev17_0 q lim order l us ss d ready t k es), .sl .imm [.int .i64] (vev17_1 q lim order l us ss d ready t k es), .int .i64 (vev17_2 q lim order l us ss d ready t k es)], .sl .imm [.int .i64, .int .i64, .int .i64, .int .i64] (vev17_3 q lim order l us ss d ready t k es)],
    [.var [.int .i64 q, .int .i64 lim, .rf 1 [.int .i64], .mp 2 [.int .i64, .int .i64, .int .i64, .int .i64, .int .i64, .int .i64, .sl [.int .i64, .int .i64, .int .i64, .int .i64]], .sl .imm [.int .i64, .int .i64] (vev17_4 q lim order l us ss d ready t k es), .int .i64 (vev17_5 q lim order l us ss d ready t k es), .int .i64 (vev17_6 q lim order l us ss d ready t k es)], .row [.int .i64] order, .tbl [.int .i64, .int .i64, .int .i64, .int .i64, .int .i64, .int .i64, .sl [.int .i64, .int .i64, .int .i64, .int .i64]] (vev17_7 q lim order l us ss d ready t k es) none]))
 | [.agg [.sl .imm [.int .i64] us, .sl .imm [.int .i64] ss, .int .i64 d], .nilp, .sl tk [.int .i64] l], [] =>
   spW (vev17n_1 l us ss d) (some (true, .tup [.agg [.sl .imm [.int .i64] us, .sl .imm [.int .i64] ss, .int .i64 (vev17n_0 l us ss d)], .sl .imm [.int .i64, .int .i64, .int .i64, .int .i64] []], []))
 | _, _ => none
noncomputable def k17 : Gam := fun f T C => match Nat.beq f 17 with
 | true => (sp17s T C).or (k39 f T C)
 | false => k39 f T C
theorem sp17_of {us ss l : List (List AV)} {d : Int} {s : AV} {tk : Tk} {C D : List Blk} {u v O : List (List AV)} {n : Int} (hl : Nat.ble l.length 1000000 = true) (hs : okS s C = true) (hr : runG k39 s l us ss d C = some ((u, v, n), O, D)) (h56 : vev56_0 u v n = true) :
  sp17 k39 [pA us ss d, s, .sl tk [.int .i64] l] C = some (true, .tup [pA u v n, .sl .imm kindS4 O], D) := by
 unfold sp17
 dsimp only
 rw [hl, hs, hr]
 exact k39_56 u v n h56
theorem k17_ok : GamOK Try.prog k17 := by
 intro f T C r outs h
 unfold k17 at h
 cases hf : Nat.beq f 17 with
 | false => rw [hf] at h; exact k39_ok f T C r outs h
 | true =>
   have hf' := Nat.eq_of_beq_eq_true hf
   subst hf'
   rw [hf] at h
   dsimp only at h
   cases hs : sp17s T C with
   | none => rw [hs, Option.none_or] at h; exact k39_ok _ T C r outs h
   | some x =>
     rw [hs] at h
     have hx : x = (true, r, outs) := by simpa using h
     subst hx
     refine r17_ok k39_ok 17 T C r outs ?_
     have key : sp17 k39 T C = some (true, r, outs) := by
      unfold sp17s at hs
      split at hs
      ·rename_i us ss d tk l q lim ready t k order es
       obtain ⟨hb, rfl, rfl⟩ := spT_inv hs
       unfold vev17_8 at hb
       rw [Bool.and_eq_true, Bool.and_eq_true] at hb
       obtain ⟨⟨h1, h2⟩, h3⟩ := hb
       obtain ⟨⟨p, st, o⟩, he⟩ := Option.isSome_iff_exists.1 h2
       have hv : v17 q lim order l us ss d ready t k es = (p, st, o) := by unfold v17; rw [he]; rfl
       unfold vev17_0 vev17_1 vev17_2 at h3
       unfold vev17_0 vev17_1 vev17_2 vev17_3 vev17_4 vev17_5 vev17_6 vev17_7
       rw [hv] at h3 ⊢
       exact sp17_of h1 rfl (fold39_ok he) h3
      ·rename_i us ss d tk l
       obtain ⟨hb, rfl, rfl⟩ := spT_inv hs
       unfold vev17n_1 at hb
       rw [Bool.and_eq_true, Bool.and_eq_true] at hb
       obtain ⟨⟨h1, h2⟩, h3⟩ := hb
       obtain ⟨d2, he⟩ := Option.isSome_iff_exists.1 h2
       have hv : vev17n_0 l us ss d = d2 := by unfold vev17n_0; rw [he]; rfl
       rw [hv] at h3 ⊢
       exact sp17_of h1 rfl (fold39n_ok he) h3
      ·cases hs
     unfold r17
     rw [show Nat.beq 17 17 = true from rfl, key]
     rfl
end Go.Proofs.Gv
namespace Go.Proofs.Gv
noncomputable def k17c : Gam := r17 (gk k118c 30)
theorem k17c_ok : GamOK Try.prog k17c := r17_ok (gk_ok k118c_ok 30)
end Go.Proofs.Gv
namespace Go.Proofs.Gv
open Go.Proofs
theorem aw10 : gk k17c 30 10 [] [] = some (true, .bool true, []) := by kernel_rfl
noncomputable def k10 : Gam := fun f T C => match Nat.beq f 10, T, C with
 | true, [], [] => some (true, .bool true, [])
 | _, T, C => k17c f T C
end Go.Proofs.Gv
namespace Go.Proofs.Gv
noncomputable def kw : Gam := fun f T C => match Nat.beq f 10, T, C with
 | true, [], [] => some (true, .bool true, [])
 | _, T, C => k17 f T C
theorem kw_ok : GamOK Try.prog kw := by
 intro f T C r outs h
 unfold kw at h
 split at h
 ·rename_i hf
  have hf' := Nat.eq_of_beq_eq_true hf
  subst hf'
  have hx : (true, AV.bool true, ([] : List Blk)) = (true, r, outs) := by simpa using h
  injection hx with _ hx
  injection hx with h1 h2
  subst h1 h2
  exact gk_ok k17c_ok 30 _ _ _ _ _ aw10
 ·exact k17_ok _ _ _ r outs h
end Go.Proofs.Gv
namespace Go.Proofs.Gv
open Go.Proofs
noncomputable def rn4_9_0 (t1 : List (List AV)) (t9 : Int) (t10 : Int) (b2_0 : List (List AV)) (b2_1 : List (List AV)) (b2_2 : Int) (b3_0 : Int) (b3_1 : Int) (b3_5 : Int) (b3_6 : Int) (b5 : List (List AV)) : Int := intOf ((t1.getD t10.toNat []).getD (0 : Nat) AV.junk)
noncomputable def go4_9 (t1 : List (List AV)) (t9 : Int) (t10 : Int) (b2_0 : List (List AV)) (b2_1 : List (List AV)) (b2_2 : Int) (b3_0 : Int) (b3_1 : Int) (b3_5 : Int) (b3_6 : Int) (b5 : List (List AV)) : Bool := bif decide (t10 < (↑t1.length : Int)) then bif decide ((0 : Int) ≤ t10) && decide (t10 < (↑t1.length : Int)) then bif decide (rn4_9_0 t1 t9 t10 b2_0 b2_1 b2_2 b3_0 b3_1 b3_5 b3_6 b5 ≥ (0 : Int)) then decide ((0 : Int) ≤ t10) && decide (t10 < (↑t1.length : Int)) else true else false else false
noncomputable def nx4_9_1 (t1 : List (List AV)) (t9 : Int) (t10 : Int) (b2_0 : List (List AV)) (b2_1 : List (List AV)) (b2_2 : Int) (b3_0 : Int) (b3_1 : Int) (b3_5 : Int) (b3_6 : Int) (b5 : List (List AV)) : Int := bif bif decide ((0 : Int) ≤ t10) && decide (t10 < (↑t1.length : Int)) then bif decide (rn4_9_0 t1 t9 t10 b2_0 b2_1 b2_2 b3_0 b3_1 b3_5 b3_6 b5 ≥ (0 : Int)) then bif decide ((0 : Int) ≤ t10) && decide (t10 < (↑t1.length : Int)) then decide (rn4_9_0 t1 t9 t10 b2_0 b2_1 b2_2 b3_0 b3_1 b3_5 b3_6 b5 < (↑b2_0.length : Int)) else false else false else false then IntKind.i64.wrap (t9 + (1 : Int)) else t9
noncomputable def nx4_9_2 (t1 : List (List AV)) (t9 : Int) (t10 : Int) (b2_0 : List (List AV)) (b2_1 : List (List AV)) (b2_2 : Int) (b3_0 : Int) (b3_1 : Int) (b3_5 : Int) (b3_6 : Int) (b5 : List (List AV)) : Int := IntKind.i64.wrap (t10 + (1 : Int))
noncomputable def xc4_9_0 (t1 : List (List AV)) (t9 : Int) (t10 : Int) (b2_0 : List (List AV)) (b2_1 : List (List AV)) (b2_2 : Int) (b3_0 : Int) (b3_1 : Int) (b3_5 : Int) (b3_6 : Int) (b5 : List (List AV)) : Bool := bif decide (t10 < (↑t1.length : Int)) then false else true
theorem rd4_9 (rest : Lsp) (t1 : List (List AV)) (t9 : Int) (t10 : Int) (b2_0 : List (List AV)) (b2_1 : List (List AV)) (b2_2 : Int) (b3_0 : Int) (b3_1 : Int) (b3_5 : Int) (b3_6 : Int) (b5 : List (List AV)) : roundV (cfg Try.prog tab 100000 (gk kw 30) rest 4 0 Try.f4.ntmps) (loopAt Try.f4 9) [1, 5, 7, 9, 10] [2, 3, 5] [1, 5, 7, 9] [2, 3, 5] [AV.sl Tk.imm [Kd.int IntKind.i64] t1, AV.hp (nat_lit 2) (nat_lit 0), AV.hp (nat_lit 3) (nat_lit 0), AV.int IntKind.i64 t9, AV.int IntKind.i64 t10] [Blk.var [AV.sl Tk.imm [Kd.int IntKind.i64] b2_0, AV.sl Tk.imm [Kd.int IntKind.i64] b2_1, AV.int IntKind.i64 b2_2], Blk.var [AV.int IntKind.i64 b3_0, AV.int IntKind.i64 b3_1, AV.nil, AV.mp (nat_lit 5) [Kd.int IntKind.i64, Kd.int IntKind.i64, Kd.int IntKind.i64, Kd.int IntKind.i64, Kd.int IntKind.i64, Kd.int IntKind.i64, Kd.sl [Kd.int IntKind.i64, Kd.int IntKind.i64, Kd.int IntKind.i64, Kd.int IntKind.i64]], AV.nil, AV.int IntKind.i64 b3_5, AV.int IntKind.i64 b3_6], Blk.tbl [Kd.int IntKind.i64, Kd.int IntKind.i64, Kd.int IntKind.i64, Kd.int IntKind.i64, Kd.int IntKind.i64, Kd.int IntKind.i64, Kd.sl [Kd.int IntKind.i64, Kd.int IntKind.i64, Kd.int IntKind.i64, Kd.int IntKind.i64]] b5 none] = bif go4_9 t1 t9 t10 b2_0 b2_1 b2_2 b3_0 b3_1 b3_5 b3_6 b5 then some (Ex.norm, [AV.sl Tk.imm [Kd.int IntKind.i64] t1, AV.hp (nat_lit 2) (nat_lit 0), AV.hp (nat_lit 3) (nat_lit 0), AV.int IntKind.i64 (nx4_9_1 t1 t9 t10 b2_0 b2_1 b2_2 b3_0 b3_1 b3_5 b3_6 b5), AV.int IntKind.i64 (nx4_9_2 t1 t9 t10 b2_0 b2_1 b2_2 b3_0 b3_1 b3_5 b3_6 b5)], [Blk.var [AV.sl Tk.imm [Kd.int IntKind.i64] b2_0, AV.sl Tk.imm [Kd.int IntKind.i64] b2_1, AV.int IntKind.i64 b2_2], Blk.var [AV.int IntKind.i64 b3_0, AV.int IntKind.i64 b3_1, AV.nil, AV.mp (nat_lit 5) [Kd.int IntKind.i64, Kd.int IntKind.i64, Kd.int IntKind.i64, Kd.int IntKind.i64, Kd.int IntKind.i64, Kd.int IntKind.i64, Kd.sl [Kd.int IntKind.i64, Kd.int IntKind.i64, Kd.int IntKind.i64, Kd.int IntKind.i64]], AV.nil, AV.int IntKind.i64 b3_5, AV.int IntKind.i64 b3_6], Blk.tbl [Kd.int IntKind.i64, Kd.int IntKind.i64, Kd.int IntKind.i64, Kd.int IntKind.i64, Kd.int IntKind.i64, Kd.int IntKind.i64, Kd.sl [Kd.int IntKind.i64, Kd.int IntKind.i64, Kd.int IntKind.i64, Kd.int IntKind.i64]] b5 none]) else bif xc4_9_0 t1 t9 t10 b2_0 b2_1 b2_2 b3_0 b3_1 b3_5 b3_6 b5 then some (Ex.exit (nat_lit 0), [AV.sl Tk.imm [Kd.int IntKind.i64] t1, AV.hp (nat_lit 2) (nat_lit 0), AV.hp (nat_lit 3) (nat_lit 0), AV.int IntKind.i64 t9], [Blk.var [AV.sl Tk.imm [Kd.int IntKind.i64] b2_0, AV.sl Tk.imm [Kd.int IntKind.i64] b2_1, AV.int IntKind.i64 b2_2], Blk.var [AV.int IntKind.i64 b3_0, AV.int IntKind.i64 b3_1, AV.nil, AV.mp (nat_lit 5) [Kd.int IntKind.i64, Kd.int IntKind.i64, Kd.int IntKind.i64, Kd.int IntKind.i64, Kd.int IntKind.i64, Kd.int IntKind.i64, Kd.sl [Kd.int IntKind.i64, Kd.int IntKind.i64, Kd.int IntKind.i64, Kd.int IntKind.i64]], AV.nil, AV.int IntKind.i64 b3_5, AV.int IntKind.i64 b3_6], Blk.tbl [Kd.int IntKind.i64, Kd.int IntKind.i64, Kd.int IntKind.i64, Kd.int IntKind.i64, Kd.int IntKind.i64, Kd.int IntKind.i64, Kd.sl [Kd.int IntKind.i64, Kd.int IntKind.i64, Kd.int IntKind.i64, Kd.int IntKind.i64]] b5 none]) else none := by
 have h : roundV (cfg Try.prog tab 100000 (gk kw 30) rest 4 0 Try.f4.ntmps) (loopAt Try.f4 9) [1, 5, 7, 9, 10] [2, 3, 5] [1, 5, 7, 9] [2, 3, 5] [AV.sl Tk.imm [Kd.int IntKind.i64] t1, AV.hp (nat_lit 2) (nat_lit 0), AV.hp (nat_lit 3) (nat_lit 0), AV.int IntKind.i64 t9, AV.int IntKind.i64 t10] [Blk.var [AV.sl Tk.imm [Kd.int IntKind.i64] b2_0, AV.sl Tk.imm [Kd.int IntKind.i64] b2_1, AV.int IntKind.i64 b2_2], Blk.var [AV.int IntKind.i64 b3_0, AV.int IntKind.i64 b3_1, AV.nil, AV.mp (nat_lit 5) [Kd.int IntKind.i64, Kd.int IntKind.i64, Kd.int IntKind.i64, Kd.int IntKind.i64, Kd.int IntKind.i64, Kd.int IntKind.i64, Kd.sl [Kd.int IntKind.i64, Kd.int IntKind.i64, Kd.int IntKind.i64, Kd.int IntKind.i64]], AV.nil, AV.int IntKind.i64 b3_5, AV.int IntKind.i64 b3_6], Blk.tbl [Kd.int IntKind.i64, Kd.int IntKind.i64, Kd.int IntKind.i64, Kd.int IntKind.i64, Kd.int IntKind.i64, Kd.int IntKind.i64, Kd.sl [Kd.int IntKind.i64, Kd.int IntKind.i64, Kd.int IntKind.i64, Kd.int IntKind.i64]] b5 none] = bif decide (t10 < (↑t1.length : Int)) then bif bif decide ((0 : Int) ≤ t10) && decide (t10 < (↑t1.length : Int)) then bif decide (rn4_9_0 t1 t9 t10 b2_0 b2_1 b2_2 b3_0 b3_1 b3_5 b3_6 b5 ≥ (0 : Int)) then bif decide ((0 : Int) ≤ t10) && decide (t10 < (↑t1.length : Int)) then true else false else true else false then bif bif decide ((0 : Int) ≤ t10) && decide (t10 < (↑t1.length : Int)) then bif decide (rn4_9_0 t1 t9 t10 b2_0 b2_1 b2_2 b3_0 b3_1 b3_5 b3_6 b5 ≥ (0 : Int)) then bif decide ((0 : Int) ≤ t10) && decide (t10 < (↑t1.length : Int)) then bif true then decide (rn4_9_0 t1 t9 t10 b2_0 b2_1 b2_2 b3_0 b3_1 b3_5 b3_6 b5 < (↑b2_0.length : Int)) else false else false else false else false then some (Ex.norm, [AV.sl Tk.imm [Kd.int IntKind.i64] t1, AV.hp (nat_lit 2) (nat_lit 0), AV.hp (nat_lit 3) (nat_lit 0), AV.int IntKind.i64 (IntKind.i64.wrap (t9 + (1 : Int))), AV.int IntKind.i64 (IntKind.i64.wrap (t10 + (1 : Int)))], [Blk.var [AV.sl Tk.imm [Kd.int IntKind.i64] b2_0, AV.sl Tk.imm [Kd.int IntKind.i64] b2_1, AV.int IntKind.i64 b2_2], Blk.var [AV.int IntKind.i64 b3_0, AV.int IntKind.i64 b3_1, AV.nil, AV.mp (nat_lit 5) [Kd.int IntKind.i64, Kd.int IntKind.i64, Kd.int IntKind.i64, Kd.int IntKind.i64, Kd.int IntKind.i64, Kd.int IntKind.i64, Kd.sl [Kd.int IntKind.i64, Kd.int IntKind.i64, Kd.int IntKind.i64, Kd.int IntKind.i64]], AV.nil, AV.int IntKind.i64 b3_5, AV.int IntKind.i64 b3_6], Blk.tbl [Kd.int IntKind.i64, Kd.int IntKind.i64, Kd.int IntKind.i64, Kd.int IntKind.i64, Kd.int IntKind.i64, Kd.int IntKind.i64, Kd.sl [Kd.int IntKind.i64, Kd.int IntKind.i64, Kd.int IntKind.i64, Kd.int IntKind.i64]] b5 none]) else some (Ex.norm, [AV.sl Tk.imm [Kd.int IntKind.i64] t1, AV.hp (nat_lit 2) (nat_lit 0), AV.hp (nat_lit 3) (nat_lit 0), AV.int IntKind.i64 t9, AV.int IntKind.i64 (IntKind.i64.wrap (t10 + (1 : Int)))], [Blk.var [AV.sl Tk.imm [Kd.int IntKind.i64] b2_0, AV.sl Tk.imm [Kd.int IntKind.i64] b2_1, AV.int IntKind.i64 b2_2], Blk.var [AV.int IntKind.i64 b3_0, AV.int IntKind.i64 b3_1, AV.nil, AV.mp (nat_lit 5) [Kd.int IntKind.i64, Kd.int IntKind.i64, Kd.int IntKind.i64, Kd.int IntKind.i64, Kd.int IntKind.i64, Kd.int IntKind.i64, Kd.sl [Kd.int IntKind.i64, Kd.int IntKind.i64, Kd.int IntKind.i64, Kd.int IntKind.i64]], AV.nil, AV.int IntKind.i64 b3_5, AV.int IntKind.i64 b3_6], Blk.tbl [Kd.int IntKind.i64, Kd.int IntKind.i64, Kd.int IntKind.i64, Kd.int IntKind.i64, Kd.int IntKind.i64, Kd.int IntKind.i64, Kd.sl [Kd.int IntKind.i64, Kd.int IntKind.i64, Kd.int IntKind.i64, Kd.int IntKind.i64]] b5 none]) else none else some (Ex.exit (nat_lit 0), [AV.sl Tk.imm [Kd.int IntKind.i64] t1, AV.hp (nat_lit 2) (nat_lit 0), AV.hp (nat_lit 3) (nat_lit 0), AV.int IntKind.i64 t9], [Blk.var [AV.sl Tk.imm [Kd.int IntKind.i64] b2_0, AV.sl Tk.imm [Kd.int IntKind.i64] b2_1, AV.int IntKind.i64 b2_2], Blk.var [AV.int IntKind.i64 b3_0, AV.int IntKind.i64 b3_1, AV.nil, AV.mp (nat_lit 5) [Kd.int IntKind.i64, Kd.int IntKind.i64, Kd.int IntKind.i64, Kd.int IntKind.i64, Kd.int IntKind.i64, Kd.int IntKind.i64, Kd.sl [Kd.int IntKind.i64, Kd.int IntKind.i64, Kd.int IntKind.i64, Kd.int IntKind.i64]], AV.nil, AV.int IntKind.i64 b3_5, AV.int IntKind.i64 b3_6], Blk.tbl [Kd.int IntKind.i64, Kd.int IntKind.i64, Kd.int IntKind.i64, Kd.int IntKind.i64, Kd.int IntKind.i64, Kd.int IntKind.i64, Kd.sl [Kd.int IntKind.i64, Kd.int IntKind.i64, Kd.int IntKind.i64, Kd.int IntKind.i64]] b5 none]) := by kernel_rfl
 rw [h]
 clear h
 unfold go4_9 nx4_9_1 nx4_9_2 xc4_9_0
 generalize (decide (rn4_9_0 t1 t9 t10 b2_0 b2_1 b2_2 b3_0 b3_1 b3_5 b3_6 b5 < (↑b2_0.length : Int))) = c0
 generalize (decide ((0 : Int) ≤ t10) && decide (t10 < (↑t1.length : Int))) = c1
 generalize (decide (rn4_9_0 t1 t9 t10 b2_0 b2_1 b2_2 b3_0 b3_1 b3_5 b3_6 b5 ≥ (0 : Int))) = c2
 generalize (decide (t10 < (↑t1.length : Int))) = c3
 cases c3
 ·skip
  rfl
 ·skip
  cases c1
  ·skip
   rfl
  ·skip
   cases c2
   ·skip
    rfl
   ·skip
    cases c0
    ·skip
     rfl
    ·skip
     rfl
abbrev pl4_9 : Type := (List (List AV)) × (List (List AV)) × (List (List AV)) × Int × Int × Int × Int × Int × (List (List AV))
abbrev sl4_9 : Type := Int × Int
noncomputable def vt4_9 (a : pl4_9 × sl4_9) : List AV := [AV.sl Tk.imm [Kd.int IntKind.i64] a.1.1, AV.hp (nat_lit 2) (nat_lit 0), AV.hp (nat_lit 3) (nat_lit 0), AV.int IntKind.i64 a.2.1, AV.int IntKind.i64 a.2.2]
noncomputable def vc4_9 (a : pl4_9 × sl4_9) : List Blk := [Blk.var [AV.sl Tk.imm [Kd.int IntKind.i64] a.1.2.1, AV.sl Tk.imm [Kd.int IntKind.i64] a.1.2.2.1, AV.int IntKind.i64 a.1.2.2.2.1], Blk.var [AV.int IntKind.i64 a.1.2.2.2.2.1, AV.int IntKind.i64 a.1.2.2.2.2.2.1, AV.nil, AV.mp (nat_lit 5) [Kd.int IntKind.i64, Kd.int IntKind.i64, Kd.int IntKind.i64, Kd.int IntKind.i64, Kd.int IntKind.i64, Kd.int IntKind.i64, Kd.sl [Kd.int IntKind.i64, Kd.int IntKind.i64, Kd.int IntKind.i64, Kd.int IntKind.i64]], AV.nil, AV.int IntKind.i64 a.1.2.2.2.2.2.2.1, AV.int IntKind.i64 a.1.2.2.2.2.2.2.2.1], Blk.tbl [Kd.int IntKind.i64, Kd.int IntKind.i64, Kd.int IntKind.i64, Kd.int IntKind.i64, Kd.int IntKind.i64, Kd.int IntKind.i64, Kd.sl [Kd.int IntKind.i64, Kd.int IntKind.i64, Kd.int IntKind.i64, Kd.int IntKind.i64]] a.1.2.2.2.2.2.2.2.2 none]
noncomputable def de4_9 (vt : List AV) (vc : List Blk) : Option (pl4_9 × sl4_9) :=
 match vt with
 | [qa0, qa1, qa2, qa3, qa4] => (match vc with
 | [qb0, qb1, qb2] => (match qa0 with
 | AV.sl Tk.imm [Kd.int IntKind.i64] t1 => (match qa1 with
 | AV.hp (2) (0) => (match qa2 with
 | AV.hp (3) (0) => (match qa3 with
 | AV.int IntKind.i64 t9 => (match qa4 with
 | AV.int IntKind.i64 t10 => (match qb0 with
 | Blk.var [AV.sl Tk.imm [Kd.int IntKind.i64] b2_0, AV.sl Tk.imm [Kd.int IntKind.i64] b2_1, AV.int IntKind.i64 b2_2] => (match qb1 with
 | Blk.var [AV.int IntKind.i64 b3_0, AV.int IntKind.i64 b3_1, AV.nil, AV.mp (5) [Kd.int IntKind.i64, Kd.int IntKind.i64, Kd.int IntKind.i64, Kd.int IntKind.i64, Kd.int IntKind.i64, Kd.int IntKind.i64, Kd.sl [Kd.int IntKind.i64, Kd.int IntKind.i64, Kd.int IntKind.i64, Kd.int IntKind.i64]], AV.nil, AV.int IntKind.i64 b3_5, AV.int IntKind.i64 b3_6] => (match qb2 with
 | Blk.tbl [Kd.int IntKind.i64, Kd.int IntKind.i64, Kd.int IntKind.i64, Kd.int IntKind.i64, Kd.int IntKind.i64, Kd.int IntKind.i64, Kd.sl [Kd.int IntKind.i64, Kd.int IntKind.i64, Kd.int IntKind.i64, Kd.int IntKind.i64]] b5 none => (some ((t1, b2_0, b2_1, b2_2, b3_0, b3_1, b3_5, b3_6, b5), (t9, t10)))
 | _ => none)
 | _ => none)
 | _ => none)
 | _ => none)
 | _ => none)
 | _ => none)
 | _ => none)
 | _ => none)
 | _ => none)
 | _ => none
theorem de4_9_ok (vt : List AV) (vc : List Blk) (a : pl4_9 × sl4_9) (h : de4_9 vt vc = some a) : vt = vt4_9 a ∧ vc = vc4_9 a := by
 unfold de4_9 at h
 split at h
 rotate_left
 ·cases h
 split at h
 rotate_left
 ·cases h
 split at h
 rotate_left
 ·cases h
 split at h
 rotate_left
 ·cases h
 split at h
 rotate_left
 ·cases h
 split at h
 rotate_left
 ·cases h
 split at h
 rotate_left
 ·cases h
 split at h
 rotate_left
 ·cases h
 split at h
 rotate_left
 ·cases h
 split at h
 rotate_left
 ·cases h
 injection h with h
 subst h
 exact ⟨rfl, rfl⟩
noncomputable def g4_9 (p : pl4_9) (s : sl4_9) : Bool := go4_9 p.1 s.1 s.2 p.2.1 p.2.2.1 p.2.2.2.1 p.2.2.2.2.1 p.2.2.2.2.2.1 p.2.2.2.2.2.2.1 p.2.2.2.2.2.2.2.1 p.2.2.2.2.2.2.2.2
noncomputable def n4_9 (p : pl4_9) (s : sl4_9) : sl4_9 := (nx4_9_1 p.1 s.1 s.2 p.2.1 p.2.2.1 p.2.2.2.1 p.2.2.2.2.1 p.2.2.2.2.2.1 p.2.2.2.2.2.2.1 p.2.2.2.2.2.2.2.1 p.2.2.2.2.2.2.2.2, nx4_9_2 p.1 s.1 s.2 p.2.1 p.2.2.1 p.2.2.2.1 p.2.2.2.2.1 p.2.2.2.2.2.1 p.2.2.2.2.2.2.1 p.2.2.2.2.2.2.2.1 p.2.2.2.2.2.2.2.2)
noncomputable def y4_9 (p : pl4_9) (s : sl4_9) : List (Bool × Out) := []
noncomputable def z4_9 (p : pl4_9) (s : sl4_9) : Bool := xc4_9_0 p.1 s.1 s.2 p.2.1 p.2.2.1 p.2.2.2.1 p.2.2.2.2.1 p.2.2.2.2.2.1 p.2.2.2.2.2.2.1 p.2.2.2.2.2.2.2.1 p.2.2.2.2.2.2.2.2
noncomputable def d4_9 (p : pl4_9) (s : sl4_9) : Out := (Ex.exit (nat_lit 0), [AV.sl Tk.imm [Kd.int IntKind.i64] p.1, AV.hp (nat_lit 2) (nat_lit 0), AV.hp (nat_lit 3) (nat_lit 0), AV.int IntKind.i64 s.1], [Blk.var [AV.sl Tk.imm [Kd.int IntKind.i64] p.2.1, AV.sl Tk.imm [Kd.int IntKind.i64] p.2.2.1, AV.int IntKind.i64 p.2.2.2.1], Blk.var [AV.int IntKind.i64 p.2.2.2.2.1, AV.int IntKind.i64 p.2.2.2.2.2.1, AV.nil, AV.mp (nat_lit 5) [Kd.int IntKind.i64, Kd.int IntKind.i64, Kd.int IntKind.i64, Kd.int IntKind.i64, Kd.int IntKind.i64, Kd.int IntKind.i64, Kd.sl [Kd.int IntKind.i64, Kd.int IntKind.i64, Kd.int IntKind.i64, Kd.int IntKind.i64]], AV.nil, AV.int IntKind.i64 p.2.2.2.2.2.2.1, AV.int IntKind.i64 p.2.2.2.2.2.2.2.1], Blk.tbl [Kd.int IntKind.i64, Kd.int IntKind.i64, Kd.int IntKind.i64, Kd.int IntKind.i64, Kd.int IntKind.i64, Kd.int IntKind.i64, Kd.sl [Kd.int IntKind.i64, Kd.int IntKind.i64, Kd.int IntKind.i64, Kd.int IntKind.i64]] p.2.2.2.2.2.2.2.2 none])
noncomputable def ls4_9 : St → Option (Bool × List (Bool × Ex × St) × Ex × St) := lspOf [1, 5, 7, 9, 10] [2, 3, 5] [1, 5, 7, 9] [2, 3, 5] Try.f4.ntmps (0 + tab.nid 4) de4_9 (spI g4_9 n4_9 y4_9 z4_9 d4_9)
theorem lo4_9 (rest : Lsp) : LoopOK1 (cfg Try.prog tab 100000 (gk kw 30) (selL 9 ls4_9 rest) 4 0 Try.f4.ntmps) (loopAt Try.f4 9) := LoopOK1.iter (i := 9) (by kernel_rfl) [1, 5, 7, 9, 10] [2, 3, 5] [1, 5, 7, 9] [2, 3, 5] vt4_9 vc4_9 de4_9 g4_9 n4_9 y4_9 z4_9 d4_9 (fun _ => rfl) de4_9_ok (fun p s => rd4_9 (selL 9 ls4_9 rest) (p.1) (s.1) (s.2) (p.2.1) (p.2.2.1) (p.2.2.2.1) (p.2.2.2.2.1) (p.2.2.2.2.2.1) (p.2.2.2.2.2.2.1) (p.2.2.2.2.2.2.2.1) (p.2.2.2.2.2.2.2.2)) (fun _ _ => rfl)
noncomputable def lsp4 : Lsp := (selL 9 ls4_9 noLsp)
theorem loops4 : ∀ c, Try.f4.body = some c → LoopsOK (cfg Try.prog tab 100000 (gk kw 30) lsp4 4 0 Try.f4.ntmps) c := loops_of [9] (by kernel_rfl) (by kernel_rfl) (fun i hi => by
 simp only [List.mem_cons, List.not_mem_nil, or_false] at hi
 subst hi
 ·exact lo4_9 noLsp)
noncomputable def rev4_0 (w : Int) (l : List (List AV)) : Int := IntKind.i64.wrap ((1 : Int) + IntKind.i64.wrap (w.tmod (8 : Int)))
noncomputable def rev4_1 (w : Int) (l : List (List AV)) : List (List AV) := vev24_0 (rev4_0 w l)
noncomputable def rev4_2 (w : Int) (l : List (List AV)) : Int := vev17_2 (1 : Int) (1 : Int) [] l (rev4_1 w l) (rev4_1 w l) (0 : Int) [] (0 : Int) (0 : Int) []
noncomputable def rev4_3 (w : Int) (l : List (List AV)) : sl4_9 := finL (g4_9 (l, rev4_1 w l, rev4_1 w l, (0 : Int), (1 : Int), (1 : Int), (0 : Int), (0 : Int), [])) (n4_9 (l, rev4_1 w l, rev4_1 w l, (0 : Int), (1 : Int), (1 : Int), (0 : Int), (0 : Int), [])) ((0 : Int), (0 : Int))
noncomputable def rev4_4 (w : Int) (l : List (List AV)) : List (List AV) := vev17_0 (1 : Int) (1 : Int) [] l (rev4_1 w l) (rev4_1 w l) (0 : Int) [] (0 : Int) (0 : Int) []
noncomputable def rev4_5 (w : Int) (l : List (List AV)) : List (List AV) := vev17_1 (1 : Int) (1 : Int) [] l (rev4_1 w l) (rev4_1 w l) (0 : Int) [] (0 : Int) (0 : Int) []
noncomputable def rev4_6 (w : Int) (l : List (List AV)) : Int := vev17n_0 l (rev4_1 w l) (rev4_1 w l) (0 : Int)
noncomputable def vev4_0 (w : Int) (l : List (List AV)) : Bool := bif decide ((↑l.length : Int) > (60 : Int)) then true else bif bif vev24_1 (rev4_0 w l) != (0 : Int) then true else (0 : Int) != (0 : Int) then false else bif (↑(vev17_3 (1 : Int) (1 : Int) [] l (rev4_1 w l) (rev4_1 w l) (0 : Int) [] (0 : Int) (0 : Int) []).length : Int) == (0 : Int) then bif bif true then rev4_2 w l == (rev4_3 w l).fst else false then bif vev22_1 (rev4_4 w l) (rev4_5 w l) (rev4_2 w l) then bif bif true then vev22_0 (rev4_4 w l) (rev4_5 w l) (rev4_2 w l) == (0 : Int) else false then bif bif true then (↑(rev4_4 w l).length : Int) == (↑(rev4_1 w l).length : Int) else false then bif vev25_1 (rev4_1 w l) (rev4_1 w l) (rev4_6 w l) (rev4_4 w l) (rev4_5 w l) (rev4_2 w l) then bif bif true then vev25_0 (rev4_1 w l) (rev4_1 w l) (rev4_6 w l) (rev4_4 w l) (rev4_5 w l) (rev4_2 w l) else false then bif true then true else false else false else false else false else false else false else false else false
noncomputable def vev4_1 (w : Int) (l : List (List AV)) : Bool := bif decide ((↑l.length : Int) > (60 : Int)) then true else bif vev24_2 (rev4_0 w l) then bif bif vev24_1 (rev4_0 w l) != (0 : Int) then true else (0 : Int) != (0 : Int) then true else bif (spI g4_9 n4_9 y4_9 z4_9 d4_9 ((l, rev4_1 w l, rev4_1 w l, (0 : Int), (1 : Int), (1 : Int), (0 : Int), (0 : Int), []), (0 : Int), (0 : Int))).fst then bif vev17_8 (1 : Int) (1 : Int) [] l (rev4_1 w l) (rev4_1 w l) (0 : Int) [] (0 : Int) (0 : Int) [] then bif vev17n_1 l (rev4_1 w l) (rev4_1 w l) (0 : Int) then bif bif (↑(vev17_3 (1 : Int) (1 : Int) [] l (rev4_1 w l) (rev4_1 w l) (0 : Int) [] (0 : Int) (0 : Int) []).length : Int) == (0 : Int) then bif rev4_2 w l == (rev4_3 w l).fst then bif vev22_1 (rev4_4 w l) (rev4_5 w l) (rev4_2 w l) then bif vev22_0 (rev4_4 w l) (rev4_5 w l) (rev4_2 w l) == (0 : Int) then bif (↑(rev4_4 w l).length : Int) == (↑(rev4_1 w l).length : Int) then vev25_1 (rev4_1 w l) (rev4_1 w l) (rev4_6 w l) (rev4_4 w l) (rev4_5 w l) (rev4_2 w l) else true else true else false else true else true then true else false else false else false else false else false
theorem ev4 (w : Int) (l : List (List AV)) : evFun (cfg Try.prog tab 100000 (gk kw 30) lsp4 4 ([] : List Blk).length Try.f4.ntmps) Try.f4 [.int .u8 w, .sl .imm [.int .i64] l] [] = bif vev4_1 w l then some (AV.bool (vev4_0 w l), []) else none := by
 have h : evFun (cfg Try.prog tab 100000 (gk kw 30) lsp4 4 ([] : List Blk).length Try.f4.ntmps) Try.f4 [.int .u8 w, .sl .imm [.int .i64] l] [] = bif decide ((↑l.length : Int) > (60 : Int)) then some (AV.bool true, []) else bif vev24_2 (rev4_0 w l) then bif bif vev24_1 (rev4_0 w l) != (0 : Int) then true else true then bif bif vev24_1 (rev4_0 w l) != (0 : Int) then true else bif false then true else (0 : Int) != (0 : Int) then some (AV.bool false, []) else bif (spI g4_9 n4_9 y4_9 z4_9 d4_9 ((l, rev4_1 w l, rev4_1 w l, (0 : Int), (1 : Int), (1 : Int), (0 : Int), (0 : Int), []), (0 : Int), (0 : Int))).fst then bif vev17_8 (1 : Int) (1 : Int) [] l (rev4_1 w l) (rev4_1 w l) (0 : Int) [] (0 : Int) (0 : Int) [] then bif vev17n_1 l (rev4_1 w l) (rev4_1 w l) (0 : Int) then bif bif (↑(vev17_3 (1 : Int) (1 : Int) [] l (rev4_1 w l) (rev4_1 w l) (0 : Int) [] (0 : Int) (0 : Int) []).length : Int) == (0 : Int) then bif bif true then rev4_2 w l == (rev4_3 w l).fst else false then bif vev22_1 (rev4_4 w l) (rev4_5 w l) (rev4_2 w l) then bif bif true then vev22_0 (rev4_4 w l) (rev4_5 w l) (rev4_2 w l) == (0 : Int) else false then bif bif true then (↑(rev4_4 w l).length : Int) == (↑(rev4_1 w l).length : Int) else false then bif vev25_1 (rev4_1 w l) (rev4_1 w l) (rev4_6 w l) (rev4_4 w l) (rev4_5 w l) (rev4_2 w l) then bif bif true then vev25_0 (rev4_1 w l) (rev4_1 w l) (rev4_6 w l) (rev4_4 w l) (rev4_5 w l) (rev4_2 w l) else false then true else true else false else true else true else false else true else true then some (AV.bool (bif (↑(vev17_3 (1 : Int) (1 : Int) [] l (rev4_1 w l) (rev4_1 w l) (0 : Int) [] (0 : Int) (0 : Int) []).length : Int) == (0 : Int) then bif bif true then rev4_2 w l == (rev4_3 w l).fst else false then bif vev22_1 (rev4_4 w l) (rev4_5 w l) (rev4_2 w l) then bif bif true then vev22_0 (rev4_4 w l) (rev4_5 w l) (rev4_2 w l) == (0 : Int) else false then bif bif true then (↑(rev4_4 w l).length : Int) == (↑(rev4_1 w l).length : Int) else false then bif vev25_1 (rev4_1 w l) (rev4_1 w l) (rev4_6 w l) (rev4_4 w l) (rev4_5 w l) (rev4_2 w l) then bif bif true then vev25_0 (rev4_1 w l) (rev4_1 w l) (rev4_6 w l) (rev4_4 w l) (rev4_5 w l) (rev4_2 w l) else false then bif true then true else false else false else false else false else false else false else false else false), []) else none else none else none else none else none else none := by kernel_rfl
 rw [h]
 clear h
 unfold vev4_0 vev4_1
 generalize ((spI g4_9 n4_9 y4_9 z4_9 d4_9 ((l, rev4_1 w l, rev4_1 w l, (0 : Int), (1 : Int), (1 : Int), (0 : Int), (0 : Int), []), (0 : Int), (0 : Int))).fst) = c0
 generalize ((↑(vev17_3 (1 : Int) (1 : Int) [] l (rev4_1 w l) (rev4_1 w l) (0 : Int) [] (0 : Int) (0 : Int) []).length : Int) == (0 : Int)) = c1
 generalize (vev17_8 (1 : Int) (1 : Int) [] l (rev4_1 w l) (rev4_1 w l) (0 : Int) [] (0 : Int) (0 : Int) []) = c2
 generalize (decide ((↑l.length : Int) > (60 : Int))) = c3
 generalize ((↑(rev4_4 w l).length : Int) == (↑(rev4_1 w l).length : Int)) = c4
 generalize (vev22_0 (rev4_4 w l) (rev4_5 w l) (rev4_2 w l) == (0 : Int)) = c5
 generalize (vev25_0 (rev4_1 w l) (rev4_1 w l) (rev4_6 w l) (rev4_4 w l) (rev4_5 w l) (rev4_2 w l)) = c6
 generalize (vev25_1 (rev4_1 w l) (rev4_1 w l) (rev4_6 w l) (rev4_4 w l) (rev4_5 w l) (rev4_2 w l)) = c7
 generalize ((0 : Int) != (0 : Int)) = c8
 generalize (vev24_1 (rev4_0 w l) != (0 : Int)) = c9
 generalize (rev4_2 w l == (rev4_3 w l).fst) = c10
 generalize (vev17n_1 l (rev4_1 w l) (rev4_1 w l) (0 : Int)) = c11
 generalize (vev22_1 (rev4_4 w l) (rev4_5 w l) (rev4_2 w l)) = c12
 generalize (vev24_2 (rev4_0 w l)) = c13
 cases c3
 ·skip
  cases c13
  ·skip
   rfl
  ·skip
   cases c9
   ·skip
    cases c8
    ·skip
     cases c0
     ·skip
      rfl
     ·skip
      cases c2
      ·skip
       rfl
      ·skip
       cases c11
       ·skip
        rfl
       ·skip
        cases c1
        ·skip
         rfl
        ·skip
         cases c10
         ·skip
          rfl
         ·skip
          cases c12
          ·skip
           rfl
          ·skip
           cases c5
           ·skip
            rfl
           ·skip
            cases c4
            ·skip
             rfl
            ·skip
             cases c7
             ·skip
              rfl
             ·skip
              cases c6
              ·skip
               rfl
              ·skip
               rfl
    ·skip
     rfl
   ·skip
    rfl
 ·skip
  rfl
end Go.Proofs.Gv
