/-
The statement PoolWorks: for every input the law returns true, and each argument reads behind the call as it read before. No condition.
-/
import Derived.Test.YthnbpgiohimkoaaPw48
import Derived.Test.YthnbpgiohimkoaaPw39
import Derived.Test.YthnbpgiohimkoaaRows
namespace Go.Proofs.Ythnbpgiohimkoaa.poolWorks
open Go.ChangeShapes Go.WideShapes Go.ChangeAt Go.RowKit Go.Proofs.Gv
set_option linter.unusedVariables false

theorem own : ownKnob Try.prog.godebug = none := by kernel_rfl
theorem laidOut : laidOutB Try.prog = true := by kernel_rfl

set_option maxRecDepth 100000 in
theorem lifted (os : Os) (started : os.Started) (H : Type) (enc : TypeId × Value → H) :
    ReturnsInHanded {} Try.checked os 3 .any (Rows.poolWorksSpec.pre6 enc Try.prog Try.f3 Rows.poolWorksRow.domain false) (Rows.poolWorksSpec.post enc Try.prog Try.f3 false true false false) := by
  refine returnsInHanded_of_change_sized (C := Try.checked) own started (by kernel_rfl) Try.func3
    (ChangeSpec.witness6 (enc := enc) (C := Try.checked) false ⟨#[], #[.agg #[.slice none 0 0, .slice none 0 0, .int .i64 0], .slice none 0 0, .slice none 0 0], []⟩ 8 (by kernel_rfl) (by kernel_rfl) (by kernel_rfl) (by kernel_rfl)) ?_
  intro W base args ds gs before hval0 hW hcnd hsz0 _
  have hval : ∀ (j : Nat) t v, Try.f3.params[j]? = some t → args[j]? = some v → Value.okWide Try.prog W .any base t v := hval0
  have hsz : (DataW.weightsEach Try.prog (Try.f3.params.toList ++ Rows.poolWorksSpec.plain.varTypes Try.prog) (ds ++ gs)).all (· ≤ reachBytes) = true := hsz0
  have hW' := hW
  obtain ⟨p, q, hA0, hV, rfl, hfz, hnd⟩ := hW
  have hA : DataW.TrodAll enc Try.prog W 0 (fun _ => true) true Try.f3.params.toList args.toList ds p := hA0
  rw [Try.params3] at hA hval hsz
  obtain ⟨v0, vs0, d0, ds0, p0, q0, hargs, rfl, rfl, h0, r0⟩ := trodAll_cons hA
  obtain ⟨v1, vs1, d1, ds1, p1, q1, rfl, rfl, rfl, h1, r1⟩ := trodAll_cons r0
  obtain ⟨v2, vs2, d2, ds2, p2, q2, rfl, rfl, rfl, h2, r2⟩ := trodAll_cons r1
  obtain ⟨rfl, rfl, rfl⟩ := trodAll_nil r2
  obtain rfl : args = #[v0, v1, v2] := by cases args; simp_all
  obtain ⟨rfl, rfl⟩ := trodVars_none hV
  have k0 := h0
  have lt0 : ∀ x ∈ p0, x.block < W.heap.size := by obtain ⟨m, hm⟩ := k0; exact DataW.trod_lt m _ _ _ hm
  have rd0 : Gv.Rd enc Try.prog W 24 v0.cells.toList d0 := by obtain ⟨m, hm⟩ := k0; exact ⟨m, _, hm⟩
  obtain ⟨cs0, rfl, hcs0⟩ := okWide_struct Try.underlying24 (hval 0 24 v0 rfl rfl)
  obtain ⟨x0, ok0, hV0⟩ := Gv.rd_agg (n := 8) (by kernel_rfl) rd0
  have ok0' : okKL [.sl [.int .i64], .sl [.int .i64], .int .i64] x0 := ok0
  clear ok0
  simp only [okKL, okK] at ok0'
  obtain ⟨_, _, rfl, ⟨x0_0, rfl, lx0_0, wx0_0⟩, ⟨_, _, rfl, ⟨x0_1, rfl, lx0_1, wx0_1⟩, ⟨_, _, rfl, ⟨x0_2, rfl, wx0_2⟩, rfl⟩⟩⟩ := ok0'
  have k1 := h1
  have lt1 : ∀ x ∈ p1, x.block < W.heap.size := by obtain ⟨m, hm⟩ := k1; exact DataW.trod_lt m _ _ _ hm
  have rd1 : Gv.Rd enc Try.prog W 25 v1.cells.toList d1 := by obtain ⟨m, hm⟩ := k1; exact ⟨m, _, hm⟩
  obtain ⟨A1, n1, c1, rfl⟩ := okWide_slice Try.underlying25 (hval 1 25 v1 rfl rfl)
  obtain ⟨x1, ok1, hV1⟩ := Gv.rd_one (n := 8) (z := .sl [.int .u8]) (by kernel_rfl) rfl rd1
  simp only [okK] at ok1
  obtain ⟨x1, rfl, lx1, wx1⟩ := ok1
  have k2 := h2
  have lt2 : ∀ x ∈ p2, x.block < W.heap.size := by obtain ⟨m, hm⟩ := k2; exact DataW.trod_lt m _ _ _ hm
  have rd2 : Gv.Rd enc Try.prog W 22 v2.cells.toList d2 := by obtain ⟨m, hm⟩ := k2; exact ⟨m, _, hm⟩
  obtain ⟨A2, n2, c2, rfl⟩ := okWide_slice Try.underlying22 (hval 2 22 v2 rfl rfl)
  obtain ⟨x2, ok2, hV2⟩ := Gv.rd_one (n := 8) (z := .sl [.int .i64]) (by kernel_rfl) rfl rd2
  simp only [okK] at ok2
  obtain ⟨x2, rfl, lx2, wx2⟩ := ok2
  clear hA0 hval0
  refine (Gv.law_of (law3 x0_0 x0_1 x0_2 x1 x2 wx2) _ W rfl (Gv.VT.of (Gv.VT.cons (hV0 true) (Gv.VT.cons (hV1 true) (Gv.VT.cons (hV2 true) Gv.VT.nil))))).mono fun e W' ⟨he, bel⟩ => ?_
  subst he
  exact ⟨_, rfl, _, _, _, [], _, [], hW', trodAll_mk1 (shut_bool Try.underlying4 _), (trodAll_cons_mk (Below.trod laidOut (by kernel_rfl) (of_decide_eq_true (by kernel_rfl)) k0 bel lt0) (trodAll_cons_mk (Below.trod laidOut (by kernel_rfl) (of_decide_eq_true (by kernel_rfl)) k1 bel lt1) (trodAll_cons_mk (Below.trod laidOut (by kernel_rfl) (of_decide_eq_true (by kernel_rfl)) k2 bel lt2) trodAll_mk0))), rfl, bel.frame _, fun h => by cases h⟩

theorem over : Rows.poolWorksRow.holds Try.pinned (OpenSpec.ofChange Rows.poolWorksSpec) :=
  OpenClaim.holds_of_wide 3 Try.f3 rfl rfl rfl rfl rfl rfl rfl ⟨rfl, rfl, rfl, rfl, rfl⟩ rfl rfl rfl rfl rfl (by kernel_rfl) Try.func3 (by kernel_rfl)
    (of_decide_eq_true (by kernel_rfl)) (by unfold Func.isWrapper; rw [if_neg (of_decide_eq_false (by kernel_rfl))]; exact ⟨rfl, rfl⟩)
    (fun os started H enc _ => lifted os started H enc)

/-- The statement. -/
theorem proved : Rows.PoolWorksSaid := over
end Go.Proofs.Ythnbpgiohimkoaa.poolWorks
