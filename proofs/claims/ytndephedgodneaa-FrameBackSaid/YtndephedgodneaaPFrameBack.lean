/-
The statement FrameBack: for every input the law returns true, and each argument reads behind the call as it read before. No condition.
-/
import Derived.Test.YtndephedgodneaaGpFr11
import Derived.Test.YtndephedgodneaaGwA
import Derived.Test.YtndephedgodneaaRows
namespace Go.Proofs.Ytndephedgodneaa.frameBack
open Go.ChangeShapes Go.WideShapes Go.ChangeAt Go.RowKit Go.Proofs.Gv
set_option linter.unusedVariables false

theorem own : ownKnob Try.prog.godebug = none := by kernel_rfl
theorem laidOut : laidOutB Try.prog = true := by kernel_rfl

set_option maxRecDepth 100000 in
theorem lifted (os : Os) (started : os.Started) (H : Type) (enc : TypeId × Value → H) :
    ReturnsInHanded {} Try.checked os 7 .any (Rows.frameBackSpec.pre6 enc Try.prog Try.f7 Rows.frameBackRow.domain false) (Rows.frameBackSpec.post enc Try.prog Try.f7 false true false false) := by
  refine returnsInHanded_of_change_sized (C := Try.checked) own started (by kernel_rfl) Try.func7
    (ChangeSpec.witness6 (enc := enc) (C := Try.checked) false ⟨#[], #[.agg #[.int .u8 0, .int .u8 0, .int .i64 0, .string ByteArray.empty, .int .i64 0, .int .i64 0, .bool false, .int .u8 0, .int .u32 0, .int .i64 0, .int .i64 0, .slice none 0 0], .int .u8 0], []⟩ 8 (by kernel_rfl) (by kernel_rfl) (by kernel_rfl) (by kernel_rfl)) ?_
  intro W base args ds gs before hval0 hW hcnd hsz0 _
  have hval : ∀ (j : Nat) t v, Try.f7.params[j]? = some t → args[j]? = some v → Value.okWide Try.prog W .any base t v := hval0
  have hsz : (DataW.weightsEach Try.prog (Try.f7.params.toList ++ Rows.frameBackSpec.plain.varTypes Try.prog) (ds ++ gs)).all (· ≤ reachBytes) = true := hsz0
  have hW' := hW
  obtain ⟨p, q, hA0, hV, rfl, hfz, hnd⟩ := hW
  have hA : DataW.TrodAll enc Try.prog W 0 (fun _ => true) true Try.f7.params.toList args.toList ds p := hA0
  rw [Try.params7] at hA hval hsz
  obtain ⟨v0, vs0, d0, ds0, p0, q0, hargs, rfl, rfl, h0, r0⟩ := trodAll_cons hA
  obtain ⟨v1, vs1, d1, ds1, p1, q1, rfl, rfl, rfl, h1, r1⟩ := trodAll_cons r0
  obtain ⟨rfl, rfl, rfl⟩ := trodAll_nil r1
  obtain rfl : args = #[v0, v1] := by cases args; simp_all
  obtain ⟨rfl, rfl⟩ := trodVars_none hV
  have k0 := h0
  have lt0 : ∀ x ∈ p0, x.block < W.heap.size := by obtain ⟨m, hm⟩ := k0; exact DataW.trod_lt m _ _ _ hm
  have rd0 : Gv.Rd enc Try.prog W 35 v0.cells.toList d0 := by obtain ⟨m, hm⟩ := k0; exact ⟨m, _, hm⟩
  obtain ⟨cs0, rfl, hcs0⟩ := okWide_struct Try.underlying35 (hval 0 35 v0 rfl rfl)
  obtain ⟨x0, ok0, hV0⟩ := Gv.rd_agg (n := 8) (by kernel_rfl) rd0
  have ok0' : okKL [.int .u8, .int .u8, .int .i64, .str, .int .i64, .int .i64, .bool, .int .u8, .int .u32, .int .i64, .int .i64, .sl [.int .u16, .int .u32]] x0 := ok0
  clear ok0
  simp only [okKL, okK] at ok0'
  obtain ⟨_, _, rfl, ⟨x0_0, rfl, wx0_0⟩, ⟨_, _, rfl, ⟨x0_1, rfl, wx0_1⟩, ⟨_, _, rfl, ⟨x0_2, rfl, wx0_2⟩, ⟨_, _, rfl, ⟨x0_3, rfl, wx0_3⟩, ⟨_, _, rfl, ⟨x0_4, rfl, wx0_4⟩, ⟨_, _, rfl, ⟨x0_5, rfl, wx0_5⟩, ⟨_, _, rfl, ⟨x0_6, rfl⟩, ⟨_, _, rfl, ⟨x0_7, rfl, wx0_7⟩, ⟨_, _, rfl, ⟨x0_8, rfl, wx0_8⟩, ⟨_, _, rfl, ⟨x0_9, rfl, wx0_9⟩, ⟨_, _, rfl, ⟨x0_10, rfl, wx0_10⟩, ⟨_, _, rfl, ⟨x0_11, rfl, lx0_11, wx0_11⟩, rfl⟩⟩⟩⟩⟩⟩⟩⟩⟩⟩⟩⟩ := ok0'
  have k1 := h1
  have lt1 : ∀ x ∈ p1, x.block < W.heap.size := by obtain ⟨m, hm⟩ := k1; exact DataW.trod_lt m _ _ _ hm
  have rd1 : Gv.Rd enc Try.prog W 5 v1.cells.toList d1 := by obtain ⟨m, hm⟩ := k1; exact ⟨m, _, hm⟩
  obtain ⟨a1, rfl⟩ := okWide_int Try.underlying5 (hval 1 5 v1 rfl rfl)
  obtain ⟨x1, ok1, hV1⟩ := Gv.rd_one (n := 8) (z := .int .u8) (by kernel_rfl) rfl rd1
  simp only [okK] at ok1
  obtain ⟨x1, rfl, wx1⟩ := ok1
  have t0_3 : x0_3.length ≤ 140737488351232 := Nat.le_trans (Gv.agg_roomS (i := 3) (j := 3) Try.underlying35 rfl rfl (by kernel_rfl) Try.underlying9 rd0 (hV0 true) rfl (Gv.each_room hsz (j := 0) rfl rfl)) (by decide)
  have s0_11 : x0_11.length * 8 ≤ 140737488355328 := by
    have h := Nat.le_trans (Gv.agg_room (i := 11) (j := 11) Try.underlying35 rfl rfl (by kernel_rfl) Try.underlying26 rd0 (hV0 true) rfl (Gv.each_room hsz (j := 0) rfl rfl)) Gv.reach_le
    rwa [show Try.prog.bytesOf 91 = 8 from by kernel_rfl] at h
  clear hA0 hval0
  refine (Gv.law_of ((law7 wx0_0 wx0_1 wx0_7 wx0_8 wx0_11 wx1 t0_3 s0_11)) _ W rfl (Gv.VT.of (Gv.VT.cons (hV0 true) (Gv.VT.cons (hV1 true) Gv.VT.nil)))).mono fun e W' ⟨he, bel⟩ => ?_
  subst he
  exact ⟨_, rfl, _, _, _, [], _, [], hW', trodAll_mk1 (shut_bool Try.underlying4 _), (trodAll_cons_mk (Below.trod laidOut (by kernel_rfl) (of_decide_eq_true (by kernel_rfl)) k0 bel lt0) (trodAll_cons_mk (Below.trod laidOut (by kernel_rfl) (of_decide_eq_true (by kernel_rfl)) k1 bel lt1) trodAll_mk0)), rfl, bel.frame _, fun h => by cases h⟩

theorem over : Rows.frameBackRow.holds Try.pinned (OpenSpec.ofChange Rows.frameBackSpec) :=
  OpenClaim.holds_of_wide 7 Try.f7 rfl rfl rfl rfl rfl rfl rfl ⟨rfl, rfl, rfl, rfl, rfl⟩ rfl rfl rfl rfl rfl (by kernel_rfl) Try.func7 (by kernel_rfl)
    (of_decide_eq_true (by kernel_rfl)) (by unfold Func.isWrapper; rw [if_neg (of_decide_eq_false (by kernel_rfl))]; exact ⟨rfl, rfl⟩)
    (fun os started H enc _ => lifted os started H enc)

/-- The statement. -/
theorem proved : Rows.FrameBackSaid := over
end Go.Proofs.Ytndephedgodneaa.frameBack
