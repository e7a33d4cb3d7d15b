/-
How a head and a byte read.
-/
import Derived.Test.YtcnbeijlcndjpaaLift
namespace Go.Proofs.Ytcnbeijlcndjpaa
open Go.ChangeShapes Go.WideShapes Go.ChangeAt Go.RowKit
theorem wfb_u8 {n : Int} (h : (Lit.int .u8 n).wf = true) : 0 ≤ n ∧ n ≤ 255 := by
  simpa [Lit.wf, IntKind.min, IntKind.max, IntKind.signed, IntKind.bits] using h
theorem wfb_i64 {n : Int} (h : (Lit.int .i64 n).wf = true) : -9223372036854775808 ≤ n ∧ n ≤ 9223372036854775807 := by
  simpa [Lit.wf, IntKind.min, IntKind.max, IntKind.signed, IntKind.bits] using h
section
variable {H : Type} {ec : TypeId × Value → H} {w : World}
theorem rd_byte {cs : List Value} {d : DataW H} (h : Rd ec Try.prog w 5 cs d) : ∃ x : UInt8, cs = eByte x ∧ True := by
  obtain ⟨n, rfl, hw⟩ := Rd.int Try.underlying5 h
  have := wfb_u8 hw
  refine ⟨UInt8.ofNat n.toNat, ?_, trivial⟩
  simp [eByte]
  omega
/-- A head: its four numbers. -/
structure Hd where
  l : Int
  t : Int
  f : Int
  s : Int
def eHd (x : Hd) : List Value := [.int .i64 x.l, .int .u8 x.t, .int .u8 x.f, .int .i64 x.s]
def okHd (x : Hd) : Prop := (-9223372036854775808 ≤ x.l ∧ x.l ≤ 9223372036854775807) ∧ (0 ≤ x.t ∧ x.t ≤ 255) ∧ (0 ≤ x.f ∧ x.f ≤ 255) ∧ (-9223372036854775808 ≤ x.s ∧ x.s ≤ 9223372036854775807)
theorem rd_head {cs : List Value} {d : DataW H} (h : Rd ec Try.prog w 23 cs d) : ∃ x : Hd, cs = eHd x ∧ okHd x := by
  obtain ⟨hl, hf⟩ := Rd.fields (L := [(3, 0, 1), (5, 1, 1), (5, 2, 1), (3, 3, 1)]) (by kernel_rfl) h
  rw [show Try.prog.cellsOf 23 = 4 from by kernel_rfl] at hl
  match cs, hl with
  | [c0, c1, c2, c3], _ =>
    obtain ⟨_, h0⟩ := hf _ (List.mem_cons_self ..)
    obtain ⟨_, h1⟩ := hf _ (List.mem_cons_of_mem _ (List.mem_cons_self ..))
    obtain ⟨_, h2⟩ := hf _ (List.mem_cons_of_mem _ (List.mem_cons_of_mem _ (List.mem_cons_self ..)))
    obtain ⟨_, h3⟩ := hf _ (List.mem_cons_of_mem _ (List.mem_cons_of_mem _ (List.mem_cons_of_mem _ (List.mem_cons_self ..))))
    obtain ⟨a, ea, wa⟩ := Rd.int Try.underlying3 h0
    obtain ⟨b, eb, wb⟩ := Rd.int Try.underlying5 h1
    obtain ⟨c, ec', wc⟩ := Rd.int Try.underlying5 h2
    obtain ⟨d, ed, wd⟩ := Rd.int Try.underlying3 h3
    simp at ea eb ec' ed
    subst ea eb ec' ed
    exact ⟨⟨a, b, c, d⟩, rfl, wfb_i64 wa, wfb_u8 wb, wfb_u8 wc, wfb_i64 wd⟩
end
end Go.Proofs.Ytcnbeijlcndjpaa
