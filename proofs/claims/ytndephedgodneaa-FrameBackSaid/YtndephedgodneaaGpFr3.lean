/-
FrameReads: both read a frame's payload alike.
-/
import Derived.Test.YtndephedgodneaaGaFr3
import Derived.Test.YtndephedgodneaaGwJ
namespace Go.Proofs.Gv
open Go.Proofs
set_option linter.unusedVariables false
/-! Numbers. -/
theorem ends58 {s : List UInt8} (hl : s.length ≤ 4) : Ends (g58_3 (s, (s.length : Int))) (n58_3 (s, (s.length : Int))) ((0 : Int), (0 : Int)) (numA s s.length, (s.length : Int)) := by
  refine Ends.count (go := g58_3 (s, (s.length : Int))) (next := n58_3 (s, (s.length : Int))) s.length (fun i => (numA s i, (i : Int))) (fun i hi => ⟨?_, ?_⟩) ?_
  · unfold g58_3 go58_3
    dsimp only
    rw [decide_eq_true (show (i : Int) < (s.length : Int) by omega), decide_eq_true (show (0 : Int) ≤ (i : Int) by omega)]
    rfl
  · unfold n58_3 nx58_3_1 nx58_3_3
    dsimp only
    have hb := numA_le s i (by omega)
    have hc := bA_le s i
    have hd : numA s i ≤ 16777215 := by
      have h0 := bA_le s 0
      have h1 := bA_le s 1
      have h2 := bA_le s 2
      have hc : i = 0 ∨ i = 1 ∨ i = 2 ∨ i = 3 := by omega
      rcases hc with h | h | h | h <;> subst h <;> simp only [numA] <;> omega
    rw [Int.toNat_natCast, wrapN i s.length hi (by omega), two8, wrapU (numA s i * 256) (by omega) (by omega)]
    have he : ((s.getD i 0).toNat : Int) = bA s i := rfl
    rw [he, wrapU (bA s i) (by omega) (by omega), or8 (by omega) (by omega) (by omega) (by omega) (by omega)]
    simp only [numA]
    rw [Int.mul_comm]
  · unfold g58_3 go58_3
    dsimp only
    rw [decide_eq_false (by omega)]
    rfl
theorem r58 {s : List UInt8} (hl : s.length ≤ 4) : (rev58_0 s).fst = numA s s.length ∧ vev58_0 s = true := by
  have h := (ends58 hl).fin
  unfold rev58_0 vev58_0
  simp only [spI]
  rw [h.2, h.1]
  refine ⟨rfl, ?_⟩
  unfold y58_3 z58_3 xc58_3_0
  dsimp only
  rw [decide_eq_false (by omega)]
  rfl
theorem ends63 {tk : Tk} {s : List UInt8} (hl : s.length ≤ 4) : Ends (g63_3 (tk, s.map ofB)) (n63_3 (tk, s.map ofB)) ((0 : Int), (0 : Int)) (numA s s.length, (s.length : Int)) := by
  refine Ends.count (go := g63_3 (tk, s.map ofB)) (next := n63_3 (tk, s.map ofB)) s.length (fun i => (numA s i, (i : Int))) (fun i hi => ⟨?_, ?_⟩) ?_
  · unfold g63_3 go63_3
    dsimp only
    rw [List.length_map, decide_eq_true (show (i : Int) < (s.length : Int) by omega), decide_eq_true (show (0 : Int) ≤ (i : Int) by omega)]
    rfl
  · unfold n63_3 nx63_3_2 nx63_3_3
    dsimp only
    have hb := numA_le s i (by omega)
    have hc := bA_le s i
    rw [Int.toNat_natCast, gB hi, wrapN i s.length hi (by omega), wrapOf (256 * numA s i) (by omega) (by omega), wrapOf (bA s i) (by omega) (by omega), wrapOf _ (by omega) (by omega)]
    rfl
  · unfold g63_3 go63_3
    dsimp only
    rw [List.length_map, decide_eq_false (by omega)]
    rfl
theorem r42 {s : List UInt8} (hl : s.length ≤ 4) : vev42_0 s = numA s s.length ∧ vev42_1 s = true := by
  have h := (ends63 (tk := .imm) hl).fin
  unfold vev42_0 vev42_1 rev63_0 vev63_0
  simp only [spI]
  rw [h.2, h.1]
  refine ⟨rfl, ?_⟩
  unfold y63_3 z63_3 xc63_3_0
  dsimp only
  rw [List.length_map, decide_eq_false (show ¬ ((s.length : Int) < (s.length : Int)) by omega), decide_eq_true (show s.length ≤ 4611686018427387904 by omega)]
  rfl
theorem len4 {s : List UInt8} (h : 4 ≤ s.length) : (s.take 4).length = 4 := by simp; omega
/-- The 31 bits ahead. -/
def N31 (s : List UInt8) : Int := numA (s.take 4) 4 % 2147483648
theorem N31_le (s : List UInt8) : 0 ≤ N31 s ∧ N31 s ≤ 2147483647 := by unfold N31; omega
theorem r59 {s : List UInt8} (h : 4 ≤ s.length) : vev59_0 s = N31 s ∧ vev59_1 s = true := by
  have hl := len4 h
  obtain ⟨h1, h2⟩ := r58 (s := s.take 4) (by omega)
  have hb := numA_le (s.take 4) 4 (by omega)
  have e : rev59_0 s = s.take 4 := rfl
  unfold vev59_0 vev59_1
  rw [e, h1, h2, hl, and31 (by omega) (by omega), wrapOf _ (by omega) (by omega)]
  refine ⟨rfl, ?_⟩
  unfold bnd
  rw [decide_eq_true (show (4 : Int) ≤ (s.length : Int) by omega)]
  rfl
theorem r43 {s : List UInt8} (h : 4 ≤ s.length) : vev43_0 s = N31 s ∧ vev43_1 s = true := by
  have hl := len4 h
  obtain ⟨h1, h2⟩ := r42 (s := s.take 4) (by omega)
  have hb := numA_le (s.take 4) 4 (by omega)
  have e : rev43_0 s = s.take 4 := rfl
  unfold vev43_0 vev43_1
  rw [e, h1, h2, hl, Int.tmod_eq_emod_of_nonneg (by omega)]
  refine ⟨rfl, ?_⟩
  unfold bnd
  rw [decide_eq_true (show (4 : Int) ≤ (s.length : Int) by omega)]
  rfl
/-! Flags. -/
noncomputable def hasR (g fl : Int) : sl55_2 := iterL (g55_2 ()) (n55_2 ()) 8 (g, fl, 0)
noncomputable def hasV (g fl : Int) : Bool := bif xc55_2_0 (hasR g fl).fst (hasR g fl).snd.fst (hasR g fl).snd.snd then false else true
noncomputable def hasT (g fl : Int) : Bool := (!g55_2 () (hasR g fl)) && ((xc55_2_0 (hasR g fl).fst (hasR g fl).snd.fst (hasR g fl).snd.snd || xc55_2_1 (hasR g fl).fst (hasR g fl).snd.fst (hasR g fl).snd.snd) && (hasV g fl == (bits BinOp.and IntKind.u8 g fl != (0 : Int))))
noncomputable def allB (p : Int → Bool) : Nat → Bool
  | 0 => true
  | n + 1 => p (n : Int) && allB p n
theorem allB_at {p : Int → Bool} : ∀ n, allB p n = true → ∀ g : Int, 0 ≤ g → g < (n : Int) → p g = true := by
  intro n
  induction n with
  | zero => intro _ g h0 h1; omega
  | succ n ih =>
    intro h g h0 h1
    simp only [allB, Bool.and_eq_true] at h
    by_cases hg : g = (n : Int)
    · rw [hg]; exact h.1
    · exact ih h.2 g h0 (by omega)
theorem has8 : allB (fun g => hasT g 8) 256 = true := by kernel_rfl
theorem has32 : allB (fun g => hasT g 32) 256 = true := by kernel_rfl
theorem has1 : allB (fun g => hasT g 1) 256 = true := by kernel_rfl
theorem r55 {g fl : Int} (h : hasT g fl = true) : vev55_0 g fl = (bits BinOp.and IntKind.u8 g fl != (0 : Int)) ∧ vev55_1 g fl = true := by
  unfold hasT at h
  simp only [Bool.and_eq_true] at h
  obtain ⟨h1, h2, h3⟩ := h
  have e : Ends (g55_2 ()) (n55_2 ()) (g, fl, (0 : Int)) (hasR g fl) := ⟨8, rfl, by simpa using h1⟩
  have f := e.fin
  have h3' := eq_of_beq h3
  have er : rev55_0 g fl = hasR g fl := f.2
  unfold vev55_0 vev55_1
  rw [er]
  refine ⟨h3', ?_⟩
  simp only [spI]
  rw [f.2, f.1]
  unfold y55_2 z55_2
  simp only [List.any_cons, List.any_nil, Bool.or_false, Bool.true_and]
  rw [h2]
  rfl
/-! The weight. -/
theorem top_bit : allB (fun x => (bits BinOp.and IntKind.u8 x 128 != (0 : Int)) == decide (x ≥ 128)) 256 = true := by kernel_rfl
theorem r57 {t g n : Int} {d : List UInt8} {pa de : Int} {so : Bool} {we co la inc : Int} {ps : List (List AV)} {s : List UInt8} (h : 5 ≤ s.length) :
    vev57_0 t g n d pa de so we co la inc ps s = decide (bA s 0 ≥ 128) ∧ vev57_1 t g n d pa de so we co la inc ps s = bA s 4 ∧ vev57_2 t g n d pa de so we co la inc ps s = true := by
  have hb := bA_le s 0
  refine ⟨eq_of_beq (allB_at 256 top_bit (bA s 0) (by omega) (by omega)), rfl, ?_⟩
  unfold vev57_2
  rw [(r59 (by omega)).2, decide_eq_true (show (0 : Int) < (s.length : Int) by omega), decide_eq_true (show (4 : Int) < (s.length : Int) by omega)]
  rfl
theorem r41 {t g n : Int} {d : List UInt8} {pa de : Int} {so : Bool} {we co la inc : Int} {s : List UInt8} (h : 5 ≤ s.length) :
    vev41n_0 t g n d pa de so we co la inc s = decide (bA s 0 ≥ 128) ∧ vev41n_1 t g n d pa de so we co la inc s = bA s 4 ∧ vev41n_2 t g n d pa de so we co la inc s = true := by
  refine ⟨rfl, rfl, ?_⟩
  unfold vev41n_2
  rw [(r43 (by omega)).2, decide_eq_true (show (0 : Int) < (s.length : Int) by omega), decide_eq_true (show (4 : Int) < (s.length : Int) by omega)]
  rfl
/-! The settings. -/
/-- The pair at place i. -/
def pairA (s : List UInt8) (i : Nat) : List AV := [AV.int IntKind.u16 (IntKind.u16.wrap (numA ((s.drop i).take 2) 2)), AV.int IntKind.u32 (numA ((s.drop (i + 2)).take 4) 4)]
def pairsA (s : List UInt8) (k : Nat) : List (List AV) := (List.range k).map (fun i => pairA s (6 * i))
theorem pairsA_len (s : List UInt8) (k : Nat) : (pairsA s k).length = k := by simp [pairsA]
theorem pairsA_succ (s : List UInt8) (k : Nat) : pairsA s (k + 1) = pairsA s k ++ [pairA s (6 * k)] := by simp [pairsA, List.range_succ]
theorem nilB {s : List UInt8} (h : 0 < s.length) : (!s == (ByteArray.mk #[]).data.toList) = true := by
  cases s with
  | nil => simp at h
  | cons a l => rfl
theorem bndT {a b c : Int} (h : 0 ≤ a) (h1 : a ≤ b) (h2 : b ≤ c) : bnd a b c = true := by
  unfold bnd
  rw [decide_eq_true h, decide_eq_true h1, decide_eq_true h2]
  rfl
theorem drop_take_swap (s : List UInt8) (a b : Nat) : (s.take (a + b)).drop a = (s.drop a).take b := by
  rw [List.drop_take]; congr 1; omega
theorem ends37 (p : pl37_8) {s : List UInt8} (k : Nat) (hk : s.length = 6 * k) (hs : s.length ≤ 300) :
    Ends (g37_8 p) (n37_8 p) (s, []) ([], pairsA s k) := by
  have hz : s.drop (6 * k) = [] := List.drop_eq_nil_of_le (by omega)
  rw [← hz]
  refine Ends.count (go := g37_8 p) (next := n37_8 p) k (fun i => (s.drop (6 * i), pairsA s i)) (fun i hi => ⟨?_, ?_⟩) ?_
  · have hl : (s.drop (6 * i)).length = s.length - 6 * i := by simp
    unfold g37_8 go37_8
    dsimp only
    have h0 : rn37_8_0 (s.drop (6 * i)) p.1 p.2.1 p.2.2.1 p.2.2.2.1 p.2.2.2.2.1 p.2.2.2.2.2.1 p.2.2.2.2.2.2.1 p.2.2.2.2.2.2.2.1 p.2.2.2.2.2.2.2.2.1 p.2.2.2.2.2.2.2.2.2.1 p.2.2.2.2.2.2.2.2.2.2 (pairsA s i) = (s.drop (6 * i)).take 2 := rfl
    have h1 : rn37_8_1 (s.drop (6 * i)) p.1 p.2.1 p.2.2.1 p.2.2.2.1 p.2.2.2.2.1 p.2.2.2.2.2.1 p.2.2.2.2.2.2.1 p.2.2.2.2.2.2.2.1 p.2.2.2.2.2.2.2.2.1 p.2.2.2.2.2.2.2.2.2.1 p.2.2.2.2.2.2.2.2.2.2 (pairsA s i) = ((s.drop (6 * i)).take 6).drop 2 := rfl
    have h2 : (rn37_8_2 (s.drop (6 * i)) p.1 p.2.1 p.2.2.1 p.2.2.2.1 p.2.2.2.2.1 p.2.2.2.2.2.1 p.2.2.2.2.2.2.1 p.2.2.2.2.2.2.2.1 p.2.2.2.2.2.2.2.2.1 p.2.2.2.2.2.2.2.2.2.1 p.2.2.2.2.2.2.2.2.2.2 (pairsA s i)).length = 1 := rfl
    rw [h0, h1, h2, nilB (by omega), (r58 (s := (s.drop (6 * i)).take 2) (by simp; omega)).2, (r58 (s := ((s.drop (6 * i)).take 6).drop 2) (by simp; omega)).2, pairsA_len, hl, bndT (by omega) (by omega) (by omega), bndT (by omega) (by omega) (by omega), bndT (by omega) (by omega) (by omega), decide_eq_true (by omega), decide_eq_true (by omega)]
    rfl
  · unfold n37_8 nx37_8_0 nx37_8_12 rn37_8_2
    dsimp only
    have h0 : rn37_8_0 (s.drop (6 * i)) p.1 p.2.1 p.2.2.1 p.2.2.2.1 p.2.2.2.2.1 p.2.2.2.2.2.1 p.2.2.2.2.2.2.1 p.2.2.2.2.2.2.2.1 p.2.2.2.2.2.2.2.2.1 p.2.2.2.2.2.2.2.2.2.1 p.2.2.2.2.2.2.2.2.2.2 (pairsA s i) = (s.drop (6 * i)).take 2 := rfl
    have h1 : rn37_8_1 (s.drop (6 * i)) p.1 p.2.1 p.2.2.1 p.2.2.2.1 p.2.2.2.2.1 p.2.2.2.2.2.1 p.2.2.2.2.2.2.1 p.2.2.2.2.2.2.2.1 p.2.2.2.2.2.2.2.2.1 p.2.2.2.2.2.2.2.2.2.1 p.2.2.2.2.2.2.2.2.2.2 (pairsA s i) = ((s.drop (6 * i)).take 6).drop 2 := rfl
    have l0 : ((s.drop (6 * i)).take 2).length = 2 := by simp; omega
    have e1 : ((s.drop (6 * i)).take 6).drop 2 = (s.drop (6 * i + 2)).take 4 := by
      rw [show (6 : Nat) = 2 + 4 from rfl, drop_take_swap, List.drop_drop]
    have l1 : ((s.drop (6 * i + 2)).take 4).length = 4 := by simp; omega
    rw [h0, h1, e1, (r58 (s := (s.drop (6 * i)).take 2) (by omega)).1, (r58 (s := (s.drop (6 * i + 2)).take 4) (by omega)).1, l0, l1, pairsA_succ]
    have e6 : Int.toNat 6 = 6 := rfl
    rw [e6, List.drop_drop]
    rfl
  · unfold g37_8 go37_8
    dsimp only
    rw [hz]
    rfl
theorem ends13 (p : pl13_18) (k : Nat) (hk : p.1.length = 6 * k) (hs : p.1.length ≤ 300) :
    Ends (g13_18 p) (n13_18 p) ((0 : Int), []) ((6 * k : Nat), pairsA p.1 k) := by
  refine Ends.count (go := g13_18 p) (next := n13_18 p) k (fun i => ((6 * i : Nat), pairsA p.1 i)) (fun i hi => ⟨?_, ?_⟩) ?_
  · unfold g13_18 go13_18 rn13_18_4 rn13_18_1 rn13_18_3 rn13_18_0 rn13_18_2
    dsimp only
    have w2 : IntKind.i64.wrap (((6 * i : Nat) : Int) + 2) = ((6 * i + 2 : Nat) : Int) := by rw [wrapOf _ (by omega) (by omega)]; omega
    have w6 : IntKind.i64.wrap (((6 * i : Nat) : Int) + 6) = ((6 * i + 6 : Nat) : Int) := by rw [wrapOf _ (by omega) (by omega)]; omega
    rw [w2, w6]
    rw [Int.toNat_natCast, Int.toNat_natCast, Int.toNat_natCast]
    rw [(r42 (s := (p.1.take (6 * i + 2)).drop (6 * i)) (by simp; omega)).2, (r42 (s := (p.1.take (6 * i + 6)).drop (6 * i + 2)) (by simp; omega)).2, pairsA_len, bndT (by omega) (by omega) (by omega), bndT (by omega) (by omega) (by omega), decide_eq_true (show ((6 * i : Nat) : Int) < (p.1.length : Int) by omega), decide_eq_true (by simp only [List.length_cons, List.length_nil]; omega), decide_eq_true (by simp only [List.length_cons, List.length_nil]; omega)]
    rfl
  · unfold n13_18 nx13_18_1 nx13_18_26 rn13_18_4 rn13_18_1 rn13_18_3 rn13_18_0 rn13_18_2
    dsimp only
    have w2 : IntKind.i64.wrap (((6 * i : Nat) : Int) + 2) = ((6 * i + 2 : Nat) : Int) := by rw [wrapOf _ (by omega) (by omega)]; omega
    have w6 : IntKind.i64.wrap (((6 * i : Nat) : Int) + 6) = ((6 * i + 6 : Nat) : Int) := by rw [wrapOf _ (by omega) (by omega)]; omega
    rw [w2, w6]
    rw [Int.toNat_natCast, Int.toNat_natCast, Int.toNat_natCast]
    have e0 : (p.1.take (6 * i + 2)).drop (6 * i) = (p.1.drop (6 * i)).take 2 := drop_take_swap _ _ _
    have e1 : (p.1.take (6 * i + 6)).drop (6 * i + 2) = (p.1.drop (6 * i + 2)).take 4 := drop_take_swap _ (6 * i + 2) 4
    have l0 : ((p.1.drop (6 * i)).take 2).length = 2 := by simp; omega
    have l1 : ((p.1.drop (6 * i + 2)).take 4).length = 4 := by simp; omega
    have hb := numA_le ((p.1.drop (6 * i + 2)).take 4) 4 (by omega)
    rw [e0, e1, (r42 (s := (p.1.drop (6 * i)).take 2) (by omega)).1, (r42 (s := (p.1.drop (6 * i + 2)).take 4) (by omega)).1, l0, l1, wrapU _ (by omega) (by omega), pairsA_succ]
    rfl
  · unfold g13_18 go13_18
    dsimp only
    rw [decide_eq_false (by omega)]
    rfl
/-! The whole. -/
theorem w0 : IntKind.i64.wrap 0 = 0 := by decide
theorem w1 : IntKind.i64.wrap 1 = 1 := by decide
theorem w6 : IntKind.i64.wrap 6 = 6 := by decide
theorem bcase (b : Bool) : b = true ∨ b = false := by cases b <;> simp
end Go.Proofs.Gv
