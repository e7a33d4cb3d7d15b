/-
FrameReads: both read a frame's payload alike.
-/
import Derived.Test.YtndephedgodneaaGaFr3
import Derived.Test.YtndephedgodneaaGwJ
namespace Go.Proofs.Gv
open Go.Proofs
set_option linter.unusedVariables false
/-! Numbers. -/
theorem ends58 {s : List UInt8} (hl : s.length ≤ 4) : Ends (g58_3 (s, (s.length : Int))) (n58_3 (s, (s.length : Int))) ((0 : Int), (0 : Int)) (numA s s.length, (s.length : Int)) := by
  refine Ends.count (go := g58_3 (s, (s.length : Int))) (next := n58_3 (s, (s.length : Int))) s.length (fun i => (numA s i, (i : Int))) (fun i hi => ⟨?_, ?_⟩) ?_
  · unfold g58_3 go58_3
    dsimp only
    rw [decide_eq_true (show (i : Int) < (s.length : Int) by omega), decide_eq_true (show (0 : Int) ≤ (i : Int) by omega)]
    rfl
  · unfold n58_3 nx58_3_1 nx58_3_3
    dsimp only
    have hb := numA_le s i (by omega)
    have hc := bA_le s i
    have hd : numA s i ≤ 16777215 := by
      have h0 := bA_le s 0
      have h1 := bA_le s 1
      have h2 := bA_le s 2
      have hc : i = 0 ∨ i = 1 ∨ i = 2 ∨ i = 3 := by omega
      rcases hc with h | h | h | h <;> subst h <;> simp only [numA] <;> omega
    rw [Int.toNat_natCast, wrapN i s.length hi (by omega), two8, wrapU (numA s i * 256) (by omega) (by omega)]
    have he : ((s.getD i 0).toNat : Int) = bA s i := rfl
    rw [he, wrapU (bA s i) (by omega) (by omega), or8 (by omega) (by omega) (by omega) (by omega) (by omega)]
    simp only [numA]
    rw [Int.mul_comm]
  · unfold g58_3 go58_3
    dsimp only
    rw [decide_eq_false (by omega)]
    rfl
theorem r58 {s : List UInt8} (hl : s.length ≤ 4) : (rev58_0 s).fst = numA s s.length ∧ vev58_0 s = true := by
  have h := (ends58 hl).fin
  unfold rev58_0 vev58_0
  simp only [spI]
  rw [h.2, h.1]
  refine ⟨rfl, ?_⟩
  unfold y58_3 z58_3 xc58_3_0
  dsimp only
  rw [decide_eq_false (by omega)]
  rfl
theorem ends63 {tk : Tk} {s : List UInt8} (hl : s.length ≤ 4) : Ends (g63_3 (tk, s.map ofB)) (n63_3 (tk, s.map ofB)) ((0 : Int), (0 : Int)) (numA s s.length, (s.length : Int)) := by
  refine Ends.count (go := g63_3 (tk, s.map ofB)) (next := n63_3 (tk, s.map ofB)) s.length (fun i => (numA s i, (i : Int))) (fun i hi => ⟨?_, ?_⟩) ?_
  · unfold g63_3 go63_3
    dsimp only
    rw [List.length_map, decide_eq_true (show (i : Int) < (s.length : Int) by omega), decide_eq_true (show (0 : Int) ≤ (i : Int) by omega)]
    rfl
  · unfold n63_3 nx63_3_2 nx63_3_3
    dsimp only
    have hb := numA_le s i (by omega)
    have hc := bA_le s i
    rw [Int.toNat_natCast, gB hi, wrapN i s.length hi (by omega), wrapOf (256 * numA s i) (by omega) (by omega), wrapOf (bA s i) (by omega) (by omega), wrapOf _ (by omega) (by omega)]
    rfl
  · unfold g63_3 go63_3
    dsimp only
    rw [List.length_map, decide_eq_false (by omega)]
    rfl
theorem r42 {s : List UInt8} (hl : s.length ≤ 4) : vev42_0 s = numA s s.length ∧ vev42_1 s = true := by
  have h := (ends63 (tk := .imm) hl).fin
  unfold vev42_0 vev42_1 rev63_0 vev63_0
  simp only [spI]
  rw [h.2, h.1]
  refine ⟨rfl, ?_⟩
  unfold y63_3 z63_3 xc63_3_0
  dsimp only
  rw [List.length_map, decide_eq_false (show ¬ ((s.length : Int) < (s.length : Int)) by omega), decide_eq_true (show s.length ≤ 4611686018427387904 by omega)]
  rfl
theorem len4 {s : List UInt8} (h : 4 ≤ s.length) : (s.take 4).length = 4 := by simp; omega
/-- The 31 bits ahead. -/
def N31 (s : List UInt8) : Int := numA (s.take 4) 4 % 2147483648
theorem N31_le (s : List UInt8) : 0 ≤ N31 s ∧ N31 s ≤ 2147483647 := by unfold N31; omega
theorem r59 {s : List UInt8} (h : 4 ≤ s.length) : vev59_0 s = N31 s ∧ vev59_1 s = true := by
  have hl := len4 h
  obtain ⟨h1, h2⟩ := r58 (s := s.take 4) (by omega)
  have hb := numA_le (s.take 4) 4 (by omega)
  have e : rev59_0 s = s.take 4 := rfl
  unfold vev59_0 vev59_1
  rw [e, h1, h2, hl, and31 (by omega) (by omega), wrapOf _ (by omega) (by omega)]
  refine ⟨rfl, ?_⟩
  unfold bnd
  rw [decide_eq_true (show (4 : Int) ≤ (s.length : Int) by omega)]
  rfl
theorem r43 {s : List UInt8} (h : 4 ≤ s.length) : vev43_0 s = N31 s ∧ vev43_1 s = true := by
  have hl := len4 h
  obtain ⟨h1, h2⟩ := r42 (s := s.take 4) (by omega)
  have hb := numA_le (s.take 4) 4 (by omega)
  have e : rev43_0 s = s.take 4 := rfl
  unfold vev43_0 vev43_1
  rw [e, h1, h2, hl, Int.tmod_eq_emod_of_nonneg (by omega)]
  refine ⟨rfl, ?_⟩
  unfold bnd
  rw [decide_eq_true (show (4 : Int) ≤ (s.length : Int) by omega)]
  rfl
/-! Flags. -/
noncomputable def hasR (g fl : Int) : sl55_2 := iterL (g55_2 ()) (n55_2 ()) 8 (g, fl, 0)
noncomputable def hasV (g fl : Int) : Bool := bif xc55_2_0 (hasR g fl).fst (hasR g fl).snd.fst (hasR g fl).snd.snd then false else true
noncomputable def hasT (g fl : Int) : Bool := (!g55_2 () (hasR g fl)) && ((xc55_2_0 (hasR g fl).fst (hasR g fl).snd.fst (hasR g fl).snd.snd || xc55_2_1 (hasR g fl).fst (hasR g fl).snd.fst (hasR g fl).snd.snd) && (hasV g fl == (bits BinOp.and IntKind.u8 g fl != (0 : Int))))
noncomputable def allB (p : Int → Bool) : Nat → Bool
  | 0 => true
  | n + 1 => p (n : Int) && allB p n
theorem allB_at {p : Int → Bool} : ∀ n, allB p n = true → ∀ g : Int, 0 ≤ g → g < (n : Int) → p g = true := by
  intro n
  induction n with
  | zero => intro _ g h0 h1; omega
  | succ n ih =>
    intro h g h0 h1
    simp only [allB, Bool.and_eq_true] at h
    by_cases hg : g = (n : Int)
    · rw [hg]; exact h.1
    · exact ih h.2 g h0 (by omega)
theorem has8 : allB (fun g => hasT g 8) 256 = true := by kernel_rfl
theorem has32 : allB (fun g => hasT g 32) 256 = true := by kernel_rfl
theorem has1 : allB (fun g => hasT g 1) 256 = true := by kernel_rfl
theorem r55 {g fl : Int} (h : hasT g fl = true) : vev55_0 g fl = (bits BinOp.and IntKind.u8 g fl != (0 : Int)) ∧ vev55_1 g fl = true := by
  unfold hasT at h
  simp only [Bool.and_eq_true] at h
  obtain ⟨h1, h2, h3⟩ := h
  have e : Ends (g55_2 ()) (n55_2 ()) (g, fl, (0 : Int)) (hasR g fl) := ⟨8, rfl, by simpa using h1⟩
  have f := e.fin
  have h3' := eq_of_beq h3
  have er : rev55_0 g fl = hasR g fl := f.2
  unfold vev55_0 vev55_1
  rw [er]
  refine ⟨h3', ?_⟩
  simp only [spI]
  rw [f.2, f.1]
  unfold y55_2 z55_2
  simp only [List.any_cons, List.any_nil, Bool.or_false, Bool.true_and]
  rw [h2]
  rfl
/-! The weight. -/
theorem top_bit : allB (fun x => (bits BinOp.and IntKind.u8 x 128 != (0 : Int)) == decide (x ≥ 128)) 256 = true := by kernel_rfl
theorem r57 {t g n : Int} {d : List UInt8} {pa de : Int} {so : Bool} {we co la inc : Int} {ps : List (List AV)} {s : List UInt8} (h : 5 ≤ s.length) :
    vev57_0 t g n d pa de so we co la inc ps s = decide (bA s 0 ≥ 128) ∧ vev57_1 t g n d pa de so we co la inc ps s = bA s 4 ∧ vev57_2 t g n d pa de so we co la inc ps s = true := by
  have hb := bA_le s 0
  refine ⟨eq_of_beq (allB_at 256 top_bit (bA s 0) (by omega) (by omega)), rfl, ?_⟩
  unfold vev57_2
  rw [(r59 (by omega)).2, decide_eq_true (show (0 : Int) < (s.length : Int) by omega), decide_eq_true (show (4 : Int) < (s.length : Int) by omega)]
  rfl
theorem r41 {t g n : Int} {d : List UInt8} {pa de : Int} {so : Bool} {we co la inc : Int} {s : List UInt8} (h : 5 ≤ s.length) :
    vev41n_0 t g n d pa de so we co la inc s = decide (bA s 0 ≥ 128) ∧ vev41n_1 t g n d pa de so we co la inc s = bA s 4 ∧ vev41n_2 t g n d pa de so we co la inc s = true := by
  refine ⟨rfl, rfl, ?_⟩
  unfold vev41n_2
  rw [(r43 (by omega)).2, decide_eq_true (show (0 : Int) < (s.length : Int) by omega), decide_eq_true (show (4 : Int) < (s.length : Int) by omega)]
  rfl
/-! The settings. -/
/-- The pair at place i. -/
def pairA (s : List UInt8) (i : Nat) : List AV := [AV.int IntKind.u16 (IntKind.u16.wrap (numA ((s.drop i).take 2) 2)), AV.int IntKind.u32 (numA ((s.drop (i + 2)).take 4) 4)]
def pairsA (s : List UInt8) (k : Nat) : List (List AV) := (List.range k).map (fun i => pairA s (6 * i))
theorem pairsA_len (s : List UInt8) (k : Nat) : (pairsA s k).length = k := by simp [pairsA]
theorem pairsA_succ (s : List UInt8) (k : Nat) : pairsA s (k + 1) = pairsA s k ++ [pairA s (6 * k)] := by simp [pairsA, List.range_succ]
theorem nilB {s : List UInt8} (h : 0 < s.length) : (!s == (ByteArray.mk #[]).data.toList) = true := by
  cases s with
  | nil => simp at h
  | cons a l => rfl
theorem bndT {a b c : Int} (h : 0 ≤ a) (h1 : a ≤ b) (h2 : b ≤ c) : bnd a b c = true := by
  unfold bnd
  rw [decide_eq_true h, decide_eq_true h1, decide_eq_true h2]
  rfl
theorem drop_take_swap (s : List UInt8) (a b : Nat) : (s.take (a + b)).drop a = (s.drop a).take b := by
  rw [List.drop_take]; congr 1; omega
theorem ends37 (p : pl37_8) {s : List UInt8} (k : Nat) (hk : s.length = 6 * k) (hs : s.length ≤ 300) :
    Ends (g37_8 p) (n37_8 p) (s, []) ([], pairsA s k) := by
  have hz : s.drop (6 * k) = [] := List.drop_eq_nil_of_le (by omega)
  rw [← hz]
  refine Ends.count (go := g37_8 p) (next := n37_8 p) k (fun i => (s.drop (6 * i), pairsA s i)) (fun i hi => ⟨?_, ?_⟩) ?_
  · have hl : (s.drop (6 * i)).length = s.length - 6 * i := by simp
    unfold g37_8 go37_8
    dsimp only
    have h0 : rn37_8_0 (s.drop (6 * i)) p.1 p.2.1 p.2.2.1 p.2.2.2.1 p.2.2.2.2.1 p.2.2.2.2.2.1 p.2.2.2.2.2.2.1 p.2.2.2.2.2.2.2.1 p.2.2.2.2.2.2.2.2.1 p.2.2.2.2.2.2.2.2.2.1 p.2.2.2.2.2.2.2.2.2.2 (pairsA s i) = (s.drop (6 * i)).take 2 := rfl
    have h1 : rn37_8_1 (s.drop (6 * i)) p.1 p.2.1 p.2.2.1 p.2.2.2.1 p.2.2.2.2.1 p.2.2.2.2.2.1 p.2.2.2.2.2.2.1 p.2.2.2.2.2.2.2.1 p.2.2.2.2.2.2.2.2.1 p.2.2.2.2.2.2.2.2.2.1 p.2.2.2.2.2.2.2.2.2.2 (pairsA s i) = ((s.drop (6 * i)).take 6).drop 2 := rfl
    have h2 : (rn37_8_2 (s.drop (6 * i)) p.1 p.2.1 p.2.2.1 p.2.2.2.1 p.2.2.2.2.1 p.2.2.2.2.2.1 p.2.2.2.2.2.2.1 p.2.2.2.2.2.2.2.1 p.2.2.2.2.2.2.2.2.1 p.2.2.2.2.2.2.2.2.2.1 p.2.2.2.2.2.2.2.2.2.2 (pairsA s i)).length = 1 := rfl
    rw [h0, h1, h2, nilB (by omega), (r58 (s := (s.drop (6 * i)).take 2) (by simp; omega)).2, (r58 (s := ((s.drop (6 * i)).take 6).drop 2) (by simp; omega)).2, pairsA_len, hl, bndT (by omega) (by omega) (by omega), bndT (by omega) (by omega) (by omega), bndT (by omega) (by omega) (by omega), decide_eq_true (by omega), decide_eq_true (by omega)]
    rfl
  · unfold n37_8 nx37_8_0 nx37_8_12 rn37_8_2
    dsimp only
    have h0 : rn37_8_0 (s.drop (6 * i)) p.1 p.2.1 p.2.2.1 p.2.2.2.1 p.2.2.2.2.1 p.2.2.2.2.2.1 p.2.2.2.2.2.2.1 p.2.2.2.2.2.2.2.1 p.2.2.2.2.2.2.2.2.1 p.2.2.2.2.2.2.2.2.2.1 p.2.2.2.2.2.2.2.2.2.2 (pairsA s i) = (s.drop (6 * i)).take 2 := rfl
    have h1 : rn37_8_1 (s.drop (6 * i)) p.1 p.2.1 p.2.2.1 p.2.2.2.1 p.2.2.2.2.1 p.2.2.2.2.2.1 p.2.2.2.2.2.2.1 p.2.2.2.2.2.2.2.1 p.2.2.2.2.2.2.2.2.1 p.2.2.2.2.2.2.2.2.2.1 p.2.2.2.2.2.2.2.2.2.2 (pairsA s i) = ((s.drop (6 * i)).take 6).drop 2 := rfl
    have l0 : ((s.drop (6 * i)).take 2).length = 2 := by simp; omega
    have e1 : ((s.drop (6 * i)).take 6).drop 2 = (s.drop (6 * i + 2)).take 4 := by
      rw [show (6 : Nat) = 2 + 4 from rfl, drop_take_swap, List.drop_drop]
    have l1 : ((s.drop (6 * i + 2)).take 4).length = 4 := by simp; omega
    rw [h0, h1, e1, (r58 (s := (s.drop (6 * i)).take 2) (by omega)).1, (r58 (s := (s.drop (6 * i + 2)).take 4) (by omega)).1, l0, l1, pairsA_succ]
    have e6 : Int.toNat 6 = 6 := rfl
    rw [e6, List.drop_drop]
    rfl
  · unfold g37_8 go37_8
    dsimp only
    rw [hz]
    rfl
theorem ends13 (p : pl13_18) (k : Nat) (hk : p.1.length = 6 * k) (hs : p.1.length ≤ 300) :
    Ends (g13_18 p) (n13_18 p) ((0 : Int), []) ((6 * k : Nat), pairsA p.1 k) := by
  refine Ends.count (go := g13_18 p) (next := n13_18 p) k (fun i => ((6 * i : Nat), pairsA p.1 i)) (fun i hi => ⟨?_, ?_⟩) ?_
  · unfold g13_18 go13_18 rn13_18_4 rn13_18_1 rn13_18_3 rn13_18_0 rn13_18_2
    dsimp only
    have w2 : IntKind.i64.wrap (((6 * i : Nat) : Int) + 2) = ((6 * i + 2 : Nat) : Int) := by rw [wrapOf _ (by omega) (by omega)]; omega
    have w6 : IntKind.i64.wrap (((6 * i : Nat) : Int) + 6) = ((6 * i + 6 : Nat) : Int) := by rw [wrapOf _ (by omega) (by omega)]; omega
    rw [w2, w6]
    rw [Int.toNat_natCast, Int.toNat_natCast, Int.toNat_natCast]
    rw [(r42 (s := (p.1.take (6 * i + 2)).drop (6 * i)) (by simp; omega)).2, (r42 (s := (p.1.take (6 * i + 6)).drop (6 * i + 2)) (by simp; omega)).2, pairsA_len, bndT (by omega) (by omega) (by omega), bndT (by omega) (by omega) (by omega), decide_eq_true (show ((6 * i : Nat) : Int) < (p.1.length : Int) by omega), decide_eq_true (by simp only [List.length_cons, List.length_nil]; omega), decide_eq_true (by simp only [List.length_cons, List.length_nil]; omega)]
    rfl
  · unfold n13_18 nx13_18_1 nx13_18_26 rn13_18_4 rn13_18_1 rn13_18_3 rn13_18_0 rn13_18_2
    dsimp only
    have w2 : IntKind.i64.wrap (((6 * i : Nat) : Int) + 2) = ((6 * i + 2 : Nat) : Int) := by rw [wrapOf _ (by omega) (by omega)]; omega
    have w6 : IntKind.i64.wrap (((6 * i : Nat) : Int) + 6) = ((6 * i + 6 : Nat) : Int) := by rw [wrapOf _ (by omega) (by omega)]; omega
    rw [w2, w6]
    rw [Int.toNat_natCast, Int.toNat_natCast, Int.toNat_natCast]
    have e0 : (p.1.take (6 * i + 2)).drop (6 * i) = (p.1.drop (6 * i)).take 2 := drop_take_swap _ _ _
    have e1 : (p.1.take (6 * i + 6)).drop (6 * i + 2) = (p.1.drop (6 * i + 2)).take 4 := drop_take_swap _ (6 * i + 2) 4
    have l0 : ((p.1.drop (6 * i)).take 2).length = 2 := by simp; omega
    have l1 : ((p.1.drop (6 * i + 2)).take 4).length = 4 := by simp; omega
    have hb := numA_le ((p.1.drop (6 * i + 2)).take 4) 4 (by omega)
    rw [e0, e1, (r42 (s := (p.1.drop (6 * i)).take 2) (by omega)).1, (r42 (s := (p.1.drop (6 * i + 2)).take 4) (by omega)).1, l0, l1, wrapU _ (by omega) (by omega), pairsA_succ]
    rfl
  · unfold g13_18 go13_18
    dsimp only
    rw [decide_eq_false (by omega)]
    rfl
/-! The whole. -/
def FrEq (l t g n : Int) (s : List UInt8) : Prop := vev12_0 l t g n s = vev13_0 l t g n s ∧ vev12_1 l t g n s = vev13_1 l t g n s ∧ vev12_2 l t g n s = vev13_2 l t g n s ∧ vev12_3 l t g n s = vev13_3 l t g n s ∧ vev12_4 l t g n s = vev13_4 l t g n s ∧ vev12_5 l t g n s = vev13_5 l t g n s ∧ vev12_6 l t g n s = vev13_6 l t g n s ∧ vev12_7 l t g n s = vev13_7 l t g n s ∧ vev12_8 l t g n s = vev13_8 l t g n s ∧ vev12_9 l t g n s = vev13_9 l t g n s ∧ vev12_10 l t g n s = vev13_10 l t g n s ∧ vev12_11 l t g n s = vev13_11 l t g n s ∧ IntKind.i64.wrap (vev12_12 l t g n s) = vev13_12 l t g n s ∧ vev12_13 l t g n s = vev13_13 l t g n s ∧ vev12_14 l t g n s = true ∧ vev13_14 l t g n s = true ∧ (vev13_11 l t g n s).length ≤ 300
theorem nilE : ((ByteArray.mk #[]).data.toList : List UInt8) = [] := rfl
theorem astray (t g n : Int) (d : List UInt8) (pa de : Int) (so : Bool) (we co la inc : Int) : vev34n_0 t g n d pa de so we co la inc = vev38_0 t n := by
  unfold vev34n_0 vev38_0
  cases (t == 5) <;> rfl
theorem w0 : IntKind.i64.wrap 0 = 0 := by decide
theorem w1 : IntKind.i64.wrap 1 = 1 := by decide
theorem w6 : IntKind.i64.wrap 6 = 6 := by decide
theorem fr_astray {l t g n : Int} {s : List UInt8} (h : vev38_0 t n = true) : FrEq l t g n s := by
  simp only [List.length_nil, Nat.zero_le, FrEq, vev12_0, vev12_1, vev12_2, vev12_3, vev12_4, vev12_5, vev12_6, vev12_7, vev12_8, vev12_9, vev12_10, vev12_11, vev12_12, vev12_13, vev12_14, rev12_0, rev12_1, rev12_2, rev12_3, rev12_4, rev12_5, rev12_6, rev12_7, rev12_8, vev13_0, vev13_1, vev13_2, vev13_3, vev13_4, vev13_5, vev13_6, vev13_7, vev13_8, vev13_9, vev13_10, vev13_11, vev13_12, vev13_13, vev13_14, rev13_1, astray, h, vev35n_0, cond_true, Bool.not_false, and_self, w1]
theorem lenPos {s : List UInt8} (h : 0 < s.length) : (s == ([] : List UInt8)) = false := by
  cases s with
  | nil => simp at h
  | cons a l => rfl
theorem pad71 {t g n : Int} {d : List UInt8} {pa de : Int} {so : Bool} {we co la inc : Int} {ps : List (List AV)} {s : List UInt8} (hs : s.length ≤ 300) :
    rev71_0 t g n d pa de so we co la inc ps s = bA s 0 ∧ rev71_1 t g n d pa de so we co la inc ps s = (s.length : Int) - 1 - bA s 0 ∧ rev71_2 t g n d pa de so we co la inc ps s = (s.length : Int) - bA s 0 := by
  have hb := bA_le s 0
  have e0 : rev71_0 t g n d pa de so we co la inc ps s = bA s 0 := wrapOf (bA s 0) (by omega) (by omega)
  have e1 : rev71_1 t g n d pa de so we co la inc ps s = (s.length : Int) - 1 - bA s 0 := by
    unfold rev71_1
    rw [e0, wrapOf ((s.length : Int) - 1) (by omega) (by omega), wrapOf _ (by omega) (by omega)]
  refine ⟨e0, e1, ?_⟩
  unfold rev71_2
  rw [e1, wrapOf _ (by omega) (by omega)]
  omega
theorem pad39 {t g n : Int} {d : List UInt8} {pa de : Int} {so : Bool} {we co la inc : Int} {s : List UInt8} (hs : s.length ≤ 300) (hp : 0 < s.length) :
    rev39n_0 t g n d pa de so we co la inc s = bA s 0 ∧ rev39n_2 t g n d pa de so we co la inc s = (s.length : Int) - 1 ∧ rev39n_3 t g n d pa de so we co la inc s = (s.length : Int) - 1 - bA s 0 := by
  have hb := bA_le s 0
  have e0 : rev39n_0 t g n d pa de so we co la inc s = bA s 0 := wrapOf (bA s 0) (by omega) (by omega)
  have e1 : rev39n_2 t g n d pa de so we co la inc s = (s.length : Int) - 1 := by
    have e6 : Int.toNat 1 = 1 := rfl
    unfold rev39n_2 rev39n_1
    rw [e6, List.length_drop]
    omega
  refine ⟨e0, e1, ?_⟩
  unfold rev39n_3
  rw [e0, e1, wrapOf _ (by omega) (by omega)]
/-- What lies between the padding's length and the padding. -/
def inner (s : List UInt8) : List UInt8 := (s.drop 1).take ((s.length : Int) - 1 - bA s 0).toNat
theorem inner_len {s : List UInt8} (h : bA s 0 ≤ (s.length : Int) - 1) : ((inner s).length : Int) = (s.length : Int) - 1 - bA s 0 := by
  have hb := bA_le s 0
  unfold inner
  rw [List.length_take, List.length_drop]
  omega
theorem inner71 {s : List UInt8} (h : bA s 0 ≤ (s.length : Int) - 1) : List.drop (Int.toNat 1) (List.take ((s.length : Int) - bA s 0).toNat s) = inner s := by
  have e : ((s.length : Int) - bA s 0).toNat = 1 + ((s.length : Int) - 1 - bA s 0).toNat := by omega
  rw [e]
  exact drop_take_swap _ _ _
theorem inner39 {t g n : Int} {d : List UInt8} {pa de : Int} {so : Bool} {we co la inc : Int} {s : List UInt8} (hs : s.length ≤ 300) (hp : 0 < s.length) : rev39n_4 t g n d pa de so we co la inc s = inner s := by
  unfold rev39n_4
  rw [(pad39 hs hp).2.2]
  rfl
theorem fr0 {l t g n : Int} {s : List UInt8} (h : vev38_0 t n = false) (hg : 0 ≤ g ∧ g ≤ 255) (h8 : (bits BinOp.and IntKind.u8 g 8 != 0) = false) (ht : t = 0) : FrEq l t g n s := by
  subst ht
  have f8 := r55 (allB_at 256 has8 g hg.1 (by omega))
  have f32 := r55 (allB_at 256 has32 g hg.1 (by omega))
  simp only [List.length_nil, Nat.zero_le, FrEq, vev12_0, vev12_1, vev12_2, vev12_3, vev12_4, vev12_5, vev12_6, vev12_7, vev12_8, vev12_9, vev12_10, vev12_11, vev12_12, vev12_13, vev12_14, rev12_0, rev12_1, rev12_2, rev12_3, rev12_4, rev12_5, rev12_6, rev12_7, rev12_8, vev13_0, vev13_1, vev13_2, vev13_3, vev13_4, vev13_5, vev13_6, vev13_7, vev13_8, vev13_9, vev13_10, vev13_11, vev13_12, vev13_13, vev13_14, rev13_1, vev37_0, vev37_1, vev37_2, vev37_3, vev37_4, vev37_5, vev37_6, vev37_7, vev37_8, vev37_9, vev37_10, rev37_1, vev60_0, vev60_1, vev60_2, vev60_3, vev60_4, vev60_5, vev60_6, rev60_0, rev60_1, rev60_2, rev60_3, vev71_0, vev71_1, vev71_2, vev71_3, vev39n_0, vev39n_1, vev39n_2, vev39n_3, vev39n_4, vev39n_5, vev39n_6, vev39n_7, vev39n_8, vev39n_9, vev39n_10, vev39n_11, vev39n_12, vev35n_0, vev35_0, vev36n_0, vev40n_0, vev40n_1, vev56n_0, vev56_0, vev62n_0, vev61n_0, vev61n_1, vev64_0, vev65_0, cond_true, cond_false, Bool.not_false, Bool.true_and, and_self, beq_self_eq_true, bne_self_eq_false, w0, Int.reduceBEq, Int.reduceLE, decide_true, astray, h, h8, f8.1, f8.2, f32.1, f32.2]
theorem fr1a {l t g n : Int} {s : List UInt8} (h : vev38_0 t n = false) (hg : 0 ≤ g ∧ g ≤ 255) (h8 : (bits BinOp.and IntKind.u8 g 8 != 0) = false) (h32 : (bits BinOp.and IntKind.u8 g 32 != 0) = false) (ht : t = 1) : FrEq l t g n s := by
  subst ht
  have f8 := r55 (allB_at 256 has8 g hg.1 (by omega))
  have f32 := r55 (allB_at 256 has32 g hg.1 (by omega))
  simp only [List.length_nil, Nat.zero_le, FrEq, vev12_0, vev12_1, vev12_2, vev12_3, vev12_4, vev12_5, vev12_6, vev12_7, vev12_8, vev12_9, vev12_10, vev12_11, vev12_12, vev12_13, vev12_14, rev12_0, rev12_1, rev12_2, rev12_3, rev12_4, rev12_5, rev12_6, rev12_7, rev12_8, vev13_0, vev13_1, vev13_2, vev13_3, vev13_4, vev13_5, vev13_6, vev13_7, vev13_8, vev13_9, vev13_10, vev13_11, vev13_12, vev13_13, vev13_14, rev13_1, vev37_0, vev37_1, vev37_2, vev37_3, vev37_4, vev37_5, vev37_6, vev37_7, vev37_8, vev37_9, vev37_10, rev37_1, vev60_0, vev60_1, vev60_2, vev60_3, vev60_4, vev60_5, vev60_6, rev60_0, rev60_1, rev60_2, rev60_3, vev71_0, vev71_1, vev71_2, vev71_3, vev39n_0, vev39n_1, vev39n_2, vev39n_3, vev39n_4, vev39n_5, vev39n_6, vev39n_7, vev39n_8, vev39n_9, vev39n_10, vev39n_11, vev39n_12, vev35n_0, vev35_0, vev36n_0, vev40n_0, vev40n_1, vev56n_0, vev56_0, vev62n_0, vev61n_0, vev61n_1, vev64_0, vev65_0, cond_true, cond_false, Bool.not_false, Bool.true_and, and_self, beq_self_eq_true, bne_self_eq_false, w0, Int.reduceBEq, Int.reduceLE, decide_true, astray, h, h8, h32, f8.1, f8.2, f32.1, f32.2]
theorem fr1b {l t g n : Int} {s : List UInt8} (h : vev38_0 t n = false) (hg : 0 ≤ g ∧ g ≤ 255) (h8 : (bits BinOp.and IntKind.u8 g 8 != 0) = false) (h32 : (bits BinOp.and IntKind.u8 g 32 != 0) = true) (hl : s.length < 5) (ht : t = 1) : FrEq l t g n s := by
  subst ht
  have f8 := r55 (allB_at 256 has8 g hg.1 (by omega))
  have f32 := r55 (allB_at 256 has32 g hg.1 (by omega))
  have hd : decide ((s.length : Int) < 5) = true := decide_eq_true (by omega)
  simp only [List.length_nil, Nat.zero_le, FrEq, vev12_0, vev12_1, vev12_2, vev12_3, vev12_4, vev12_5, vev12_6, vev12_7, vev12_8, vev12_9, vev12_10, vev12_11, vev12_12, vev12_13, vev12_14, rev12_0, rev12_1, rev12_2, rev12_3, rev12_4, rev12_5, rev12_6, rev12_7, rev12_8, vev13_0, vev13_1, vev13_2, vev13_3, vev13_4, vev13_5, vev13_6, vev13_7, vev13_8, vev13_9, vev13_10, vev13_11, vev13_12, vev13_13, vev13_14, rev13_1, vev37_0, vev37_1, vev37_2, vev37_3, vev37_4, vev37_5, vev37_6, vev37_7, vev37_8, vev37_9, vev37_10, rev37_1, vev60_0, vev60_1, vev60_2, vev60_3, vev60_4, vev60_5, vev60_6, rev60_0, rev60_1, rev60_2, rev60_3, vev71_0, vev71_1, vev71_2, vev71_3, vev39n_0, vev39n_1, vev39n_2, vev39n_3, vev39n_4, vev39n_5, vev39n_6, vev39n_7, vev39n_8, vev39n_9, vev39n_10, vev39n_11, vev39n_12, vev35n_0, vev35_0, vev36n_0, vev40n_0, vev40n_1, vev56n_0, vev56_0, vev62n_0, vev61n_0, vev61n_1, vev64_0, vev65_0, cond_true, cond_false, Bool.not_false, Bool.true_and, and_self, beq_self_eq_true, bne_self_eq_false, w6, Int.reduceBEq, Int.reduceLE, decide_true, astray, h, h8, h32, hd, show ((6 : Int) != 0) = true from rfl, f8.1, f8.2, f32.1, f32.2]
theorem fr1c {l t g n : Int} {s : List UInt8} (h : vev38_0 t n = false) (hg : 0 ≤ g ∧ g ≤ 255) (h8 : (bits BinOp.and IntKind.u8 g 8 != 0) = false) (h32 : (bits BinOp.and IntKind.u8 g 32 != 0) = true) (hl : 5 ≤ s.length) (ht : t = 1) : FrEq l t g n s := by
  subst ht
  have f8 := r55 (allB_at 256 has8 g hg.1 (by omega))
  have f32 := r55 (allB_at 256 has32 g hg.1 (by omega))
  have hd : decide ((s.length : Int) < 5) = false := decide_eq_false (by omega)
  have hb : bnd 5 (s.length : Int) (s.length : Int) = true := bndT (by omega) (by omega) (by omega)
  have a1 := r59 (s := s) (by omega)
  have a2 := r43 (s := s) (by omega)
  have a3 := @r57 (s := s) (h := hl)
  have a4 := @r41 (s := s) (h := hl)
  have a5 := fun t g n d pa de so we co la inc ps => (@a3 t g n d pa de so we co la inc ps).1
  have a6 := fun t g n d pa de so we co la inc ps => (@a3 t g n d pa de so we co la inc ps).2.1
  have a7 := fun t g n d pa de so we co la inc ps => (@a3 t g n d pa de so we co la inc ps).2.2
  have b5 := fun t g n d pa de so we co la inc => (@a4 t g n d pa de so we co la inc).1
  have b6 := fun t g n d pa de so we co la inc => (@a4 t g n d pa de so we co la inc).2.1
  have b7 := fun t g n d pa de so we co la inc => (@a4 t g n d pa de so we co la inc).2.2
  simp only [List.length_nil, Nat.zero_le, FrEq, vev12_0, vev12_1, vev12_2, vev12_3, vev12_4, vev12_5, vev12_6, vev12_7, vev12_8, vev12_9, vev12_10, vev12_11, vev12_12, vev12_13, vev12_14, rev12_0, rev12_1, rev12_2, rev12_3, rev12_4, rev12_5, rev12_6, rev12_7, rev12_8, vev13_0, vev13_1, vev13_2, vev13_3, vev13_4, vev13_5, vev13_6, vev13_7, vev13_8, vev13_9, vev13_10, vev13_11, vev13_12, vev13_13, vev13_14, rev13_1, vev37_0, vev37_1, vev37_2, vev37_3, vev37_4, vev37_5, vev37_6, vev37_7, vev37_8, vev37_9, vev37_10, rev37_1, vev60_0, vev60_1, vev60_2, vev60_3, vev60_4, vev60_5, vev60_6, rev60_0, rev60_1, rev60_2, rev60_3, vev71_0, vev71_1, vev71_2, vev71_3, vev39n_0, vev39n_1, vev39n_2, vev39n_3, vev39n_4, vev39n_5, vev39n_6, vev39n_7, vev39n_8, vev39n_9, vev39n_10, vev39n_11, vev39n_12, vev35n_0, vev35_0, vev36n_0, vev40n_0, vev40n_1, vev56n_0, vev56_0, vev62n_0, vev61n_0, vev61n_1, vev64_0, vev65_0, cond_true, cond_false, Bool.not_false, Bool.true_and, and_self, beq_self_eq_true, bne_self_eq_false, w0, Int.reduceBEq, Int.reduceLE, decide_true, astray, h, h8, h32, hd, hb, a1.1, a2.1, a5, a6, a7, b5, b6, b7, f8.1, f8.2, f32.1, f32.2]
theorem fr0e {l t g n : Int} {s : List UInt8} (h : vev38_0 t n = false) (hg : 0 ≤ g ∧ g ≤ 255) (h8 : (bits BinOp.and IntKind.u8 g 8 != 0) = true) (hs : s = []) (ht : t = 0) : FrEq l t g n s := by
  subst ht
  have f8 := r55 (allB_at 256 has8 g hg.1 (by omega))
  have f32 := r55 (allB_at 256 has32 g hg.1 (by omega))
  subst hs
  simp only [List.length_nil, Nat.zero_le, FrEq, vev12_0, vev12_1, vev12_2, vev12_3, vev12_4, vev12_5, vev12_6, vev12_7, vev12_8, vev12_9, vev12_10, vev12_11, vev12_12, vev12_13, vev12_14, rev12_0, rev12_1, rev12_2, rev12_3, rev12_4, rev12_5, rev12_6, rev12_7, rev12_8, vev13_0, vev13_1, vev13_2, vev13_3, vev13_4, vev13_5, vev13_6, vev13_7, vev13_8, vev13_9, vev13_10, vev13_11, vev13_12, vev13_13, vev13_14, rev13_1, vev37_0, vev37_1, vev37_2, vev37_3, vev37_4, vev37_5, vev37_6, vev37_7, vev37_8, vev37_9, vev37_10, rev37_1, vev60_0, vev60_1, vev60_2, vev60_3, vev60_4, vev60_5, vev60_6, rev60_0, rev60_1, rev60_2, rev60_3, vev71_0, vev71_1, vev71_2, vev71_3, vev39n_0, vev39n_1, vev39n_2, vev39n_3, vev39n_4, vev39n_5, vev39n_6, vev39n_7, vev39n_8, vev39n_9, vev39n_10, vev39n_11, vev39n_12, vev35n_0, vev35_0, vev36n_0, vev40n_0, vev40n_1, vev56n_0, vev56_0, vev62n_0, vev61n_0, vev61n_1, vev64_0, vev65_0, cond_true, cond_false, Bool.not_true, Bool.not_false, Bool.true_and, and_self, beq_self_eq_true, w6, Int.reduceBEq, Int.reduceLE, decide_true, astray, h, f8.1, f8.2, f32.1, f32.2, h8, show ((6 : Int) != 0) = true from rfl]
theorem fr1e {l t g n : Int} {s : List UInt8} (h : vev38_0 t n = false) (hg : 0 ≤ g ∧ g ≤ 255) (h8 : (bits BinOp.and IntKind.u8 g 8 != 0) = true) (hs : s = []) (ht : t = 1) : FrEq l t g n s := by
  subst ht
  have f8 := r55 (allB_at 256 has8 g hg.1 (by omega))
  have f32 := r55 (allB_at 256 has32 g hg.1 (by omega))
  subst hs
  simp only [List.length_nil, Nat.zero_le, FrEq, vev12_0, vev12_1, vev12_2, vev12_3, vev12_4, vev12_5, vev12_6, vev12_7, vev12_8, vev12_9, vev12_10, vev12_11, vev12_12, vev12_13, vev12_14, rev12_0, rev12_1, rev12_2, rev12_3, rev12_4, rev12_5, rev12_6, rev12_7, rev12_8, vev13_0, vev13_1, vev13_2, vev13_3, vev13_4, vev13_5, vev13_6, vev13_7, vev13_8, vev13_9, vev13_10, vev13_11, vev13_12, vev13_13, vev13_14, rev13_1, vev37_0, vev37_1, vev37_2, vev37_3, vev37_4, vev37_5, vev37_6, vev37_7, vev37_8, vev37_9, vev37_10, rev37_1, vev60_0, vev60_1, vev60_2, vev60_3, vev60_4, vev60_5, vev60_6, rev60_0, rev60_1, rev60_2, rev60_3, vev71_0, vev71_1, vev71_2, vev71_3, vev39n_0, vev39n_1, vev39n_2, vev39n_3, vev39n_4, vev39n_5, vev39n_6, vev39n_7, vev39n_8, vev39n_9, vev39n_10, vev39n_11, vev39n_12, vev35n_0, vev35_0, vev36n_0, vev40n_0, vev40n_1, vev56n_0, vev56_0, vev62n_0, vev61n_0, vev61n_1, vev64_0, vev65_0, cond_true, cond_false, Bool.not_true, Bool.not_false, Bool.true_and, and_self, beq_self_eq_true, w6, Int.reduceBEq, Int.reduceLE, decide_true, astray, h, f8.1, f8.2, f32.1, f32.2, h8, show ((6 : Int) != 0) = true from rfl]
theorem fr0o {l t g n : Int} {s : List UInt8} (h : vev38_0 t n = false) (hg : 0 ≤ g ∧ g ≤ 255) (h8 : (bits BinOp.and IntKind.u8 g 8 != 0) = true) (hs : s.length ≤ 300) (hp : 0 < s.length) (ho : bA s 0 > (s.length : Int) - 1) (ht : t = 0) : FrEq l t g n s := by
  subst ht
  have f8 := r55 (allB_at 256 has8 g hg.1 (by omega))
  have f32 := r55 (allB_at 256 has32 g hg.1 (by omega))
  have hb := bA_le s 0
  have hn := lenPos hp
  have p1 := fun t g n d pa de so we co la inc ps => (@pad71 t g n d pa de so we co la inc ps s hs).1
  have p2 := fun t g n d pa de so we co la inc ps => (@pad71 t g n d pa de so we co la inc ps s hs).2.1
  have p3 := fun t g n d pa de so we co la inc ps => (@pad71 t g n d pa de so we co la inc ps s hs).2.2
  have q1 := fun t g n d pa de so we co la inc => (@pad39 t g n d pa de so we co la inc s hs hp).1
  have q2 := fun t g n d pa de so we co la inc => (@pad39 t g n d pa de so we co la inc s hs hp).2.1
  have q3 := fun t g n d pa de so we co la inc => (@pad39 t g n d pa de so we co la inc s hs hp).2.2
  have q4 := fun t g n d pa de so we co la inc => @inner39 t g n d pa de so we co la inc s hs hp
  have i0 : decide ((0 : Int) < (s.length : Int)) = true := decide_eq_true (by omega)
  have i1 : bnd (1 : Int) (s.length : Int) (s.length : Int) = true := bndT (by omega) (by omega) (by omega)
  have o1 : decide ((s.length : Int) - 1 - bA s 0 < 0) = true := decide_eq_true (by omega)
  have o2 : decide (bA s 0 > (s.length : Int) - 1) = true := decide_eq_true (by omega)
  simp only [List.length_nil, Nat.zero_le, FrEq, vev12_0, vev12_1, vev12_2, vev12_3, vev12_4, vev12_5, vev12_6, vev12_7, vev12_8, vev12_9, vev12_10, vev12_11, vev12_12, vev12_13, vev12_14, rev12_0, rev12_1, rev12_2, rev12_3, rev12_4, rev12_5, rev12_6, rev12_7, rev12_8, vev13_0, vev13_1, vev13_2, vev13_3, vev13_4, vev13_5, vev13_6, vev13_7, vev13_8, vev13_9, vev13_10, vev13_11, vev13_12, vev13_13, vev13_14, rev13_1, vev37_0, vev37_1, vev37_2, vev37_3, vev37_4, vev37_5, vev37_6, vev37_7, vev37_8, vev37_9, vev37_10, rev37_1, vev60_0, vev60_1, vev60_2, vev60_3, vev60_4, vev60_5, vev60_6, rev60_0, rev60_1, rev60_2, rev60_3, vev71_0, vev71_1, vev71_2, vev71_3, vev39n_0, vev39n_1, vev39n_2, vev39n_3, vev39n_4, vev39n_5, vev39n_6, vev39n_7, vev39n_8, vev39n_9, vev39n_10, vev39n_11, vev39n_12, vev35n_0, vev35_0, vev36n_0, vev40n_0, vev40n_1, vev56n_0, vev56_0, vev62n_0, vev61n_0, vev61n_1, vev64_0, vev65_0, cond_true, cond_false, Bool.not_true, Bool.not_false, Bool.and_true, and_self, beq_self_eq_true, w1, Int.reduceBEq, Int.reduceLE, decide_true, astray, h, f8.1, f8.2, f32.1, f32.2, h8, hn, p1, p2, p3, q1, q2, q3, q4, i0, i1, o1, o2, show ((1 : Int) != 0) = true from rfl]
theorem fr1o {l t g n : Int} {s : List UInt8} (h : vev38_0 t n = false) (hg : 0 ≤ g ∧ g ≤ 255) (h8 : (bits BinOp.and IntKind.u8 g 8 != 0) = true) (hs : s.length ≤ 300) (hp : 0 < s.length) (ho : bA s 0 > (s.length : Int) - 1) (ht : t = 1) : FrEq l t g n s := by
  subst ht
  have f8 := r55 (allB_at 256 has8 g hg.1 (by omega))
  have f32 := r55 (allB_at 256 has32 g hg.1 (by omega))
  have hb := bA_le s 0
  have hn := lenPos hp
  have p1 := fun t g n d pa de so we co la inc ps => (@pad71 t g n d pa de so we co la inc ps s hs).1
  have p2 := fun t g n d pa de so we co la inc ps => (@pad71 t g n d pa de so we co la inc ps s hs).2.1
  have p3 := fun t g n d pa de so we co la inc ps => (@pad71 t g n d pa de so we co la inc ps s hs).2.2
  have q1 := fun t g n d pa de so we co la inc => (@pad39 t g n d pa de so we co la inc s hs hp).1
  have q2 := fun t g n d pa de so we co la inc => (@pad39 t g n d pa de so we co la inc s hs hp).2.1
  have q3 := fun t g n d pa de so we co la inc => (@pad39 t g n d pa de so we co la inc s hs hp).2.2
  have q4 := fun t g n d pa de so we co la inc => @inner39 t g n d pa de so we co la inc s hs hp
  have i0 : decide ((0 : Int) < (s.length : Int)) = true := decide_eq_true (by omega)
  have i1 : bnd (1 : Int) (s.length : Int) (s.length : Int) = true := bndT (by omega) (by omega) (by omega)
  have o1 : decide ((s.length : Int) - 1 - bA s 0 < 0) = true := decide_eq_true (by omega)
  have o2 : decide (bA s 0 > (s.length : Int) - 1) = true := decide_eq_true (by omega)
  simp only [List.length_nil, Nat.zero_le, FrEq, vev12_0, vev12_1, vev12_2, vev12_3, vev12_4, vev12_5, vev12_6, vev12_7, vev12_8, vev12_9, vev12_10, vev12_11, vev12_12, vev12_13, vev12_14, rev12_0, rev12_1, rev12_2, rev12_3, rev12_4, rev12_5, rev12_6, rev12_7, rev12_8, vev13_0, vev13_1, vev13_2, vev13_3, vev13_4, vev13_5, vev13_6, vev13_7, vev13_8, vev13_9, vev13_10, vev13_11, vev13_12, vev13_13, vev13_14, rev13_1, vev37_0, vev37_1, vev37_2, vev37_3, vev37_4, vev37_5, vev37_6, vev37_7, vev37_8, vev37_9, vev37_10, rev37_1, vev60_0, vev60_1, vev60_2, vev60_3, vev60_4, vev60_5, vev60_6, rev60_0, rev60_1, rev60_2, rev60_3, vev71_0, vev71_1, vev71_2, vev71_3, vev39n_0, vev39n_1, vev39n_2, vev39n_3, vev39n_4, vev39n_5, vev39n_6, vev39n_7, vev39n_8, vev39n_9, vev39n_10, vev39n_11, vev39n_12, vev35n_0, vev35_0, vev36n_0, vev40n_0, vev40n_1, vev56n_0, vev56_0, vev62n_0, vev61n_0, vev61n_1, vev64_0, vev65_0, cond_true, cond_false, Bool.not_true, Bool.not_false, Bool.and_true, and_self, beq_self_eq_true, w1, Int.reduceBEq, Int.reduceLE, decide_true, astray, h, f8.1, f8.2, f32.1, f32.2, h8, hn, p1, p2, p3, q1, q2, q3, q4, i0, i1, o1, o2, show ((1 : Int) != 0) = true from rfl]
theorem fr0k {l t g n : Int} {s : List UInt8} (h : vev38_0 t n = false) (hg : 0 ≤ g ∧ g ≤ 255) (h8 : (bits BinOp.and IntKind.u8 g 8 != 0) = true) (hs : s.length ≤ 300) (hp : 0 < s.length) (ho : bA s 0 ≤ (s.length : Int) - 1) (ht : t = 0) : FrEq l t g n s := by
  subst ht
  have f8 := r55 (allB_at 256 has8 g hg.1 (by omega))
  have f32 := r55 (allB_at 256 has32 g hg.1 (by omega))
  have hb := bA_le s 0
  have hn := lenPos hp
  have p1 := fun t g n d pa de so we co la inc ps => (@pad71 t g n d pa de so we co la inc ps s hs).1
  have p2 := fun t g n d pa de so we co la inc ps => (@pad71 t g n d pa de so we co la inc ps s hs).2.1
  have p3 := fun t g n d pa de so we co la inc ps => (@pad71 t g n d pa de so we co la inc ps s hs).2.2
  have q1 := fun t g n d pa de so we co la inc => (@pad39 t g n d pa de so we co la inc s hs hp).1
  have q2 := fun t g n d pa de so we co la inc => (@pad39 t g n d pa de so we co la inc s hs hp).2.1
  have q3 := fun t g n d pa de so we co la inc => (@pad39 t g n d pa de so we co la inc s hs hp).2.2
  have q4 := fun t g n d pa de so we co la inc => @inner39 t g n d pa de so we co la inc s hs hp
  have i0 : decide ((0 : Int) < (s.length : Int)) = true := decide_eq_true (by omega)
  have i1 : bnd (1 : Int) (s.length : Int) (s.length : Int) = true := bndT (by omega) (by omega) (by omega)
  have o1 : decide ((s.length : Int) - 1 - bA s 0 < 0) = false := decide_eq_false (by omega)
  have o2 : decide (bA s 0 > (s.length : Int) - 1) = false := decide_eq_false (by omega)
  have i2 : bnd (1 : Int) ((s.length : Int) - bA s 0) (s.length : Int) = true := bndT (by omega) (by omega) (by omega)
  have i3 : bnd (0 : Int) ((s.length : Int) - 1 - bA s 0) ((s.length : Int) - 1) = true := bndT (by omega) (by omega) (by omega)
  have i4 := inner71 ho
  have i5 := inner_len ho
  have r5 : ∀ t g n d pa de so we co la inc, rev39n_5 t g n d pa de so we co la inc s = ((inner s).length : Int) := by
    intro t g n d pa de so we co la inc
    unfold rev39n_5
    rw [q4]
  simp only [List.length_nil, Nat.zero_le, FrEq, vev12_0, vev12_1, vev12_2, vev12_3, vev12_4, vev12_5, vev12_6, vev12_7, vev12_8, vev12_9, vev12_10, vev12_11, vev12_12, vev12_13, vev12_14, rev12_0, rev12_1, rev12_2, rev12_3, rev12_4, rev12_5, rev12_6, rev12_7, rev12_8, vev13_0, vev13_1, vev13_2, vev13_3, vev13_4, vev13_5, vev13_6, vev13_7, vev13_8, vev13_9, vev13_10, vev13_11, vev13_12, vev13_13, vev13_14, rev13_1, vev37_0, vev37_1, vev37_2, vev37_3, vev37_4, vev37_5, vev37_6, vev37_7, vev37_8, vev37_9, vev37_10, rev37_1, vev60_0, vev60_1, vev60_2, vev60_3, vev60_4, vev60_5, vev60_6, rev60_0, rev60_1, rev60_2, rev60_3, vev71_0, vev71_1, vev71_2, vev71_3, vev39n_0, vev39n_1, vev39n_2, vev39n_3, vev39n_4, vev39n_5, vev39n_6, vev39n_7, vev39n_8, vev39n_9, vev39n_10, vev39n_11, vev39n_12, vev35n_0, vev35_0, vev36n_0, vev40n_0, vev40n_1, vev56n_0, vev56_0, vev62n_0, vev61n_0, vev61n_1, vev64_0, vev65_0, cond_true, cond_false, Bool.not_true, Bool.not_false, Bool.and_true, and_self, beq_self_eq_true, bne_self_eq_false, w0, Int.reduceBEq, Int.reduceLE, decide_true, astray, h, f8.1, f8.2, f32.1, f32.2, h8, hn, p1, p2, p3, q1, q2, q3, q4, i0, i1, o1, o2, i2, i3, i4, r5]
theorem fr1k {l t g n : Int} {s : List UInt8} (h : vev38_0 t n = false) (hg : 0 ≤ g ∧ g ≤ 255) (h8 : (bits BinOp.and IntKind.u8 g 8 != 0) = true) (hs : s.length ≤ 300) (hp : 0 < s.length) (ho : bA s 0 ≤ (s.length : Int) - 1) (h32 : (bits BinOp.and IntKind.u8 g 32 != 0) = false) (ht : t = 1) : FrEq l t g n s := by
  subst ht
  have f8 := r55 (allB_at 256 has8 g hg.1 (by omega))
  have f32 := r55 (allB_at 256 has32 g hg.1 (by omega))
  have hb := bA_le s 0
  have hn := lenPos hp
  have p1 := fun t g n d pa de so we co la inc ps => (@pad71 t g n d pa de so we co la inc ps s hs).1
  have p2 := fun t g n d pa de so we co la inc ps => (@pad71 t g n d pa de so we co la inc ps s hs).2.1
  have p3 := fun t g n d pa de so we co la inc ps => (@pad71 t g n d pa de so we co la inc ps s hs).2.2
  have q1 := fun t g n d pa de so we co la inc => (@pad39 t g n d pa de so we co la inc s hs hp).1
  have q2 := fun t g n d pa de so we co la inc => (@pad39 t g n d pa de so we co la inc s hs hp).2.1
  have q3 := fun t g n d pa de so we co la inc => (@pad39 t g n d pa de so we co la inc s hs hp).2.2
  have q4 := fun t g n d pa de so we co la inc => @inner39 t g n d pa de so we co la inc s hs hp
  have i0 : decide ((0 : Int) < (s.length : Int)) = true := decide_eq_true (by omega)
  have i1 : bnd (1 : Int) (s.length : Int) (s.length : Int) = true := bndT (by omega) (by omega) (by omega)
  have o1 : decide ((s.length : Int) - 1 - bA s 0 < 0) = false := decide_eq_false (by omega)
  have o2 : decide (bA s 0 > (s.length : Int) - 1) = false := decide_eq_false (by omega)
  have i2 : bnd (1 : Int) ((s.length : Int) - bA s 0) (s.length : Int) = true := bndT (by omega) (by omega) (by omega)
  have i3 : bnd (0 : Int) ((s.length : Int) - 1 - bA s 0) ((s.length : Int) - 1) = true := bndT (by omega) (by omega) (by omega)
  have i4 := inner71 ho
  have i5 := inner_len ho
  have r5 : ∀ t g n d pa de so we co la inc, rev39n_5 t g n d pa de so we co la inc s = ((inner s).length : Int) := by
    intro t g n d pa de so we co la inc
    unfold rev39n_5
    rw [q4]
  simp only [List.length_nil, Nat.zero_le, FrEq, vev12_0, vev12_1, vev12_2, vev12_3, vev12_4, vev12_5, vev12_6, vev12_7, vev12_8, vev12_9, vev12_10, vev12_11, vev12_12, vev12_13, vev12_14, rev12_0, rev12_1, rev12_2, rev12_3, rev12_4, rev12_5, rev12_6, rev12_7, rev12_8, vev13_0, vev13_1, vev13_2, vev13_3, vev13_4, vev13_5, vev13_6, vev13_7, vev13_8, vev13_9, vev13_10, vev13_11, vev13_12, vev13_13, vev13_14, rev13_1, vev37_0, vev37_1, vev37_2, vev37_3, vev37_4, vev37_5, vev37_6, vev37_7, vev37_8, vev37_9, vev37_10, rev37_1, vev60_0, vev60_1, vev60_2, vev60_3, vev60_4, vev60_5, vev60_6, rev60_0, rev60_1, rev60_2, rev60_3, vev71_0, vev71_1, vev71_2, vev71_3, vev39n_0, vev39n_1, vev39n_2, vev39n_3, vev39n_4, vev39n_5, vev39n_6, vev39n_7, vev39n_8, vev39n_9, vev39n_10, vev39n_11, vev39n_12, vev35n_0, vev35_0, vev36n_0, vev40n_0, vev40n_1, vev56n_0, vev56_0, vev62n_0, vev61n_0, vev61n_1, vev64_0, vev65_0, cond_true, cond_false, Bool.not_true, Bool.not_false, Bool.and_true, and_self, beq_self_eq_true, bne_self_eq_false, w0, Int.reduceBEq, Int.reduceLE, decide_true, astray, h, f8.1, f8.2, f32.1, f32.2, h8, hn, p1, p2, p3, q1, q2, q3, q4, i0, i1, o1, o2, i2, i3, i4, r5, h32]
theorem fr1l {l t g n : Int} {s : List UInt8} (h : vev38_0 t n = false) (hg : 0 ≤ g ∧ g ≤ 255) (h8 : (bits BinOp.and IntKind.u8 g 8 != 0) = true) (hs : s.length ≤ 300) (hp : 0 < s.length) (ho : bA s 0 ≤ (s.length : Int) - 1) (h32 : (bits BinOp.and IntKind.u8 g 32 != 0) = true) (hl : (inner s).length < 5) (ht : t = 1) : FrEq l t g n s := by
  subst ht
  have f8 := r55 (allB_at 256 has8 g hg.1 (by omega))
  have f32 := r55 (allB_at 256 has32 g hg.1 (by omega))
  have hb := bA_le s 0
  have hn := lenPos hp
  have p1 := fun t g n d pa de so we co la inc ps => (@pad71 t g n d pa de so we co la inc ps s hs).1
  have p2 := fun t g n d pa de so we co la inc ps => (@pad71 t g n d pa de so we co la inc ps s hs).2.1
  have p3 := fun t g n d pa de so we co la inc ps => (@pad71 t g n d pa de so we co la inc ps s hs).2.2
  have q1 := fun t g n d pa de so we co la inc => (@pad39 t g n d pa de so we co la inc s hs hp).1
  have q2 := fun t g n d pa de so we co la inc => (@pad39 t g n d pa de so we co la inc s hs hp).2.1
  have q3 := fun t g n d pa de so we co la inc => (@pad39 t g n d pa de so we co la inc s hs hp).2.2
  have q4 := fun t g n d pa de so we co la inc => @inner39 t g n d pa de so we co la inc s hs hp
  have i0 : decide ((0 : Int) < (s.length : Int)) = true := decide_eq_true (by omega)
  have i1 : bnd (1 : Int) (s.length : Int) (s.length : Int) = true := bndT (by omega) (by omega) (by omega)
  have o1 : decide ((s.length : Int) - 1 - bA s 0 < 0) = false := decide_eq_false (by omega)
  have o2 : decide (bA s 0 > (s.length : Int) - 1) = false := decide_eq_false (by omega)
  have i2 : bnd (1 : Int) ((s.length : Int) - bA s 0) (s.length : Int) = true := bndT (by omega) (by omega) (by omega)
  have i3 : bnd (0 : Int) ((s.length : Int) - 1 - bA s 0) ((s.length : Int) - 1) = true := bndT (by omega) (by omega) (by omega)
  have i4 := inner71 ho
  have i5 := inner_len ho
  have r5 : ∀ t g n d pa de so we co la inc, rev39n_5 t g n d pa de so we co la inc s = ((inner s).length : Int) := by
    intro t g n d pa de so we co la inc
    unfold rev39n_5
    rw [q4]
  have hd : decide (((inner s).length : Int) < 5) = true := decide_eq_true (by omega)
  simp only [List.length_nil, Nat.zero_le, FrEq, vev12_0, vev12_1, vev12_2, vev12_3, vev12_4, vev12_5, vev12_6, vev12_7, vev12_8, vev12_9, vev12_10, vev12_11, vev12_12, vev12_13, vev12_14, rev12_0, rev12_1, rev12_2, rev12_3, rev12_4, rev12_5, rev12_6, rev12_7, rev12_8, vev13_0, vev13_1, vev13_2, vev13_3, vev13_4, vev13_5, vev13_6, vev13_7, vev13_8, vev13_9, vev13_10, vev13_11, vev13_12, vev13_13, vev13_14, rev13_1, vev37_0, vev37_1, vev37_2, vev37_3, vev37_4, vev37_5, vev37_6, vev37_7, vev37_8, vev37_9, vev37_10, rev37_1, vev60_0, vev60_1, vev60_2, vev60_3, vev60_4, vev60_5, vev60_6, rev60_0, rev60_1, rev60_2, rev60_3, vev71_0, vev71_1, vev71_2, vev71_3, vev39n_0, vev39n_1, vev39n_2, vev39n_3, vev39n_4, vev39n_5, vev39n_6, vev39n_7, vev39n_8, vev39n_9, vev39n_10, vev39n_11, vev39n_12, vev35n_0, vev35_0, vev36n_0, vev40n_0, vev40n_1, vev56n_0, vev56_0, vev62n_0, vev61n_0, vev61n_1, vev64_0, vev65_0, cond_true, cond_false, Bool.not_true, Bool.not_false, Bool.and_true, and_self, beq_self_eq_true, bne_self_eq_false, w6, Int.reduceBEq, Int.reduceLE, decide_true, astray, h, f8.1, f8.2, f32.1, f32.2, h8, hn, p1, p2, p3, q1, q2, q3, q4, i0, i1, o1, o2, i2, i3, i4, r5, h32, hd, show ((6 : Int) != 0) = true from rfl]
theorem fr1m {l t g n : Int} {s : List UInt8} (h : vev38_0 t n = false) (hg : 0 ≤ g ∧ g ≤ 255) (h8 : (bits BinOp.and IntKind.u8 g 8 != 0) = true) (hs : s.length ≤ 300) (hp : 0 < s.length) (ho : bA s 0 ≤ (s.length : Int) - 1) (h32 : (bits BinOp.and IntKind.u8 g 32 != 0) = true) (hl : 5 ≤ (inner s).length) (ht : t = 1) : FrEq l t g n s := by
  subst ht
  have f8 := r55 (allB_at 256 has8 g hg.1 (by omega))
  have f32 := r55 (allB_at 256 has32 g hg.1 (by omega))
  have hb := bA_le s 0
  have hn := lenPos hp
  have p1 := fun t g n d pa de so we co la inc ps => (@pad71 t g n d pa de so we co la inc ps s hs).1
  have p2 := fun t g n d pa de so we co la inc ps => (@pad71 t g n d pa de so we co la inc ps s hs).2.1
  have p3 := fun t g n d pa de so we co la inc ps => (@pad71 t g n d pa de so we co la inc ps s hs).2.2
  have q1 := fun t g n d pa de so we co la inc => (@pad39 t g n d pa de so we co la inc s hs hp).1
  have q2 := fun t g n d pa de so we co la inc => (@pad39 t g n d pa de so we co la inc s hs hp).2.1
  have q3 := fun t g n d pa de so we co la inc => (@pad39 t g n d pa de so we co la inc s hs hp).2.2
  have q4 := fun t g n d pa de so we co la inc => @inner39 t g n d pa de so we co la inc s hs hp
  have i0 : decide ((0 : Int) < (s.length : Int)) = true := decide_eq_true (by omega)
  have i1 : bnd (1 : Int) (s.length : Int) (s.length : Int) = true := bndT (by omega) (by omega) (by omega)
  have o1 : decide ((s.length : Int) - 1 - bA s 0 < 0) = false := decide_eq_false (by omega)
  have o2 : decide (bA s 0 > (s.length : Int) - 1) = false := decide_eq_false (by omega)
  have i2 : bnd (1 : Int) ((s.length : Int) - bA s 0) (s.length : Int) = true := bndT (by omega) (by omega) (by omega)
  have i3 : bnd (0 : Int) ((s.length : Int) - 1 - bA s 0) ((s.length : Int) - 1) = true := bndT (by omega) (by omega) (by omega)
  have i4 := inner71 ho
  have i5 := inner_len ho
  have r5 : ∀ t g n d pa de so we co la inc, rev39n_5 t g n d pa de so we co la inc s = ((inner s).length : Int) := by
    intro t g n d pa de so we co la inc
    unfold rev39n_5
    rw [q4]
  have hd : decide (((inner s).length : Int) < 5) = false := decide_eq_false (by omega)
  have hb5 : bnd 5 ((inner s).length : Int) ((inner s).length : Int) = true := bndT (by omega) (by omega) (by omega)
  have a1 := r59 (s := inner s) (by omega)
  have a2 := r43 (s := inner s) (by omega)
  have a3 := @r57 (s := inner s) (h := hl)
  have a4 := @r41 (s := inner s) (h := hl)
  have a5 := fun t g n d pa de so we co la inc ps => (@a3 t g n d pa de so we co la inc ps).1
  have a6 := fun t g n d pa de so we co la inc ps => (@a3 t g n d pa de so we co la inc ps).2.1
  have a7 := fun t g n d pa de so we co la inc ps => (@a3 t g n d pa de so we co la inc ps).2.2
  have b5 := fun t g n d pa de so we co la inc => (@a4 t g n d pa de so we co la inc).1
  have b6 := fun t g n d pa de so we co la inc => (@a4 t g n d pa de so we co la inc).2.1
  have b7 := fun t g n d pa de so we co la inc => (@a4 t g n d pa de so we co la inc).2.2
  simp only [List.length_nil, Nat.zero_le, FrEq, vev12_0, vev12_1, vev12_2, vev12_3, vev12_4, vev12_5, vev12_6, vev12_7, vev12_8, vev12_9, vev12_10, vev12_11, vev12_12, vev12_13, vev12_14, rev12_0, rev12_1, rev12_2, rev12_3, rev12_4, rev12_5, rev12_6, rev12_7, rev12_8, vev13_0, vev13_1, vev13_2, vev13_3, vev13_4, vev13_5, vev13_6, vev13_7, vev13_8, vev13_9, vev13_10, vev13_11, vev13_12, vev13_13, vev13_14, rev13_1, vev37_0, vev37_1, vev37_2, vev37_3, vev37_4, vev37_5, vev37_6, vev37_7, vev37_8, vev37_9, vev37_10, rev37_1, vev60_0, vev60_1, vev60_2, vev60_3, vev60_4, vev60_5, vev60_6, rev60_0, rev60_1, rev60_2, rev60_3, vev71_0, vev71_1, vev71_2, vev71_3, vev39n_0, vev39n_1, vev39n_2, vev39n_3, vev39n_4, vev39n_5, vev39n_6, vev39n_7, vev39n_8, vev39n_9, vev39n_10, vev39n_11, vev39n_12, vev35n_0, vev35_0, vev36n_0, vev40n_0, vev40n_1, vev56n_0, vev56_0, vev62n_0, vev61n_0, vev61n_1, vev64_0, vev65_0, cond_true, cond_false, Bool.not_true, Bool.not_false, Bool.and_true, and_self, beq_self_eq_true, bne_self_eq_false, w0, Int.reduceBEq, Int.reduceLE, decide_true, astray, h, f8.1, f8.2, f32.1, f32.2, h8, hn, p1, p2, p3, q1, q2, q3, q4, i0, i1, o1, o2, i2, i3, i4, r5, h32, hd, hb5, a1.1, a2.1, a5, a6, a7, b5, b6, b7]
theorem fr2w {l t g n : Int} {s : List UInt8} (h : vev38_0 t n = false) (hg : 0 ≤ g ∧ g ≤ 255) (hk : ((s.length : Int) != 5) = true) (ht : t = 2) : FrEq l t g n s := by
  subst ht
  have f8 := r55 (allB_at 256 has8 g hg.1 (by omega))
  have f32 := r55 (allB_at 256 has32 g hg.1 (by omega))
  simp only [List.length_nil, Nat.zero_le, FrEq, vev12_0, vev12_1, vev12_2, vev12_3, vev12_4, vev12_5, vev12_6, vev12_7, vev12_8, vev12_9, vev12_10, vev12_11, vev12_12, vev12_13, vev12_14, rev12_0, rev12_1, rev12_2, rev12_3, rev12_4, rev12_5, rev12_6, rev12_7, rev12_8, vev13_0, vev13_1, vev13_2, vev13_3, vev13_4, vev13_5, vev13_6, vev13_7, vev13_8, vev13_9, vev13_10, vev13_11, vev13_12, vev13_13, vev13_14, rev13_1, vev37_0, vev37_1, vev37_2, vev37_3, vev37_4, vev37_5, vev37_6, vev37_7, vev37_8, vev37_9, vev37_10, rev37_1, vev60_0, vev60_1, vev60_2, vev60_3, vev60_4, vev60_5, vev60_6, rev60_0, rev60_1, rev60_2, rev60_3, vev71_0, vev71_1, vev71_2, vev71_3, vev39n_0, vev39n_1, vev39n_2, vev39n_3, vev39n_4, vev39n_5, vev39n_6, vev39n_7, vev39n_8, vev39n_9, vev39n_10, vev39n_11, vev39n_12, vev35n_0, vev35_0, vev36n_0, vev40n_0, vev40n_1, vev56n_0, vev56_0, vev62n_0, vev61n_0, vev61n_1, vev64_0, vev65_0, cond_true, cond_false, Bool.not_true, Bool.not_false, Bool.true_and, and_self, beq_self_eq_true, bne_self_eq_false, w6, Int.reduceBEq, Int.reduceLE, decide_true, decide_false, astray, h, f8.1, f8.2, f32.1, f32.2, hk]
theorem fr3w {l t g n : Int} {s : List UInt8} (h : vev38_0 t n = false) (hg : 0 ≤ g ∧ g ≤ 255) (hk : ((s.length : Int) != 4) = true) (ht : t = 3) : FrEq l t g n s := by
  subst ht
  have f8 := r55 (allB_at 256 has8 g hg.1 (by omega))
  have f32 := r55 (allB_at 256 has32 g hg.1 (by omega))
  simp only [List.length_nil, Nat.zero_le, FrEq, vev12_0, vev12_1, vev12_2, vev12_3, vev12_4, vev12_5, vev12_6, vev12_7, vev12_8, vev12_9, vev12_10, vev12_11, vev12_12, vev12_13, vev12_14, rev12_0, rev12_1, rev12_2, rev12_3, rev12_4, rev12_5, rev12_6, rev12_7, rev12_8, vev13_0, vev13_1, vev13_2, vev13_3, vev13_4, vev13_5, vev13_6, vev13_7, vev13_8, vev13_9, vev13_10, vev13_11, vev13_12, vev13_13, vev13_14, rev13_1, vev37_0, vev37_1, vev37_2, vev37_3, vev37_4, vev37_5, vev37_6, vev37_7, vev37_8, vev37_9, vev37_10, rev37_1, vev60_0, vev60_1, vev60_2, vev60_3, vev60_4, vev60_5, vev60_6, rev60_0, rev60_1, rev60_2, rev60_3, vev71_0, vev71_1, vev71_2, vev71_3, vev39n_0, vev39n_1, vev39n_2, vev39n_3, vev39n_4, vev39n_5, vev39n_6, vev39n_7, vev39n_8, vev39n_9, vev39n_10, vev39n_11, vev39n_12, vev35n_0, vev35_0, vev36n_0, vev40n_0, vev40n_1, vev56n_0, vev56_0, vev62n_0, vev61n_0, vev61n_1, vev64_0, vev65_0, cond_true, cond_false, Bool.not_false, Bool.true_and, and_self, beq_self_eq_true, bne_self_eq_false, w6, Int.reduceBEq, Int.reduceLE, decide_true, decide_false, astray, h, f8.1, f8.2, f32.1, f32.2, hk]
theorem fr8w {l t g n : Int} {s : List UInt8} (h : vev38_0 t n = false) (hg : 0 ≤ g ∧ g ≤ 255) (hk : ((s.length : Int) != 4) = true) (ht : t = 8) : FrEq l t g n s := by
  subst ht
  have f8 := r55 (allB_at 256 has8 g hg.1 (by omega))
  have f32 := r55 (allB_at 256 has32 g hg.1 (by omega))
  simp only [List.length_nil, Nat.zero_le, FrEq, vev12_0, vev12_1, vev12_2, vev12_3, vev12_4, vev12_5, vev12_6, vev12_7, vev12_8, vev12_9, vev12_10, vev12_11, vev12_12, vev12_13, vev12_14, rev12_0, rev12_1, rev12_2, rev12_3, rev12_4, rev12_5, rev12_6, rev12_7, rev12_8, vev13_0, vev13_1, vev13_2, vev13_3, vev13_4, vev13_5, vev13_6, vev13_7, vev13_8, vev13_9, vev13_10, vev13_11, vev13_12, vev13_13, vev13_14, rev13_1, vev37_0, vev37_1, vev37_2, vev37_3, vev37_4, vev37_5, vev37_6, vev37_7, vev37_8, vev37_9, vev37_10, rev37_1, vev60_0, vev60_1, vev60_2, vev60_3, vev60_4, vev60_5, vev60_6, rev60_0, rev60_1, rev60_2, rev60_3, vev71_0, vev71_1, vev71_2, vev71_3, vev39n_0, vev39n_1, vev39n_2, vev39n_3, vev39n_4, vev39n_5, vev39n_6, vev39n_7, vev39n_8, vev39n_9, vev39n_10, vev39n_11, vev39n_12, vev35n_0, vev35_0, vev36n_0, vev40n_0, vev40n_1, vev56n_0, vev56_0, vev62n_0, vev61n_0, vev61n_1, vev64_0, vev65_0, cond_true, cond_false, Bool.not_true, Bool.not_false, Bool.true_and, and_self, beq_self_eq_true, bne_self_eq_false, w6, Int.reduceBEq, Int.reduceLE, decide_true, decide_false, astray, h, f8.1, f8.2, f32.1, f32.2, hk]
theorem fr6w {l t g n : Int} {s : List UInt8} (h : vev38_0 t n = false) (hg : 0 ≤ g ∧ g ≤ 255) (hk : ((s.length : Int) != 8) = true) (ht : t = 6) : FrEq l t g n s := by
  subst ht
  have f8 := r55 (allB_at 256 has8 g hg.1 (by omega))
  have f32 := r55 (allB_at 256 has32 g hg.1 (by omega))
  simp only [List.length_nil, Nat.zero_le, FrEq, vev12_0, vev12_1, vev12_2, vev12_3, vev12_4, vev12_5, vev12_6, vev12_7, vev12_8, vev12_9, vev12_10, vev12_11, vev12_12, vev12_13, vev12_14, rev12_0, rev12_1, rev12_2, rev12_3, rev12_4, rev12_5, rev12_6, rev12_7, rev12_8, vev13_0, vev13_1, vev13_2, vev13_3, vev13_4, vev13_5, vev13_6, vev13_7, vev13_8, vev13_9, vev13_10, vev13_11, vev13_12, vev13_13, vev13_14, rev13_1, vev37_0, vev37_1, vev37_2, vev37_3, vev37_4, vev37_5, vev37_6, vev37_7, vev37_8, vev37_9, vev37_10, rev37_1, vev60_0, vev60_1, vev60_2, vev60_3, vev60_4, vev60_5, vev60_6, rev60_0, rev60_1, rev60_2, rev60_3, vev71_0, vev71_1, vev71_2, vev71_3, vev39n_0, vev39n_1, vev39n_2, vev39n_3, vev39n_4, vev39n_5, vev39n_6, vev39n_7, vev39n_8, vev39n_9, vev39n_10, vev39n_11, vev39n_12, vev35n_0, vev35_0, vev36n_0, vev40n_0, vev40n_1, vev56n_0, vev56_0, vev62n_0, vev61n_0, vev61n_1, vev64_0, vev65_0, cond_true, cond_false, Bool.not_false, Bool.true_and, and_self, beq_self_eq_true, bne_self_eq_false, w6, Int.reduceBEq, Int.reduceLE, decide_true, decide_false, astray, h, f8.1, f8.2, f32.1, f32.2, hk]
theorem fr7w {l t g n : Int} {s : List UInt8} (h : vev38_0 t n = false) (hg : 0 ≤ g ∧ g ≤ 255) (hk : decide ((s.length : Int) < 8) = true) (ht : t = 7) : FrEq l t g n s := by
  subst ht
  have f8 := r55 (allB_at 256 has8 g hg.1 (by omega))
  have f32 := r55 (allB_at 256 has32 g hg.1 (by omega))
  simp only [List.length_nil, Nat.zero_le, FrEq, vev12_0, vev12_1, vev12_2, vev12_3, vev12_4, vev12_5, vev12_6, vev12_7, vev12_8, vev12_9, vev12_10, vev12_11, vev12_12, vev12_13, vev12_14, rev12_0, rev12_1, rev12_2, rev12_3, rev12_4, rev12_5, rev12_6, rev12_7, rev12_8, vev13_0, vev13_1, vev13_2, vev13_3, vev13_4, vev13_5, vev13_6, vev13_7, vev13_8, vev13_9, vev13_10, vev13_11, vev13_12, vev13_13, vev13_14, rev13_1, vev37_0, vev37_1, vev37_2, vev37_3, vev37_4, vev37_5, vev37_6, vev37_7, vev37_8, vev37_9, vev37_10, rev37_1, vev60_0, vev60_1, vev60_2, vev60_3, vev60_4, vev60_5, vev60_6, rev60_0, rev60_1, rev60_2, rev60_3, vev71_0, vev71_1, vev71_2, vev71_3, vev39n_0, vev39n_1, vev39n_2, vev39n_3, vev39n_4, vev39n_5, vev39n_6, vev39n_7, vev39n_8, vev39n_9, vev39n_10, vev39n_11, vev39n_12, vev35n_0, vev35_0, vev36n_0, vev40n_0, vev40n_1, vev56n_0, vev56_0, vev62n_0, vev61n_0, vev61n_1, vev64_0, vev65_0, cond_true, cond_false, Bool.not_false, Bool.true_and, and_self, beq_self_eq_true, bne_self_eq_false, w6, Int.reduceBEq, Int.reduceLE, decide_true, decide_false, astray, h, f8.1, f8.2, f32.1, f32.2, hk]
theorem fr4w {l t g n : Int} {s : List UInt8} (h : vev38_0 t n = false) (hg : 0 ≤ g ∧ g ≤ 255) (hk : ((s.length : Int).tmod 6 != 0) = true) (ht : t = 4) : FrEq l t g n s := by
  subst ht
  have f8 := r55 (allB_at 256 has8 g hg.1 (by omega))
  have f32 := r55 (allB_at 256 has32 g hg.1 (by omega))
  simp only [List.length_nil, Nat.zero_le, FrEq, vev12_0, vev12_1, vev12_2, vev12_3, vev12_4, vev12_5, vev12_6, vev12_7, vev12_8, vev12_9, vev12_10, vev12_11, vev12_12, vev12_13, vev12_14, rev12_0, rev12_1, rev12_2, rev12_3, rev12_4, rev12_5, rev12_6, rev12_7, rev12_8, vev13_0, vev13_1, vev13_2, vev13_3, vev13_4, vev13_5, vev13_6, vev13_7, vev13_8, vev13_9, vev13_10, vev13_11, vev13_12, vev13_13, vev13_14, rev13_1, vev37_0, vev37_1, vev37_2, vev37_3, vev37_4, vev37_5, vev37_6, vev37_7, vev37_8, vev37_9, vev37_10, rev37_1, vev60_0, vev60_1, vev60_2, vev60_3, vev60_4, vev60_5, vev60_6, rev60_0, rev60_1, rev60_2, rev60_3, vev71_0, vev71_1, vev71_2, vev71_3, vev39n_0, vev39n_1, vev39n_2, vev39n_3, vev39n_4, vev39n_5, vev39n_6, vev39n_7, vev39n_8, vev39n_9, vev39n_10, vev39n_11, vev39n_12, vev35n_0, vev35_0, vev36n_0, vev40n_0, vev40n_1, vev56n_0, vev56_0, vev62n_0, vev61n_0, vev61n_1, vev64_0, vev65_0, cond_true, cond_false, Bool.not_false, Bool.true_and, and_self, beq_self_eq_true, bne_self_eq_false, w6, Int.reduceBEq, Int.reduceLE, decide_true, decide_false, astray, h, f8.1, f8.2, f32.1, f32.2, hk]
theorem fr4v {l t g n : Int} {s : List UInt8} (h : vev38_0 t n = false) (hg : 0 ≤ g ∧ g ≤ 255) (hk : ((s.length : Int).tmod 6 != 0) = false) (h1 : (bits BinOp.and IntKind.u8 g 1 != 0) = true) (hp : 0 < s.length) (ht : t = 4) : FrEq l t g n s := by
  subst ht
  have f8 := r55 (allB_at 256 has8 g hg.1 (by omega))
  have f32 := r55 (allB_at 256 has32 g hg.1 (by omega))
  have f1 := r55 (allB_at 256 has1 g hg.1 (by omega))
  have e1 : decide ((s.length : Int) > 0) = true := decide_eq_true (by omega)
  have e2 : ((s.length : Int) != 0) = true := bne_iff_ne.2 (by omega)
  simp only [List.length_nil, Nat.zero_le, FrEq, vev12_0, vev12_1, vev12_2, vev12_3, vev12_4, vev12_5, vev12_6, vev12_7, vev12_8, vev12_9, vev12_10, vev12_11, vev12_12, vev12_13, vev12_14, rev12_0, rev12_1, rev12_2, rev12_3, rev12_4, rev12_5, rev12_6, rev12_7, rev12_8, vev13_0, vev13_1, vev13_2, vev13_3, vev13_4, vev13_5, vev13_6, vev13_7, vev13_8, vev13_9, vev13_10, vev13_11, vev13_12, vev13_13, vev13_14, rev13_1, vev37_0, vev37_1, vev37_2, vev37_3, vev37_4, vev37_5, vev37_6, vev37_7, vev37_8, vev37_9, vev37_10, rev37_1, vev60_0, vev60_1, vev60_2, vev60_3, vev60_4, vev60_5, vev60_6, rev60_0, rev60_1, rev60_2, rev60_3, vev71_0, vev71_1, vev71_2, vev71_3, vev39n_0, vev39n_1, vev39n_2, vev39n_3, vev39n_4, vev39n_5, vev39n_6, vev39n_7, vev39n_8, vev39n_9, vev39n_10, vev39n_11, vev39n_12, vev35n_0, vev35_0, vev36n_0, vev40n_0, vev40n_1, vev56n_0, vev56_0, vev62n_0, vev61n_0, vev61n_1, vev64_0, vev65_0, cond_true, cond_false, Bool.not_false, Bool.and_true, and_self, beq_self_eq_true, bne_self_eq_false, w6, Int.reduceBEq, Int.reduceLE, decide_true, decide_false, astray, h, f8.1, f8.2, f32.1, f32.2, hk, h1, f1.1, f1.2, e1, e2]
theorem fr2 {l t g n : Int} {s : List UInt8} (h : vev38_0 t n = false) (hg : 0 ≤ g ∧ g ≤ 255) (hk : s.length = 5) (ht : t = 2) : FrEq l t g n s := by
  subst ht
  have f8 := r55 (allB_at 256 has8 g hg.1 (by omega))
  have f32 := r55 (allB_at 256 has32 g hg.1 (by omega))
  have hk' : ((s.length : Int) != 5) = false := by simp; omega
  have a1 := r59 (s := s) (by omega)
  have a2 := r43 (s := s) (by omega)
  have a3 := @r57 (s := s) (h := by omega)
  have a4 := @r41 (s := s) (h := by omega)
  have a5 := fun t g n d pa de so we co la inc ps => (@a3 t g n d pa de so we co la inc ps).1
  have a6 := fun t g n d pa de so we co la inc ps => (@a3 t g n d pa de so we co la inc ps).2.1
  have a7 := fun t g n d pa de so we co la inc ps => (@a3 t g n d pa de so we co la inc ps).2.2
  have b5 := fun t g n d pa de so we co la inc => (@a4 t g n d pa de so we co la inc).1
  have b6 := fun t g n d pa de so we co la inc => (@a4 t g n d pa de so we co la inc).2.1
  have b7 := fun t g n d pa de so we co la inc => (@a4 t g n d pa de so we co la inc).2.2
  simp only [List.length_nil, Nat.zero_le, FrEq, vev12_0, vev12_1, vev12_2, vev12_3, vev12_4, vev12_5, vev12_6, vev12_7, vev12_8, vev12_9, vev12_10, vev12_11, vev12_12, vev12_13, vev12_14, rev12_0, rev12_1, rev12_2, rev12_3, rev12_4, rev12_5, rev12_6, rev12_7, rev12_8, vev13_0, vev13_1, vev13_2, vev13_3, vev13_4, vev13_5, vev13_6, vev13_7, vev13_8, vev13_9, vev13_10, vev13_11, vev13_12, vev13_13, vev13_14, rev13_1, vev37_0, vev37_1, vev37_2, vev37_3, vev37_4, vev37_5, vev37_6, vev37_7, vev37_8, vev37_9, vev37_10, rev37_1, vev60_0, vev60_1, vev60_2, vev60_3, vev60_4, vev60_5, vev60_6, rev60_0, rev60_1, rev60_2, rev60_3, vev71_0, vev71_1, vev71_2, vev71_3, vev39n_0, vev39n_1, vev39n_2, vev39n_3, vev39n_4, vev39n_5, vev39n_6, vev39n_7, vev39n_8, vev39n_9, vev39n_10, vev39n_11, vev39n_12, vev35n_0, vev35_0, vev36n_0, vev40n_0, vev40n_1, vev56n_0, vev56_0, vev62n_0, vev61n_0, vev61n_1, vev64_0, vev65_0, cond_true, cond_false, Bool.not_true, Bool.not_false, Bool.true_and, and_self, beq_self_eq_true, bne_self_eq_false, w0, Int.reduceBEq, Int.reduceLE, decide_true, decide_false, astray, h, f8.1, f8.2, f32.1, f32.2, hk', a1.1, a2.1, a5, a6, a7, b5, b6, b7]
theorem fr3 {l t g n : Int} {s : List UInt8} (h : vev38_0 t n = false) (hg : 0 ≤ g ∧ g ≤ 255) (hk : s.length = 4) (ht : t = 3) : FrEq l t g n s := by
  subst ht
  have f8 := r55 (allB_at 256 has8 g hg.1 (by omega))
  have f32 := r55 (allB_at 256 has32 g hg.1 (by omega))
  have hk' : ((s.length : Int) != 4) = false := by simp; omega
  have hb := numA_le s 4 (by omega)
  have a1 := r58 (s := s) (by omega)
  have a2 := r42 (s := s) (by omega)
  rw [hk] at a1 a2
  have a3 := wrapU (numA s 4) (by omega) (by omega)
  simp only [List.length_nil, Nat.zero_le, FrEq, vev12_0, vev12_1, vev12_2, vev12_3, vev12_4, vev12_5, vev12_6, vev12_7, vev12_8, vev12_9, vev12_10, vev12_11, vev12_12, vev12_13, vev12_14, rev12_0, rev12_1, rev12_2, rev12_3, rev12_4, rev12_5, rev12_6, rev12_7, rev12_8, vev13_0, vev13_1, vev13_2, vev13_3, vev13_4, vev13_5, vev13_6, vev13_7, vev13_8, vev13_9, vev13_10, vev13_11, vev13_12, vev13_13, vev13_14, rev13_1, vev37_0, vev37_1, vev37_2, vev37_3, vev37_4, vev37_5, vev37_6, vev37_7, vev37_8, vev37_9, vev37_10, rev37_1, vev60_0, vev60_1, vev60_2, vev60_3, vev60_4, vev60_5, vev60_6, rev60_0, rev60_1, rev60_2, rev60_3, vev71_0, vev71_1, vev71_2, vev71_3, vev39n_0, vev39n_1, vev39n_2, vev39n_3, vev39n_4, vev39n_5, vev39n_6, vev39n_7, vev39n_8, vev39n_9, vev39n_10, vev39n_11, vev39n_12, vev35n_0, vev35_0, vev36n_0, vev40n_0, vev40n_1, vev56n_0, vev56_0, vev62n_0, vev61n_0, vev61n_1, vev64_0, vev65_0, cond_true, cond_false, Bool.not_false, Bool.true_and, and_self, beq_self_eq_true, bne_self_eq_false, w0, Int.reduceBEq, Int.reduceLE, decide_true, decide_false, astray, h, f8.1, f8.2, f32.1, f32.2, hk', a1.1, a1.2, a2.1, a2.2, a3]
theorem fr7 {l t g n : Int} {s : List UInt8} (h : vev38_0 t n = false) (hg : 0 ≤ g ∧ g ≤ 255) (hk : 8 ≤ s.length) (hs : s.length ≤ 300) (ht : t = 7) : FrEq l t g n s := by
  subst ht
  have f8 := r55 (allB_at 256 has8 g hg.1 (by omega))
  have f32 := r55 (allB_at 256 has32 g hg.1 (by omega))
  have hk' : decide ((s.length : Int) < 8) = false := decide_eq_false (by omega)
  have c1 := r59 (s := s) (by omega)
  have c2 := r43 (s := s) (by omega)
  have hl : (List.drop (Int.toNat 4) (List.take (Int.toNat 8) s)).length = 4 := by
    rw [show Int.toNat 4 = 4 from rfl, show Int.toNat 8 = 8 from rfl, List.length_drop, List.length_take]; omega
  have a1 := r58 (s := List.drop (Int.toNat 4) (List.take (Int.toNat 8) s)) (by omega)
  have a2 := r42 (s := List.drop (Int.toNat 4) (List.take (Int.toNat 8) s)) (by omega)
  have hb := numA_le (List.drop (Int.toNat 4) (List.take (Int.toNat 8) s)) 4 (by omega)
  rw [hl] at a1 a2
  have a3 := wrapU (numA (List.drop (Int.toNat 4) (List.take (Int.toNat 8) s)) 4) (by omega) (by omega)
  have b1 : bnd 4 8 (s.length : Int) = true := bndT (by omega) (by omega) (by omega)
  have b2 : bnd 8 (s.length : Int) (s.length : Int) = true := bndT (by omega) (by omega) (by omega)
  simp only [List.length_nil, Nat.zero_le, FrEq, vev12_0, vev12_1, vev12_2, vev12_3, vev12_4, vev12_5, vev12_6, vev12_7, vev12_8, vev12_9, vev12_10, vev12_11, vev12_12, vev12_13, vev12_14, rev12_0, rev12_1, rev12_2, rev12_3, rev12_4, rev12_5, rev12_6, rev12_7, rev12_8, vev13_0, vev13_1, vev13_2, vev13_3, vev13_4, vev13_5, vev13_6, vev13_7, vev13_8, vev13_9, vev13_10, vev13_11, vev13_12, vev13_13, vev13_14, rev13_1, vev37_0, vev37_1, vev37_2, vev37_3, vev37_4, vev37_5, vev37_6, vev37_7, vev37_8, vev37_9, vev37_10, rev37_1, vev60_0, vev60_1, vev60_2, vev60_3, vev60_4, vev60_5, vev60_6, rev60_0, rev60_1, rev60_2, rev60_3, vev71_0, vev71_1, vev71_2, vev71_3, vev39n_0, vev39n_1, vev39n_2, vev39n_3, vev39n_4, vev39n_5, vev39n_6, vev39n_7, vev39n_8, vev39n_9, vev39n_10, vev39n_11, vev39n_12, vev35n_0, vev35_0, vev36n_0, vev40n_0, vev40n_1, vev56n_0, vev56_0, vev62n_0, vev61n_0, vev61n_1, vev64_0, vev65_0, cond_true, cond_false, Bool.not_false, Bool.true_and, and_self, beq_self_eq_true, bne_self_eq_false, w0, Int.reduceBEq, Int.reduceLE, decide_true, decide_false, astray, h, f8.1, f8.2, f32.1, f32.2, hk', a1.1, a1.2, a2.1, a2.2, a3, b1, b2, c1.1, c1.2, c2.1, c2.2]
theorem fr8z {l t g n : Int} {s : List UInt8} (h : vev38_0 t n = false) (hg : 0 ≤ g ∧ g ≤ 255) (hk : s.length = 4) (hz : (N31 s == 0) = true) (ht : t = 8) : FrEq l t g n s := by
  subst ht
  have f8 := r55 (allB_at 256 has8 g hg.1 (by omega))
  have f32 := r55 (allB_at 256 has32 g hg.1 (by omega))
  have hk' : ((s.length : Int) != 4) = false := by simp; omega
  have c1 := r59 (s := s) (by omega)
  have c2 := r43 (s := s) (by omega)
  simp only [List.length_nil, Nat.zero_le, FrEq, vev12_0, vev12_1, vev12_2, vev12_3, vev12_4, vev12_5, vev12_6, vev12_7, vev12_8, vev12_9, vev12_10, vev12_11, vev12_12, vev12_13, vev12_14, rev12_0, rev12_1, rev12_2, rev12_3, rev12_4, rev12_5, rev12_6, rev12_7, rev12_8, vev13_0, vev13_1, vev13_2, vev13_3, vev13_4, vev13_5, vev13_6, vev13_7, vev13_8, vev13_9, vev13_10, vev13_11, vev13_12, vev13_13, vev13_14, rev13_1, vev37_0, vev37_1, vev37_2, vev37_3, vev37_4, vev37_5, vev37_6, vev37_7, vev37_8, vev37_9, vev37_10, rev37_1, vev60_0, vev60_1, vev60_2, vev60_3, vev60_4, vev60_5, vev60_6, rev60_0, rev60_1, rev60_2, rev60_3, vev71_0, vev71_1, vev71_2, vev71_3, vev39n_0, vev39n_1, vev39n_2, vev39n_3, vev39n_4, vev39n_5, vev39n_6, vev39n_7, vev39n_8, vev39n_9, vev39n_10, vev39n_11, vev39n_12, vev35n_0, vev35_0, vev36n_0, vev40n_0, vev40n_1, vev56n_0, vev56_0, vev62n_0, vev61n_0, vev61n_1, vev64_0, vev65_0, cond_true, cond_false, Bool.not_true, Bool.not_false, Bool.true_and, and_self, beq_self_eq_true, bne_self_eq_false, w1, Int.reduceBEq, Int.reduceLE, decide_true, decide_false, astray, h, f8.1, f8.2, f32.1, f32.2, hk', hz, c1.1, c1.2, c2.1, c2.2, show ((1 : Int) != 0) = true from rfl]
theorem fr8n {l t g n : Int} {s : List UInt8} (h : vev38_0 t n = false) (hg : 0 ≤ g ∧ g ≤ 255) (hk : s.length = 4) (hz : (N31 s == 0) = false) (ht : t = 8) : FrEq l t g n s := by
  subst ht
  have f8 := r55 (allB_at 256 has8 g hg.1 (by omega))
  have f32 := r55 (allB_at 256 has32 g hg.1 (by omega))
  have hk' : ((s.length : Int) != 4) = false := by simp; omega
  have c1 := r59 (s := s) (by omega)
  have c2 := r43 (s := s) (by omega)
  simp only [List.length_nil, Nat.zero_le, FrEq, vev12_0, vev12_1, vev12_2, vev12_3, vev12_4, vev12_5, vev12_6, vev12_7, vev12_8, vev12_9, vev12_10, vev12_11, vev12_12, vev12_13, vev12_14, rev12_0, rev12_1, rev12_2, rev12_3, rev12_4, rev12_5, rev12_6, rev12_7, rev12_8, vev13_0, vev13_1, vev13_2, vev13_3, vev13_4, vev13_5, vev13_6, vev13_7, vev13_8, vev13_9, vev13_10, vev13_11, vev13_12, vev13_13, vev13_14, rev13_1, vev37_0, vev37_1, vev37_2, vev37_3, vev37_4, vev37_5, vev37_6, vev37_7, vev37_8, vev37_9, vev37_10, rev37_1, vev60_0, vev60_1, vev60_2, vev60_3, vev60_4, vev60_5, vev60_6, rev60_0, rev60_1, rev60_2, rev60_3, vev71_0, vev71_1, vev71_2, vev71_3, vev39n_0, vev39n_1, vev39n_2, vev39n_3, vev39n_4, vev39n_5, vev39n_6, vev39n_7, vev39n_8, vev39n_9, vev39n_10, vev39n_11, vev39n_12, vev35n_0, vev35_0, vev36n_0, vev40n_0, vev40n_1, vev56n_0, vev56_0, vev62n_0, vev61n_0, vev61n_1, vev64_0, vev65_0, cond_true, cond_false, Bool.not_true, Bool.not_false, Bool.true_and, and_self, beq_self_eq_true, bne_self_eq_false, w0, Int.reduceBEq, Int.reduceLE, decide_true, decide_false, astray, h, f8.1, f8.2, f32.1, f32.2, hk', hz, c1.1, c1.2, c2.1, c2.2]
theorem fr6 {l t g n : Int} {s : List UInt8} (h : vev38_0 t n = false) (hg : 0 ≤ g ∧ g ≤ 255) (hk : s.length = 8) (ht : t = 6) : FrEq l t g n s := by
  subst ht
  have f8 := r55 (allB_at 256 has8 g hg.1 (by omega))
  have f32 := r55 (allB_at 256 has32 g hg.1 (by omega))
  have hk' : ((s.length : Int) != 8) = false := by simp; omega
  simp only [List.length_nil, Nat.zero_le, FrEq, vev12_0, vev12_1, vev12_2, vev12_3, vev12_4, vev12_5, vev12_6, vev12_7, vev12_8, vev12_9, vev12_10, vev12_11, vev12_12, vev12_13, vev12_14, rev12_0, rev12_1, rev12_2, rev12_3, rev12_4, rev12_5, rev12_6, rev12_7, rev12_8, vev13_0, vev13_1, vev13_2, vev13_3, vev13_4, vev13_5, vev13_6, vev13_7, vev13_8, vev13_9, vev13_10, vev13_11, vev13_12, vev13_13, vev13_14, rev13_1, vev37_0, vev37_1, vev37_2, vev37_3, vev37_4, vev37_5, vev37_6, vev37_7, vev37_8, vev37_9, vev37_10, rev37_1, vev60_0, vev60_1, vev60_2, vev60_3, vev60_4, vev60_5, vev60_6, rev60_0, rev60_1, rev60_2, rev60_3, vev71_0, vev71_1, vev71_2, vev71_3, vev39n_0, vev39n_1, vev39n_2, vev39n_3, vev39n_4, vev39n_5, vev39n_6, vev39n_7, vev39n_8, vev39n_9, vev39n_10, vev39n_11, vev39n_12, vev35n_0, vev35_0, vev36n_0, vev40n_0, vev40n_1, vev56n_0, vev56_0, vev62n_0, vev61n_0, vev61n_1, vev64_0, vev65_0, cond_true, cond_false, Bool.not_false, Bool.true_and, and_self, beq_self_eq_true, bne_self_eq_false, w0, Int.reduceBEq, Int.reduceLE, decide_true, decide_false, astray, h, f8.1, f8.2, f32.1, f32.2, hk']
theorem fr4a {l t g n : Int} {s : List UInt8} (h : vev38_0 t n = false) (hg : 0 ≤ g ∧ g ≤ 255) (hk : ((s.length : Int).tmod 6 != 0) = false) (hs : s.length ≤ 300) (h1 : (bits BinOp.and IntKind.u8 g 1 != 0) = false) (ht : t = 4) : FrEq l t g n s := by
  subst ht
  have f8 := r55 (allB_at 256 has8 g hg.1 (by omega))
  have f32 := r55 (allB_at 256 has32 g hg.1 (by omega))
  have f1 := r55 (allB_at 256 has1 g hg.1 (by omega))
  have hz : s.length = 6 * (s.length / 6) := by
    have h6 : (s.length : Int).tmod 6 = ((s.length % 6 : Nat) : Int) := rfl
    rw [h6] at hk
    have h7 : ((s.length % 6 : Nat) : Int) = 0 := by simpa using hk
    omega
  have a1 : ∀ p, finL (g37_8 p) (n37_8 p) (s, []) = ([], pairsA s (s.length / 6)) := fun p => ((ends37 p (s.length / 6) hz hs).fin).2
  have a2 : ∀ p, (spI g37_8 n37_8 y37_8 z37_8 d37_8 (p, s, [])).fst = true := by
    intro p
    have f := (ends37 p (s.length / 6) hz hs).fin
    simp only [spI]
    rw [f.2, f.1]
    rfl
  have b1 : ∀ (a : Int × Int × Int × (List UInt8) × Int × Int × Bool × Int × Int × Int × Int × Int × Int × Int × (List UInt8) × Int × Int × Bool × Int × Int × Int × Int × Int × Int), (finL (g13_18 (s, a)) (n13_18 (s, a)) (0, [])).snd = pairsA s (s.length / 6) := fun a => by rw [((ends13 (s, a) (s.length / 6) hz hs).fin).2]
  have b2 : ∀ (a : Int × Int × Int × (List UInt8) × Int × Int × Bool × Int × Int × Int × Int × Int × Int × Int × (List UInt8) × Int × Int × Bool × Int × Int × Int × Int × Int × Int), (spI g13_18 n13_18 y13_18 z13_18 d13_18 ((s, a), 0, [])).fst = true := by
    intro a
    have f := (ends13 (s, a) (s.length / 6) hz hs).fin
    simp only [spI]
    rw [f.2, f.1]
    unfold y13_18 z13_18 xc13_18_0
    dsimp only
    rw [decide_eq_false (by omega)]
    rfl
  simp only [FrEq, vev12_0, vev12_1, vev12_2, vev12_3, vev12_4, vev12_5, vev12_6, vev12_7, vev12_8, vev12_9, vev12_10, vev12_11, vev12_12, vev12_13, vev12_14, rev12_0, rev12_1, rev12_2, rev12_3, rev12_4, rev12_5, rev12_6, rev12_7, rev12_8, vev13_0, vev13_1, vev13_2, vev13_3, vev13_4, vev13_5, vev13_6, vev13_7, vev13_8, vev13_9, vev13_10, vev13_11, vev13_12, vev13_13, vev13_14, rev13_1, vev37_0, vev37_1, vev37_2, vev37_3, vev37_4, vev37_5, vev37_6, vev37_7, vev37_8, vev37_9, vev37_10, rev37_1, vev60_0, vev60_1, vev60_2, vev60_3, vev60_4, vev60_5, vev60_6, rev60_0, rev60_1, rev60_2, rev60_3, vev71_0, vev71_1, vev71_2, vev71_3, vev39n_0, vev39n_1, vev39n_2, vev39n_3, vev39n_4, vev39n_5, vev39n_6, vev39n_7, vev39n_8, vev39n_9, vev39n_10, vev39n_11, vev39n_12, vev35n_0, vev35_0, vev36n_0, vev40n_0, vev40n_1, vev56n_0, vev56_0, vev62n_0, vev61n_0, vev61n_1, vev64_0, vev65_0, cond_true, cond_false, Bool.not_false, Bool.true_and, and_self, beq_self_eq_true, bne_self_eq_false, w0, Int.reduceBEq, Int.reduceLE, decide_true, decide_false, astray, h, f8.1, f8.2, f32.1, f32.2, hk, f1.1, f1.2, rev37_0, rev13_0, a1, a2, b1, b2, pairsA_len, (show s.length / 6 ≤ 300 by omega), h1]
theorem fr4b {l t g n : Int} {s : List UInt8} (h : vev38_0 t n = false) (hg : 0 ≤ g ∧ g ≤ 255) (hk : ((s.length : Int).tmod 6 != 0) = false) (hs : s.length ≤ 300) (h1 : (bits BinOp.and IntKind.u8 g 1 != 0) = true) (hp : s.length = 0) (ht : t = 4) : FrEq l t g n s := by
  subst ht
  have f8 := r55 (allB_at 256 has8 g hg.1 (by omega))
  have f32 := r55 (allB_at 256 has32 g hg.1 (by omega))
  have f1 := r55 (allB_at 256 has1 g hg.1 (by omega))
  have hz : s.length = 6 * (s.length / 6) := by
    have h6 : (s.length : Int).tmod 6 = ((s.length % 6 : Nat) : Int) := rfl
    rw [h6] at hk
    have h7 : ((s.length % 6 : Nat) : Int) = 0 := by simpa using hk
    omega
  have a1 : ∀ p, finL (g37_8 p) (n37_8 p) (s, []) = ([], pairsA s (s.length / 6)) := fun p => ((ends37 p (s.length / 6) hz hs).fin).2
  have a2 : ∀ p, (spI g37_8 n37_8 y37_8 z37_8 d37_8 (p, s, [])).fst = true := by
    intro p
    have f := (ends37 p (s.length / 6) hz hs).fin
    simp only [spI]
    rw [f.2, f.1]
    rfl
  have b1 : ∀ (a : Int × Int × Int × (List UInt8) × Int × Int × Bool × Int × Int × Int × Int × Int × Int × Int × (List UInt8) × Int × Int × Bool × Int × Int × Int × Int × Int × Int), (finL (g13_18 (s, a)) (n13_18 (s, a)) (0, [])).snd = pairsA s (s.length / 6) := fun a => by rw [((ends13 (s, a) (s.length / 6) hz hs).fin).2]
  have b2 : ∀ (a : Int × Int × Int × (List UInt8) × Int × Int × Bool × Int × Int × Int × Int × Int × Int × Int × (List UInt8) × Int × Int × Bool × Int × Int × Int × Int × Int × Int), (spI g13_18 n13_18 y13_18 z13_18 d13_18 ((s, a), 0, [])).fst = true := by
    intro a
    have f := (ends13 (s, a) (s.length / 6) hz hs).fin
    simp only [spI]
    rw [f.2, f.1]
    unfold y13_18 z13_18 xc13_18_0
    dsimp only
    rw [decide_eq_false (by omega)]
    rfl
  have e1 : decide ((s.length : Int) > 0) = false := decide_eq_false (by omega)
  have e2 : ((s.length : Int) != 0) = false := by rw [hp]; rfl
  simp only [FrEq, vev12_0, vev12_1, vev12_2, vev12_3, vev12_4, vev12_5, vev12_6, vev12_7, vev12_8, vev12_9, vev12_10, vev12_11, vev12_12, vev12_13, vev12_14, rev12_0, rev12_1, rev12_2, rev12_3, rev12_4, rev12_5, rev12_6, rev12_7, rev12_8, vev13_0, vev13_1, vev13_2, vev13_3, vev13_4, vev13_5, vev13_6, vev13_7, vev13_8, vev13_9, vev13_10, vev13_11, vev13_12, vev13_13, vev13_14, rev13_1, vev37_0, vev37_1, vev37_2, vev37_3, vev37_4, vev37_5, vev37_6, vev37_7, vev37_8, vev37_9, vev37_10, rev37_1, vev60_0, vev60_1, vev60_2, vev60_3, vev60_4, vev60_5, vev60_6, rev60_0, rev60_1, rev60_2, rev60_3, vev71_0, vev71_1, vev71_2, vev71_3, vev39n_0, vev39n_1, vev39n_2, vev39n_3, vev39n_4, vev39n_5, vev39n_6, vev39n_7, vev39n_8, vev39n_9, vev39n_10, vev39n_11, vev39n_12, vev35n_0, vev35_0, vev36n_0, vev40n_0, vev40n_1, vev56n_0, vev56_0, vev62n_0, vev61n_0, vev61n_1, vev64_0, vev65_0, cond_true, cond_false, Bool.not_false, Bool.true_and, and_self, beq_self_eq_true, bne_self_eq_false, w0, Int.reduceBEq, Int.reduceLE, decide_true, decide_false, astray, h, f8.1, f8.2, f32.1, f32.2, hk, f1.1, f1.2, rev37_0, rev13_0, a1, a2, b1, b2, pairsA_len, (show s.length / 6 ≤ 300 by omega), h1, e1, e2]
theorem frx {l t g n : Int} {s : List UInt8} (h : vev38_0 t n = false) (hg : 0 ≤ g ∧ g ≤ 255) (ht : 1 < t) (h2 : (t == 2) = false) (h3 : (t == 3) = false) (h4 : (t == 4) = false) (h6 : (t == 6) = false) (h7 : (t == 7) = false) (h8 : (t == 8) = false) : FrEq l t g n s := by
  have h0 : (t == 0) = false := by simp; omega
  have h1 : (t == 1) = false := by simp; omega
  have hd : decide (t ≤ 1) = false := decide_eq_false (by omega)
  simp only [List.length_nil, Nat.zero_le, FrEq, vev12_0, vev12_1, vev12_2, vev12_3, vev12_4, vev12_5, vev12_6, vev12_7, vev12_8, vev12_9, vev12_10, vev12_11, vev12_12, vev12_13, vev12_14, rev12_0, rev12_1, rev12_2, rev12_3, rev12_4, rev12_5, rev12_6, rev12_7, rev12_8, vev13_0, vev13_1, vev13_2, vev13_3, vev13_4, vev13_5, vev13_6, vev13_7, vev13_8, vev13_9, vev13_10, vev13_11, vev13_12, vev13_13, vev13_14, rev13_1, vev37_0, vev37_1, vev37_2, vev37_3, vev37_4, vev37_5, vev37_6, vev37_7, vev37_8, vev37_9, vev37_10, rev37_1, vev60_0, vev60_1, vev60_2, vev60_3, vev60_4, vev60_5, vev60_6, rev60_0, rev60_1, rev60_2, rev60_3, vev71_0, vev71_1, vev71_2, vev71_3, vev39n_0, vev39n_1, vev39n_2, vev39n_3, vev39n_4, vev39n_5, vev39n_6, vev39n_7, vev39n_8, vev39n_9, vev39n_10, vev39n_11, vev39n_12, vev35n_0, vev35_0, vev36n_0, vev40n_0, vev40n_1, vev56n_0, vev56_0, vev62n_0, vev61n_0, vev61n_1, vev64_0, vev65_0, cond_true, cond_false, Bool.not_false, Bool.true_and, and_self, bne_self_eq_false, w0, Int.reduceLE, decide_true, astray, h, h0, h1, h2, h3, h4, h6, h7, h8, hd]
theorem bcase (b : Bool) : b = true ∨ b = false := by cases b <;> simp
theorem fr_all {l t g n : Int} {s : List UInt8} (ht : 0 ≤ t ∧ t ≤ 255) (hg : 0 ≤ g ∧ g ≤ 255) (hs : s.length ≤ 300) : FrEq l t g n s := by
  rcases bcase (vev38_0 t n) with h | h
  · exact fr_astray h
  rcases bcase (bits BinOp.and IntKind.u8 g 8 != 0) with h8 | h8
  all_goals rcases bcase (bits BinOp.and IntKind.u8 g 32 != 0) with h32 | h32
  all_goals rcases bcase (bits BinOp.and IntKind.u8 g 1 != 0) with h1 | h1
  all_goals
    have hx : t = 0 ∨ t = 1 ∨ t = 2 ∨ t = 3 ∨ t = 4 ∨ t = 6 ∨ t = 7 ∨ t = 8 ∨ (1 < t ∧ t ≠ 2 ∧ t ≠ 3 ∧ t ≠ 4 ∧ t ≠ 6 ∧ t ≠ 7 ∧ t ≠ 8) := by omega
    rcases hx with e | e | e | e | e | e | e | e | e
  all_goals first
    | exact fr0 h hg h8 e
    | exact fr1a h hg h8 h32 e
    | exact frx h hg e.1 (by simpa using e.2.1) (by simpa using e.2.2.1) (by simpa using e.2.2.2.1) (by simpa using e.2.2.2.2.1) (by simpa using e.2.2.2.2.2.1) (by simpa using e.2.2.2.2.2.2)
    | (rcases Nat.lt_or_ge s.length 5 with hl | hl
       · exact fr1b h hg h8 h32 hl e
       · exact fr1c h hg h8 h32 hl e)
    | (rcases bcase ((s.length : Int) != 5) with hk | hk
       · exact fr2w h hg hk e
       · exact fr2 h hg (by simp at hk; omega) e)
    | (rcases bcase ((s.length : Int) != 4) with hk | hk
       · exact fr3w h hg hk e
       · exact fr3 h hg (by simp at hk; omega) e)
    | (rcases bcase ((s.length : Int) != 4) with hk | hk
       · exact fr8w h hg hk e
       · rcases bcase (N31 s == 0) with hz | hz
         · exact fr8z h hg (by simp at hk; omega) hz e
         · exact fr8n h hg (by simp at hk; omega) hz e)
    | (rcases bcase ((s.length : Int) != 8) with hk | hk
       · exact fr6w h hg hk e
       · exact fr6 h hg (by simp at hk; omega) e)
    | (rcases Nat.lt_or_ge s.length 8 with hl | hl
       · exact fr7w h hg (decide_eq_true (by omega)) e
       · exact fr7 h hg hl hs e)
    | (rcases bcase ((s.length : Int).tmod 6 != 0) with hk | hk
       · exact fr4w h hg hk e
       · exact fr4a h hg hk hs h1 e)
    | (rcases bcase ((s.length : Int).tmod 6 != 0) with hk | hk
       · exact fr4w h hg hk e
       · rcases Nat.eq_zero_or_pos s.length with hp | hp
         · exact fr4b h hg hk hs h1 hp e
         · exact fr4v h hg hk h1 hp e)
    | (rcases Nat.eq_zero_or_pos s.length with hp | hp
       · have hz : s = [] := List.eq_nil_of_length_eq_zero hp
         first
           | exact fr0e h hg h8 hz e
           | exact fr1e h hg h8 hz e
       · rcases Int.lt_or_le ((s.length : Int) - 1) (bA s 0) with ho | ho
         · first
             | exact fr0o h hg h8 hs hp ho e
             | exact fr1o h hg h8 hs hp ho e
         · first
             | exact fr0k h hg h8 hs hp ho e
             | exact fr1k h hg h8 hs hp ho h32 e
             | (rcases Nat.lt_or_ge (inner s).length 5 with hl | hl
                · exact fr1l h hg h8 hs hp ho h32 hl e
                · exact fr1m h hg h8 hs hp ho h32 hl e))
theorem ends44 (k1 k2 : Tk) (ps : List (List AV)) (hl : ps.length ≤ 300) : Ends (g44_4 (k1, ps, k2, ps)) (n44_4 (k1, ps, k2, ps)) (0 : Int) (ps.length : Int) := by
  refine Ends.count (go := g44_4 (k1, ps, k2, ps)) (next := n44_4 (k1, ps, k2, ps)) ps.length (fun i => (i : Int)) (fun i hi => ⟨?_, ?_⟩) ?_
  · unfold g44_4 go44_4
    dsimp only
    rw [decide_eq_true (show (i : Int) < (ps.length : Int) by omega), decide_eq_true (show (0 : Int) ≤ (i : Int) by omega)]
    simp only [beq_self_eq_true, Bool.and_self, Bool.not_true, cond_true, cond_false]
  · unfold n44_4 nx44_4_4
    exact wrapN i ps.length hi (by omega)
  · unfold g44_4 go44_4
    dsimp only
    rw [decide_eq_false (by omega)]
    rfl
theorem r44 (k1 k2 : Tk) (ps : List (List AV)) (hl : ps.length ≤ 300) : vev44_0 k1 ps k2 ps = true ∧ vev44_1 k1 ps k2 ps = true := by
  have f := (ends44 k1 k2 ps hl).fin
  unfold vev44_0 vev44_1 rev44_0
  simp only [spI]
  rw [f.2, f.1]
  unfold y44_4 z44_4 xc44_4_0 xc44_4_1
  dsimp only
  rw [decide_eq_false (show ¬ ((ps.length : Int) < (ps.length : Int)) by omega)]
  simp only [bne_self_eq_false, cond_true, cond_false, List.any_cons, List.any_nil, Bool.or_true, Bool.or_false, Bool.true_and, and_self]
theorem r14 (t g n : Int) (d : List UInt8) (pa de : Int) (so : Bool) (we co la inc : Int) (ps : List (List AV)) (hl : ps.length ≤ 300) :
    vev14_0 t g n d pa de so we co la inc ps t g n d pa de so we co la inc ps = true ∧ vev14_1 t g n d pa de so we co la inc ps t g n d pa de so we co la inc ps = true := by
  have h := r44 .imm .imm ps hl
  unfold vev14_0 vev14_1
  simp only [beq_self_eq_true, cond_true, h.1, h.2, and_self]
theorem r3 {l t g n : Int} {s : List UInt8} (ht : 0 ≤ t ∧ t ≤ 255) (hg : 0 ≤ g ∧ g ≤ 255) : vev3_0 l t g n s = true ∧ vev3_1 l t g n s = true := by
  rcases Nat.lt_or_ge 300 s.length with hs | hs
  · unfold vev3_0 vev3_1
    rw [decide_eq_true (by omega)]
    exact ⟨rfl, rfl⟩
  · obtain ⟨e0, e1, e2, e3, e4, e5, e6, e7, e8, e9, e10, e11, e12, e13, e14, e15, hl⟩ := fr_all (l := l) (n := n) ht hg hs
    unfold vev3_0 vev3_1
    rw [e0, e1, e2, e3, e4, e5, e6, e7, e8, e9, e10, e11, e12, e13, e14, e15]
    have h := r14 (vev13_0 l t g n s) (vev13_1 l t g n s) (vev13_2 l t g n s) (vev13_3 l t g n s) (vev13_4 l t g n s) (vev13_5 l t g n s) (vev13_6 l t g n s) (vev13_7 l t g n s) (vev13_8 l t g n s) (vev13_9 l t g n s) (vev13_10 l t g n s) (vev13_11 l t g n s) hl
    rw [h.1, h.2, decide_eq_false (by omega)]
    simp only [beq_self_eq_true, cond_true, cond_false, Bool.and_self, and_self]
theorem law3 {l t g n : Int} {s : List UInt8} (ht : (Lit.int .u8 t).wf = true) (hg : (Lit.int .u8 g).wf = true) : FnOK Try.prog 3 [.agg [.int .i64 l, .int .u8 t, .int .u8 g, .int .i64 n], .str s] [] (.bool true) [] := by
  have kk : ∀ x : Int, (Lit.int .u8 x).wf = true → 0 ≤ x ∧ x ≤ 255 := fun x h => by
    have h2 : (decide (0 ≤ x) && decide (x ≤ 255)) = true := h
    simpa using h2
  obtain ⟨h0, h1⟩ := r3 (l := l) (n := n) (s := s) (kk _ ht) (kk _ hg)
  have he := ev3 l t g n s
  rw [h1, h0, cond_true] at he
  exact (fn_ok mixed plain (gk_ok k15_ok 30) Try.func3 (fun c _ => LoopsOK.none (fun _ _ => rfl) c) he).2
end Go.Proofs.Gv
