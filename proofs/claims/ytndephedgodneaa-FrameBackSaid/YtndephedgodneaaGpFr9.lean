/-
FrameBack: what a payload is read as, by the type of the frame.
-/
import Derived.Test.YtndephedgodneaaGaFr4
import Derived.Test.YtndephedgodneaaGpFr4
namespace Go.Proofs.Gv
open Go.Proofs
set_option linter.unusedVariables false
set_option linter.unusedSimpArgs false
/-- What a frame is read as, without a fault. -/
def RdIs (l t g n : Int) (s d : List UInt8) (pa de : Int) (so : Bool) (we co la inc : Int) (ps : List (List AV)) : Prop :=
  vev12_0 l t g n s = t ∧ vev12_1 l t g n s = g ∧ vev12_2 l t g n s = n ∧ vev12_3 l t g n s = d ∧ vev12_4 l t g n s = pa ∧ vev12_5 l t g n s = de ∧ vev12_6 l t g n s = so ∧ vev12_7 l t g n s = we ∧ vev12_8 l t g n s = co ∧ vev12_9 l t g n s = la ∧ vev12_10 l t g n s = inc ∧ vev12_11 l t g n s = ps ∧ vev12_12 l t g n s = 0 ∧ vev12_13 l t g n s = 0 ∧ vev12_14 l t g n s = true
/-- It is a fault, and no frame. -/
def RdNo (l t g n : Int) (s : List UInt8) : Prop :=
  (vev12_12 l t g n s == 0) = false ∧ vev12_14 l t g n s = true ∧ vev12_0 l t g n s = 0 ∧ vev12_1 l t g n s = 0 ∧ vev12_2 l t g n s = 0 ∧ vev12_3 l t g n s = [] ∧ vev12_4 l t g n s = 0 ∧ vev12_5 l t g n s = 0 ∧ vev12_6 l t g n s = false ∧ vev12_7 l t g n s = 0 ∧ vev12_8 l t g n s = 0 ∧ vev12_9 l t g n s = 0 ∧ vev12_10 l t g n s = 0 ∧ vev12_11 l t g n s = []
theorem nilE9 : ((ByteArray.mk #[]).data.toList : List UInt8) = [] := rfl
theorem lenPos9 {s : List UInt8} (h : 0 < s.length) : (s == ([] : List UInt8)) = false := by
  cases s with
  | nil => simp at h
  | cons x l => rfl
section
variable {l t g n : Int} {s : List UInt8}
theorem pad9 {d : List UInt8} {pa de : Int} {so : Bool} {we co la inc : Int} {ps : List (List AV)} (hs : s.length ≤ 100000) :
    rev71_0 t g n d pa de so we co la inc ps s = bA s 0 ∧ rev71_1 t g n d pa de so we co la inc ps s = (s.length : Int) - 1 - bA s 0 ∧ rev71_2 t g n d pa de so we co la inc ps s = (s.length : Int) - bA s 0 := by
  have hb := bA_le s 0
  have e0 : rev71_0 t g n d pa de so we co la inc ps s = bA s 0 := wrapOf (bA s 0) (by omega) (by omega)
  have e1 : rev71_1 t g n d pa de so we co la inc ps s = (s.length : Int) - 1 - bA s 0 := by
    unfold rev71_1
    rw [e0, wrapOf ((s.length : Int) - 1) (by omega) (by omega), wrapOf _ (by omega) (by omega)]
  refine ⟨e0, e1, ?_⟩
  unfold rev71_2
  rw [e1, wrapOf _ (by omega) (by omega)]
  omega
/-- What is left without padding. -/
def inP (s : List UInt8) : List UInt8 := List.drop (Int.toNat 1) (List.take ((s.length : Int) - bA s 0).toNat s)
theorem rdNo1 (h : vev34n_0 t g n [] 0 0 false 0 0 0 0 = true) : RdNo l t g n s := by
  simp only [RdNo, vev12_0, vev12_1, vev12_2, vev12_3, vev12_4, vev12_5, vev12_6, vev12_7, vev12_8, vev12_9, vev12_10, vev12_11, vev12_12, vev12_13, vev12_14, rev12_0, rev12_1, rev12_2, rev12_3, rev12_4, rev12_5, rev12_6, rev12_7, rev12_8, vev37_0, vev37_1, vev37_2, vev37_3, vev37_4, vev37_5, vev37_6, vev37_7, vev37_8, vev37_9, vev37_10, rev37_1, vev60_0, vev60_1, vev60_2, vev60_3, vev60_4, vev60_5, vev60_6, rev60_0, rev60_1, rev60_2, rev60_3, vev71_0, vev71_1, vev71_2, vev71_3, vev35n_0, vev35_0, vev36n_0, vev56n_0, vev56_0, vev64_0, vev65_0, nilE9, cond_true, cond_false, Bool.not_true, Bool.not_false, Bool.and_true, Bool.true_and, and_self, beq_self_eq_true, bne_self_eq_false, Int.reduceBEq, Int.reduceBNe, Int.reduceLE, decide_true, decide_false, true_and, and_true, RdIs, h, Int.reduceBEq]
theorem rd0a (h : vev34n_0 0 g n [] 0 0 false 0 0 0 0 = false) (h8 : (bits BinOp.and IntKind.u8 g 8 != 0) = false) : RdIs l 0 g n s s 0 0 false 0 0 0 0 [] := by
  simp only [vev12_0, vev12_1, vev12_2, vev12_3, vev12_4, vev12_5, vev12_6, vev12_7, vev12_8, vev12_9, vev12_10, vev12_11, vev12_12, vev12_13, vev12_14, rev12_0, rev12_1, rev12_2, rev12_3, rev12_4, rev12_5, rev12_6, rev12_7, rev12_8, vev37_0, vev37_1, vev37_2, vev37_3, vev37_4, vev37_5, vev37_6, vev37_7, vev37_8, vev37_9, vev37_10, rev37_1, vev60_0, vev60_1, vev60_2, vev60_3, vev60_4, vev60_5, vev60_6, rev60_0, rev60_1, rev60_2, rev60_3, vev71_0, vev71_1, vev71_2, vev71_3, vev35n_0, vev35_0, vev36n_0, vev56n_0, vev56_0, vev64_0, vev65_0, nilE9, cond_true, cond_false, Bool.not_true, Bool.not_false, Bool.and_true, Bool.true_and, and_self, beq_self_eq_true, bne_self_eq_false, Int.reduceBEq, Int.reduceBNe, Int.reduceLE, decide_true, decide_false, true_and, and_true, RdIs, h, h8]
theorem rd1a (h : vev34n_0 1 g n [] 0 0 false 0 0 0 0 = false) (h8 : (bits BinOp.and IntKind.u8 g 8 != 0) = false) (h32 : (bits BinOp.and IntKind.u8 g 32 != 0) = false) : RdIs l 1 g n s s 0 0 false 0 0 0 0 [] := by
  simp only [vev12_0, vev12_1, vev12_2, vev12_3, vev12_4, vev12_5, vev12_6, vev12_7, vev12_8, vev12_9, vev12_10, vev12_11, vev12_12, vev12_13, vev12_14, rev12_0, rev12_1, rev12_2, rev12_3, rev12_4, rev12_5, rev12_6, rev12_7, rev12_8, vev37_0, vev37_1, vev37_2, vev37_3, vev37_4, vev37_5, vev37_6, vev37_7, vev37_8, vev37_9, vev37_10, rev37_1, vev60_0, vev60_1, vev60_2, vev60_3, vev60_4, vev60_5, vev60_6, rev60_0, rev60_1, rev60_2, rev60_3, vev71_0, vev71_1, vev71_2, vev71_3, vev35n_0, vev35_0, vev36n_0, vev56n_0, vev56_0, vev64_0, vev65_0, nilE9, cond_true, cond_false, Bool.not_true, Bool.not_false, Bool.and_true, Bool.true_and, and_self, beq_self_eq_true, bne_self_eq_false, Int.reduceBEq, Int.reduceBNe, Int.reduceLE, decide_true, decide_false, true_and, and_true, RdIs, h, h8, h32]
theorem rd1b (h : vev34n_0 1 g n [] 0 0 false 0 0 0 0 = false) (h8 : (bits BinOp.and IntKind.u8 g 8 != 0) = false) (h32 : (bits BinOp.and IntKind.u8 g 32 != 0) = true) (hl : 5 ≤ s.length) : RdIs l 1 g n s (s.drop 5) 0 (N31 s) (decide (bA s 0 ≥ 128)) (bA s 4) 0 0 0 [] := by
  have a1 := r59 (s := s) (by omega)
  have a3 := @r57 (s := s) (h := hl)
  have a5 := fun t g n d pa de so we co la inc ps => (@a3 t g n d pa de so we co la inc ps).1
  have a6 := fun t g n d pa de so we co la inc ps => (@a3 t g n d pa de so we co la inc ps).2.1
  have a7 := fun t g n d pa de so we co la inc ps => (@a3 t g n d pa de so we co la inc ps).2.2
  have hd : decide ((s.length : Int) < 5) = false := decide_eq_false (by omega)
  have hb5 : bnd 5 (s.length : Int) (s.length : Int) = true := bndT (by omega) (by omega) (by omega)
  have t5 : Int.toNat 5 = 5 := rfl
  simp only [vev12_0, vev12_1, vev12_2, vev12_3, vev12_4, vev12_5, vev12_6, vev12_7, vev12_8, vev12_9, vev12_10, vev12_11, vev12_12, vev12_13, vev12_14, rev12_0, rev12_1, rev12_2, rev12_3, rev12_4, rev12_5, rev12_6, rev12_7, rev12_8, vev37_0, vev37_1, vev37_2, vev37_3, vev37_4, vev37_5, vev37_6, vev37_7, vev37_8, vev37_9, vev37_10, rev37_1, vev60_0, vev60_1, vev60_2, vev60_3, vev60_4, vev60_5, vev60_6, rev60_0, rev60_1, rev60_2, rev60_3, vev71_0, vev71_1, vev71_2, vev71_3, vev35n_0, vev35_0, vev36n_0, vev56n_0, vev56_0, vev64_0, vev65_0, nilE9, cond_true, cond_false, Bool.not_true, Bool.not_false, Bool.and_true, Bool.true_and, and_self, beq_self_eq_true, bne_self_eq_false, Int.reduceBEq, Int.reduceBNe, Int.reduceLE, decide_true, decide_false, true_and, and_true, RdIs, h, h8, h32, a1.1, a5, a6, a7, hd, hb5, t5]
section
variable (hs : s.length ≤ 100000) (hp : 0 < s.length) (ho : bA s 0 ≤ (s.length : Int) - 1)
include hs hp ho
theorem rd0b (h : vev34n_0 0 g n [] 0 0 false 0 0 0 0 = false) (h8 : (bits BinOp.and IntKind.u8 g 8 != 0) = true) : RdIs l 0 g n s (inP s) (bA s 0) 0 false 0 0 0 0 [] := by
  have hb := bA_le s 0
  have hn := lenPos9 hp
  have p1 := fun t g n d pa de so we co la inc ps => (@pad9 t g n s d pa de so we co la inc ps hs).1
  have p2 := fun t g n d pa de so we co la inc ps => (@pad9 t g n s d pa de so we co la inc ps hs).2.1
  have p3 := fun t g n d pa de so we co la inc ps => (@pad9 t g n s d pa de so we co la inc ps hs).2.2
  have i0 : decide ((0 : Int) < (s.length : Int)) = true := decide_eq_true (by omega)
  have o1 : decide ((s.length : Int) - 1 - bA s 0 < 0) = false := decide_eq_false (by omega)
  have i2 : bnd (1 : Int) ((s.length : Int) - bA s 0) (s.length : Int) = true := bndT (by omega) (by omega) (by omega)
  simp only [vev12_0, vev12_1, vev12_2, vev12_3, vev12_4, vev12_5, vev12_6, vev12_7, vev12_8, vev12_9, vev12_10, vev12_11, vev12_12, vev12_13, vev12_14, rev12_0, rev12_1, rev12_2, rev12_3, rev12_4, rev12_5, rev12_6, rev12_7, rev12_8, vev37_0, vev37_1, vev37_2, vev37_3, vev37_4, vev37_5, vev37_6, vev37_7, vev37_8, vev37_9, vev37_10, rev37_1, vev60_0, vev60_1, vev60_2, vev60_3, vev60_4, vev60_5, vev60_6, rev60_0, rev60_1, rev60_2, rev60_3, vev71_0, vev71_1, vev71_2, vev71_3, vev35n_0, vev35_0, vev36n_0, vev56n_0, vev56_0, vev64_0, vev65_0, nilE9, cond_true, cond_false, Bool.not_true, Bool.not_false, Bool.and_true, Bool.true_and, and_self, beq_self_eq_true, bne_self_eq_false, Int.reduceBEq, Int.reduceBNe, Int.reduceLE, decide_true, decide_false, true_and, and_true, RdIs, inP, h, h8, hn, p1, p2, p3, i0, o1, i2]
theorem rd1c (h : vev34n_0 1 g n [] 0 0 false 0 0 0 0 = false) (h8 : (bits BinOp.and IntKind.u8 g 8 != 0) = true) (h32 : (bits BinOp.and IntKind.u8 g 32 != 0) = false) : RdIs l 1 g n s (inP s) (bA s 0) 0 false 0 0 0 0 [] := by
  have hb := bA_le s 0
  have hn := lenPos9 hp
  have p1 := fun t g n d pa de so we co la inc ps => (@pad9 t g n s d pa de so we co la inc ps hs).1
  have p2 := fun t g n d pa de so we co la inc ps => (@pad9 t g n s d pa de so we co la inc ps hs).2.1
  have p3 := fun t g n d pa de so we co la inc ps => (@pad9 t g n s d pa de so we co la inc ps hs).2.2
  have i0 : decide ((0 : Int) < (s.length : Int)) = true := decide_eq_true (by omega)
  have o1 : decide ((s.length : Int) - 1 - bA s 0 < 0) = false := decide_eq_false (by omega)
  have i2 : bnd (1 : Int) ((s.length : Int) - bA s 0) (s.length : Int) = true := bndT (by omega) (by omega) (by omega)
  simp only [vev12_0, vev12_1, vev12_2, vev12_3, vev12_4, vev12_5, vev12_6, vev12_7, vev12_8, vev12_9, vev12_10, vev12_11, vev12_12, vev12_13, vev12_14, rev12_0, rev12_1, rev12_2, rev12_3, rev12_4, rev12_5, rev12_6, rev12_7, rev12_8, vev37_0, vev37_1, vev37_2, vev37_3, vev37_4, vev37_5, vev37_6, vev37_7, vev37_8, vev37_9, vev37_10, rev37_1, vev60_0, vev60_1, vev60_2, vev60_3, vev60_4, vev60_5, vev60_6, rev60_0, rev60_1, rev60_2, rev60_3, vev71_0, vev71_1, vev71_2, vev71_3, vev35n_0, vev35_0, vev36n_0, vev56n_0, vev56_0, vev64_0, vev65_0, nilE9, cond_true, cond_false, Bool.not_true, Bool.not_false, Bool.and_true, Bool.true_and, and_self, beq_self_eq_true, bne_self_eq_false, Int.reduceBEq, Int.reduceBNe, Int.reduceLE, decide_true, decide_false, true_and, and_true, RdIs, inP, h, h8, h32, hn, p1, p2, p3, i0, o1, i2]
theorem rd1d (h : vev34n_0 1 g n [] 0 0 false 0 0 0 0 = false) (h8 : (bits BinOp.and IntKind.u8 g 8 != 0) = true) (h32 : (bits BinOp.and IntKind.u8 g 32 != 0) = true) (hl : 5 ≤ (inP s).length) : RdIs l 1 g n s ((inP s).drop 5) (bA s 0) (N31 (inP s)) (decide (bA (inP s) 0 ≥ 128)) (bA (inP s) 4) 0 0 0 [] := by
  have hb := bA_le s 0
  have hn := lenPos9 hp
  have p1 := fun t g n d pa de so we co la inc ps => (@pad9 t g n s d pa de so we co la inc ps hs).1
  have p2 := fun t g n d pa de so we co la inc ps => (@pad9 t g n s d pa de so we co la inc ps hs).2.1
  have p3 := fun t g n d pa de so we co la inc ps => (@pad9 t g n s d pa de so we co la inc ps hs).2.2
  have i0 : decide ((0 : Int) < (s.length : Int)) = true := decide_eq_true (by omega)
  have o1 : decide ((s.length : Int) - 1 - bA s 0 < 0) = false := decide_eq_false (by omega)
  have i2 : bnd (1 : Int) ((s.length : Int) - bA s 0) (s.length : Int) = true := bndT (by omega) (by omega) (by omega)
  have hx : ∀ x, x = inP s → 5 ≤ x.length := fun x e => e ▸ hl
  have a1 := r59 (s := inP s) (by omega)
  have a3 := @r57 (s := inP s) (h := hl)
  have a5 := fun t g n d pa de so we co la inc ps => (@a3 t g n d pa de so we co la inc ps).1
  have a6 := fun t g n d pa de so we co la inc ps => (@a3 t g n d pa de so we co la inc ps).2.1
  have a7 := fun t g n d pa de so we co la inc ps => (@a3 t g n d pa de so we co la inc ps).2.2
  have hd : decide (((inP s).length : Int) < 5) = false := decide_eq_false (by omega)
  have hb5 : bnd 5 ((inP s).length : Int) ((inP s).length : Int) = true := bndT (by omega) (by omega) (by omega)
  have ei : List.drop (Int.toNat 1) (List.take ((s.length : Int) - bA s 0).toNat s) = inP s := rfl
  have t5 : Int.toNat 5 = 5 := rfl
  simp only [vev12_0, vev12_1, vev12_2, vev12_3, vev12_4, vev12_5, vev12_6, vev12_7, vev12_8, vev12_9, vev12_10, vev12_11, vev12_12, vev12_13, vev12_14, rev12_0, rev12_1, rev12_2, rev12_3, rev12_4, rev12_5, rev12_6, rev12_7, rev12_8, vev37_0, vev37_1, vev37_2, vev37_3, vev37_4, vev37_5, vev37_6, vev37_7, vev37_8, vev37_9, vev37_10, rev37_1, vev60_0, vev60_1, vev60_2, vev60_3, vev60_4, vev60_5, vev60_6, rev60_0, rev60_1, rev60_2, rev60_3, vev71_0, vev71_1, vev71_2, vev71_3, vev35n_0, vev35_0, vev36n_0, vev56n_0, vev56_0, vev64_0, vev65_0, nilE9, cond_true, cond_false, Bool.not_true, Bool.not_false, Bool.and_true, Bool.true_and, and_self, beq_self_eq_true, bne_self_eq_false, Int.reduceBEq, Int.reduceBNe, Int.reduceLE, decide_true, decide_false, true_and, and_true, RdIs, h, h8, h32, hn, p1, p2, p3, i0, o1, i2, ei, a1.1, a5, a6, a7, hd, hb5, t5]
end
theorem rd2 (h : vev34n_0 2 g n [] 0 0 false 0 0 0 0 = false) (hl : s.length = 5) : RdIs l 2 g n s [] 0 (N31 s) (decide (bA s 0 ≥ 128)) (bA s 4) 0 0 0 [] := by
  have a1 := r59 (s := s) (by omega)
  have a3 := @r57 (s := s) (h := by omega)
  have a5 := fun t g n d pa de so we co la inc ps => (@a3 t g n d pa de so we co la inc ps).1
  have a6 := fun t g n d pa de so we co la inc ps => (@a3 t g n d pa de so we co la inc ps).2.1
  have a7 := fun t g n d pa de so we co la inc ps => (@a3 t g n d pa de so we co la inc ps).2.2
  have hk : ((s.length : Int) != 5) = false := by rw [hl]; rfl
  simp only [vev12_0, vev12_1, vev12_2, vev12_3, vev12_4, vev12_5, vev12_6, vev12_7, vev12_8, vev12_9, vev12_10, vev12_11, vev12_12, vev12_13, vev12_14, rev12_0, rev12_1, rev12_2, rev12_3, rev12_4, rev12_5, rev12_6, rev12_7, rev12_8, vev37_0, vev37_1, vev37_2, vev37_3, vev37_4, vev37_5, vev37_6, vev37_7, vev37_8, vev37_9, vev37_10, rev37_1, vev60_0, vev60_1, vev60_2, vev60_3, vev60_4, vev60_5, vev60_6, rev60_0, rev60_1, rev60_2, rev60_3, vev71_0, vev71_1, vev71_2, vev71_3, vev35n_0, vev35_0, vev36n_0, vev56n_0, vev56_0, vev64_0, vev65_0, nilE9, cond_true, cond_false, Bool.not_true, Bool.not_false, Bool.and_true, Bool.true_and, and_self, beq_self_eq_true, bne_self_eq_false, Int.reduceBEq, Int.reduceBNe, Int.reduceLE, decide_true, decide_false, true_and, and_true, RdIs, h, hk, a1.1, a5, a6, a7]
theorem rd3 (h : vev34n_0 3 g n [] 0 0 false 0 0 0 0 = false) (hl : s.length = 4) : RdIs l 3 g n s [] 0 0 false 0 (numA s 4) 0 0 [] := by
  have a1 := r58 (s := s) (by omega)
  rw [hl] at a1
  have hk : ((s.length : Int) != 4) = false := by rw [hl]; rfl
  simp only [vev12_0, vev12_1, vev12_2, vev12_3, vev12_4, vev12_5, vev12_6, vev12_7, vev12_8, vev12_9, vev12_10, vev12_11, vev12_12, vev12_13, vev12_14, rev12_0, rev12_1, rev12_2, rev12_3, rev12_4, rev12_5, rev12_6, rev12_7, rev12_8, vev37_0, vev37_1, vev37_2, vev37_3, vev37_4, vev37_5, vev37_6, vev37_7, vev37_8, vev37_9, vev37_10, rev37_1, vev60_0, vev60_1, vev60_2, vev60_3, vev60_4, vev60_5, vev60_6, rev60_0, rev60_1, rev60_2, rev60_3, vev71_0, vev71_1, vev71_2, vev71_3, vev35n_0, vev35_0, vev36n_0, vev56n_0, vev56_0, vev64_0, vev65_0, nilE9, cond_true, cond_false, Bool.not_true, Bool.not_false, Bool.and_true, Bool.true_and, and_self, beq_self_eq_true, bne_self_eq_false, Int.reduceBEq, Int.reduceBNe, Int.reduceLE, decide_true, decide_false, true_and, and_true, RdIs, h, hk, a1.1, a1.2]
theorem rd4 (k : Nat) (h : vev34n_0 4 g n [] 0 0 false 0 0 0 0 = false) (hl : s.length = 6 * k) (hs : s.length ≤ 300) (h1 : (bits BinOp.and IntKind.u8 g 1 != 0) = false ∨ k = 0) : RdIs l 4 g n s [] 0 0 false 0 0 0 0 (pairsA s k) := by
  have a1 : ∀ p, finL (g37_8 p) (n37_8 p) (s, []) = ([], pairsA s k) := fun p => ((ends37 p k hl hs).fin).2
  have a2 : ∀ p, (spI g37_8 n37_8 y37_8 z37_8 d37_8 (p, s, [])).fst = true := by
    intro p
    have f := (ends37 p k hl hs).fin
    simp only [spI]
    rw [f.2, f.1]
    rfl
  have hk : ((s.length : Int).tmod 6 != 0) = false := by
    rw [hl]
    have : ((6 * k : Nat) : Int).tmod 6 = ((6 * k % 6 : Nat) : Int) := rfl
    rw [this]
    simp
  have hM : vev36n_0 4 g n [] 0 0 false 0 0 0 0 (s.length : Int) = false := by
    unfold vev36n_0 vev56n_0
    rw [hk]
    rcases h1 with h1 | h1
    · rw [h1]; rfl
    · subst h1
      rw [hl]
      cases (bits BinOp.and IntKind.u8 g 1 != 0) <;> rfl
  have e37 : ∀ d pa de so we co la inc, rev37_0 4 g n d pa de so we co la inc s = ([], pairsA s k) := fun d pa de so we co la inc => a1 _
  simp only [RdIs, vev12_0, vev12_1, vev12_2, vev12_3, vev12_4, vev12_5, vev12_6, vev12_7, vev12_8, vev12_9, vev12_10, vev12_11, vev12_12, vev12_13, vev12_14, rev12_0, rev12_1, rev12_2, rev12_3, rev12_4, rev12_5, rev12_6, rev12_7, rev12_8, vev37_0, vev37_1, vev37_2, vev37_3, vev37_4, vev37_5, vev37_6, vev37_7, vev37_8, vev37_9, vev37_10, nilE9, cond_true, cond_false, and_self, beq_self_eq_true, bne_self_eq_false, Int.reduceBEq, true_and, h, hM, e37, a2]
theorem rd6 (h : vev34n_0 6 g n [] 0 0 false 0 0 0 0 = false) (hl : s.length = 8) : RdIs l 6 g n s s 0 0 false 0 0 0 0 [] := by
  have hk : ((s.length : Int) != 8) = false := by rw [hl]; rfl
  simp only [vev12_0, vev12_1, vev12_2, vev12_3, vev12_4, vev12_5, vev12_6, vev12_7, vev12_8, vev12_9, vev12_10, vev12_11, vev12_12, vev12_13, vev12_14, rev12_0, rev12_1, rev12_2, rev12_3, rev12_4, rev12_5, rev12_6, rev12_7, rev12_8, vev37_0, vev37_1, vev37_2, vev37_3, vev37_4, vev37_5, vev37_6, vev37_7, vev37_8, vev37_9, vev37_10, rev37_1, vev60_0, vev60_1, vev60_2, vev60_3, vev60_4, vev60_5, vev60_6, rev60_0, rev60_1, rev60_2, rev60_3, vev71_0, vev71_1, vev71_2, vev71_3, vev35n_0, vev35_0, vev36n_0, vev56n_0, vev56_0, vev64_0, vev65_0, nilE9, cond_true, cond_false, Bool.not_true, Bool.not_false, Bool.and_true, Bool.true_and, and_self, beq_self_eq_true, bne_self_eq_false, Int.reduceBEq, Int.reduceBNe, Int.reduceLE, decide_true, decide_false, true_and, and_true, RdIs, h, hk]
theorem rd7 (h : vev34n_0 7 g n [] 0 0 false 0 0 0 0 = false) (hl : 8 ≤ s.length) : RdIs l 7 g n s (s.drop 8) 0 0 false 0 (numA ((s.take 8).drop 4) 4) (N31 s) 0 [] := by
  have hk' : decide ((s.length : Int) < 8) = false := decide_eq_false (by omega)
  have c1 := r59 (s := s) (by omega)
  have t4 : Int.toNat 4 = 4 := rfl
  have t8 : Int.toNat 8 = 8 := rfl
  have hl4 : ((s.take 8).drop 4).length = 4 := by rw [List.length_drop, List.length_take]; omega
  have a1 := r58 (s := (s.take 8).drop 4) (by omega)
  rw [hl4] at a1
  have b1 : bnd 4 8 (s.length : Int) = true := bndT (by omega) (by omega) (by omega)
  have b2 : bnd 8 (s.length : Int) (s.length : Int) = true := bndT (by omega) (by omega) (by omega)
  simp only [vev12_0, vev12_1, vev12_2, vev12_3, vev12_4, vev12_5, vev12_6, vev12_7, vev12_8, vev12_9, vev12_10, vev12_11, vev12_12, vev12_13, vev12_14, rev12_0, rev12_1, rev12_2, rev12_3, rev12_4, rev12_5, rev12_6, rev12_7, rev12_8, vev37_0, vev37_1, vev37_2, vev37_3, vev37_4, vev37_5, vev37_6, vev37_7, vev37_8, vev37_9, vev37_10, rev37_1, vev60_0, vev60_1, vev60_2, vev60_3, vev60_4, vev60_5, vev60_6, rev60_0, rev60_1, rev60_2, rev60_3, vev71_0, vev71_1, vev71_2, vev71_3, vev35n_0, vev35_0, vev36n_0, vev56n_0, vev56_0, vev64_0, vev65_0, nilE9, cond_true, cond_false, Bool.not_true, Bool.not_false, Bool.and_true, Bool.true_and, and_self, beq_self_eq_true, bne_self_eq_false, Int.reduceBEq, Int.reduceBNe, Int.reduceLE, decide_true, decide_false, true_and, and_true, RdIs, h, hk', c1.1, c1.2, t4, t8, a1.1, a1.2, b1, b2]
theorem rd8n (h : vev34n_0 8 g n [] 0 0 false 0 0 0 0 = false) (hl : s.length = 4) (hz : (N31 s == 0) = false) : RdIs l 8 g n s [] 0 0 false 0 0 0 (N31 s) [] := by
  have hk : ((s.length : Int) != 4) = false := by rw [hl]; rfl
  have c1 := r59 (s := s) (by omega)
  simp only [vev12_0, vev12_1, vev12_2, vev12_3, vev12_4, vev12_5, vev12_6, vev12_7, vev12_8, vev12_9, vev12_10, vev12_11, vev12_12, vev12_13, vev12_14, rev12_0, rev12_1, rev12_2, rev12_3, rev12_4, rev12_5, rev12_6, rev12_7, rev12_8, vev37_0, vev37_1, vev37_2, vev37_3, vev37_4, vev37_5, vev37_6, vev37_7, vev37_8, vev37_9, vev37_10, rev37_1, vev60_0, vev60_1, vev60_2, vev60_3, vev60_4, vev60_5, vev60_6, rev60_0, rev60_1, rev60_2, rev60_3, vev71_0, vev71_1, vev71_2, vev71_3, vev35n_0, vev35_0, vev36n_0, vev56n_0, vev56_0, vev64_0, vev65_0, nilE9, cond_true, cond_false, Bool.not_true, Bool.not_false, Bool.and_true, Bool.true_and, and_self, beq_self_eq_true, bne_self_eq_false, Int.reduceBEq, Int.reduceBNe, Int.reduceLE, decide_true, decide_false, true_and, and_true, RdIs, h, hk, c1.1, c1.2, hz]
theorem rd8z (h : vev34n_0 8 g n [] 0 0 false 0 0 0 0 = false) (hl : s.length = 4) (hz : (N31 s == 0) = true) : RdNo l 8 g n s := by
  have hk : ((s.length : Int) != 4) = false := by rw [hl]; rfl
  have c1 := r59 (s := s) (by omega)
  simp only [RdNo, vev12_0, vev12_1, vev12_2, vev12_3, vev12_4, vev12_5, vev12_6, vev12_7, vev12_8, vev12_9, vev12_10, vev12_11, vev12_12, vev12_13, vev12_14, rev12_0, rev12_1, rev12_2, rev12_3, rev12_4, rev12_5, rev12_6, rev12_7, rev12_8, vev37_0, vev37_1, vev37_2, vev37_3, vev37_4, vev37_5, vev37_6, vev37_7, vev37_8, vev37_9, vev37_10, rev37_1, vev60_0, vev60_1, vev60_2, vev60_3, vev60_4, vev60_5, vev60_6, rev60_0, rev60_1, rev60_2, rev60_3, vev71_0, vev71_1, vev71_2, vev71_3, vev35n_0, vev35_0, vev36n_0, vev56n_0, vev56_0, vev64_0, vev65_0, nilE9, cond_true, cond_false, Bool.not_true, Bool.not_false, Bool.and_true, Bool.true_and, and_self, beq_self_eq_true, bne_self_eq_false, Int.reduceBEq, Int.reduceBNe, Int.reduceLE, decide_true, decide_false, true_and, and_true, RdIs, h, hk, c1.1, c1.2, hz]
theorem rdx (h : vev34n_0 t g n [] 0 0 false 0 0 0 0 = false) (h0 : (t == 0) = false) (h1 : (t == 1) = false) (h2 : (t == 2) = false) (h3 : (t == 3) = false) (h4 : (t == 4) = false) (h6 : (t == 6) = false) (h7 : (t == 7) = false) (h8 : (t == 8) = false) : RdIs l t g n s s 0 0 false 0 0 0 0 [] := by
  simp only [vev12_0, vev12_1, vev12_2, vev12_3, vev12_4, vev12_5, vev12_6, vev12_7, vev12_8, vev12_9, vev12_10, vev12_11, vev12_12, vev12_13, vev12_14, rev12_0, rev12_1, rev12_2, rev12_3, rev12_4, rev12_5, rev12_6, rev12_7, rev12_8, vev37_0, vev37_1, vev37_2, vev37_3, vev37_4, vev37_5, vev37_6, vev37_7, vev37_8, vev37_9, vev37_10, rev37_1, vev60_0, vev60_1, vev60_2, vev60_3, vev60_4, vev60_5, vev60_6, rev60_0, rev60_1, rev60_2, rev60_3, vev71_0, vev71_1, vev71_2, vev71_3, vev35n_0, vev35_0, vev36n_0, vev56n_0, vev56_0, vev64_0, vev65_0, nilE9, cond_true, cond_false, Bool.not_true, Bool.not_false, Bool.and_true, Bool.true_and, and_self, beq_self_eq_true, bne_self_eq_false, Int.reduceBEq, Int.reduceBNe, Int.reduceLE, decide_true, decide_false, true_and, and_true, RdIs, h, h0, h1, h2, h3, h4, h6, h7, h8]
end
end Go.Proofs.Gv
