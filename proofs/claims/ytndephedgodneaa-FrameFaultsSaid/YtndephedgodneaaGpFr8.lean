/-
FrameFaults: what is a fault, by the type of the frame, its length, and its stream.
-/
import Derived.Test.YtndephedgodneaaGaFr13
import Derived.Test.YtndephedgodneaaGpFr3
import Derived.Test.YtndephedgodneaaGwA
namespace Go.Proofs.Gv
open Go.Proofs
set_option linter.unusedVariables false
theorem nilE8 : ((ByteArray.mk #[]).data.toList : List UInt8) = [] := rfl
/-- A frame that is none. -/
def Dfl (l t g n : Int) (s : List UInt8) : Prop := vev12_0 l t g n s = 0 ∧ vev12_1 l t g n s = 0 ∧ vev12_2 l t g n s = 0 ∧ vev12_3 l t g n s = [] ∧ vev12_4 l t g n s = 0 ∧ vev12_5 l t g n s = 0 ∧ vev12_6 l t g n s = false ∧ vev12_7 l t g n s = 0 ∧ vev12_8 l t g n s = 0 ∧ vev12_9 l t g n s = 0 ∧ vev12_10 l t g n s = 0 ∧ vev12_11 l t g n s = []
section
variable {l t g n : Int} {s : List UInt8}
theorem bad1 (hA : vev34n_0 t g n [] 0 0 false 0 0 0 0 = true) : vev12_12 l t g n s = 1 ∧ vev12_13 l t g n s = 0 ∧ vev12_14 l t g n s = true ∧ Dfl l t g n s := by
  simp only [Dfl, vev12_0, vev12_1, vev12_2, vev12_3, vev12_4, vev12_5, vev12_6, vev12_7, vev12_8, vev12_9, vev12_10, vev12_11, vev12_12, vev12_13, vev12_14, nilE8, hA, cond_true, vev35n_0, Bool.not_false, and_self]
theorem bad2 (hA : vev34n_0 t g n [] 0 0 false 0 0 0 0 = false) (hM : vev36n_0 t g n [] 0 0 false 0 0 0 0 (s.length : Int) = true) : vev12_12 l t g n s = 6 ∧ vev12_13 l t g n s = (bif !(t == 2) then 0 else n) ∧ vev12_14 l t g n s = true ∧ Dfl l t g n s := by
  simp only [Dfl, vev12_0, vev12_1, vev12_2, vev12_3, vev12_4, vev12_5, vev12_6, vev12_7, vev12_8, vev12_9, vev12_10, vev12_11, vev12_12, vev12_13, vev12_14, nilE8, hA, hM, cond_true, cond_false, vev35n_0, and_self]
theorem bad3 (hA : vev34n_0 t g n [] 0 0 false 0 0 0 0 = false) (hM : vev36n_0 t g n [] 0 0 false 0 0 0 0 (s.length : Int) = false) (hC : (vev37_0 t g n [] 0 0 false 0 0 0 0 s != 0) = true) (hW : vev37_10 t g n [] 0 0 false 0 0 0 0 s = true) : vev12_12 l t g n s = vev37_0 t g n [] 0 0 false 0 0 0 0 s ∧ vev12_13 l t g n s = (bif !(t == 8) then 0 else n) ∧ vev12_14 l t g n s = true ∧ Dfl l t g n s := by
  simp only [Dfl, vev12_0, vev12_1, vev12_2, vev12_3, vev12_4, vev12_5, vev12_6, vev12_7, vev12_8, vev12_9, vev12_10, vev12_11, vev12_12, vev12_13, vev12_14, rev12_0, nilE8, hA, hM, hC, hW, cond_true, cond_false, vev35_0, and_self]
theorem good12 (hA : vev34n_0 t g n [] 0 0 false 0 0 0 0 = false) (hM : vev36n_0 t g n [] 0 0 false 0 0 0 0 (s.length : Int) = false) (hC : (vev37_0 t g n [] 0 0 false 0 0 0 0 s != 0) = false) (hW : vev37_10 t g n [] 0 0 false 0 0 0 0 s = true) : vev12_12 l t g n s = 0 ∧ vev12_13 l t g n s = 0 ∧ vev12_14 l t g n s = true := by
  simp only [vev12_12, vev12_13, vev12_14, rev12_0, nilE8, hA, hM, hC, hW, cond_true, cond_false, and_self]
end
/-! Payloads of zeros. -/
def Z (k : Nat) : List UInt8 := List.replicate k 0
theorem Z_len (k : Nat) : (Z k).length = k := List.length_replicate
theorem w2 (k : Nat) (h : 5 ≤ k) (n : Int) : vev37_10 2 0 n [] 0 0 false 0 0 0 0 (Z k) = true := by
  unfold vev37_10
  rw [(r57 (s := Z k) (by rw [Z_len]; exact h)).2.2]
  rfl
theorem w3 (k : Nat) (h : k ≤ 4) (n : Int) : vev37_10 3 0 n [] 0 0 false 0 0 0 0 (Z k) = true := by
  unfold vev37_10
  rw [(r58 (s := Z k) (by rw [Z_len]; exact h)).2]
  rfl
theorem w4 (k : Nat) (h : k % 6 = 0) (hk : k ≤ 60) (n : Int) : vev37_10 4 0 n [] 0 0 false 0 0 0 0 (Z k) = true := by
  have a2 : ∀ p, (spI g37_8 n37_8 y37_8 z37_8 d37_8 (p, Z k, [])).fst = true := by
    intro p
    have f := (ends37 p (s := Z k) (k / 6) (by rw [Z_len]; omega) (by rw [Z_len]; omega)).fin
    simp only [spI]
    rw [f.2, f.1]
    rfl
  unfold vev37_10
  rw [a2]
  rfl
theorem w7 (k : Nat) (h : 8 ≤ k) (n : Int) : vev37_10 7 0 n [] 0 0 false 0 0 0 0 (Z k) = true := by
  have e1 := (r59 (s := Z k) (by rw [Z_len]; omega)).2
  have e2 : vev58_0 (rev37_1 7 0 n [] 0 0 false 0 0 0 0 (Z k)) = true := (r58 (s := rev37_1 7 0 n [] 0 0 false 0 0 0 0 (Z k)) (by
    unfold rev37_1
    rw [List.length_drop, List.length_take, Z_len]
    have : Int.toNat 8 = 8 := rfl
    have : Int.toNat 4 = 4 := rfl
    omega)).2
  unfold vev37_10
  rw [e1, e2, bndT (a := 4) (b := 8) (c := ((Z k).length : Int)) (by omega) (by omega) (by rw [Z_len]; omega), bndT (a := 8) (b := ((Z k).length : Int)) (c := ((Z k).length : Int)) (by omega) (by rw [Z_len]; omega) (by omega)]
  rfl
theorem w8 (k : Nat) (h : k = 4) (n : Int) : vev37_10 8 0 n [] 0 0 false 0 0 0 0 (Z k) = true ∧ vev37_0 8 0 n [] 0 0 false 0 0 0 0 (Z k) = 1 := by
  have e1 := r59 (s := Z k) (by rw [Z_len]; omega)
  have e2 : N31 (Z k) = 0 := by subst h; rfl
  unfold vev37_10 vev37_0
  rw [e1.1, e1.2, e2]
  exact ⟨rfl, rfl⟩
theorem s23n : vev23n_0 0 0 0 [] 0 0 false 0 0 0 0 [] 0 0 0 [] 0 0 false 0 0 0 0 = true ∧ vev23n_1 0 0 0 [] 0 0 false 0 0 0 0 [] 0 0 0 [] 0 0 false 0 0 0 0 = true := ⟨by kernel_rfl, by kernel_rfl⟩
theorem cut6t (kind n : Int) : evFun x6 Try.f6 [.int .u8 kind, .int .u8 n, .bool true] [] = bif vev6tp_15 kind n then evCode x6 (sufC 8 Try.f6) (s6t kind n (rev6tp_0 kind n) (vev6tp_2 kind n) (vev6tp_3 kind n) (vev6tp_4 kind n) (vev6tp_5 kind n) (vev6tp_6 kind n) (vev6tp_7 kind n) (vev6tp_8 kind n) (vev6tp_9 kind n) (vev6tp_10 kind n) (vev6tp_11 kind n) (vev6tp_12 kind n) (vev6tp_13 kind n) (vev6tp_14 kind n) (rev6tp_4 kind n) (rev6tp_5 kind n) (rev6tp_3 kind n) (rev6tp_2 kind n) (vev6tp_0 kind n) (vev6tp_1 kind n)) (endK x6 Try.f6) else none := evFun_cut rfl (by kernel_rfl) (ev6tp kind n)
theorem len6t (kind : Int) {n : Int} (hn : 0 ≤ n ∧ n ≤ 255) : rev6tp_0 kind n = n % 61 ∧ rev6tp_3 kind n = Z (n % 61).toNat := by
  have e0 : rev6tp_0 kind n = n % 61 := by
    unfold rev6tp_0
    rw [Int.tmod_eq_emod_of_nonneg hn.1, wrapOf _ (by omega) (by omega)]
  refine ⟨e0, ?_⟩
  unfold rev6tp_3 rev6tp_2 Z
  rw [e0, List.map_replicate]
  rfl
theorem ok6t {kind n : Int} (hn : 0 ≤ n ∧ n ≤ 255) (h : vev12_14 (rev6tp_0 kind n) (kind.tmod 14) 0 5 (rev6tp_3 kind n) = true) : vev6tp_15 kind n = true := by
  have e0 := (len6t kind hn).1
  have e2 : (rev6tp_2 kind n).all isB = true := by
    unfold rev6tp_2
    rw [List.all_eq_true]
    intro x hx
    rw [List.eq_of_mem_replicate hx]
    rfl
  have e1 : rev6tp_1 kind n = n % 61 := by unfold rev6tp_1; rw [e0]; simp
  unfold vev6tp_15
  rw [e2, h, e1, e0, decide_eq_true (show (0 : Int) ≤ n % 61 by omega), decide_eq_true (show n % 61 ≤ 140737488355328 by omega), decide_eq_true (show n % 61 ≤ 9223372036854775807 by omega), beq_self_eq_true]
  rfl
theorem f6t0 {kind n : Int} (hk : kind.tmod 14 = 0) (hn : 0 ≤ n ∧ n ≤ 255) : evFun x6 Try.f6 [.int .u8 kind, .int .u8 n, .bool true] [] = some (.bool true, []) := by
  obtain ⟨hl, hz⟩ := len6t kind hn
  have hzl : ((Z (n % 61).toNat).length : Int) = n % 61 := by rw [Z_len]; omega
  obtain ⟨c0, c1, c2⟩ := good12 (l := rev6tp_0 kind n) (t := 0) (g := 0) (n := 5) (s := Z (n % 61).toNat) rfl (by kernel_rfl) (by kernel_rfl) (by kernel_rfl)
  have hok := ok6t hn (by rw [hk, hz]; exact c2)
  rw [cut6t, hok, cond_true]
  have ef : vev6tp_1 kind n = true := by unfold vev6tp_1 rev6tp_4 rev6tp_5; rw [hk, hz, c0, c1]; rfl
  have ek : vev6tp_0 kind n = 0 := hk
  rw [ef, ek, ev6t0t]
  unfold vev6t0t_0
  unfold rev6tp_5
  rw [hk, hz, c1]
  rfl
theorem f6t1 {kind n : Int} (hk : kind.tmod 14 = 1) (hn : 0 ≤ n ∧ n ≤ 255) : evFun x6 Try.f6 [.int .u8 kind, .int .u8 n, .bool true] [] = some (.bool true, []) := by
  obtain ⟨hl, hz⟩ := len6t kind hn
  have hzl : ((Z (n % 61).toNat).length : Int) = n % 61 := by rw [Z_len]; omega
  obtain ⟨c0, c1, c2⟩ := good12 (l := rev6tp_0 kind n) (t := 1) (g := 0) (n := 5) (s := Z (n % 61).toNat) rfl (by kernel_rfl) (by kernel_rfl) (by kernel_rfl)
  have hok := ok6t hn (by rw [hk, hz]; exact c2)
  rw [cut6t, hok, cond_true]
  have ef : vev6tp_1 kind n = true := by unfold vev6tp_1 rev6tp_4 rev6tp_5; rw [hk, hz, c0, c1]; rfl
  have ek : vev6tp_0 kind n = 1 := hk
  rw [ef, ek, ev6t1t]
  unfold vev6t1t_0
  unfold rev6tp_5
  rw [hk, hz, c1]
  rfl
theorem f6t2 {kind n : Int} (hk : kind.tmod 14 = 2) (hn : 0 ≤ n ∧ n ≤ 255) : evFun x6 Try.f6 [.int .u8 kind, .int .u8 n, .bool true] [] = some (.bool true, []) := by
  obtain ⟨hl, hz⟩ := len6t kind hn
  have hzl : ((Z (n % 61).toNat).length : Int) = n % 61 := by rw [Z_len]; omega
  cases hq : (n % 61 == 5) with
  | true =>
    have hq2 : n % 61 = 5 := by simpa using hq
    obtain ⟨c0, c1, c2⟩ := good12 (l := rev6tp_0 kind n) (t := 2) (g := 0) (n := 5) (s := Z (n % 61).toNat) rfl (by unfold vev36n_0; rw [hzl, hq2]; rfl) (by kernel_rfl) (w2 _ (by omega) _)
    have hok := ok6t hn (by rw [hk, hz]; exact c2)
    rw [cut6t, hok, cond_true]
    have ef : vev6tp_1 kind n = true := by unfold vev6tp_1 rev6tp_4 rev6tp_5; rw [hk, hz, c0, c1]; rfl
    have ek : vev6tp_0 kind n = 2 := hk
    rw [ef, ek, ev6t2t]
    unfold vev6t2t_0
    unfold rev6tp_5
    rw [hk, hz, c1, hl, hq]
    rfl
  | false =>
    obtain ⟨c0, c1, c2, d0, d1, d2, d3, d4, d5, d6, d7, d8, d9, d10, d11⟩ := bad2 (l := rev6tp_0 kind n) (t := 2) (g := 0) (n := 5) (s := Z (n % 61).toNat) rfl (by unfold vev36n_0; rw [hzl]; show (!(n % 61 == 5)) = true; rw [hq]; rfl)
    have hok := ok6t hn (by rw [hk, hz]; exact c2)
    rw [cut6t, hok, cond_true]
    have ef : vev6tp_1 kind n = false := by unfold vev6tp_1 rev6tp_4 rev6tp_5; rw [hk, hz, c0, c1]; rfl
    have ek : vev6tp_0 kind n = 2 := hk
    rw [ef, ek, ev6t2f]
    unfold vev6t2f_0 vev6t2f_1
    unfold vev6tp_3 vev6tp_4 vev6tp_5 vev6tp_6 vev6tp_7 vev6tp_8 vev6tp_9 vev6tp_10 vev6tp_11 vev6tp_12 vev6tp_13 vev6tp_14
    unfold rev6tp_5
    rw [hk, hz, c1, nilE8, d0, d1, d2, d3, d4, d5, d6, d7, d8, d9, d10, d11, s23n.1, s23n.2, hl, hq]
    rfl
theorem f6t3 {kind n : Int} (hk : kind.tmod 14 = 3) (hn : 0 ≤ n ∧ n ≤ 255) : evFun x6 Try.f6 [.int .u8 kind, .int .u8 n, .bool true] [] = some (.bool true, []) := by
  obtain ⟨hl, hz⟩ := len6t kind hn
  have hzl : ((Z (n % 61).toNat).length : Int) = n % 61 := by rw [Z_len]; omega
  cases hq : (n % 61 == 4) with
  | true =>
    have hq2 : n % 61 = 4 := by simpa using hq
    obtain ⟨c0, c1, c2⟩ := good12 (l := rev6tp_0 kind n) (t := 3) (g := 0) (n := 5) (s := Z (n % 61).toNat) rfl (by unfold vev36n_0; rw [hzl, hq2]; rfl) (by kernel_rfl) (w3 _ (by omega) _)
    have hok := ok6t hn (by rw [hk, hz]; exact c2)
    rw [cut6t, hok, cond_true]
    have ef : vev6tp_1 kind n = true := by unfold vev6tp_1 rev6tp_4 rev6tp_5; rw [hk, hz, c0, c1]; rfl
    have ek : vev6tp_0 kind n = 3 := hk
    rw [ef, ek, ev6t3t]
    unfold vev6t3t_0
    unfold rev6tp_5
    rw [hk, hz, c1, hl, hq]
    rfl
  | false =>
    obtain ⟨c0, c1, c2, d0, d1, d2, d3, d4, d5, d6, d7, d8, d9, d10, d11⟩ := bad2 (l := rev6tp_0 kind n) (t := 3) (g := 0) (n := 5) (s := Z (n % 61).toNat) rfl (by unfold vev36n_0; rw [hzl]; show (!(n % 61 == 4)) = true; rw [hq]; rfl)
    have hok := ok6t hn (by rw [hk, hz]; exact c2)
    rw [cut6t, hok, cond_true]
    have ef : vev6tp_1 kind n = false := by unfold vev6tp_1 rev6tp_4 rev6tp_5; rw [hk, hz, c0, c1]; rfl
    have ek : vev6tp_0 kind n = 3 := hk
    rw [ef, ek, ev6t3f]
    unfold vev6t3f_0 vev6t3f_1
    unfold vev6tp_3 vev6tp_4 vev6tp_5 vev6tp_6 vev6tp_7 vev6tp_8 vev6tp_9 vev6tp_10 vev6tp_11 vev6tp_12 vev6tp_13 vev6tp_14
    unfold rev6tp_5
    rw [hk, hz, c1, nilE8, d0, d1, d2, d3, d4, d5, d6, d7, d8, d9, d10, d11, s23n.1, s23n.2, hl, hq]
    rfl
theorem f6t4 {kind n : Int} (hk : kind.tmod 14 = 4) (hn : 0 ≤ n ∧ n ≤ 255) : evFun x6 Try.f6 [.int .u8 kind, .int .u8 n, .bool true] [] = some (.bool true, []) := by
  obtain ⟨hl, hz⟩ := len6t kind hn
  have hzl : ((Z (n % 61).toNat).length : Int) = n % 61 := by rw [Z_len]; omega
  obtain ⟨c0, c1, c2, d0, d1, d2, d3, d4, d5, d6, d7, d8, d9, d10, d11⟩ := bad1 (l := rev6tp_0 kind n) (t := 4) (g := 0) (n := 5) (s := Z (n % 61).toNat) rfl
  have hok := ok6t hn (by rw [hk, hz]; exact c2)
  rw [cut6t, hok, cond_true]
  have ef : vev6tp_1 kind n = false := by unfold vev6tp_1 rev6tp_4 rev6tp_5; rw [hk, hz, c0, c1]; rfl
  have ek : vev6tp_0 kind n = 4 := hk
  rw [ef, ek, ev6t4f]
  unfold vev6t4f_0 vev6t4f_1
  unfold vev6tp_3 vev6tp_4 vev6tp_5 vev6tp_6 vev6tp_7 vev6tp_8 vev6tp_9 vev6tp_10 vev6tp_11 vev6tp_12 vev6tp_13 vev6tp_14
  unfold rev6tp_5
  rw [hk, hz, c1, nilE8, d0, d1, d2, d3, d4, d5, d6, d7, d8, d9, d10, d11, s23n.1, s23n.2]
  rfl
theorem f6t5 {kind n : Int} (hk : kind.tmod 14 = 5) (hn : 0 ≤ n ∧ n ≤ 255) : evFun x6 Try.f6 [.int .u8 kind, .int .u8 n, .bool true] [] = some (.bool true, []) := by
  obtain ⟨hl, hz⟩ := len6t kind hn
  have hzl : ((Z (n % 61).toNat).length : Int) = n % 61 := by rw [Z_len]; omega
  obtain ⟨c0, c1, c2, d0, d1, d2, d3, d4, d5, d6, d7, d8, d9, d10, d11⟩ := bad1 (l := rev6tp_0 kind n) (t := 5) (g := 0) (n := 5) (s := Z (n % 61).toNat) rfl
  have hok := ok6t hn (by rw [hk, hz]; exact c2)
  rw [cut6t, hok, cond_true]
  have ef : vev6tp_1 kind n = false := by unfold vev6tp_1 rev6tp_4 rev6tp_5; rw [hk, hz, c0, c1]; rfl
  have ek : vev6tp_0 kind n = 5 := hk
  rw [ef, ek, ev6t5f]
  unfold vev6t5f_0 vev6t5f_1
  unfold vev6tp_3 vev6tp_4 vev6tp_5 vev6tp_6 vev6tp_7 vev6tp_8 vev6tp_9 vev6tp_10 vev6tp_11 vev6tp_12 vev6tp_13 vev6tp_14
  unfold rev6tp_5
  rw [hk, hz, c1, nilE8, d0, d1, d2, d3, d4, d5, d6, d7, d8, d9, d10, d11, s23n.1, s23n.2]
  rfl
theorem f6t6 {kind n : Int} (hk : kind.tmod 14 = 6) (hn : 0 ≤ n ∧ n ≤ 255) : evFun x6 Try.f6 [.int .u8 kind, .int .u8 n, .bool true] [] = some (.bool true, []) := by
  obtain ⟨hl, hz⟩ := len6t kind hn
  have hzl : ((Z (n % 61).toNat).length : Int) = n % 61 := by rw [Z_len]; omega
  obtain ⟨c0, c1, c2, d0, d1, d2, d3, d4, d5, d6, d7, d8, d9, d10, d11⟩ := bad1 (l := rev6tp_0 kind n) (t := 6) (g := 0) (n := 5) (s := Z (n % 61).toNat) rfl
  have hok := ok6t hn (by rw [hk, hz]; exact c2)
  rw [cut6t, hok, cond_true]
  have ef : vev6tp_1 kind n = false := by unfold vev6tp_1 rev6tp_4 rev6tp_5; rw [hk, hz, c0, c1]; rfl
  have ek : vev6tp_0 kind n = 6 := hk
  rw [ef, ek, ev6t6f]
  unfold vev6t6f_0 vev6t6f_1
  unfold vev6tp_3 vev6tp_4 vev6tp_5 vev6tp_6 vev6tp_7 vev6tp_8 vev6tp_9 vev6tp_10 vev6tp_11 vev6tp_12 vev6tp_13 vev6tp_14
  unfold rev6tp_5
  rw [hk, hz, c1, nilE8, d0, d1, d2, d3, d4, d5, d6, d7, d8, d9, d10, d11, s23n.1, s23n.2]
  rfl
theorem f6t7 {kind n : Int} (hk : kind.tmod 14 = 7) (hn : 0 ≤ n ∧ n ≤ 255) : evFun x6 Try.f6 [.int .u8 kind, .int .u8 n, .bool true] [] = some (.bool true, []) := by
  obtain ⟨hl, hz⟩ := len6t kind hn
  have hzl : ((Z (n % 61).toNat).length : Int) = n % 61 := by rw [Z_len]; omega
  obtain ⟨c0, c1, c2, d0, d1, d2, d3, d4, d5, d6, d7, d8, d9, d10, d11⟩ := bad1 (l := rev6tp_0 kind n) (t := 7) (g := 0) (n := 5) (s := Z (n % 61).toNat) rfl
  have hok := ok6t hn (by rw [hk, hz]; exact c2)
  rw [cut6t, hok, cond_true]
  have ef : vev6tp_1 kind n = false := by unfold vev6tp_1 rev6tp_4 rev6tp_5; rw [hk, hz, c0, c1]; rfl
  have ek : vev6tp_0 kind n = 7 := hk
  rw [ef, ek, ev6t7f]
  unfold vev6t7f_0 vev6t7f_1
  unfold vev6tp_3 vev6tp_4 vev6tp_5 vev6tp_6 vev6tp_7 vev6tp_8 vev6tp_9 vev6tp_10 vev6tp_11 vev6tp_12 vev6tp_13 vev6tp_14
  unfold rev6tp_5
  rw [hk, hz, c1, nilE8, d0, d1, d2, d3, d4, d5, d6, d7, d8, d9, d10, d11, s23n.1, s23n.2]
  rfl
theorem f6t8 {kind n : Int} (hk : kind.tmod 14 = 8) (hn : 0 ≤ n ∧ n ≤ 255) : evFun x6 Try.f6 [.int .u8 kind, .int .u8 n, .bool true] [] = some (.bool true, []) := by
  obtain ⟨hl, hz⟩ := len6t kind hn
  have hzl : ((Z (n % 61).toNat).length : Int) = n % 61 := by rw [Z_len]; omega
  cases hq : (n % 61 == 4) with
  | true =>
    have hq2 : n % 61 = 4 := by simpa using hq
    have w := w8 (n % 61).toNat (by omega) 5
    obtain ⟨c0, c1, c2, d0, d1, d2, d3, d4, d5, d6, d7, d8, d9, d10, d11⟩ := bad3 (l := rev6tp_0 kind n) (t := 8) (g := 0) (n := 5) (s := Z (n % 61).toNat) rfl (by unfold vev36n_0; rw [hzl, hq2]; rfl) (by rw [w.2]; rfl) w.1
    have hok := ok6t hn (by rw [hk, hz]; exact c2)
    rw [cut6t, hok, cond_true]
    have ef : vev6tp_1 kind n = false := by unfold vev6tp_1 rev6tp_4 rev6tp_5; rw [hk, hz, c0, w.2]; rfl
    have ek : vev6tp_0 kind n = 8 := hk
    rw [ef, ek, ev6t8f]
    unfold vev6t8f_0 vev6t8f_1
    unfold vev6tp_3 vev6tp_4 vev6tp_5 vev6tp_6 vev6tp_7 vev6tp_8 vev6tp_9 vev6tp_10 vev6tp_11 vev6tp_12 vev6tp_13 vev6tp_14
    unfold rev6tp_5
    rw [hk, hz, c1, nilE8, d0, d1, d2, d3, d4, d5, d6, d7, d8, d9, d10, d11, s23n.1, s23n.2]
    rfl
  | false =>
    obtain ⟨c0, c1, c2, d0, d1, d2, d3, d4, d5, d6, d7, d8, d9, d10, d11⟩ := bad2 (l := rev6tp_0 kind n) (t := 8) (g := 0) (n := 5) (s := Z (n % 61).toNat) rfl (by unfold vev36n_0; rw [hzl]; show (!(n % 61 == 4)) = true; rw [hq]; rfl)
    have hok := ok6t hn (by rw [hk, hz]; exact c2)
    rw [cut6t, hok, cond_true]
    have ef : vev6tp_1 kind n = false := by unfold vev6tp_1 rev6tp_4 rev6tp_5; rw [hk, hz, c0, c1]; rfl
    have ek : vev6tp_0 kind n = 8 := hk
    rw [ef, ek, ev6t8f]
    unfold vev6t8f_0 vev6t8f_1
    unfold vev6tp_3 vev6tp_4 vev6tp_5 vev6tp_6 vev6tp_7 vev6tp_8 vev6tp_9 vev6tp_10 vev6tp_11 vev6tp_12 vev6tp_13 vev6tp_14
    unfold rev6tp_5
    rw [hk, hz, c1, nilE8, d0, d1, d2, d3, d4, d5, d6, d7, d8, d9, d10, d11, s23n.1, s23n.2]
    rfl
theorem f6t9 {kind n : Int} (hk : kind.tmod 14 = 9) (hn : 0 ≤ n ∧ n ≤ 255) : evFun x6 Try.f6 [.int .u8 kind, .int .u8 n, .bool true] [] = some (.bool true, []) := by
  obtain ⟨hl, hz⟩ := len6t kind hn
  have hzl : ((Z (n % 61).toNat).length : Int) = n % 61 := by rw [Z_len]; omega
  obtain ⟨c0, c1, c2⟩ := good12 (l := rev6tp_0 kind n) (t := 9) (g := 0) (n := 5) (s := Z (n % 61).toNat) rfl (by kernel_rfl) (by kernel_rfl) (by kernel_rfl)
  have hok := ok6t hn (by rw [hk, hz]; exact c2)
  rw [cut6t, hok, cond_true]
  have ef : vev6tp_1 kind n = true := by unfold vev6tp_1 rev6tp_4 rev6tp_5; rw [hk, hz, c0, c1]; rfl
  have ek : vev6tp_0 kind n = 9 := hk
  rw [ef, ek, ev6t9t]
  unfold vev6t9t_0
  unfold rev6tp_5
  rw [hk, hz, c1]
  rfl
theorem f6t10 {kind n : Int} (hk : kind.tmod 14 = 10) (hn : 0 ≤ n ∧ n ≤ 255) : evFun x6 Try.f6 [.int .u8 kind, .int .u8 n, .bool true] [] = some (.bool true, []) := by
  obtain ⟨hl, hz⟩ := len6t kind hn
  have hzl : ((Z (n % 61).toNat).length : Int) = n % 61 := by rw [Z_len]; omega
  obtain ⟨c0, c1, c2⟩ := good12 (l := rev6tp_0 kind n) (t := 10) (g := 0) (n := 5) (s := Z (n % 61).toNat) rfl (by kernel_rfl) (by kernel_rfl) (by kernel_rfl)
  have hok := ok6t hn (by rw [hk, hz]; exact c2)
  rw [cut6t, hok, cond_true]
  have ef : vev6tp_1 kind n = true := by unfold vev6tp_1 rev6tp_4 rev6tp_5; rw [hk, hz, c0, c1]; rfl
  have ek : vev6tp_0 kind n = 10 := hk
  rw [ef, ek, ev6t10t]
  unfold vev6t10t_0
  unfold rev6tp_5
  rw [hk, hz, c1]
  rfl
theorem f6t11 {kind n : Int} (hk : kind.tmod 14 = 11) (hn : 0 ≤ n ∧ n ≤ 255) : evFun x6 Try.f6 [.int .u8 kind, .int .u8 n, .bool true] [] = some (.bool true, []) := by
  obtain ⟨hl, hz⟩ := len6t kind hn
  have hzl : ((Z (n % 61).toNat).length : Int) = n % 61 := by rw [Z_len]; omega
  obtain ⟨c0, c1, c2⟩ := good12 (l := rev6tp_0 kind n) (t := 11) (g := 0) (n := 5) (s := Z (n % 61).toNat) rfl (by kernel_rfl) (by kernel_rfl) (by kernel_rfl)
  have hok := ok6t hn (by rw [hk, hz]; exact c2)
  rw [cut6t, hok, cond_true]
  have ef : vev6tp_1 kind n = true := by unfold vev6tp_1 rev6tp_4 rev6tp_5; rw [hk, hz, c0, c1]; rfl
  have ek : vev6tp_0 kind n = 11 := hk
  rw [ef, ek, ev6t11t]
  unfold vev6t11t_0
  unfold rev6tp_5
  rw [hk, hz, c1]
  rfl
theorem f6t12 {kind n : Int} (hk : kind.tmod 14 = 12) (hn : 0 ≤ n ∧ n ≤ 255) : evFun x6 Try.f6 [.int .u8 kind, .int .u8 n, .bool true] [] = some (.bool true, []) := by
  obtain ⟨hl, hz⟩ := len6t kind hn
  have hzl : ((Z (n % 61).toNat).length : Int) = n % 61 := by rw [Z_len]; omega
  obtain ⟨c0, c1, c2⟩ := good12 (l := rev6tp_0 kind n) (t := 12) (g := 0) (n := 5) (s := Z (n % 61).toNat) rfl (by kernel_rfl) (by kernel_rfl) (by kernel_rfl)
  have hok := ok6t hn (by rw [hk, hz]; exact c2)
  rw [cut6t, hok, cond_true]
  have ef : vev6tp_1 kind n = true := by unfold vev6tp_1 rev6tp_4 rev6tp_5; rw [hk, hz, c0, c1]; rfl
  have ek : vev6tp_0 kind n = 12 := hk
  rw [ef, ek, ev6t12t]
  unfold vev6t12t_0
  unfold rev6tp_5
  rw [hk, hz, c1]
  rfl
theorem f6t13 {kind n : Int} (hk : kind.tmod 14 = 13) (hn : 0 ≤ n ∧ n ≤ 255) : evFun x6 Try.f6 [.int .u8 kind, .int .u8 n, .bool true] [] = some (.bool true, []) := by
  obtain ⟨hl, hz⟩ := len6t kind hn
  have hzl : ((Z (n % 61).toNat).length : Int) = n % 61 := by rw [Z_len]; omega
  obtain ⟨c0, c1, c2⟩ := good12 (l := rev6tp_0 kind n) (t := 13) (g := 0) (n := 5) (s := Z (n % 61).toNat) rfl (by kernel_rfl) (by kernel_rfl) (by kernel_rfl)
  have hok := ok6t hn (by rw [hk, hz]; exact c2)
  rw [cut6t, hok, cond_true]
  have ef : vev6tp_1 kind n = true := by unfold vev6tp_1 rev6tp_4 rev6tp_5; rw [hk, hz, c0, c1]; rfl
  have ek : vev6tp_0 kind n = 13 := hk
  rw [ef, ek, ev6t13t]
  unfold vev6t13t_0
  unfold rev6tp_5
  rw [hk, hz, c1]
  rfl
theorem cut6f (kind n : Int) : evFun x6 Try.f6 [.int .u8 kind, .int .u8 n, .bool false] [] = bif vev6fp_15 kind n then evCode x6 (sufC 8 Try.f6) (s6f kind n (rev6fp_0 kind n) (vev6fp_2 kind n) (vev6fp_3 kind n) (vev6fp_4 kind n) (vev6fp_5 kind n) (vev6fp_6 kind n) (vev6fp_7 kind n) (vev6fp_8 kind n) (vev6fp_9 kind n) (vev6fp_10 kind n) (vev6fp_11 kind n) (vev6fp_12 kind n) (vev6fp_13 kind n) (vev6fp_14 kind n) (rev6fp_4 kind n) (rev6fp_5 kind n) (rev6fp_3 kind n) (rev6fp_2 kind n) (vev6fp_0 kind n) (vev6fp_1 kind n)) (endK x6 Try.f6) else none := evFun_cut rfl (by kernel_rfl) (ev6fp kind n)
theorem len6f (kind : Int) {n : Int} (hn : 0 ≤ n ∧ n ≤ 255) : rev6fp_0 kind n = n % 61 ∧ rev6fp_3 kind n = Z (n % 61).toNat := by
  have e0 : rev6fp_0 kind n = n % 61 := by
    unfold rev6fp_0
    rw [Int.tmod_eq_emod_of_nonneg hn.1, wrapOf _ (by omega) (by omega)]
  refine ⟨e0, ?_⟩
  unfold rev6fp_3 rev6fp_2 Z
  rw [e0, List.map_replicate]
  rfl
theorem ok6f {kind n : Int} (hn : 0 ≤ n ∧ n ≤ 255) (h : vev12_14 (rev6fp_0 kind n) (kind.tmod 14) 0 0 (rev6fp_3 kind n) = true) : vev6fp_15 kind n = true := by
  have e0 := (len6f kind hn).1
  have e2 : (rev6fp_2 kind n).all isB = true := by
    unfold rev6fp_2
    rw [List.all_eq_true]
    intro x hx
    rw [List.eq_of_mem_replicate hx]
    rfl
  have e1 : rev6fp_1 kind n = n % 61 := by unfold rev6fp_1; rw [e0]; simp
  unfold vev6fp_15
  rw [e2, h, e1, e0, decide_eq_true (show (0 : Int) ≤ n % 61 by omega), decide_eq_true (show n % 61 ≤ 140737488355328 by omega), decide_eq_true (show n % 61 ≤ 9223372036854775807 by omega), beq_self_eq_true]
  rfl
theorem f6f0 {kind n : Int} (hk : kind.tmod 14 = 0) (hn : 0 ≤ n ∧ n ≤ 255) : evFun x6 Try.f6 [.int .u8 kind, .int .u8 n, .bool false] [] = some (.bool true, []) := by
  obtain ⟨hl, hz⟩ := len6f kind hn
  have hzl : ((Z (n % 61).toNat).length : Int) = n % 61 := by rw [Z_len]; omega
  obtain ⟨c0, c1, c2, d0, d1, d2, d3, d4, d5, d6, d7, d8, d9, d10, d11⟩ := bad1 (l := rev6fp_0 kind n) (t := 0) (g := 0) (n := 0) (s := Z (n % 61).toNat) rfl
  have hok := ok6f hn (by rw [hk, hz]; exact c2)
  rw [cut6f, hok, cond_true]
  have ef : vev6fp_1 kind n = false := by unfold vev6fp_1 rev6fp_4 rev6fp_5; rw [hk, hz, c0, c1]; rfl
  have ek : vev6fp_0 kind n = 0 := hk
  rw [ef, ek, ev6f0f]
  unfold vev6f0f_0 vev6f0f_1
  unfold vev6fp_3 vev6fp_4 vev6fp_5 vev6fp_6 vev6fp_7 vev6fp_8 vev6fp_9 vev6fp_10 vev6fp_11 vev6fp_12 vev6fp_13 vev6fp_14
  unfold rev6fp_5
  rw [hk, hz, c1, nilE8, d0, d1, d2, d3, d4, d5, d6, d7, d8, d9, d10, d11, s23n.1, s23n.2]
  rfl
theorem f6f1 {kind n : Int} (hk : kind.tmod 14 = 1) (hn : 0 ≤ n ∧ n ≤ 255) : evFun x6 Try.f6 [.int .u8 kind, .int .u8 n, .bool false] [] = some (.bool true, []) := by
  obtain ⟨hl, hz⟩ := len6f kind hn
  have hzl : ((Z (n % 61).toNat).length : Int) = n % 61 := by rw [Z_len]; omega
  obtain ⟨c0, c1, c2, d0, d1, d2, d3, d4, d5, d6, d7, d8, d9, d10, d11⟩ := bad1 (l := rev6fp_0 kind n) (t := 1) (g := 0) (n := 0) (s := Z (n % 61).toNat) rfl
  have hok := ok6f hn (by rw [hk, hz]; exact c2)
  rw [cut6f, hok, cond_true]
  have ef : vev6fp_1 kind n = false := by unfold vev6fp_1 rev6fp_4 rev6fp_5; rw [hk, hz, c0, c1]; rfl
  have ek : vev6fp_0 kind n = 1 := hk
  rw [ef, ek, ev6f1f]
  unfold vev6f1f_0 vev6f1f_1
  unfold vev6fp_3 vev6fp_4 vev6fp_5 vev6fp_6 vev6fp_7 vev6fp_8 vev6fp_9 vev6fp_10 vev6fp_11 vev6fp_12 vev6fp_13 vev6fp_14
  unfold rev6fp_5
  rw [hk, hz, c1, nilE8, d0, d1, d2, d3, d4, d5, d6, d7, d8, d9, d10, d11, s23n.1, s23n.2]
  rfl
theorem f6f2 {kind n : Int} (hk : kind.tmod 14 = 2) (hn : 0 ≤ n ∧ n ≤ 255) : evFun x6 Try.f6 [.int .u8 kind, .int .u8 n, .bool false] [] = some (.bool true, []) := by
  obtain ⟨hl, hz⟩ := len6f kind hn
  have hzl : ((Z (n % 61).toNat).length : Int) = n % 61 := by rw [Z_len]; omega
  obtain ⟨c0, c1, c2, d0, d1, d2, d3, d4, d5, d6, d7, d8, d9, d10, d11⟩ := bad1 (l := rev6fp_0 kind n) (t := 2) (g := 0) (n := 0) (s := Z (n % 61).toNat) rfl
  have hok := ok6f hn (by rw [hk, hz]; exact c2)
  rw [cut6f, hok, cond_true]
  have ef : vev6fp_1 kind n = false := by unfold vev6fp_1 rev6fp_4 rev6fp_5; rw [hk, hz, c0, c1]; rfl
  have ek : vev6fp_0 kind n = 2 := hk
  rw [ef, ek, ev6f2f]
  unfold vev6f2f_0 vev6f2f_1
  unfold vev6fp_3 vev6fp_4 vev6fp_5 vev6fp_6 vev6fp_7 vev6fp_8 vev6fp_9 vev6fp_10 vev6fp_11 vev6fp_12 vev6fp_13 vev6fp_14
  unfold rev6fp_5
  rw [hk, hz, c1, nilE8, d0, d1, d2, d3, d4, d5, d6, d7, d8, d9, d10, d11, s23n.1, s23n.2]
  rfl
theorem f6f3 {kind n : Int} (hk : kind.tmod 14 = 3) (hn : 0 ≤ n ∧ n ≤ 255) : evFun x6 Try.f6 [.int .u8 kind, .int .u8 n, .bool false] [] = some (.bool true, []) := by
  obtain ⟨hl, hz⟩ := len6f kind hn
  have hzl : ((Z (n % 61).toNat).length : Int) = n % 61 := by rw [Z_len]; omega
  obtain ⟨c0, c1, c2, d0, d1, d2, d3, d4, d5, d6, d7, d8, d9, d10, d11⟩ := bad1 (l := rev6fp_0 kind n) (t := 3) (g := 0) (n := 0) (s := Z (n % 61).toNat) rfl
  have hok := ok6f hn (by rw [hk, hz]; exact c2)
  rw [cut6f, hok, cond_true]
  have ef : vev6fp_1 kind n = false := by unfold vev6fp_1 rev6fp_4 rev6fp_5; rw [hk, hz, c0, c1]; rfl
  have ek : vev6fp_0 kind n = 3 := hk
  rw [ef, ek, ev6f3f]
  unfold vev6f3f_0 vev6f3f_1
  unfold vev6fp_3 vev6fp_4 vev6fp_5 vev6fp_6 vev6fp_7 vev6fp_8 vev6fp_9 vev6fp_10 vev6fp_11 vev6fp_12 vev6fp_13 vev6fp_14
  unfold rev6fp_5
  rw [hk, hz, c1, nilE8, d0, d1, d2, d3, d4, d5, d6, d7, d8, d9, d10, d11, s23n.1, s23n.2]
  rfl
theorem f6f4 {kind n : Int} (hk : kind.tmod 14 = 4) (hn : 0 ≤ n ∧ n ≤ 255) : evFun x6 Try.f6 [.int .u8 kind, .int .u8 n, .bool false] [] = some (.bool true, []) := by
  obtain ⟨hl, hz⟩ := len6f kind hn
  have hzl : ((Z (n % 61).toNat).length : Int) = n % 61 := by rw [Z_len]; omega
  cases hq : ((n % 61).tmod 6 == 0) with
  | true =>
    have hq2 : (n % 61).tmod 6 = 0 := by simpa using hq
    have hq3 : (n % 61) % 6 = 0 := by rw [← Int.tmod_eq_emod_of_nonneg (by omega)]; exact hq2
    obtain ⟨c0, c1, c2⟩ := good12 (l := rev6fp_0 kind n) (t := 4) (g := 0) (n := 0) (s := Z (n % 61).toNat) rfl (by unfold vev36n_0; rw [hzl, hq2]; rfl) (by kernel_rfl) (w4 _ (by omega) (by omega) _)
    have hok := ok6f hn (by rw [hk, hz]; exact c2)
    rw [cut6f, hok, cond_true]
    have ef : vev6fp_1 kind n = true := by unfold vev6fp_1 rev6fp_4 rev6fp_5; rw [hk, hz, c0, c1]; rfl
    have ek : vev6fp_0 kind n = 4 := hk
    rw [ef, ek, ev6f4t]
    unfold vev6f4t_0
    unfold rev6fp_5
    rw [hk, hz, c1, hl, hq]
    rfl
  | false =>
    obtain ⟨c0, c1, c2, d0, d1, d2, d3, d4, d5, d6, d7, d8, d9, d10, d11⟩ := bad2 (l := rev6fp_0 kind n) (t := 4) (g := 0) (n := 0) (s := Z (n % 61).toNat) rfl (by unfold vev36n_0; rw [hzl, show ((n % 61).tmod 6 != 0) = true from by show (!((n % 61).tmod 6 == 0)) = true; rw [hq]; rfl]; rfl)
    have hok := ok6f hn (by rw [hk, hz]; exact c2)
    rw [cut6f, hok, cond_true]
    have ef : vev6fp_1 kind n = false := by unfold vev6fp_1 rev6fp_4 rev6fp_5; rw [hk, hz, c0, c1]; rfl
    have ek : vev6fp_0 kind n = 4 := hk
    rw [ef, ek, ev6f4f]
    unfold vev6f4f_0 vev6f4f_1
    unfold vev6fp_3 vev6fp_4 vev6fp_5 vev6fp_6 vev6fp_7 vev6fp_8 vev6fp_9 vev6fp_10 vev6fp_11 vev6fp_12 vev6fp_13 vev6fp_14
    unfold rev6fp_5
    rw [hk, hz, c1, nilE8, d0, d1, d2, d3, d4, d5, d6, d7, d8, d9, d10, d11, s23n.1, s23n.2, hl, hq]
    rfl
theorem f6f5 {kind n : Int} (hk : kind.tmod 14 = 5) (hn : 0 ≤ n ∧ n ≤ 255) : evFun x6 Try.f6 [.int .u8 kind, .int .u8 n, .bool false] [] = some (.bool true, []) := by
  obtain ⟨hl, hz⟩ := len6f kind hn
  have hzl : ((Z (n % 61).toNat).length : Int) = n % 61 := by rw [Z_len]; omega
  obtain ⟨c0, c1, c2, d0, d1, d2, d3, d4, d5, d6, d7, d8, d9, d10, d11⟩ := bad1 (l := rev6fp_0 kind n) (t := 5) (g := 0) (n := 0) (s := Z (n % 61).toNat) rfl
  have hok := ok6f hn (by rw [hk, hz]; exact c2)
  rw [cut6f, hok, cond_true]
  have ef : vev6fp_1 kind n = false := by unfold vev6fp_1 rev6fp_4 rev6fp_5; rw [hk, hz, c0, c1]; rfl
  have ek : vev6fp_0 kind n = 5 := hk
  rw [ef, ek, ev6f5f]
  unfold vev6f5f_0 vev6f5f_1
  unfold vev6fp_3 vev6fp_4 vev6fp_5 vev6fp_6 vev6fp_7 vev6fp_8 vev6fp_9 vev6fp_10 vev6fp_11 vev6fp_12 vev6fp_13 vev6fp_14
  unfold rev6fp_5
  rw [hk, hz, c1, nilE8, d0, d1, d2, d3, d4, d5, d6, d7, d8, d9, d10, d11, s23n.1, s23n.2]
  rfl
theorem f6f6 {kind n : Int} (hk : kind.tmod 14 = 6) (hn : 0 ≤ n ∧ n ≤ 255) : evFun x6 Try.f6 [.int .u8 kind, .int .u8 n, .bool false] [] = some (.bool true, []) := by
  obtain ⟨hl, hz⟩ := len6f kind hn
  have hzl : ((Z (n % 61).toNat).length : Int) = n % 61 := by rw [Z_len]; omega
  cases hq : (n % 61 == 8) with
  | true =>
    have hq2 : n % 61 = 8 := by simpa using hq
    obtain ⟨c0, c1, c2⟩ := good12 (l := rev6fp_0 kind n) (t := 6) (g := 0) (n := 0) (s := Z (n % 61).toNat) rfl (by unfold vev36n_0; rw [hzl, hq2]; rfl) (by kernel_rfl) (by kernel_rfl)
    have hok := ok6f hn (by rw [hk, hz]; exact c2)
    rw [cut6f, hok, cond_true]
    have ef : vev6fp_1 kind n = true := by unfold vev6fp_1 rev6fp_4 rev6fp_5; rw [hk, hz, c0, c1]; rfl
    have ek : vev6fp_0 kind n = 6 := hk
    rw [ef, ek, ev6f6t]
    unfold vev6f6t_0
    unfold rev6fp_5
    rw [hk, hz, c1, hl, hq]
    rfl
  | false =>
    obtain ⟨c0, c1, c2, d0, d1, d2, d3, d4, d5, d6, d7, d8, d9, d10, d11⟩ := bad2 (l := rev6fp_0 kind n) (t := 6) (g := 0) (n := 0) (s := Z (n % 61).toNat) rfl (by unfold vev36n_0; rw [hzl]; show (!(n % 61 == 8)) = true; rw [hq]; rfl)
    have hok := ok6f hn (by rw [hk, hz]; exact c2)
    rw [cut6f, hok, cond_true]
    have ef : vev6fp_1 kind n = false := by unfold vev6fp_1 rev6fp_4 rev6fp_5; rw [hk, hz, c0, c1]; rfl
    have ek : vev6fp_0 kind n = 6 := hk
    rw [ef, ek, ev6f6f]
    unfold vev6f6f_0 vev6f6f_1
    unfold vev6fp_3 vev6fp_4 vev6fp_5 vev6fp_6 vev6fp_7 vev6fp_8 vev6fp_9 vev6fp_10 vev6fp_11 vev6fp_12 vev6fp_13 vev6fp_14
    unfold rev6fp_5
    rw [hk, hz, c1, nilE8, d0, d1, d2, d3, d4, d5, d6, d7, d8, d9, d10, d11, s23n.1, s23n.2, hl, hq]
    rfl
theorem f6f7 {kind n : Int} (hk : kind.tmod 14 = 7) (hn : 0 ≤ n ∧ n ≤ 255) : evFun x6 Try.f6 [.int .u8 kind, .int .u8 n, .bool false] [] = some (.bool true, []) := by
  obtain ⟨hl, hz⟩ := len6f kind hn
  have hzl : ((Z (n % 61).toNat).length : Int) = n % 61 := by rw [Z_len]; omega
  rcases Int.lt_or_le (n % 61) 8 with hq | hq
  · obtain ⟨c0, c1, c2, d0, d1, d2, d3, d4, d5, d6, d7, d8, d9, d10, d11⟩ := bad2 (l := rev6fp_0 kind n) (t := 7) (g := 0) (n := 0) (s := Z (n % 61).toNat) rfl (by unfold vev36n_0; rw [hzl, decide_eq_true hq]; rfl)
    have hok := ok6f hn (by rw [hk, hz]; exact c2)
    rw [cut6f, hok, cond_true]
    have ef : vev6fp_1 kind n = false := by unfold vev6fp_1 rev6fp_4 rev6fp_5; rw [hk, hz, c0, c1]; rfl
    have ek : vev6fp_0 kind n = 7 := hk
    rw [ef, ek, ev6f7f]
    unfold vev6f7f_0 vev6f7f_1
    unfold vev6fp_3 vev6fp_4 vev6fp_5 vev6fp_6 vev6fp_7 vev6fp_8 vev6fp_9 vev6fp_10 vev6fp_11 vev6fp_12 vev6fp_13 vev6fp_14
    unfold rev6fp_5
    rw [hk, hz, c1, nilE8, d0, d1, d2, d3, d4, d5, d6, d7, d8, d9, d10, d11, s23n.1, s23n.2, hl, decide_eq_false (show ¬ (n % 61 ≥ 8) by omega)]
    rfl
  · obtain ⟨c0, c1, c2⟩ := good12 (l := rev6fp_0 kind n) (t := 7) (g := 0) (n := 0) (s := Z (n % 61).toNat) rfl (by unfold vev36n_0; rw [hzl, decide_eq_false (show ¬ (n % 61 < 8) by omega)]; rfl) (by kernel_rfl) (w7 _ (by omega) _)
    have hok := ok6f hn (by rw [hk, hz]; exact c2)
    rw [cut6f, hok, cond_true]
    have ef : vev6fp_1 kind n = true := by unfold vev6fp_1 rev6fp_4 rev6fp_5; rw [hk, hz, c0, c1]; rfl
    have ek : vev6fp_0 kind n = 7 := hk
    rw [ef, ek, ev6f7t]
    unfold vev6f7t_0
    unfold rev6fp_5
    rw [hk, hz, c1, hl, decide_eq_true hq]
    rfl
theorem f6f8 {kind n : Int} (hk : kind.tmod 14 = 8) (hn : 0 ≤ n ∧ n ≤ 255) : evFun x6 Try.f6 [.int .u8 kind, .int .u8 n, .bool false] [] = some (.bool true, []) := by
  obtain ⟨hl, hz⟩ := len6f kind hn
  have hzl : ((Z (n % 61).toNat).length : Int) = n % 61 := by rw [Z_len]; omega
  cases hq : (n % 61 == 4) with
  | true =>
    have hq2 : n % 61 = 4 := by simpa using hq
    have w := w8 (n % 61).toNat (by omega) 0
    obtain ⟨c0, c1, c2, d0, d1, d2, d3, d4, d5, d6, d7, d8, d9, d10, d11⟩ := bad3 (l := rev6fp_0 kind n) (t := 8) (g := 0) (n := 0) (s := Z (n % 61).toNat) rfl (by unfold vev36n_0; rw [hzl, hq2]; rfl) (by rw [w.2]; rfl) w.1
    have hok := ok6f hn (by rw [hk, hz]; exact c2)
    rw [cut6f, hok, cond_true]
    have ef : vev6fp_1 kind n = false := by unfold vev6fp_1 rev6fp_4 rev6fp_5; rw [hk, hz, c0, w.2]; rfl
    have ek : vev6fp_0 kind n = 8 := hk
    rw [ef, ek, ev6f8f]
    unfold vev6f8f_0 vev6f8f_1
    unfold vev6fp_3 vev6fp_4 vev6fp_5 vev6fp_6 vev6fp_7 vev6fp_8 vev6fp_9 vev6fp_10 vev6fp_11 vev6fp_12 vev6fp_13 vev6fp_14
    unfold rev6fp_5
    rw [hk, hz, c1, nilE8, d0, d1, d2, d3, d4, d5, d6, d7, d8, d9, d10, d11, s23n.1, s23n.2]
    rfl
  | false =>
    obtain ⟨c0, c1, c2, d0, d1, d2, d3, d4, d5, d6, d7, d8, d9, d10, d11⟩ := bad2 (l := rev6fp_0 kind n) (t := 8) (g := 0) (n := 0) (s := Z (n % 61).toNat) rfl (by unfold vev36n_0; rw [hzl]; show (!(n % 61 == 4)) = true; rw [hq]; rfl)
    have hok := ok6f hn (by rw [hk, hz]; exact c2)
    rw [cut6f, hok, cond_true]
    have ef : vev6fp_1 kind n = false := by unfold vev6fp_1 rev6fp_4 rev6fp_5; rw [hk, hz, c0, c1]; rfl
    have ek : vev6fp_0 kind n = 8 := hk
    rw [ef, ek, ev6f8f]
    unfold vev6f8f_0 vev6f8f_1
    unfold vev6fp_3 vev6fp_4 vev6fp_5 vev6fp_6 vev6fp_7 vev6fp_8 vev6fp_9 vev6fp_10 vev6fp_11 vev6fp_12 vev6fp_13 vev6fp_14
    unfold rev6fp_5
    rw [hk, hz, c1, nilE8, d0, d1, d2, d3, d4, d5, d6, d7, d8, d9, d10, d11, s23n.1, s23n.2]
    rfl
theorem f6f9 {kind n : Int} (hk : kind.tmod 14 = 9) (hn : 0 ≤ n ∧ n ≤ 255) : evFun x6 Try.f6 [.int .u8 kind, .int .u8 n, .bool false] [] = some (.bool true, []) := by
  obtain ⟨hl, hz⟩ := len6f kind hn
  have hzl : ((Z (n % 61).toNat).length : Int) = n % 61 := by rw [Z_len]; omega
  obtain ⟨c0, c1, c2, d0, d1, d2, d3, d4, d5, d6, d7, d8, d9, d10, d11⟩ := bad1 (l := rev6fp_0 kind n) (t := 9) (g := 0) (n := 0) (s := Z (n % 61).toNat) rfl
  have hok := ok6f hn (by rw [hk, hz]; exact c2)
  rw [cut6f, hok, cond_true]
  have ef : vev6fp_1 kind n = false := by unfold vev6fp_1 rev6fp_4 rev6fp_5; rw [hk, hz, c0, c1]; rfl
  have ek : vev6fp_0 kind n = 9 := hk
  rw [ef, ek, ev6f9f]
  unfold vev6f9f_0 vev6f9f_1
  unfold vev6fp_3 vev6fp_4 vev6fp_5 vev6fp_6 vev6fp_7 vev6fp_8 vev6fp_9 vev6fp_10 vev6fp_11 vev6fp_12 vev6fp_13 vev6fp_14
  unfold rev6fp_5
  rw [hk, hz, c1, nilE8, d0, d1, d2, d3, d4, d5, d6, d7, d8, d9, d10, d11, s23n.1, s23n.2]
  rfl
theorem f6f10 {kind n : Int} (hk : kind.tmod 14 = 10) (hn : 0 ≤ n ∧ n ≤ 255) : evFun x6 Try.f6 [.int .u8 kind, .int .u8 n, .bool false] [] = some (.bool true, []) := by
  obtain ⟨hl, hz⟩ := len6f kind hn
  have hzl : ((Z (n % 61).toNat).length : Int) = n % 61 := by rw [Z_len]; omega
  obtain ⟨c0, c1, c2⟩ := good12 (l := rev6fp_0 kind n) (t := 10) (g := 0) (n := 0) (s := Z (n % 61).toNat) rfl (by kernel_rfl) (by kernel_rfl) (by kernel_rfl)
  have hok := ok6f hn (by rw [hk, hz]; exact c2)
  rw [cut6f, hok, cond_true]
  have ef : vev6fp_1 kind n = true := by unfold vev6fp_1 rev6fp_4 rev6fp_5; rw [hk, hz, c0, c1]; rfl
  have ek : vev6fp_0 kind n = 10 := hk
  rw [ef, ek, ev6f10t]
  unfold vev6f10t_0
  unfold rev6fp_5
  rw [hk, hz, c1]
  rfl
theorem f6f11 {kind n : Int} (hk : kind.tmod 14 = 11) (hn : 0 ≤ n ∧ n ≤ 255) : evFun x6 Try.f6 [.int .u8 kind, .int .u8 n, .bool false] [] = some (.bool true, []) := by
  obtain ⟨hl, hz⟩ := len6f kind hn
  have hzl : ((Z (n % 61).toNat).length : Int) = n % 61 := by rw [Z_len]; omega
  obtain ⟨c0, c1, c2⟩ := good12 (l := rev6fp_0 kind n) (t := 11) (g := 0) (n := 0) (s := Z (n % 61).toNat) rfl (by kernel_rfl) (by kernel_rfl) (by kernel_rfl)
  have hok := ok6f hn (by rw [hk, hz]; exact c2)
  rw [cut6f, hok, cond_true]
  have ef : vev6fp_1 kind n = true := by unfold vev6fp_1 rev6fp_4 rev6fp_5; rw [hk, hz, c0, c1]; rfl
  have ek : vev6fp_0 kind n = 11 := hk
  rw [ef, ek, ev6f11t]
  unfold vev6f11t_0
  unfold rev6fp_5
  rw [hk, hz, c1]
  rfl
theorem f6f12 {kind n : Int} (hk : kind.tmod 14 = 12) (hn : 0 ≤ n ∧ n ≤ 255) : evFun x6 Try.f6 [.int .u8 kind, .int .u8 n, .bool false] [] = some (.bool true, []) := by
  obtain ⟨hl, hz⟩ := len6f kind hn
  have hzl : ((Z (n % 61).toNat).length : Int) = n % 61 := by rw [Z_len]; omega
  obtain ⟨c0, c1, c2⟩ := good12 (l := rev6fp_0 kind n) (t := 12) (g := 0) (n := 0) (s := Z (n % 61).toNat) rfl (by kernel_rfl) (by kernel_rfl) (by kernel_rfl)
  have hok := ok6f hn (by rw [hk, hz]; exact c2)
  rw [cut6f, hok, cond_true]
  have ef : vev6fp_1 kind n = true := by unfold vev6fp_1 rev6fp_4 rev6fp_5; rw [hk, hz, c0, c1]; rfl
  have ek : vev6fp_0 kind n = 12 := hk
  rw [ef, ek, ev6f12t]
  unfold vev6f12t_0
  unfold rev6fp_5
  rw [hk, hz, c1]
  rfl
theorem f6f13 {kind n : Int} (hk : kind.tmod 14 = 13) (hn : 0 ≤ n ∧ n ≤ 255) : evFun x6 Try.f6 [.int .u8 kind, .int .u8 n, .bool false] [] = some (.bool true, []) := by
  obtain ⟨hl, hz⟩ := len6f kind hn
  have hzl : ((Z (n % 61).toNat).length : Int) = n % 61 := by rw [Z_len]; omega
  obtain ⟨c0, c1, c2⟩ := good12 (l := rev6fp_0 kind n) (t := 13) (g := 0) (n := 0) (s := Z (n % 61).toNat) rfl (by kernel_rfl) (by kernel_rfl) (by kernel_rfl)
  have hok := ok6f hn (by rw [hk, hz]; exact c2)
  rw [cut6f, hok, cond_true]
  have ef : vev6fp_1 kind n = true := by unfold vev6fp_1 rev6fp_4 rev6fp_5; rw [hk, hz, c0, c1]; rfl
  have ek : vev6fp_0 kind n = 13 := hk
  rw [ef, ek, ev6f13t]
  unfold vev6f13t_0
  unfold rev6fp_5
  rw [hk, hz, c1]
  rfl
theorem law6 {kind n : Int} {stream : Bool} (hk : (Lit.int .u8 kind).wf = true) (hn : (Lit.int .u8 n).wf = true) : FnOK Try.prog 6 [.int .u8 kind, .int .u8 n, .bool stream] [] (.bool true) [] := by
  have kk : ∀ x : Int, (Lit.int .u8 x).wf = true → 0 ≤ x ∧ x ≤ 255 := fun x h => by
    have h2 : (decide (0 ≤ x) && decide (x ≤ 255)) = true := h
    simpa using h2
  have hk := kk _ hk
  have hn := kk _ hn
  have hm : 0 ≤ kind.tmod 14 ∧ kind.tmod 14 < 14 := by rw [Int.tmod_eq_emod_of_nonneg hk.1]; omega
  have key : evFun x6 Try.f6 [.int .u8 kind, .int .u8 n, .bool stream] [] = some (.bool true, []) := by
    obtain ⟨m, hm'⟩ : ∃ m, kind.tmod 14 = m := ⟨_, rfl⟩
    rw [hm'] at hm
    have hc : m = 0 ∨ m = 1 ∨ m = 2 ∨ m = 3 ∨ m = 4 ∨ m = 5 ∨ m = 6 ∨ m = 7 ∨ m = 8 ∨ m = 9 ∨ m = 10 ∨ m = 11 ∨ m = 12 ∨ m = 13 := by omega
    cases stream
    · rcases hc with h | h | h | h | h | h | h | h | h | h | h | h | h | h <;> subst h
      · exact f6f0 hm' hn
      · exact f6f1 hm' hn
      · exact f6f2 hm' hn
      · exact f6f3 hm' hn
      · exact f6f4 hm' hn
      · exact f6f5 hm' hn
      · exact f6f6 hm' hn
      · exact f6f7 hm' hn
      · exact f6f8 hm' hn
      · exact f6f9 hm' hn
      · exact f6f10 hm' hn
      · exact f6f11 hm' hn
      · exact f6f12 hm' hn
      · exact f6f13 hm' hn
    · rcases hc with h | h | h | h | h | h | h | h | h | h | h | h | h | h <;> subst h
      · exact f6t0 hm' hn
      · exact f6t1 hm' hn
      · exact f6t2 hm' hn
      · exact f6t3 hm' hn
      · exact f6t4 hm' hn
      · exact f6t5 hm' hn
      · exact f6t6 hm' hn
      · exact f6t7 hm' hn
      · exact f6t8 hm' hn
      · exact f6t9 hm' hn
      · exact f6t10 hm' hn
      · exact f6t11 hm' hn
      · exact f6t12 hm' hn
      · exact f6t13 hm' hn
  exact (fn_ok mixed plain (gk_ok k16_ok 30) Try.func6 (fun c _ => LoopsOK.none (fun _ _ => rfl) c) key).2
end Go.Proofs.Gv
