/-
The plain law of BlockParts: both sides part alike.
-/
import Derived.Test.YtndephedgodneaaGcParL
import Derived.Test.YtndephedgodneaaGwA
namespace Go.Proofs.Gv
open Go.Proofs
set_option linter.unusedVariables false
theorem all32_step {n m : Int} {e : Bool} {bs : List (List AV)} {first : Bool} (hm : 1 ≤ m) (hgo : (first || Nat.blt 0 bs.length) = true) :
    all32 n m e bs first = frame32 n m e bs first :: all32 n m e (bs.drop (hN m bs.length)) false := by
  have hlt : fu (bs.drop (hN m bs.length)) false < fu bs first := by
    unfold fu
    rw [List.length_drop]
    cases first with
    | true => simp only [cond_true, cond_false]; omega
    | false =>
      have : 1 ≤ bs.length := by simpa [Nat.blt] using hgo
      have : 1 ≤ hN m bs.length := by unfold hN; exact Nat.le_min.2 ⟨by omega, this⟩
      simp only [cond_false]; omega
  unfold all32
  obtain ⟨k, hk⟩ := Nat.exists_eq_succ_of_ne_zero (show fu bs first ≠ 0 by omega)
  rw [hk]
  simp only [parts32, hgo, cond_true]
  rw [parts32_fuel hm k (fu (bs.drop (hN m bs.length)) false) _ (by unfold fu at hlt hk; simp only [cond_false] at hlt; omega) (by unfold fu; omega)]
/-- The last part. -/
def end33 (n m t g : Int) (s : List UInt8) : List AV := [.int .u8 (bif Nat.blt m.toNat s.length then 9 else t), .int .u8 (IntKind.u8.wrap ((bif Nat.blt m.toNat s.length then 0 else g) + 4)), .int .i64 n, .str (last33 m s.length s), .int .i64 0, .int .i64 0, .bool false, .int .u8 0, .int .u32 0, .int .i64 0, .int .i64 0, .nil]
theorem parts_eq {n m : Int} {e : Bool} (hm : 1 ≤ m) : ∀ (len : Nat) (bs : List (List AV)) (first : Bool), bs.length = len → (first || Nat.blt 0 bs.length) = true →
    all32 n m e bs first = rows33 n m (bs.map byteOf).length (bif first then 1 else 9) (bif first && e then 1 else 0) (bs.map byteOf) ++ [end33 n m (bif first then 1 else 9) (bif first && e then 1 else 0) (bs.map byteOf)] := by
  intro len
  induction len using Nat.strongRecOn with
  | _ len ih =>
    intro bs first hl hgo
    rw [all32_step hm hgo]
    have hS : (bs.map byteOf).length = bs.length := List.length_map _
    cases hb : Nat.blt m.toNat bs.length with
    | true =>
      have hlt : m.toNat + 1 ≤ bs.length := by simpa [Nat.blt] using hb
      have hN' : hN m bs.length = m.toNat := Nat.min_eq_left (by omega)
      have hble : Nat.ble bs.length m.toNat = false := by
        cases hq : Nat.ble bs.length m.toNat with
        | false => rfl
        | true => have := Nat.le_of_ble_eq_true hq; omega
      have hd : (bs.drop m.toNat).length = bs.length - m.toNat := List.length_drop
      have := ih (bs.drop m.toNat).length (by omega) (bs.drop m.toNat) false rfl (by simp [Nat.blt]; omega)
      rw [hN', this]
      have hf := rows33_fuel (n := n) hm (bs.length - 1) ((bs.drop m.toNat).map byteOf).length 9 0 ((bs.drop m.toNat).map byteOf) (by rw [List.length_map]; omega) (Nat.le_refl _)
      obtain ⟨k, hk⟩ := Nat.exists_eq_succ_of_ne_zero (show bs.length ≠ 0 by omega)
      have hk1 : bs.length - 1 = k := by omega
      rw [hk1] at hf
      have hrows : rows33 n m (bs.map byteOf).length (bif first then 1 else 9) (bif first && e then 1 else 0) (bs.map byteOf) = frame32 n m e bs first :: rows33 n m ((bs.drop m.toNat).map byteOf).length 9 0 ((bs.drop m.toNat).map byteOf) := by
        rw [hS, hk, ← hf.1]
        simp only [rows33, hS, hb, cond_true]
        rw [← List.map_drop, ← List.map_take]
        unfold frame32
        rw [hN', hble]
        rfl
      have hlast : last33 m (bs.map byteOf).length (bs.map byteOf) = last33 m ((bs.drop m.toNat).map byteOf).length ((bs.drop m.toNat).map byteOf) := by
        rw [hS, hk, ← hf.2]
        simp only [last33, hS, hb, cond_true]
        rw [← List.map_drop]
      rw [hrows]
      unfold end33
      rw [hlast, hS, hb]
      simp only [Bool.false_and, cond_false, cond_true, Bool.cond_self]
      rfl
    | false =>
      have hge : ¬ (m.toNat + 1 ≤ bs.length) := fun h => by
        have : Nat.blt m.toNat bs.length = true := by simpa [Nat.blt] using h
        rw [hb] at this; cases this
      have hN' : hN m bs.length = bs.length := Nat.min_eq_right (by omega)
      have hble : Nat.ble bs.length bs.length = true := Nat.ble_eq_true_of_le (Nat.le_refl _)
      have hrows : ∀ t g, rows33 n m (bs.map byteOf).length t g (bs.map byteOf) = [] ∧ last33 m (bs.map byteOf).length (bs.map byteOf) = bs.map byteOf := by
        intro t g
        cases hl : (bs.map byteOf).length with
        | zero => exact ⟨rfl, rfl⟩
        | succ k => simp only [rows33, last33, hS, hb, cond_false]; exact ⟨trivial, trivial⟩
      rw [(hrows _ _).1, hN', List.drop_length]
      have h0 : all32 n m e [] false = [] := rfl
      rw [h0, List.nil_append]
      unfold frame32 end33
      rw [(hrows 0 0).2, hN', hble, List.take_length, hS, hb]
      simp only [cond_true, cond_false]
      cases first <;> cases e <;> rfl
theorem v01 (n m : Int) (bs : List (List AV)) (e : Bool) : vev32_1 n bs e m = vev33_1 n bs e m := by
  unfold vev32_1 vev33_1
  cases decide (n < 1) <;> cases decide (n > 2147483647) <;> cases decide (m < 1) <;> cases decide (m > 16384) <;> rfl
theorem v00 (n m : Int) (bs : List (List AV)) (e : Bool) : vev32_0 n bs e m = vev33_0 n bs e m := by
  unfold vev32_0 vev33_0
  cases h1 : decide (n < 1) with
  | true => rfl
  | false =>
    cases h2 : decide (n > 2147483647) with
    | true => rfl
    | false =>
      cases h3 : decide (m < 1) with
      | true => rfl
      | false =>
        cases h4 : decide (m > 16384) with
        | true => rfl
        | false =>
          simp only [cond_false]
          cases h5 : decide ((bs.length : Int) > 4096) with
          | true => rfl
          | false =>
            simp only [cond_false]
            rw [decide_eq_false_iff_not] at h3
            rw [parts_eq (by omega) bs.length bs true rfl rfl]
            cases e with
            | true => rfl
            | false =>
              unfold end33
              rfl
theorem v02 {n m : Int} {bs : List (List AV)} {e : Bool} (hB : bs.all isB = true) : vev32_2 n bs e m = true := by
  unfold vev32_2
  cases h3 : decide (m < 1) with
  | true => simp only [cond_true, Bool.cond_self]
  | false =>
    cases h5 : decide ((bs.length : Int) > 4096) with
    | true => simp only [cond_true, Bool.cond_self]
    | false =>
      rw [decide_eq_false_iff_not] at h3 h5
      have : (sp32L (n, bs, e, m, [], true)).1 = true := by
        simp only [sp32L, Bool.and_eq_true, decide_eq_true_eq]
        exact ⟨hB, by omega, Nat.ble_eq_true_of_le (by unfold fu; simp only [cond_true, List.length_nil]; omega)⟩
      rw [this]
      simp only [cond_true, Bool.cond_self]
theorem rows_le {n m : Int} (hm : 1 ≤ m) : ∀ (k : Nat) (t g : Int) (s : List UInt8), (rows33 n m k t g s).length ≤ k := by
  intro k
  induction k with
  | zero => intro t g s; exact Nat.le_refl _
  | succ k ih =>
    intro t g s
    simp only [rows33]
    cases Nat.blt m.toNat s.length with
    | true => simp only [cond_true, List.length_cons]; have := ih 9 0 (s.drop m.toNat); omega
    | false => simp
theorem v33 {n m : Int} {bs : List (List AV)} {e : Bool} (hB : bs.all isB = true) : vev33_2 n bs e m = true := by
  unfold vev33_2
  cases h3 : decide (m < 1) with
  | true => simp only [cond_true, Bool.cond_self]
  | false =>
    cases h5 : decide ((bs.length : Int) > 4096) with
    | true => simp only [cond_true, Bool.cond_self]
    | false =>
      rw [decide_eq_false_iff_not] at h3 h5
      have hS : (bs.map byteOf).length = bs.length := List.length_map _
      have key : ∀ g, (sp33L (n, n, m, (1 : Int), g, List.map byteOf bs, [])).1 = true := by
        intro g
        simp only [sp33L, Bool.and_eq_true, decide_eq_true_eq]
        exact ⟨trivial, by omega, Nat.ble_eq_true_of_le (by rw [hS, List.length_nil]; omega)⟩
      have r1 : ∀ g, decide ((([] ++ rows33 n m (List.map byteOf bs).length (1 : Int) g (List.map byteOf bs)).length + (1 : Nat)) * (96 : Nat) ≤ (140737488355328 : Nat)) = true := by
        intro g
        have := rows_le (n := n) (m := m) (by omega) (List.map byteOf bs).length 1 g (List.map byteOf bs)
        rw [decide_eq_true_eq, List.nil_append]
        omega
      have r2 : ∀ g, decide (([] ++ rows33 n m (List.map byteOf bs).length (1 : Int) g (List.map byteOf bs)).length + (1 : Nat) ≤ (9223372036854775807 : Nat)) = true := by
        intro g
        have := rows_le (n := n) (m := m) (by omega) (List.map byteOf bs).length 1 g (List.map byteOf bs)
        rw [decide_eq_true_eq, List.nil_append]
        omega
      rw [hB, key, key, r1, r1, r2, r2]
      simp only [cond_true, Bool.cond_self]
theorem same_self {x : List AV} (h : elsO (x.getD 11 .junk) = []) : same2 x x = true ∧ okS2 x x = true := by
  have e1 : vev44_1 [] [] = true := rfl
  have e0 : vev44_0 [] [] = true := rfl
  unfold same2 okS2 vev14_0 vev14_1
  rw [h, e1, e0]
  simp only [beq_self_eq_true, cond_true, Bool.cond_self, and_self]
theorem all_self : ∀ (l : List (List AV)), (∀ x ∈ l, elsO (x.getD 11 .junk) = []) → allS l l = true := by
  intro l
  induction l with
  | nil => intro _; rfl
  | cons x l ih =>
    intro h
    obtain ⟨h1, h2⟩ := same_self (h x List.mem_cons_self)
    simp only [allS, h1, h2, ih fun y hy => h y (List.mem_cons_of_mem _ hy), Bool.and_self]
theorem parts_els {n m : Int} {e : Bool} : ∀ (k : Nat) (bs : List (List AV)) (first : Bool), ∀ x ∈ parts32 n m e k bs first, elsO (x.getD 11 .junk) = [] := by
  intro k
  induction k with
  | zero => intro bs first x hx; cases hx
  | succ k ih =>
    intro bs first x hx
    simp only [parts32] at hx
    cases hc : (first || Nat.blt 0 bs.length) with
    | false => rw [hc] at hx; cases hx
    | true =>
      rw [hc, cond_true] at hx
      rcases List.mem_cons.1 hx with hx | hx
      · subst hx; rfl
      · exact ih _ _ x hx
theorem parts_len {n m : Int} {e : Bool} : ∀ (k : Nat) (bs : List (List AV)) (first : Bool), (parts32 n m e k bs first).length ≤ k := by
  intro k
  induction k with
  | zero => intro bs first; exact Nat.le_refl _
  | succ k ih =>
    intro bs first
    simp only [parts32]
    cases (first || Nat.blt 0 bs.length) with
    | true => simp only [cond_true, List.length_cons]; have := ih (bs.drop (hN m bs.length)) false; omega
    | false => simp
theorem v0_ok (n m : Int) (bs : List (List AV)) (e : Bool) : (∀ x ∈ vev32_0 n bs e m, elsO (x.getD 11 .junk) = []) ∧ (vev32_0 n bs e m).length ≤ 4097 := by
  unfold vev32_0
  cases h5 : decide ((bs.length : Int) > 4096) with
  | true => simp only [cond_true, Bool.cond_self]; exact ⟨(fun x hx => by cases hx), by simp⟩
  | false =>
    rw [decide_eq_false_iff_not] at h5
    have h0 : (∀ x ∈ ([] : List (List AV)), elsO (x.getD 11 .junk) = []) ∧ ([] : List (List AV)).length ≤ 4097 := ⟨(fun x hx => by cases hx), by simp⟩
    have h1 : (∀ x ∈ [] ++ all32 n m e bs true, elsO (x.getD 11 .junk) = []) ∧ ([] ++ all32 n m e bs true).length ≤ 4097 := by
      rw [List.nil_append]
      refine ⟨parts_els _ _ _, ?_⟩
      have := parts_len (n := n) (m := m) (e := e) (fu bs true) bs true
      unfold fu at this
      simp only [cond_true] at this
      unfold all32 fu
      simp only [cond_true]
      omega
    cases decide (n < 1) <;> cases decide (n > 2147483647) <;> cases decide (m < 1) <;> cases decide (m > 16384) <;> first | exact h0 | exact h1
theorem e9_0 (a m : Int) (bs : List (List AV)) (e : Bool) : vev9_0 a m bs e = true := by
  unfold vev9_0
  rw [v00, v01]
  simp only [bne_self_eq_false, Bool.cond_self, cond_false]
theorem e9_1 (a m : Int) (bs : List (List AV)) (e : Bool) (hB : bs.all isB = true) : vev9_1 a m bs e = true := by
  unfold vev9_1
  have h9 : (sp9L (vev32_0 a bs e m, vev33_0 a bs e m, 0)).1 = true := by
    obtain ⟨h1, h2⟩ := v0_ok a m bs e
    rw [← v00]
    simp only [sp9L, Bool.and_eq_true]
    exact ⟨Nat.ble_eq_true_of_le (by omega), all_self _ h1⟩
  have h0 : (bif decide (m ≥ (1 : Int)) then !m == (0 : Int) else true) = true := by
    by_cases h : m ≥ 1
    · have : (m == 0) = false := by simp; omega
      rw [this, decide_eq_true h]; rfl
    · rw [decide_eq_false h]; rfl
  rw [h0, v02 hB, v33 hB, h9]
  simp only [cond_true, Bool.cond_self]
theorem law9 (a m : Int) (bs : List (List AV)) (e : Bool) (hB : ∀ x ∈ bs, okKL [.int .u8] x) : FnOK Try.prog 9 [.agg [.int .i64 a, .int .i64 m], .sl .imm [.int .u8] bs, .bool e] [] (.bool true) [] := by
  have hB' : bs.all isB = true := by
    rw [List.all_eq_true]
    intro x hx
    have := hB x hx
    simp only [okKL, okK] at this
    obtain ⟨_, _, rfl, ⟨n, rfl, w⟩, rfl⟩ := this
    have := wf_u8 w
    unfold isB
    simp [intOf]
    omega
  have he := ev9 a m bs e
  rw [e9_1 a m bs e hB', e9_0, cond_true] at he
  exact (fn_ok mixed plain (gk_ok k14_ok 30) Try.func9 loops9 he).2
end Go.Proofs.Gv
