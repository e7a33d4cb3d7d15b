/-
The loops of Parts: what they do.
-/
import Derived.Test.YtndephedgodneaaGlPar
namespace Go.Proofs.Gv
open Go.Proofs
set_option linter.unusedVariables false
set_option maxHeartbeats 1000000
theorem spT_inv {ok b' : Bool} {r r' : AV} {o o' : List Blk} (h : spW ok (some (b', r', o')) = some (true, r, o)) : ok = true ∧ r' = r ∧ o' = o := by
  unfold spW at h
  injection h with h
  injection h with h1 h
  injection h with h2 h3
  exact ⟨h1, h2, h3⟩
abbrev fK : List Kd := [.int .u8, .int .u8, .int .i64, .str, .int .i64, .int .i64, .bool, .int .u8, .int .u32, .int .i64, .int .i64, .sl [.int .u16, .int .u32]]
theorem lt_dec {i n : Nat} (h : i < n) : decide ((i : Int) < (n : Int)) = true := by rw [decide_eq_true_eq]; omega
theorem ge_dec {i n : Nat} (h : ¬ i < n) : decide ((i : Int) < (n : Int)) = false := by rw [decide_eq_false_iff_not]; omega
theorem nn_dec (i : Nat) : decide ((0 : Int) ≤ (i : Int)) = true := by rw [decide_eq_true_eq]; omega
/-- How many bytes a part has. -/
def hN (m : Int) (len : Nat) : Nat := Nat.min m.toNat len
theorem hI_eq {m : Int} {len : Nat} (hm : 1 ≤ m) : (if if false = true then m < (len : Int) else (len : Int) < m then (len : Int) else m) = (hN m len : Int) := by
  unfold hN
  simp only [Bool.false_eq_true, if_false]
  by_cases h : (len : Int) < m
  · rw [if_pos h, show Nat.min m.toNat len = len from Nat.min_eq_right (by omega)]
  · rw [if_neg h, show Nat.min m.toNat len = m.toNat from Nat.min_eq_left (by omega)]; omega
/-- The part that a round makes. -/
def frame32 (n m : Int) (e : Bool) (bs : List (List AV)) (first : Bool) : List AV :=
  [.int .u8 (bif first then 1 else 9), .int .u8 (bif Nat.ble bs.length (hN m bs.length) then (bif first && e then 5 else 4) else (bif first && e then 1 else 0)), .int .i64 n, .str ((bs.take (hN m bs.length)).map byteOf), .int .i64 0, .int .i64 0, .bool false, .int .u8 0, .int .u32 0, .int .i64 0, .int .i64 0, .nil]
def parts32 (n m : Int) (e : Bool) : Nat → List (List AV) → Bool → List (List AV)
  | 0, _, _ => []
  | k + 1, bs, first => bif first || Nat.blt 0 bs.length then frame32 n m e bs first :: parts32 n m e k (bs.drop (hN m bs.length)) false else []
theorem parts32_fuel {n m : Int} {e : Bool} (hm : 1 ≤ m) : ∀ (k k' : Nat) (bs : List (List AV)), bs.length ≤ k → bs.length ≤ k' → parts32 n m e k bs false = parts32 n m e k' bs false := by
  intro k
  induction k with
  | zero =>
    intro k' bs h1 h2
    have : bs.length = 0 := by omega
    cases k' with
    | zero => rfl
    | succ k' => simp only [parts32, this]; rfl
  | succ k ih =>
    intro k' bs h1 h2
    cases k' with
    | zero =>
      have : bs.length = 0 := by omega
      simp only [parts32, this]; rfl
    | succ k' =>
      simp only [parts32]
      cases hb : (false || Nat.blt 0 bs.length) with
      | false => rfl
      | true =>
        have hpos : 1 ≤ bs.length := by simpa [Nat.blt] using hb
        have hd : (bs.drop (hN m bs.length)).length ≤ k ∧ (bs.drop (hN m bs.length)).length ≤ k' := by
          rw [List.length_drop]
          have : 1 ≤ hN m bs.length := by unfold hN; exact Nat.le_min.2 ⟨by omega, hpos⟩
          omega
        rw [ih k' _ hd.1 hd.2]
def fu (bs : List (List AV)) (first : Bool) : Nat := (bif first then 1 else 0) + bs.length
def all32 (n m : Int) (e : Bool) (bs : List (List AV)) (first : Bool) : List (List AV) := parts32 n m e (fu bs first) bs first
noncomputable def VT32 (a : Int × List (List AV) × Bool × Int × List (List AV) × Bool) : List AV := [.int .i64 a.1, .sl .imm [.int .u8] a.2.1, .bool a.2.2.1, .int .i64 a.2.2.2.1, .rf 2 fK, .bool a.2.2.2.2.2]
noncomputable def VC32 (a : Int × List (List AV) × Bool × Int × List (List AV) × Bool) : List Blk := [.dead, .row fK a.2.2.2.2.1]
noncomputable def dec32 : List AV → List Blk → Option (Int × List (List AV) × Bool × Int × List (List AV) × Bool)
  | [.int .i64 n, .sl .imm [.int .u8] bs, .bool e, .int .i64 m, .rf 2 [.int .u8, .int .u8, .int .i64, .str, .int .i64, .int .i64, .bool, .int .u8, .int .u32, .int .i64, .int .i64, .sl [.int .u16, .int .u32]], .bool first], [.dead, .row [.int .u8, .int .u8, .int .i64, .str, .int .i64, .int .i64, .bool, .int .u8, .int .u32, .int .i64, .int .i64, .sl [.int .u16, .int .u32]] fs] => some (n, bs, e, m, fs, first)
  | _, _ => none
noncomputable def sp32L (a : Int × List (List AV) × Bool × Int × List (List AV) × Bool) : Bool × List (Bool × Ex × List AV × List Blk) × Ex × List AV × List Blk :=
  (a.2.1.all isB && (decide (1 ≤ a.2.2.2.1) && Nat.ble ((a.2.2.2.2.1.length + fu a.2.1 a.2.2.2.2.2) * 96) 140737488355328), [], .exit 1, [.rf 2 fK], [.row fK (a.2.2.2.2.1 ++ all32 a.1 a.2.2.2.1 a.2.2.1 a.2.1 a.2.2.2.2.2)])
noncomputable def lsp32 : Lsp := fun i s => match Nat.beq i 10 with
  | true => lspOf [0, 1, 2, 3, 10, 11] [0, 2] [10] [2] Try.f32.ntmps (0 + tab.nid 32) dec32 sp32L s
  | false => none
theorem lok32 (gam : Gam) : LoopOK1 (cfg Try.prog tab 100000 gam lsp32 32 0 Try.f32.ntmps) (loopAt Try.f32 10) := by
  refine LoopOK1.of (i := 10) (by kernel_rfl) [0, 1, 2, 3, 10, 11] [0, 2] [10] [2] VT32 VC32 dec32 sp32L (fun a => fu a.2.1 a.2.2.2.2.2) (fun s => rfl) (fun vt vc a h => ?_) (fun a ha => ?_)
  · unfold dec32 at h
    split at h
    · injection h with h
      subst h
      exact ⟨rfl, rfl⟩
    · cases h
  · obtain ⟨n, bs, e, m, fs, first⟩ := a
    have ha' := ha
    simp only [sp32L, Bool.and_eq_true, decide_eq_true_eq] at ha'
    obtain ⟨hB, hm, hroom⟩ := ha'
    have hroom := Nat.le_of_ble_eq_true hroom
    have hle : hN m bs.length ≤ bs.length := Nat.min_le_right _ _
    have b1 : bnd (0 : Int) (hN m bs.length : Int) (bs.length : Int) = true := by unfold bnd; simp; omega
    have b2 : bnd (hN m bs.length : Int) (hN m bs.length : Int) (bs.length : Int) = true := by unfold bnd; simp; omega
    have b3 : bnd (hN m bs.length : Int) (bs.length : Int) (bs.length : Int) = true := by unfold bnd; simp; omega
    have b4 : (List.take (hN m bs.length) bs).all isB = true := by
      rw [List.all_eq_true] at hB ⊢
      exact fun x hx => hB x (List.mem_of_mem_take hx)
    have hb5 : (first || Nat.blt 0 bs.length) = true → 1 ≤ fu bs first := by
      intro h
      unfold fu
      cases first with
      | true => simp only [cond_true]; omega
      | false =>
        have : 1 ≤ bs.length := by simpa [Nat.blt] using h
        omega
    have b5 : (first || Nat.blt 0 bs.length) = true → decide ((fs.length + 1) * 96 ≤ 140737488355328) = true := by intro h; have := hb5 h; rw [decide_eq_true_eq]; omega
    have b6 : (first || Nat.blt 0 bs.length) = true → decide (fs.length + 1 ≤ 9223372036854775807) = true := by intro h; have := hb5 h; rw [decide_eq_true_eq]; omega
    have hend : ((↑(List.drop (hN m bs.length) bs).length : Int) == (0 : Int)) = Nat.ble bs.length (hN m bs.length) := by
      rw [List.length_drop]
      cases hq : Nat.ble bs.length (hN m bs.length) with
      | true => have := Nat.le_of_ble_eq_true hq; simp; omega
      | false =>
        have : ¬ bs.length ≤ hN m bs.length := fun h => by rw [Nat.ble_eq_true_of_le h] at hq; cases hq
        rw [beq_eq_false_iff_ne]; omega
    by_cases hgo : (first || Nat.blt 0 bs.length) = true
    · have hgo1 : (bif first then true else decide ((bs.length : Int) > 0)) = true := by
        cases first with
        | true => rfl
        | false =>
          have : 1 ≤ bs.length := by simpa [Nat.blt] using hgo
          simp; omega
      have key : roundV (cfg Try.prog tab 100000 gam lsp32 32 0 Try.f32.ntmps) (loopAt Try.f32 10) [0, 1, 2, 3, 10, 11] [0, 2] [10] [2] (VT32 (n, bs, e, m, fs, first)) (VC32 (n, bs, e, m, fs, first)) =
          some (.norm, VT32 (n, bs.drop (hN m bs.length), e, m, fs ++ [frame32 n m e bs first], false), VC32 (n, bs.drop (hN m bs.length), e, m, fs ++ [frame32 n m e bs first], false)) := by
        have hr := rd32_10 lsp32 gam n bs e m fs first
        simp only [hI_eq hm, Int.toNat_natCast] at hr
        rw [b1, b2, b3, b4, b5 hgo, b6 hgo, hend] at hr
        refine Eq.trans hr ?_
        clear hr
        cases first with
        | true =>
          cases hq : Nat.ble bs.length (hN m bs.length) <;> cases e <;> simp only [frame32, hq] <;> rfl
        | false =>
          simp only [cond_false] at hgo1
          simp only [cond_false, cond_true, hgo1, Bool.and_self]
          cases hq : Nat.ble bs.length (hN m bs.length) <;> cases e <;> simp only [frame32, hq] <;> rfl
      have hk : fu (bs.drop (hN m bs.length)) false < fu bs first ∧ all32 n m e bs first = frame32 n m e bs first :: all32 n m e (bs.drop (hN m bs.length)) false := by
        have hlt : fu (bs.drop (hN m bs.length)) false < fu bs first := by
          unfold fu
          rw [List.length_drop]
          cases first with
          | true => simp only [cond_true, cond_false]; omega
          | false =>
            have : 1 ≤ bs.length := by simpa [Nat.blt] using hgo
            have : 1 ≤ hN m bs.length := by unfold hN; exact Nat.le_min.2 ⟨by omega, this⟩
            simp only [cond_false]; omega
        refine ⟨hlt, ?_⟩
        unfold all32
        obtain ⟨k, hk⟩ := Nat.exists_eq_succ_of_ne_zero (show fu bs first ≠ 0 by omega)
        rw [hk]
        simp only [parts32, hgo, cond_true]
        rw [parts32_fuel hm k (fu (bs.drop (hN m bs.length)) false) _ (by unfold fu at hlt hk; simp only [cond_false] at hlt; omega) (by unfold fu; omega)]
      refine ⟨_, _, _, key, (n, bs.drop (hN m bs.length), e, m, fs ++ [frame32 n m e bs first], false), rfl, rfl, ?_, ?_, hk.1⟩
      · simp only [sp32L, Bool.and_eq_true, decide_eq_true_eq]
        refine ⟨?_, hm, Nat.ble_eq_true_of_le ?_⟩
        · rw [List.all_eq_true] at hB ⊢
          exact fun x hx => hB x (List.mem_of_mem_drop hx)
        · have h1 := hk.1
          rw [List.length_append, List.length_singleton]
          omega
      · simp only [sp32L, hk.2, List.append_assoc, List.singleton_append]
    · have hf : first = false := by cases first <;> simp at hgo ⊢
      subst hf
      have h0 : bs.length = 0 := by
        apply Classical.byContradiction
        intro hn
        exact hgo (by simp [Nat.blt]; omega)
      have hd : decide ((bs.length : Int) > 0) = false := by rw [decide_eq_false_iff_not]; omega
      have hr := rd32_10 lsp32 gam n bs e m fs false
      simp only [cond_false, cond_true, hd] at hr
      refine ⟨_, _, _, hr, ?_⟩
      clear hr
      simp only [sp32L, all32, fu, h0, cond_false, parts32, List.append_nil, pickE]
theorem loops32 (gam : Gam) : ∀ c, Try.f32.body = some c → LoopsOK (cfg Try.prog tab 100000 gam lsp32 32 ([] : List Blk).length Try.f32.ntmps) c := loops_one (i := 10) (by kernel_rfl) (lok32 gam)

/-- What the document's loop makes. -/
def rows33 (n m : Int) : Nat → Int → Int → List UInt8 → List (List AV)
  | 0, _, _, _ => []
  | k + 1, t, g, s => bif Nat.blt m.toNat s.length then [.int .u8 t, .int .u8 g, .int .i64 n, .str (s.take m.toNat), .int .i64 0, .int .i64 0, .bool false, .int .u8 0, .int .u32 0, .int .i64 0, .int .i64 0, .nil] :: rows33 n m k 9 0 (s.drop m.toNat) else []
def last33 (m : Int) : Nat → List UInt8 → List UInt8
  | 0, s => s
  | k + 1, s => bif Nat.blt m.toNat s.length then last33 m k (s.drop m.toNat) else s
theorem rows33_fuel {n m : Int} (hm : 1 ≤ m) : ∀ (k k' : Nat) (t g : Int) (s : List UInt8), s.length ≤ k → s.length ≤ k' → rows33 n m k t g s = rows33 n m k' t g s ∧ last33 m k s = last33 m k' s := by
  intro k
  induction k with
  | zero =>
    intro k' t g s h1 h2
    have : s.length = 0 := by omega
    have hb : Nat.blt m.toNat s.length = false := by rw [this]; rfl
    cases k' with
    | zero => exact ⟨rfl, rfl⟩
    | succ k' => simp only [rows33, last33, hb]; exact ⟨rfl, rfl⟩
  | succ k ih =>
    intro k' t g s h1 h2
    cases k' with
    | zero =>
      have : s.length = 0 := by omega
      have hb : Nat.blt m.toNat s.length = false := by rw [this]; rfl
      simp only [rows33, last33, hb]; exact ⟨rfl, rfl⟩
    | succ k' =>
      simp only [rows33, last33]
      cases hb : Nat.blt m.toNat s.length with
      | false => exact ⟨rfl, rfl⟩
      | true =>
        have hlt : m.toNat + 1 ≤ s.length := by simpa [Nat.blt] using hb
        obtain ⟨e1, e2⟩ := ih k' 9 0 (s.drop m.toNat) (by rw [List.length_drop]; omega) (by rw [List.length_drop]; omega)
        simp only [cond_true, e1, e2, and_self]
noncomputable def VT33 (a : Int × Int × Int × Int × Int × List UInt8 × List (List AV)) : List AV := [.int .i64 a.1, .int .i64 a.2.2.1, .hp 2 0, .rf 3 fK, .str a.2.2.2.2.2.1]
noncomputable def VC33 (a : Int × Int × Int × Int × Int × List UInt8 × List (List AV)) : List Blk := [.dead, .var [.int .u8 a.2.2.2.1, .int .u8 a.2.2.2.2.1, .int .i64 a.2.1, .str [], .int .i64 0, .int .i64 0, .bool false, .int .u8 0, .int .u32 0, .int .i64 0, .int .i64 0, .nil], .row fK a.2.2.2.2.2.2]
noncomputable def dec33 : List AV → List Blk → Option (Int × Int × Int × Int × Int × List UInt8 × List (List AV))
  | [.int .i64 n, .int .i64 m, .hp 2 0, .rf 3 [.int .u8, .int .u8, .int .i64, .str, .int .i64, .int .i64, .bool, .int .u8, .int .u32, .int .i64, .int .i64, .sl [.int .u16, .int .u32]], .str s], [.dead, .var [.int .u8 t, .int .u8 g, .int .i64 n', .str [], .int .i64 0, .int .i64 0, .bool false, .int .u8 0, .int .u32 0, .int .i64 0, .int .i64 0, .nil], .row [.int .u8, .int .u8, .int .i64, .str, .int .i64, .int .i64, .bool, .int .u8, .int .u32, .int .i64, .int .i64, .sl [.int .u16, .int .u32]] fs] => some (n, n', m, t, g, s, fs)
  | _, _ => none
noncomputable def sp33L (a : Int × Int × Int × Int × Int × List UInt8 × List (List AV)) : Bool × List (Bool × Ex × List AV × List Blk) × Ex × List AV × List Blk :=
  (decide (a.2.1 = a.1) && (decide (1 ≤ a.2.2.1) && Nat.ble ((a.2.2.2.2.2.2.length + a.2.2.2.2.2.1.length) * 96) 140737488355328), [], .exit 1, [.hp 2 0, .rf 3 fK, .str (last33 a.2.2.1 a.2.2.2.2.2.1.length a.2.2.2.2.2.1)],
    [.var [.int .u8 (bif Nat.blt a.2.2.1.toNat a.2.2.2.2.2.1.length then 9 else a.2.2.2.1), .int .u8 (bif Nat.blt a.2.2.1.toNat a.2.2.2.2.2.1.length then 0 else a.2.2.2.2.1), .int .i64 a.1, .str [], .int .i64 0, .int .i64 0, .bool false, .int .u8 0, .int .u32 0, .int .i64 0, .int .i64 0, .nil], .row fK (a.2.2.2.2.2.2 ++ rows33 a.1 a.2.2.1 a.2.2.2.2.2.1.length a.2.2.2.1 a.2.2.2.2.1 a.2.2.2.2.2.1)])
noncomputable def lsp33 : Lsp := fun i s => match Nat.beq i 10 with
  | true => lspOf [0, 3, 10, 11, 12] [1, 2, 3] [10, 11, 12] [2, 3] Try.f33.ntmps (0 + tab.nid 33) dec33 sp33L s
  | false => none
theorem lok33 (gam : Gam) : LoopOK1 (cfg Try.prog tab 100000 gam lsp33 33 0 Try.f33.ntmps) (loopAt Try.f33 10) := by
  refine LoopOK1.of (i := 10) (by kernel_rfl) [0, 3, 10, 11, 12] [1, 2, 3] [10, 11, 12] [2, 3] VT33 VC33 dec33 sp33L (fun a => a.2.2.2.2.2.1.length) (fun s => rfl) (fun vt vc a h => ?_) (fun a ha => ?_)
  · unfold dec33 at h
    split at h
    · injection h with h
      subst h
      exact ⟨rfl, rfl⟩
    · cases h
  · obtain ⟨n, n', m, t, g, s, fs⟩ := a
    have ha' := ha
    simp only [sp33L, Bool.and_eq_true, decide_eq_true_eq] at ha'
    obtain ⟨rfl, hm, hroom⟩ := ha'
    have hroom := Nat.le_of_ble_eq_true hroom
    cases hb : Nat.blt m.toNat s.length with
    | true =>
      have hlt : m.toNat + 1 ≤ s.length := by simpa [Nat.blt] using hb
      have d1 : decide ((s.length : Int) > m) = true := by rw [decide_eq_true_eq]; omega
      have b1 : bnd (0 : Int) m (s.length : Int) = true := by unfold bnd; simp; omega
      have b3 : bnd m (s.length : Int) (s.length : Int) = true := by unfold bnd; simp; omega
      have b5 : decide ((fs.length + 1) * 96 ≤ 140737488355328) = true := by rw [decide_eq_true_eq]; omega
      have b6 : decide (fs.length + 1 ≤ 9223372036854775807) = true := by rw [decide_eq_true_eq]; omega
      have hl : (s.drop m.toNat).length < s.length := by rw [List.length_drop]; omega
      have hf := rows33_fuel (n := n') hm (s.length - 1) (s.drop m.toNat).length 9 0 (s.drop m.toNat) (by omega) (Nat.le_refl _)
      obtain ⟨k, hk⟩ := Nat.exists_eq_succ_of_ne_zero (show s.length ≠ 0 by omega)
      have hk1 : s.length - 1 = k := by omega
      rw [hk1] at hf
      have hrows : rows33 n' m s.length t g s = [.int .u8 t, .int .u8 g, .int .i64 n', .str (s.take m.toNat), .int .i64 0, .int .i64 0, .bool false, .int .u8 0, .int .u32 0, .int .i64 0, .int .i64 0, .nil] :: rows33 n' m (s.drop m.toNat).length 9 0 (s.drop m.toNat) := by
        rw [hk, ← hf.1]
        simp only [rows33, hk]
        rw [← hk, hb]
        rfl
      have hlast : last33 m s.length s = last33 m (s.drop m.toNat).length (s.drop m.toNat) := by
        rw [hk, ← hf.2]
        simp only [last33, hk]
        rw [← hk, hb]
        rfl
      have key : roundV (cfg Try.prog tab 100000 gam lsp33 33 0 Try.f33.ntmps) (loopAt Try.f33 10) [0, 3, 10, 11, 12] [1, 2, 3] [10, 11, 12] [2, 3] (VT33 (n', n', m, t, g, s, fs)) (VC33 (n', n', m, t, g, s, fs)) =
          some (.norm, VT33 (n', n', m, 9, 0, s.drop m.toNat, fs ++ [[.int .u8 t, .int .u8 g, .int .i64 n', .str (s.take m.toNat), .int .i64 0, .int .i64 0, .bool false, .int .u8 0, .int .u32 0, .int .i64 0, .int .i64 0, .nil]]), VC33 (n', n', m, 9, 0, s.drop m.toNat, fs ++ [[.int .u8 t, .int .u8 g, .int .i64 n', .str (s.take m.toNat), .int .i64 0, .int .i64 0, .bool false, .int .u8 0, .int .u32 0, .int .i64 0, .int .i64 0, .nil]])) := by
        have hr := rd33_10 lsp33 gam n' m t g [] s fs
        rw [d1, b1, b5, b6, b3] at hr
        simp only [cond_true] at hr
        exact hr
      refine ⟨_, _, _, key, (n', n', m, 9, 0, s.drop m.toNat, fs ++ [[.int .u8 t, .int .u8 g, .int .i64 n', .str (s.take m.toNat), .int .i64 0, .int .i64 0, .bool false, .int .u8 0, .int .u32 0, .int .i64 0, .int .i64 0, .nil]]), rfl, rfl, ?_, ?_, hl⟩
      · clear key hrows hlast hf
        simp only [sp33L, Bool.and_eq_true, decide_eq_true_eq]
        exact ⟨trivial, hm, Nat.ble_eq_true_of_le (by rw [List.length_append, List.length_singleton]; omega)⟩
      clear key
      simp only [sp33L, hrows, hlast, hb, cond_true, Bool.cond_self, List.append_assoc, List.singleton_append]
    | false =>
      have hge : ¬ (m.toNat + 1 ≤ s.length) := fun h => by
        have : Nat.blt m.toNat s.length = true := by simpa [Nat.blt] using h
        rw [hb] at this; cases this
      have d1 : decide ((s.length : Int) > m) = false := by rw [decide_eq_false_iff_not]; omega
      have hrows : rows33 n' m s.length t g s = [] ∧ last33 m s.length s = s := by
        cases hl : s.length with
        | zero => exact ⟨rfl, rfl⟩
        | succ k => simp only [rows33, last33, hb, cond_false]; exact ⟨trivial, trivial⟩
      have hr := rd33_10 lsp33 gam n' m t g [] s fs
      rw [d1] at hr
      refine ⟨_, _, _, hr, ?_⟩
      clear hr
      simp only [sp33L, hrows.1, hrows.2, hb, cond_false, List.append_nil, pickE]
theorem loops33 (gam : Gam) : ∀ c, Try.f33.body = some c → LoopsOK (cfg Try.prog tab 100000 gam lsp33 33 ([] : List Blk).length Try.f33.ntmps) c := loops_one (i := 10) (by kernel_rfl) (lok33 gam)
/-- Is there a pair that is another one? -/
def missP : List (List AV) → List (List AV) → Bool
  | [], _ => false
  | _ :: _, [] => true
  | e :: l, f :: m => !(intOf (e.getD 0 .junk) == intOf (f.getD 0 .junk) && (intOf (e.getD 1 .junk) == intOf (f.getD 1 .junk) && true)) || missP l m
noncomputable def VT44 (a : List (List AV) × List (List AV) × Nat) : List AV := [.sl .imm [.int .u16, .int .u32] a.1, .sl .imm [.int .u16, .int .u32] a.2.1, .int .i64 (.ofNat a.2.2)]
noncomputable def VC44 (a : List (List AV) × List (List AV) × Nat) : List Blk := []
noncomputable def dec44 : List AV → List Blk → Option (List (List AV) × List (List AV) × Nat)
  | [.sl .imm [.int .u16, .int .u32] ps, .sl .imm [.int .u16, .int .u32] qs, .int .i64 (.ofNat i)], [] => some (ps, qs, i)
  | _, _ => none
noncomputable def sp44L (a : List (List AV) × List (List AV) × Nat) : Bool × List (Bool × Ex × List AV × List Blk) × Ex × List AV × List Blk :=
  (Nat.ble a.1.length 9223372036854775807 && decide (a.1.length = a.2.1.length), [(missP (a.1.drop a.2.2) (a.2.1.drop a.2.2), .ret, [.bool false], [])], .exit 0, [.junk], [])
noncomputable def lsp44 : Lsp := fun i s => match Nat.beq i 4 with
  | true => lspOf [0, 1, 5] [] [4] [] Try.f44.ntmps (0 + tab.nid 44) dec44 sp44L s
  | false => none
theorem lok44 (gam : Gam) : LoopOK1 (cfg Try.prog tab 100000 gam lsp44 44 0 Try.f44.ntmps) (loopAt Try.f44 4) := by
  refine LoopOK1.of (i := 4) (by kernel_rfl) [0, 1, 5] [] [4] [] VT44 VC44 dec44 sp44L (fun a => a.1.length - a.2.2) (fun s => rfl) (fun vt vc a h => ?_) (fun a ha => ?_)
  · unfold dec44 at h
    split at h
    · injection h with h
      subst h
      exact ⟨rfl, rfl⟩
    · cases h
  · obtain ⟨es, es2, i⟩ := a
    have hl : Nat.ble es.length 9223372036854775807 = true ∧ es.length = es2.length := by simpa only [sp44L, decide_eq_true_eq, Bool.and_eq_true] using ha
    have hl1 := Nat.le_of_ble_eq_true hl.1
    have hr := rd44_4 lsp44 gam es es2 i
    by_cases hi : i < es.length
    · have hi2 : i < es2.length := by omega
      rw [lt_dec hi, lt_dec hi2, nn_dec, Int.toNat_natCast, wrapN i es.length hi hl1, Bool.and_self, cond_true, cond_true, cond_true] at hr
      have hd := drop_step (α := List AV) [] hi
      have hd2 := drop_step (α := List AV) [] hi2
      cases hc : (intOf ((es.getD i []).getD 0 .junk) == intOf ((es2.getD i []).getD 0 .junk) && (intOf ((es.getD i []).getD (0 + 1) .junk) == intOf ((es2.getD i []).getD (0 + 1) .junk) && true)) with
      | false =>
        rw [hc, Bool.not_false, cond_true] at hr
        refine ⟨_, _, _, hr, ?_⟩
        simp only [Nat.zero_add] at hc
        simp only [sp44L, hd, hd2, missP, hc, Bool.not_false, Bool.true_or, pickE, cond_true]
      | true =>
        rw [hc, Bool.not_true, cond_false] at hr
        refine ⟨_, _, _, hr, (es, es2, i + 1), rfl, rfl, ha, ?_, by simp only; omega⟩
        simp only [Nat.zero_add] at hc
        simp only [sp44L, hd, hd2, missP, hc, Bool.not_true, Bool.false_or]
    · rw [ge_dec hi, cond_false] at hr
      refine ⟨_, _, _, hr, ?_⟩
      simp only [sp44L, List.drop_eq_nil_of_le (Nat.le_of_not_lt hi), missP, pickE, cond_false]
theorem loops44 (gam : Gam) : ∀ c, Try.f44.body = some c → LoopsOK (cfg Try.prog tab 100000 gam lsp44 44 ([] : List Blk).length Try.f44.ntmps) c := loops_one (i := 4) (by kernel_rfl) (lok44 gam)
end Go.Proofs.Gv
