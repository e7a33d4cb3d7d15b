/-
The plain law of BlockBack: what was parted is put together as it was.
-/
import Derived.Test.YtndephedgodneaaGaBb10
import Derived.Test.YtndephedgodneaaGpPar
import Derived.Test.YtndephedgodneaaGwG
import Derived.Test.YtndephedgodneaaGwA
namespace Go.Proofs.Gv
open Go.Proofs
set_option linter.unusedVariables false
theorem emp_eq : ((ByteArray.mk #[]).data.toList : List UInt8) = [] := rfl
/-- The frames that parts are. -/
def okTG (t g : Int) : Prop := (t = 1 ∧ (g = 5 ∨ g = 4 ∨ g = 1 ∨ g = 0)) ∨ (t = 9 ∧ (g = 4 ∨ g = 0))
section
variable {t g id : Int} {da : List UInt8}
theorem tg64 (h : okTG t g) : vev64_0 t g id da 0 0 false 0 0 0 0 [] = false := by
  rcases h with ⟨rfl, rfl | rfl | rfl | rfl⟩ | ⟨rfl, rfl | rfl⟩ <;> kernel_rfl
theorem tg65 (h : okTG t g) : vev65_0 t g id da 0 0 false 0 0 0 0 [] = false := by
  rcases h with ⟨rfl, rfl | rfl | rfl | rfl⟩ | ⟨rfl, rfl | rfl⟩ <;> kernel_rfl
theorem tg50 (h : okTG t g) : vev50_0 t g id da 0 0 false 0 0 0 0 [] = false := by
  rcases h with ⟨rfl, rfl | rfl | rfl | rfl⟩ | ⟨rfl, rfl | rfl⟩ <;> kernel_rfl
theorem tgT (h : okTG t g) : (t == 7) = false ∧ (t == 3) = false ∧ (t == 8) = false ∧ (t == 4) = false := by
  rcases h with ⟨rfl, _⟩ | ⟨rfl, _⟩ <;> exact ⟨rfl, rfl, rfl, rfl⟩
theorem tg45 (h : okTG t g) : vev45_0 t g id da 0 0 false 0 0 0 0 [] = da.map ofB := by
  obtain ⟨h1, h2, h3, h4⟩ := tgT h
  unfold vev45_0
  rw [tg64 h, tg65 h, h1, h2, h3, h4]
  unfold rev45_9 rev45_8
  simp
theorem in_ok (h : 1 ≤ id ∧ id ≤ 2147483647) : vev49_0 id = true := by
  unfold vev49_0
  rw [decide_eq_true (show id ≥ 0 by omega), decide_eq_true h.2]
  rfl
theorem in_0 : vev49_0 0 = true := rfl
theorem ck19 (h : okTG t g) (hi : 1 ≤ id ∧ id ≤ 2147483647) (hd : da.length ≤ 300) : vev19_0 t g id da 0 0 false 0 0 0 0 [] = 0 ∧ vev19_1 t g id da 0 0 false 0 0 0 0 [] = true := by
  refine ⟨?_, ?_⟩
  · unfold vev19_0 rev19_0
    rw [in_ok hi, in_0, tg50 h, tg45 h, List.length_map, decide_eq_false (show ¬ ((da.length : Int) > 16384) by omega)]
    rfl
  · unfold vev19_1
    rw [in_ok hi, in_0, tg50 h]
    have h45 : vev45_1 t g id da 0 0 false 0 0 0 0 [] = true := by
      obtain ⟨h1, h2, h3, h4⟩ := tgT h
      unfold vev45_1
      rw [tg64 h, tg65 h, h1, h2, h3, h4]
      unfold rev45_8
      simp
      omega
    rw [h45]
    rfl
theorem c28_0 : vev28_0 0 [] false = 0 := rfl
theorem c28 {d : List UInt8} {e : Bool} (hi : 1 ≤ id ∧ id ≤ 2147483647) (hd : d.length ≤ 4096) : vev28_0 id d e = 0 := by
  unfold vev28_0
  have h1 : (id != 0) = true := by simp; omega
  rw [decide_eq_false (show ¬ id < 0 by omega), decide_eq_false (show ¬ id > 2147483647 by omega), h1, decide_eq_false (show ¬ ((d.length : Int) > 4096) by omega)]
  rfl
theorem n1 (hi : 1 ≤ id ∧ id ≤ 2147483647) : decide (id < 1) = false ∧ decide (id > 2147483647) = false ∧ (id != 0) = true ∧ (id == id) = true :=
  ⟨decide_eq_false (by omega), decide_eq_false (by omega), by simp; omega, by simp⟩
theorem ne_00 : ((0 : Int) != 0) = false := rfl
/-- A state that is open, or not. -/
theorem no26 (hi : 1 ≤ id ∧ id ≤ 2147483647) : vev26n_6 0 [] false 0 0 id [] 0 0 false 0 0 0 0 = false ∧ vev26n_7 0 [] false 0 0 id [] 0 0 false 0 0 0 0 = 0 ∧ vev26n_8 0 [] false 0 0 id [] 0 0 false 0 0 0 0 = true := ⟨rfl, rfl, rfl⟩
theorem no26c {d : List UInt8} {e : Bool} (hi : 1 ≤ id ∧ id ≤ 2147483647) (hd : d.length ≤ 4096) : vev26n_6 id d e 0 0 id [] 0 0 false 0 0 0 0 = false ∧ vev26n_7 id d e 0 0 id [] 0 0 false 0 0 0 0 = 1 ∧ vev26n_8 id d e 0 0 id [] 0 0 false 0 0 0 0 = true := by
  have h54 : vev54n_1 id d e 0 0 id [] 0 0 false 0 0 0 0 = false := by
    unfold vev54n_1 vev30_0
    rw [(n1 hi).2.2.1]
    rfl
  unfold vev26n_6 vev26n_7 vev26n_8
  rw [c28 hi hd, h54]
  exact ⟨rfl, rfl, rfl⟩
/-- The first part. -/
theorem on_first (hi : 1 ≤ id ∧ id ≤ 2147483647) (hd : da.length ≤ 300) (g : Int) : vev28_0 0 [] false = 0 ∧ vev54_1 0 [] false 1 g id da 0 0 false 0 0 0 0 [] = true ∧ vev54_0 0 [] false 1 g id da 0 0 false 0 0 0 0 [] = true := by
  obtain ⟨a1, a2, a3, a4⟩ := n1 hi
  unfold vev54_0 vev54_1
  rw [a1, a2]
  exact ⟨rfl, rfl, rfl⟩
theorem on_next {d : List UInt8} {e : Bool} (hi : 1 ≤ id ∧ id ≤ 2147483647) (hd : d.length ≤ 4096) (g : Int) : vev28_0 id d e = 0 ∧ vev54_1 id d e 9 g id da 0 0 false 0 0 0 0 [] = true ∧ vev54_0 id d e 9 g id da 0 0 false 0 0 0 0 [] = true := by
  obtain ⟨a1, a2, a3, a4⟩ := n1 hi
  unfold vev54_0 vev54_1
  rw [a1, a2, a3, a4]
  exact ⟨c28 hi hd, rfl, rfl⟩
theorem b54 : (bits BinOp.and IntKind.u8 5 4 != (0 : Int)) = true ∧ (bits BinOp.and IntKind.u8 4 4 != (0 : Int)) = true ∧ (bits BinOp.and IntKind.u8 1 4 != (0 : Int)) = false ∧ (bits BinOp.and IntKind.u8 0 4 != (0 : Int)) = false ∧
    (bits BinOp.and IntKind.u8 5 1 != (0 : Int)) = true ∧ (bits BinOp.and IntKind.u8 4 1 != (0 : Int)) = false ∧ (bits BinOp.and IntKind.u8 1 1 != (0 : Int)) = true ∧ (bits BinOp.and IntKind.u8 0 1 != (0 : Int)) = false := by
  refine ⟨?_, ?_, ?_, ?_, ?_, ?_, ?_, ?_⟩ <;> kernel_rfl
/-- A part's flags. -/
def gOf (first e last : Bool) : Int := bif last then (bif first && e then 5 else 4) else (bif first && e then 1 else 0)
def tOf (first : Bool) : Int := bif first then 1 else 9
theorem gOf_ok (first e last : Bool) : okTG (tOf first) (gOf first e last) := by
  cases first <;> cases e <;> cases last <;> simp [tOf, gOf, okTG]
/-- The state ahead of a part. -/
def stOf (first : Bool) (id : Int) (d : List UInt8) (e : Bool) : Int × List UInt8 × Bool := bif first then (0, [], false) else (id, d, e)
theorem on_part (hi : 1 ≤ id ∧ id ≤ 2147483647) (first e last : Bool) {d : List UInt8} (hf : first = true → d = []) (hd : d.length ≤ 1000) (hda : da.length ≤ 300) {s : Int} {d' : List UInt8} {e' : Bool} (hs : stOf first id d e = (s, d', e')) :
    vev26_0 s d' e' (tOf first) (gOf first e last) id da 0 0 false 0 0 0 0 [] = (bif last then 0 else id) ∧ vev26_1 s d' e' (tOf first) (gOf first e last) id da 0 0 false 0 0 0 0 [] = (bif last then [] else d ++ da) ∧ vev26_2 s d' e' (tOf first) (gOf first e last) id da 0 0 false 0 0 0 0 [] = (bif last then false else e) ∧
      vev26_3 s d' e' (tOf first) (gOf first e last) id da 0 0 false 0 0 0 0 [] = (bif last then id else 0) ∧ vev26_4 s d' e' (tOf first) (gOf first e last) id da 0 0 false 0 0 0 0 [] = (bif last then d ++ da else []) ∧ vev26_5 s d' e' (tOf first) (gOf first e last) id da 0 0 false 0 0 0 0 [] = (bif last then e else false) ∧
      vev26_6 s d' e' (tOf first) (gOf first e last) id da 0 0 false 0 0 0 0 [] = last ∧ vev26_7 s d' e' (tOf first) (gOf first e last) id da 0 0 false 0 0 0 0 [] = 0 ∧ vev26_8 s d' e' (tOf first) (gOf first e last) id da 0 0 false 0 0 0 0 [] = true ∧
      vev26n_6 s d' e' 0 0 id [] 0 0 false 0 0 0 0 = false ∧ vev26n_7 s d' e' 0 0 id [] 0 0 false 0 0 0 0 = (bif first then 0 else 1) ∧ vev26n_8 s d' e' 0 0 id [] 0 0 false 0 0 0 0 = true := by
  obtain ⟨b1, b2, b3, b4, b5, b6, b7, b8⟩ := b54
  cases first with
  | true =>
    have hd0 := hf rfl
    subst hd0
    injection hs with h1 hs
    injection hs with h2 h3
    subst h1 h2 h3
    obtain ⟨o1, o2, o3⟩ := on_first (da := da) hi hda (gOf true e last)
    obtain ⟨p1, p2, p3⟩ := no26 hi
    have hl : decide ((([] ++ da : List UInt8).length : Int) > 4096) = false := decide_eq_false (by simp; omega)
    have hl2 : decide (([] : List UInt8).length + da.length ≤ 9223372036854775807) = true := decide_eq_true (by simp; omega)
    have e1 : tOf true = 1 := rfl
    unfold vev26_0 vev26_1 vev26_2 vev26_3 vev26_4 vev26_5 vev26_6 vev26_7 vev26_8
    rw [e1, o1, o2, o3, hl, hl2, p1, p2, p3, emp_eq]
    have t1 : ((1 : Int) == 1) = true := rfl
    rw [t1, ne_00]
    simp only [cond_true, cond_false, Bool.not_true]
    cases e <;> cases last <;> simp only [gOf, Bool.and_true, Bool.and_false, cond_true, cond_false, b1, b2, b3, b4, b5, b6, b7, b8] <;> simp
  | false =>
    injection hs with h1 hs
    injection hs with h2 h3
    subst h1 h2 h3
    obtain ⟨o1, o2, o3⟩ := on_next (da := da) (d := d) (e := e) hi (by omega) (gOf false e last)
    obtain ⟨p1, p2, p3⟩ := no26c (d := d) (e := e) hi (by omega)
    have hl : decide (((d ++ da : List UInt8).length : Int) > 4096) = false := decide_eq_false (by rw [List.length_append]; omega)
    have hl2 : decide (d.length + da.length ≤ 9223372036854775807) = true := decide_eq_true (by omega)
    have e1 : tOf false = 9 := rfl
    unfold vev26_0 vev26_1 vev26_2 vev26_3 vev26_4 vev26_5 vev26_6 vev26_7 vev26_8
    rw [e1, o1, o2, o3, hl, hl2, p1, p2, p3, emp_eq]
    have t1 : ((9 : Int) == 1) = false := rfl
    rw [t1, ne_00]
    simp only [cond_true, cond_false, Bool.not_true]
    cases e <;> cases last <;> simp only [gOf, Bool.false_and, cond_true, cond_false, b1, b2, b3, b4, b5, b6, b7, b8] <;> simp
end
theorem frame_eq (id m : Int) (e : Bool) (bs : List (List AV)) (first : Bool) : frame32 id m e bs first = [.int .u8 (tOf first), .int .u8 (gOf first e (Nat.ble bs.length (hN m bs.length))), .int .i64 id, .str ((bs.take (hN m bs.length)).map byteOf), .int .i64 0, .int .i64 0, .bool false, .int .u8 0, .int .u32 0, .int .i64 0, .int .i64 0, .nil] := rfl
section
variable {id m : Int} {e : Bool} {bs F : List (List AV)}
theorem step10 (hi : 1 ≤ id ∧ id ≤ 2147483647) (hm : 1 ≤ m ∧ m ≤ 256) (hB : bs.all isB = true) (hbs : bs.length ≤ 200) (hF : F.length ≤ 1000) {i : Nat} {rest : List (List AV)} {first : Bool} {d : List UInt8} (hfi : (i : Int) > 0 ↔ first = false) (hf : first = true → d = []) (hd : d ++ rest.map byteOf = bs.map byteOf)
    (hlt : i < F.length) (hrow : F.getD i [] = frame32 id m e rest first) (hlast : Nat.ble rest.length (hN m rest.length) = (((i : Int)) == (F.length : Int) - 1)) {s : Int} {d' : List UInt8} {e' : Bool} (hs : stOf first id d e = (s, d', e')) :
    go10_10 bs id m e F (i : Int) s d' e' = true ∧
      (nx10_10_6 bs id m e F (i : Int) s d' e', nx10_10_7 bs id m e F (i : Int) s d' e', nx10_10_8 bs id m e F (i : Int) s d' e') = (bif Nat.ble rest.length (hN m rest.length) then ((0 : Int), [], false) else (id, d ++ (rest.take (hN m rest.length)).map byteOf, e)) := by
  have hlen : d.length + rest.length = bs.length := by
    have := congrArg List.length hd
    simpa using this
  have hh : hN m rest.length ≤ m.toNat ∧ hN m rest.length ≤ rest.length := by unfold hN; exact ⟨Nat.min_le_left _ _, Nat.min_le_right _ _⟩
  generalize hda : (rest.take (hN m rest.length)).map byteOf = da at *
  have hdal : da.length = hN m rest.length := by rw [← hda]; simp; omega
  generalize hla : Nat.ble rest.length (hN m rest.length) = last at *
  obtain ⟨q0, q1, q2, q3, q4, q5, q6, q7, q8, p6, p7, p8⟩ := on_part (da := da) hi first e last hf (by omega) (by omega) hs
  obtain ⟨c1, c2⟩ := ck19 (id := id) (da := da) (gOf_ok first e last) hi (by omega)
  have hall : last = true → d ++ da = bs.map byteOf := by
    intro hl
    subst hl
    have : rest.length ≤ hN m rest.length := Nat.le_of_ble_eq_true hla
    rw [← hd, ← hda, List.take_of_length_le this]
  have r (j : Nat) : F.getD ((i : Int)).toNat [] = frame32 id m e rest first := by rw [Int.toNat_natCast]; exact hrow
  have f0 : rn10_10_0 bs id m e F (i : Int) s d' e' = tOf first := by unfold rn10_10_0; rw [r 0, frame_eq]; rfl
  have f1 : rn10_10_1 bs id m e F (i : Int) s d' e' = gOf first e last := by unfold rn10_10_1; rw [r 0, frame_eq, hla]; rfl
  have f2 : rn10_10_2 bs id m e F (i : Int) s d' e' = id := by unfold rn10_10_2; rw [r 0, frame_eq]; rfl
  have f3 : rn10_10_3 bs id m e F (i : Int) s d' e' = da := by unfold rn10_10_3; rw [r 0, frame_eq, hda]; rfl
  have f4 : rn10_10_4 bs id m e F (i : Int) s d' e' = 0 := by unfold rn10_10_4; rw [r 0, frame_eq]; rfl
  have f5 : rn10_10_5 bs id m e F (i : Int) s d' e' = 0 := by unfold rn10_10_5; rw [r 0, frame_eq]; rfl
  have f6 : rn10_10_6 bs id m e F (i : Int) s d' e' = 0 := by unfold rn10_10_6; rw [r 0, frame_eq]; rfl
  have f7 : rn10_10_7 bs id m e F (i : Int) s d' e' = 0 := by unfold rn10_10_7; rw [r 0, frame_eq]; rfl
  have f8 : rn10_10_8 bs id m e F (i : Int) s d' e' = 0 := by unfold rn10_10_8; rw [r 0, frame_eq]; rfl
  have f9 : rn10_10_9 bs id m e F (i : Int) s d' e' = 0 := by unfold rn10_10_9; rw [r 0, frame_eq]; rfl
  have f10 : rn10_10_10 bs id m e F (i : Int) s d' e' = [] := by unfold rn10_10_10; rw [r 0, frame_eq]; rfl
  have f11 : rn10_10_11 bs id m e F (i : Int) s d' e' = (da.length : Int) := by unfold rn10_10_11; rw [f3]
  have fB : boolOf ((F.getD ((i : Int)).toNat []).getD (0 + 1 + 1 + 1 + 1 + 1 + 1) AV.junk) = false := by rw [r 0, frame_eq]; rfl
  refine ⟨?_, ?_⟩
  · unfold go10_10
    rw [f0, f1, f2, f3, f4, f5, f6, f7, f8, f9, f10, f11, fB, c1, c2, q3, q4, q5, q6, q7, q8, emp_eq, p6, p7, p8, hB, decide_eq_true (show (i : Int) < (F.length : Int) by omega), decide_eq_true (show (0 : Int) ≤ (i : Int) by omega), decide_eq_false (show ¬ ((da.length : Int) > m) by omega), IntKind.wrap_i64, show ((F.length : Int) - 1 + 9223372036854775808) % 18446744073709551616 - 9223372036854775808 = (F.length : Int) - 1 by omega, ← hlast]
    have hi0 : decide ((i : Int) > 0) = !first := by
      cases first with
      | true => exact decide_eq_false fun h => by have := hfi.1 h; cases this
      | false => exact decide_eq_true (hfi.2 rfl)
    rw [hi0, ne_00]
    cases last with
    | true =>
      rw [hall rfl]
      cases first <;> simp
    | false => cases first <;> simp
  · unfold nx10_10_6 nx10_10_7 nx10_10_8
    rw [f0, f1, f2, f3, f4, f5, f6, f7, f8, f9, f10, fB, q0, q1, q2]
    cases last <;> rfl
theorem end10 {i : Int} {s : Int} {d : List UInt8} {e' : Bool} (h : i = (F.length : Int)) : go10_10 bs id m e F i s d e' = false ∧ xc10_10_0 bs id m e F i s d e' = false ∧ xc10_10_1 bs id m e F i s d e' = true := by
  unfold go10_10 xc10_10_0 xc10_10_1
  rw [decide_eq_false (by omega)]
  exact ⟨rfl, rfl, rfl⟩
theorem all_len {bs : List (List AV)} {m : Int} (hm : 1 ≤ m) (h : Nat.ble bs.length (hN m bs.length) = true) {first : Bool} (hgo : (first || Nat.blt 0 bs.length) = true) : all32 id m e bs first = [frame32 id m e bs first] := by
  rw [all32_step hm hgo]
  have h1 := Nat.le_of_ble_eq_true h
  have : bs.drop (hN m bs.length) = [] := List.drop_of_length_le h1
  rw [this]
  rfl
theorem ends10 (hi : 1 ≤ id ∧ id ≤ 2147483647) (hm : 1 ≤ m ∧ m ≤ 256) (hB : bs.all isB = true) (hbs : bs.length ≤ 200) (hF : F.length ≤ 1000) :
    ∀ (n : Nat) (rest : List (List AV)) (first : Bool) (d : List UInt8) (pre : List (List AV)), fu rest first ≤ n → F = pre ++ all32 id m e rest first → (first || Nat.blt 0 rest.length) = true → ((pre.length : Int) > 0 ↔ first = false) → (first = true → d = []) → d ++ rest.map byteOf = bs.map byteOf →
      Ends (g10_10 (bs, id, m, e, F)) (n10_10 (bs, id, m, e, F)) ((pre.length : Int), stOf first id d e) ((F.length : Int), (0 : Int), [], false) := by
  intro n
  induction n with
  | zero =>
    intro rest first d pre hn _ hgo
    exfalso
    unfold fu at hn
    cases first with
    | true => simp at hn
    | false =>
      simp at hn
      simp [hn] at hgo
  | succ n ih =>
    intro rest first d pre hn hFe hgo hfi hf hd
    have hst := all32_step (n := id) (e := e) hm.1 hgo
    have hrow : F.getD pre.length [] = frame32 id m e rest first := by
      rw [hFe, hst]
      simp [List.getD]
    have hlt : pre.length < F.length := by
      rw [hFe, hst]
      simp
    have hlast : Nat.ble rest.length (hN m rest.length) = (((pre.length : Nat) : Int) == (F.length : Int) - 1) := by
      cases hb : Nat.ble rest.length (hN m rest.length) with
      | true =>
        have hl := congrArg List.length hFe
        rw [all_len hm.1 hb hgo, List.length_append, List.length_singleton] at hl
        symm
        simp
        omega
      | false =>
        have hlt2 : hN m rest.length < rest.length := by
          apply Classical.byContradiction
          intro hc
          rw [Nat.ble_eq_true_of_le (by omega)] at hb
          cases hb
        have hgo2 : (false || Nat.blt 0 (rest.drop (hN m rest.length)).length) = true := by
          rw [List.length_drop]
          simp [Nat.blt]
          omega
        have hl := congrArg List.length hFe
        rw [hst, all32_step (n := id) (e := e) hm.1 hgo2] at hl
        simp only [List.length_append, List.length_cons] at hl
        symm
        simp
        omega
    obtain ⟨s, d', e', hs⟩ : ∃ s d' e', stOf first id d e = (s, d', e') := ⟨_, _, _, rfl⟩
    obtain ⟨g1, g2⟩ := step10 (F := F) hi hm hB hbs hF hfi hf hd hlt hrow hlast hs
    rw [hs]
    refine Ends.step (by unfold g10_10; exact g1) ?_
    have hnx : n10_10 (bs, id, m, e, F) ((pre.length : Int), s, d', e') = (((pre.length + 1 : Nat) : Int), bif Nat.ble rest.length (hN m rest.length) then ((0 : Int), [], false) else (id, d ++ (rest.take (hN m rest.length)).map byteOf, e)) := by
      rw [← g2]
      unfold n10_10 nx10_10_5
      dsimp only
      rw [wrapN pre.length F.length hlt (by omega)]
    rw [hnx]
    cases hb : Nat.ble rest.length (hN m rest.length) with
    | true =>
      have hl := congrArg List.length hFe
      rw [all_len hm.1 hb hgo, List.length_append, List.length_singleton] at hl
      rw [cond_true, hl]
      refine Ends.stop ?_
      unfold g10_10
      exact (end10 (F := F) (i := ((pre.length + 1 : Nat) : Int)) (by omega)).1
    | false =>
      have hlt2 : hN m rest.length < rest.length := by
        apply Classical.byContradiction
        intro hc
        rw [Nat.ble_eq_true_of_le (by omega)] at hb
        cases hb
      have hgo2 : (false || Nat.blt 0 (rest.drop (hN m rest.length)).length) = true := by
        rw [List.length_drop]
        simp [Nat.blt]
        omega
      have hpos : 1 ≤ hN m rest.length ∨ rest.length = 0 := by
        unfold hN
        rcases Nat.eq_zero_or_pos rest.length with h | h
        · exact .inr h
        · exact .inl (Nat.le_min.2 ⟨by omega, h⟩)
      have := ih (rest.drop (hN m rest.length)) false (d ++ (rest.take (hN m rest.length)).map byteOf) (pre ++ [frame32 id m e rest first]) (by unfold fu at hn ⊢; rw [List.length_drop]; cases first <;> simp at hn ⊢ <;> omega) (by rw [hFe, hst]; simp) hgo2 (by simp) (fun h => by cases h) (by rw [List.append_assoc, ← List.map_append, List.take_append_drop]; exact hd)
      rw [List.length_append, List.length_singleton] at this
      exact this
theorem e10 {n m : Int} (hn : 0 ≤ n ∧ n ≤ 4294967295) (hm : 0 ≤ m ∧ m ≤ 255) (hB : bs.all isB = true) : vev10_0 n m bs = true ∧ vev10_1 n m bs = true := by
  unfold vev10_0 vev10_1
  by_cases hc : ((↑bs.length : Int) > (200 : Int))
  · rw [decide_eq_true hc, cond_true, cond_true]
    exact ⟨by kernel_rfl, rfl⟩
  · rw [decide_eq_false hc, cond_false, cond_false]
    have hid : 1 ≤ rev10_0 n m bs ∧ rev10_0 n m bs ≤ 2147483647 := by
      unfold rev10_0
      rw [Int.tmod_eq_emod_of_nonneg hn.1, IntKind.wrap_i64, IntKind.wrap_i64]
      omega
    have hmo : 1 ≤ rev10_1 n m bs ∧ rev10_1 n m bs ≤ 256 := by
      unfold rev10_1
      rw [IntKind.wrap_i64, IntKind.wrap_i64]
      omega
    generalize hID : rev10_0 n m bs = id at *
    generalize hMO : rev10_1 n m bs = mo at *
    obtain ⟨e, he⟩ : ∃ e, (m.tmod 2 == 0) = e := ⟨_, rfl⟩
    have h0 : vev32_0 id bs e mo = all32 id mo e bs true := by
      unfold vev32_0
      rw [decide_eq_false (show ¬ id < 1 by omega), decide_eq_false (show ¬ id > 2147483647 by omega), decide_eq_false (show ¬ mo < 1 by omega), decide_eq_false (show ¬ mo > 16384 by omega), decide_eq_false (show ¬ ((bs.length : Int) > 4096) by omega)]
      rfl
    have h1 : vev32_1 id bs e mo = 0 := by
      unfold vev32_1
      rw [decide_eq_false (show ¬ id < 1 by omega), decide_eq_false (show ¬ id > 2147483647 by omega), decide_eq_false (show ¬ mo < 1 by omega), decide_eq_false (show ¬ mo > 16384 by omega), decide_eq_false (show ¬ ((bs.length : Int) > 4096) by omega)]
      rfl
    have h2 := v02 (n := id) (m := mo) (bs := bs) (e := e) hB
    have q2 : rev10_2 n m bs = all32 id mo e bs true := by unfold rev10_2; rw [hID, hMO, he, h0]
    have hlF : (all32 id mo e bs true).length ≤ 1000 := by
      have := parts_len (n := id) (m := mo) (e := e) (fu bs true) bs true
      unfold fu at this
      simp only [cond_true] at this
      unfold all32 fu
      simp only [cond_true]
      omega
    have hp : 1 ≤ (all32 id mo e bs true).length := by
      rw [all32_step (n := id) (e := e) hmo.1 (by rfl)]
      simp
    have q3 : rev10_3 n m bs = ((all32 id mo e bs true).length : Int) := by unfold rev10_3; rw [q2]
    have f := (ends10 (F := all32 id mo e bs true) hid hmo hB (by omega) hlF (fu bs true) bs true [] [] (Nat.le_refl _) rfl rfl (by simp) (fun _ => rfl) rfl).fin
    have q4 : rev10_4 n m bs = (((all32 id mo e bs true).length : Int), (0 : Int), [], false) := by
      unfold rev10_4
      rw [hID, hMO, he, q2]
      exact f.2
    have q5 : rev10_5 n m bs = 0 := by unfold rev10_5; rw [q4]
    have q6 : rev10_6 n m bs = [] := by unfold rev10_6; rw [q4]
    have hE := end10 (id := id) (m := mo) (e := e) (bs := bs) (F := all32 id mo e bs true) (i := ((all32 id mo e bs true).length : Int)) (s := 0) (d := []) (e' := false) rfl
    rw [he, h1, h2, q2, q3, q4, q5, q6, hE.2.1, decide_eq_false (show ¬ (((all32 id mo e bs true).length : Int) < 1) by omega), emp_eq]
    refine ⟨rfl, ?_⟩
    simp only [spI]
    have g1 : stopsB (g10_10 (bs, id, mo, e, all32 id mo e bs true)) (n10_10 (bs, id, mo, e, all32 id mo e bs true)) ((0 : Int), (0 : Int), [], false) = true := f.1
    have g2 : finL (g10_10 (bs, id, mo, e, all32 id mo e bs true)) (n10_10 (bs, id, mo, e, all32 id mo e bs true)) ((0 : Int), (0 : Int), [], false) = (((all32 id mo e bs true).length : Int), (0 : Int), [], false) := f.2
    rw [g1, g2]
    unfold z10_10
    dsimp only
    rw [hE.2.2, Bool.or_true]
    rfl
theorem law10 {n m : Int} (hn : (Lit.int .u32 n).wf = true) (hb : ∀ x ∈ bs, okKL [.int .u8] x) (hm : (Lit.int .u8 m).wf = true) : FnOK Try.prog 10 [.int .u32 n, .sl .imm [.int .u8] bs, .int .u8 m] [] (.bool true) [] := by
  have hn' : 0 ≤ n ∧ n ≤ 4294967295 := by
    have h2 : (decide (0 ≤ n) && decide (n ≤ 4294967295)) = true := hn
    simpa using h2
  have hm' : 0 ≤ m ∧ m ≤ 255 := by
    have h2 : (decide (0 ≤ m) && decide (m ≤ 255)) = true := hm
    simpa using h2
  have hB : bs.all isB = true := by
    rw [List.all_eq_true]
    intro x hx
    have h := hb x hx
    simp only [okKL, okK] at h
    obtain ⟨_, _, rfl, ⟨a, rfl, h⟩, rfl⟩ := h
    have h2 : (decide (0 ≤ a) && decide (a ≤ 255)) = true := h
    exact h2
  obtain ⟨h0, h1⟩ := e10 (bs := bs) hn' hm' hB
  have he := ev10 n m bs
  rw [h1, h0, cond_true] at he
  exact (fn_ok mixed plain (gk_ok k26n_ok 30) Try.func10 loops10 he).2
end
end Go.Proofs.Gv
