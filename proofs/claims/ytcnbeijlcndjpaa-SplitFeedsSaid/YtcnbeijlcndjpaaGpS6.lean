/-
The plain law of SplitFeeds.
-/
import Derived.Test.YtcnbeijlcndjpaaGaS6
import Derived.Test.YtcnbeijlcndjpaaGpSpF
namespace Go.Proofs.Gv
open Go.Proofs
set_option linter.unusedVariables false
section
variable {g : Int} {s l : List UInt8} {d : Bool}
theorem left_ok (hs : s.length ≤ 400) : vev25_1 g s d = true ∧ vev26_1 g s d = true := by
  unfold vev25_1 vev26_1
  have h15 : vev15_5 Tk.imm (List.map ofB s) = true := by
    by_cases h9 : 9 ≤ s.length
    · exact (head_ref h9).2.2.2.2.2
    · exact (head_ref' h9).2.2.2.2.2
  rw [head_ok (by omega), ck_ok (by omega), h15, decide_eq_true (show s.length ≤ 4611686018427387904 by omega)]
  refine ⟨?_, rfl⟩
  cases d
  · simp only [cond_true, cond_false, Bool.cond_self]
  · rfl
/-- What both make of bytes. -/
theorem feed_eq (hs : s.length ≤ 400) (hl : l.length ≤ 400) :
    ∃ r : St3, (vev19_0 g s d (l.map ofB), vev19_1 g s d (l.map ofB), vev19_2 g s d (l.map ofB), vev19_3 g s d (l.map ofB), vev19_4 g s d (l.map ofB)) = r ∧ (vev20_0 g s d (l.map ofB), vev20_1 g s d (l.map ofB), vev20_2 g s d (l.map ofB), vev20_3 g s d (l.map ofB), vev20_4 g s d (l.map ofB)) = r ∧
      vev19_5 g s d (l.map ofB) = true ∧ vev20_5 g s d (l.map ofB) = true ∧ (r.2.2.2.2 = 0 ∨ r.2.2.2.2 = 1 ∨ r.2.2.2.2 = 6) ∧ (∀ x ∈ r.2.2.2.1, fit5 x = x) ∧ r.2.2.2.1.length ≤ 1000000 := by
  by_cases hd : d = false ∧ vev24_0 g s d = 0
  · obtain ⟨rfl, hc⟩ := hd
    obtain ⟨n, rfl, hm⟩ := may_of (by omega) hc
    obtain ⟨a1, a2⟩ := feed19 (l := l) hm (by omega) (by omega)
    obtain ⟨b1, b2⟩ := feed20 (l := l) hm (by omega) (by omega)
    refine ⟨feedM n s l, a1, b1, a2, b2, ?_, ?_, ?_⟩
    · unfold feedM
      cases greetM n l with
      | none => exact .inr (.inl rfl)
      | some p =>
        dsimp only
        split
        · exact .inr (.inr rfl)
        · exact .inl rfl
    · unfold feedM
      cases greetM n l with
      | none => intro x hx; cases hx
      | some p =>
        dsimp only
        split <;> exact fit_cut _ _
    · unfold feedM
      cases hg : greetM n l with
      | none => exact Nat.zero_le _
      | some p =>
        obtain ⟨g', r⟩ := p
        have hr := greet_len l n g' r hg
        have he := (cutM_end (s ++ r).length (s ++ r) (Nat.le_refl _)).2.2
        have hlen : (s ++ r).length ≤ 800 := by rw [List.length_append]; omega
        dsimp only
        split
        · change (cutM (s ++ r).length (s ++ r)).1.length ≤ _
          omega
        · change (cutM (s ++ r).length (s ++ r)).1.length ≤ _
          omega
  · have hc : (bif d then true else bif vev33_5 s then vev23_0 g s d != (0 : Int) else false) = true := by
      rw [head_ok (by omega), ck_same (by omega)]
      cases d with
      | true => rfl
      | false =>
        have : vev24_0 g s false ≠ 0 := fun h => hd ⟨rfl, h⟩
        simpa using this
    have hc2 : (bif vev24_1 g s d then bif vev24_0 g s d != (0 : Int) then true else d else false) = true := by
      rw [ck_ok (by omega), cond_true]
      cases d with
      | true => cases (vev24_0 g s true != (0 : Int)) <;> rfl
      | false =>
        have : vev24_0 g s false ≠ 0 := fun h => hd ⟨rfl, h⟩
        have h2 : (vev24_0 g s false != (0 : Int)) = true := bne_iff_ne.2 this
        rw [h2]
        rfl
    refine ⟨(g, s, d, [], 0), ?_, ?_, ?_, ?_, .inl rfl, fun x hx => (by cases hx), Nat.zero_le _⟩
    · unfold vev19_0 vev19_1 vev19_2 vev19_3 vev19_4
      rw [hc]
      rfl
    · unfold vev20_0 vev20_1 vev20_2 vev20_3 vev20_4
      rw [hc2]
      rfl
    · unfold vev19_5
      rw [hc, head_ok (by omega)]
      cases d <;> rfl
    · unfold vev20_5
      rw [hc2, ck_ok (by omega)]
      rfl
theorem e6 (bs : List (List AV)) (hb : ∀ x ∈ bs, okKL [.int .u8] x) : vev6_0 g s d bs = true ∧ vev6_1 g s d bs = true := by
  unfold vev6_0 vev6_1
  cases hc : (bif decide ((↑s.length : Int) > (400 : Int)) then true else decide ((↑bs.length : Int) > (400 : Int))) with
  | true =>
    rw [cond_true, cond_true]
    exact ⟨by kernel_rfl, rfl⟩
  | false =>
    have hl : s.length ≤ 400 ∧ bs.length ≤ 400 := by
      cases h1 : decide ((↑s.length : Int) > (400 : Int)) with
      | true => rw [h1] at hc; cases hc
      | false =>
        rw [h1, cond_false, decide_eq_false_iff_not] at hc
        rw [decide_eq_false_iff_not] at h1
        omega
    rw [cond_false, cond_false]
    have hr := byRows hb
    generalize hL : bs.map byteOf = L at hr
    have hLl : L.length ≤ 400 := by rw [← hL, List.length_map]; exact hl.2
    subst hr
    obtain ⟨⟨r0, r1, r2, r3, r4⟩, f1, f2, f3, f4, f5, f6, f7⟩ := feed_eq (g := g) (s := s) (d := d) hl.1 hLl
    injection f1 with a0 f1
    injection f1 with a1 f1
    injection f1 with a2 f1
    injection f1 with a3 a4
    injection f2 with b0 f2
    injection f2 with b1 f2
    injection f2 with b2 f2
    injection f2 with b3 b4
    have k22 := r22 (es := r3) f7
    rw [map_fit5 f6] at k22
    have k21 := r21 (t1 := Tk.imm) (t2 := Tk.imm) (l := r3) f7
    have kl := left_ok (g := g) (s := s) (d := d) hl.1
    have hw : IntKind.i64.wrap r4 = r4 := wrapOf _ (by simp only at f5; omega) (by simp only at f5; omega)
    rw [a0, a1, a2, a3, a4, b0, b1, b2, b3, b4, f3, f4, k22.1, k22.2, k21.1, k21.2, hw, head_ok (by omega), ck_ok (by omega), ck_same (by omega), kl.1, kl.2, left_same (by omega)]
    have e27 : vev27_0 g s d r0 r1 r2 = (g == r0 && (s == r1 && (d == r2 && true))) := rfl
    rw [e27]
    simp only [beq_self_eq_true, Bool.and_self, cond_true]
    exact ⟨trivial, trivial⟩
theorem law6 (bs : List (List AV)) (hb : ∀ x ∈ bs, okKL [.int .u8] x) : FnOK Try.prog 6 [.agg [.int .i64 g, .str s, .bool d], .sl .imm [.int .u8] bs] [] (.bool true) [] := by
  obtain ⟨h0, h1⟩ := e6 (g := g) (s := s) (d := d) bs hb
  have he := ev6 g s d bs
  rw [h1, h0, cond_true] at he
  exact (fn_ok mixed plain (gk_ok k18_ok 30) Try.func6 (fun c _ => LoopsOK.none (fun _ _ => rfl) c) he).2
end
end Go.Proofs.Gv
