/-
The plain law of OutqOrder: what went, and what is left, is what came.
-/
import Derived.Test.YtdickgcdjmhgiaaGcOrL
import Derived.Test.YtdickgcdjmhgiaaGwA
namespace Go.Proofs.Gv
open Go.Proofs
set_option linter.unusedVariables false
def InvO (s : S5) (i : Nat) : Prop := GoodW s.2.1 (s.2.2.1.length : Int) (s.2.2.2.1.length : Int) ∧ (s.1 = true → s.2.1 = []) ∧ s.2.2.1 = s.2.2.2.1 ++ flat s.2.1 ∧ s.2.2.1.length ≤ 200 * i ∧ s.2.1.length ≤ i
theorem step_inv {bys : List (List AV)} (hby : ∀ x ∈ bys, 0 ≤ gB x ∧ gB x ≤ 255) {s : S5} {i : Nat} {T : List UInt8} (hi : i + 1 ≤ 60) (hT : T.length ≤ 200) (h : InvO s i) : InvO (stepO bys T s) (i + 1) := by
  obtain ⟨ph, es, came, went, k⟩ := s
  obtain ⟨hG, hph, hcame, hci, hei⟩ := h
  simp only at hG hph hcame hci hei
  have hfl := flat_len es
  have hcl : came.length = went.length + sumN es := by rw [hcame, List.length_append, hfl]
  cases T with
  | cons c T' =>
    obtain ⟨_, _, _, _, G'⟩ := push_goodW hG (c :: T') (by simp) hT (by omega) (by omega) (by omega)
    have hcl2 : (came ++ (c :: T')).length = came.length + (c :: T').length := List.length_append
    refine ⟨?_, (fun h => by cases h), ?_, ?_, ?_⟩
    · show GoodW (es ++ [[AV.str (c :: T')]]) ((came ++ (c :: T')).length : Int) (went.length : Int)
      have : ((came ++ (c :: T')).length : Int) = (came.length : Int) + ((c :: T').length : Int) := by rw [hcl2]; omega
      rw [this]
      exact G'
    · show came ++ (c :: T') = went ++ flat (es ++ [[AV.str (c :: T')]])
      rw [flat_app, ← List.append_assoc, ← hcame]
      simp only [flat, List.append_nil]
      rfl
    · show (came ++ (c :: T')).length ≤ 200 * (i + 1)
      rw [hcl2]; omega
    · show (es ++ [[AV.str (c :: T')]]).length ≤ i + 1
      rw [List.length_append, List.length_singleton]; omega
  | nil =>
    simp only [stepO]
    by_cases hk : k < bys.length
    · rw [bltT hk, cond_true]
      have hbk := hby (bys.getD k []) (by simp [List.getD, hk])
      obtain ⟨_, _, _, _, G'⟩ := take_goodW hG (gB (bys.getD k [])).toNat (by omega)
      obtain ⟨tf1, _⟩ := take_flat es (gB (bys.getD k [])).toNat hG.1 hG.2.2.2.1
      have hwl : (went ++ Bn (gB (bys.getD k [])).toNat es).length = went.length + (Bn (gB (bys.getD k [])).toNat es).length := List.length_append
      have hrl : (Rn (gB (bys.getD k [])).toNat es).length ≤ es.length := rst_len _ es 0
      refine ⟨?_, (fun h => by cases h), ?_, ?_, ?_⟩
      · show GoodW (Rn _ es) (came.length : Int) ((went ++ Bn (gB (bys.getD k [])).toNat es).length : Int)
        have : ((went ++ Bn (gB (bys.getD k [])).toNat es).length : Int) = (went.length : Int) + ((Bn (gB (bys.getD k [])).toNat es).length : Int) := by rw [hwl]; omega
        rw [this]
        exact G'
      · show came = (went ++ Bn _ es) ++ flat (Rn _ es)
        rw [List.append_assoc, tf1]; exact hcame
      · show came.length ≤ 200 * (i + 1)
        omega
      · show (Rn _ es).length ≤ i + 1
        omega
    · rw [bltF hk, cond_false]
      exact ⟨hG, hph, hcame, by simp only; omega, by simp only; omega⟩
theorem outO_inv {bys : List (List AV)} (hby : ∀ x ∈ bys, 0 ≤ gB x ∧ gB x ≤ 255) : ∀ (l : List (List AV)) (s : S5) (i : Nat), i + l.length ≤ 60 → InvO s i → InvO (outO bys l s).2 60 := by
  intro l
  induction l with
  | nil =>
    intro s i hi h
    obtain ⟨h1, h2, h3, h4, h5⟩ := h
    simp only [List.length_nil] at hi
    exact ⟨h1, h2, h3, by simp only [outO]; omega, by simp only [outO]; omega⟩
  | cons e l ih =>
    intro s i hi h
    rw [List.length_cons] at hi
    simp only [outO]
    by_cases hb : ((gS e).length : Int) > 200
    · rw [decide_eq_true hb, cond_true]
      obtain ⟨h1, h2, h3, h4, h5⟩ := h
      exact ⟨h1, h2, h3, by simp only; omega, by simp only; omega⟩
    · rw [decide_eq_false hb, cond_false]
      exact ih _ (i + 1) (by omega) (step_inv hby (by omega) (by omega) h)
theorem goodW0 : GoodW [] (([] : List UInt8).length : Int) (([] : List UInt8).length : Int) := ⟨rfl, rfl, by simp, fun x hx => (by cases hx), by simp [sumN], ⟨by simp, by simp⟩, ⟨by simp, by simp⟩, by simp [sumN]⟩
theorem drain_end {es : List (List AV)} {came went : List UInt8} (hG : GoodW es (came.length : Int) (went.length : Int)) (hc : came = went ++ flat es) :
    vev11_3 es (came.length : Int) (went.length : Int) (65536 : Int) = true ∧ (vev11_2 es (came.length : Int) (went.length : Int) (65536 : Int)).all isB = true ∧ went ++ List.map byteOf (vev11_2 es (came.length : Int) (went.length : Int) (65536 : Int)) = came := by
  obtain ⟨_, _, D2, D3, _⟩ := take_goodW hG 65536 (by omega)
  obtain ⟨tf1, tf2⟩ := take_flat es 65536 hG.1 hG.2.2.2.1
  have hS := hG.2.2.2.2.1
  have e : ((65536 : Nat) : Int) = (65536 : Int) := rfl
  rw [e] at D2 D3
  have hmn : Nat.min 65536 (sumN es) = sumN es := Nat.min_eq_right (by omega)
  rw [hmn] at tf2
  have hz : flat (Rn 65536 es) = [] := by
    have := congrArg List.length tf1
    rw [List.length_append, tf2, flat_len es] at this
    exact List.eq_nil_of_length_eq_zero (by omega)
  rw [hz, List.append_nil] at tf1
  refine ⟨D3, by rw [D2]; exact isB_map _, ?_⟩
  rw [D2, bytes_of, tf1]
  exact hc.symm
theorem e5 {ls bys : List (List AV)} (hby : ∀ x ∈ bys, 0 ≤ gB x ∧ gB x ≤ 255) : vev5_0 ls bys = true ∧ vev5_1 ls bys = true := by
  unfold vev5_0 vev5_1
  cases hg : (bif decide ((↑ls.length : Int) > (60 : Int)) then true else decide ((↑bys.length : Int) > (60 : Int))) with
  | true => exact ⟨rfl, rfl⟩
  | false =>
    have hl : ls.length ≤ 60 := by
      cases h1 : decide ((↑ls.length : Int) > (60 : Int)) with
      | true => rw [h1] at hg; cases hg
      | false => rw [decide_eq_false_iff_not] at h1; omega
    have hok : (sp5L (ls, bys, true, [], (0 : Int), (0 : Int), (ByteArray.mk #[]).data.toList, (ByteArray.mk #[]).data.toList, nat_lit 0, nat_lit 0)).fst = true := by
      have hI : Inv ls bys true [] (0 : Int) (0 : Int) [] [] 0 0 := ⟨goodW0, fun _ => rfl, rfl, rfl, rfl, by simp, by simp, by omega, hl, hby, Nat.le_refl _⟩
      exact dT hI
    have hinv : InvO (res5 (ls, bys, true, [], (0 : Int), (0 : Int), (ByteArray.mk #[]).data.toList, (ByteArray.mk #[]).data.toList, nat_lit 0, nat_lit 0)).2 60 :=
      outO_inv hby ls (true, [], [], [], 0) 0 (by omega) ⟨goodW0, fun _ => rfl, rfl, by simp, by simp⟩
    rw [hok]
    generalize res5 (ls, bys, true, [], (0 : Int), (0 : Int), (ByteArray.mk #[]).data.toList, (ByteArray.mk #[]).data.toList, nat_lit 0, nat_lit 0) = R at hinv ⊢
    obtain ⟨ret, ph, es, came, went, k⟩ := R
    obtain ⟨hG, hph, hcame, hci, hei⟩ := hinv
    simp only at hG hph hcame hci hei ⊢
    obtain ⟨z1, z2, z3⟩ := drain_end hG hcame
    have hlen : went.length + (List.map byteOf (vev11_2 es (came.length : Int) (went.length : Int) (65536 : Int))).length = came.length := by
      have := congrArg List.length z3
      rw [List.length_append] at this
      exact this
    have hd : decide (went.length + (List.map byteOf (vev11_2 es (came.length : Int) (went.length : Int) (65536 : Int))).length ≤ (9223372036854775807 : Nat)) = true := by rw [hlen, decide_eq_true_eq]; omega
    cases ret with
    | true => exact ⟨rfl, rfl⟩
    | false =>
      cases ph with
      | true =>
        have hes := hph rfl
        subst hes
        rw [z1, z2, hd, z3]
        simp only [beq_self_eq_true, cond_true, cond_false, and_self]
      | false =>
        rw [z1, z2, hd, z3]
        simp only [beq_self_eq_true, cond_true, cond_false, and_self]
theorem law5 {ls bys : List (List AV)} (hB : ∀ x ∈ bys, okKL [.int .u8] x) : FnOK Try.prog 5 [.sl .imm [.str] ls, .sl .imm [.int .u8] bys] [] (.bool true) [] := by
  have hby : ∀ x ∈ bys, 0 ≤ gB x ∧ gB x ≤ 255 := by
    intro x hx
    have := hB x hx
    simp only [okKL, okK] at this
    obtain ⟨_, _, rfl, ⟨m, rfl, w⟩, rfl⟩ := this
    exact wf_u8 w
  have he := ev5 ls bys
  rw [(e5 hby).2, (e5 hby).1, cond_true] at he
  exact (fn_ok mixed plain (gk_ok kO_ok 30) Try.func5 loops5 he).2
end Go.Proofs.Gv
