/-
FramePuts: both put a frame alike, and tell alike whether two are one.
-/
import Derived.Test.YtndephedgodneaaGaFr10
import Derived.Test.YtndephedgodneaaGpFr5
import Derived.Test.YtndephedgodneaaGwA
namespace Go.Proofs.Gv
open Go.Proofs
set_option linter.unusedVariables false
/-! Bytes. -/
theorem isB_bY (x m : Int) : isB (bY x m) = true := by
  unfold isB bY
  have e : intOf ([AV.int IntKind.u8 (x / m % 256)].getD 0 .junk) = x / m % 256 := rfl
  rw [e, decide_eq_true (show (0 : Int) ≤ x / m % 256 by omega), decide_eq_true (show x / m % 256 ≤ (255 : Int) by omega)]
  rfl
theorem isB_in {x : Int} (h : 0 ≤ x ∧ x ≤ 255) : isB [AV.int IntKind.u8 x] = true := by
  unfold isB
  have e : intOf ([AV.int IntKind.u8 x].getD 0 .junk) = x := rfl
  rw [e, decide_eq_true h.1, decide_eq_true h.2]
  rfl
theorem isB_of (b : UInt8) : isB (ofB b) = true := by
  have := b.toNat_lt
  exact isB_in (by omega)
theorem isB_n4 (x : Int) : (n4 x).all isB = true := by simp only [n4, List.all_cons, List.all_nil, isB_bY, Bool.and_self]
theorem isB_n2 (x : Int) : (n2 x).all isB = true := by simp only [n2, List.all_cons, List.all_nil, isB_bY, Bool.and_self]
theorem isB_map (l : List UInt8) : (l.map ofB).all isB = true := by
  induction l with
  | nil => rfl
  | cons a l ih => simp only [List.map_cons, List.all_cons, isB_of, ih, Bool.and_self]
theorem isB_ps (ps : List (List AV)) : (psR ps).all isB = true := by
  induction ps with
  | nil => rfl
  | cons p ps ih =>
    have e : psR (p :: ps) = n2 (intOf (p.getD 0 AV.junk)) ++ n4 (intOf (p.getD 1 AV.junk)) ++ psR ps := rfl
    rw [e, List.all_append, List.all_append, isB_n2, isB_n4, ih]
    rfl
theorem isB_wgt {de we : Int} (so : Bool) (hd : 0 ≤ de ∧ de ≤ 2147483647) (hw : 0 ≤ we ∧ we ≤ 255) : (wgt de so we).all isB = true := by
  unfold wgt
  cases so
  · simp only [cond_false, List.all_cons, List.all_nil, isB_bY, isB_in hw, Bool.and_self]
  · simp only [cond_true, List.all_cons, List.all_nil, isB_bY, isB_in hw, isB_in (show 0 ≤ de / 16777216 % 256 + 128 ∧ de / 16777216 % 256 + 128 ≤ 255 by omega), Bool.and_self]
theorem isB_pay {P W : Bool} {t : Int} {d : List UInt8} {pa de : Int} {so : Bool} {we co la inc : Int} {ps : List (List AV)} (ha : 0 ≤ pa ∧ pa ≤ 255) (hd : 0 ≤ de ∧ de ≤ 2147483647) (hw : 0 ≤ we ∧ we ≤ 255) :
    (payN P W t d pa de so we co la inc ps).all isB = true := by
  have h1 : ((bif P then [[AV.int IntKind.u8 pa]] else []) : List (List AV)).all isB = true := by
    cases P
    · rfl
    · simp only [cond_true, List.all_cons, List.all_nil, isB_in ha, Bool.and_self]
  have h2 : ((bif W then wgt de so we else []) : List (List AV)).all isB = true := by
    cases W
    · rfl
    · exact isB_wgt so hd hw
  have h3 : ∀ (b : Bool) (l : List (List AV)), l.all isB = true → ((bif b then l else []) : List (List AV)).all isB = true := by
    intro b l h
    cases b
    · rfl
    · exact h
  unfold payN
  rw [List.all_append, List.all_append, List.all_append, List.all_append, List.all_append, List.all_append, List.all_append, h1, h2, h3 _ _ (isB_n4 la), h3 _ _ (isB_n4 co), h3 _ _ (isB_ps ps), h3 _ _ (isB_n4 inc), isB_map, isB_map]
  rfl
/-! Settings. -/
theorem s53 (k1 k2 : Tk) (ps ps' : List (List AV)) : vev53_0 k1 ps k2 ps' = vev44_0 k1 ps k2 ps' ∧ vev53_1 k1 ps k2 ps' = vev44_1 k1 ps k2 ps' := ⟨rfl, rfl⟩
theorem h44 (k1 k2 : Tk) (ps ps' : List (List AV)) (he : ps.length = ps'.length) (hl : ps.length ≤ 9223372036854775807) : ∀ (k i : Nat), i + k = ps.length → ∃ r, Ends (g44_4 (k1, ps, k2, ps')) (n44_4 (k1, ps, k2, ps')) (i : Int) r ∧ (xc44_4_0 k1 ps k2 ps' r || xc44_4_1 k1 ps k2 ps' r) = true := by
  intro k
  induction k with
  | zero =>
    intro i hi
    refine ⟨(i : Int), Ends.stop ?_, ?_⟩
    · unfold g44_4 go44_4
      dsimp only
      rw [decide_eq_false (by omega)]
      rfl
    · unfold xc44_4_0 xc44_4_1
      rw [decide_eq_false (by omega)]
      rfl
  | succ k ih =>
    intro i hi
    cases hg : g44_4 (k1, ps, k2, ps') (i : Int) with
    | false =>
      refine ⟨(i : Int), Ends.stop hg, ?_⟩
      unfold g44_4 go44_4 at hg
      unfold xc44_4_0 xc44_4_1
      dsimp only at hg
      rw [decide_eq_true (show (i : Int) < (ps.length : Int) by omega), decide_eq_true (show (0 : Int) ≤ (i : Int) by omega), decide_eq_true (show (i : Int) < (ps'.length : Int) by omega), Bool.and_self, cond_true, cond_true, cond_true] at hg
      rw [decide_eq_true (show (i : Int) < (ps.length : Int) by omega), decide_eq_true (show (0 : Int) ≤ (i : Int) by omega), decide_eq_true (show (i : Int) < (ps'.length : Int) by omega), Bool.and_self, cond_true, cond_true, cond_true, cond_true, Bool.or_false]
      cases hx : (!(intOf ((ps.getD ((i : Int)).toNat []).getD (0 : Nat) AV.junk) == intOf ((ps'.getD ((i : Int)).toNat []).getD (0 : Nat) AV.junk) && (intOf ((ps.getD ((i : Int)).toNat []).getD ((0 : Nat) + (1 : Nat)) AV.junk) == intOf ((ps'.getD ((i : Int)).toNat []).getD ((0 : Nat) + (1 : Nat)) AV.junk) && true))) with
      | true => rfl
      | false => rw [hx] at hg; cases hg
    | true =>
      obtain ⟨r, h1, h2⟩ := ih (i + 1) (by omega)
      refine ⟨r, Ends.step hg ?_, h2⟩
      have e : n44_4 (k1, ps, k2, ps') (i : Int) = ((i + 1 : Nat) : Int) := by
        unfold n44_4 nx44_4_4
        exact wrapN i ps.length (by omega) (by omega)
      rw [e]
      exact h1
theorem ok44 (k1 k2 : Tk) (ps ps' : List (List AV)) (hl : ps.length ≤ 9223372036854775807) : vev44_1 k1 ps k2 ps' = true := by
  unfold vev44_1
  cases hn : ((↑ps.length : Int) != (↑ps'.length : Int)) with
  | true => rfl
  | false =>
    have he : ps.length = ps'.length := by
      have h := bne_eq_false_iff_eq.1 hn
      omega
    obtain ⟨r, h1, h2⟩ := h44 k1 k2 ps ps' he hl ps.length 0 (by omega)
    have f := h1.fin
    have e : ((0 : Nat) : Int) = (0 : Int) := rfl
    rw [e] at f
    rw [cond_false]
    simp only [spI]
    rw [f.1, f.2]
    unfold y44_4 z44_4
    simp only [List.any_cons, List.any_nil, Bool.or_false, Bool.true_and]
    rw [h2]
    rfl
section
variable {t g n : Int} {d : List UInt8} {pa de : Int} {so : Bool} {we co la inc : Int} {ps : List (List AV)}
variable {t' g' n' : Int} {d' : List UInt8} {pa' de' : Int} {so' : Bool} {we' co' la' inc' : Int} {ps' : List (List AV)}
theorem same_ok (hl : ps.length ≤ 9223372036854775807) :
    vev23_1 t g n d pa de so we co la inc ps t' g' n' d' pa' de' so' we' co' la' inc' ps' = true ∧ vev14_1 t g n d pa de so we co la inc ps t' g' n' d' pa' de' so' we' co' la' inc' ps' = true := by
  have h := ok44 .imm .imm ps ps' hl
  unfold vev23_1 vev14_1
  rw [(s53 .imm .imm ps ps').2, h]
  refine ⟨rfl, ?_⟩
  generalize (t == t') = b0
  generalize (g == g') = b1
  generalize (n == n') = b2
  generalize (d == d') = b3
  generalize (pa == pa') = b4
  generalize (de == de') = b5
  generalize (so == so') = b6
  generalize (we == we') = b7
  generalize (co == co') = b8
  generalize (la == la') = b9
  generalize (inc == inc') = b10
  clear h
  simp only [Bool.cond_self]
  rfl
theorem same_eq (hl : ps.length ≤ 9223372036854775807) :
    vev23_0 t g n d pa de so we co la inc ps t' g' n' d' pa' de' so' we' co' la' inc' ps' = vev14_0 t g n d pa de so we co la inc ps t' g' n' d' pa' de' so' we' co' la' inc' ps' := by
  have h := ok44 .imm .imm ps ps' hl
  unfold vev23_0 vev14_0
  rw [(s53 .imm .imm ps ps').2, (s53 .imm .imm ps ps').1, h]
  generalize (t == t') = b0
  generalize (g == g') = b1
  generalize (n == n') = b2
  generalize (d == d') = b3
  generalize (pa == pa') = b4
  generalize (de == de') = b5
  generalize (so == so') = b6
  generalize (we == we') = b7
  generalize (co == co') = b8
  generalize (la == la') = b9
  generalize (inc == inc') = b10
  generalize (vev44_0 .imm ps .imm ps') = b11
  clear h hl
  revert b0 b1 b2 b3 b4 b5 b6 b7 b8 b9 b10 b11
  decide
/-! Checks. -/
theorem s51 (x : Int) : vev51_0 x = vev49_0 x := rfl
theorem rng49 {x : Int} (h : vev49_0 x = true) : 0 ≤ x ∧ x ≤ 2147483647 := by
  unfold vev49_0 at h
  by_cases h0 : 0 ≤ x
  · rw [decide_eq_true (show x ≥ (0 : Int) from h0)] at h
    exact ⟨h0, of_decide_eq_true h⟩
  · rw [decide_eq_false (show ¬ x ≥ (0 : Int) from h0)] at h
    cases h
theorem padEq (ht : 0 ≤ t ∧ t ≤ 255) (hg : 0 ≤ g ∧ g ≤ 255) : vev61_0 t g n d pa de so we co la inc ps = vev64_0 t g n d pa de so we co la inc .imm ps := by
  have f8 := (r55 (allB_at 256 has8 g hg.1 (by omega))).1
  have hx : t = 0 ∨ t = 1 ∨ 1 < t := by omega
  rcases hx with h | h | h
  · subst h
    simp only [vev61_0, vev64_0, vev56_0, f8, Int.reduceBEq, Int.reduceLE, decide_true, cond_true]
  · subst h
    simp only [vev61_0, vev64_0, vev56_0, f8, Int.reduceBEq, Int.reduceLE, decide_true, cond_true, cond_false]
  · have a0 : (t == 0) = false := beq_eq_false_iff_ne.2 (by omega)
    have a1 : (t == 1) = false := beq_eq_false_iff_ne.2 (by omega)
    have a2 : decide (t ≤ 1) = false := decide_eq_false (by omega)
    simp only [vev61_0, vev64_0, a0, a1, a2, cond_false]
theorem wgtEq (hg : 0 ≤ g ∧ g ≤ 255) : vev68_0 t g n d pa de so we co la inc ps = vev65_0 t g n d pa de so we co la inc .imm ps := by
  have f32 := (r55 (allB_at 256 has32 g hg.1 (by omega))).1
  simp only [vev68_0, vev65_0, vev56_0, f32]
theorem pairsOnly (h : vev50_0 t g n d pa de so we co la inc ps = false) : (t == 4) = true ∨ ps = [] := by
  rcases Nat.eq_zero_or_pos ps.length with hp | hp
  · exact Or.inr (List.eq_nil_of_length_eq_zero hp)
  · refine Or.inl ?_
    unfold vev50_0 at h
    rw [decide_eq_true (show (ps.length : Int) > 0 by omega)] at h
    cases h4 : (t == 4) with
    | true => rfl
    | false =>
      rw [show (t != 4) = true by rw [bne, h4]; rfl] at h
      revert h
      simp only [cond_true]
      generalize (bif pa != (0 : Int) then !vev64_0 t g n d pa de so we co la inc .imm ps else false) = c0
      generalize (bif !vev65_0 t g n d pa de so we co la inc .imm ps then bif de != (0 : Int) then true else bif so then true else we != (0 : Int) else false) = c1
      generalize (bif co != (0 : Int) then bif t != (3 : Int) then t != (7 : Int) else false else false) = c2
      generalize (bif la != (0 : Int) then t != (7 : Int) else false) = c3
      generalize (bif inc != (0 : Int) then t != (8 : Int) else false) = c4
      cases c0 <;> cases c1 <;> cases c2 <;> cases c3 <;> cases c4 <;> simp
/-- What both checks tell, and what stands behind it. -/
structure Fine (t g n : Int) (d : List UInt8) (pa de : Int) (so : Bool) (we co la inc : Int) (ps : List (List AV)) : Prop where
  rn : 0 ≤ n ∧ n ≤ 2147483647
  same : vev45_0 t g n d pa de so we co la inc ps = vev47_0 t g n d pa de so we co la inc ps
  ok45 : vev45_1 t g n d pa de so we co la inc ps = true
  ok47 : vev47_1 t g n d pa de so we co la inc ps = true
  len : (vev47_0 t g n d pa de so we co la inc ps).length ≤ 16384
  byt : (vev47_0 t g n d pa de so we co la inc ps).all isB = true
theorem chk (ht : 0 ≤ t ∧ t ≤ 255) (hg : 0 ≤ g ∧ g ≤ 255) (hw : 0 ≤ we ∧ we ≤ 255) (hc : 0 ≤ co ∧ co ≤ 4294967295) (hp : okP ps) (hl : d.length + 6 * ps.length ≤ 140737488000000) :
    vev19_0 t g n d pa de so we co la inc ps = vev20_0 t g n d pa de so we co la inc ps ∧ vev19_1 t g n d pa de so we co la inc ps = true ∧ vev20_1 t g n d pa de so we co la inc ps = true ∧ (vev20_0 t g n d pa de so we co la inc ps = 0 → Fine t g n d pa de so we co la inc ps) := by
  have g0 : decide ((0 : Int) ≤ t) = true := decide_eq_true ht.1
  have g1 : decide ((0 : Int) ≤ g) = true := decide_eq_true hg.1
  have g2 : decide (g ≤ (255 : Int)) = true := decide_eq_true hg.2
  have n8 : (8 : Int) = 0 → Fine t g n d pa de so we co la inc ps := fun h => by omega
  have n4' : (4 : Int) = 0 → Fine t g n d pa de so we co la inc ps := fun h => by omega
  have n5 : (5 : Int) = 0 → Fine t g n d pa de so we co la inc ps := fun h => by omega
  rcases bcase (vev49_0 n) with a1 | a1
  rotate_left
  · simp only [vev19_0, vev20_0, vev19_1, vev20_1, s51, a1, Bool.not_false, cond_true, true_and]; exact n8
  rcases bcase (vev49_0 de) with a2 | a2
  rotate_left
  · simp only [vev19_0, vev20_0, vev19_1, vev20_1, s51, a1, a2, Bool.not_false, Bool.not_true, cond_true, cond_false, true_and]; exact n8
  rcases bcase (vev49_0 la) with a3 | a3
  rotate_left
  · simp only [vev19_0, vev20_0, vev19_1, vev20_1, s51, a1, a2, a3, Bool.not_false, Bool.not_true, cond_true, cond_false, true_and]; exact n8
  rcases bcase (vev49_0 inc) with a4 | a4
  rotate_left
  · simp only [vev19_0, vev20_0, vev19_1, vev20_1, s51, a1, a2, a3, a4, Bool.not_false, Bool.not_true, cond_true, cond_false, true_and]; exact n8
  rcases bcase (decide (pa < 0)) with a5 | a5
  · simp only [vev19_0, vev20_0, vev19_1, vev20_1, s51, a1, a2, a3, a4, a5, Bool.not_true, cond_true, cond_false, true_and]; exact n8
  rcases bcase (decide (pa > 255)) with a6 | a6
  · simp only [vev19_0, vev20_0, vev19_1, vev20_1, s51, a1, a2, a3, a4, a5, a6, Bool.not_true, cond_true, cond_false, true_and]; exact n8
  rcases bcase (vev50_0 t g n d pa de so we co la inc ps) with a7 | a7
  · simp only [vev19_0, vev20_0, vev19_1, vev20_1, s51, a1, a2, a3, a4, a5, a6, a7, g0, g1, g2, Bool.and_self, Bool.not_true, cond_true, cond_false, true_and]; exact n4'
  have b1 := rng49 a1
  have b2 := rng49 a2
  have b3 := rng49 a3
  have b4 := rng49 a4
  have b5 : 0 ≤ pa ∧ pa ≤ 255 := by
    have h5 := of_decide_eq_false a5
    have h6 := of_decide_eq_false a6
    omega
  obtain ⟨p1, p2⟩ := r45 (t := t) (g := g) (n := n) (d := d) (so := so) (we := we) (ps := ps) b5 b2 hc b3 b4 hl
  obtain ⟨q1, q2⟩ := r47 (t := t) (g := g) (n := n) (d := d) (so := so) (we := we) (ps := ps) b5 b2 hc b3 b4 hl hp (pairsOnly a7)
  rw [padEq ht hg, wgtEq hg] at q1
  have pq := p1.trans q1.symm
  have hb : (vev47_0 t g n d pa de so we co la inc ps).all isB = true := by rw [q1]; exact isB_pay b5 b2 hw
  rcases bcase (decide (rev20_0 t g n d pa de so we co la inc ps > (16384 : Int))) with a8 | a8
  · have a8' : decide (rev19_0 t g n d pa de so we co la inc ps > (16384 : Int)) = true := by unfold rev19_0; rw [pq]; exact a8
    simp only [vev19_0, vev20_0, vev19_1, vev20_1, s51, a1, a2, a3, a4, a5, a6, a7, a8, a8', p2, q2, g0, g1, g2, Bool.and_self, Bool.not_true, cond_true, cond_false, true_and]; exact n5
  · have a8' : decide (rev19_0 t g n d pa de so we co la inc ps > (16384 : Int)) = false := by unfold rev19_0; rw [pq]; exact a8
    have hlen : (vev47_0 t g n d pa de so we co la inc ps).length ≤ 16384 := by
      have h := of_decide_eq_false a8
      unfold rev20_0 at h
      omega
    simp only [vev19_0, vev20_0, vev19_1, vev20_1, s51, a1, a2, a3, a4, a5, a6, a7, a8, a8', p2, q2, g0, g1, g2, Bool.and_self, Bool.not_true, cond_true, cond_false, true_and]
    exact fun _ => ⟨b1, pq, p2, q2, hlen, hb⟩
/-! Heads. -/
theorem headEq {L : Int} (hL : 0 ≤ L ∧ L ≤ 16384) (hn : 0 ≤ n ∧ n ≤ 2147483647) : hR L t g n = hW L t g n := by
  have u1 := wrapU L (by omega) (by omega)
  have u2 := wrapU n (by omega) (by omega)
  unfold hR hW wB
  rw [u1, u2, two16', two8, two24', fd _ _ (by omega), fd _ _ (by omega), fd _ _ (by omega), fd _ _ (by omega), fd _ _ (by omega), wrapB, wrapB, wrapB, wrapB, wrapB, wrapB, wrapB]
  rw [wb0 (x := L) (by omega), wb1 (x := L) (by omega), wb2 (x := L) (by omega), wb0 (x := n) (by omega), wb1 (x := n) (by omega), wb2 (x := n) (by omega), wb3 (x := n) (by omega)]
theorem headB {L : Int} (ht : 0 ≤ t ∧ t ≤ 255) (hg : 0 ≤ g ∧ g ≤ 255) : (hW L t g n).all isB = true := by
  have hw : ∀ x j, isB (wB x j) = true := fun x j => by
    unfold wB
    exact isB_in (by rw [wrapB]; omega)
  simp only [hW, List.all_cons, List.all_nil, hw, isB_in ht, isB_in hg, Bool.and_self]
theorem putEq (ht : 0 ≤ t ∧ t ≤ 255) (hg : 0 ≤ g ∧ g ≤ 255) (hw : 0 ≤ we ∧ we ≤ 255) (hc : 0 ≤ co ∧ co ≤ 4294967295) (hp : okP ps) (hl : d.length + 6 * ps.length ≤ 140737488000000) :
    vev17r_0 t g n d pa de so we co la inc ps = vev18_0 t g n d pa de so we co la inc ps ∧ vev17r_1 t g n d pa de so we co la inc ps = vev18_1 t g n d pa de so we co la inc ps ∧ vev17r_2 t g n d pa de so we co la inc ps = true ∧ vev18_2 t g n d pa de so we co la inc ps = true ∧ (vev18_0 t g n d pa de so we co la inc ps).all isB = true ∧
    vev21_0 t g n d pa de so we co la inc ps = vev22_0 t g n d pa de so we co la inc ps ∧ vev21_1 t g n d pa de so we co la inc ps = true ∧ vev22_1 t g n d pa de so we co la inc ps = true := by
  obtain ⟨h1, h2, h3, h4⟩ := chk (n := n) (pa := pa) (de := de) (so := so) (la := la) (inc := inc) (d := d) ht hg hw hc hp hl
  rcases bcase (vev20_0 t g n d pa de so we co la inc ps != 0) with hz | hz
  · simp only [vev17r_0, vev17r_1, vev17r_2, rev17r_0, vev18_0, vev18_1, vev18_2, rev18_0, vev21_0, vev21_1, vev22_0, vev22_1, h1, h2, h3, hz, cond_true, List.all_nil, and_self]
  · have f := h4 (bne_eq_false_iff_eq.1 hz)
    have e0 : vev17r_0 t g n d pa de so we co la inc ps = hR ((vev45_0 t g n d pa de so we co la inc ps).length : Int) t g n ++ vev45_0 t g n d pa de so we co la inc ps := by
      unfold vev17r_0 rev17r_0
      rw [h1, hz]
      rfl
    have e1 : vev18_0 t g n d pa de so we co la inc ps = hW ((vev47_0 t g n d pa de so we co la inc ps).length : Int) t g n ++ vev47_0 t g n d pa de so we co la inc ps := by
      unfold vev18_0 rev18_0
      rw [hz]
      rfl
    have hL : (0 : Int) ≤ ((vev47_0 t g n d pa de so we co la inc ps).length : Int) ∧ ((vev47_0 t g n d pa de so we co la inc ps).length : Int) ≤ 16384 := ⟨by omega, by have := f.len; omega⟩
    have l1 : ∀ L, (hR L t g n).length = 9 := fun _ => rfl
    have l2 : ∀ L, (hW L t g n).length = 9 := fun _ => rfl
    have rn := f.rn
    have ln := f.len
    refine ⟨?_, ?_, ?_, ?_, ?_, ?_, ?_, ?_⟩
    · rw [e0, e1, f.same, headEq hL f.rn]
    · unfold vev17r_1 vev18_1 rev17r_0 rev18_0
      rw [h1]
    · unfold vev17r_2 rev17r_0 rev17r_2 rev17r_1
      rw [h1, hz, h2, f.ok45, l1, f.same]
      unfold hB
      rw [decide_eq_false (show ¬ ((vev47_0 t g n d pa de so we co la inc ps).length : Int) < 0 by omega), decide_eq_false (show ¬ ((vev47_0 t g n d pa de so we co la inc ps).length : Int) > 16777215 by omega), decide_eq_false (show ¬ n < 0 by omega), decide_eq_false (show ¬ n > 2147483647 by omega), decide_eq_true (show (9 + (vev47_0 t g n d pa de so we co la inc ps).length) * 1 ≤ 140737488355328 by omega), decide_eq_true (show 9 + (vev47_0 t g n d pa de so we co la inc ps).length ≤ 9223372036854775807 by omega)]
      rfl
    · unfold vev18_2 rev18_0 rev18_2 rev18_1 vev70_0
      rw [hz, h3, f.ok47, l2]
      rw [decide_eq_false (show ¬ ((vev47_0 t g n d pa de so we co la inc ps).length : Int) < 0 by omega), decide_eq_false (show ¬ ((vev47_0 t g n d pa de so we co la inc ps).length : Int) > 16777215 by omega), decide_eq_false (show ¬ n < 0 by omega), decide_eq_false (show ¬ n > 2147483647 by omega), decide_eq_true (show (9 + (vev47_0 t g n d pa de so we co la inc ps).length) * 1 ≤ 140737488355328 by omega), decide_eq_true (show 9 + (vev47_0 t g n d pa de so we co la inc ps).length ≤ 9223372036854775807 by omega)]
      rfl
    · rw [e1, List.all_append, headB ht hg, f.byt]
      rfl
    · unfold vev21_0 vev22_0
      rw [h1, f.same]
    · unfold vev21_1
      rw [h1, hz, h2, f.ok45]
      rfl
    · unfold vev22_1
      rw [hz, h3, f.ok47]
      rfl
theorem r4 (ht : 0 ≤ t ∧ t ≤ 255) (hg : 0 ≤ g ∧ g ≤ 255) (hw : 0 ≤ we ∧ we ≤ 255) (hc : 0 ≤ co ∧ co ≤ 4294967295) (hp : okP ps) :
    vev4_0 t g n d pa de so we co la inc ps t' g' n' d' pa' de' so' we' co' la' inc' ps' = true ∧ vev4_1 t g n d pa de so we co la inc ps t' g' n' d' pa' de' so' we' co' la' inc' ps' = true := by
  rcases bcase (vev16_0 t g n d pa de so we co la inc ps) with a1 | a1
  rotate_left
  · unfold vev4_0 vev4_1
    rw [a1]
    exact ⟨rfl, rfl⟩
  rcases bcase (vev16_0 t' g' n' d' pa' de' so' we' co' la' inc' ps') with a2 | a2
  rotate_left
  · unfold vev4_0 vev4_1
    rw [a1, a2]
    exact ⟨rfl, rfl⟩
  have hl : d.length ≤ 400 ∧ ps.length ≤ 40 := by
    unfold vev16_0 at a1
    by_cases h0 : (↑d.length : Int) ≤ 400
    · rw [decide_eq_true h0] at a1
      have := of_decide_eq_true a1
      omega
    · rw [decide_eq_false h0] at a1
      cases a1
  obtain ⟨p1, p2, p3, p4, p5, p6, p7, p8⟩ := putEq (n := n) (pa := pa) (de := de) (so := so) (la := la) (inc := inc) (d := d) ht hg hw hc hp (by omega)
  obtain ⟨c1, c2, c3, c4⟩ := chk (n := n) (pa := pa) (de := de) (so := so) (la := la) (inc := inc) (d := d) ht hg hw hc hp (by omega)
  obtain ⟨s1, s2⟩ := same_ok (t := t) (g := g) (n := n) (d := d) (pa := pa) (de := de) (so := so) (we := we) (co := co) (la := la) (inc := inc) (ps := ps) (t' := t') (g' := g') (n' := n') (d' := d') (pa' := pa') (de' := de') (so' := so') (we' := we') (co' := co') (la' := la') (inc' := inc') (ps' := ps') (by omega)
  have s3 := same_eq (t := t) (g := g) (n := n) (d := d) (pa := pa) (de := de) (so := so) (we := we) (co := co) (la := la) (inc := inc) (ps := ps) (t' := t') (g' := g') (n' := n') (d' := d') (pa' := pa') (de' := de') (so' := so') (we' := we') (co' := co') (la' := la') (inc' := inc') (ps' := ps') (by omega)
  unfold vev4_0 vev4_1 rev4_0 rev4_1
  rw [a1, a2, p1, p2, p3, p4, p5, p6, p7, p8, c1, c2, c3, s1, s2, s3]
  simp only [beq_self_eq_true, Bool.not_true, cond_true, cond_false, and_self]
end
theorem okP_of {ps : List (List AV)} (h : ∀ e ∈ ps, okKL [.int .u16, .int .u32] e) : okP ps := by
  intro i hi
  have hm : ps.getD i [] ∈ ps := by
    have e : ps.getD i [] = ps[i] := by simp [List.getD, hi]
    rw [e]
    exact List.getElem_mem hi
  have hk := h _ hm
  simp only [okKL, okK] at hk
  obtain ⟨x, xs, e1, ⟨a, rfl, wa⟩, y, ys, rfl, ⟨b, rfl, wb⟩, rfl⟩ := hk
  rw [e1]
  have h1 : (decide (0 ≤ a) && decide (a ≤ 65535)) = true := wa
  have h2 : (decide (0 ≤ b) && decide (b ≤ 4294967295)) = true := wb
  simp only [Bool.and_eq_true, decide_eq_true_eq] at h1 h2
  exact ⟨h1, h2⟩
theorem law4 {t g n : Int} {d : List UInt8} {pa de : Int} {so : Bool} {we co la inc : Int} {ps : List (List AV)} {t' g' n' : Int} {d' : List UInt8} {pa' de' : Int} {so' : Bool} {we' co' la' inc' : Int} {ps' : List (List AV)}
    (ht : (Lit.int .u8 t).wf = true) (hg : (Lit.int .u8 g).wf = true) (hw : (Lit.int .u8 we).wf = true) (hc : (Lit.int .u32 co).wf = true) (hp : ∀ e ∈ ps, okKL [.int .u16, .int .u32] e) : FnOK Try.prog 4 [.agg [.int .u8 t, .int .u8 g, .int .i64 n, .str d, .int .i64 pa, .int .i64 de, .bool so, .int .u8 we, .int .u32 co, .int .i64 la, .int .i64 inc, .sl .imm [.int .u16, .int .u32] ps], .agg [.int .u8 t', .int .u8 g', .int .i64 n', .str d', .int .i64 pa', .int .i64 de', .bool so', .int .u8 we', .int .u32 co', .int .i64 la', .int .i64 inc', .sl .imm [.int .u16, .int .u32] ps']] [] (.bool true) [] := by
  have kk : ∀ x : Int, (Lit.int .u8 x).wf = true → 0 ≤ x ∧ x ≤ 255 := fun x h => by
    have h2 : (decide (0 ≤ x) && decide (x ≤ 255)) = true := h
    simpa using h2
  have k32 : ∀ x : Int, (Lit.int .u32 x).wf = true → 0 ≤ x ∧ x ≤ 4294967295 := fun x h => by
    have h2 : (decide (0 ≤ x) && decide (x ≤ 4294967295)) = true := h
    simpa using h2
  obtain ⟨h0, h1⟩ := r4 (n := n) (d := d) (pa := pa) (de := de) (so := so) (la := la) (inc := inc) (t' := t') (g' := g') (n' := n') (d' := d') (pa' := pa') (de' := de') (so' := so') (we' := we') (co' := co') (la' := la') (inc' := inc') (ps' := ps') (kk _ ht) (kk _ hg) (kk _ hw) (k32 _ hc) (okP_of hp)
  have he := ev4 t g n d pa de so we co la inc ps t' g' n' d' pa' de' so' we' co' la' inc' ps'
  rw [h1, h0, cond_true] at he
  exact (fn_ok mixed plain (gk_ok kU_ok 30) Try.func4 (fun c _ => LoopsOK.none (fun _ _ => rfl) c) he).2
end Go.Proofs.Gv
