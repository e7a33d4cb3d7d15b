/-
FrameBack: what is put is read as it was, or is a fault.
-/
import Derived.Test.YtndephedgodneaaGaFr15
import Derived.Test.YtndephedgodneaaGaFr16
import Derived.Test.YtndephedgodneaaGaFr17
import Derived.Test.YtndephedgodneaaGpFr10
import Derived.Test.YtndephedgodneaaGwA
import Derived.Test.YtndephedgodneaaGwK
import Derived.KernelRfl
namespace Go.Proofs.Gv
open Go.Proofs
set_option linter.unusedVariables false
set_option linter.unusedSimpArgs false
/-! Conditions. -/
theorem orF {a b : Bool} (h : (bif a then true else b) = false) : a = false ∧ b = false := by cases a <;> simp_all
theorem andF {a b : Bool} (h : (bif a then b else false) = false) (ha : a = true) : b = false := by subst ha; exact h
theorem ifZ {c : Bool} {k x : Int} (hk : k ≠ 0) (h : (bif c then k else x) = 0) : c = false ∧ x = 0 := by
  cases c
  · exact ⟨rfl, h⟩
  · exact absurd h hk
theorem bne0 {x : Int} (h : (x != 0) = false) : x = 0 := by simpa using h
theorem rng9 {x : Int} (h : vev49_0 x = true) : 0 ≤ x ∧ x ≤ 2147483647 := by
  unfold vev49_0 at h
  cases a : decide (x ≥ 0) with
  | false => rw [a] at h; cases h
  | true =>
    rw [a] at h
    have h2 : decide (x ≤ 2147483647) = true := h
    exact ⟨of_decide_eq_true a, of_decide_eq_true h2⟩
/-! Bytes. -/
theorem iB_in {x : Int} (h : 0 ≤ x ∧ x ≤ 255) : isB [AV.int IntKind.u8 x] = true := by
  unfold isB
  show (decide (0 ≤ x) && decide (x ≤ 255)) = true
  rw [decide_eq_true h.1, decide_eq_true h.2]
  rfl
theorem iB_bY (x m : Int) : isB (bY x m) = true := iB_in (by omega)
theorem iB_of (b : UInt8) : isB (ofB b) = true := iB_in (by have := b.toNat_lt; omega)
theorem iB_map (l : List UInt8) : (l.map ofB).all isB = true := by
  rw [List.all_eq_true]
  intro x hx
  obtain ⟨b, _, rfl⟩ := List.mem_map.1 hx
  exact iB_of b
theorem iB_n4 (x : Int) : (n4 x).all isB = true := by simp only [n4, List.all_cons, List.all_nil, iB_bY, Bool.and_self]
theorem iB_n2 (x : Int) : (n2 x).all isB = true := by simp only [n2, List.all_cons, List.all_nil, iB_bY, Bool.and_self]
theorem iB_ps (ps : List (List AV)) : (psR ps).all isB = true := by
  induction ps with
  | nil => rfl
  | cons p ps ih =>
    have e : psR (p :: ps) = (n2 (intOf (p.getD 0 AV.junk)) ++ n4 (intOf (p.getD 1 AV.junk))) ++ psR ps := rfl
    rw [e, List.all_append, List.all_append, ih, iB_n2, iB_n4]
    rfl
theorem iB_wgt {de we : Int} (so : Bool) (hd : 0 ≤ de ∧ de ≤ 2147483647) (hw : 0 ≤ we ∧ we ≤ 255) : (wgt de so we).all isB = true := by
  have h : isB [AV.int IntKind.u8 (de / 16777216 % 256 + 128)] = true := iB_in (by omega)
  cases so <;> simp only [wgt, cond_true, cond_false, List.all_cons, List.all_nil, iB_bY, iB_in hw, h, Bool.and_self]
theorem iB_if {c : Bool} {l : List (List AV)} (h : l.all isB = true) : (bif c then l else []).all isB = true := by cases c <;> first | rfl | exact h
theorem iB_pay {P W : Bool} {t : Int} {d : List UInt8} {pa de : Int} {so : Bool} {we co la inc : Int} {ps : List (List AV)} (ha : 0 ≤ pa ∧ pa ≤ 255) (hd : 0 ≤ de ∧ de ≤ 2147483647) (hw : 0 ≤ we ∧ we ≤ 255) : (payN P W t d pa de so we co la inc ps).all isB = true := by
  unfold payN
  simp only [List.all_append]
  rw [iB_if (by simp only [List.all_cons, List.all_nil, iB_in ha, Bool.and_self]), iB_if (iB_wgt so hd hw), iB_if (iB_n4 la), iB_if (iB_n4 co), iB_if (iB_ps ps), iB_if (iB_n4 inc), iB_map, iB_map]
  rfl
theorem all_go (l : List (List AV)) : (List.brecOn.go (motive := fun x => (List AV → Bool) → Bool) l List.all._f).1 isB = l.all isB := by kernel_rfl
theorem all_set {l : List (List AV)} {i : Nat} {x : List AV} (h : l.all isB = true) (hx : isB x = true) : (l.set i x).all isB = true := by
  rw [List.all_eq_true] at h ⊢
  intro y hy
  rcases List.mem_or_eq_of_mem_set hy with hy | hy
  · exact h y hy
  · rw [hy]; exact hx
/-! Settings. -/
theorem e44 (k1 k2 : Tk) (ps : List (List AV)) (hl : ps.length ≤ 300) : Ends (g44_4 (k1, ps, k2, ps)) (n44_4 (k1, ps, k2, ps)) (0 : Int) (ps.length : Int) := by
  refine Ends.count (go := g44_4 (k1, ps, k2, ps)) (next := n44_4 (k1, ps, k2, ps)) ps.length (fun i => (i : Int)) (fun i hi => ⟨?_, ?_⟩) ?_
  · unfold g44_4 go44_4
    dsimp only
    rw [decide_eq_true (show (i : Int) < (ps.length : Int) by omega), decide_eq_true (show (0 : Int) ≤ (i : Int) by omega)]
    simp only [beq_self_eq_true, Bool.and_self, Bool.not_true, cond_true, cond_false]
  · unfold n44_4 nx44_4_4
    exact wrapN i ps.length hi (by omega)
  · unfold g44_4 go44_4
    dsimp only
    rw [decide_eq_false (by omega)]
    rfl
theorem q44 (k1 k2 : Tk) (ps : List (List AV)) (hl : ps.length ≤ 300) : vev44_0 k1 ps k2 ps = true ∧ vev44_1 k1 ps k2 ps = true := by
  have f := (e44 k1 k2 ps hl).fin
  unfold vev44_0 vev44_1 rev44_0
  simp only [spI]
  rw [f.2, f.1]
  unfold y44_4 z44_4 xc44_4_0 xc44_4_1
  dsimp only
  rw [decide_eq_false (show ¬ ((ps.length : Int) < (ps.length : Int)) by omega)]
  simp only [bne_self_eq_false, cond_true, cond_false, List.any_cons, List.any_nil, Bool.or_true, Bool.or_false, Bool.true_and, and_self]
theorem q53 (ps : List (List AV)) (hl : ps.length ≤ 300) : vev53_0 .imm ps .imm ps = true ∧ vev53_1 .imm ps .imm ps = true := q44 .imm .imm ps hl
theorem same23 (t g n : Int) (d : List UInt8) (pa de : Int) (so : Bool) (we co la inc : Int) (ps : List (List AV)) (hl : ps.length ≤ 300) : vev23_0 t g n d pa de so we co la inc ps t g n d pa de so we co la inc ps = true ∧ vev23_1 t g n d pa de so we co la inc ps t g n d pa de so we co la inc ps = true := by
  obtain ⟨h0, h1⟩ := q53 ps hl
  unfold vev23_0 vev23_1
  rw [h0, h1]
  simp only [beq_self_eq_true, cond_true, and_self]
theorem z23n : vev23n_0 0 0 0 [] 0 0 false 0 0 0 0 [] 0 0 0 [] 0 0 false 0 0 0 0 = true ∧ vev23n_1 0 0 0 [] 0 0 false 0 0 0 0 [] 0 0 0 [] 0 0 false 0 0 0 0 = true := ⟨by kernel_rfl, by kernel_rfl⟩
/-! A head. -/
theorem two24u : (2 : Int) ^ min (Int.toNat 24) IntKind.u32.bits = 16777216 := by decide
theorem two16u : (2 : Int) ^ min (Int.toNat 16) IntKind.u32.bits = 65536 := by decide
theorem two8u : (2 : Int) ^ min (Int.toNat 8) IntKind.u32.bits = 256 := by decide
theorem head_read {k t g n : Int} (hk : 0 ≤ k ∧ k ≤ 16384) (ht : 0 ≤ t ∧ t ≤ 255) (hg : 0 ≤ g ∧ g ≤ 255) (hn : 0 ≤ n ∧ n ≤ 2147483647) (N : List (List AV)) :
    vev24_0 .lent (hR k t g n ++ N) = k ∧ vev24_1 .lent (hR k t g n ++ N) = t ∧ vev24_2 .lent (hR k t g n ++ N) = g ∧ vev24_3 .lent (hR k t g n ++ N) = n := by
  have hl : ((hR k t g n ++ N).length : Int) = 9 + N.length := by rw [List.length_append, show (hR k t g n).length = 9 from rfl]; omega
  have hd : decide (((hR k t g n ++ N).length : Int) < 9) = false := decide_eq_false (by omega)
  have uk : IntKind.u32.wrap k = k := wrapU k (by omega) (by omega)
  have un : IntKind.u32.wrap n = n := wrapU n (by omega) (by omega)
  have b0 : intOf (((hR k t g n ++ N).getD 0 []).getD 0 AV.junk) = k / 65536 % 256 := by
    show IntKind.u8.wrap ((IntKind.u32.wrap k).fdiv ((2 : Int) ^ min (Int.toNat (16 : Int)) IntKind.u32.bits)) = _
    rw [uk, two16u, fd _ _ (by omega), wrapB]
  have b1 : intOf (((hR k t g n ++ N).getD 1 []).getD 0 AV.junk) = k / 256 % 256 := by
    show IntKind.u8.wrap ((IntKind.u32.wrap k).fdiv ((2 : Int) ^ min (Int.toNat (8 : Int)) IntKind.u32.bits)) = _
    rw [uk, two8u, fd _ _ (by omega), wrapB]
  have b2 : intOf (((hR k t g n ++ N).getD 2 []).getD 0 AV.junk) = k % 256 := by
    show IntKind.u8.wrap (IntKind.u32.wrap k) = _
    rw [uk, wrapB]
  have b5 : intOf (((hR k t g n ++ N).getD 5 []).getD 0 AV.junk) = n / 16777216 % 256 := by
    show IntKind.u8.wrap ((IntKind.u32.wrap n).fdiv ((2 : Int) ^ min (Int.toNat (24 : Int)) IntKind.u32.bits)) = _
    rw [un, two24u, fd _ _ (by omega), wrapB]
  have b6 : intOf (((hR k t g n ++ N).getD 6 []).getD 0 AV.junk) = n / 65536 % 256 := by
    show IntKind.u8.wrap ((IntKind.u32.wrap n).fdiv ((2 : Int) ^ min (Int.toNat (16 : Int)) IntKind.u32.bits)) = _
    rw [un, two16u, fd _ _ (by omega), wrapB]
  have b7 : intOf (((hR k t g n ++ N).getD 7 []).getD 0 AV.junk) = n / 256 % 256 := by
    show IntKind.u8.wrap ((IntKind.u32.wrap n).fdiv ((2 : Int) ^ min (Int.toNat (8 : Int)) IntKind.u32.bits)) = _
    rw [un, two8u, fd _ _ (by omega), wrapB]
  have b8 : intOf (((hR k t g n ++ N).getD 8 []).getD 0 AV.junk) = n % 256 := by
    show IntKind.u8.wrap (IntKind.u32.wrap n) = _
    rw [un, wrapB]
  refine ⟨?_, ?_, ?_, ?_⟩
  · unfold vev24_0
    rw [hd, cond_false, b0, b1, b2, two16u, two8u, wrapU (k / 65536 % 256) (by omega) (by omega), wrapU (k / 65536 % 256 * 65536) (by omega) (by omega), wrapU (k / 256 % 256) (by omega) (by omega), wrapU (k / 256 % 256 * 256) (by omega) (by omega), wrapU (k % 256) (by omega) (by omega),
      or16 (x := k / 65536 % 256 * 65536) (y := k / 256 % 256 * 256) (by omega) (by omega) (by omega) (by omega) (by omega), or8 (x := k / 65536 % 256 * 65536 + k / 256 % 256 * 256) (y := k % 256) (by omega) (by omega) (by omega) (by omega) (by omega), wrapOf _ (by omega) (by omega)]
    omega
  · unfold vev24_1; rw [hd, cond_false]; rfl
  · unfold vev24_2; rw [hd, cond_false]; rfl
  · unfold vev24_3
    rw [hd, cond_false, b5, b6, b7, b8, two24u, two16u, two8u, wrapU (n / 16777216 % 256) (by omega) (by omega), wrapU (n / 16777216 % 256 * 16777216) (by omega) (by omega), wrapU (n / 65536 % 256) (by omega) (by omega), wrapU (n / 65536 % 256 * 65536) (by omega) (by omega), wrapU (n / 256 % 256) (by omega) (by omega), wrapU (n / 256 % 256 * 256) (by omega) (by omega), wrapU (n % 256) (by omega) (by omega),
      or24 (x := n / 16777216 % 256 * 16777216) (y := n / 65536 % 256 * 65536) (by omega) (by omega) (by omega) (by omega) (by omega), or16 (x := n / 16777216 % 256 * 16777216 + n / 65536 % 256 * 65536) (y := n / 256 % 256 * 256) (by omega) (by omega) (by omega) (by omega) (by omega), or8 (x := n / 16777216 % 256 * 16777216 + n / 65536 % 256 * 65536 + n / 256 % 256 * 256) (y := n % 256) (by omega) (by omega) (by omega) (by omega) (by omega), and31 (by omega) (by omega), wrapOf _ (by omega) (by omega)]
    omega
theorem hR_all (k t g n : Int) (ht : 0 ≤ t ∧ t ≤ 255) (hg : 0 ≤ g ∧ g ≤ 255) : (hR k t g n).all isB = true := by
  unfold hR
  simp only [List.all_cons, List.all_nil, wrapB, Bool.and_true, Bool.and_eq_true]
  refine ⟨?_, ?_, ?_, ?_, ?_, ?_, ?_, ?_, ?_⟩ <;> exact iB_in (by omega)
section
variable {t g n : Int} {d : List UInt8} {pa de : Int} {so : Bool} {we co la inc : Int} {ps : List (List AV)}
/-- What a frame that may be put has. -/
theorem fit_of (hw : 0 ≤ we ∧ we ≤ 255) (hc : 0 ≤ co ∧ co ≤ 4294967295) (hq : okQ ps) (he : vev19_0 t g n d pa de so we co la inc ps = 0) :
    Fit t g d pa de so we co la inc ps ∧ (0 ≤ n ∧ n ≤ 2147483647) ∧ (vev45_0 t g n d pa de so we co la inc ps).length ≤ 16384 := by
  unfold vev19_0 at he
  obtain ⟨c1, he⟩ := ifZ (by decide) he
  obtain ⟨c2, he⟩ := ifZ (by decide) he
  obtain ⟨c3, he⟩ := ifZ (by decide) he
  obtain ⟨c4, he⟩ := ifZ (by decide) he
  obtain ⟨c5, he⟩ := ifZ (by decide) he
  obtain ⟨c6, he⟩ := ifZ (by decide) he
  obtain ⟨c7, he⟩ := ifZ (by decide) he
  obtain ⟨c8, he⟩ := ifZ (by decide) he
  have hn := rng9 (x := n) (by simpa using c1)
  have hd := rng9 (x := de) (by simpa using c2)
  have hla := rng9 (x := la) (by simpa using c3)
  have hi := rng9 (x := inc) (by simpa using c4)
  have h5 : ¬ pa < 0 := of_decide_eq_false c5
  have h6 : ¬ pa > 255 := of_decide_eq_false c6
  have h8 : ¬ rev19_0 t g n d pa de so we co la inc ps > 16384 := of_decide_eq_false c8
  unfold rev19_0 at h8
  unfold vev50_0 at c7
  obtain ⟨a1, c7⟩ := orF c7
  obtain ⟨a2, c7⟩ := orF c7
  obtain ⟨a3, c7⟩ := orF c7
  obtain ⟨a4, c7⟩ := orF c7
  obtain ⟨a5, c7⟩ := orF c7
  obtain ⟨a6, c7⟩ := orF c7
  have nd : ∀ {l : List UInt8}, (!l == (ByteArray.mk #[]).data.toList) = false → l = [] := fun {l} h => by
    have h2 : (l == ([] : List UInt8)) = true := by simpa using h
    exact eq_of_beq h2
  refine ⟨⟨⟨by omega, by omega⟩, hd, hw, hc, hla, hi, hq, fun hP => ?_, fun hW => ?_, fun h3 h7 => ?_, fun h7 => ?_, fun h8 => ?_, fun h4 => ?_, fun h4 hk => ?_, fun h => ?_, fun h => ?_⟩, hn, by omega⟩
  · have hP' : vev64_0 t g n d pa de so we co la inc .imm ps = false := hP
    rw [hP'] at a1
    cases hx : (pa != 0) with
    | false => exact bne0 hx
    | true => rw [hx] at a1; cases a1
  · have hW' : vev65_0 t g n d pa de so we co la inc .imm ps = false := hW
    rw [hW'] at a2
    have a2 : (bif de != 0 then true else bif so then true else we != 0) = false := a2
    obtain ⟨e1, a2⟩ := orF a2
    obtain ⟨e2, a2⟩ := orF a2
    exact ⟨bne0 e1, e2, bne0 a2⟩
  · have h3' : (t != 3) = true := by show (!(t == 3)) = true; rw [h3]; rfl
    have h7' : (t != 7) = true := by show (!(t == 7)) = true; rw [h7]; rfl
    rw [h3', h7'] at a3
    cases hx : (co != 0) with
    | false => exact bne0 hx
    | true => rw [hx] at a3; cases a3
  · have h7' : (t != 7) = true := by show (!(t == 7)) = true; rw [h7]; rfl
    rw [h7'] at a4
    cases hx : (la != 0) with
    | false => exact bne0 hx
    | true => rw [hx] at a4; cases a4
  · have h8' : (t != 8) = true := by show (!(t == 8)) = true; rw [h8]; rfl
    rw [h8'] at a5
    cases hx : (inc != 0) with
    | false => exact bne0 hx
    | true => rw [hx] at a5; cases a5
  · have h4' : (t != 4) = true := by show (!(t == 4)) = true; rw [h4]; rfl
    rw [h4'] at a6
    cases hx : decide ((ps.length : Int) > 0) with
    | false => have := of_decide_eq_false hx; exact List.length_eq_zero_iff.1 (by omega)
    | true => rw [hx] at a6; cases a6
  · have hk' : vev56_0 t g n d pa de so we co la inc .imm ps 1 = true := hk
    rw [hk'] at a6
    cases hx : decide ((ps.length : Int) > 0) with
    | false => have := of_decide_eq_false hx; exact List.length_eq_zero_iff.1 (by omega)
    | true => rw [hx] at a6; cases hy : (t != 4) <;> rw [hy] at a6 <;> cases a6
  · rcases h with h | h | h | h <;> subst h <;> exact nd c7
  · subst h
    have h6 : ((d.length : Int) != 8) = false := c7
    have : (d.length : Int) = 8 := by simpa using h6
    omega
theorem pay_ok (hw : 0 ≤ we ∧ we ≤ 255) (hc : 0 ≤ co ∧ co ≤ 4294967295) (s1 : d.length ≤ 140737488351232) (s2 : ps.length * 8 ≤ 140737488355328) : vev19_1 t g n d pa de so we co la inc ps = true := by
  unfold vev19_1
  cases c1 : vev49_0 n with
  | false => rfl
  | true =>
    cases c2 : vev49_0 de with
    | false => rfl
    | true =>
      cases c3 : vev49_0 la with
      | false => rfl
      | true =>
        cases c4 : vev49_0 inc with
        | false => rfl
        | true =>
          cases c5 : decide (pa < 0) with
          | true => rfl
          | false =>
            cases c6 : decide (pa > 255) with
            | true => rfl
            | false =>
              cases c7 : vev50_0 t g n d pa de so we co la inc ps with
              | true => rfl
              | false =>
                have h5 : ¬ pa < 0 := of_decide_eq_false c5
                have h6 : ¬ pa > 255 := of_decide_eq_false c6
                have hl : d.length + 6 * ps.length ≤ 140737488352000 := by
                  unfold vev50_0 at c7
                  obtain ⟨a1, c7⟩ := orF c7
                  obtain ⟨a2, c7⟩ := orF c7
                  obtain ⟨a3, c7⟩ := orF c7
                  obtain ⟨a4, c7⟩ := orF c7
                  obtain ⟨a5, c7⟩ := orF c7
                  obtain ⟨a6, c7⟩ := orF c7
                  cases hx : decide ((ps.length : Int) > 0) with
                  | false => have := of_decide_eq_false hx; omega
                  | true =>
                    rw [hx] at a6
                    cases hy : (t != 4) with
                    | true => rw [hy] at a6; cases a6
                    | false =>
                      have h4 : t = 4 := by simpa using hy
                      subst h4
                      have h2 : (d == ([] : List UInt8)) = true := by
                        have c7' : (!d == (ByteArray.mk #[]).data.toList) = false := c7
                        simpa using c7'
                      have := eq_of_beq h2
                      subst this
                      rw [List.length_nil]
                      omega
                have := (r45 (t := t) (g := g) (n := n) (d := d) (pa := pa) (de := de) (so := so) (we := we) (co := co) (la := la) (inc := inc) (ps := ps) (by omega) (rng9 c2) hc (rng9 c3) (rng9 c4) hl).2
                rw [this]
                rfl
end
section
variable {t g n : Int} {d : List UInt8} {pa de : Int} {so : Bool} {we co la inc : Int} {ps : List (List AV)} {sp : Int} (ht : 0 ≤ t ∧ t ≤ 255) (hg : 0 ≤ g ∧ g ≤ 255) (hw : 0 ≤ we ∧ we ≤ 255) (hc : 0 ≤ co ∧ co ≤ 4294967295) (hq : okQ ps) (s1 : d.length ≤ 140737488351232) (s2 : ps.length * 8 ≤ 140737488355328)
include hw hc s1 s2
theorem r7e (he : 1 ≤ vev19_0 t g n d pa de so we co la inc ps) (h2 : vev17r_2 t g n d pa de so we co la inc ps = true) : vev7e_1 t g n d pa de so we co la inc ps sp = true ∧ vev7e_0 t g n d pa de so we co la inc ps sp = true := by
  have e1 : rev7e_1 t g n d pa de so we co la inc ps sp = vev19_0 t g n d pa de so we co la inc ps := by unfold rev7e_1 rev7e_0; omega
  have hne : (vev19_0 t g n d pa de so we co la inc ps != 0) = true := bne_iff_ne.2 (by omega)
  have h19 := pay_ok (t := t) (g := g) (n := n) (d := d) (pa := pa) (de := de) (so := so) (we := we) (co := co) (la := la) (inc := inc) (ps := ps) hw hc s1 s2
  have e0 : rev7e_0 t g n d pa de so we co la inc ps sp = vev19_0 t g n d pa de so we co la inc ps := rfl
  unfold vev7e_0 vev7e_1
  rw [e1, e0, hne, h19, h2, decide_eq_true he, beq_self_eq_true]
  cases vev16_0 t g n d pa de so we co la inc ps <;> exact ⟨rfl, rfl⟩
include hq
theorem put_ok : vev17r_2 t g n d pa de so we co la inc ps = true := by
  have h19 := pay_ok (t := t) (g := g) (n := n) (d := d) (pa := pa) (de := de) (so := so) (we := we) (co := co) (la := la) (inc := inc) (ps := ps) hw hc s1 s2
  unfold vev17r_2 rev17r_2 rev17r_1 rev17r_0
  rw [h19, cond_true]
  cases hz : (vev19_0 t g n d pa de so we co la inc ps != 0) with
  | true => rfl
  | false =>
    have h0 := bne0 hz
    obtain ⟨F, hn, hl⟩ := fit_of hw hc hq h0
    have h45 : vev45_1 t g n d pa de so we co la inc ps = true := by
      unfold vev19_0 at h0
      obtain ⟨c1, h0⟩ := ifZ (by decide) h0
      obtain ⟨c2, h0⟩ := ifZ (by decide) h0
      obtain ⟨c3, h0⟩ := ifZ (by decide) h0
      obtain ⟨c4, h0⟩ := ifZ (by decide) h0
      obtain ⟨c5, h0⟩ := ifZ (by decide) h0
      obtain ⟨c6, h0⟩ := ifZ (by decide) h0
      obtain ⟨c7, h0⟩ := ifZ (by decide) h0
      unfold vev19_1 at h19
      rw [c1, c2, c3, c4, c5, c6, c7] at h19
      cases hv : vev45_1 t g n d pa de so we co la inc ps with
      | true => rfl
      | false => rw [hv] at h19; cases h19
    have l1 : ∀ L, (hR L t g n).length = 9 := fun _ => rfl
    rw [h45]
    unfold hB
    rw [l1, decide_eq_false (show ¬ ((vev45_0 t g n d pa de so we co la inc ps).length : Int) < 0 by omega), decide_eq_false (show ¬ ((vev45_0 t g n d pa de so we co la inc ps).length : Int) > 16777215 by omega), decide_eq_false (show ¬ n < 0 by omega), decide_eq_false (show ¬ n > 2147483647 by omega), decide_eq_true (show (9 + (vev45_0 t g n d pa de so we co la inc ps).length) * 1 ≤ 140737488355328 by omega), decide_eq_true (show 9 + (vev45_0 t g n d pa de so we co la inc ps).length ≤ 9223372036854775807 by omega)]
    rfl
theorem r7f (he : vev19_0 t g n d pa de so we co la inc ps = 0) (hL : vev16_0 t g n d pa de so we co la inc ps = false) : vev7f_0 t g n d pa de so we co la inc ps sp = true := by
  unfold vev7f_0
  rw [put_ok hw hc hq s1 s2, he, hL]
  rfl
include ht hg
set_option maxHeartbeats 1000000 in
theorem r7t (hsp : 0 ≤ sp ∧ sp ≤ 255) (he : vev19_0 t g n d pa de so we co la inc ps = 0) (hL : vev16_0 t g n d pa de so we co la inc ps = true) : vev7t_1 t g n d pa de so we co la inc ps sp = true ∧ vev7t_0 t g n d pa de so we co la inc ps sp = true := by
  obtain ⟨F, hn, hl⟩ := fit_of hw hc hq he
  have hput := put_ok hw hc hq s1 s2 (t := t) (g := g) (n := n) (d := d) (pa := pa) (de := de) (so := so) (la := la) (inc := inc)
  have h19 := pay_ok (t := t) (g := g) (n := n) (d := d) (pa := pa) (de := de) (so := so) (we := we) (co := co) (la := la) (inc := inc) (ps := ps) hw hc s1 s2
  have hdl : d.length ≤ 400 ∧ ps.length ≤ 40 := by
    unfold vev16_0 at hL
    cases c1 : decide ((d.length : Int) ≤ 400) with
    | false => rw [c1] at hL; cases hL
    | true =>
      rw [c1] at hL
      have c2 : decide ((ps.length : Int) ≤ 40) = true := hL
      have := of_decide_eq_true c1
      have := of_decide_eq_true c2
      omega
  obtain ⟨hS0, hS1⟩ := same23 t g n d pa de so we co la inc ps (by omega)
  obtain ⟨N, hN⟩ : ∃ N, vev45_0 t g n d pa de so we co la inc ps = N := ⟨_, rfl⟩
  have r := (r45 (t := t) (g := g) (n := n) (d := d) (pa := pa) (de := de) (so := so) (we := we) (co := co) (la := la) (inc := inc) (ps := ps) F.ha F.hd hc F.hla F.hi (by omega)).1
  rw [hN] at r hl
  have hk : (0 : Int) ≤ (N.length : Int) ∧ (N.length : Int) ≤ 16384 := by omega
  have hb : bR t g n d pa de so we co la inc ps = hR (N.length : Int) t g n ++ N := by unfold bR; rw [hN]
  obtain ⟨q0, q1, q2, q3⟩ := head_read hk ht hg hn N
  have l9 : (hR (N.length : Int) t g n).length = 9 := rfl
  have E0 : rev7t_0 t g n d pa de so we co la inc ps sp = hR (N.length : Int) t g n ++ N := hb
  have E1 : rev7t_1 t g n d pa de so we co la inc ps sp = (N.length : Int) := by unfold rev7t_1; rw [E0, q0]
  have E2 : rev7t_2 t g n d pa de so we co la inc ps sp = 9 + (N.length : Int) := by unfold rev7t_2; rw [E0, List.length_append, l9]; omega
  have E3 : rev7t_3 t g n d pa de so we co la inc ps sp = 8 + (N.length : Int) := by unfold rev7t_3; rw [E2, wrapOf _ (by omega) (by omega)]; omega
  have E9 : rev7t_9 t g n d pa de so we co la inc ps sp = t := by unfold rev7t_9; rw [E0, q1]
  have E10 : rev7t_10 t g n d pa de so we co la inc ps sp = g := by unfold rev7t_10; rw [E0, q2]
  have E11 : rev7t_11 t g n d pa de so we co la inc ps sp = n := by unfold rev7t_11; rw [E0, q3]
  have v21 : vev21_0 t g n d pa de so we co la inc ps = (N.length : Int) ∧ vev21_1 t g n d pa de so we co la inc ps = true := by
    have h45 : vev45_1 t g n d pa de so we co la inc ps = true := (r45 (t := t) (g := g) (n := n) (d := d) (pa := pa) (de := de) (so := so) (we := we) (co := co) (la := la) (inc := inc) (ps := ps) F.ha F.hd hc F.hla F.hi (by omega)).2
    unfold vev21_0 vev21_1
    rw [he, hN, h19, h45]
    exact ⟨rfl, rfl⟩
  have w9 : IntKind.i64.wrap (9 + (N.length : Int) - 9) = (N.length : Int) := by rw [wrapOf _ (by omega) (by omega)]; omega
  have hnn : ((N.length : Int) != (N.length : Int)) = false := by simp
  have h00 : ((0 : Int) != 0) = false := rfl
  have nilE' : ((ByteArray.mk #[]).data.toList : List UInt8) = [] := rfl
  have hal : N.all isB = true := by rw [r]; exact iB_pay F.ha F.hd hw
  by_cases hp : pa > 0
  · have hNl : 0 < N.length := by
      rw [r]
      unfold payN
      simp only [List.length_append, List.length_map, List.length_replicate]
      omega
    have e6 : rev7t_6 t g n d pa de so we co la inc ps sp = hR (N.length : Int) t g n ++ N.set (N.length - 1) [AV.int IntKind.u8 sp] := by
      have e : rev7t_6 t g n d pa de so we co la inc ps sp = (bR t g n d pa de so we co la inc ps).set (rev7t_3 t g n d pa de so we co la inc ps sp).toNat [AV.int IntKind.u8 sp] := rfl
      rw [e, hb, E3, show (8 + (N.length : Int)).toNat = 9 + (N.length - 1) by omega, List.set_append_right _ _ (by rw [l9]; omega), l9, Nat.add_sub_cancel_left]
    have E7 : rev7t_7 t g n d pa de so we co la inc ps sp = 9 + (N.length : Int) := by unfold rev7t_7; rw [e6, List.length_append, l9, List.length_set]; omega
    have E8 : rev7t_8 t g n d pa de so we co la inc ps sp = N.set (N.length - 1) [AV.int IntKind.u8 sp] := by
      unfold rev7t_8
      rw [e6, show Int.toNat 9 = 9 from rfl, List.length_append, l9, Nat.add_sub_cancel_left, show List.drop 9 (hR (N.length : Int) t g n ++ N.set (N.length - 1) [AV.int IntKind.u8 sp]) = N.set (N.length - 1) [AV.int IntKind.u8 sp] from rfl, List.take_of_length_le (by omega)]
    have B8 : (List.brecOn.go (motive := fun x => (List AV → Bool) → Bool) (rev7t_8 t g n d pa de so we co la inc ps sp) List.all._f).1 isB = true := by
      rw [all_go, E8]
      exact all_set hal (iB_in hsp)
    have E12 : rev7t_12 t g n d pa de so we co la inc ps sp = payS (vev64_0 t g n d pa de so we co la inc .imm ps) (vev65_0 t g n d pa de so we co la inc .imm ps) t d (List.replicate (pa.toNat - 1) 0 ++ [ub sp]) pa de so we co la inc ps := by
      unfold rev7t_12
      rw [E8, r]
      exact pay_spoil _ _ t d pa de so we co la inc ps sp hp
    have hz : (List.replicate (pa.toNat - 1) (0 : UInt8) ++ [ub sp]).length = pa.toNat := by rw [List.length_append, List.length_replicate, List.length_singleton]; omega
    have hrd := rdPay (l := (N.length : Int)) (n := n) F hz hdl.1 hdl.2
    rw [← E12] at hrd
    have c1 : decide ((0 : Int) ≤ 8 + (N.length : Int)) = true := decide_eq_true (by omega)
    have c2 : decide (8 + (N.length : Int) < 9 + (N.length : Int)) = true := decide_eq_true (by omega)
    have c3 : decide ((9 : Int) ≤ 9 + (N.length : Int)) = true := decide_eq_true (by omega)
    have c4 : decide (9 + (N.length : Int) ≤ 9 + (N.length : Int)) = true := decide_eq_true (by omega)
    unfold vev7t_0 vev7t_1
    rw [hput, he, hL, E1, E2, E3, E7, w9, v21.1, v21.2, hnn, decide_eq_true hp, B8, c1, c2, c3, c4]
    unfold rev7t_13 rev7t_14 rev7t_26 rev7t_15 rev7t_16 rev7t_17 rev7t_18 rev7t_19 rev7t_20 rev7t_21 rev7t_22 rev7t_23 rev7t_24 rev7t_25
    rw [E1, E9, E10, E11]
    generalize rev7t_12 t g n d pa de so we co la inc ps sp = s at hrd
    rcases hrd with ⟨f0, f1, d0, d1, d2, d3, d4, d5, d6, d7, d8, d9, d10, d11⟩ | ⟨d0, d1, d2, d3, d4, d5, d6, d7, d8, d9, d10, d11, f0, f2, f1⟩
    · have f0' : decide (vev12_12 (N.length : Int) t g n s = 0) = false := decide_eq_false (by simpa using f0)
      rw [f0', f1, d0, d1, d2, d3, d4, d5, d6, d7, d8, d9, d10, d11, nilE', z23n.1, z23n.2]
      exact ⟨rfl, rfl⟩
    · rw [d0, d1, d2, d3, d4, d5, d6, d7, d8, d9, d10, d11, f0, f1, f2, hS0, hS1, h19, he]
      exact ⟨rfl, rfl⟩
  · have E27 : rev7t_27 t g n d pa de so we co la inc ps sp = N := by
      unfold rev7t_27
      rw [E0, show Int.toNat 9 = 9 from rfl, List.length_append, l9, Nat.add_sub_cancel_left, show List.drop 9 (hR (N.length : Int) t g n ++ N) = N from rfl, List.take_of_length_le (Nat.le_refl _)]
    have E28 : rev7t_28 t g n d pa de so we co la inc ps sp = payS (vev64_0 t g n d pa de so we co la inc .imm ps) (vev65_0 t g n d pa de so we co la inc .imm ps) t d (List.replicate pa.toNat 0) pa de so we co la inc ps := by
      unfold rev7t_28
      rw [E27, r]
      exact pay_map _ _ t d pa de so we co la inc ps
    have hrd := rdPay (l := (N.length : Int)) (n := n) F (List.length_replicate (n := pa.toNat) (a := (0 : UInt8))) hdl.1 hdl.2
    rw [← E28] at hrd
    have c1 : bnd 9 (9 + (N.length : Int)) (9 + (N.length : Int)) = true := bndT (by omega) (by omega) (by omega)
    unfold vev7t_0 vev7t_1
    rw [hput, he, hL, E1, E2, w9, v21.1, v21.2, hnn, decide_eq_false hp, E27, hal, c1]
    unfold rev7t_29 rev7t_30 rev7t_31 rev7t_32 rev7t_33 rev7t_34 rev7t_35 rev7t_36 rev7t_37 rev7t_38 rev7t_39
    rw [E1, E9, E10, E11]
    generalize rev7t_28 t g n d pa de so we co la inc ps sp = s at hrd
    rcases hrd with ⟨f0, f1, d0, d1, d2, d3, d4, d5, d6, d7, d8, d9, d10, d11⟩ | ⟨d0, d1, d2, d3, d4, d5, d6, d7, d8, d9, d10, d11, f0, f2, f1⟩
    · rw [f0, f1, d0, d1, d2, d3, d4, d5, d6, d7, d8, d9, d10, d11, nilE', z23n.1, z23n.2]
      exact ⟨rfl, rfl⟩
    · rw [d0, d1, d2, d3, d4, d5, d6, d7, d8, d9, d10, d11, f0, f1, f2, hS0, hS1, h19, he]
      exact ⟨rfl, rfl⟩
end
theorem okQ_of {ps : List (List AV)} (h : ∀ e ∈ ps, okKL [.int .u16, .int .u32] e) : okQ ps := by
  intro e he
  have hk := h _ he
  simp only [okKL, okK] at hk
  obtain ⟨x, xs, e1, ⟨a, rfl, wa⟩, y, ys, rfl, ⟨b, rfl, wb⟩, rfl⟩ := hk
  have h1 : (decide (0 ≤ a) && decide (a ≤ 65535)) = true := wa
  have h2 : (decide (0 ≤ b) && decide (b ≤ 4294967295)) = true := wb
  simp only [Bool.and_eq_true, decide_eq_true_eq] at h1 h2
  exact ⟨a, b, e1, h1, h2⟩
theorem law7 {t g n : Int} {d : List UInt8} {pa de : Int} {so : Bool} {we co la inc : Int} {ps : List (List AV)} {sp : Int} (ht : (Lit.int .u8 t).wf = true) (hg : (Lit.int .u8 g).wf = true) (hw : (Lit.int .u8 we).wf = true) (hc : (Lit.int .u32 co).wf = true) (hp : ∀ e ∈ ps, okKL [.int .u16, .int .u32] e) (hs : (Lit.int .u8 sp).wf = true) (s1 : d.length ≤ 140737488351232) (s2 : ps.length * 8 ≤ 140737488355328) :
    FnOK Try.prog 7 [.agg [.int .u8 t, .int .u8 g, .int .i64 n, .str d, .int .i64 pa, .int .i64 de, .bool so, .int .u8 we, .int .u32 co, .int .i64 la, .int .i64 inc, .sl .imm [.int .u16, .int .u32] ps], .int .u8 sp] [] (.bool true) [] := by
  have kk : ∀ x : Int, (Lit.int .u8 x).wf = true → 0 ≤ x ∧ x ≤ 255 := fun x h => by
    have h2 : (decide (0 ≤ x) && decide (x ≤ 255)) = true := h
    simpa using h2
  have hc : 0 ≤ co ∧ co ≤ 4294967295 := by
    have h2 : (decide (0 ≤ co) && decide (co ≤ 4294967295)) = true := hc
    simpa using h2
  have ht := kk _ ht
  have hg := kk _ hg
  have hw := kk _ hw
  have hs := kk _ hs
  have hq := okQ_of hp
  have h0 : 0 ≤ vev19_0 t g n d pa de so we co la inc ps := by
    unfold vev19_0
    cases vev49_0 n <;> cases vev49_0 de <;> cases vev49_0 la <;> cases vev49_0 inc <;> cases decide (pa < 0) <;> cases decide (pa > 255) <;> cases vev50_0 t g n d pa de so we co la inc ps <;> cases decide (rev19_0 t g n d pa de so we co la inc ps > 16384) <;> decide
  rcases Int.lt_or_le 0 (vev19_0 t g n d pa de so we co la inc ps) with he | he
  · obtain ⟨a1, a0⟩ := r7e (sp := sp) hw hc s1 s2 he (put_ok hw hc hq s1 s2)
    have hx := ev7e t g n d pa de so we co la inc ps sp
    rw [a1, a0, cond_true] at hx
    exact (fn_ok mixed plain (gk_ok k17e_ok 30) Try.func7 (fun c _ => LoopsOK.none (fun _ _ => rfl) c) hx).2
  · have he : vev19_0 t g n d pa de so we co la inc ps = 0 := by omega
    rcases bcase (vev16_0 t g n d pa de so we co la inc ps) with hL | hL
    · obtain ⟨a1, a0⟩ := r7t (sp := sp) ht hg hw hc hq s1 s2 hs he hL
      have hx := ev7t t g n d pa de so we co la inc ps sp
      rw [a1, a0, cond_true] at hx
      exact (fn_ok mixed plain (gk_ok k16t_ok 30) Try.func7 (fun c _ => LoopsOK.none (fun _ _ => rfl) c) hx).2
    · have a1 := r7f (sp := sp) hw hc hq s1 s2 he hL
      have hx := ev7f t g n d pa de so we co la inc ps sp
      rw [a1, cond_true] at hx
      exact (fn_ok mixed plain (gk_ok k16f_ok 30) Try.func7 (fun c _ => LoopsOK.none (fun _ _ => rfl) c) hx).2
end Go.Proofs.Gv
