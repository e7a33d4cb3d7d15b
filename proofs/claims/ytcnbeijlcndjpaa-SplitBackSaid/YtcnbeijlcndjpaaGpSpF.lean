/-
What a stream's state and its frames are when bytes come: split and its document tell the same.
-/
import Derived.Test.YtcnbeijlcndjpaaGpSpC
import Derived.Test.YtcnbeijlcndjpaaGwA
namespace Go.Proofs.Gv
open Go.Proofs
set_option linter.unusedVariables false
theorem byRow {x : List AV} (h : okKL [.int .u8] x) : ofB (byteOf x) = x := by
  simp only [okKL, okK] at h
  obtain ⟨_, _, rfl, ⟨a, rfl, h⟩, rfl⟩ := h
  have h' : 0 ≤ a ∧ a ≤ 255 := by
    have h2 : (decide (0 ≤ a) && decide (a ≤ 255)) = true := h
    simpa using h2
  unfold ofB byteOf
  have e : intOf ([AV.int .u8 a].getD 0 .junk) = a := rfl
  rw [e, UInt8.toNat_ofNat']
  rw [Nat.mod_eq_of_lt (by omega), Int.toNat_of_nonneg h'.1]
theorem byRows {bs : List (List AV)} (h : ∀ x ∈ bs, okKL [.int .u8] x) : (bs.map byteOf).map ofB = bs := by
  rw [List.map_map]
  conv => rhs; rw [← List.map_id bs]
  exact List.map_congr_left fun x hx => byRow (h x hx)
theorem byteOf_ofB (b : UInt8) : byteOf (ofB b) = b := by
  unfold byteOf ofB
  have e : intOf ([AV.int .u8 (b.toNat : Int)].getD 0 .junk) = (b.toNat : Int) := rfl
  rw [e, Int.toNat_natCast]
  simp
theorem map_byteOf (l : List UInt8) : (l.map ofB).map byteOf = l := by
  rw [List.map_map]
  conv => rhs; rw [← List.map_id l]
  exact List.map_congr_left fun x _ => byteOf_ofB x
theorem all_isB (l : List UInt8) : (l.map ofB).all isB = true := by
  rw [List.all_eq_true]
  intro x hx
  obtain ⟨b, _, rfl⟩ := List.mem_map.1 hx
  have := b.toNat_lt
  have e : intOf ((ofB b).getD 0 .junk) = (b.toNat : Int) := rfl
  unfold isB
  rw [e, decide_eq_true (by omega), decide_eq_true (by omega)]
  rfl
abbrev St3 := Int × List UInt8 × Bool × List (List AV) × Int
/-- What becomes of a state that may be. -/
def feedM (g : Nat) (s l : List UInt8) : St3 :=
  match greetM g l with
  | none => (0, [], true, [], 1)
  | some (g', r) => if whole (cutF (s ++ r)).2 < 0 then (0, [], true, (cutF (s ++ r)).1, 6) else (g', (cutF (s ++ r)).2, false, (cutF (s ++ r)).1, 0)
theorem gN_le (g : Nat) (l : List UInt8) : gN g l ≤ l.length := by unfold gN; omega
theorem greet_len : ∀ (l : List UInt8) (g : Nat) (g' : Nat) (r : List UInt8), greetM g l = some (g', r) → r.length ≤ l.length := by
  intro l g g' r h
  rcases greet_cases g l with h1 | ⟨i, h1, h2, h3⟩
  · rw [greet_some l g h1] at h
    injection h with h
    injection h with _ h
    subst h
    simp
  · rw [greet_none i l g h1 h2] at h
    cases h
section
variable {g : Nat} {s l : List UInt8} {d : Bool}
theorem emp (d : Bool) : (bif bif d then bif ((g : Int)) != (0 : Int) then true else !s == ([] : List UInt8) else false then true else false) = (d && (((g : Int) != 0) || !(s == []))) := by
  cases d <;> cases ((g : Int) != 0) <;> cases (s == []) <;> rfl
/-- A state that may be, and is not dead. -/
structure May (g : Nat) (s : List UInt8) : Prop where
  hg : g ≤ 24
  he : g < 24 → s = []
  hw : whole s = 0
theorem may_of {g : Int} (hs : s.length ≤ 1000000) (h : vev24_0 g s false = 0) : ∃ n : Nat, g = (n : Int) ∧ May n s := by
  unfold vev24_0 at h
  rw [(r32 hs).1, nil_eq, cond_false, cond_false] at h
  by_cases c1 : g < 0
  · rw [decide_eq_true c1] at h; cases h
  · rw [decide_eq_false c1, cond_false] at h
    by_cases c2 : g > 24
    · rw [decide_eq_true c2] at h; cases h
    · rw [decide_eq_false c2, cond_false] at h
      obtain ⟨n, rfl⟩ := Int.eq_ofNat_of_zero_le (show 0 ≤ g by omega)
      refine ⟨n, rfl, by omega, fun hn => ?_, ?_⟩
      · rw [decide_eq_true (show (n : Int) < 24 by omega), cond_true] at h
        cases s with
        | nil => rfl
        | cons a s => cases h
      · by_cases hw : whole s = 0
        · exact hw
        · have : (whole s != 0) = true := bne_iff_ne.2 hw
          rw [this] at h
          cases hq : (bif decide ((n : Int) < 24) then !s == ([] : List UInt8) else false) <;> rw [hq] at h <;> cases h
theorem May.check (h : May g s) (hs : s.length ≤ 1000000) : vev24_0 (g : Int) s false = 0 := by
  unfold vev24_0
  have hg := h.hg
  rw [(r32 hs).1, nil_eq, cond_false, cond_false, decide_eq_false (show ¬ ((g : Int) < 0) by omega), cond_false, decide_eq_false (show ¬ ((g : Int) > 24) by omega), cond_false, h.hw]
  by_cases c : g < 24
  · rw [h.he c, decide_eq_true (show (g : Int) < 24 by omega)]
    rfl
  · rw [decide_eq_false (show ¬ ((g : Int) < 24) by omega)]
    rfl
theorem Q19 (h : May g s) (hs : s.length ≤ 400) : (bif false then true else bif vev33_5 s then vev23_0 (g : Int) s false != (0 : Int) else false) = false := by
  rw [head_ok (by omega), ck_same (by omega), h.check (by omega)]
  rfl
theorem feed19 (h : May g s) (hs : s.length ≤ 40000) (hl : l.length ≤ 40000) :
    (vev19_0 (g : Int) s false (l.map ofB), vev19_1 (g : Int) s false (l.map ofB), vev19_2 (g : Int) s false (l.map ofB), vev19_3 (g : Int) s false (l.map ofB), vev19_4 (g : Int) s false (l.map ofB)) = feedM g s l ∧ vev19_5 (g : Int) s false (l.map ofB) = true := by
  have hq : (bif false then true else bif vev33_5 s then vev23_0 (g : Int) s false != (0 : Int) else false) = false := by
    rw [head_ok (by omega), ck_same (by omega), h.check (by omega)]
    rfl
  obtain ⟨k1, k2⟩ := r30 (g := g) (l := l) (s := s) (d := false) h.hg (by omega)
  unfold vev19_0 vev19_1 vev19_2 vev19_3 vev19_4 vev19_5 feedM
  rw [hq, head_ok (by omega), k1]
  cases hm : greetM g l with
  | none =>
    rw [hm] at k2
    rw [k2]
    exact ⟨rfl, rfl⟩
  | some p =>
    obtain ⟨g', r⟩ := p
    rw [hm] at k2
    obtain ⟨e0, e1, e2⟩ := k2
    have hr := greet_len l g g' r hm
    rw [e0, e1, e2, map_byteOf, all_isB]
    obtain ⟨c0, c1, c2, c3⟩ := r31 (s := s ++ r) (by rw [List.length_append]; omega)
    rw [c0, c1, c2, c3, decide_eq_true (show s.length + r.length ≤ 9223372036854775807 by omega)]
    refine ⟨?_, rfl⟩
    by_cases hw : whole (cutF (s ++ r)).2 < 0
    · simp only [if_pos hw]
      rfl
    · simp only [if_neg hw]
      rfl
theorem at20 {i : Nat} (hg : g ≤ 24) (hi : i < gN g l) (hl : l.length ≤ 1000000) {q0 : Int} {q1 : List UInt8} {q2 : Bool} :
    go20_4 (l.drop i) ((g + i : Nat) : Int) s d q0 q1 q2 = decide (l.getD i 0 = pf.getD (g + i) 0) ∧ xc20_4_0 (l.drop i) ((g + i : Nat) : Int) s d q0 q1 q2 = !decide (l.getD i 0 = pf.getD (g + i) 0) ∧ (l.drop i == ([] : List UInt8)) = false := by
  have h1 : i < l.length ∧ g + i < 24 := by unfold gN at hi; omega
  have hd : (l.drop i == ([] : List UInt8)) = false := by
    have hne : l.drop i ≠ [] := by
      intro he
      have := congrArg List.length he
      rw [List.length_drop, List.length_nil] at this
      omega
    cases hx : l.drop i with
    | nil => exact absurd hx hne
    | cons a b => rfl
  have h0 : (l.drop i).getD (Int.toNat 0) 0 = l.getD i 0 := by
    have e : Int.toNat 0 = 0 := rfl
    rw [e]
    simp [List.getD, List.getElem?_drop]
  have hlen : ((l.drop i).length : Int) = (l.length : Int) - (i : Int) := by rw [List.length_drop]; omega
  unfold go20_4 xc20_4_0 bnd
  rw [pf_eq, pf_len, nil_eq, hd, h0, hlen, Int.toNat_natCast, byte_ne]
  rw [decide_eq_true (show ((g + i : Nat) : Int) < 24 by omega), decide_eq_true (show (0 : Int) ≤ 0 by omega), decide_eq_true (show (0 : Int) < (l.length : Int) - (i : Int) by omega), decide_eq_true (show (0 : Int) ≤ ((g + i : Nat) : Int) by omega), decide_eq_true (show ((g + i : Nat) : Int) < ((24 : Nat) : Int) by omega), decide_eq_true (show (1 : Int) ≤ (l.length : Int) - (i : Int) by omega), decide_eq_true (show (l.length : Int) - (i : Int) ≤ (l.length : Int) - (i : Int) by omega)]
  refine ⟨?_, ?_, rfl⟩ <;> cases decide (l.getD i 0 = pf.getD (g + i) 0) <;> rfl
theorem next20 {i : Nat} (hg : g ≤ 24) (hi : i < gN g l) (hl : l.length ≤ 1000000) {q0 : Int} {q1 : List UInt8} {q2 : Bool} : n20_4 (s, d, q0, q1, q2) (l.drop i, ((g + i : Nat) : Int)) = (l.drop (i + 1), ((g + (i + 1) : Nat) : Int)) := by
  have h1 : i < l.length ∧ g + i < 24 := by unfold gN at hi; omega
  unfold n20_4 nx20_4_0 nx20_4_1
  dsimp only
  rw [wrapOf _ (by omega) (by omega)]
  have e : Int.toNat 1 = 1 := rfl
  rw [e, List.drop_drop]
  rw [show ((g + i : Nat) : Int) + 1 = ((g + (i + 1) : Nat) : Int) by omega]
theorem stop20_4 (hg : g ≤ 24) {q0 : Int} {q1 : List UInt8} {q2 : Bool} : go20_4 (l.drop (gN g l)) ((g + gN g l : Nat) : Int) s d q0 q1 q2 = false ∧
    (g + gN g l < 24 → l.drop (gN g l) = [] ∧ xc20_4_0 (l.drop (gN g l)) ((g + gN g l : Nat) : Int) s d q0 q1 q2 = true) ∧
    (¬ g + gN g l < 24 → g + gN g l = 24 ∧ xc20_4_0 (l.drop (gN g l)) ((g + gN g l : Nat) : Int) s d q0 q1 q2 = false ∧ xc20_4_1 (l.drop (gN g l)) ((g + gN g l : Nat) : Int) s d q0 q1 q2 = true) := by
  have hN := gN_le g l
  unfold go20_4 xc20_4_0 xc20_4_1
  by_cases c : g + gN g l < 24
  · have he : gN g l = l.length := by unfold gN at c ⊢; omega
    have hd : l.drop (gN g l) = [] := by rw [he]; exact List.drop_length
    rw [hd, decide_eq_true (show ((g + gN g l : Nat) : Int) < 24 by omega)]
    exact ⟨rfl, fun _ => ⟨rfl, rfl⟩, fun h => absurd c h⟩
  · rw [decide_eq_false (show ¬ ((g + gN g l : Nat) : Int) < 24 by omega)]
    exact ⟨rfl, fun h => absurd h c, fun _ => ⟨by unfold gN at c ⊢; omega, rfl, rfl⟩⟩
theorem feed20 (h : May g s) (hs : s.length ≤ 40000) (hl : l.length ≤ 40000) :
    (vev20_0 (g : Int) s false (l.map ofB), vev20_1 (g : Int) s false (l.map ofB), vev20_2 (g : Int) s false (l.map ofB), vev20_3 (g : Int) s false (l.map ofB), vev20_4 (g : Int) s false (l.map ofB)) = feedM g s l ∧ vev20_5 (g : Int) s false (l.map ofB) = true := by
  have hq : (bif vev24_1 (g : Int) s false then bif vev24_0 (g : Int) s false != (0 : Int) then true else false else false) = false := by
    rw [ck_ok (by omega), h.check (by omega)]
    rfl
  unfold vev20_0 vev20_1 vev20_2 vev20_3 vev20_4 vev20_5 feedM
  simp only [spI]
  rw [hq, ck_ok (by omega), map_byteOf, all_isB]
  rcases greet_cases g l with h1 | ⟨i, h1, h2, h3⟩
  · have he : Ends (g20_4 (s, false, 0, (ByteArray.mk #[]).data.toList, false)) (n20_4 (s, false, 0, (ByteArray.mk #[]).data.toList, false)) (l, (g : Int)) (l.drop (gN g l), ((g + gN g l : Nat) : Int)) := by
      refine Ends.count (go := g20_4 (s, false, 0, (ByteArray.mk #[]).data.toList, false)) (next := n20_4 (s, false, 0, (ByteArray.mk #[]).data.toList, false)) (gN g l) (fun i => (l.drop i, ((g + i : Nat) : Int))) (fun i hi => ⟨?_, next20 h.hg hi (by omega)⟩) (stop20_4 h.hg).1
      unfold g20_4
      dsimp only
      rw [(at20 h.hg hi (by omega)).1, decide_eq_true (h1 i hi)]
    have hf := he.fin
    rw [hf.1, hf.2, greet_some l g h1]
    dsimp only
    obtain ⟨s1, s2, s3⟩ := stop20_4 (g := g) (l := l) (s := s) (d := false) (q0 := 0) (q1 := (ByteArray.mk #[]).data.toList) (q2 := false) h.hg
    have hr : (l.drop (gN g l)).length ≤ l.length := by rw [List.length_drop]; omega
    by_cases c : g + gN g l < 24
    · obtain ⟨t1, t2⟩ := s2 c
      have hs0 := h.he (by omega)
      subst hs0
      rw [t2, t1]
      unfold xv20_4_0_0 xv20_4_0_1 xv20_4_0_2 xv20_4_0_3 y20_4
      dsimp only
      rw [t1] at t2
      rw [t2]
      have hc : cutF ([] ++ []) = ([], []) := rfl
      rw [hc]
      dsimp only
      rw [whole_nil, if_neg (by omega)]
      exact ⟨rfl, rfl⟩
    · obtain ⟨t0, t1, t2⟩ := s3 c
      have he2 := (ends20 (p0 := 0) (p1 := (ByteArray.mk #[]).data.toList) (p2 := false) (s ++ l.drop (gN g l)).length (s ++ l.drop (gN g l)) [] (Nat.le_refl _) (by rw [List.length_append]; omega) (by simp; omega)).fin
      have hce := cutM_end (s ++ l.drop (gN g l)).length (s ++ l.drop (gN g l)) (Nat.le_refl _)
      rw [List.nil_append] at he2
      have hsum : (s ++ l.drop (gN g l)).length ≤ 80000 := by rw [List.length_append]; omega
      obtain ⟨u1, u2⟩ := stop20 (p0 := 0) (p1 := (ByteArray.mk #[]).data.toList) (p2 := false) (s := (cutM (s ++ l.drop (gN g l)).length (s ++ l.drop (gN g l))).2) (out := (cutM (s ++ l.drop (gN g l)).length (s ++ l.drop (gN g l))).1) (by omega) (by omega)
      have u3 := r32 (s := (cutM (s ++ l.drop (gN g l)).length (s ++ l.drop (gN g l))).2) (by omega)
      rw [t1, he2.1, he2.2]
      dsimp only
      rw [u3.1, u3.2]
      unfold y20_4 z20_4 z20_13
      dsimp only
      rw [t1, t2, u2, decide_eq_true (show s.length + (l.drop (gN g l)).length ≤ 9223372036854775807 by omega)]
      change _ ∧ _
      refine ⟨?_, rfl⟩
      rw [t0]
      by_cases hw : whole (cutF (s ++ l.drop (gN g l))).2 < 0
      · have hw' : whole (cutM (s ++ l.drop (gN g l)).length (s ++ l.drop (gN g l))).2 < 0 := hw
        rw [if_pos hw, decide_eq_true hw']
        rfl
      · have hw' : ¬ whole (cutM (s ++ l.drop (gN g l)).length (s ++ l.drop (gN g l))).2 < 0 := hw
        rw [if_neg hw, decide_eq_false hw']
        rfl
  · have he : Ends (g20_4 (s, false, 0, (ByteArray.mk #[]).data.toList, false)) (n20_4 (s, false, 0, (ByteArray.mk #[]).data.toList, false)) (l, (g : Int)) (l.drop i, ((g + i : Nat) : Int)) := by
      refine Ends.count (go := g20_4 (s, false, 0, (ByteArray.mk #[]).data.toList, false)) (next := n20_4 (s, false, 0, (ByteArray.mk #[]).data.toList, false)) i (fun i => (l.drop i, ((g + i : Nat) : Int))) (fun j hj => ⟨?_, next20 h.hg (by omega) (by omega)⟩) ?_
      · unfold g20_4
        dsimp only
        rw [(at20 h.hg (by omega) (by omega)).1, decide_eq_true (h3 j hj)]
      · unfold g20_4
        dsimp only
        rw [(at20 h.hg h1 (by omega)).1, decide_eq_false h2]
    have hf := he.fin
    have ha := at20 (g := g) (l := l) (s := s) (d := false) (q0 := 0) (q1 := (ByteArray.mk #[]).data.toList) (q2 := false) h.hg h1 (by omega)
    rw [hf.1, hf.2, greet_none i l g h1 h2]
    dsimp only
    rw [ha.2.1, decide_eq_false h2]
    unfold xv20_4_0_0 xv20_4_0_1 xv20_4_0_2 xv20_4_0_3 y20_4
    dsimp only
    rw [ha.2.1, decide_eq_false h2, nil_eq, ha.2.2]
    exact ⟨rfl, rfl⟩
end
/-- Frames as rows. -/
def fit5 (x : List AV) : List AV := [.int .i64 (intOf (x.getD 0 .junk)), .int .u8 (intOf (x.getD (0 + 1) .junk)), .int .u8 (intOf (x.getD (0 + 1 + 1) .junk)), .int .i64 (intOf (x.getD (0 + 1 + 1 + 1) .junk)), .str (strOf (x.getD (0 + 1 + 1 + 1 + 1) .junk))]
theorem fit_row (s : List UInt8) : fit5 (rowM s) = rowM s := rfl
theorem fit_cut : ∀ (n : Nat) (s : List UInt8), ∀ x ∈ (cutM n s).1, fit5 x = x := by
  intro n
  induction n with
  | zero => intro s x hx; cases hx
  | succ n ih =>
    intro s x hx
    by_cases hw : 0 < whole s
    · rw [cutM_go hw] at hx
      rcases List.mem_cons.1 hx with h | h
      · subst h; exact fit_row s
      · exact ih _ x h
    · rw [cutM_no hw] at hx
      cases hx
theorem map_fit5 {l : List (List AV)} (h : ∀ x ∈ l, fit5 x = x) : l.map fit5 = l := by
  conv => rhs; rw [← List.map_id l]
  exact List.map_congr_left fun x hx => h x hx
theorem r22 {es : List (List AV)} (hl : es.length ≤ 1000000) : vev22_0 es = es.map fit5 ∧ vev22_1 es = true := by
  have h := Ends.count (go := g22_3 es) (next := n22_3 es) es.length (fun i => ((i : Int), (es.take i).map fit5)) (fun i hi => ?_) ?_
  · have hf := h.fin
    have e0 : (((0 : Nat) : Int), (es.take 0).map fit5) = ((0 : Int), []) := rfl
    rw [e0] at hf
    unfold vev22_0 vev22_1
    simp only [spI]
    rw [hf.1, hf.2, List.take_length]
    refine ⟨rfl, ?_⟩
    unfold z22_3 xc22_3_0
    dsimp only
    rw [decide_eq_false (by omega)]
    rfl
  · have hlen : ((es.take i).map fit5).length = i := by simp; omega
    refine ⟨?_, ?_⟩
    · unfold g22_3 go22_3
      dsimp only
      rw [hlen, decide_eq_true (show (i : Int) < (es.length : Int) by omega), decide_eq_true (show (0 : Int) ≤ (i : Int) by omega), decide_eq_true (show (i + 1) * 40 ≤ 140737488355328 by omega), decide_eq_true (show i + 1 ≤ 9223372036854775807 by omega)]
      rfl
    · unfold n22_3 nx22_3_1 nx22_3_2
      dsimp only
      rw [Int.toNat_natCast, wrapN i es.length hi (by omega), Gv.take_step [] hi, List.map_append]
      rfl
  · unfold g22_3 go22_3
    dsimp only
    rw [decide_eq_false (by omega)]
    rfl
theorem r21 {t1 t2 : Tk} {l : List (List AV)} (hl : l.length ≤ 1000000) : vev21_0 t1 t2 l l = true ∧ vev21_1 t1 t2 l l = true := by
  have h := Ends.count (go := g21_4 (t1, l, t2, l)) (next := n21_4 (t1, l, t2, l)) l.length (fun i => (i : Int)) (fun i hi => ?_) ?_
  · have hf := h.fin
    have e0 : ((0 : Nat) : Int) = 0 := rfl
    rw [e0] at hf
    unfold vev21_0 vev21_1
    simp only [spI]
    rw [hf.1, hf.2]
    unfold z21_4 xc21_4_0 xc21_4_1
    rw [decide_eq_false (show ¬ ((l.length : Int) < (l.length : Int)) by omega)]
    simp only [bne_self_eq_false, cond_false, cond_true, Bool.or_true, Bool.and_self, Bool.and_true]
    exact ⟨trivial, trivial⟩
  · refine ⟨?_, ?_⟩
    · unfold g21_4 go21_4
      dsimp only
      rw [decide_eq_true (show (i : Int) < (l.length : Int) by omega), decide_eq_true (show (0 : Int) ≤ (i : Int) by omega)]
      simp only [beq_self_eq_true, Bool.and_self, Bool.not_true, cond_true, cond_false]
    · unfold n21_4 nx21_4_4
      exact wrapN i l.length hi (by omega)
  · unfold g21_4 go21_4
    dsimp only
    rw [decide_eq_false (by omega)]
    rfl
end Go.Proofs.Gv
