/-
The loop of OutqOrder: what it does.
-/
import Derived.Test.YtdickgcdjmhgiaaGlOrd
import Derived.Test.YtdickgcdjmhgiaaGpOr
namespace Go.Proofs.Gv
open Go.Proofs
set_option linter.unusedVariables false
set_option maxHeartbeats 2000000
def flat : List (List AV) → List UInt8
  | [] => []
  | e :: l => gS e ++ flat l
theorem flat_len : ∀ (l : List (List AV)), (flat l).length = sumN l := by
  intro l
  induction l with
  | nil => rfl
  | cons e l ih => simp only [flat, sumN, List.length_append, ih]
theorem flat_app : ∀ (l m : List (List AV)), flat (l ++ m) = flat l ++ flat m := by
  intro l m
  induction l with
  | nil => rfl
  | cons e l ih => simp only [List.cons_append, flat, ih, List.append_assoc]
theorem take_flat : ∀ (l : List (List AV)) (r : Nat), emptyS l = false → FitS l → Bn r l ++ flat (Rn r l) = flat l ∧ (Bn r l).length = Nat.min r (sumN l) := by
  intro l
  induction l with
  | nil => intro r _ _; exact ⟨rfl, by simp [Bn, byt12, sumN]⟩
  | cons e l ih =>
    intro r he hf
    obtain ⟨g1, g2⟩ := empty_cons he
    have hf' : FitS l := fun x hx => hf x (List.mem_cons_of_mem _ hx)
    obtain ⟨z1, z2⟩ := R0 g2 hf'
    obtain ⟨a1, a2⟩ := Rn_cons r e l
    by_cases h : r < (gS e).length
    · have m1 : Nat.min r (gS e).length = r := Nat.min_eq_left (by omega)
      rw [m1, bltT h, cond_true, Nat.sub_self, z1] at a1
      rw [m1, Nat.sub_self, z2, List.append_nil] at a2
      have hg : gS [AV.str ((gS e).drop r)] = (gS e).drop r := rfl
      rw [a1, a2]
      refine ⟨by simp only [flat, hg]; rw [← List.append_assoc, List.take_append_drop], ?_⟩
      have : Nat.min r (sumN (e :: l)) = r := Nat.min_eq_left (by simp only [sumN]; omega)
      rw [this, List.length_take]
      exact Nat.min_eq_left (by omega)
    · have m1 : Nat.min r (gS e).length = (gS e).length := Nat.min_eq_right (by omega)
      rw [m1, bltF (Nat.lt_irrefl _), cond_false] at a1
      rw [m1, List.take_length] at a2
      obtain ⟨i1, i2⟩ := ih (r - (gS e).length) g2 hf'
      rw [a1, a2]
      refine ⟨by rw [List.append_assoc, i1]; rfl, ?_⟩
      rw [List.length_append, i2]
      simp only [sumN]
      have q1 : Nat.min (r - (gS e).length) (sumN l) = min (r - (gS e).length) (sumN l) := rfl
      have q2 : Nat.min r ((gS e).length + sumN l) = min r ((gS e).length + sumN l) := rfl
      rw [q1, q2]
      omega
/-- A number of bytes that is told. -/
abbrev gB (x : List AV) : Int := intOf (x.getD 0 .junk)
abbrev S5 : Type := Bool × List (List AV) × List UInt8 × List UInt8 × Nat
def stepO (bys : List (List AV)) (t : List UInt8) (s : S5) : S5 :=
  match t with
  | _ :: _ => (false, s.2.1 ++ [[.str t]], s.2.2.1 ++ t, s.2.2.2.1, s.2.2.2.2)
  | [] => bif Nat.blt s.2.2.2.2 bys.length then (false, Rn (gB (bys.getD s.2.2.2.2 [])).toNat s.2.1, s.2.2.1, s.2.2.2.1 ++ Bn (gB (bys.getD s.2.2.2.2 [])).toNat s.2.1, s.2.2.2.2 + 1) else s
def outO (bys : List (List AV)) : List (List AV) → S5 → Bool × S5
  | [], s => (false, s)
  | e :: l, s => bif decide (((gS e).length : Int) > 200) then (true, s) else outO bys l (stepO bys (gS e) s)
/-- What holds ahead of each round. -/
def Inv (ls bys : List (List AV)) (ph : Bool) (es : List (List AV)) (a b : Int) (came went : List UInt8) (k i : Nat) : Prop :=
  GoodW es a b ∧ (ph = true → es = []) ∧ a = (came.length : Int) ∧ b = (went.length : Int) ∧ came = went ++ flat es ∧ came.length ≤ 200 * i ∧ es.length ≤ i ∧ i ≤ ls.length ∧ ls.length ≤ 60 ∧ (∀ x ∈ bys, 0 ≤ gB x ∧ gB x ≤ 255) ∧ k ≤ i
def cellO (ph : Bool) (es : List (List AV)) : AV := bif ph then .nil else .sl .imm [.str] es
abbrev T5 : Type := List (List AV) × List (List AV) × Bool × List (List AV) × Int × Int × List UInt8 × List UInt8 × Nat × Nat
noncomputable def VT5 (x : T5) : List AV := [.sl .imm [.str] x.1, .sl .imm [.int .u8] x.2.1, .hp 3 0, .str x.2.2.2.2.2.2.1, .str x.2.2.2.2.2.2.2.1, .int .i64 (.ofNat x.2.2.2.2.2.2.2.2.1), .int .i64 (.ofNat x.2.2.2.2.2.2.2.2.2)]
noncomputable def VC5 (x : T5) : List Blk := [.var [cellO x.2.2.1 x.2.2.2.1, .int .i64 x.2.2.2.2.1, .int .i64 x.2.2.2.2.2.1]]
noncomputable def dec5 : List AV → List Blk → Option T5
  | [.sl .imm [.str] ls, .sl .imm [.int .u8] bys, .hp 3 0, .str came, .str went, .int .i64 (.ofNat k), .int .i64 (.ofNat i)], [.var [.nil, .int .i64 a, .int .i64 b]] => some (ls, bys, true, [], a, b, came, went, k, i)
  | [.sl .imm [.str] ls, .sl .imm [.int .u8] bys, .hp 3 0, .str came, .str went, .int .i64 (.ofNat k), .int .i64 (.ofNat i)], [.var [.sl .imm [.str] es, .int .i64 a, .int .i64 b]] => some (ls, bys, false, es, a, b, came, went, k, i)
  | _, _ => none
noncomputable def res5 (x : T5) : Bool × S5 := outO x.2.1 (x.1.drop x.2.2.2.2.2.2.2.2.2) (x.2.2.1, x.2.2.2.1, x.2.2.2.2.2.2.1, x.2.2.2.2.2.2.2.1, x.2.2.2.2.2.2.2.2.1)
noncomputable def sp5L (x : T5) : Bool × List (Bool × Ex × List AV × List Blk) × Ex × List AV × List Blk :=
  (@decide (Inv x.1 x.2.1 x.2.2.1 x.2.2.2.1 x.2.2.2.2.1 x.2.2.2.2.2.1 x.2.2.2.2.2.2.1 x.2.2.2.2.2.2.2.1 x.2.2.2.2.2.2.2.2.1 x.2.2.2.2.2.2.2.2.2) (Classical.propDecidable _),
   [((res5 x).1, .ret, [.bool true, .hp 3 0, .str (res5 x).2.2.2.1, .str (res5 x).2.2.2.2.1], [.var [cellO (res5 x).2.1 (res5 x).2.2.1, .int .i64 ((res5 x).2.2.2.1.length : Int), .int .i64 ((res5 x).2.2.2.2.1.length : Int)]]),
    ((res5 x).2.1, .exit 0, [.junk, .hp 3 0, .str (res5 x).2.2.2.1, .str (res5 x).2.2.2.2.1], [.var [.nil, .int .i64 ((res5 x).2.2.2.1.length : Int), .int .i64 ((res5 x).2.2.2.2.1.length : Int)]])],
   .exit 0, [.junk, .hp 3 0, .str (res5 x).2.2.2.1, .str (res5 x).2.2.2.2.1], [.var [.sl .imm [.str] (res5 x).2.2.1, .int .i64 ((res5 x).2.2.2.1.length : Int), .int .i64 ((res5 x).2.2.2.2.1.length : Int)]])
noncomputable def lsp5 : Lsp := fun i s => match Nat.beq i 6 with
  | true => lspOf [0, 1, 5, 6, 7, 8, 9] [3] [4, 5, 6, 7] [3] Try.f5.ntmps (0 + tab.nid 5) dec5 sp5L s
  | false => none
theorem dT {p : Prop} (h : p) : @decide p (Classical.propDecidable p) = true := @decide_eq_true p (Classical.propDecidable p) h
theorem dI {p : Prop} (h : @decide p (Classical.propDecidable p) = true) : p := @of_decide_eq_true p (Classical.propDecidable p) h
theorem lok5 : LoopOK1 (cfg Try.prog tab 100000 (gk kO 30) lsp5 5 0 Try.f5.ntmps) (loopAt Try.f5 6) := by
  refine LoopOK1.of (i := 6) (by kernel_rfl) [0, 1, 5, 6, 7, 8, 9] [3] [4, 5, 6, 7] [3] VT5 VC5 dec5 sp5L (fun x => x.1.length - x.2.2.2.2.2.2.2.2.2) (fun s => rfl) (fun vt vc a h => ?_) (fun a ha => ?_)
  · unfold dec5 at h
    split at h
    · injection h with h
      subst h
      exact ⟨rfl, rfl⟩
    · injection h with h
      subst h
      exact ⟨rfl, rfl⟩
    · cases h
  · obtain ⟨ls, bys, ph, es, a, b, came, went, k, i⟩ := a
    have hI : Inv ls bys ph es a b came went k i := dI ha
    have hI' := hI
    obtain ⟨hG, hph, rfl, rfl, hcame, hci, hei, hil, h60, hby, hki⟩ := hI'
    have hfl := flat_len es
    have hcl : came.length = went.length + sumN es := by rw [hcame, List.length_append, hfl]
    by_cases hi : i < ls.length
    · have hd := drop_step (α := List AV) [] hi
      have hn0 := nn_dec i
      have hli := lt_dec hi
      have hw := wrapN i ls.length hi (by omega)
      have hT : strOf ((ls.getD i []).getD 0 AV.junk) = gS (ls.getD i []) := rfl
      generalize hTX : gS (ls.getD i []) = T at hT
      by_cases hbig : ((T.length : Int) > 200)
      · have hres : res5 (ls, bys, ph, es, (came.length : Int), (went.length : Int), came, went, k, i) = (true, (ph, es, came, went, k)) := by
          simp only [res5, hd, outO, hTX, decide_eq_true hbig, cond_true]
        cases ph with
        | true =>
          have hes := hph rfl
          subst hes
          have hr := rd5_6n lsp5 ls bys (came.length : Int) (went.length : Int) came went k i
          rw [hli, hn0, Int.toNat_natCast, hT, decide_eq_true hbig] at hr
          refine ⟨_, _, _, hr, ?_⟩
          clear hr
          simp only [sp5L, hres, pickE, cond_true]
          rfl
        | false =>
          have hr := rd5_6s lsp5 ls bys es (came.length : Int) (went.length : Int) came went k i
          rw [hli, hn0, Int.toNat_natCast, hT, decide_eq_true hbig] at hr
          refine ⟨_, _, _, hr, ?_⟩
          clear hr
          simp only [sp5L, hres, pickE, cond_true]
          rfl
      · have hbf : decide ((T.length : Int) > 200) = false := decide_eq_false hbig
        have hstep : ∀ s' : S5, stepO bys T (ph, es, came, went, k) = s' → res5 (ls, bys, s'.1, s'.2.1, (s'.2.2.1.length : Int), (s'.2.2.2.1.length : Int), s'.2.2.1, s'.2.2.2.1, s'.2.2.2.2, i + 1) = res5 (ls, bys, ph, es, (came.length : Int), (went.length : Int), came, went, k, i) := by
          intro s' hs'
          simp only [res5, hd, outO, hTX, hbf, cond_false, hs']
        rcases hTT : T with _ | ⟨c, T'⟩
        · skip
          have hTe : (T == (ByteArray.mk #[]).data.toList) = true := by rw [hTT]; rfl
          obtain ⟨V16o, L14o, L16o, L18o⟩ := len_good hG
          obtain ⟨_, Z14o, V18o⟩ := good_mkW hG
          by_cases hk : k < bys.length
          · have hkd := lt_dec hk
            have hkn := nn_dec k
            have hbk := hby (bys.getD k []) (by simp [List.getD, hk])
            obtain ⟨r, hr0⟩ := Int.eq_ofNat_of_zero_le hbk.1
            have hB0 : intOf ((bys.getD k []).getD 0 AV.junk) = (r : Int) := hr0
            have hrn : (gB (bys.getD k [])).toNat = r := by rw [hr0]; rfl
            have wB : IntKind.i64.wrap (r : Int) = (r : Int) := by rw [IntKind.wrap_i64]; omega
            obtain ⟨D0, D1, D2, D3, G'⟩ := take_goodW hG r (by omega)
            obtain ⟨V16, L14, L16, L18⟩ := len_good G'
            obtain ⟨_, Z14, V18⟩ := good_mkW G'
            obtain ⟨tf1, tf2⟩ := take_flat es r hG.1 hG.2.2.2.1
            have tf3 : (Bn r es).length + sumN (Rn r es) = sumN es := (rst_facts (r : Int) es 0).2.2.2
            have hwl : (went ++ Bn r es).length = went.length + (Bn r es).length := List.length_append
            have wS : IntKind.i64.wrap ((came.length : Int) - ((went ++ Bn r es).length : Int)) = (sumN (Rn r es) : Int) := by rw [IntKind.wrap_i64, hwl]; omega
            have wR : IntKind.i64.wrap ((65536 : Int) - (sumN (Rn r es) : Int)) = 65536 - (sumN (Rn r es) : Int) := by rw [IntKind.wrap_i64]; omega
            have bN : bnd (0 : Int) ((went ++ Bn r es).length : Int) (came.length : Int) = true := by rw [hwl]; simp only [bnd, Bool.and_eq_true, decide_eq_true_eq]; omega
            have hcame2 : came = (went ++ Bn r es) ++ flat (Rn r es) := by rw [List.append_assoc, tf1]; exact hcame
            have tW : (List.take (went ++ Bn r es).length came == (went ++ Bn r es)) = true := by
              rw [beq_iff_eq]
              conv => lhs; rw [hcame2]
              exact List.take_left' rfl
            have hmn : Nat.min r (sumN es) = min r (sumN es) := rfl
            rw [hmn] at tf2
            have mN : ((↑(List.map ofB (Bn r es)).length : Int) != if if false = true then (r : Int) < (sumN es : Int) else (sumN es : Int) < (r : Int) then (sumN es : Int) else (r : Int)) = false := by
              rw [bne_eq_false_iff_eq, List.length_map, tf2]
              simp only [Bool.false_eq_true, if_false]
              by_cases hq : (sumN es : Int) < (r : Int)
              · rw [if_pos hq]; omega
              · rw [if_neg hq]; omega
            have hib := isB_map (Bn r es)
            have hbo := bytes_of (Bn r es)
            have q2 : decide (went.length + (Bn r es).length ≤ 9223372036854775807) = true := by rw [decide_eq_true_eq]; omega
            have hkw := wrapN k bys.length hk
            have hkw' : IntKind.i64.wrap ((k : Int) + 1) = ((k + 1 : Nat) : Int) := by rw [IntKind.wrap_i64]; omega
            have key : roundV (cfg Try.prog tab 100000 (gk kO 30) lsp5 5 0 Try.f5.ntmps) (loopAt Try.f5 6) [0, 1, 5, 6, 7, 8, 9] [3] [4, 5, 6, 7] [3] (VT5 (ls, bys, ph, es, (came.length : Int), (went.length : Int), came, went, k, i)) (VC5 (ls, bys, ph, es, (came.length : Int), (went.length : Int), came, went, k, i)) =
                some (.norm, VT5 (ls, bys, false, Rn r es, (came.length : Int), (went.length : Int) + ((Bn r es).length : Int), came, went ++ Bn r es, k + 1, i + 1), VC5 (ls, bys, false, Rn r es, (came.length : Int), (went.length : Int) + ((Bn r es).length : Int), came, went ++ Bn r es, k + 1, i + 1)) := by
              cases ph with
              | true =>
                have hes := hph rfl
                subst hes
                have hr := rd5_6n lsp5 ls bys (came.length : Int) (went.length : Int) came went k i
                rw [hli, hn0, Int.toNat_natCast, hT, hbf, hTe, hkd, hkn, hw] at hr
                simp only [Int.toNat_natCast, hB0, wB, D0, D1, D2, D3, V16o, L16o, mN, hib, hbo, q2, L14, Z14, L16, V16, L18, V18, wS, wR, bN, tW, hkw', Int.toNat_natCast, Bool.not_false, Bool.not_true, Bool.and_self, cond_true, cond_false, bne_self_eq_false] at hr
                exact hr
              | false =>
                have hr := rd5_6s lsp5 ls bys es (came.length : Int) (went.length : Int) came went k i
                rw [hli, hn0, Int.toNat_natCast, hT, hbf, hTe, hkd, hkn, hw] at hr
                simp only [Int.toNat_natCast, hB0, wB, D0, D1, D2, D3, V16o, L16o, mN, hib, hbo, q2, L14, Z14, L16, V16, L18, V18, wS, wR, bN, tW, hkw', Int.toNat_natCast, Bool.not_false, Bool.not_true, Bool.and_self, cond_true, cond_false, bne_self_eq_false] at hr
                exact hr
            have hres' := hstep (false, Rn r es, came, went ++ Bn r es, k + 1) (by rw [hTT]; simp only [stepO, bltT hk, cond_true, hrn])
            refine ⟨_, _, _, key, (ls, bys, false, Rn r es, (came.length : Int), (went.length : Int) + ((Bn r es).length : Int), came, went ++ Bn r es, k + 1, i + 1), rfl, rfl, ?_, ?_, by simp only; omega⟩
            · have hrl : (Rn r es).length ≤ es.length := rst_len (r : Int) es 0
              have inv' : Inv ls bys false (Rn r es) (came.length : Int) ((went.length : Int) + ((Bn r es).length : Int)) came (went ++ Bn r es) (k + 1) (i + 1) := ⟨G', (fun h => by cases h), rfl, by rw [hwl]; omega, hcame2, by omega, by omega, by omega, h60, hby, by omega⟩
              exact dT inv'
            · have e1 : res5 (ls, bys, false, Rn r es, (came.length : Int), (went.length : Int) + ((Bn r es).length : Int), came, went ++ Bn r es, k + 1, i + 1) = res5 (ls, bys, ph, es, (came.length : Int), (went.length : Int), came, went, k, i) := hres'
              simp only [sp5L, e1]
          · have hkd := ge_dec hk
            have wS : IntKind.i64.wrap ((came.length : Int) - (went.length : Int)) = (sumN es : Int) := by rw [IntKind.wrap_i64]; omega
            have wR : IntKind.i64.wrap ((65536 : Int) - (sumN es : Int)) = 65536 - (sumN es : Int) := by rw [IntKind.wrap_i64]; omega
            have bN : bnd (0 : Int) (went.length : Int) (came.length : Int) = true := by simp only [bnd, Bool.and_eq_true, decide_eq_true_eq]; omega
            have tW : (List.take went.length came == went) = true := by
              rw [beq_iff_eq]
              conv => lhs; rw [hcame]
              exact List.take_left' rfl
            have key : roundV (cfg Try.prog tab 100000 (gk kO 30) lsp5 5 0 Try.f5.ntmps) (loopAt Try.f5 6) [0, 1, 5, 6, 7, 8, 9] [3] [4, 5, 6, 7] [3] (VT5 (ls, bys, ph, es, (came.length : Int), (went.length : Int), came, went, k, i)) (VC5 (ls, bys, ph, es, (came.length : Int), (went.length : Int), came, went, k, i)) =
                some (.norm, VT5 (ls, bys, ph, es, (came.length : Int), (went.length : Int), came, went, k, i + 1), VC5 (ls, bys, ph, es, (came.length : Int), (went.length : Int), came, went, k, i + 1)) := by
              cases ph with
              | true =>
                have hes := hph rfl
                subst hes
                have hr := rd5_6n lsp5 ls bys (came.length : Int) (went.length : Int) came went k i
                rw [hli, hn0, Int.toNat_natCast, hT, hbf, hTe, hkd, hw] at hr
                simp only [V16o, L16o, L14o, Z14o, L18o, V18o, wS, wR, bN, tW, Int.toNat_natCast, Bool.not_false, Bool.not_true, Bool.and_self, cond_true, cond_false, bne_self_eq_false] at hr
                exact hr
              | false =>
                have hr := rd5_6s lsp5 ls bys es (came.length : Int) (went.length : Int) came went k i
                rw [hli, hn0, Int.toNat_natCast, hT, hbf, hTe, hkd, hw] at hr
                simp only [V16o, L16o, L14o, Z14o, L18o, V18o, wS, wR, bN, tW, Int.toNat_natCast, Bool.not_false, Bool.not_true, Bool.and_self, cond_true, cond_false, bne_self_eq_false] at hr
                exact hr
            have hres' := hstep (ph, es, came, went, k) (by rw [hTT]; simp only [stepO, bltF hk, cond_false])
            refine ⟨_, _, _, key, (ls, bys, ph, es, (came.length : Int), (went.length : Int), came, went, k, i + 1), rfl, rfl, ?_, ?_, by simp only; omega⟩
            · have inv' : Inv ls bys ph es (came.length : Int) (went.length : Int) came went k (i + 1) := ⟨hG, hph, rfl, rfl, hcame, by omega, by omega, by omega, h60, hby, by omega⟩
              exact dT inv'
            · have e1 : res5 (ls, bys, ph, es, (came.length : Int), (went.length : Int), came, went, k, i + 1) = res5 (ls, bys, ph, es, (came.length : Int), (went.length : Int), came, went, k, i) := hres'
              simp only [sp5L, e1]
        · skip
          have hTl : 1 ≤ T.length := by rw [hTT]; simp
          have hne : (T == (ByteArray.mk #[]).data.toList) = false := by
            rw [beq_eq_false_iff_ne]
            intro hq
            rw [hq] at hTl
            exact absurd hTl (by decide)
          have hTL : T.length ≤ 200 := by omega
          obtain ⟨P0, P1, P2, P3, G'⟩ := push_goodW hG T hTl hTL (by omega) (by omega) (by omega)
          obtain ⟨V16, L14, L16, L18⟩ := len_good G'
          obtain ⟨_, Z14, V18⟩ := good_mkW G'
          have hsum : sumN (es ++ [[AV.str T]]) = sumN es + T.length := by
            rw [sumN_app]
            simp only [sumN]
            have : gS [AV.str T] = T := rfl
            rw [this]
            omega
          have hcl2 : (came ++ T).length = came.length + T.length := List.length_append
          have wS : IntKind.i64.wrap (((came ++ T).length : Int) - (went.length : Int)) = (sumN (es ++ [[AV.str T]]) : Int) := by rw [IntKind.wrap_i64, hcl2, hsum]; omega
          have wR : IntKind.i64.wrap ((65536 : Int) - (sumN (es ++ [[AV.str T]]) : Int)) = 65536 - (sumN (es ++ [[AV.str T]]) : Int) := by rw [IntKind.wrap_i64]; omega
          have bN : bnd (0 : Int) (went.length : Int) ((came ++ T).length : Int) = true := by rw [hcl2]; simp only [bnd, Bool.and_eq_true, decide_eq_true_eq]; omega
          have tW : (List.take went.length (came ++ T) == went) = true := by
            rw [beq_iff_eq, hcame, List.append_assoc]
            exact List.take_left' rfl
          have q1 : decide (T.length ≤ 4611686018427387904) = true := by rw [decide_eq_true_eq]; omega
          have q2 : decide (came.length + T.length ≤ 9223372036854775807) = true := by rw [decide_eq_true_eq]; omega
          have key : roundV (cfg Try.prog tab 100000 (gk kO 30) lsp5 5 0 Try.f5.ntmps) (loopAt Try.f5 6) [0, 1, 5, 6, 7, 8, 9] [3] [4, 5, 6, 7] [3] (VT5 (ls, bys, ph, es, (came.length : Int), (went.length : Int), came, went, k, i)) (VC5 (ls, bys, ph, es, (came.length : Int), (went.length : Int), came, went, k, i)) =
              some (.norm, VT5 (ls, bys, false, es ++ [[.str T]], (came.length : Int) + (T.length : Int), (went.length : Int), came ++ T, went, k, i + 1), VC5 (ls, bys, false, es ++ [[.str T]], (came.length : Int) + (T.length : Int), (went.length : Int), came ++ T, went, k, i + 1)) := by
            cases ph with
            | true =>
              have hes := hph rfl
              subst hes
              have hr := rd5_6n lsp5 ls bys (came.length : Int) (went.length : Int) came went k i
              rw [hli, hn0, Int.toNat_natCast, hT, hbf, hne, hw] at hr
              simp only [P0, P1, P2, P3, L14, Z14, L16, V16, L18, V18, wS, wR, bN, tW, q1, q2, Int.toNat_natCast, Bool.not_false, Bool.not_true, Bool.and_self, cond_true, cond_false, bne_self_eq_false] at hr
              exact hr
            | false =>
              have hr := rd5_6s lsp5 ls bys es (came.length : Int) (went.length : Int) came went k i
              rw [hli, hn0, Int.toNat_natCast, hT, hbf, hne, hw] at hr
              simp only [P0, P1, P2, P3, L14, Z14, L16, V16, L18, V18, wS, wR, bN, tW, q1, q2, Int.toNat_natCast, Bool.not_false, Bool.not_true, Bool.and_self, cond_true, cond_false, bne_self_eq_false] at hr
              exact hr
          have hres' := hstep (false, es ++ [[.str T]], came ++ T, went, k) (by rw [hTT]; rfl)
          refine ⟨_, _, _, key, (ls, bys, false, es ++ [[.str T]], (came.length : Int) + (T.length : Int), (went.length : Int), came ++ T, went, k, i + 1), rfl, rfl, ?_, ?_, by simp only; omega⟩
          · have inv' : Inv ls bys false (es ++ [[.str T]]) ((came.length : Int) + (T.length : Int)) (went.length : Int) (came ++ T) went k (i + 1) := ⟨G', (fun h => by cases h), by rw [hcl2]; omega, rfl, by rw [hcame, flat_app, List.append_assoc]; simp only [flat, List.append_nil]; rfl, by rw [hcl2]; omega, by rw [List.length_append, List.length_singleton]; omega, by omega, h60, hby, by omega⟩
            exact dT inv'
          · have e1 : res5 (ls, bys, false, es ++ [[.str T]], (came.length : Int) + (T.length : Int), (went.length : Int), came ++ T, went, k, i + 1) = res5 (ls, bys, ph, es, (came.length : Int), (went.length : Int), came, went, k, i) := hres'
            simp only [sp5L, e1]
    · have hres : res5 (ls, bys, ph, es, (came.length : Int), (went.length : Int), came, went, k, i) = (false, (ph, es, came, went, k)) := by
        simp only [res5, List.drop_eq_nil_of_le (Nat.le_of_not_lt hi), outO]
      cases ph with
      | true =>
        have hes := hph rfl
        subst hes
        have hr := rd5_6n lsp5 ls bys (came.length : Int) (went.length : Int) came went k i
        rw [ge_dec hi] at hr
        refine ⟨_, _, _, hr, ?_⟩
        clear hr
        simp only [sp5L, hres, pickE, cond_true, cond_false]
      | false =>
        have hr := rd5_6s lsp5 ls bys es (came.length : Int) (went.length : Int) came went k i
        rw [ge_dec hi] at hr
        refine ⟨_, _, _, hr, ?_⟩
        clear hr
        simp only [sp5L, hres, pickE, cond_false]
theorem loops5 : ∀ c, Try.f5.body = some c → LoopsOK (cfg Try.prog tab 100000 (gk kO 30) lsp5 5 ([] : List Blk).length Try.f5.ntmps) c := loops_one (i := 6) (by kernel_rfl) lok5
end Go.Proofs.Gv
