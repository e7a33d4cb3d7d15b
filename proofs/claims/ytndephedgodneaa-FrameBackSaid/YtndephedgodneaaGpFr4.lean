/-
Frame's payload: what its code lays out.
-/
import Derived.Test.YtndephedgodneaaGaFr4
import Derived.Test.YtndephedgodneaaGpFr3
namespace Go.Proofs.Gv
open Go.Proofs
set_option linter.unusedVariables false
/-- A byte of a number. -/
def bY (x m : Int) : List AV := [AV.int IntKind.u8 (x / m % 256)]
def n4 (x : Int) : List (List AV) := [bY x 16777216, bY x 65536, bY x 256, bY x 1]
def n2 (x : Int) : List (List AV) := [bY x 256, bY x 1]
theorem wrapB (x : Int) : IntKind.u8.wrap x = x % 256 := by rw [IntKind.wrap_u8]
theorem two24' : (2 : Int) ^ min (Int.toNat 24) IntKind.u32.bits = 16777216 := by decide
theorem two16' : (2 : Int) ^ min (Int.toNat 16) IntKind.u32.bits = 65536 := by decide
theorem two8w : (2 : Int) ^ min (Int.toNat 8) IntKind.u16.bits = 256 := by decide
theorem fd (x m : Int) (h : 0 ≤ m) : x.fdiv m = x / m := Int.fdiv_eq_ediv_of_nonneg x h
theorem c66_0 (x : Int) : vev66_0 x = x / 16777216 % 256 := by unfold vev66_0; rw [two24', fd _ _ (by omega), wrapB]
theorem c66_1 (x : Int) : vev66_1 x = x / 65536 % 256 := by unfold vev66_1; rw [two16', fd _ _ (by omega), wrapB]
theorem c66_2 (x : Int) : vev66_2 x = x / 256 % 256 := by unfold vev66_2; rw [two8, fd _ _ (by omega), wrapB]
theorem c66_3 (x : Int) : IntKind.u8.wrap x = x / 1 % 256 := by rw [wrapB, Int.ediv_one]
/-- A pair's bytes. -/
def psP (p : List AV) : List (List AV) := n2 (intOf (p.getD 0 AV.junk)) ++ n4 (intOf (p.getD 1 AV.junk))
def psR (ps : List (List AV)) : List (List AV) := ps.flatMap psP
theorem psP_len (p : List AV) : (psP p).length = 6 := rfl
theorem psR_nil : psR [] = [] := rfl
theorem psR_len (ps : List (List AV)) : (psR ps).length = 6 * ps.length := by
  induction ps with
  | nil => rfl
  | cons p ps ih =>
    have e : psR (p :: ps) = psP p ++ psR ps := rfl
    rw [e, List.length_append, ih, psP_len, List.length_cons]
    omega
theorem psR_take {ps : List (List AV)} {i : Nat} (h : i < ps.length) : psR (ps.take (i + 1)) = psR (ps.take i) ++ psP (ps.getD i []) := by
  unfold psR
  have e : ps.getD i [] = ps[i] := by simp [List.getD, h]
  rw [e, List.take_add_one, List.getElem?_eq_getElem h, List.flatMap_append]
  simp
theorem count0 {α : Type} {go : α → Bool} {next : α → α} (N : Nat) (f : Nat → α) {a : α} (h0 : f 0 = a) (hs : ∀ i, i < N → go (f i) = true ∧ next (f i) = f (i + 1)) (he : go (f N) = false) : Ends go next a (f N) := h0 ▸ Ends.count N f hs he
theorem ends45 (t g n : Int) (d : List UInt8) (pa de : Int) (so : Bool) (we co la inc : Int) (ps out : List (List AV)) (hl : out.length + 6 * ps.length ≤ 140737488355328) :
    Ends (g45_18 (ps, (↑ps.length : Int), t, g, n, d, pa, de, so, we, co, la, inc, ps)) (n45_18 (ps, (↑ps.length : Int), t, g, n, d, pa, de, so, we, co, la, inc, ps)) ((0 : Int), out) ((ps.length : Int), out ++ psR ps) := by
  have hz : psR ps = psR (ps.take ps.length) := by rw [List.take_length]
  rw [hz]
  refine count0 ps.length (fun i => ((i : Int), out ++ psR (ps.take i))) ?_ (fun i hi => ⟨?_, ?_⟩) ?_
  · rw [List.take_zero, psR_nil, List.append_nil]; rfl
  · have hq : (psR (ps.take i)).length = 6 * i := by rw [psR_len, List.length_take]; omega
    unfold g45_18 go45_18 rn45_18_2
    dsimp only
    have h1 : ∀ a b c d e f g h i j k l m n o p, (rn45_18_1 a b c d e f g h i j k l m n o p).length = 2 := fun _ _ _ _ _ _ _ _ _ _ _ _ _ _ _ _ => rfl
    have h4 : ∀ a b c d e f g h i j k l m n o p, (rn45_18_4 a b c d e f g h i j k l m n o p).length = 4 := fun _ _ _ _ _ _ _ _ _ _ _ _ _ _ _ _ => rfl
    simp only [List.length_append, h1, h4, hq]
    rw [decide_eq_true (show (i : Int) < (ps.length : Int) by omega), decide_eq_true (show (0 : Int) ≤ (i : Int) by omega), decide_eq_true (by omega), decide_eq_true (by omega), decide_eq_true (by omega), decide_eq_true (by omega)]
    rfl
  · unfold n45_18 nx45_18_2 nx45_18_15 rn45_18_2 rn45_18_1 rn45_18_4 rn45_18_0 rn45_18_3
    dsimp only
    rw [Int.toNat_natCast, wrapN i ps.length hi (by omega), psR_take hi, c66_0, c66_1, c66_2, two8w, fd _ _ (by omega), wrapB, wrapB, wrapB]
    unfold psP n2 n4 bY
    simp only [Int.ediv_one, List.append_assoc, List.cons_append, List.nil_append, Nat.zero_add]
  · unfold g45_18 go45_18
    dsimp only
    rw [decide_eq_false (by omega)]
    rfl
theorem loop45 (t g n : Int) (d : List UInt8) (pa de : Int) (so : Bool) (we co la inc : Int) (ps out : List (List AV)) (hl : out.length + 6 * ps.length ≤ 140737488355328) :
    finL (g45_18 (ps, (↑ps.length : Int), t, g, n, d, pa, de, so, we, co, la, inc, ps)) (n45_18 (ps, (↑ps.length : Int), t, g, n, d, pa, de, so, we, co, la, inc, ps)) ((0 : Int), out) = ((ps.length : Int), out ++ psR ps) ∧
    (spI g45_18 n45_18 y45_18 z45_18 d45_18 ((ps, (↑ps.length : Int), t, g, n, d, pa, de, so, we, co, la, inc, ps), (0 : Int), out)).fst = true := by
  have f := (ends45 t g n d pa de so we co la inc ps out hl).fin
  refine ⟨f.2, ?_⟩
  simp only [spI]
  rw [f.2, f.1]
  unfold y45_18 z45_18 xc45_18_0
  dsimp only
  rw [decide_eq_false (by omega)]
  rfl
/-- What a payload is laid out of. -/
def wgt (de : Int) (so : Bool) (we : Int) : List (List AV) := bif so then [[AV.int IntKind.u8 (de / 16777216 % 256 + 128)], bY de 65536, bY de 256, bY de 1, [AV.int IntKind.u8 we]] else [bY de 16777216, bY de 65536, bY de 256, bY de 1, [AV.int IntKind.u8 we]]
def payN (P W : Bool) (t : Int) (d : List UInt8) (pa de : Int) (so : Bool) (we co la inc : Int) (ps : List (List AV)) : List (List AV) :=
  (bif P then [[AV.int IntKind.u8 pa]] else []) ++ ((bif W then wgt de so we else []) ++ ((bif t == 7 then n4 la else []) ++ ((bif t == 3 || t == 7 then n4 co else []) ++ ((bif t == 4 then psR ps else []) ++ ((bif t == 8 then n4 inc else []) ++ (d.map ofB ++ (List.replicate pa.toNat 0).map ofB))))))
theorem or128 : allB (fun x => bits BinOp.or IntKind.u8 x 128 == x + 128) 128 = true := by kernel_rfl
theorem topB {de : Int} (h : 0 ≤ de ∧ de ≤ 2147483647) : bits BinOp.or IntKind.u8 (de / 16777216 % 256) 128 = de / 16777216 % 256 + 128 := eq_of_beq (allB_at 128 or128 (de / 16777216 % 256) (by omega) (by omega))
theorem pad8 {pa : Int} (h : 0 ≤ pa ∧ pa ≤ 255) : pa / 1 % 256 = pa := by omega
section
variable {t g n : Int} {d : List UInt8} {pa de : Int} {so : Bool} {we co la inc : Int} {ps : List (List AV)}
set_option maxHeartbeats 4000000 in
theorem r45 (ha : 0 ≤ pa ∧ pa ≤ 255) (hd : 0 ≤ de ∧ de ≤ 2147483647) (hc : 0 ≤ co ∧ co ≤ 4294967295) (hla : 0 ≤ la ∧ la ≤ 2147483647) (hi : 0 ≤ inc ∧ inc ≤ 2147483647) (hl : d.length + 6 * ps.length ≤ 140737488352000) :
    vev45_0 t g n d pa de so we co la inc ps = payN (vev64_0 t g n d pa de so we co la inc .imm ps) (vev65_0 t g n d pa de so we co la inc .imm ps) t d pa de so we co la inc ps ∧ vev45_1 t g n d pa de so we co la inc ps = true := by
  have lp := fun (out : List (List AV)) (h : out.length ≤ 100) => (loop45 t g n d pa de so we co la inc ps out (by omega)).1
  have lq := fun (out : List (List AV)) (h : out.length ≤ 100) => (loop45 t g n d pa de so we co la inc ps out (by omega)).2
  have ud := wrapU de (by omega) (by omega)
  have ul := wrapU la (by omega) (by omega)
  have ui := wrapU inc (by omega) (by omega)
  have tb := topB hd
  have pd := pad8 ha
  have pn : pa.toNat ≤ 255 := by omega
  have p0 : decide ((0 : Int) ≤ pa) = true := decide_eq_true (by omega)
  have p1 : decide (pa ≤ (1099511627776 : Int)) = true := decide_eq_true (by omega)
  have ql := psR_len ps
  have hx : t = 7 ∨ t = 3 ∨ t = 8 ∨ t = 4 ∨ (t ≠ 7 ∧ t ≠ 3 ∧ t ≠ 8 ∧ t ≠ 4) := by omega
  have hy : ((t == 7) = true ∧ (t == 3) = false ∧ (t == 8) = false ∧ (t == 4) = false) ∨ ((t == 7) = false ∧ (t == 3) = true ∧ (t == 8) = false ∧ (t == 4) = false) ∨ ((t == 7) = false ∧ (t == 3) = false ∧ (t == 8) = true ∧ (t == 4) = false) ∨ ((t == 7) = false ∧ (t == 3) = false ∧ (t == 8) = false ∧ (t == 4) = true) ∨ ((t == 7) = false ∧ (t == 3) = false ∧ (t == 8) = false ∧ (t == 4) = false) := by
    rcases hx with h | h | h | h | h
    · rw [h]; exact Or.inl ⟨rfl, rfl, rfl, rfl⟩
    · rw [h]; exact Or.inr (Or.inl ⟨rfl, rfl, rfl, rfl⟩)
    · rw [h]; exact Or.inr (Or.inr (Or.inl ⟨rfl, rfl, rfl, rfl⟩))
    · rw [h]; exact Or.inr (Or.inr (Or.inr (Or.inl ⟨rfl, rfl, rfl, rfl⟩)))
    · exact Or.inr (Or.inr (Or.inr (Or.inr ⟨beq_eq_false_iff_ne.2 h.1, beq_eq_false_iff_ne.2 h.2.1, beq_eq_false_iff_ne.2 h.2.2.1, beq_eq_false_iff_ne.2 h.2.2.2⟩)))
  clear hx
  have pd' : pa % 256 = pa := by omega
  have tb' := tb
  rcases so with _ | _
  · rcases bcase (vev64_0 t g n d pa de false we co la inc .imm ps) with hP | hP
    all_goals rcases bcase (vev65_0 t g n d pa de false we co la inc .imm ps) with hW | hW
    all_goals rcases hy with ⟨h7, h3, h8, h4⟩ | ⟨h7, h3, h8, h4⟩ | ⟨h7, h3, h8, h4⟩ | ⟨h7, h3, h8, h4⟩ | ⟨h7, h3, h8, h4⟩
    all_goals refine ⟨?_, ?_⟩
    all_goals simp only [vev45_0, vev45_1, payN, hP, hW, h7, h3, h8, h4, cond_true, cond_false, Bool.or_true, Bool.or_false, Bool.or_self]
    all_goals simp (disch := first | omega | (simp only [List.length_cons, List.length_nil]; omega)) only [wgt, n4, bY, cond_true, cond_false, rev45_0, rev45_1, rev45_2, rev45_4, rev45_5, rev45_6, rev45_8, rev45_9, rev45_10, rev45_11, rev45_12, rev45_14, rev45_16, rev45_18, rev45_20, rev45_21, rev45_23, rev45_24, rev45_26, rev45_27, rev45_29, rev45_35, rev45_37, rev45_39, rev45_40, rev45_41, rev45_42, rev45_43, rev45_44, rev45_45, rev45_46, rev45_47, rev45_48, rev45_49, rev45_50, rev45_51, rev45_52, rev45_53, rev45_54, rev45_55, rev45_56, rev45_57, rev45_58, rev45_62, rev45_63, rev45_64, rev45_65, rev45_66, rev45_67, rev45_68, lp, lq, c66_0, c66_1, c66_2, c66_3, ud, ul, ui, pd', p0, p1, Int.ediv_one, List.append_assoc, List.cons_append, List.nil_append, List.length_append, List.length_cons, List.length_nil, List.length_map, List.length_replicate, ql, decide_eq_true]
  · rcases bcase (vev64_0 t g n d pa de true we co la inc .imm ps) with hP | hP
    all_goals rcases bcase (vev65_0 t g n d pa de true we co la inc .imm ps) with hW | hW
    all_goals rcases hy with ⟨h7, h3, h8, h4⟩ | ⟨h7, h3, h8, h4⟩ | ⟨h7, h3, h8, h4⟩ | ⟨h7, h3, h8, h4⟩ | ⟨h7, h3, h8, h4⟩
    all_goals refine ⟨?_, ?_⟩
    all_goals simp only [vev45_0, vev45_1, payN, hP, hW, h7, h3, h8, h4, cond_true, cond_false, Bool.or_true, Bool.or_false, Bool.or_self]
    all_goals simp (disch := first | omega | (simp only [List.length_cons, List.length_nil]; omega)) only [wgt, n4, bY, cond_true, rev45_0, rev45_1, rev45_2, rev45_3, rev45_4, rev45_5, rev45_6, rev45_7, rev45_8, rev45_9, rev45_10, rev45_11, rev45_12, rev45_13, rev45_14, rev45_15, rev45_16, rev45_17, rev45_18, rev45_19, rev45_20, rev45_21, rev45_22, rev45_23, rev45_24, rev45_25, rev45_26, rev45_27, rev45_28, rev45_29, rev45_30, rev45_31, rev45_32, rev45_33, rev45_34, rev45_35, rev45_36, rev45_37, rev45_38, rev45_55, rev45_56, rev45_57, rev45_58, rev45_59, rev45_60, rev45_61, rev45_65, rev45_66, rev45_67, rev45_68, lp, lq, c66_0, c66_1, c66_2, c66_3, ud, ul, ui, tb, pd', p0, p1, Int.ediv_one, List.getD_cons_zero, intOf, show Int.toNat 0 = 0 from rfl, List.append_assoc, List.cons_append, List.nil_append, List.length_append, List.length_cons, List.length_nil, List.length_map, List.length_replicate, ql, decide_eq_true]
end
end Go.Proofs.Gv
