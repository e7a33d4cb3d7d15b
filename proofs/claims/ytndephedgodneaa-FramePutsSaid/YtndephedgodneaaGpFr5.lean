/-
Frame's payload: what the document lays out is the same.
-/
import Derived.Test.YtndephedgodneaaGaFr8b
import Derived.Test.YtndephedgodneaaGpFr4
namespace Go.Proofs.Gv
open Go.Proofs
set_option linter.unusedVariables false
theorem tdp (x : Int) (h : 0 ≤ x) : x.tdiv 256 = x / 256 := Int.tdiv_eq_ediv_of_nonneg h
theorem wQ1 {x : Int} (h : 0 ≤ x ∧ x ≤ 4294967295) : wQ x 1 = x / 256 := by
  show IntKind.i64.wrap (x.tdiv 256) = _
  rw [tdp x h.1, wrapOf _ (by omega) (by omega)]
theorem wQ2 {x : Int} (h : 0 ≤ x ∧ x ≤ 4294967295) : wQ x 2 = x / 65536 := by
  show IntKind.i64.wrap ((wQ x 1).tdiv 256) = _
  rw [wQ1 h, tdp _ (by omega), wrapOf _ (by omega) (by omega)]
  omega
theorem wQ3 {x : Int} (h : 0 ≤ x ∧ x ≤ 4294967295) : wQ x 3 = x / 16777216 := by
  show IntKind.i64.wrap ((wQ x 2).tdiv 256) = _
  rw [wQ2 h, tdp _ (by omega), wrapOf _ (by omega) (by omega)]
  omega
theorem tmB {x : Int} (h : 0 ≤ x) : IntKind.u8.wrap (x.tmod 256) = x % 256 := by
  rw [wrapB, Int.tmod_eq_emod_of_nonneg h]
  omega
theorem wb0 {x : Int} (h : 0 ≤ x ∧ x ≤ 4294967295) : IntKind.u8.wrap ((wQ x 0).tmod 256) = x % 256 := tmB h.1
theorem wb1 {x : Int} (h : 0 ≤ x ∧ x ≤ 4294967295) : IntKind.u8.wrap ((wQ x 1).tmod 256) = x / 256 % 256 := by rw [wQ1 h, tmB (by omega)]
theorem wb2 {x : Int} (h : 0 ≤ x ∧ x ≤ 4294967295) : IntKind.u8.wrap ((wQ x 2).tmod 256) = x / 65536 % 256 := by rw [wQ2 h, tmB (by omega)]
theorem wb3 {x : Int} (h : 0 ≤ x ∧ x ≤ 4294967295) : IntKind.u8.wrap ((wQ x 3).tmod 256) = x / 16777216 % 256 := by rw [wQ3 h, tmB (by omega)]
theorem wR4 {x : Int} (h : 0 ≤ x ∧ x ≤ 4294967295) : wR x 4 = n4 x := by
  show [wB x 3, wB x 2, wB x 1, wB x 0] = _
  unfold wB n4 bY
  rw [wb0 h, wb1 h, wb2 h, wb3 h, Int.ediv_one]
/-- Pairs in range. -/
def okP (ps : List (List AV)) : Prop := ∀ i, i < ps.length → (0 ≤ intOf ((ps.getD i []).getD 0 AV.junk) ∧ intOf ((ps.getD i []).getD 0 AV.junk) ≤ 65535) ∧ (0 ≤ intOf ((ps.getD i []).getD 1 AV.junk) ∧ intOf ((ps.getD i []).getD 1 AV.junk) ≤ 4294967295)
theorem ends47 (t g n : Int) (d : List UInt8) (pa de : Int) (so : Bool) (we co la inc : Int) (ps out : List (List AV)) (hp : okP ps) (hl : out.length + 6 * ps.length ≤ 140737488355328) :
    Ends (g47_14 (t, g, n, d, pa, de, so, we, co, la, inc, ps)) (n47_14 (t, g, n, d, pa, de, so, we, co, la, inc, ps)) ((0 : Int), out) ((ps.length : Int), out ++ psR ps) := by
  have hz : psR ps = psR (ps.take ps.length) := by rw [List.take_length]
  rw [hz]
  refine count0 ps.length (fun i => ((i : Int), out ++ psR (ps.take i))) ?_ (fun i hi => ⟨?_, ?_⟩) ?_
  · rw [List.take_zero, psR_nil, List.append_nil]; rfl
  · have hq : (psR (ps.take i)).length = 6 * i := by rw [psR_len, List.length_take]; omega
    unfold g47_14 go47_14
    dsimp only
    have h1 : ∀ a b c d e f g h i j k l m n, (rn47_14_1 a b c d e f g h i j k l m n).length = 2 := fun _ _ _ _ _ _ _ _ _ _ _ _ _ _ => rfl
    have h4 : ∀ x, (wR x 4).length = 4 := fun _ => rfl
    simp only [List.length_append, h1, h4, hq]
    rw [decide_eq_true (show (i : Int) < (ps.length : Int) by omega), decide_eq_true (show (0 : Int) ≤ (i : Int) by omega), decide_eq_true (by omega), decide_eq_true (by omega), decide_eq_true (by omega), decide_eq_true (by omega)]
    rfl
  · obtain ⟨ha, hb⟩ := hp i hi
    unfold n47_14 nx47_14_0 nx47_14_13 rn47_14_0 rn47_14_2
    dsimp only
    rw [Int.toNat_natCast, wrapN i ps.length hi (by omega), psR_take hi, Nat.zero_add, wrapOf _ (by omega) (by omega), wrapOf _ (by omega) (by omega), wb0 (by omega), wb1 (by omega), wb0 (by omega), wb1 (by omega), wb2 (by omega), wb3 (by omega)]
    unfold psP n2 n4 bY
    simp only [Int.ediv_one, List.append_assoc]
  · unfold g47_14 go47_14
    dsimp only
    rw [decide_eq_false (by omega)]
    rfl
theorem loop47 (t g n : Int) (d : List UInt8) (pa de : Int) (so : Bool) (we co la inc : Int) (ps out : List (List AV)) (hp : okP ps) (hl : out.length + 6 * ps.length ≤ 140737488355328) :
    finL (g47_14 (t, g, n, d, pa, de, so, we, co, la, inc, ps)) (n47_14 (t, g, n, d, pa, de, so, we, co, la, inc, ps)) ((0 : Int), out) = ((ps.length : Int), out ++ psR ps) ∧
    (spI g47_14 n47_14 y47_14 z47_14 d47_14 ((t, g, n, d, pa, de, so, we, co, la, inc, ps), (0 : Int), out)).fst = true := by
  have f := (ends47 t g n d pa de so we co la inc ps out hp hl).fin
  refine ⟨f.2, ?_⟩
  simp only [spI]
  rw [f.2, f.1]
  unfold y47_14 z47_14 xc47_14_0
  dsimp only
  rw [decide_eq_false (by omega)]
  rfl
section
variable {t g n : Int} {d : List UInt8} {pa de : Int} {so : Bool} {we co la inc : Int} {ps : List (List AV)}
set_option maxHeartbeats 8000000 in
theorem r47 (ha : 0 ≤ pa ∧ pa ≤ 255) (hd : 0 ≤ de ∧ de ≤ 2147483647) (hc : 0 ≤ co ∧ co ≤ 4294967295) (hla : 0 ≤ la ∧ la ≤ 2147483647) (hi : 0 ≤ inc ∧ inc ≤ 2147483647) (hl : d.length + 6 * ps.length ≤ 140737488000000) (hp : okP ps) (hE : (t == 4) = true ∨ ps = []) :
    vev47_0 t g n d pa de so we co la inc ps = payN (vev61_0 t g n d pa de so we co la inc ps) (vev68_0 t g n d pa de so we co la inc ps) t d pa de so we co la inc ps ∧ vev47_1 t g n d pa de so we co la inc ps = true := by
  have lp := fun (out : List (List AV)) (h : out.length ≤ 100) => (loop47 t g n d pa de so we co la inc ps out hp (by omega)).1
  have lq := fun (out : List (List AV)) (h : out.length ≤ 100) => (loop47 t g n d pa de so we co la inc ps out hp (by omega)).2
  have uc := wrapOf co (by omega) (by omega)
  have d0 := wb0 (x := de) (by omega)
  have d1 := wb1 (x := de) (by omega)
  have d2 := wb2 (x := de) (by omega)
  have d3 := wb3 (x := de) (by omega)
  have dr := wR4 (x := de) (by omega)
  have l0 := wb0 (x := la) (by omega)
  have l1 := wb1 (x := la) (by omega)
  have l2 := wb2 (x := la) (by omega)
  have l3 := wb3 (x := la) (by omega)
  have lr := wR4 (x := la) (by omega)
  have c0 := wb0 (x := co) (by omega)
  have c1 := wb1 (x := co) (by omega)
  have c2 := wb2 (x := co) (by omega)
  have c3 := wb3 (x := co) (by omega)
  have cr := wR4 (x := co) (by omega)
  have i0 := wb0 (x := inc) (by omega)
  have i1 := wb1 (x := inc) (by omega)
  have i2 := wb2 (x := inc) (by omega)
  have i3 := wb3 (x := inc) (by omega)
  have ir := wR4 (x := inc) (by omega)
  have tb : IntKind.u8.wrap (de / 16777216 % 256 + 128) = de / 16777216 % 256 + 128 := by rw [wrapB]; omega
  have up : IntKind.u8.wrap pa = pa := by rw [wrapB]; omega
  have pn : pa.toNat ≤ 255 := by omega
  have p0 : decide ((0 : Int) ≤ pa) = true := decide_eq_true (by omega)
  have p1 : decide (pa ≤ (1099511627776 : Int)) = true := decide_eq_true (by omega)
  have ql := psR_len ps
  have e8 : decide (t = 8) = (t == 8) := by rw [Bool.eq_iff_iff, decide_eq_true_eq, beq_iff_eq]
  have hy : ((t == 7) = true ∧ (t == 3) = false ∧ (t == 8) = false ∧ (t == 4) = false ∧ ps = []) ∨ ((t == 7) = false ∧ (t == 3) = true ∧ (t == 8) = false ∧ (t == 4) = false ∧ ps = []) ∨ ((t == 7) = false ∧ (t == 3) = false ∧ (t == 8) = true ∧ (t == 4) = false ∧ ps = []) ∨ ((t == 7) = false ∧ (t == 3) = false ∧ (t == 8) = false ∧ (t == 4) = true) ∨ ((t == 7) = false ∧ (t == 3) = false ∧ (t == 8) = false ∧ (t == 4) = false ∧ ps = []) := by
    have hx : t = 7 ∨ t = 3 ∨ t = 8 ∨ t = 4 ∨ (t ≠ 7 ∧ t ≠ 3 ∧ t ≠ 8 ∧ t ≠ 4) := by omega
    have he : t ≠ 4 → ps = [] := fun h => hE.resolve_left (by rw [beq_eq_false_iff_ne.2 h]; exact Bool.false_ne_true)
    rcases hx with h | h | h | h | h
    · have hz := he (by omega); rw [h]; exact Or.inl ⟨rfl, rfl, rfl, rfl, hz⟩
    · have hz := he (by omega); rw [h]; exact Or.inr (Or.inl ⟨rfl, rfl, rfl, rfl, hz⟩)
    · have hz := he (by omega); rw [h]; exact Or.inr (Or.inr (Or.inl ⟨rfl, rfl, rfl, rfl, hz⟩))
    · rw [h]; exact Or.inr (Or.inr (Or.inr (Or.inl ⟨rfl, rfl, rfl, rfl⟩)))
    · exact Or.inr (Or.inr (Or.inr (Or.inr ⟨beq_eq_false_iff_ne.2 h.1, beq_eq_false_iff_ne.2 h.2.1, beq_eq_false_iff_ne.2 h.2.2.1, beq_eq_false_iff_ne.2 h.2.2.2, he h.2.2.2⟩)))
  clear hE
  rcases so with _ | _
  · rcases bcase (vev61_0 t g n d pa de false we co la inc ps) with hP | hP
    all_goals rcases bcase (vev68_0 t g n d pa de false we co la inc ps) with hW | hW
    all_goals rcases hy with ⟨h7, h3, h8, h4, rfl⟩ | ⟨h7, h3, h8, h4, rfl⟩ | ⟨h7, h3, h8, h4, rfl⟩ | ⟨h7, h3, h8, h4⟩ | ⟨h7, h3, h8, h4, rfl⟩
    all_goals refine ⟨?_, ?_⟩
    all_goals simp only [vev47_0, vev47_1, payN, hP, hW, h7, h3, h8, h4, e8, cond_true, cond_false, Bool.or_true, Bool.or_false, Bool.or_self]
    all_goals simp (disch := first | omega | (simp only [List.length_cons, List.length_nil]; omega)) only [wgt, n4, bY, cond_true, cond_false, rev47_0, rev47_1, rev47_2, rev47_6, rev47_9, rev47_19, rev47_26, rev47_33, rev47_34, rev47_35, rev47_38, rev47_45, rev47_46, rev47_47, rev47_50, rev47_51, rev47_52, rev47_53, rev47_54, rev47_55, rev47_56, rev47_57, rev47_58, rev47_61, rev47_67, rev47_68, rev47_71, rev47_72, rev47_73, rev47_74, rev47_75, rev47_76, rev47_97, rev47_98, rev47_101, rev47_107, rev47_108, rev47_111, rev47_112, rev47_113, rev47_114, rev47_115, rev47_116, rev47_117, rev47_118, rev47_119, rev47_121, rev47_126, rev47_127, rev47_129, rev47_130, rev47_131, rev47_132, rev47_133, lp, lq, psR_nil, List.append_nil, uc, d0, d1, d2, d3, l0, l1, l2, l3, lr, c0, c1, c2, c3, cr, i0, i1, i2, i3, ir, up, p0, p1, Int.ediv_one, List.append_assoc, List.cons_append, List.nil_append, List.length_append, List.length_cons, List.length_nil, List.length_map, List.length_replicate, ql, decide_eq_true]
  · rcases bcase (vev61_0 t g n d pa de true we co la inc ps) with hP | hP
    all_goals rcases bcase (vev68_0 t g n d pa de true we co la inc ps) with hW | hW
    all_goals rcases hy with ⟨h7, h3, h8, h4, rfl⟩ | ⟨h7, h3, h8, h4, rfl⟩ | ⟨h7, h3, h8, h4, rfl⟩ | ⟨h7, h3, h8, h4⟩ | ⟨h7, h3, h8, h4, rfl⟩
    all_goals refine ⟨?_, ?_⟩
    all_goals simp only [vev47_0, vev47_1, payN, hP, hW, h7, h3, h8, h4, e8, cond_true, cond_false, Bool.or_true, Bool.or_false, Bool.or_self]
    all_goals simp (disch := first | omega | (simp only [List.length_cons, List.length_nil]; omega)) only [wgt, n4, bY, cond_true, rev47_0, rev47_1, rev47_2, rev47_3, rev47_4, rev47_5, rev47_6, rev47_9, rev47_10, rev47_19, rev47_20, rev47_21, rev47_22, rev47_25, rev47_26, rev47_27, rev47_28, rev47_29, rev47_30, rev47_31, rev47_32, rev47_57, rev47_58, rev47_61, rev47_67, rev47_68, rev47_71, rev47_72, rev47_73, rev47_74, rev47_75, rev47_76, rev47_77, rev47_78, rev47_81, rev47_87, rev47_88, rev47_91, rev47_92, rev47_93, rev47_94, rev47_95, rev47_96, rev47_117, rev47_118, rev47_119, rev47_121, rev47_126, rev47_127, rev47_129, rev47_130, rev47_131, rev47_132, rev47_133, lp, lq, psR_nil, List.append_nil, uc, d0, d1, d2, dr, l0, l1, l2, l3, lr, c0, c1, c2, c3, cr, i0, i1, i2, i3, ir, tb, up, p0, p1, Int.ediv_one, List.getD_cons_zero, intOf, show Int.toNat 0 = 0 from rfl, List.append_assoc, List.cons_append, List.nil_append, List.length_append, List.length_cons, List.length_nil, List.length_map, List.length_replicate, ql, decide_eq_true]

end
end Go.Proofs.Gv
