import Derived.Test.YthnbpgiohimkoaaPw28
import Derived.Laws.BitsLemmas
import Derived.KernelRfl
set_option linter.unusedVariables false
namespace Go.Proofs.Gv
section
variable {X : Cfg}
def bodyOf (fn : Func) : Code := fn.body.getD .skip
def isReg (i : Nat) (c : Code) : Bool :=
 match firstReg c with
 | some j => Nat.beq i j
 | none => false
def loopAt (fn : Func) (i : Nat) : Code := ((loopsOf (bodyOf fn)).find? (isReg i)).getD .skip
def keepT (X : Cfg) (i : Nat) : List Nat :=
 match X.keep i with
 | some (a, _, _) => a
 | none => []
def keepC (X : Cfg) (i : Nat) : List Nat :=
 match X.keep i with
 | some (_, b, _) => b
 | none => []
def headLsp (i : Nat) : Nat → St → Option (Bool × List (Bool × Ex × St) × Ex × St) := fun j s => match Nat.beq i j with
 | true => some (true, [], .ret, s)
 | false => none
def headV (X : Cfg) (fn : Func) (i : Nat) (T0 : List AV) (C0 : List Blk) : Option (List AV × List Blk) :=
 evCode { X with lsp := headLsp i } (bodyOf fn) (initS X fn T0 C0) fun _ s => some (viewT (keepT X i) s, viewC (keepC X i) s)
def sizedS (nt nc : Nat) (s : St) : Bool := Nat.beq s.T.length nt && Nat.beq s.C.length nc
def roundV (X : Cfg) (c : Code) (κ κb κx κbx : List Nat) (vt : List AV) (vc : List Blk) : Option (Ex × List AV × List Blk) :=
 evCode X c (spread κ κb X.nt (X.m + X.nid) vt vc) fun ex s1 => match ex with
  | .norm => cond (spreadOK κ κb X.nt (X.m + X.nid) (mask X c s1)) (some (.norm, viewT κ (mask X c s1), viewC κb (mask X c s1))) none
  | ex => cond (sizedS X.nt (X.m + X.nid) s1) (some (ex, viewT κx s1, viewC κbx s1)) none
theorem clean_eq {κ κb : List Nat} {nt nc : Nat} {s : St} (h : sizedS nt nc s = true) : clean κ κb s = spread κ κb nt nc (viewT κ s) (viewC κb s) := by
 simp only [sizedS, Bool.and_eq_true, Nat.beq_eq] at h
 obtain ⟨h1, h2⟩ := h
 unfold clean spread
 rw [h1, h2]
 congr 1
 ·unfold maskT spreadT
  refine List.map_congr_left fun i hi => ?_
  cases hk : inL i κ with
  | true => simp only [viewT, List.getD, List.getElem?_map, ixOf_get hk, Option.map_some, Option.getD_some, St.t]
  | false => simp only [viewT, List.getD, List.getElem?_map, ixOf_not hk]; simp
 ·unfold maskC spreadC
  refine List.map_congr_left fun i hi => ?_
  cases hk : inL i κb with
  | true => simp only [viewC, List.getD, List.getElem?_map, ixOf_get hk, Option.map_some, Option.getD_some, St.c]
  | false => simp only [viewC, List.getD, List.getElem?_map, ixOf_not hk]; simp
theorem roundV_inv {c : Code} {κ κb κx κbx : List Nat} {vt vt' : List AV} {vc vc' : List Blk} {ex : Ex} (h : roundV X c κ κb κx κbx vt vc = some (ex, vt', vc')) :
  ∃ s1, roundA X c (spread κ κb X.nt (X.m + X.nid) vt vc) = some (ex, s1) ∧ match ex with
   | .norm => mask X c s1 = spread κ κb X.nt (X.m + X.nid) vt' vc'
   | _ => clean κx κbx s1 = spread κx κbx X.nt (X.m + X.nid) vt' vc' := by
 unfold roundV at h
 rw [evCode_bind] at h
 unfold roundA
 cases hr : evCode X c (spread κ κb X.nt (X.m + X.nid) vt vc) fun ex s' => some (ex, s') with
 | none => rw [hr] at h; cases h
 | some p =>
   obtain ⟨ex1, s1⟩ := p
   rw [hr] at h
   simp only [Option.bind_some] at h
   cases ex1 with
   | norm =>
     simp only at h
     cases hk : spreadOK κ κb X.nt (X.m + X.nid) (mask X c s1) with
     | false => rw [hk] at h; cases h
     | true =>
       rw [hk] at h
       injection h with h
       injection h with h1 h2
       injection h2 with h2 h3
       subst h1 h2 h3
       exact ⟨s1, rfl, spread_eq hk⟩
   | ret =>
     simp only at h
     cases hk : sizedS X.nt (X.m + X.nid) s1 with
     | false => rw [hk] at h; cases h
     | true =>
       rw [hk] at h
       injection h with h
       injection h with h1 h2
       injection h2 with h2 h3
       subst h1 h2 h3
       exact ⟨s1, rfl, clean_eq hk⟩
   | exit i =>
     simp only at h
     cases hk : sizedS X.nt (X.m + X.nid) s1 with
     | false => rw [hk] at h; cases h
     | true =>
       rw [hk] at h
       injection h with h
       injection h with h1 h2
       injection h2 with h2 h3
       subst h1 h2 h3
       exact ⟨s1, rfl, clean_eq hk⟩
theorem loop_views {c : Code} {α : Type} (κ κb κx κbx : List Nat) (VT : α → List AV) (VC : α → List Blk) (out : α → Option (Ex × List AV × List Blk)) (μ : α → Nat)
  (h : ∀ a r, out a = some r → ∃ ex vt vc, roundV X c κ κb κx κbx (VT a) (VC a) = some (ex, vt, vc) ∧ match ex with
    | .norm => ∃ a', vt = VT a' ∧ vc = VC a' ∧ out a' = some r ∧ μ a' < μ a
    | ex => r = (ex, vt, vc)) :
  ∀ (a : α) (s : St) (r : Ex × List AV × List Blk), mask X c s = spread κ κb X.nt (X.m + X.nid) (VT a) (VC a) → out a = some r → ∀ {R : Type} (k : Ex → St → Option R) (v : R), k r.1 (spread κx κbx X.nt (X.m + X.nid) r.2.1 r.2.2) = some v →
   ∃ n, loopN X (fun s k => evCode X c s k) c n s (fun ex s1 => k ex (clean κx κbx s1)) = some v := by
 intro a s r hs ho R k v hk
 refine loop_run (X := X) (c := c) (fun a => spread κ κb X.nt (X.m + X.nid) (VT a) (VC a)) (fun a => (out a).map fun r => (r.1, spread κx κbx X.nt (X.m + X.nid) r.2.1 r.2.2)) κx κbx μ (fun a r hr => ?_) a s (r.1, spread κx κbx X.nt (X.m + X.nid) r.2.1 r.2.2) hs (by rw [ho]; rfl) k v hk
 cases hq : out a with
 | none => rw [hq] at hr; cases hr
 | some q =>
   rw [hq] at hr
   simp only [Option.map_some, Option.some.injEq] at hr
   obtain ⟨ex, vt, vc, h1, h2⟩ := h a q hq
   obtain ⟨s1, h3, h4⟩ := roundV_inv h1
   refine ⟨ex, s1, h3, ?_⟩
   cases ex with
   | norm =>
     obtain ⟨a', rfl, rfl, h5, h6⟩ := h2
     exact ⟨a', h4, by rw [h5]; simp [hr], h6⟩
   | ret =>
     simp only at h2 h4
     subst h2
     exact ⟨by rw [← hr], by rw [← hr, h4]⟩
   | exit i =>
     simp only at h2 h4
     subst h2
     exact ⟨by rw [← hr], by rw [← hr, h4]⟩
def lspOf {α : Type} (κ κb κx κbx : List Nat) (nt nc : Nat) (dec : List AV → List Blk → Option α) (sp : α → Bool × List (Bool × Ex × List AV × List Blk) × Ex × List AV × List Blk) (s : St) : Option (Bool × List (Bool × Ex × St) × Ex × St) :=
 match spreadOK κ κb nt nc s with
 | true => match dec (viewT κ s) (viewC κb s) with
   | some a => some ((sp a).1, (sp a).2.1.map (fun p => (p.1, p.2.1, spread κx κbx nt nc p.2.2.1 p.2.2.2)), (sp a).2.2.1, spread κx κbx nt nc (sp a).2.2.2.1 (sp a).2.2.2.2)
   | none => none
 | false => none
def pickE (l : List (Bool × Ex × List AV × List Blk)) (d : Ex × List AV × List Blk) : Ex × List AV × List Blk :=
 match l with
 | [] => d
 | (c, e) :: l => cond c e (pickE l d)
theorem altK_pick {R : Type} {κx κbx : List Nat} {nt nc : Nat} (k : Ex → St → Option R) (d : Ex × List AV × List Blk) : ∀ (l : List (Bool × Ex × List AV × List Blk)),
  altK (l.map (fun p => (p.1, p.2.1, spread κx κbx nt nc p.2.2.1 p.2.2.2))) (k d.1 (spread κx κbx nt nc d.2.1 d.2.2)) k = k (pickE l d).1 (spread κx κbx nt nc (pickE l d).2.1 (pickE l d).2.2) := by
 intro l
 induction l with
 | nil => rfl
 | cons p l ih =>
   obtain ⟨c, e⟩ := p
   simp only [List.map_cons, altK, pickE]
   cases c
   ·exact ih
   ·rfl
theorem LoopOK1.of {c : Code} {i : Nat} (hi : firstReg c = some i) {α : Type} (κ κb κx κbx : List Nat) (VT : α → List AV) (VC : α → List Blk) (dec : List AV → List Blk → Option α) (sp : α → Bool × List (Bool × Ex × List AV × List Blk) × Ex × List AV × List Blk) (μ : α → Nat)
  (hl : ∀ s, X.lsp i s = lspOf κ κb κx κbx X.nt (X.m + X.nid) dec sp s)
  (hd : ∀ vt vc a, dec vt vc = some a → vt = VT a ∧ vc = VC a)
  (h : ∀ a, (sp a).1 = true → ∃ ex vt vc, roundV X c κ κb κx κbx (VT a) (VC a) = some (ex, vt, vc) ∧ match ex with
    | .norm => ∃ a', vt = VT a' ∧ vc = VC a' ∧ (sp a').1 = true ∧ pickE (sp a').2.1 (sp a').2.2 = pickE (sp a).2.1 (sp a).2.2 ∧ μ a' < μ a
    | ex => pickE (sp a).2.1 (sp a).2.2 = (ex, vt, vc)) : LoopOK1 X c := by
 intro s alts ex s' hls R k r hk
 unfold lspA at hls
 rw [hi] at hls
 simp only at hls
 cases hsz : sized X s with
 | false => rw [hsz] at hls; cases hls
 | true =>
   rw [hsz, cond_true, hl] at hls
   unfold lspOf at hls
   cases hso : spreadOK κ κb X.nt (X.m + X.nid) (mask X c s) with
   | false => rw [hso] at hls; cases hls
   | true =>
     rw [hso] at hls
     simp only at hls
     cases hda : dec (viewT κ (mask X c s)) (viewC κb (mask X c s)) with
     | none => rw [hda] at hls; cases hls
     | some a =>
       rw [hda] at hls
       simp only [Option.some.injEq, Prod.mk.injEq] at hls
       obtain ⟨h1, h2, h3, h4⟩ := hls
       subst h2 h3 h4
       obtain ⟨hv1, hv2⟩ := hd _ _ _ hda
       have hs := spread_eq hso
       rw [hv1, hv2] at hs
       have hk' := hk
       rw [show k (sp a).2.2.1 (spread κx κbx X.nt (X.m + X.nid) (sp a).2.2.2.1 (sp a).2.2.2.2) = k (sp a).2.2.1 (spread κx κbx X.nt (X.m + X.nid) (sp a).2.2.2.1 (sp a).2.2.2.2) from rfl] at hk'
       rw [altK_pick (d := (sp a).2.2)] at hk'
       obtain ⟨n, hn⟩ := loop_views (X := X) (c := c) κ κb κx κbx VT VC (fun a => cond (sp a).1 (some (pickE (sp a).2.1 (sp a).2.2)) Option.none) μ (fun a r hr => by
        cases hb : (sp a).1 with
        | false => rw [hb] at hr; cases hr
        | true =>
          rw [hb, cond_true, Option.some.injEq] at hr
          obtain ⟨ex, vt, vc, h5, h6⟩ := h a hb
          refine ⟨ex, vt, vc, h5, ?_⟩
          cases ex with
          | norm =>
            obtain ⟨a', e1, e2, e3, e4, e5⟩ := h6
            exact ⟨a', e1, e2, by rw [e3, cond_true, e4, hr], e5⟩
          | ret => simp only at h6 ⊢; rw [← hr, h6]
          | exit i => simp only at h6 ⊢; rw [← hr, h6]) a s _ hs (by rw [h1, cond_true]) k r hk'
       exact ⟨n, κx, κbx, hn⟩
theorem find_of {l : List Code} {i : Nat} {b : Code} (hb : b ∈ l) (hr : firstReg b = some i) (hn : (l.map firstReg).Nodup) : l.find? (isReg i) = some b := by
 induction l with
 | nil => cases hb
 | cons a l ih =>
   rw [List.map_cons, List.nodup_cons] at hn
   rcases List.mem_cons.1 hb with h | h
   ·subst h
    have : isReg i b = true := by unfold isReg; rw [hr]; simp
    simp [List.find?, this]
   ·have : isReg i a = false := by
     cases hq : isReg i a with
     | false => rfl
     | true =>
       exfalso
       unfold isReg at hq
       split at hq
       ·rename_i j hj
        have := Nat.eq_of_beq_eq_true hq
        subst this
        exact hn.1 (by rw [hj, ← hr]; exact List.mem_map_of_mem h)
       ·cases hq
    simp only [List.find?, this]
    exact ih h hn.2
def nodupO : List (Option Nat) → Bool
 | [] => true
 | some i :: l => l.all (fun j => match j with
    | some j => !(Nat.beq i j)
    | none => true) && nodupO l
 | none :: _ => false
theorem nodupO_spec : ∀ {l : List (Option Nat)}, nodupO l = true → l.Nodup := by
 intro l
 induction l with
 | nil => intro _; exact List.nodup_nil
 | cons a l ih =>
   intro h
   cases a with
   | none => cases h
   | some i =>
     simp only [nodupO, Bool.and_eq_true] at h
     rw [List.nodup_cons]
     refine ⟨fun hm => ?_, ih h.2⟩
     have := List.all_eq_true.1 h.1 _ hm
     simp at this
theorem loops_of {fn : Func} (is : List Nat) (h1 : nodupO ((loopsOf (bodyOf fn)).map firstReg) = true) (h2 : (loopsOf (bodyOf fn)).map firstReg = is.map some) (h : ∀ i ∈ is, LoopOK1 X (loopAt fn i)) : ∀ c, fn.body = some c → LoopsOK X c := by
 intro c hc
 have hb : bodyOf fn = c := by unfold bodyOf; rw [hc]; rfl
 refine LoopsOK.of c fun b hb' => ?_
 rw [← hb] at hb'
 have hm : firstReg b ∈ is.map some := by rw [← h2]; exact List.mem_map_of_mem hb'
 obtain ⟨i, hi, he⟩ := List.mem_map.1 hm
 have := find_of hb' he.symm (nodupO_spec h1)
 have hl : loopAt fn i = b := by unfold loopAt; rw [this]; rfl
 rw [← hl]
 exact h i hi
def evFin (X : Cfg) (m : Nat) (ts : List TypeId) (fn : Func) (T0 : List AV) (C0 : List Blk) : Option (Bool × AV × List Blk) :=
 match fn.body with
 | some c => evCode X c (initS X fn T0 C0) fun ex s => match ex with
   | .norm => fin X.P true m ts (finS X s fn)
   | .ret => fin X.P true m ts (finS X s fn)
   | .exit _ => none
 | none => none
theorem evFin_inv {m : Nat} {ts : List TypeId} {fn : Func} {T0 : List AV} {C0 : List Blk} {b : Bool} {r : AV} {o : List Blk} (h : evFin X m ts fn T0 C0 = some (b, r, o)) :
  ∃ r0 o0, evFun X fn T0 C0 = some (r0, o0) ∧ fin X.P true m ts (some (r0, o0)) = some (b, r, o) := by
 unfold evFin at h
 unfold evFun
 cases hb : fn.body with
 | none => rw [hb] at h; cases h
 | some c =>
   rw [hb] at h
   simp only at h ⊢
   rw [evCode_bind] at h ⊢
   cases hr : evCode X c (initS X fn T0 C0) fun ex s' => some (ex, s') with
   | none => rw [hr] at h; cases h
   | some p =>
     obtain ⟨ex, s⟩ := p
     rw [hr] at h
     simp only [Option.bind_some] at h ⊢
     cases ex with
     | norm =>
       simp only at h ⊢
       cases hf : finS X s fn with
       | none => rw [hf] at h; cases h
       | some q => rw [hf] at h; exact ⟨q.1, q.2, rfl, h⟩
     | ret =>
       simp only at h ⊢
       cases hf : finS X s fn with
       | none => rw [hf] at h; cases h
       | some q => rw [hf] at h; exact ⟨q.1, q.2, rfl, h⟩
     | exit i => cases h
end
end Go.Proofs.Gv
