/-
The contracts of the two that range over a function: the least and the greatest value of a setting.
-/
import Derived.Test.YtogfdnopjgpdiaaGaUv
import Derived.Test.YtogfdnopjgpdiaaGwD
import Derived.Test.YtogfdnopjgpdiaaGt
namespace Go.Proofs.Gv
open Go.RowKit Go.Shelf

def itm (e : List AV) : List (Int × Int) × Int := ((elsO (e.getD 0 .junk)).map fun p => (intOf (p.getD 0 .junk), intOf (p.getD 1 .junk)), intOf (e.getD 1 .junk))

theorem pairsAt_nil {m : Nat} {w : World} {A : Option Addr} {c : Nat} : PairsAt m w (.slice A 0 c) [] := .inl ⟨A, c, rfl, rfl⟩
theorem okRow2 {z1 z2 : Kd} {e : List AV} (h : okRow [z1, z2] e = true) : ∃ x y, e = [x, y] ∧ isKind z1 x = true ∧ isKind z2 y = true := by
  match e, h with
  | [], h => simp [okRow] at h
  | [_], h => simp [okRow] at h
  | [x, y], h => simp [okRow] at h; exact ⟨x, y, rfl, h.1, h.2⟩
  | _ :: _ :: _ :: _, h => simp [okRow] at h
theorem isInt {k : IntKind} {x : AV} (h : isKind (.int k) x = true) : x = .int k (intOf x) := by
  cases x <;> first | (simp [isKind] at h; done) | (simp [isKind] at h; subst h; rfl)
theorem V.intv {G : Gh} {w : World} {r : Bool} {k : IntKind} {n : Int} {v : Value} (h : V G w r (.int k n) v) : v = .int k n := by cases h; rfl
theorem pairsAt {G : Gh} {w : World} {x : AV} {v : Value} (hk : isKind (.sl [.int .u16, .int .u32]) x = true) (h : V G w false x v) : PairsAt w.heap.size w v ((elsO x).map fun p => (intOf (p.getD 0 .junk), intOf (p.getD 1 .junk))) := by
  cases h with
  | nil => exact pairsAt_nil
  | nilz => exact pairsAt_nil
  | slnil => exact pairsAt_nil
  | sl _ t zs es b o c u hr hc hm hb hi hsz hcell h =>
    have ht := hr rfl
    subst ht
    have hz : [Kd.int .u16, .int .u32] = zs := Kd.eqL_of _ _ (by simpa [isKind] using hk)
    subst hz
    refine .inr ⟨b, o, c, by simp [elsO], hb, by simpa [elsO] using hc, hm, fun k y hy => ?_⟩
    simp only [elsO, List.getElem?_map, Option.map_eq_some_iff] at hy
    obtain ⟨e, he, rfl⟩ := hy
    obtain ⟨x0, x1, rfl, h0, h1⟩ := okRow2 (hsz e (List.mem_of_getElem? he))
    have c0 := hcell k 0 _ x0 he rfl
    have c1 := hcell k 1 _ x1 he rfl
    have v0 := h k 0 _ x0 he rfl
    have v1 := h k 1 _ x1 he rfl
    rw [isInt h0] at v0
    rw [isInt h1] at v1
    rw [v0.intv] at c0
    rw [v1.intv] at c1
    exact ⟨c0.1, c1.1⟩
  | _ => simp [isKind] at hk
theorem itemsAt {G : Gh} {w : World} {t : Tk} {es : List (List AV)} {r : Bool} {v : Value} (h : V G w r (.sl t [.sl [.int .u16, .int .u32], .int .i64] es) v) : ∃ A n c, v = .slice A n c ∧ ItemsAt w.heap.size w (.slice A n c) (es.map itm) := by
  cases h with
  | slnil _ _ _ A c hA hm hn => exact ⟨A, 0, c, rfl, .inl ⟨A, c, rfl, rfl⟩⟩
  | sl _ t zs es b o c u hr hc hm hb hi hsz hcell h =>
    refine ⟨_, _, _, rfl, .inr ⟨b, o, c, by simp, hb, by simpa using hc, hm, fun k y hy => ?_⟩⟩
    simp only [List.getElem?_map, Option.map_eq_some_iff] at hy
    obtain ⟨e, he, rfl⟩ := hy
    obtain ⟨x0, x1, rfl, h0, h1⟩ := okRow2 (hsz e (List.mem_of_getElem? he))
    have c0 := hcell k 0 _ x0 he rfl
    have c1 := hcell k 1 _ x1 he rfl
    have v0 := h k 0 _ x0 he rfl
    have v1 := h k 1 _ x1 he rfl
    rw [isInt h1] at v1
    rw [v1.intv] at c1
    exact ⟨⟨_, c0.1, pairsAt h0 v0⟩, c1.1⟩
/-- What a function answers that turns nothing that lay, and gives a number back. -/
theorem fnInt {P : Program} {f : FuncId} {T0 : List AV} {k : IntKind} {n : Int} (h : ∀ (vals : Array Value) (w : World) (G : Gh), (∀ (i : Nat) (x : AV) (v : Value), T0[i]? = some x → vals[i]? = some v → V G w true x v) → T0.length = vals.size → Calls P f vals w fun e w' => e = .returned (.int k n) ∧ Below w.heap.size w w') : FnOK P f T0 [] (.int k n) [] := by
  intro B vals w G hr e0 e1 e2 e3
  refine (h vals w G hr.vt hr.len).mono fun e w' ⟨he, hb⟩ => ?_
  subst e0
  refine ⟨_, { own := fun b => if b < B.w0.heap.size then G.own b else .ext, nm := G.nm }, he, rfl, rfl, fun i x v hx hv => ?_, fun d k hk => by simp at hk, hb.os, hb.tape, hb.output, hb.size, hr.par, fun b hb1 hb2 => ?_, fun b hb1 => ?_⟩
  · cases i with
    | zero =>
      simp at hx hv
      subst hx hv
      exact .int _ _ _
    | succ i => simp at hx
  · dsimp only
    rw [if_pos hb1, hb.block b hb1]
    exact ⟨(hr.old b hb1 hb2).1, rfl⟩
  · dsimp only at hb1
    split at hb1
    · exact hr.nl b hb1
    · cases hb1
theorem args3 {G : Gh} {w : World} {t : Tk} {zs : List Kd} {es : List (List AV)} {id held : Int} {vals : Array Value} (h : ∀ (i : Nat) (x : AV) (v : Value), [AV.sl t zs es, .int .u16 id, .int .i64 held][i]? = some x → vals[i]? = some v → V G w true x v) (hl : 3 = vals.size) : ∃ v, vals = #[v, .int .u16 id, .int .i64 held] ∧ V G w true (.sl t zs es) v := by
  obtain ⟨l⟩ := vals
  match l, hl with
  | [v0, v1, v2], _ =>
    have h1 := (h 1 _ v1 rfl rfl).intv
    have h2 := (h 2 _ v2 rfl rfl).intv
    exact ⟨v0, by rw [h1, h2], h 0 _ v0 rfl rfl⟩
theorem cloneI_ok {P : Program} {f : FuncId} {zs : List Kd} (h1 : FnOK P f [.nil] [] (.sl .imm zs []) []) {es : List (List AV)} (h2 : FnOK P f [.sl .nn zs es] [] (.sl .imm zs es) []) (t : Tk) : FnOK P f [.sl t zs es] [] (.sl .imm zs es) [] := by
  intro B vals w G hr e0 e1 e2 e3
  have hs : vals.size = 1 := hr.len.symm
  obtain ⟨v0, hv0⟩ : ∃ v, vals[0]? = some v := ⟨vals[0], Array.getElem?_eq_getElem (by omega)⟩
  have hv := hr.vt 0 _ v0 rfl hv0
  have mk : ∀ x, V G w true x v0 → Rel B ⟨[x], []⟩ { tmps := vals, defers := [] } w G := fun x hx => ⟨hr.defers, hr.len, fun i y v hy hv' => by
    cases i with
    | zero =>
      simp at hy
      subst hy
      have : v = v0 := by
        have h3 : vals[0]? = some v := hv'
        rw [hv0] at h3
        injection h3 with h3
        exact h3.symm
      subst this
      exact hx
    | succ i => simp at hy, fun d k hk => by simp at hk, hr.os, hr.tape, hr.output, hr.size, hr.par, hr.old, hr.nl⟩
  cases hv with
  | slnil _ _ _ A c hA hm hn =>
    by_cases hAn : A = none
    · have hc := hA hAn
      subst hAn hc
      exact h1 B vals w G (mk .nil (.nil true)) e0 e1 e2 e3
    · exact h2 B vals w G (mk _ (.slnil true .nn zs A c hA hm fun _ => hAn)) e0 e1 e2 e3
  | sl _ _ _ _ b o c u hr' hc hm hb hi hsz hcell h =>
    refine h2 B vals w G (mk _ (.sl true .nn zs es b o c u (fun h => by cases h) hc hm hb ?_ hsz hcell h)) e0 e1 e2 e3
    rcases hi with hi | ⟨_, hi⟩
    · exact .inl hi
    · exact .inr ⟨by decide, hi⟩
def leastL (id held : Int) (es : List (List AV)) : Int := (valQ id (es.map itm)).foldl (fun a b => min a b) held
def greatestL (id held : Int) (es : List (List AV)) : Int := (valQ id (es.map itm)).foldl (fun a b => max a b) held
theorem least_ok (t : Tk) (es : List (List AV)) (id held : Int) : FnOK Try.prog 21 [.sl t [.sl [.int .u16, .int .u32], .int .i64] es, .int .u16 id, .int .i64 held] [] (.int .i64 (leastL id held es)) [] := fnInt fun vals w G h hl => by
  obtain ⟨v, rfl, hv⟩ := args3 h hl
  obtain ⟨A, n, c, rfl, hI⟩ := itemsAt hv
  exact (callsIn_wide (n := 3)).1 (least_in Fence.wide 3 trivial trivial trivial rfl (by omega) A n c id held _ w hI)
theorem greatest_ok (t : Tk) (es : List (List AV)) (id held : Int) : FnOK Try.prog 23 [.sl t [.sl [.int .u16, .int .u32], .int .i64] es, .int .u16 id, .int .i64 held] [] (.int .i64 (greatestL id held es)) [] := fnInt fun vals w G h hl => by
  obtain ⟨v, rfl, hv⟩ := args3 h hl
  obtain ⟨A, n, c, rfl, hI⟩ := itemsAt hv
  exact (callsIn_wide (n := 3)).1 (greatest_in Fence.wide 3 trivial trivial trivial rfl (by omega) A n c id held _ w hI)
end Go.Proofs.Gv
