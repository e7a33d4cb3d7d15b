/-
slices.SortFunc at a heap: the row is sorted.
-/
import Derived.Shelf.SlSortCmp.PdqK
import Derived.Shelf.SlSortCmp.NoneTotal
import Derived.Test.YtjbohlgfhfehdaaGaHl
import Derived.Test.YtjbohlgfhfehdaaGaHx
import Derived.Test.YtjbohlgfhfehdaaGaHy
namespace Go.Proofs.Gv
open Go.Proofs Go.Sort Go.Shelf Go.RowKit Go.Lib
set_option linter.unusedVariables false
theorem ltOf_cfI (x y : It) : ltOf cfI x y = ltI x y := by
  unfold ltOf cfI
  cases ltI x y <;> cases ltI y x <;> rfl
theorem swoI : SWO (ltOf cfI) where
  irrefl x := by rw [ltOf_cfI]; unfold ltI; simp
  trans x y z h1 h2 := by
    rw [ltOf_cfI] at *
    unfold ltI at *
    simp only [Bool.or_eq_true, Bool.and_eq_true, decide_eq_true_eq, beq_iff_eq] at *
    omega
  ntrans x y z h1 h2 := by
    rw [ltOf_cfI] at *
    unfold ltI at *
    simp only [Bool.or_eq_false_iff, Bool.and_eq_false_iff, decide_eq_false_iff_not, beq_eq_false_iff_ne] at *
    omega
theorem cmpLays28 (blk off size : Nat) (w : World) : CmpLays Try.prog 28 #[] encI 2 cfI blk off size w := fun m os dk _ x y => by
  refine (cmp28 x y (sortWorldK encI 2 w blk off m dk os)).mono fun e w' ⟨he, os', hw⟩ => ⟨he, 0, os', ?_⟩
  rw [hw]
  rfl
set_option maxHeartbeats 2000000 in
set_option maxRecDepth 100000 in
theorem sortFunc27 (blk off cap : Nat) (d : Array It) (w : World) (hH : HoldsK encI 2 w blk off d) (hblk : blk < w.heap.size) (hsz : d.size < 4611686018427387904) :
    Calls Try.prog 27 #[.slice (some ⟨blk, off, none⟩) d.size cap, .func (.func 28) #[] #[]] w fun e w' => e = .returned (.tuple #[]) ∧ ∃ n os, w' = sortWorldK encI 2 w blk off n (pdq (ltOf cfI) d 0 d.size (Lib.bitLen d.size) true true) os := by
  have eg : ∀ args w, (callFunc 28 args).run Try.prog w = .ok (.enter 28 args) w := enters_of Try.func28 (by kernel_rfl) rfl
  have hk : ∀ x : It, (encI x).length = 2 := fun _ => rfl
  have h1 : ∀ x : It, ∀ v ∈ encI x, v.oneCell' = true := fun x v hv => by simp [encI] at hv; rcases hv with rfl | rfl <;> rfl
  have hlim : Lib.bitLen d.size < 4611686018427387904 := Nat.lt_of_le_of_lt (Lib.bitLen_le d.size 62 (by omega) (by omega)) (by omega)
  have hp := AnyQ.pdqsortCmpFunc_all Try.pdqIt 2 Try.isAgg38 Try.sizeOf38 encI cfI 28 #[] swoI blk off cap d w eg (cmpLays28 blk off d.size w) ⟨hk, h1, hH, hblk⟩ (d.size + 1) 0 d.size (Lib.bitLen d.size) d w (by omega) rfl (SWK.start hH) (Nat.zero_le _) (Nat.le_refl _) hsz hlim (Or.inl rfl)
  change Calls Try.prog 34 _ _ _ at hp
  have hl : Calls Try.prog 35 #[.int .u64 (d.size : Int)] w fun e w' => e = .returned (.int .i64 (Lib.bitLen d.size : Nat)) ∧ w' = w := by
    have L := Try.pdqIt
    have h := Any.bits_Len (SlLaysF0.n15.bits (P := Try.prog) (ρ := Try.pdqIt_ren) { L with }) (d.size : Int) w (by omega) (by omega)
    rwa [Int.toNat_natCast] at h
  have wr : IntKind.u64.wrap (d.size : Int) = d.size := by simp [IntKind.wrap, IntKind.bits, IntKind.signed]; omega
  clear hH hk h1
  generalize pdq (ltOf cfI) d 0 d.size (Lib.bitLen d.size) true true = r at hp ⊢
  go_enter Try.func27, Try.ntmps27
  go_wp2_with (first | (go_at_call 35; refine hl.mono ?_; rintro e w' ⟨rfl, rfl⟩) | (go_at_call 34; refine hp.mono ?_; rintro e w' ⟨rfl, n, os, rfl⟩) | fail)
  go_end0
  exact ⟨rfl, n, os, rfl⟩
theorem pdq_sortL (d : Array It) : pdq (ltOf cfI) d 0 d.size (Lib.bitLen d.size) true true = (sortL d.toList).toArray := by
  obtain ⟨hp, hs⟩ := pdq_sorts (ltOf cfI) swoI d 0 d.size (Lib.bitLen d.size) true true (Nat.zero_le _) (Nat.le_refl _) (Or.inl rfl)
  generalize pdq (ltOf cfI) d 0 d.size (Lib.bitLen d.size) true true = d' at hp hs ⊢
  obtain ⟨h1, h2, h3⟩ := hp
  have e1 : d'.extract 0 d.size = d' := by rw [← h1]; simp
  have e2 : d.extract 0 d.size = d := by simp
  rw [e1, e2] at h3
  have hsrt : SortedI d'.toList := List.pairwise_iff_getElem.2 fun i j hi hj hij => by
    have := hs i j (Nat.zero_le _) hij (by rw [← h1]; simpa using hj)
    rw [ltOf_cfI] at this
    simpa [getElem!_pos, show i < d'.size from by simpa using hi, show j < d'.size from by simpa using hj] using this
  have : d'.toList = sortL d.toList := sorted_eq hsrt (sortL_sorted _) (h3.trans (sortL_perm _).symm)
  rw [← this]
set_option maxHeartbeats 2000000 in
theorem sortFuncNil27 (p : Option Addr) (cap : Nat) (fv : Value) (w : World) : Calls Try.prog 27 #[.slice p 0 cap, fv] w fun e w' => e = .returned (.tuple #[]) ∧ w' = w := by
  have L := Try.pdqIt
  have hp := fun lim W => AnyF.pdqsortCmpFunc_none Try.pdqIt p cap lim fv W
  have hp' : ∀ lim W, Calls Try.prog 34 _ _ _ := hp
  have hl : ∀ W, Calls Try.prog 35 #[.int .u64 0] W fun e w' => e = .returned (.int .i64 (Lib.bitLen 0 : Nat)) ∧ w' = W := fun W => by
    have h := Any.bits_Len (SlLaysF0.n15.bits (P := Try.prog) (ρ := Try.pdqIt_ren) { L with }) 0 W (by omega) (by omega)
    exact h
  clear L hp
  go_enter Try.func27, Try.ntmps27
  go_wp2_with (first | (go_at_call 35; refine (hl _).mono ?_; rintro e w' ⟨rfl, rfl⟩) | (go_at_call 34; refine (hp' _ _).mono ?_; rintro e w' ⟨rfl, rfl⟩) | fail)
  go_end0
  exact ⟨rfl, rfl⟩
theorem sort27_ok {es : List (List AV)} (hn : es.length ≤ 1000000) : FnOK Try.prog 27 [.rf 0 KI, .fn 28 []] [.row KI es] (.tup []) [.row KI ((sortL (es.map pairI)).map rowI)] :=
  sort27_of hn (fun blk off cap d w hH hb hs => (sortFunc27 blk off cap d w hH hb hs).mono fun e w' ⟨he, n, os, hw⟩ => ⟨he, n, os, by rw [← pdq_sortL]; exact hw⟩) sortFuncNil27
def sortR (es : List (List AV)) : List (List AV) := (sortL (es.map pairI)).map rowI
end Go.Proofs.Gv
