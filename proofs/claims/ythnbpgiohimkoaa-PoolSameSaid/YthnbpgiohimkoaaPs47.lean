import Derived.Test.YthnbpgiohimkoaaPs45
import Derived.Test.YthnbpgiohimkoaaPs46
import Derived.Test.YthnbpgiohimkoaaPs32
import Derived.Test.YthnbpgiohimkoaaPs35
import Derived.Test.YthnbpgiohimkoaaPs27
import Derived.KernelRfl
import Derived.Test.YthnbpgiohimkoaaPs30
import Derived.Test.YthnbpgiohimkoaaPs31
import Derived.Test.YthnbpgiohimkoaaPs43
import Derived.Test.YthnbpgiohimkoaaPs39
set_option linter.unusedVariables false
namespace Go.Proofs.Gv
open Go.Proofs
theorem aw10 : gk k17c 30 10 [] [] = some (true, .bool true, []) := by kernel_rfl
noncomputable def k10 : Gam := fun f T C => match Nat.beq f 10, T, C with
 | true, [], [] => some (true, .bool true, [])
 | _, T, C => k17c f T C
end Go.Proofs.Gv
namespace Go.Proofs.Gv
noncomputable def kw : Gam := fun f T C => match Nat.beq f 10, T, C with
 | true, [], [] => some (true, .bool true, [])
 | _, T, C => k17 f T C
theorem kw_ok : GamOK Try.prog kw := by
 intro f T C r outs h
 unfold kw at h
 split at h
 ·rename_i hf
  have hf' := Nat.eq_of_beq_eq_true hf
  subst hf'
  have hx : (true, AV.bool true, ([] : List Blk)) = (true, r, outs) := by simpa using h
  injection hx with _ hx
  injection hx with h1 h2
  subst h1 h2
  exact gk_ok k17c_ok 30 _ _ _ _ _ aw10
 ·exact k17_ok _ _ _ r outs h
end Go.Proofs.Gv
namespace Go.Proofs.Gv
open Go.Proofs
noncomputable def rn38_5_0 (c : LL) (d e f : Int) (g : LL) (h i : Int) (a b : LL) : Int := IntKind.i64.wrap (1 + d.tmod 3)
noncomputable def rn38_5_1 (c : LL) (d e f : Int) (g : LL) (h i : Int) (a b : LL) : LL := vev13_1 e f h i a b g (d.tmod 3) (rn38_5_0 c d e f g h i a b)
noncomputable def rn38_5_2 (c : LL) (d e f : Int) (g : LL) (h i : Int) (a b : LL) : LL := vev13_2 e f h i a b g (d.tmod 3) (rn38_5_0 c d e f g h i a b)
noncomputable def rn38_5_3 (c : LL) (d e f : Int) (g : LL) (h i : Int) (a b : LL) : Int := IntKind.i64.wrap (d + 1)
noncomputable def rn38_5_4 (c : LL) (d e f : Int) (g : LL) (h i : Int) (a b : LL) : Int := intOf ((c.getD d.toNat []).getD 0 AV.junk)
noncomputable def rn38_5_5 (c : LL) (d e f : Int) (g : LL) (h i : Int) (a b : LL) : Int := IntKind.i64.wrap ((rn38_5_4 c d e f g h i a b).tmod 8)
noncomputable def rn38_5_6 (c : LL) (d e f : Int) (g : LL) (h i : Int) (a b : LL) : Int := IntKind.i64.wrap (1 + IntKind.i64.wrap (rn38_5_4 c d e f g h i a b))
noncomputable def go38_5 (c : LL) (d e f : Int) (g : LL) (h i : Int) (a b : LL) : Bool := bif decide (d < (↑c.length : Int)) then bif vev13_3 e f h i a b g (d.tmod 3) (rn38_5_0 c d e f g h i a b) then bif decide (0 ≤ d) && decide (d < (↑c.length : Int)) then vev15_3 e f h i (rn38_5_1 c d e f g h i a b) (rn38_5_2 c d e f g h i a b) g (d.tmod 3) (rn38_5_3 c d e f g h i a b) (rn38_5_5 c d e f g h i a b) (rn38_5_6 c d e f g h i a b) else false else false else false
noncomputable def nx38_5_1 (c : LL) (d e f : Int) (g : LL) (h i : Int) (a b : LL) : Int := rn38_5_3 c d e f g h i a b
noncomputable def nx38_5_4 (c : LL) (d e f : Int) (g : LL) (h i : Int) (a b : LL) : LL := vev15_1 e f h i (rn38_5_1 c d e f g h i a b) (rn38_5_2 c d e f g h i a b) g (d.tmod 3) (rn38_5_3 c d e f g h i a b) (rn38_5_5 c d e f g h i a b) (rn38_5_6 c d e f g h i a b)
noncomputable def nx38_5_7 (c : LL) (d e f : Int) (g : LL) (h i : Int) (a b : LL) : LL := rn38_5_1 c d e f g h i a b
noncomputable def nx38_5_8 (c : LL) (d e f : Int) (g : LL) (h i : Int) (a b : LL) : LL := vev15_2 e f h i (rn38_5_1 c d e f g h i a b) (rn38_5_2 c d e f g h i a b) g (d.tmod 3) (rn38_5_3 c d e f g h i a b) (rn38_5_5 c d e f g h i a b) (rn38_5_6 c d e f g h i a b)
noncomputable def xc38_5_0 (c : LL) (d e f : Int) (g : LL) (h i : Int) (a b : LL) : Bool := bif decide (d < (↑c.length : Int)) then false else true
theorem rd38_5 (rest : Lsp) (c : LL) (d e f : Int) (g : LL) (i j : Int) (a b : LL) : rV kw rest 38 0 Try.f38 5 [0, 3, 5] [0, 1, 2, 3, 4] [3] [0, 1, 2] [AV.sl Tk.imm [Kd.int IntKind.u8] c, AV.hp 0 0, iA d] [bV e f 1 2 g i j, Blk.row kI1 a, Blk.tbl kF b none, Blk.dead, Blk.dead] = bif go38_5 c d e f g i j a b then some (Ex.norm, [AV.sl Tk.imm [Kd.int IntKind.u8] c, AV.hp 0 0, iA (nx38_5_1 c d e f g i j a b)], [bV e f 1 2 (nx38_5_4 c d e f g i j a b) i j, Blk.row kI1 (nx38_5_7 c d e f g i j a b), Blk.tbl kF (nx38_5_8 c d e f g i j a b) none, Blk.dead, Blk.dead]) else bif xc38_5_0 c d e f g i j a b then some (Ex.exit 0, [AV.hp 0 0], (bS e f g i j a b)) else none := by
 refine Eq.trans (b := bif decide (d < (↑c.length : Int)) then bif vev13_3 e f i j a b g (d.tmod 3) (rn38_5_0 c d e f g i j a b) then bif decide (0 ≤ d) && decide (d < (↑c.length : Int)) then bif decide (0 ≤ d) && decide (d < (↑c.length : Int)) then bif vev15_3 e f i j (rn38_5_1 c d e f g i j a b) (rn38_5_2 c d e f g i j a b) g (d.tmod 3) (rn38_5_3 c d e f g i j a b) (rn38_5_5 c d e f g i j a b) (rn38_5_6 c d e f g i j a b) then some (Ex.norm, [AV.sl Tk.imm [Kd.int IntKind.u8] c, AV.hp 0 0, iA (rn38_5_3 c d e f g i j a b)], [bV e f 1 2 (vev15_1 e f i j (rn38_5_1 c d e f g i j a b) (rn38_5_2 c d e f g i j a b) g (d.tmod 3) (rn38_5_3 c d e f g i j a b) (rn38_5_5 c d e f g i j a b) (rn38_5_6 c d e f g i j a b)) i j, Blk.row kI1 (rn38_5_1 c d e f g i j a b), Blk.tbl kF (vev15_2 e f i j (rn38_5_1 c d e f g i j a b) (rn38_5_2 c d e f g i j a b) g (d.tmod 3) (rn38_5_3 c d e f g i j a b) (rn38_5_5 c d e f g i j a b) (rn38_5_6 c d e f g i j a b)) none, Blk.dead, Blk.dead]) else none else none else none else none else some (Ex.exit 0, [AV.hp 0 0], (bS e f g i j a b))) (by kernel_rfl) ?_
 unfold go38_5 nx38_5_1 nx38_5_4 nx38_5_7 nx38_5_8 xc38_5_0
 generalize (vev15_3 _ _ _ _ _ _ _ _ _ _ _) = c0
 generalize (decide (0 ≤ d) && decide (d < (↑c.length : Int))) = c1
 generalize (vev13_3 _ _ _ _ _ _ _ _ _) = c2
 generalize (decide (d < (↑c.length : Int))) = c3
 cases c3; rfl; cases c2; rfl; cases c1; rfl; cases c0; rfl; rfl
abbrev pl38_5 : Type := LL × Int × Int × Int × Int
abbrev sl38_5 : Type := Int × LL × LL × LL
noncomputable def vt38_5 (a : pl38_5 × sl38_5) : List AV := [AV.sl Tk.imm [Kd.int IntKind.u8] a.1.1, AV.hp 0 0, iA a.2.1]
noncomputable def vc38_5 (a : pl38_5 × sl38_5) : List Blk := [bV a.1.2.1 a.1.2.2.1 1 2 a.2.2.1 a.1.2.2.2.1 a.1.2.2.2.2, Blk.row kI1 a.2.2.2.1, Blk.tbl kF a.2.2.2.2 none, Blk.dead, Blk.dead]
noncomputable def de38_5 (vt : List AV) (vc : List Blk) : Option (pl38_5 × sl38_5) :=
 match vt with
 | [qa0, qa1, qa2] => (match vc with
 | [qb0, qb1, qb2, qb3, qb4] => (match qa0 with
 | .sl Tk.imm [Kd.int IntKind.u8] t0 => (match qa1 with
 | AV.hp (0) (0) => (match qa2 with
 | .int .i64 t5 => (match qb0 with
 | .var [.int .i64 b0_0, .int .i64 b0_1, AV.rf (1) [.int .i64], AV.mp (2) [.int .i64, .int .i64, .int .i64, .int .i64, .int .i64, .int .i64, .sl [.int .i64, .int .i64, .int .i64, .int .i64]], .sl Tk.imm [.int .i64, .int .i64] b0_4, .int .i64 b0_5, .int .i64 b0_6] => (match qb1 with
 | .row [.int .i64] b1 => (match qb2 with
 | Blk.tbl [.int .i64, .int .i64, .int .i64, .int .i64, .int .i64, .int .i64, .sl [.int .i64, .int .i64, .int .i64, .int .i64]] b2 none => (match qb3 with
 | Blk.dead => (match qb4 with
 | Blk.dead => (some ((t0, b0_0, b0_1, b0_5, b0_6), (t5, b0_4, b1, b2)))
 | _ => none)
 | _ => none)
 | _ => none)
 | _ => none)
 | _ => none)
 | _ => none)
 | _ => none)
 | _ => none)
 | _ => none)
 | _ => none
theorem de38_5_ok (vt : List AV) (vc : List Blk) (a : pl38_5 × sl38_5) (h : de38_5 vt vc = some a) : vt = vt38_5 a ∧ vc = vc38_5 a := by
 unfold de38_5 at h
 iterate 10 (split at h; rotate_left; · cases h)
 injection h with h; subst h; exact ⟨rfl, rfl⟩
noncomputable def g38_5 (p : pl38_5) (s : sl38_5) : Bool := go38_5 p.1 s.1 p.2.1 p.2.2.1 s.2.1 p.2.2.2.1 p.2.2.2.2 s.2.2.1 s.2.2.2
noncomputable def n38_5 (p : pl38_5) (s : sl38_5) : sl38_5 := (nx38_5_1 p.1 s.1 p.2.1 p.2.2.1 s.2.1 p.2.2.2.1 p.2.2.2.2 s.2.2.1 s.2.2.2, nx38_5_4 p.1 s.1 p.2.1 p.2.2.1 s.2.1 p.2.2.2.1 p.2.2.2.2 s.2.2.1 s.2.2.2, nx38_5_7 p.1 s.1 p.2.1 p.2.2.1 s.2.1 p.2.2.2.1 p.2.2.2.2 s.2.2.1 s.2.2.2, nx38_5_8 p.1 s.1 p.2.1 p.2.2.1 s.2.1 p.2.2.2.1 p.2.2.2.2 s.2.2.1 s.2.2.2)
noncomputable def y38_5 (p : pl38_5) (s : sl38_5) : List (Bool × Out) := []
noncomputable def z38_5 (p : pl38_5) (s : sl38_5) : Bool := xc38_5_0 p.1 s.1 p.2.1 p.2.2.1 s.2.1 p.2.2.2.1 p.2.2.2.2 s.2.2.1 s.2.2.2
noncomputable def d38_5 (p : pl38_5) (s : sl38_5) : Out := (Ex.exit 0, [AV.hp 0 0], (bS p.2.1 p.2.2.1 s.2.1 p.2.2.2.1 p.2.2.2.2 s.2.2.1 s.2.2.2))
noncomputable def ls38_5 := lspOf [0, 3, 5] [0, 1, 2, 3, 4] [3] [0, 1, 2] Try.f38.ntmps (0 + tab.nid 38) de38_5 (spI g38_5 n38_5 y38_5 z38_5 d38_5)
theorem lo38_5 (rest : Lsp) : lO kw (selL 5 ls38_5 rest) 38 0 Try.f38 5 := LoopOK1.iter (i := 5) (by kernel_rfl) [0, 3, 5] [0, 1, 2, 3, 4] [3] [0, 1, 2] vt38_5 vc38_5 de38_5 g38_5 n38_5 y38_5 z38_5 d38_5 (fun _ => rfl) de38_5_ok (fun p s => rd38_5 (selL 5 ls38_5 rest) (p.1) (s.1) (p.2.1) (p.2.2.1) (s.2.1) (p.2.2.2.1) (p.2.2.2.2) (s.2.2.1) (s.2.2.2)) (fun _ _ => rfl)
noncomputable def lsp38 : Lsp := (selL 5 ls38_5 noLsp)
theorem loops38 : ∀ c, Try.f38.body = some c → lsO kw lsp38 38 0 Try.f38 c := loops_of [5] (by kernel_rfl) (by kernel_rfl) (fun i hi => by simp only [List.mem_cons, List.not_mem_nil, or_false] at hi; subst hi; exact lo38_5 noLsp)
noncomputable def rev38_0 (costs : LL) : sl38_5 := finL (g38_5 (costs, 5, 3, 0, 0)) (n38_5 (costs, 5, 3, 0, 0)) (0, [], [], [])
noncomputable def vev38_0 (costs : LL) : LL := (rev38_0 costs).snd.fst
noncomputable def vev38_1 (costs : LL) : LL := (rev38_0 costs).snd.snd.fst
noncomputable def vev38_2 (costs : LL) : LL := (rev38_0 costs).snd.snd.snd
noncomputable def vev38_3 (costs : LL) : Bool := bif (spI g38_5 n38_5 y38_5 z38_5 d38_5 ((costs, 5, 3, 0, 0), 0, [], [], [])).fst then true else false
theorem ev38 (costs : LL) : evFun (cfg Try.prog tab 100000 (gk kw 30) lsp38 38 ([] : List Blk).length Try.f38.ntmps) Try.f38 [.sl .imm [.int .u8] costs] [] = bif vev38_3 costs then some (AV.hp 0 0, (bS 5 3 (vev38_0 costs) 0 0 (vev38_1 costs) (vev38_2 costs))) else none := by
 refine Eq.trans (b := bif (spI g38_5 n38_5 y38_5 z38_5 d38_5 ((costs, 5, 3, 0, 0), 0, [], [], [])).fst then some (AV.hp 0 0, [Blk.var [iA 5, iA 3, AV.rf 1 kI1, AV.mp 2 kF, AV.sl Tk.imm kI2 (rev38_0 costs).snd.fst, iA 0, iA 0], Blk.row kI1 (rev38_0 costs).snd.snd.fst, Blk.tbl kF (rev38_0 costs).snd.snd.snd none]) else none) (by kernel_rfl) ?_
 unfold vev38_0 vev38_1 vev38_2 vev38_3
 generalize (spI g38_5 _ _ _ _ _).fst = c0
 cases c0
 ·skip
  rfl
 ·skip
  rfl
noncomputable def sp38 : Sp
 | [.sl .imm [.int .u8] costs], [] => spW (vev38_3 costs) (fin Try.prog (tab.frz 38) ([] : List Blk).length Try.f38.resultTypes.toList (some ((AV.hp 0 0, (bS 5 3 (vev38_0 costs) 0 0 (vev38_1 costs) (vev38_2 costs))))))
 | _, _ => none
noncomputable def k38 : Gam := spG 38 sp38 kw
theorem k38_ok : GamOK Try.prog k38 := spG_ok kw_ok fun T C r outs hs => by
   unfold sp38 at hs
   split at hs
   ·rename_i costs
    obtain ⟨hb, hs⟩ := spW_inv hs
    have he := ev38 costs
    rw [hb, cond_true] at he
    obtain ⟨h1, h2⟩ := fn_ok mixed plain (gk_ok kw_ok 30) Try.func38 loops38 he
    exact ⟨h1, h2.fin hs⟩
   ·cases hs
end Go.Proofs.Gv
namespace Go.Proofs.Gv
open Go.Proofs
def U8s (l : List (List AV)) : Prop := ∀ r ∈ l, ∃ x, r = [AV.int .u8 x] ∧ 0 ≤ x ∧ x ≤ 255
theorem u8_at {l : List (List AV)} (h : U8s l) {i : Nat} (hi : i < l.length) : 0 ≤ intOf ((l.getD i []).getD (0 : Nat) AV.junk) ∧ intOf ((l.getD i []).getD (0 : Nat) AV.junk) ≤ 255 := by
 obtain ⟨x, hx, h1, h2⟩ := h l[i] (List.getElem_mem hi)
 have : l.getD i [] = [AV.int .u8 x] := by rw [List.getD_eq_getElem?_getD, List.getElem?_eq_getElem hi, hx]; rfl
 rw [this]
 exact ⟨h1, h2⟩
theorem u8_of {l : List (List AV)} (h : ∀ x ∈ l, okKL [.int .u8] x) : U8s l := fun r hr => by
 obtain ⟨x, xs, rfl, ⟨n, rfl, hw⟩, hx⟩ := h r hr
 simp only [okKL] at hx
 subst hx
 have h2 : (decide (0 ≤ n) && decide (n ≤ 255)) = true := hw
 exact ⟨n, rfl, by simpa using h2⟩
theorem put_in {S : Sc} (I : Inv S) (c n id m z : Int) (hz : z ≤ 256) : ∃ S2, Inv S2 ∧ S2.q = S.q ∧ S2.lim = S.lim ∧ S2.t = S.t ∧ S2.k = S.k ∧ blF S2.fs ≤ blF S.fs + 256 ∧ wnF S2.fs ≤ wnF S.fs + 52 ∧
  vev13_3 S.q S.lim S.t S.k (ordsF S.fs) (tabsF S.fs) (R S.h) c n = true ∧
  (vev15_3 S.q S.lim S.t S.k (vev13_1 S.q S.lim S.t S.k (ordsF S.fs) (tabsF S.fs) (R S.h) c n) (vev13_2 S.q S.lim S.t S.k (ordsF S.fs) (tabsF S.fs) (R S.h) c n) (R S.h) c id m z = true ∧
    vev15_1 S.q S.lim S.t S.k (vev13_1 S.q S.lim S.t S.k (ordsF S.fs) (tabsF S.fs) (R S.h) c n) (vev13_2 S.q S.lim S.t S.k (ordsF S.fs) (tabsF S.fs) (R S.h) c n) (R S.h) c id m z = R S2.h ∧
    vev15_2 S.q S.lim S.t S.k (vev13_1 S.q S.lim S.t S.k (ordsF S.fs) (tabsF S.fs) (R S.h) c n) (vev13_2 S.q S.lim S.t S.k (ordsF S.fs) (tabsF S.fs) (R S.h) c n) (R S.h) c id m z = tabsF S2.fs ∧
    vev13_1 S.q S.lim S.t S.k (ordsF S.fs) (tabsF S.fs) (R S.h) c n = ordsF S2.fs) := by
 obtain ⟨e, S1, I1, hst, ⟨j0, j1, j2, j3⟩, _⟩ := join13 I c n
 have hs : S1.q = S.q ∧ S1.lim = S.lim ∧ S1.t = S.t ∧ S1.k = S.k ∧ S1.h = S.h := by rcases hst with ⟨_, rfl⟩ | ⟨_, rfl⟩ <;> exact ⟨rfl, rfl, rfl, rfl, rfl⟩
 have hbl : blF S1.fs = blF S.fs ∧ wnF S1.fs = wnF S.fs := by
  rcases hst with ⟨_, rfl⟩ | ⟨_, rfl⟩
  ·exact ⟨rfl, rfl⟩
  ·exact ⟨blP _ _ rfl, wnF_push _ _ rfl⟩
 obtain ⟨e2, S2, I2, hst2, ⟨k0, k1, k2, k3, k4⟩, _⟩ := admit15 I1 c id m z
 rw [hs.1, hs.2.1, hs.2.2.1, hs.2.2.2.1, hs.2.2.2.2] at k0 k1 k2 k4
 have hs2 : S2.q = S1.q ∧ S2.lim = S1.lim ∧ S2.t = S1.t ∧ S2.k = S1.k := by rcases hst2 with ⟨_, rfl⟩ | ⟨_, _, _, _, _, _, _, rfl⟩ <;> exact ⟨rfl, rfl, rfl, rfl⟩
 have hb2 : blF S2.fs ≤ blF S1.fs + 256 ∧ wnF S2.fs ≤ wnF S1.fs + 52 := by
  rcases hst2 with ⟨_, rfl⟩ | ⟨_, i, h', hi, _, hz1, _, rfl⟩
  ·exact ⟨by omega, by omega⟩
  ·have h1 := blS hi (admF S1.t S1.lim (atF S1.fs i) id m z)
   have h2 := wnF_set hi (admF S1.t S1.lim (atF S1.fs i) id m z)
   have h3 : lfQ (admF S1.t S1.lim (atF S1.fs i) id m z).rs = lfQ (atF S1.fs i).rs + z := lfQ_pu _ _ _ _
   have h4 : wnL (admF S1.t S1.lim (atF S1.fs i) id m z).rs = wnL (atF S1.fs i).rs + wn z := wnL_pu _ _ _ _
   have h5 : wn z ≤ 52 := by unfold wn; omega
   exact ⟨by show blF (S1.fs.set i _) ≤ _; omega, by show wnF (S1.fs.set i _) ≤ _; omega⟩
 refine ⟨S2, I2, hs2.1.trans hs.1, hs2.2.1.trans hs.2.1, hs2.2.2.1.trans hs.2.2.1, hs2.2.2.2.trans hs.2.2.2.1, by omega, by omega, j3, ?_⟩
 rw [j1, j2]
 exact ⟨k4, k1, k2, k3⟩
theorem step38 {S : Sc} (I : Inv S) {costs : List (List AV)} (hu : U8s costs) (h12 : costs.length ≤ 12) {i : Nat} (hi : i < costs.length) : ∃ S2, Inv S2 ∧ S2.q = S.q ∧ S2.lim = S.lim ∧ S2.t = S.t ∧ S2.k = S.k ∧ blF S2.fs ≤ blF S.fs + 256 ∧ wnF S2.fs ≤ wnF S.fs + 52 ∧
  g38_5 (costs, S.q, S.lim, S.t, S.k) ((i : Int), R S.h, ordsF S.fs, tabsF S.fs) = true ∧ n38_5 (costs, S.q, S.lim, S.t, S.k) ((i : Int), R S.h, ordsF S.fs, tabsF S.fs) = (((i + 1 : Nat) : Int), R S2.h, ordsF S2.fs, tabsF S2.fs) := by
 have hw : IntKind.i64.wrap ((i : Int) + 1) = ((i + 1 : Nat) : Int) := nxt i costs.length hi (by omega)
 have hc := u8_at hu hi
 have hz : rn38_5_6 costs (i : Int) S.q S.lim (R S.h) S.t S.k (ordsF S.fs) (tabsF S.fs) ≤ 256 := by
  unfold rn38_5_6 rn38_5_4
  rw [Int.toNat_natCast, wrapOf (intOf _) (by omega) (by omega), wrapOf _ (by omega) (by omega)]
  omega
 obtain ⟨S2, I2, a1, a2, a3, a4, a5, a6, b1, b2, b3, b4, b5⟩ := put_in I ((i : Int).tmod 3) (rn38_5_0 costs (i : Int) S.q S.lim (R S.h) S.t S.k (ordsF S.fs) (tabsF S.fs)) (rn38_5_3 costs (i : Int) S.q S.lim (R S.h) S.t S.k (ordsF S.fs) (tabsF S.fs)) (rn38_5_5 costs (i : Int) S.q S.lim (R S.h) S.t S.k (ordsF S.fs) (tabsF S.fs)) _ hz
 refine ⟨S2, I2, a1, a2, a3, a4, a5, a6, ?_, ?_⟩
 ·show go38_5 costs (i : Int) S.q S.lim (R S.h) S.t S.k (ordsF S.fs) (tabsF S.fs) = true
  unfold go38_5
  unfold rn38_5_1 rn38_5_2
  rw [b1, b2, in2 hi, decide_eq_true (show (i : Int) < (costs.length : Int) by omega)]
  rfl
 ·show (nx38_5_1 costs (i : Int) S.q S.lim (R S.h) S.t S.k (ordsF S.fs) (tabsF S.fs), nx38_5_4 costs (i : Int) S.q S.lim (R S.h) S.t S.k (ordsF S.fs) (tabsF S.fs), nx38_5_7 costs (i : Int) S.q S.lim (R S.h) S.t S.k (ordsF S.fs) (tabsF S.fs), nx38_5_8 costs (i : Int) S.q S.lim (R S.h) S.t S.k (ordsF S.fs) (tabsF S.fs)) = _
  unfold nx38_5_1 nx38_5_4 nx38_5_7 nx38_5_8
  unfold rn38_5_1 rn38_5_2
  rw [b3, b4, b5]
  unfold rn38_5_3
  rw [hw]
theorem ends38 {costs : List (List AV)} (hu : U8s costs) (h12 : costs.length ≤ 12) : ∀ (n i : Nat) (S : Sc), costs.length - i = n → i ≤ costs.length → Inv S → ∃ S', Inv S' ∧ S'.q = S.q ∧ S'.lim = S.lim ∧ S'.t = S.t ∧ S'.k = S.k ∧ blF S'.fs ≤ blF S.fs + 256 * n ∧ wnF S'.fs ≤ wnF S.fs + 52 * n ∧
  Ends (g38_5 (costs, S.q, S.lim, S.t, S.k)) (n38_5 (costs, S.q, S.lim, S.t, S.k)) ((i : Int), R S.h, ordsF S.fs, tabsF S.fs) ((costs.length : Int), R S'.h, ordsF S'.fs, tabsF S'.fs) := by
 intro n
 induction n with
 | zero =>
   intro i S hn hi I
   have : i = costs.length := by omega
   subst this
   refine ⟨S, I, rfl, rfl, rfl, rfl, by omega, by omega, Ends.stop ?_⟩
   show go38_5 costs (costs.length : Int) S.q S.lim (R S.h) S.t S.k (ordsF S.fs) (tabsF S.fs) = false
   unfold go38_5
   rw [decide_eq_false (show ¬ (costs.length : Int) < (costs.length : Int) by omega)]
   rfl
 | succ n ih =>
   intro i S hn hi I
   obtain ⟨S1, I1, q1, m1, t1, k1, c1, c2, s1, s2⟩ := step38 I hu h12 (show i < costs.length by omega)
   obtain ⟨S2, I2, q2', m2, t2, k2, c3, c4, e2⟩ := ih (i + 1) S1 (by omega) (by omega) I1
   refine ⟨S2, I2, q2'.trans q1, m2.trans m1, t2.trans t1, k2.trans k1, by omega, by omega, Ends.step s1 ?_⟩
   rw [s2]
   rw [q1, m1, t1, k1] at e2
   exact e2
theorem fill38 {costs : List (List AV)} (hu : U8s costs) (h12 : costs.length ≤ 12) : ∃ S, Inv S ∧ S.q = 5 ∧ S.lim = 3 ∧ S.t = 0 ∧ S.k = 0 ∧ blF S.fs ≤ 3072 ∧ wnF S.fs ≤ 624 ∧ vev38_0 costs = R S.h ∧ vev38_1 costs = ordsF S.fs ∧ vev38_2 costs = tabsF S.fs ∧ vev38_3 costs = true := by
 have I0 : Inv ⟨5, 3, 0, 0, [], []⟩ := ⟨by simp, by simp, by simp, fun i j hi => by simp at hi, fun i hi => by simp at hi, ⟨by simp, by simp⟩, ⟨by simp, by simp [blF, blN]⟩, fun k _ hk => by simp at hk, List.Perm.refl _⟩
 obtain ⟨S, I, a1, a2, a3, a4, a5, a6, e⟩ := ends38 hu h12 costs.length 0 ⟨5, 3, 0, 0, [], []⟩ (by omega) (by omega) I0
 have f := e.fin
 have f2 : rev38_0 costs = ((costs.length : Int), R S.h, ordsF S.fs, tabsF S.fs) := f.2
 have f1 : stopsB (g38_5 (costs, (5 : Int), (3 : Int), (0 : Int), (0 : Int))) (n38_5 (costs, (5 : Int), (3 : Int), (0 : Int), (0 : Int))) ((0 : Int), [], [], []) = true := f.1
 have f3 : finL (g38_5 (costs, (5 : Int), (3 : Int), (0 : Int), (0 : Int))) (n38_5 (costs, (5 : Int), (3 : Int), (0 : Int), (0 : Int))) ((0 : Int), [], [], []) = ((costs.length : Int), R S.h, ordsF S.fs, tabsF S.fs) := f.2
 refine ⟨S, I, a1, a2, a3, a4, ?_, ?_, ?_, ?_, ?_, ?_⟩
 ·have : blF ([] : List Fl) = 0 := rfl
  dsimp only at a5
  omega
 ·have : wnF ([] : List Fl) = 0 := rfl
  dsimp only at a6
  omega
 ·unfold vev38_0; rw [f2]
 ·unfold vev38_1; rw [f2]
 ·unfold vev38_2; rw [f2]
 ·unfold vev38_3
  simp only [spI]
  rw [f1, f3]
  unfold y38_5 z38_5 xc38_5_0
  dsimp only
  rw [decide_eq_false (show ¬ (costs.length : Int) < (costs.length : Int) by omega)]
  rfl
end Go.Proofs.Gv
namespace Go.Proofs.Gv
open Go.Proofs
set_option maxRecDepth 20000
def encI (U : List Int) : List (List AV) := U.map fun u => [AV.int .i64 u]
def smI : List Int → Int
 | [] => 0
 | x :: l => x + smI l
theorem encI_len (U : List Int) : (encI U).length = U.length := List.length_map ..
theorem encI_lenI (U : List Int) : (((encI U).length : Nat) : Int) = (U.length : Int) := by rw [encI_len]
theorem encI_get {U : List Int} {i : Nat} (h : i < U.length) : ((encI U).getD i []).getD (0 : Nat) AV.junk = .int .i64 (U.getD i 0) := by
 unfold encI
 simp [List.getD_eq_getElem?_getD, h]
theorem encI_getI {U : List Int} {i : Nat} (h : i < U.length) : intOf (((encI U).getD i []).getD (0 : Nat) AV.junk) = U.getD i 0 := by rw [encI_get h]; rfl
theorem encI_set (U : List Int) (i : Nat) (x : Int) : (encI U).set i [AV.int .i64 x] = encI (U.set i x) := by
 unfold encI
 rw [List.map_set]
theorem smI_app : ∀ a b, smI (a ++ b) = smI a + smI b
 | [], b => by simp [smI]
 | x :: a, b => by simp only [List.cons_append, smI, smI_app a b]; omega
theorem smI_set : ∀ (U : List Int) (i : Nat) (x : Int), i < U.length → smI (U.set i x) = smI U - U.getD i 0 + x
 | [], i, x, h => by simp at h
 | y :: U, 0, x, _ => by simp [smI]; omega
 | y :: U, i + 1, x, h => by
   have := smI_set U i x (by simpa using h)
   simp only [List.set_cons_succ, smI, this, List.getD_cons_succ]
   omega
theorem smI_nn : ∀ (U : List Int), (∀ i, i < U.length → 0 ≤ U.getD i 0) → 0 ≤ smI U
 | [], _ => Int.le_refl _
 | y :: U, h => by
   have h0 := h 0 (by simp)
   have := smI_nn U fun i hi => by simpa using h (i + 1) (by simpa using hi)
   simp only [List.getD_cons_zero] at h0
   simp only [smI]
   omega
theorem smI_le : ∀ (U : List Int), (∀ i, i < U.length → 0 ≤ U.getD i 0) → ∀ i, i < U.length → U.getD i 0 ≤ smI U
 | [], _, i, h => by simp at h
 | y :: U, h, i, hi => by
   have h0 := h 0 (by simp)
   have hU : ∀ i, i < U.length → 0 ≤ U.getD i 0 := fun i hi => by simpa using h (i + 1) (by simpa using hi)
   have h1 := smI_nn U hU
   simp only [List.getD_cons_zero] at h0
   match i, hi with
   | 0, _ => simp only [List.getD_cons_zero, smI]; omega
   | i + 1, hi =>
     have := smI_le U hU i (by simpa using hi)
     simp only [List.getD_cons_succ, smI]
     omega
structure Pok (U V : List Int) (K : Int) : Prop where
 n : 1 ≤ U.length ∧ U.length ≤ 8
 v : V.length = U.length
 r : ∀ i, i < U.length → 0 ≤ V.getD i 0 ∧ V.getD i 0 ≤ U.getD i 0
 s : smI U = K
theorem Pok.le {U V : List Int} {K : Int} (p : Pok U V K) {i : Nat} (hi : i < U.length) : 0 ≤ U.getD i 0 ∧ U.getD i 0 ≤ K ∧ 0 ≤ V.getD i 0 ∧ V.getD i 0 ≤ U.getD i 0 := by
 have h0 : ∀ i, i < U.length → 0 ≤ U.getD i 0 := fun i hi => by have := p.r i hi; omega
 have h1 := smI_le U h0 i hi
 have := p.r i hi
 have := p.s
 omega
theorem v58i {x : Int} (h0 : 0 ≤ x) (h1 : x ≤ 100000) : vev58_0 x = true := by
 unfold vev58_0
 rw [decide_eq_true (show x ≥ 0 from h0), decide_eq_true (show x ≤ 1099511627776 by omega)]
 rfl
theorem e20g {U V : List Int} {K : Int} (p : Pok U V K) (hK : K ≤ 5000) (d : Int) : Ends (g20_5 (encI U, ((encI U).length : Int), encI U, encI V, d)) (n20_5 (encI U, ((encI U).length : Int), encI U, encI V, d)) (0 : Int) (U.length : Int) := by
 have hn := p.n
 refine Ends.count U.length (fun i : Nat => (i : Int)) (fun i hi => ⟨?_, nxt i U.length hi (by omega)⟩) ?_
 ·have h := p.le hi
  have hv : i < V.length := by rw [p.v]; exact hi
  show go20_5 (encI U) ((encI U).length : Int) (i : Int) (encI U) (encI V) d = true
  unfold go20_5 rn20_5_0 rn20_5_1
  rw [encI_lenI, encI_lenI, p.v, Int.toNat_natCast, encI_getI hi, encI_getI hv, decide_eq_true (show (i : Int) < (U.length : Int) by omega), decide_eq_true (show (0 : Int) ≤ (i : Int) by omega)]
  rw [v58i h.1 (by omega), v58i h.2.2.1 (by omega), show decide (V.getD i 0 > U.getD i 0) = false from decide_eq_false (by omega)]
  rfl
 ·show go20_5 (encI U) ((encI U).length : Int) (U.length : Int) (encI U) (encI V) d = false
  unfold go20_5
  rw [encI_lenI, decide_eq_false (show ¬ (U.length : Int) < (U.length : Int) by omega)]
  rfl
theorem c20g {U V : List Int} {K : Int} (p : Pok U V K) (hK : K ≤ 5000) {d : Int} (h0 : 0 ≤ d) (hd : d ≤ 5000) : vev20_0 (encI U) (encI V) d = 0 ∧ vev20_1 (encI U) (encI V) d = true := by
 have hn := p.n
 have h := (e20g p hK d).fin
 have hx0 : xc20_5_0 (encI U) ((encI U).length : Int) (U.length : Int) (encI U) (encI V) d = false := by
  unfold xc20_5_0
  rw [encI_lenI, decide_eq_false (show ¬ (U.length : Int) < (U.length : Int) by omega)]
  rfl
 have hx1 : xc20_5_1 (encI U) ((encI U).length : Int) (U.length : Int) (encI U) (encI V) d = true := by
  unfold xc20_5_1
  rw [encI_lenI, decide_eq_false (show ¬ (U.length : Int) < (U.length : Int) by omega)]
  rfl
 have hs : (spI g20_5 n20_5 y20_5 z20_5 d20_5 ((encI U, ((encI U).length : Int), encI U, encI V, d), (0 : Int))).fst = true := by
  simp only [spI]
  rw [h.2, h.1]
  unfold y20_5 z20_5
  simp only [hx0, hx1]
  rfl
 unfold vev20_0 vev20_1 rev20_0
 rw [h.2, hs, hx0, v58i h0 (by omega), encI_lenI, encI_lenI, p.v, decide_eq_false (show ¬ (U.length : Int) < 1 by omega), decide_eq_false (show ¬ (U.length : Int) > 8 by omega)]
 simp
theorem c22g {U V : List Int} {K : Int} (p : Pok U V K) (hK : K ≤ 5000) {d : Int} (h0 : 0 ≤ d) (hd : d ≤ 5000) : vev22_0 (encI U) (encI V) d = K ∧ vev22_1 (encI U) (encI V) d = true := by
 have hn := p.n
 have c := c20g p hK h0 hd
 have hnn : ∀ i, i < U.length → 0 ≤ U.getD i 0 := fun i hi => (p.le hi).1
 have h : Ends (g22_5 (encI U, ((encI U).length : Int))) (n22_5 (encI U, ((encI U).length : Int))) ((0 : Int), (0 : Int)) (K, (U.length : Int)) := by
  have h := Ends.count (go := g22_5 (encI U, ((encI U).length : Int))) (next := n22_5 (encI U, ((encI U).length : Int))) U.length (fun i : Nat => (smI (U.take i), (i : Int))) (fun i hi => ⟨?_, ?_⟩) ?_
  ·rw [List.take_length, p.s] at h
   exact h
  ·show go22_5 _ (encI U) ((encI U).length : Int) (i : Int) = true
   unfold go22_5
   rw [encI_lenI, decide_eq_true (show (i : Int) < (U.length : Int) by omega), decide_eq_true (show (0 : Int) ≤ (i : Int) by omega)]
   rfl
  ·show (nx22_5_0 (smI (U.take i)) (encI U) ((encI U).length : Int) (i : Int), nx22_5_3 (smI (U.take i)) (encI U) ((encI U).length : Int) (i : Int)) = _
   have ht : smI (U.take (i + 1)) = smI (U.take i) + U.getD i 0 := by
    rw [List.take_succ_eq_append_getElem hi, smI_app]
    simp [smI, List.getD_eq_getElem?_getD, hi]
   have e1 : 0 ≤ smI (U.take i) := smI_nn _ fun j hj => by
    have hj' : j < i ∧ j < U.length := by rw [List.length_take] at hj; omega
    have := hnn j hj'.2
    rw [List.getD_eq_getElem?_getD, List.getElem?_take_of_lt hj'.1, ← List.getD_eq_getElem?_getD]
    exact this
   have e2 : smI (U.take (i + 1)) ≤ K := by
    have h1 : smI U = smI (U.take (i + 1)) + smI (U.drop (i + 1)) := by rw [← smI_app, List.take_append_drop]
    have h2 : 0 ≤ smI (U.drop (i + 1)) := smI_nn _ fun j hj => by
     rw [List.length_drop] at hj
     have := hnn (i + 1 + j) (by omega)
     rw [List.getD_eq_getElem?_getD, List.getElem?_drop, ← List.getD_eq_getElem?_getD]
     exact this
    have := p.s
    omega
   have e3 := (p.le hi).1
   unfold nx22_5_0 nx22_5_3
   rw [Int.toNat_natCast, encI_getI hi, nxt i U.length hi (by omega)]
   rw [wrapOf _ (by omega) (by omega), ht]
  ·show go22_5 _ (encI U) ((encI U).length : Int) (U.length : Int) = false
   unfold go22_5
   rw [encI_lenI, decide_eq_false (show ¬ (U.length : Int) < (U.length : Int) by omega)]
   rfl
 have h := h.fin
 have hx : xc22_5_0 K (encI U) ((encI U).length : Int) (U.length : Int) = true := by
  unfold xc22_5_0
  rw [encI_lenI, decide_eq_false (show ¬ (U.length : Int) < (U.length : Int) by omega)]
  rfl
 have hs : (spI g22_5 n22_5 y22_5 z22_5 d22_5 ((encI U, ((encI U).length : Int)), (0 : Int), (0 : Int))).fst = true := by
  simp only [spI]
  rw [h.2, h.1]
  unfold y22_5 z22_5
  simp only [hx]
  rfl
 unfold vev22_0 vev22_1 rev22_0
 rw [c.1, c.2, h.2, hs]
 exact ⟨rfl, rfl⟩
theorem c56g {U V : List Int} {K : Int} (p : Pok U V K) (d : Int) : vev56_0 (encI U) (encI V) d = true := by
 have hn := p.n
 unfold vev56_0
 rw [encI_len, encI_len, p.v, Nat.ble_eq_true_of_le (show U.length * 8 ≤ 140737488355328 by omega)]
 rfl
def inrg (n : Nat) (w : Int) : Bool := decide (0 ≤ w) && decide (w < (n : Int))
theorem c76g {U V : List Int} {K : Int} (p : Pok U V K) (hK : K ≤ 5000) {d : Int} (h0 : 0 ≤ d) (hd : d ≤ 5000) (w : Int) : vev76_0 (encI U) (encI V) d w = inrg U.length w ∧ vev76_1 (encI U) (encI V) d w = true := by
 have c := c20g p hK h0 hd
 unfold vev76_0 vev76_1 rev76_0 inrg
 rw [c.1, c.2, encI_lenI]
 by_cases a : 0 ≤ w
 ·by_cases b : w < (U.length : Int)
  ·have h := p.le (show w.toNat < U.length by omega)
   rw [encI_getI (show w.toNat < U.length by omega)]
   have h9 : U.getD w.toNat 0 ≤ 1099511626776 := by omega
   rw [show decide (U.getD w.toNat 0 ≤ 1099511626776) = true from decide_eq_true h9]
   simp [a, b]
  ·simp [a, b]
 ·simp [a]
end Go.Proofs.Gv
namespace Go.Proofs.Gv
open Go.Proofs
set_option maxRecDepth 20000
structure SF (S S' : Sc) (o : Tld) : Prop where
 I : Inv S'
 q : S'.q = S.q
 lim : S'.lim = S.lim
 ord : ordsF S.fs = ordsF S'.fs
 e0 : vev31_0 S.q S.lim S.t S.k (ordsF S.fs) (tabsF S.fs) (R S.h) = o.c
 e1 : vev31_1 S.q S.lim S.t S.k (ordsF S.fs) (tabsF S.fs) (R S.h) = o.i
 e2 : vev31_2 S.q S.lim S.t S.k (ordsF S.fs) (tabsF S.fs) (R S.h) = o.u
 e3 : vev31_3 S.q S.lim S.t S.k (ordsF S.fs) (tabsF S.fs) (R S.h) = o.l
 e4 : vev31_4 S.q S.lim S.t S.k (ordsF S.fs) (tabsF S.fs) (R S.h) = o.b
 e5 : vev31_5 S.q S.lim S.t S.k (ordsF S.fs) (tabsF S.fs) (R S.h) = R S'.h
 e6 : vev31_6 S.q S.lim S.t S.k (ordsF S.fs) (tabsF S.fs) (R S.h) = S'.t
 e7 : vev31_7 S.q S.lim S.t S.k (ordsF S.fs) (tabsF S.fs) (R S.h) = S'.k
 e8 : vev31_8 S.q S.lim S.t S.k (ordsF S.fs) (tabsF S.fs) (R S.h) = tabsF S'.fs
 e9 : vev31_9 S.q S.lim S.t S.k (ordsF S.fs) (tabsF S.fs) (R S.h) = true
 k : S'.k = S.k + (bif o.b then o.u else 0)
 u : o.b = true → 1 ≤ o.u
 bl : S'.k + blF S'.fs = S.k + blF S.fs
 wn : o.b = true → wnF S'.fs = wnF S.fs - 1
 idle : o.b = false → busyF S.fs = [] ∧ S' = S
theorem sf_of {S : Sc} (I : Inv S) (hq : S.q = 5) : ∃ S' o, SF S S' o := by
 obtain ⟨o, S', I', hst, ⟨⟨a0, a1, a2, a3, a4⟩, a5, a6, a7, a8, a9, b1, b2, b3⟩, _⟩ := serve31 I
 refine ⟨S', o, I', b1, b2, a9, a0, a1, a2, a3, a4, a5, a6, a7, a8, b3, ?_, ?_, ?_, ?_, ?_⟩
 all_goals rcases hst with ⟨hb, rfl, rfl⟩ | ⟨i, k, hs, rfl⟩
 ·simp
 ·obtain ⟨h', rfl⟩ := hs.st; rfl
 ·intro h; cases h
 ·intro _; exact (un_le (I.fl i hs.hi).g hs.hk I.q.1).1
 ·rfl
 ·obtain ⟨h', rfl⟩ := hs.st
  have h1 := blS hs.hi (srvF S.q S.lim (atF S.fs i) k)
  have h2 : lfQ (srvF S.q S.lim (atF S.fs i) k).rs = lfQ (atF S.fs i).rs - un (atF S.fs i).rs k S.q := lfQ_sv hs.hk S.q
  show S.k + un (atF S.fs i).rs k S.q + blF (S.fs.set i _) = _
  omega
 ·intro h; cases h
 ·intro _
  obtain ⟨h', rfl⟩ := hs.st
  have h1 := wnF_set hs.hi (srvF S.q S.lim (atF S.fs i) k)
  have hu := un_le (I.fl i hs.hi).g hs.hk I.q.1
  have h2 : wnL (srvF S.q S.lim (atF S.fs i) k).rs = wnL (atF S.fs i).rs - 1 := by
   show wnL (sv (atF S.fs i).rs k S.q) = _
   rw [hq]
   exact wnL_sv hs.hk (by omega)
  show wnF (S.fs.set i _) = _
  omega
 ·intro _; exact ⟨hb, rfl⟩
 ·intro h; cases h
theorem turn39 {S S' : Sc} {o : Tld} (F : SF S S' o) {U V : List Int} (p : Pok U V S.k) (hB : S.k + blF S.fs ≤ 3072) (hn : 0 ≤ blF S'.fs) (hF : 0 ≤ blF S.fs) {d : Int} (h0 : 0 ≤ d) (hd : d ≤ 4000) {w : Int} (hw : inrg U.length w = true) :
  ∃ U' V', Pok U' V' S'.k ∧ U'.length = U.length ∧ vev39_12 (encI U) (encI V) d w S.q S.lim S.t S.k (ordsF S.fs) (tabsF S.fs) (R S.h) = true ∧ vev39_0 (encI U) (encI V) d w S.q S.lim S.t S.k (ordsF S.fs) (tabsF S.fs) (R S.h) = encI U' ∧ vev39_1 (encI U) (encI V) d w S.q S.lim S.t S.k (ordsF S.fs) (tabsF S.fs) (R S.h) = encI V' ∧
   vev39_2 (encI U) (encI V) d w S.q S.lim S.t S.k (ordsF S.fs) (tabsF S.fs) (R S.h) = d + (bif o.b then 0 else 1) ∧
   xR (vev39_7 (encI U) (encI V) d w S.q S.lim S.t S.k (ordsF S.fs) (tabsF S.fs) (R S.h)) (vev39_3 (encI U) (encI V) d w S.q S.lim S.t S.k (ordsF S.fs) (tabsF S.fs) (R S.h)) (vev39_4 (encI U) (encI V) d w S.q S.lim S.t S.k (ordsF S.fs) (tabsF S.fs) (R S.h)) (vev39_5 (encI U) (encI V) d w S.q S.lim S.t S.k (ordsF S.fs) (tabsF S.fs) (R S.h)) (vev39_6 (encI U) (encI V) d w S.q S.lim S.t S.k (ordsF S.fs) (tabsF S.fs) (R S.h)) = xR o.b o.c o.i o.u o.l ∧
   vev39_8 (encI U) (encI V) d w S.q S.lim S.t S.k (ordsF S.fs) (tabsF S.fs) (R S.h) = R S'.h ∧ vev39_9 (encI U) (encI V) d w S.q S.lim S.t S.k (ordsF S.fs) (tabsF S.fs) (R S.h) = S'.t ∧ vev39_10 (encI U) (encI V) d w S.q S.lim S.t S.k (ordsF S.fs) (tabsF S.fs) (R S.h) = S'.k ∧ vev39_11 (encI U) (encI V) d w S.q S.lim S.t S.k (ordsF S.fs) (tabsF S.fs) (R S.h) = tabsF S'.fs := by
 have hbl := F.bl
 have hk := F.k
 have hbn := hF
 have c := c76g p (by omega) h0 (by omega) w
 have hr : rev39_0 (encI U) (encI V) d w S.q S.lim S.t S.k (ordsF S.fs) (tabsF S.fs) (R S.h) = d + 1 := wrapOf _ (by omega) (by omega)
 have hr1 : rev39_1 (encI U) (encI V) d w S.q S.lim S.t S.k (ordsF S.fs) (tabsF S.fs) (R S.h) = o.u := F.e2
 have hw2 : 0 ≤ w ∧ w < (U.length : Int) := by
  unfold inrg at hw
  simpa using hw
 have hi : w.toNat < U.length := by omega
 have hiv : w.toNat < V.length := by rw [p.v]; exact hi
 have hle := p.le hi
 unfold vev39_12 vev39_0 vev39_1 vev39_2 vev39_3 vev39_4 vev39_5 vev39_6 vev39_7 vev39_8 vev39_9 vev39_10 vev39_11
 rw [F.e0, F.e1, F.e3, F.e4, F.e5, F.e6, F.e7, F.e8, F.e9, hr, hr1, c.1, c.2, c56g p d, hw, encI_getI hi, encI_getI hiv, encI_lenI, encI_lenI, p.v, decide_eq_true hw2.1, decide_eq_true hw2.2]
 cases hb : o.b with
 | false =>
   obtain ⟨_, rfl⟩ := F.idle hb
   refine ⟨U, V, p, rfl, ?_⟩
   simp [xR]
   omega
 | true =>
   have hu := F.u hb
   rw [hb] at hk
   simp only [cond_true] at hk
   refine ⟨U.set w.toNat (U.getD w.toNat 0 + o.u), V.set w.toNat (V.getD w.toNat 0 + 1), ⟨?_, ?_, ?_, ?_⟩, by simp, ?_⟩
   ·rw [List.length_set]; exact p.n
   ·rw [List.length_set, List.length_set]; exact p.v
   ·intro j hj
    rw [List.length_set] at hj
    have hj' := p.le hj
    by_cases e : w.toNat = j
    ·subst e
     have e1 : (V.set w.toNat (V.getD w.toNat 0 + 1)).getD w.toNat 0 = V.getD w.toNat 0 + 1 := by simp [List.getD_eq_getElem?_getD, hiv]
     have e2 : (U.set w.toNat (U.getD w.toNat 0 + o.u)).getD w.toNat 0 = U.getD w.toNat 0 + o.u := by simp [List.getD_eq_getElem?_getD, hi]
     rw [e1, e2]
     omega
    ·have e1 : (V.set w.toNat (V.getD w.toNat 0 + 1)).getD j 0 = V.getD j 0 := by rw [List.getD_eq_getElem?_getD, List.getElem?_set_ne e, ← List.getD_eq_getElem?_getD]
     have e2 : (U.set w.toNat (U.getD w.toNat 0 + o.u)).getD j 0 = U.getD j 0 := by rw [List.getD_eq_getElem?_getD, List.getElem?_set_ne e, ← List.getD_eq_getElem?_getD]
     rw [e1, e2]
     omega
   ·rw [smI_set _ _ _ hi, p.s]; omega
   ·rw [wrapOf (U.getD w.toNat 0 + o.u) (by omega) (by omega), wrapOf (V.getD w.toNat 0 + 1) (by omega) (by omega), encI_set, encI_set]
    simp
end Go.Proofs.Gv
namespace Go.Proofs.Gv
open Go.Proofs
set_option maxRecDepth 20000
theorem bl_nn {S : Sc} (I : Inv S) : 0 ≤ blF S.fs := (blN_b I.gd S.fs.length (Nat.le_refl _)).1
structure RunO (S S' : Sc) : Prop where
 I : Inv S'
 q : S'.q = S.q
 lim : S'.lim = S.lim
 ord : ordsF S'.fs = ordsF S.fs
 bl : S'.k + blF S'.fs = S.k + blF S.fs
 wn : wnF S'.fs ≤ wnF S.fs
theorem run2 : ∀ (A B : List Int), A.length = B.length → ∀ (S : Sc), Inv S → S.q = 5 → ∀ (U V U1 V1 : List Int), Pok U V S.k → Pok U1 V1 S.k → S.k + blF S.fs ≤ 3072 → ∀ (d : Int), 0 ≤ d → d + A.length ≤ 4000 → (∀ w ∈ A, inrg U.length w = true) → (∀ w ∈ B, inrg U1.length w = true) →
  ∃ S' U' V' U1' V1' d' O, RunO S S' ∧ fold39 S.q S.lim (ordsF S.fs) (encI A) (encI U) (encI V) d (R S.h) S.t S.k (tabsF S.fs) = some ((encI U', encI V', d'), (R S'.h, S'.t, S'.k, tabsF S'.fs), O) ∧
   fold39 S.q S.lim (ordsF S.fs) (encI B) (encI U1) (encI V1) d (R S.h) S.t S.k (tabsF S.fs) = some ((encI U1', encI V1', d'), (R S'.h, S'.t, S'.k, tabsF S'.fs), O) ∧ Pok U' V' S'.k ∧ U'.length = U.length ∧ Pok U1' V1' S'.k ∧ U1'.length = U1.length ∧ 0 ≤ d' ∧ d' + O.length = d + A.length := by
 intro A
 induction A with
 | nil =>
   intro B hAB S I hq U V U1 V1 p p1 hB d h0 hd hA hBB
   obtain rfl : B = [] := List.length_eq_zero_iff.1 hAB.symm
   exact ⟨S, U, V, U1, V1, d, [], ⟨I, rfl, rfl, rfl, rfl, Int.le_refl _⟩, rfl, rfl, p, rfl, p1, rfl, h0, by simp⟩
 | cons a A ih =>
   intro B hAB S I hq U V U1 V1 p p1 hB d h0 hd hA hBB
   match B, hAB, hBB with
   | b :: B, hAB, hBB =>
     simp only [List.length_cons] at hAB hd
     obtain ⟨S1, o, F⟩ := sf_of I hq
     have hbl := F.bl
     obtain ⟨U', V', p', hU, c0, c1, c2, c3, c4, c5, c6, c7, c8⟩ := turn39 F p hB (bl_nn F.I) (bl_nn I) h0 (by omega) (hA a (by simp))
     obtain ⟨U1', V1', p1', hU1, e0, e1, e2, e3, e4, e5, e6, e7, e8⟩ := turn39 F p1 hB (bl_nn F.I) (bl_nn I) h0 (by omega) (hBB b (by simp))
     obtain ⟨S', U2, V2, U3, V3, d', O, hO, f1, f2, g1, g2, g3, g4, g5, g6⟩ := ih B (by omega) S1 F.I (F.q.trans hq) U' V' U1' V1' p' p1' (by omega) (d + (bif o.b then 0 else 1)) (by cases o.b <;> simp <;> omega) (by cases o.b <;> simp <;> omega) (fun w hw => by rw [hU]; exact hA w (by simp [hw])) (fun w hw => by rw [hU1]; exact hBB w (by simp [hw]))
     rw [F.q, F.lim, ← F.ord] at f1 f2
     have hwn : wnF S1.fs ≤ wnF S.fs := by
      cases hb : o.b with
      | false => rw [(F.idle hb).2]; exact Int.le_refl _
      | true => have := F.wn hb; omega
     refine ⟨S', U2, V2, U3, V3, d', xR o.b o.c o.i o.u o.l ++ O, ⟨hO.I, hO.q.trans F.q, hO.lim.trans F.lim, hO.ord.trans F.ord.symm, hO.bl.trans hbl, Int.le_trans hO.wn hwn⟩, ?_, ?_, g1, g2.trans hU, g3, g4.trans hU1, g5, ?_⟩
     ·show fold39 S.q S.lim (ordsF S.fs) ([AV.int .i64 a] :: encI A) (encI U) (encI V) d (R S.h) S.t S.k (tabsF S.fs) = _
      unfold fold39
      simp only [c0, c1, c2, c3, c5, c6, c7, c8, f1]
      rw [c4]
     ·show fold39 S.q S.lim (ordsF S.fs) ([AV.int .i64 b] :: encI B) (encI U1) (encI V1) d (R S.h) S.t S.k (tabsF S.fs) = _
      unfold fold39
      simp only [e0, e1, e2, e3, e5, e6, e7, e8, f2]
      rw [e4]
     ·rw [List.length_append]
      cases hb : o.b
      ·rw [hb] at g6
       simp [xR] at g6 ⊢
       omega
      ·rw [hb] at g6
       simp [xR] at g6 ⊢
       omega
end Go.Proofs.Gv
namespace Go.Proofs.Gv
open Go.Proofs
noncomputable def rn8_11_0 (d : LL) (e i : Int) (j k : LL) (l : Int) (m o : LL) (p : Int) (a b : LL) (q r : Int) (s : LL) (t u : Int) (c f : LL) (v w : Int) (x : LL) (y z : Int) (g h : LL) : LL := [[iA ((IntKind.i64.wrap (intOf ((d.getD i.toNat []).getD 0 AV.junk))).tmod e)]]
noncomputable def go8_11 (d : LL) (e i : Int) (j k : LL) (l : Int) (m o : LL) (p : Int) (a b : LL) (q r : Int) (s : LL) (t u : Int) (c f : LL) (v w : Int) (x : LL) (y z : Int) (g h : LL) : Bool := bif decide (i < (↑d.length : Int)) then bif decide (0 ≤ i) && decide (i < (↑d.length : Int)) then bif !e == 0 then bif bif decide ((a.length + (rn8_11_0 d e i j k l m o p a b q r s t u c f v w x y z g h).length) * 8 ≤ 140737488355328) then decide (a.length + (rn8_11_0 d e i j k l m o p a b q r s t u c f v w x y z g h).length ≤ 9223372036854775807) else false then bif decide ((b.length + [[iA 0]].length) * 8 ≤ 140737488355328) then decide (b.length + [[iA 0]].length ≤ 9223372036854775807) else false else false else false else false else false
noncomputable def nx8_11_2 (d : LL) (e i : Int) (j k : LL) (l : Int) (m o : LL) (p : Int) (a b : LL) (q r : Int) (s : LL) (t u : Int) (c f : LL) (v w : Int) (x : LL) (y z : Int) (g h : LL) : Int := IntKind.i64.wrap (i + 1)
noncomputable def nx8_11_9 (d : LL) (e i : Int) (j k : LL) (l : Int) (m o : LL) (p : Int) (a b : LL) (q r : Int) (s : LL) (t u : Int) (c f : LL) (v w : Int) (x : LL) (y z : Int) (g h : LL) : LL := a ++ rn8_11_0 d e i j k l m o p a b q r s t u c f v w x y z g h
noncomputable def nx8_11_10 (d : LL) (e i : Int) (j k : LL) (l : Int) (m o : LL) (p : Int) (a b : LL) (q r : Int) (s : LL) (t u : Int) (c f : LL) (v w : Int) (x : LL) (y z : Int) (g h : LL) : LL := b ++ [[iA 0]]
noncomputable def xc8_11_0 (d : LL) (e i : Int) (j k : LL) (l : Int) (m o : LL) (p : Int) (a b : LL) (q r : Int) (s : LL) (t u : Int) (c f : LL) (v w : Int) (x : LL) (y z : Int) (g h : LL) : Bool := bif decide (i < (↑d.length : Int)) then false else true
theorem rd8_11 (rest : Lsp) (d : LL) (e j : Int) (k l : LL) (m : Int) (o p : LL) (q : Int) (a b : LL) (r s : Int) (t : LL) (u v : Int) (c f : LL) (w x : Int) (y : LL) (z A : Int) (g i : LL) : rV k38 rest 8 0 Try.f8 11 [2, 7, 8, 10, 12, 13, 14, 15, 16] [2, 3, 4, 5, 6, 7, 8, 9, 10, 11, 12, 13] [2, 7, 8, 10, 12, 13, 14, 15] [2, 3, 4, 5, 6, 7, 8, 9, 10, 11, 12, 13] [AV.sl Tk.imm [Kd.int IntKind.u8] d, iA e, AV.hp 5 0, AV.hp 4 0, AV.hp 8 0, AV.hp 11 0, AV.rf 6 kI1, AV.rf 7 kI1, iA j] [Blk.dead, Blk.dead, Blk.var [AV.sl Tk.imm kI1 k, AV.sl Tk.imm kI1 l, iA m], Blk.var [AV.sl Tk.imm kI1 o, AV.sl Tk.imm kI1 p, iA q], Blk.row kI1 a, Blk.row kI1 b, bV r s 9 10 t u v, Blk.row kI1 c, Blk.tbl kF f none, bV w x 12 13 y z A, Blk.row kI1 g, Blk.tbl kF i none] = bif go8_11 d e j k l m o p q a b r s t u v c f w x y z A g i then some (Ex.norm, [AV.sl Tk.imm [Kd.int IntKind.u8] d, iA e, AV.hp 5 0, AV.hp 4 0, AV.hp 8 0, AV.hp 11 0, AV.rf 6 kI1, AV.rf 7 kI1, iA (nx8_11_2 d e j k l m o p q a b r s t u v c f w x y z A g i)], [Blk.dead, Blk.dead, Blk.var [AV.sl Tk.imm kI1 k, AV.sl Tk.imm kI1 l, iA m], Blk.var [AV.sl Tk.imm kI1 o, AV.sl Tk.imm kI1 p, iA q], Blk.row kI1 (nx8_11_9 d e j k l m o p q a b r s t u v c f w x y z A g i), Blk.row kI1 (nx8_11_10 d e j k l m o p q a b r s t u v c f w x y z A g i), bV r s 9 10 t u v, Blk.row kI1 c, Blk.tbl kF f none, bV w x 12 13 y z A, Blk.row kI1 g, Blk.tbl kF i none]) else bif xc8_11_0 d e j k l m o p q a b r s t u v c f w x y z A g i then some (Ex.exit 0, [AV.sl Tk.imm [Kd.int IntKind.u8] d, iA e, AV.hp 5 0, AV.hp 4 0, AV.hp 8 0, AV.hp 11 0, AV.rf 6 kI1, AV.rf 7 kI1], [Blk.dead, Blk.dead, Blk.var [AV.sl Tk.imm kI1 k, AV.sl Tk.imm kI1 l, iA m], Blk.var [AV.sl Tk.imm kI1 o, AV.sl Tk.imm kI1 p, iA q], Blk.row kI1 a, Blk.row kI1 b, bV r s 9 10 t u v, Blk.row kI1 c, Blk.tbl kF f none, bV w x 12 13 y z A, Blk.row kI1 g, Blk.tbl kF i none]) else none := by
 refine Eq.trans (b := bif decide (j < (↑d.length : Int)) then bif decide (0 ≤ j) && decide (j < (↑d.length : Int)) then bif !e == 0 then bif bif decide ((a.length + (rn8_11_0 d e j k l m o p q a b r s t u v c f w x y z A g i).length) * 8 ≤ 140737488355328) then decide (a.length + (rn8_11_0 d e j k l m o p q a b r s t u v c f w x y z A g i).length ≤ 9223372036854775807) else false then bif bif decide ((b.length + [[iA 0]].length) * 8 ≤ 140737488355328) then decide (b.length + [[iA 0]].length ≤ 9223372036854775807) else false then some (Ex.norm, [AV.sl Tk.imm [Kd.int IntKind.u8] d, iA e, AV.hp 5 0, AV.hp 4 0, AV.hp 8 0, AV.hp 11 0, AV.rf 6 kI1, AV.rf 7 kI1, iA (IntKind.i64.wrap (j + 1))], [Blk.dead, Blk.dead, Blk.var [AV.sl Tk.imm kI1 k, AV.sl Tk.imm kI1 l, iA m], Blk.var [AV.sl Tk.imm kI1 o, AV.sl Tk.imm kI1 p, iA q], Blk.row kI1 (a ++ rn8_11_0 d e j k l m o p q a b r s t u v c f w x y z A g i), Blk.row kI1 (b ++ [[iA 0]]), bV r s 9 10 t u v, Blk.row kI1 c, Blk.tbl kF f none, bV w x 12 13 y z A, Blk.row kI1 g, Blk.tbl kF i none]) else none else none else none else none else some (Ex.exit 0, [AV.sl Tk.imm [Kd.int IntKind.u8] d, iA e, AV.hp 5 0, AV.hp 4 0, AV.hp 8 0, AV.hp 11 0, AV.rf 6 kI1, AV.rf 7 kI1], [Blk.dead, Blk.dead, Blk.var [AV.sl Tk.imm kI1 k, AV.sl Tk.imm kI1 l, iA m], Blk.var [AV.sl Tk.imm kI1 o, AV.sl Tk.imm kI1 p, iA q], Blk.row kI1 a, Blk.row kI1 b, bV r s 9 10 t u v, Blk.row kI1 c, Blk.tbl kF f none, bV w x 12 13 y z A, Blk.row kI1 g, Blk.tbl kF i none])) (by kernel_rfl) ?_
 unfold go8_11 nx8_11_2 nx8_11_9 nx8_11_10 xc8_11_0
 generalize (decide ((a.length + (rn8_11_0 d e j k l m o p q a b r s t u v c f w x y z A g i).length) * 8 ≤ 140737488355328)) = c0
 generalize (decide ((b.length + [[iA 0]].length) * 8 ≤ 140737488355328)) = c1
 generalize (decide (a.length + (rn8_11_0 d e j k l m o p q a b r s t u v c f w x y z A g i).length ≤ 9223372036854775807)) = c2
 generalize (decide (b.length + [[iA 0]].length ≤ 9223372036854775807)) = c3
 generalize (decide (0 ≤ j) && decide (j < (↑d.length : Int))) = c4
 generalize (decide (j < (↑d.length : Int))) = c5
 generalize (!e == 0) = c6
 cases c5; rfl; cases c4; rfl; cases c6; rfl; cases c0; rfl; cases c2; rfl; cases c1; rfl; cases c3; rfl; rfl
abbrev pl8_11 : Type := LL × Int × LL × LL × Int × LL × LL × Int × Int × Int × LL × Int × Int × LL × LL × Int × Int × LL × Int × Int × LL × LL
abbrev sl8_11 : Type := Int × LL × LL
noncomputable def vt8_11 (a : pl8_11 × sl8_11) : List AV := [AV.sl Tk.imm [Kd.int IntKind.u8] a.1.1, iA a.1.2.1, AV.hp 5 0, AV.hp 4 0, AV.hp 8 0, AV.hp 11 0, AV.rf 6 kI1, AV.rf 7 kI1, iA a.2.1]
noncomputable def vc8_11 (a : pl8_11 × sl8_11) : List Blk := [Blk.dead, Blk.dead, Blk.var [AV.sl Tk.imm kI1 a.1.2.2.1, AV.sl Tk.imm kI1 a.1.2.2.2.1, iA a.1.2.2.2.2.1], Blk.var [AV.sl Tk.imm kI1 a.1.2.2.2.2.2.1, AV.sl Tk.imm kI1 a.1.2.2.2.2.2.2.1, iA a.1.2.2.2.2.2.2.2.1], Blk.row kI1 a.2.2.1, Blk.row kI1 a.2.2.2, bV a.1.2.2.2.2.2.2.2.2.1 a.1.2.2.2.2.2.2.2.2.2.1 9 10 a.1.2.2.2.2.2.2.2.2.2.2.1 a.1.2.2.2.2.2.2.2.2.2.2.2.1 a.1.2.2.2.2.2.2.2.2.2.2.2.2.1, Blk.row kI1 a.1.2.2.2.2.2.2.2.2.2.2.2.2.2.1, Blk.tbl kF a.1.2.2.2.2.2.2.2.2.2.2.2.2.2.2.1 none, bV a.1.2.2.2.2.2.2.2.2.2.2.2.2.2.2.2.1 a.1.2.2.2.2.2.2.2.2.2.2.2.2.2.2.2.2.1 12 13 a.1.2.2.2.2.2.2.2.2.2.2.2.2.2.2.2.2.2.1 a.1.2.2.2.2.2.2.2.2.2.2.2.2.2.2.2.2.2.2.1 a.1.2.2.2.2.2.2.2.2.2.2.2.2.2.2.2.2.2.2.2.1, Blk.row kI1 a.1.2.2.2.2.2.2.2.2.2.2.2.2.2.2.2.2.2.2.2.2.1, Blk.tbl kF a.1.2.2.2.2.2.2.2.2.2.2.2.2.2.2.2.2.2.2.2.2.2 none]
noncomputable def de8_11 (vt : List AV) (vc : List Blk) : Option (pl8_11 × sl8_11) :=
 match vt with
 | [qa0, qa1, qa2, qa3, qa4, qa5, qa6, qa7, qa8] => (match vc with
 | [qb0, qb1, qb2, qb3, qb4, qb5, qb6, qb7, qb8, qb9, qb10, qb11] => (match qa0 with
 | .sl Tk.imm [Kd.int IntKind.u8] t2 => (match qa1 with
 | .int .i64 t7 => (match qa2 with
 | AV.hp (5) (0) => (match qa3 with
 | AV.hp (4) (0) => (match qa4 with
 | AV.hp (8) (0) => (match qa5 with
 | AV.hp (11) (0) => (match qa6 with
 | AV.rf (6) [.int .i64] => (match qa7 with
 | AV.rf (7) [.int .i64] => (match qa8 with
 | .int .i64 t16 => (match qb0 with
 | Blk.dead => (match qb1 with
 | Blk.dead => (match qb2 with
 | .var [.sl Tk.imm [.int .i64] b4_0, .sl Tk.imm [.int .i64] b4_1, .int .i64 b4_2] => (match qb3 with
 | .var [.sl Tk.imm [.int .i64] b5_0, .sl Tk.imm [.int .i64] b5_1, .int .i64 b5_2] => (match qb4 with
 | .row [.int .i64] b6 => (match qb5 with
 | .row [.int .i64] b7 => (match qb6 with
 | .var [.int .i64 b8_0, .int .i64 b8_1, AV.rf (9) [.int .i64], AV.mp (10) [.int .i64, .int .i64, .int .i64, .int .i64, .int .i64, .int .i64, .sl [.int .i64, .int .i64, .int .i64, .int .i64]], .sl Tk.imm [.int .i64, .int .i64] b8_4, .int .i64 b8_5, .int .i64 b8_6] => (match qb7 with
 | .row [.int .i64] b9 => (match qb8 with
 | Blk.tbl [.int .i64, .int .i64, .int .i64, .int .i64, .int .i64, .int .i64, .sl [.int .i64, .int .i64, .int .i64, .int .i64]] b10 none => (match qb9 with
 | .var [.int .i64 b11_0, .int .i64 b11_1, AV.rf (12) [.int .i64], AV.mp (13) [.int .i64, .int .i64, .int .i64, .int .i64, .int .i64, .int .i64, .sl [.int .i64, .int .i64, .int .i64, .int .i64]], .sl Tk.imm [.int .i64, .int .i64] b11_4, .int .i64 b11_5, .int .i64 b11_6] => (match qb10 with
 | .row [.int .i64] b12 => (match qb11 with
 | Blk.tbl [.int .i64, .int .i64, .int .i64, .int .i64, .int .i64, .int .i64, .sl [.int .i64, .int .i64, .int .i64, .int .i64]] b13 none => (some ((t2, t7, b4_0, b4_1, b4_2, b5_0, b5_1, b5_2, b8_0, b8_1, b8_4, b8_5, b8_6, b9, b10, b11_0, b11_1, b11_4, b11_5, b11_6, b12, b13), (t16, b6, b7)))
 | _ => none)
 | _ => none)
 | _ => none)
 | _ => none)
 | _ => none)
 | _ => none)
 | _ => none)
 | _ => none)
 | _ => none)
 | _ => none)
 | _ => none)
 | _ => none)
 | _ => none)
 | _ => none)
 | _ => none)
 | _ => none)
 | _ => none)
 | _ => none)
 | _ => none)
 | _ => none)
 | _ => none)
 | _ => none)
 | _ => none
theorem de8_11_ok (vt : List AV) (vc : List Blk) (a : pl8_11 × sl8_11) (h : de8_11 vt vc = some a) : vt = vt8_11 a ∧ vc = vc8_11 a := by
 unfold de8_11 at h
 iterate 23 (split at h; rotate_left; · cases h)
 injection h with h; subst h; exact ⟨rfl, rfl⟩
noncomputable def g8_11 (p : pl8_11) (s : sl8_11) : Bool := go8_11 p.1 p.2.1 s.1 p.2.2.1 p.2.2.2.1 p.2.2.2.2.1 p.2.2.2.2.2.1 p.2.2.2.2.2.2.1 p.2.2.2.2.2.2.2.1 s.2.1 s.2.2 p.2.2.2.2.2.2.2.2.1 p.2.2.2.2.2.2.2.2.2.1 p.2.2.2.2.2.2.2.2.2.2.1 p.2.2.2.2.2.2.2.2.2.2.2.1 p.2.2.2.2.2.2.2.2.2.2.2.2.1 p.2.2.2.2.2.2.2.2.2.2.2.2.2.1 p.2.2.2.2.2.2.2.2.2.2.2.2.2.2.1 p.2.2.2.2.2.2.2.2.2.2.2.2.2.2.2.1 p.2.2.2.2.2.2.2.2.2.2.2.2.2.2.2.2.1 p.2.2.2.2.2.2.2.2.2.2.2.2.2.2.2.2.2.1 p.2.2.2.2.2.2.2.2.2.2.2.2.2.2.2.2.2.2.1 p.2.2.2.2.2.2.2.2.2.2.2.2.2.2.2.2.2.2.2.1 p.2.2.2.2.2.2.2.2.2.2.2.2.2.2.2.2.2.2.2.2.1 p.2.2.2.2.2.2.2.2.2.2.2.2.2.2.2.2.2.2.2.2.2
noncomputable def n8_11 (p : pl8_11) (s : sl8_11) : sl8_11 := (nx8_11_2 p.1 p.2.1 s.1 p.2.2.1 p.2.2.2.1 p.2.2.2.2.1 p.2.2.2.2.2.1 p.2.2.2.2.2.2.1 p.2.2.2.2.2.2.2.1 s.2.1 s.2.2 p.2.2.2.2.2.2.2.2.1 p.2.2.2.2.2.2.2.2.2.1 p.2.2.2.2.2.2.2.2.2.2.1 p.2.2.2.2.2.2.2.2.2.2.2.1 p.2.2.2.2.2.2.2.2.2.2.2.2.1 p.2.2.2.2.2.2.2.2.2.2.2.2.2.1 p.2.2.2.2.2.2.2.2.2.2.2.2.2.2.1 p.2.2.2.2.2.2.2.2.2.2.2.2.2.2.2.1 p.2.2.2.2.2.2.2.2.2.2.2.2.2.2.2.2.1 p.2.2.2.2.2.2.2.2.2.2.2.2.2.2.2.2.2.1 p.2.2.2.2.2.2.2.2.2.2.2.2.2.2.2.2.2.2.1 p.2.2.2.2.2.2.2.2.2.2.2.2.2.2.2.2.2.2.2.1 p.2.2.2.2.2.2.2.2.2.2.2.2.2.2.2.2.2.2.2.2.1 p.2.2.2.2.2.2.2.2.2.2.2.2.2.2.2.2.2.2.2.2.2, nx8_11_9 p.1 p.2.1 s.1 p.2.2.1 p.2.2.2.1 p.2.2.2.2.1 p.2.2.2.2.2.1 p.2.2.2.2.2.2.1 p.2.2.2.2.2.2.2.1 s.2.1 s.2.2 p.2.2.2.2.2.2.2.2.1 p.2.2.2.2.2.2.2.2.2.1 p.2.2.2.2.2.2.2.2.2.2.1 p.2.2.2.2.2.2.2.2.2.2.2.1 p.2.2.2.2.2.2.2.2.2.2.2.2.1 p.2.2.2.2.2.2.2.2.2.2.2.2.2.1 p.2.2.2.2.2.2.2.2.2.2.2.2.2.2.1 p.2.2.2.2.2.2.2.2.2.2.2.2.2.2.2.1 p.2.2.2.2.2.2.2.2.2.2.2.2.2.2.2.2.1 p.2.2.2.2.2.2.2.2.2.2.2.2.2.2.2.2.2.1 p.2.2.2.2.2.2.2.2.2.2.2.2.2.2.2.2.2.2.1 p.2.2.2.2.2.2.2.2.2.2.2.2.2.2.2.2.2.2.2.1 p.2.2.2.2.2.2.2.2.2.2.2.2.2.2.2.2.2.2.2.2.1 p.2.2.2.2.2.2.2.2.2.2.2.2.2.2.2.2.2.2.2.2.2, nx8_11_10 p.1 p.2.1 s.1 p.2.2.1 p.2.2.2.1 p.2.2.2.2.1 p.2.2.2.2.2.1 p.2.2.2.2.2.2.1 p.2.2.2.2.2.2.2.1 s.2.1 s.2.2 p.2.2.2.2.2.2.2.2.1 p.2.2.2.2.2.2.2.2.2.1 p.2.2.2.2.2.2.2.2.2.2.1 p.2.2.2.2.2.2.2.2.2.2.2.1 p.2.2.2.2.2.2.2.2.2.2.2.2.1 p.2.2.2.2.2.2.2.2.2.2.2.2.2.1 p.2.2.2.2.2.2.2.2.2.2.2.2.2.2.1 p.2.2.2.2.2.2.2.2.2.2.2.2.2.2.2.1 p.2.2.2.2.2.2.2.2.2.2.2.2.2.2.2.2.1 p.2.2.2.2.2.2.2.2.2.2.2.2.2.2.2.2.2.1 p.2.2.2.2.2.2.2.2.2.2.2.2.2.2.2.2.2.2.1 p.2.2.2.2.2.2.2.2.2.2.2.2.2.2.2.2.2.2.2.1 p.2.2.2.2.2.2.2.2.2.2.2.2.2.2.2.2.2.2.2.2.1 p.2.2.2.2.2.2.2.2.2.2.2.2.2.2.2.2.2.2.2.2.2)
noncomputable def y8_11 (p : pl8_11) (s : sl8_11) : List (Bool × Out) := []
noncomputable def z8_11 (p : pl8_11) (s : sl8_11) : Bool := xc8_11_0 p.1 p.2.1 s.1 p.2.2.1 p.2.2.2.1 p.2.2.2.2.1 p.2.2.2.2.2.1 p.2.2.2.2.2.2.1 p.2.2.2.2.2.2.2.1 s.2.1 s.2.2 p.2.2.2.2.2.2.2.2.1 p.2.2.2.2.2.2.2.2.2.1 p.2.2.2.2.2.2.2.2.2.2.1 p.2.2.2.2.2.2.2.2.2.2.2.1 p.2.2.2.2.2.2.2.2.2.2.2.2.1 p.2.2.2.2.2.2.2.2.2.2.2.2.2.1 p.2.2.2.2.2.2.2.2.2.2.2.2.2.2.1 p.2.2.2.2.2.2.2.2.2.2.2.2.2.2.2.1 p.2.2.2.2.2.2.2.2.2.2.2.2.2.2.2.2.1 p.2.2.2.2.2.2.2.2.2.2.2.2.2.2.2.2.2.1 p.2.2.2.2.2.2.2.2.2.2.2.2.2.2.2.2.2.2.1 p.2.2.2.2.2.2.2.2.2.2.2.2.2.2.2.2.2.2.2.1 p.2.2.2.2.2.2.2.2.2.2.2.2.2.2.2.2.2.2.2.2.1 p.2.2.2.2.2.2.2.2.2.2.2.2.2.2.2.2.2.2.2.2.2
noncomputable def d8_11 (p : pl8_11) (s : sl8_11) : Out := (Ex.exit 0, [AV.sl Tk.imm [Kd.int IntKind.u8] p.1, iA p.2.1, AV.hp 5 0, AV.hp 4 0, AV.hp 8 0, AV.hp 11 0, AV.rf 6 kI1, AV.rf 7 kI1], [Blk.dead, Blk.dead, Blk.var [AV.sl Tk.imm kI1 p.2.2.1, AV.sl Tk.imm kI1 p.2.2.2.1, iA p.2.2.2.2.1], Blk.var [AV.sl Tk.imm kI1 p.2.2.2.2.2.1, AV.sl Tk.imm kI1 p.2.2.2.2.2.2.1, iA p.2.2.2.2.2.2.2.1], Blk.row kI1 s.2.1, Blk.row kI1 s.2.2, bV p.2.2.2.2.2.2.2.2.1 p.2.2.2.2.2.2.2.2.2.1 9 10 p.2.2.2.2.2.2.2.2.2.2.1 p.2.2.2.2.2.2.2.2.2.2.2.1 p.2.2.2.2.2.2.2.2.2.2.2.2.1, Blk.row kI1 p.2.2.2.2.2.2.2.2.2.2.2.2.2.1, Blk.tbl kF p.2.2.2.2.2.2.2.2.2.2.2.2.2.2.1 none, bV p.2.2.2.2.2.2.2.2.2.2.2.2.2.2.2.1 p.2.2.2.2.2.2.2.2.2.2.2.2.2.2.2.2.1 12 13 p.2.2.2.2.2.2.2.2.2.2.2.2.2.2.2.2.2.1 p.2.2.2.2.2.2.2.2.2.2.2.2.2.2.2.2.2.2.1 p.2.2.2.2.2.2.2.2.2.2.2.2.2.2.2.2.2.2.2.1, Blk.row kI1 p.2.2.2.2.2.2.2.2.2.2.2.2.2.2.2.2.2.2.2.2.1, Blk.tbl kF p.2.2.2.2.2.2.2.2.2.2.2.2.2.2.2.2.2.2.2.2.2 none])
noncomputable def ls8_11 := lspOf [2, 7, 8, 10, 12, 13, 14, 15, 16] [2, 3, 4, 5, 6, 7, 8, 9, 10, 11, 12, 13] [2, 7, 8, 10, 12, 13, 14, 15] [2, 3, 4, 5, 6, 7, 8, 9, 10, 11, 12, 13] Try.f8.ntmps (0 + tab.nid 8) de8_11 (spI g8_11 n8_11 y8_11 z8_11 d8_11)
theorem lo8_11 (rest : Lsp) : lO k38 (selL 11 ls8_11 rest) 8 0 Try.f8 11 := LoopOK1.iter (i := 11) (by kernel_rfl) [2, 7, 8, 10, 12, 13, 14, 15, 16] [2, 3, 4, 5, 6, 7, 8, 9, 10, 11, 12, 13] [2, 7, 8, 10, 12, 13, 14, 15] [2, 3, 4, 5, 6, 7, 8, 9, 10, 11, 12, 13] vt8_11 vc8_11 de8_11 g8_11 n8_11 y8_11 z8_11 d8_11 (fun _ => rfl) de8_11_ok (fun p s => rd8_11 (selL 11 ls8_11 rest) (p.1) (p.2.1) (s.1) (p.2.2.1) (p.2.2.2.1) (p.2.2.2.2.1) (p.2.2.2.2.2.1) (p.2.2.2.2.2.2.1) (p.2.2.2.2.2.2.2.1) (s.2.1) (s.2.2) (p.2.2.2.2.2.2.2.2.1) (p.2.2.2.2.2.2.2.2.2.1) (p.2.2.2.2.2.2.2.2.2.2.1) (p.2.2.2.2.2.2.2.2.2.2.2.1) (p.2.2.2.2.2.2.2.2.2.2.2.2.1) (p.2.2.2.2.2.2.2.2.2.2.2.2.2.1) (p.2.2.2.2.2.2.2.2.2.2.2.2.2.2.1) (p.2.2.2.2.2.2.2.2.2.2.2.2.2.2.2.1) (p.2.2.2.2.2.2.2.2.2.2.2.2.2.2.2.2.1) (p.2.2.2.2.2.2.2.2.2.2.2.2.2.2.2.2.2.1) (p.2.2.2.2.2.2.2.2.2.2.2.2.2.2.2.2.2.2.1) (p.2.2.2.2.2.2.2.2.2.2.2.2.2.2.2.2.2.2.2.1) (p.2.2.2.2.2.2.2.2.2.2.2.2.2.2.2.2.2.2.2.2.1) (p.2.2.2.2.2.2.2.2.2.2.2.2.2.2.2.2.2.2.2.2.2)) (fun _ _ => rfl)
noncomputable def go8_19 (b : Int) (d e : LL) (f : Int) (g h : LL) (i j k : Int) (l : LL) (m o : Int) (a c : LL) : Bool := bif decide (f < (↑d.length : Int)) then bif decide (0 ≤ f) && decide (f < (↑d.length : Int)) then bif decide (0 ≤ f) && decide (f < (↑e.length : Int)) then bif !(intOf ((d.getD f.toNat []).getD 0 AV.junk) == intOf ((e.getD f.toNat []).getD 0 AV.junk) && (intOf ((d.getD f.toNat []).getD (0 + 1) AV.junk) == intOf ((e.getD f.toNat []).getD (0 + 1) AV.junk) && (intOf ((d.getD f.toNat []).getD (0 + 1 + 1) AV.junk) == intOf ((e.getD f.toNat []).getD (0 + 1 + 1) AV.junk) && (intOf ((d.getD f.toNat []).getD (0 + 1 + 1 + 1) AV.junk) == intOf ((e.getD f.toNat []).getD (0 + 1 + 1 + 1) AV.junk) && true)))) then false else true else false else false else false
noncomputable def nx8_19_3 (b : Int) (d e : LL) (f : Int) (g h : LL) (i j k : Int) (l : LL) (m o : Int) (a c : LL) : Int := IntKind.i64.wrap (f + 1)
noncomputable def xc8_19_0 (b : Int) (d e : LL) (f : Int) (g h : LL) (i j k : Int) (l : LL) (m o : Int) (a c : LL) : Bool := bif decide (f < (↑d.length : Int)) then bif decide (0 ≤ f) && decide (f < (↑d.length : Int)) then bif decide (0 ≤ f) && decide (f < (↑e.length : Int)) then !(intOf ((d.getD f.toNat []).getD 0 AV.junk) == intOf ((e.getD f.toNat []).getD 0 AV.junk) && (intOf ((d.getD f.toNat []).getD (0 + 1) AV.junk) == intOf ((e.getD f.toNat []).getD (0 + 1) AV.junk) && (intOf ((d.getD f.toNat []).getD (0 + 1 + 1) AV.junk) == intOf ((e.getD f.toNat []).getD (0 + 1 + 1) AV.junk) && (intOf ((d.getD f.toNat []).getD (0 + 1 + 1 + 1) AV.junk) == intOf ((e.getD f.toNat []).getD (0 + 1 + 1 + 1) AV.junk) && true)))) else false else false else false
noncomputable def xc8_19_1 (b : Int) (d e : LL) (f : Int) (g h : LL) (i j k : Int) (l : LL) (m o : Int) (a c : LL) : Bool := bif decide (f < (↑d.length : Int)) then false else true
theorem rd8_19 (rest : Lsp) (b : Int) (d e : LL) (f : Int) (g i : LL) (j k l : Int) (m : LL) (o p : Int) (a c : LL) : rV k38 (selL 11 ls8_11 rest) 8 0 Try.f8 19 [7, 12, 17, 18, 20, 21] [1, 2, 3, 8, 9, 10] [6, 7, 12, 17] [1, 2, 8, 9, 10] [iA b, AV.hp 8 0, AV.hp 1 0, AV.sl Tk.imm kI4 d, AV.sl Tk.imm kI4 e, iA f] [Blk.var [AV.sl Tk.imm kI1 g, AV.sl Tk.imm kI1 i, iA j], Blk.dead, Blk.dead, bV k l 9 10 m o p, Blk.row kI1 a, Blk.tbl kF c none] = bif go8_19 b d e f g i j k l m o p a c then some (Ex.norm, [iA b, AV.hp 8 0, AV.hp 1 0, AV.sl Tk.imm kI4 d, AV.sl Tk.imm kI4 e, iA (nx8_19_3 b d e f g i j k l m o p a c)], [Blk.var [AV.sl Tk.imm kI1 g, AV.sl Tk.imm kI1 i, iA j], Blk.dead, Blk.dead, bV k l 9 10 m o p, Blk.row kI1 a, Blk.tbl kF c none]) else bif xc8_19_0 b d e f g i j k l m o p a c then some (Ex.ret, [AV.bool false, iA b, AV.hp 8 0, AV.hp 1 0], [Blk.var [AV.sl Tk.imm kI1 g, AV.sl Tk.imm kI1 i, iA j], Blk.dead, bV k l 9 10 m o p, Blk.row kI1 a, Blk.tbl kF c none]) else bif xc8_19_1 b d e f g i j k l m o p a c then some (Ex.exit 2, [AV.junk, iA b, AV.hp 8 0, AV.hp 1 0], [Blk.var [AV.sl Tk.imm kI1 g, AV.sl Tk.imm kI1 i, iA j], Blk.dead, bV k l 9 10 m o p, Blk.row kI1 a, Blk.tbl kF c none]) else none := by
 refine Eq.trans (b := bif decide (f < (↑d.length : Int)) then bif decide (0 ≤ f) && decide (f < (↑d.length : Int)) then bif decide (0 ≤ f) && decide (f < (↑e.length : Int)) then bif !(intOf ((d.getD f.toNat []).getD 0 AV.junk) == intOf ((e.getD f.toNat []).getD 0 AV.junk) && (intOf ((d.getD f.toNat []).getD (0 + 1) AV.junk) == intOf ((e.getD f.toNat []).getD (0 + 1) AV.junk) && (intOf ((d.getD f.toNat []).getD (0 + 1 + 1) AV.junk) == intOf ((e.getD f.toNat []).getD (0 + 1 + 1) AV.junk) && (intOf ((d.getD f.toNat []).getD (0 + 1 + 1 + 1) AV.junk) == intOf ((e.getD f.toNat []).getD (0 + 1 + 1 + 1) AV.junk) && true)))) then some (Ex.ret, [AV.bool false, iA b, AV.hp 8 0, AV.hp 1 0], [Blk.var [AV.sl Tk.imm kI1 g, AV.sl Tk.imm kI1 i, iA j], Blk.dead, bV k l 9 10 m o p, Blk.row kI1 a, Blk.tbl kF c none]) else some (Ex.norm, [iA b, AV.hp 8 0, AV.hp 1 0, AV.sl Tk.imm kI4 d, AV.sl Tk.imm kI4 e, iA (IntKind.i64.wrap (f + 1))], [Blk.var [AV.sl Tk.imm kI1 g, AV.sl Tk.imm kI1 i, iA j], Blk.dead, Blk.dead, bV k l 9 10 m o p, Blk.row kI1 a, Blk.tbl kF c none]) else none else none else some (Ex.exit 2, [AV.junk, iA b, AV.hp 8 0, AV.hp 1 0], [Blk.var [AV.sl Tk.imm kI1 g, AV.sl Tk.imm kI1 i, iA j], Blk.dead, bV k l 9 10 m o p, Blk.row kI1 a, Blk.tbl kF c none])) (by kernel_rfl) ?_
 unfold go8_19 nx8_19_3 xc8_19_0 xc8_19_1
 generalize (!(intOf ((d.getD f.toNat []).getD 0 AV.junk) == intOf ((e.getD f.toNat []).getD 0 AV.junk) && (intOf ((d.getD f.toNat []).getD (0 + 1) AV.junk) == intOf ((e.getD f.toNat []).getD (0 + 1) AV.junk) && (intOf ((d.getD f.toNat []).getD (0 + 1 + 1) AV.junk) == intOf ((e.getD f.toNat []).getD (0 + 1 + 1) AV.junk) && (intOf ((d.getD f.toNat []).getD (0 + 1 + 1 + 1) AV.junk) == intOf ((e.getD f.toNat []).getD (0 + 1 + 1 + 1) AV.junk) && true))))) = c0
 generalize (decide (0 ≤ f) && decide (f < (↑d.length : Int))) = c1
 generalize (decide (0 ≤ f) && decide (f < (↑e.length : Int))) = c2
 generalize (decide (f < (↑d.length : Int))) = c3
 cases c3; rfl; cases c1; rfl; cases c2; rfl; cases c0; rfl; rfl
abbrev pl8_19 : Type := Int × LL × LL × LL × LL × Int × Int × Int × LL × Int × Int × LL × LL
abbrev sl8_19 : Type := Int
noncomputable def vt8_19 (a : pl8_19 × sl8_19) : List AV := [iA a.1.1, AV.hp 8 0, AV.hp 1 0, AV.sl Tk.imm kI4 a.1.2.1, AV.sl Tk.imm kI4 a.1.2.2.1, iA a.2]
noncomputable def vc8_19 (a : pl8_19 × sl8_19) : List Blk := [Blk.var [AV.sl Tk.imm kI1 a.1.2.2.2.1, AV.sl Tk.imm kI1 a.1.2.2.2.2.1, iA a.1.2.2.2.2.2.1], Blk.dead, Blk.dead, bV a.1.2.2.2.2.2.2.1 a.1.2.2.2.2.2.2.2.1 9 10 a.1.2.2.2.2.2.2.2.2.1 a.1.2.2.2.2.2.2.2.2.2.1 a.1.2.2.2.2.2.2.2.2.2.2.1, Blk.row kI1 a.1.2.2.2.2.2.2.2.2.2.2.2.1, Blk.tbl kF a.1.2.2.2.2.2.2.2.2.2.2.2.2 none]
noncomputable def de8_19 (vt : List AV) (vc : List Blk) : Option (pl8_19 × sl8_19) :=
 match vt with
 | [qa0, qa1, qa2, qa3, qa4, qa5] => (match vc with
 | [qb0, qb1, qb2, qb3, qb4, qb5] => (match qa0 with
 | .int .i64 t7 => (match qa1 with
 | AV.hp (8) (0) => (match qa2 with
 | AV.hp (1) (0) => (match qa3 with
 | .sl Tk.imm [.int .i64, .int .i64, .int .i64, .int .i64] t18 => (match qa4 with
 | .sl Tk.imm [.int .i64, .int .i64, .int .i64, .int .i64] t20 => (match qa5 with
 | .int .i64 t21 => (match qb0 with
 | .var [.sl Tk.imm [.int .i64] b1_0, .sl Tk.imm [.int .i64] b1_1, .int .i64 b1_2] => (match qb1 with
 | Blk.dead => (match qb2 with
 | Blk.dead => (match qb3 with
 | .var [.int .i64 b8_0, .int .i64 b8_1, AV.rf (9) [.int .i64], AV.mp (10) [.int .i64, .int .i64, .int .i64, .int .i64, .int .i64, .int .i64, .sl [.int .i64, .int .i64, .int .i64, .int .i64]], .sl Tk.imm [.int .i64, .int .i64] b8_4, .int .i64 b8_5, .int .i64 b8_6] => (match qb4 with
 | .row [.int .i64] b9 => (match qb5 with
 | Blk.tbl [.int .i64, .int .i64, .int .i64, .int .i64, .int .i64, .int .i64, .sl [.int .i64, .int .i64, .int .i64, .int .i64]] b10 none => (some ((t7, t18, t20, b1_0, b1_1, b1_2, b8_0, b8_1, b8_4, b8_5, b8_6, b9, b10), t21))
 | _ => none)
 | _ => none)
 | _ => none)
 | _ => none)
 | _ => none)
 | _ => none)
 | _ => none)
 | _ => none)
 | _ => none)
 | _ => none)
 | _ => none)
 | _ => none)
 | _ => none)
 | _ => none
theorem de8_19_ok (vt : List AV) (vc : List Blk) (a : pl8_19 × sl8_19) (h : de8_19 vt vc = some a) : vt = vt8_19 a ∧ vc = vc8_19 a := by
 unfold de8_19 at h
 iterate 14 (split at h; rotate_left; · cases h)
 injection h with h; subst h; exact ⟨rfl, rfl⟩
noncomputable def g8_19 (p : pl8_19) (s : sl8_19) : Bool := go8_19 p.1 p.2.1 p.2.2.1 s p.2.2.2.1 p.2.2.2.2.1 p.2.2.2.2.2.1 p.2.2.2.2.2.2.1 p.2.2.2.2.2.2.2.1 p.2.2.2.2.2.2.2.2.1 p.2.2.2.2.2.2.2.2.2.1 p.2.2.2.2.2.2.2.2.2.2.1 p.2.2.2.2.2.2.2.2.2.2.2.1 p.2.2.2.2.2.2.2.2.2.2.2.2
noncomputable def n8_19 (p : pl8_19) (s : sl8_19) : sl8_19 := nx8_19_3 p.1 p.2.1 p.2.2.1 s p.2.2.2.1 p.2.2.2.2.1 p.2.2.2.2.2.1 p.2.2.2.2.2.2.1 p.2.2.2.2.2.2.2.1 p.2.2.2.2.2.2.2.2.1 p.2.2.2.2.2.2.2.2.2.1 p.2.2.2.2.2.2.2.2.2.2.1 p.2.2.2.2.2.2.2.2.2.2.2.1 p.2.2.2.2.2.2.2.2.2.2.2.2
noncomputable def y8_19 (p : pl8_19) (s : sl8_19) : List (Bool × Out) := [(xc8_19_0 p.1 p.2.1 p.2.2.1 s p.2.2.2.1 p.2.2.2.2.1 p.2.2.2.2.2.1 p.2.2.2.2.2.2.1 p.2.2.2.2.2.2.2.1 p.2.2.2.2.2.2.2.2.1 p.2.2.2.2.2.2.2.2.2.1 p.2.2.2.2.2.2.2.2.2.2.1 p.2.2.2.2.2.2.2.2.2.2.2.1 p.2.2.2.2.2.2.2.2.2.2.2.2, (Ex.ret, [AV.bool false, iA p.1, AV.hp 8 0, AV.hp 1 0], [Blk.var [AV.sl Tk.imm kI1 p.2.2.2.1, AV.sl Tk.imm kI1 p.2.2.2.2.1, iA p.2.2.2.2.2.1], Blk.dead, bV p.2.2.2.2.2.2.1 p.2.2.2.2.2.2.2.1 9 10 p.2.2.2.2.2.2.2.2.1 p.2.2.2.2.2.2.2.2.2.1 p.2.2.2.2.2.2.2.2.2.2.1, Blk.row kI1 p.2.2.2.2.2.2.2.2.2.2.2.1, Blk.tbl kF p.2.2.2.2.2.2.2.2.2.2.2.2 none]))]
noncomputable def z8_19 (p : pl8_19) (s : sl8_19) : Bool := xc8_19_1 p.1 p.2.1 p.2.2.1 s p.2.2.2.1 p.2.2.2.2.1 p.2.2.2.2.2.1 p.2.2.2.2.2.2.1 p.2.2.2.2.2.2.2.1 p.2.2.2.2.2.2.2.2.1 p.2.2.2.2.2.2.2.2.2.1 p.2.2.2.2.2.2.2.2.2.2.1 p.2.2.2.2.2.2.2.2.2.2.2.1 p.2.2.2.2.2.2.2.2.2.2.2.2
noncomputable def d8_19 (p : pl8_19) (s : sl8_19) : Out := (Ex.exit 2, [AV.junk, iA p.1, AV.hp 8 0, AV.hp 1 0], [Blk.var [AV.sl Tk.imm kI1 p.2.2.2.1, AV.sl Tk.imm kI1 p.2.2.2.2.1, iA p.2.2.2.2.2.1], Blk.dead, bV p.2.2.2.2.2.2.1 p.2.2.2.2.2.2.2.1 9 10 p.2.2.2.2.2.2.2.2.1 p.2.2.2.2.2.2.2.2.2.1 p.2.2.2.2.2.2.2.2.2.2.1, Blk.row kI1 p.2.2.2.2.2.2.2.2.2.2.2.1, Blk.tbl kF p.2.2.2.2.2.2.2.2.2.2.2.2 none])
noncomputable def ls8_19 := lspOf [7, 12, 17, 18, 20, 21] [1, 2, 3, 8, 9, 10] [6, 7, 12, 17] [1, 2, 8, 9, 10] Try.f8.ntmps (0 + tab.nid 8) de8_19 (spI g8_19 n8_19 y8_19 z8_19 d8_19)
theorem lo8_19 (rest : Lsp) : lO k38 (selL 11 ls8_11 (selL 19 ls8_19 rest)) 8 0 Try.f8 19 := LoopOK1.iter (i := 19) (by kernel_rfl) [7, 12, 17, 18, 20, 21] [1, 2, 3, 8, 9, 10] [6, 7, 12, 17] [1, 2, 8, 9, 10] vt8_19 vc8_19 de8_19 g8_19 n8_19 y8_19 z8_19 d8_19 (fun _ => rfl) de8_19_ok (fun p s => rd8_19 (selL 19 ls8_19 rest) (p.1) (p.2.1) (p.2.2.1) s (p.2.2.2.1) (p.2.2.2.2.1) (p.2.2.2.2.2.1) (p.2.2.2.2.2.2.1) (p.2.2.2.2.2.2.2.1) (p.2.2.2.2.2.2.2.2.1) (p.2.2.2.2.2.2.2.2.2.1) (p.2.2.2.2.2.2.2.2.2.2.1) (p.2.2.2.2.2.2.2.2.2.2.2.1) (p.2.2.2.2.2.2.2.2.2.2.2.2)) (fun _ _ => rfl)
noncomputable def go8_24 (b d : Int) (e f : LL) (g h i : Int) (j : LL) (k l : Int) (a c : LL) : Bool := bif decide (d < 700) then bif !b == 0 then vev39_12 e f g (d.tmod b) h i k l a c j else false else false
noncomputable def nx8_24_1 (b d : Int) (e f : LL) (g h i : Int) (j : LL) (k l : Int) (a c : LL) : Int := IntKind.i64.wrap (d + 1)
noncomputable def nx8_24_2 (b d : Int) (e f : LL) (g h i : Int) (j : LL) (k l : Int) (a c : LL) : LL := vev39_0 e f g (d.tmod b) h i k l a c j
noncomputable def nx8_24_3 (b d : Int) (e f : LL) (g h i : Int) (j : LL) (k l : Int) (a c : LL) : LL := vev39_1 e f g (d.tmod b) h i k l a c j
noncomputable def nx8_24_4 (b d : Int) (e f : LL) (g h i : Int) (j : LL) (k l : Int) (a c : LL) : Int := vev39_2 e f g (d.tmod b) h i k l a c j
noncomputable def nx8_24_7 (b d : Int) (e f : LL) (g h i : Int) (j : LL) (k l : Int) (a c : LL) : LL := vev39_8 e f g (d.tmod b) h i k l a c j
noncomputable def nx8_24_8 (b d : Int) (e f : LL) (g h i : Int) (j : LL) (k l : Int) (a c : LL) : Int := vev39_9 e f g (d.tmod b) h i k l a c j
noncomputable def nx8_24_9 (b d : Int) (e f : LL) (g h i : Int) (j : LL) (k l : Int) (a c : LL) : Int := vev39_10 e f g (d.tmod b) h i k l a c j
noncomputable def nx8_24_11 (b d : Int) (e f : LL) (g h i : Int) (j : LL) (k l : Int) (a c : LL) : LL := vev39_11 e f g (d.tmod b) h i k l a c j
noncomputable def xc8_24_0 (b d : Int) (e f : LL) (g h i : Int) (j : LL) (k l : Int) (a c : LL) : Bool := bif decide (d < 700) then false else true
theorem rd8_24 (rest : Lsp) (b d : Int) (e f : LL) (g i j : Int) (k : LL) (l m : Int) (a c : LL) : roundV (cfg Try.prog tab 100000 (gk k38 30) (selL 11 ls8_11 (selL 19 ls8_19 rest)) 8 0 Try.f8.ntmps) (loopAt Try.f8 24) [7, 12, 17, 22] [1, 2, 8, 9, 10] [12, 17] [1, 2, 8, 9, 10] [iA b, AV.hp 8 0, AV.hp 1 0, iA d] [Blk.var [AV.sl Tk.imm kI1 e, AV.sl Tk.imm kI1 f, iA g], Blk.dead, bV i j 9 10 k l m, Blk.row kI1 a, Blk.tbl kF c none] = bif go8_24 b d e f g i j k l m a c then some (Ex.norm, [iA b, AV.hp 8 0, AV.hp 1 0, iA (nx8_24_1 b d e f g i j k l m a c)], [Blk.var [AV.sl Tk.imm kI1 (nx8_24_2 b d e f g i j k l m a c), AV.sl Tk.imm kI1 (nx8_24_3 b d e f g i j k l m a c), iA (nx8_24_4 b d e f g i j k l m a c)], Blk.dead, bV i j 9 10 (nx8_24_7 b d e f g i j k l m a c) (nx8_24_8 b d e f g i j k l m a c) (nx8_24_9 b d e f g i j k l m a c), Blk.row kI1 a, Blk.tbl kF (nx8_24_11 b d e f g i j k l m a c) none]) else bif xc8_24_0 b d e f g i j k l m a c then some (Ex.exit 4, [AV.hp 8 0, AV.hp 1 0], [Blk.var [AV.sl Tk.imm kI1 e, AV.sl Tk.imm kI1 f, iA g], Blk.dead, bV i j 9 10 k l m, Blk.row kI1 a, Blk.tbl kF c none]) else none := by
 refine Eq.trans (b := bif decide (d < 700) then bif !b == 0 then bif vev39_12 e f g (d.tmod b) i j l m a c k then some (Ex.norm, [iA b, AV.hp 8 0, AV.hp 1 0, iA (IntKind.i64.wrap (d + 1))], [Blk.var [AV.sl Tk.imm kI1 (vev39_0 e f g (d.tmod b) i j l m a c k), AV.sl Tk.imm kI1 (vev39_1 e f g (d.tmod b) i j l m a c k), iA (vev39_2 e f g (d.tmod b) i j l m a c k)], Blk.dead, bV i j 9 10 (vev39_8 e f g (d.tmod b) i j l m a c k) (vev39_9 e f g (d.tmod b) i j l m a c k) (vev39_10 e f g (d.tmod b) i j l m a c k), Blk.row kI1 a, Blk.tbl kF (vev39_11 e f g (d.tmod b) i j l m a c k) none]) else none else none else some (Ex.exit 4, [AV.hp 8 0, AV.hp 1 0], [Blk.var [AV.sl Tk.imm kI1 e, AV.sl Tk.imm kI1 f, iA g], Blk.dead, bV i j 9 10 k l m, Blk.row kI1 a, Blk.tbl kF c none])) (by kernel_rfl) ?_
 unfold go8_24 nx8_24_1 nx8_24_2 nx8_24_3 nx8_24_4 nx8_24_7 nx8_24_8 nx8_24_9 nx8_24_11 xc8_24_0
 generalize (decide (d < 700)) = c0
 generalize (vev39_12 _ _ _ _ _ _ _ _ _ _ _) = c1
 generalize (!b == 0) = c2
 cases c0; rfl; cases c2; rfl; cases c1; rfl; rfl
abbrev pl8_24 : Type := Int × Int × Int × LL
abbrev sl8_24 : Type := Int × LL × LL × Int × LL × Int × Int × LL
noncomputable def vt8_24 (a : pl8_24 × sl8_24) : List AV := [iA a.1.1, AV.hp 8 0, AV.hp 1 0, iA a.2.1]
noncomputable def vc8_24 (a : pl8_24 × sl8_24) : List Blk := [Blk.var [AV.sl Tk.imm kI1 a.2.2.1, AV.sl Tk.imm kI1 a.2.2.2.1, iA a.2.2.2.2.1], Blk.dead, bV a.1.2.1 a.1.2.2.1 9 10 a.2.2.2.2.2.1 a.2.2.2.2.2.2.1 a.2.2.2.2.2.2.2.1, Blk.row kI1 a.1.2.2.2, Blk.tbl kF a.2.2.2.2.2.2.2.2 none]
noncomputable def de8_24 (vt : List AV) (vc : List Blk) : Option (pl8_24 × sl8_24) :=
 match vt with
 | [qa0, qa1, qa2, qa3] => (match vc with
 | [qb0, qb1, qb2, qb3, qb4] => (match qa0 with
 | .int .i64 t7 => (match qa1 with
 | AV.hp (8) (0) => (match qa2 with
 | AV.hp (1) (0) => (match qa3 with
 | .int .i64 t22 => (match qb0 with
 | .var [.sl Tk.imm [.int .i64] b1_0, .sl Tk.imm [.int .i64] b1_1, .int .i64 b1_2] => (match qb1 with
 | Blk.dead => (match qb2 with
 | .var [.int .i64 b8_0, .int .i64 b8_1, AV.rf (9) [.int .i64], AV.mp (10) [.int .i64, .int .i64, .int .i64, .int .i64, .int .i64, .int .i64, .sl [.int .i64, .int .i64, .int .i64, .int .i64]], .sl Tk.imm [.int .i64, .int .i64] b8_4, .int .i64 b8_5, .int .i64 b8_6] => (match qb3 with
 | .row [.int .i64] b9 => (match qb4 with
 | Blk.tbl [.int .i64, .int .i64, .int .i64, .int .i64, .int .i64, .int .i64, .sl [.int .i64, .int .i64, .int .i64, .int .i64]] b10 none => (some ((t7, b8_0, b8_1, b9), (t22, b1_0, b1_1, b1_2, b8_4, b8_5, b8_6, b10)))
 | _ => none)
 | _ => none)
 | _ => none)
 | _ => none)
 | _ => none)
 | _ => none)
 | _ => none)
 | _ => none)
 | _ => none)
 | _ => none)
 | _ => none
theorem de8_24_ok (vt : List AV) (vc : List Blk) (a : pl8_24 × sl8_24) (h : de8_24 vt vc = some a) : vt = vt8_24 a ∧ vc = vc8_24 a := by
 unfold de8_24 at h
 iterate 11 (split at h; rotate_left; · cases h)
 injection h with h; subst h; exact ⟨rfl, rfl⟩
noncomputable def g8_24 (p : pl8_24) (s : sl8_24) : Bool := go8_24 p.1 s.1 s.2.1 s.2.2.1 s.2.2.2.1 p.2.1 p.2.2.1 s.2.2.2.2.1 s.2.2.2.2.2.1 s.2.2.2.2.2.2.1 p.2.2.2 s.2.2.2.2.2.2.2
noncomputable def n8_24 (p : pl8_24) (s : sl8_24) : sl8_24 := (nx8_24_1 p.1 s.1 s.2.1 s.2.2.1 s.2.2.2.1 p.2.1 p.2.2.1 s.2.2.2.2.1 s.2.2.2.2.2.1 s.2.2.2.2.2.2.1 p.2.2.2 s.2.2.2.2.2.2.2, nx8_24_2 p.1 s.1 s.2.1 s.2.2.1 s.2.2.2.1 p.2.1 p.2.2.1 s.2.2.2.2.1 s.2.2.2.2.2.1 s.2.2.2.2.2.2.1 p.2.2.2 s.2.2.2.2.2.2.2, nx8_24_3 p.1 s.1 s.2.1 s.2.2.1 s.2.2.2.1 p.2.1 p.2.2.1 s.2.2.2.2.1 s.2.2.2.2.2.1 s.2.2.2.2.2.2.1 p.2.2.2 s.2.2.2.2.2.2.2, nx8_24_4 p.1 s.1 s.2.1 s.2.2.1 s.2.2.2.1 p.2.1 p.2.2.1 s.2.2.2.2.1 s.2.2.2.2.2.1 s.2.2.2.2.2.2.1 p.2.2.2 s.2.2.2.2.2.2.2, nx8_24_7 p.1 s.1 s.2.1 s.2.2.1 s.2.2.2.1 p.2.1 p.2.2.1 s.2.2.2.2.1 s.2.2.2.2.2.1 s.2.2.2.2.2.2.1 p.2.2.2 s.2.2.2.2.2.2.2, nx8_24_8 p.1 s.1 s.2.1 s.2.2.1 s.2.2.2.1 p.2.1 p.2.2.1 s.2.2.2.2.1 s.2.2.2.2.2.1 s.2.2.2.2.2.2.1 p.2.2.2 s.2.2.2.2.2.2.2, nx8_24_9 p.1 s.1 s.2.1 s.2.2.1 s.2.2.2.1 p.2.1 p.2.2.1 s.2.2.2.2.1 s.2.2.2.2.2.1 s.2.2.2.2.2.2.1 p.2.2.2 s.2.2.2.2.2.2.2, nx8_24_11 p.1 s.1 s.2.1 s.2.2.1 s.2.2.2.1 p.2.1 p.2.2.1 s.2.2.2.2.1 s.2.2.2.2.2.1 s.2.2.2.2.2.2.1 p.2.2.2 s.2.2.2.2.2.2.2)
noncomputable def y8_24 (p : pl8_24) (s : sl8_24) : List (Bool × Out) := []
noncomputable def z8_24 (p : pl8_24) (s : sl8_24) : Bool := xc8_24_0 p.1 s.1 s.2.1 s.2.2.1 s.2.2.2.1 p.2.1 p.2.2.1 s.2.2.2.2.1 s.2.2.2.2.2.1 s.2.2.2.2.2.2.1 p.2.2.2 s.2.2.2.2.2.2.2
noncomputable def d8_24 (p : pl8_24) (s : sl8_24) : Out := (Ex.exit 4, [AV.hp 8 0, AV.hp 1 0], [Blk.var [AV.sl Tk.imm kI1 s.2.1, AV.sl Tk.imm kI1 s.2.2.1, iA s.2.2.2.1], Blk.dead, bV p.2.1 p.2.2.1 9 10 s.2.2.2.2.1 s.2.2.2.2.2.1 s.2.2.2.2.2.2.1, Blk.row kI1 p.2.2.2, Blk.tbl kF s.2.2.2.2.2.2.2 none])
noncomputable def ls8_24 := lspOf [7, 12, 17, 22] [1, 2, 8, 9, 10] [12, 17] [1, 2, 8, 9, 10] Try.f8.ntmps (0 + tab.nid 8) de8_24 (spI g8_24 n8_24 y8_24 z8_24 d8_24)
theorem lo8_24 (rest : Lsp) : lO k38 (selL 11 ls8_11 (selL 19 ls8_19 (selL 24 ls8_24 rest))) 8 0 Try.f8 24 := LoopOK1.iter (i := 24) (by kernel_rfl) [7, 12, 17, 22] [1, 2, 8, 9, 10] [12, 17] [1, 2, 8, 9, 10] vt8_24 vc8_24 de8_24 g8_24 n8_24 y8_24 z8_24 d8_24 (fun _ => rfl) de8_24_ok (fun p s => rd8_24 (selL 24 ls8_24 rest) (p.1) (s.1) (s.2.1) (s.2.2.1) (s.2.2.2.1) (p.2.1) (p.2.2.1) (s.2.2.2.2.1) (s.2.2.2.2.2.1) (s.2.2.2.2.2.2.1) (p.2.2.2) (s.2.2.2.2.2.2.2)) (fun _ _ => rfl)
noncomputable def lsp8 : Lsp := (selL 11 ls8_11 (selL 19 ls8_19 (selL 24 ls8_24 noLsp)))
theorem loops8 : ∀ c, Try.f8.body = some c → lsO k38 lsp8 8 0 Try.f8 c := loops_of [11, 19, 24] (by kernel_rfl) (by kernel_rfl) (fun i hi => by
 simp only [List.mem_cons, List.not_mem_nil, or_false] at hi
 rcases hi with rfl | rfl | rfl
 ·exact lo8_11 (selL 19 ls8_19 (selL 24 ls8_24 noLsp))
 ·exact lo8_19 (selL 24 ls8_24 noLsp)
 ·exact lo8_24 noLsp)
noncomputable def rev8_0 (w : Int) (costs l : LL) : Int := IntKind.i64.wrap (1 + IntKind.i64.wrap (w.tmod 8))
noncomputable def rev8_1 (w : Int) (costs l : LL) : LL := vev24_0 (rev8_0 w costs l)
noncomputable def rev8_2 (w : Int) (costs l : LL) : sl8_11 := finL (g8_11 (l, rev8_0 w costs l, vev24_0 1, vev24_0 1, 0, rev8_1 w costs l, rev8_1 w costs l, 0, 5, 3, vev38_0 costs, 0, 0, vev38_1 costs, vev38_2 costs, 5, 3, vev38_0 costs, 0, 0, vev38_1 costs, vev38_2 costs)) (n8_11 (l, rev8_0 w costs l, vev24_0 1, vev24_0 1, 0, rev8_1 w costs l, rev8_1 w costs l, 0, 5, 3, vev38_0 costs, 0, 0, vev38_1 costs, vev38_2 costs, 5, 3, vev38_0 costs, 0, 0, vev38_1 costs, vev38_2 costs)) (0, [], [])
noncomputable def rev8_3 (w : Int) (costs l : LL) : LL := (rev8_2 w costs l).snd.fst
noncomputable def rev8_4 (w : Int) (costs l : LL) : LL := (rev8_2 w costs l).snd.snd
noncomputable def rev8_5 (w : Int) (costs l : LL) : LL := vev17_3 5 3 (vev38_1 costs) (rev8_3 w costs l) (rev8_1 w costs l) (rev8_1 w costs l) 0 (vev38_0 costs) 0 0 (vev38_2 costs)
noncomputable def rev8_6 (w : Int) (costs l : LL) : Int := (↑(rev8_5 w costs l).length : Int)
noncomputable def rev8_7 (w : Int) (costs l : LL) : LL := vev17_3 5 3 (vev38_1 costs) (rev8_4 w costs l) (vev24_0 1) (vev24_0 1) 0 (vev38_0 costs) 0 0 (vev38_2 costs)
noncomputable def rev8_8 (w : Int) (costs l : LL) : LL := vev17_0 5 3 (vev38_1 costs) (rev8_3 w costs l) (rev8_1 w costs l) (rev8_1 w costs l) 0 (vev38_0 costs) 0 0 (vev38_2 costs)
noncomputable def rev8_9 (w : Int) (costs l : LL) : LL := vev17_1 5 3 (vev38_1 costs) (rev8_3 w costs l) (rev8_1 w costs l) (rev8_1 w costs l) 0 (vev38_0 costs) 0 0 (vev38_2 costs)
noncomputable def rev8_10 (w : Int) (costs l : LL) : Int := vev17_2 5 3 (vev38_1 costs) (rev8_3 w costs l) (rev8_1 w costs l) (rev8_1 w costs l) 0 (vev38_0 costs) 0 0 (vev38_2 costs)
noncomputable def rev8_11 (w : Int) (costs l : LL) : LL := vev17_0 5 3 (vev38_1 costs) (rev8_4 w costs l) (vev24_0 1) (vev24_0 1) 0 (vev38_0 costs) 0 0 (vev38_2 costs)
noncomputable def rev8_12 (w : Int) (costs l : LL) : LL := vev17_1 5 3 (vev38_1 costs) (rev8_4 w costs l) (vev24_0 1) (vev24_0 1) 0 (vev38_0 costs) 0 0 (vev38_2 costs)
noncomputable def rev8_13 (w : Int) (costs l : LL) : Int := vev17_2 5 3 (vev38_1 costs) (rev8_4 w costs l) (vev24_0 1) (vev24_0 1) 0 (vev38_0 costs) 0 0 (vev38_2 costs)
noncomputable def rev8_14 (w : Int) (costs l : LL) : Int := vev17_6 5 3 (vev38_1 costs) (rev8_3 w costs l) (rev8_1 w costs l) (rev8_1 w costs l) 0 (vev38_0 costs) 0 0 (vev38_2 costs)
noncomputable def rev8_15 (w : Int) (costs l : LL) : LL := vev17_4 5 3 (vev38_1 costs) (rev8_3 w costs l) (rev8_1 w costs l) (rev8_1 w costs l) 0 (vev38_0 costs) 0 0 (vev38_2 costs)
noncomputable def rev8_16 (w : Int) (costs l : LL) : Int := vev17_5 5 3 (vev38_1 costs) (rev8_3 w costs l) (rev8_1 w costs l) (rev8_1 w costs l) 0 (vev38_0 costs) 0 0 (vev38_2 costs)
noncomputable def rev8_17 (w : Int) (costs l : LL) : LL := vev17_7 5 3 (vev38_1 costs) (rev8_3 w costs l) (rev8_1 w costs l) (rev8_1 w costs l) 0 (vev38_0 costs) 0 0 (vev38_2 costs)
noncomputable def rev8_18 (w : Int) (costs l : LL) : sl8_19 := finL (g8_19 (rev8_0 w costs l, rev8_5 w costs l, rev8_7 w costs l, rev8_8 w costs l, rev8_9 w costs l, rev8_10 w costs l, 5, 3, rev8_15 w costs l, rev8_16 w costs l, rev8_14 w costs l, vev38_1 costs, rev8_17 w costs l)) (n8_19 (rev8_0 w costs l, rev8_5 w costs l, rev8_7 w costs l, rev8_8 w costs l, rev8_9 w costs l, rev8_10 w costs l, 5, 3, rev8_15 w costs l, rev8_16 w costs l, rev8_14 w costs l, vev38_1 costs, rev8_17 w costs l)) 0
noncomputable def rev8_19 (w : Int) (costs l : LL) : sl8_24 := finL (g8_24 (rev8_0 w costs l, 5, 3, vev38_1 costs)) (n8_24 (rev8_0 w costs l, 5, 3, vev38_1 costs)) (0, rev8_8 w costs l, rev8_9 w costs l, rev8_10 w costs l, rev8_15 w costs l, rev8_16 w costs l, rev8_14 w costs l, rev8_17 w costs l)
noncomputable def rev8_20 (w : Int) (costs l : LL) : Int := (rev8_19 w costs l).snd.snd.snd.snd.snd.fst
noncomputable def rev8_21 (w : Int) (costs l : LL) : Int := (rev8_19 w costs l).snd.snd.snd.snd.snd.snd.fst
noncomputable def rev8_22 (w : Int) (costs l : LL) : LL := (rev8_19 w costs l).snd.snd.snd.snd.snd.snd.snd
noncomputable def rev8_23 (w : Int) (costs l : LL) : LL := (rev8_19 w costs l).snd.snd.snd.snd.fst
noncomputable def rev8_24 (w : Int) (costs l : LL) : LL := (rev8_19 w costs l).snd.fst
noncomputable def rev8_25 (w : Int) (costs l : LL) : LL := (rev8_19 w costs l).snd.snd.fst
noncomputable def rev8_26 (w : Int) (costs l : LL) : Int := (rev8_19 w costs l).snd.snd.snd.fst
noncomputable def vev8_0 (w : Int) (costs l : LL) : Bool := bif bif decide ((↑costs.length : Int) > 12) then true else decide ((↑l.length : Int) > 60) then true else bif bif vev24_1 (rev8_0 w costs l) != 0 then true else false == true then false else bif rev8_6 w costs l != (↑(rev8_7 w costs l).length : Int) then false else bif vev22_0 (rev8_8 w costs l) (rev8_9 w costs l) (rev8_10 w costs l) != vev22_0 (rev8_11 w costs l) (rev8_12 w costs l) (rev8_13 w costs l) then false else bif vev22_0 (rev8_8 w costs l) (rev8_9 w costs l) (rev8_10 w costs l) != rev8_14 w costs l then false else bif rev8_10 w costs l != rev8_13 w costs l then false else bif IntKind.i64.wrap (rev8_10 w costs l + rev8_6 w costs l) != (↑l.length : Int) then false else bif vev20_0 (rev8_8 w costs l) (rev8_9 w costs l) (rev8_10 w costs l) != 0 then false else bif xc8_19_0 (rev8_0 w costs l) (rev8_5 w costs l) (rev8_7 w costs l) (rev8_18 w costs l) (rev8_8 w costs l) (rev8_9 w costs l) (rev8_10 w costs l) 5 3 (rev8_15 w costs l) (rev8_16 w costs l) (rev8_14 w costs l) (vev38_1 costs) (rev8_17 w costs l) then false else bif vev34_0 5 3 (rev8_20 w costs l) (rev8_21 w costs l) (vev38_1 costs) (rev8_22 w costs l) (rev8_23 w costs l) == 0 then bif vev22_0 (rev8_24 w costs l) (rev8_25 w costs l) (rev8_26 w costs l) == rev8_21 w costs l then bif true then true else false else false else false
noncomputable def vev8_1 (w : Int) (costs l : LL) : Bool := bif bif decide ((↑costs.length : Int) > 12) then true else decide ((↑l.length : Int) > 60) then true else bif vev24_2 (rev8_0 w costs l) then bif vev38_3 costs then bif bif vev24_1 (rev8_0 w costs l) != 0 then true else false == true then true else bif (spI g8_11 n8_11 y8_11 z8_11 d8_11 ((l, rev8_0 w costs l, vev24_0 1, vev24_0 1, 0, rev8_1 w costs l, rev8_1 w costs l, 0, 5, 3, vev38_0 costs, 0, 0, vev38_1 costs, vev38_2 costs, 5, 3, vev38_0 costs, 0, 0, vev38_1 costs, vev38_2 costs), 0, [], [])).fst then bif vev17_8 5 3 (vev38_1 costs) (rev8_3 w costs l) (rev8_1 w costs l) (rev8_1 w costs l) 0 (vev38_0 costs) 0 0 (vev38_2 costs) then bif vev17_8 5 3 (vev38_1 costs) (rev8_4 w costs l) (vev24_0 1) (vev24_0 1) 0 (vev38_0 costs) 0 0 (vev38_2 costs) then bif rev8_6 w costs l != (↑(rev8_7 w costs l).length : Int) then true else bif vev22_1 (rev8_8 w costs l) (rev8_9 w costs l) (rev8_10 w costs l) then bif vev22_1 (rev8_11 w costs l) (rev8_12 w costs l) (rev8_13 w costs l) then bif vev22_0 (rev8_8 w costs l) (rev8_9 w costs l) (rev8_10 w costs l) != vev22_0 (rev8_11 w costs l) (rev8_12 w costs l) (rev8_13 w costs l) then true else bif vev22_0 (rev8_8 w costs l) (rev8_9 w costs l) (rev8_10 w costs l) != rev8_14 w costs l then true else bif rev8_10 w costs l != rev8_13 w costs l then true else bif IntKind.i64.wrap (rev8_10 w costs l + rev8_6 w costs l) != (↑l.length : Int) then true else bif vev20_1 (rev8_8 w costs l) (rev8_9 w costs l) (rev8_10 w costs l) then bif vev20_0 (rev8_8 w costs l) (rev8_9 w costs l) (rev8_10 w costs l) != 0 then true else bif (spI g8_19 n8_19 y8_19 z8_19 d8_19 ((rev8_0 w costs l, rev8_5 w costs l, rev8_7 w costs l, rev8_8 w costs l, rev8_9 w costs l, rev8_10 w costs l, 5, 3, rev8_15 w costs l, rev8_16 w costs l, rev8_14 w costs l, vev38_1 costs, rev8_17 w costs l), 0)).fst then bif xc8_19_0 (rev8_0 w costs l) (rev8_5 w costs l) (rev8_7 w costs l) (rev8_18 w costs l) (rev8_8 w costs l) (rev8_9 w costs l) (rev8_10 w costs l) 5 3 (rev8_15 w costs l) (rev8_16 w costs l) (rev8_14 w costs l) (vev38_1 costs) (rev8_17 w costs l) then true else bif (spI g8_24 n8_24 y8_24 z8_24 d8_24 ((rev8_0 w costs l, 5, 3, vev38_1 costs), 0, rev8_8 w costs l, rev8_9 w costs l, rev8_10 w costs l, rev8_15 w costs l, rev8_16 w costs l, rev8_14 w costs l, rev8_17 w costs l)).fst then bif vev34_1 5 3 (rev8_20 w costs l) (rev8_21 w costs l) (vev38_1 costs) (rev8_22 w costs l) (rev8_23 w costs l) then bif vev34_0 5 3 (rev8_20 w costs l) (rev8_21 w costs l) (vev38_1 costs) (rev8_22 w costs l) (rev8_23 w costs l) == 0 then bif vev22_1 (rev8_24 w costs l) (rev8_25 w costs l) (rev8_26 w costs l) then true else false else true else false else false else false else false else false else false else false else false else false else false else false
theorem ev8 (w : Int) (costs l : LL) : evFun (cfg Try.prog tab 100000 (gk k38 30) lsp8 8 ([] : List Blk).length Try.f8.ntmps) Try.f8 [.int .u8 w, .sl .imm [.int .u8] costs, .sl .imm [.int .u8] l] [] = bif vev8_1 w costs l then some (AV.bool (vev8_0 w costs l), []) else none := by
 refine Eq.trans (b := bif bif decide ((↑costs.length : Int) > 12) then true else true then bif bif decide ((↑costs.length : Int) > 12) then true else bif false then true else decide ((↑l.length : Int) > 60) then some (AV.bool true, []) else bif vev24_2 (rev8_0 w costs l) then bif vev38_3 costs then bif vev38_3 costs then bif bif vev24_1 (rev8_0 w costs l) != 0 then true else true then bif bif vev24_1 (rev8_0 w costs l) != 0 then true else bif false then true else false == true then some (AV.bool false, []) else bif (spI g8_11 n8_11 y8_11 z8_11 d8_11 ((l, rev8_0 w costs l, vev24_0 1, vev24_0 1, 0, rev8_1 w costs l, rev8_1 w costs l, 0, 5, 3, vev38_0 costs, 0, 0, vev38_1 costs, vev38_2 costs, 5, 3, vev38_0 costs, 0, 0, vev38_1 costs, vev38_2 costs), 0, [], [])).fst then bif vev17_8 5 3 (vev38_1 costs) (rev8_3 w costs l) (rev8_1 w costs l) (rev8_1 w costs l) 0 (vev38_0 costs) 0 0 (vev38_2 costs) then bif vev17_8 5 3 (vev38_1 costs) (rev8_4 w costs l) (vev24_0 1) (vev24_0 1) 0 (vev38_0 costs) 0 0 (vev38_2 costs) then bif rev8_6 w costs l != (↑(rev8_7 w costs l).length : Int) then some (AV.bool false, []) else bif vev22_1 (rev8_8 w costs l) (rev8_9 w costs l) (rev8_10 w costs l) then bif vev22_1 (rev8_11 w costs l) (rev8_12 w costs l) (rev8_13 w costs l) then bif bif false then true else vev22_0 (rev8_8 w costs l) (rev8_9 w costs l) (rev8_10 w costs l) != vev22_0 (rev8_11 w costs l) (rev8_12 w costs l) (rev8_13 w costs l) then some (AV.bool false, []) else bif vev22_1 (rev8_8 w costs l) (rev8_9 w costs l) (rev8_10 w costs l) then bif bif false then true else vev22_0 (rev8_8 w costs l) (rev8_9 w costs l) (rev8_10 w costs l) != rev8_14 w costs l then some (AV.bool false, []) else bif bif false then true else rev8_10 w costs l != rev8_13 w costs l then some (AV.bool false, []) else bif bif false then true else IntKind.i64.wrap (rev8_10 w costs l + rev8_6 w costs l) != (↑l.length : Int) then some (AV.bool false, []) else bif vev20_1 (rev8_8 w costs l) (rev8_9 w costs l) (rev8_10 w costs l) then bif bif false then true else vev20_0 (rev8_8 w costs l) (rev8_9 w costs l) (rev8_10 w costs l) != 0 then some (AV.bool false, []) else bif (spI g8_19 n8_19 y8_19 z8_19 d8_19 ((rev8_0 w costs l, rev8_5 w costs l, rev8_7 w costs l, rev8_8 w costs l, rev8_9 w costs l, rev8_10 w costs l, 5, 3, rev8_15 w costs l, rev8_16 w costs l, rev8_14 w costs l, vev38_1 costs, rev8_17 w costs l), 0)).fst then bif xc8_19_0 (rev8_0 w costs l) (rev8_5 w costs l) (rev8_7 w costs l) (rev8_18 w costs l) (rev8_8 w costs l) (rev8_9 w costs l) (rev8_10 w costs l) 5 3 (rev8_15 w costs l) (rev8_16 w costs l) (rev8_14 w costs l) (vev38_1 costs) (rev8_17 w costs l) then some (AV.bool false, []) else bif (spI g8_24 n8_24 y8_24 z8_24 d8_24 ((rev8_0 w costs l, 5, 3, vev38_1 costs), 0, rev8_8 w costs l, rev8_9 w costs l, rev8_10 w costs l, rev8_15 w costs l, rev8_16 w costs l, rev8_14 w costs l, rev8_17 w costs l)).fst then bif vev34_1 5 3 (rev8_20 w costs l) (rev8_21 w costs l) (vev38_1 costs) (rev8_22 w costs l) (rev8_23 w costs l) then bif vev34_0 5 3 (rev8_20 w costs l) (rev8_21 w costs l) (vev38_1 costs) (rev8_22 w costs l) (rev8_23 w costs l) == 0 then bif vev22_1 (rev8_24 w costs l) (rev8_25 w costs l) (rev8_26 w costs l) then bif bif true then vev22_0 (rev8_24 w costs l) (rev8_25 w costs l) (rev8_26 w costs l) == rev8_21 w costs l else false then some (AV.bool (bif true then true else false), []) else some (AV.bool false, []) else none else some (AV.bool false, []) else none else none else none else none else none else none else none else none else none else none else none else none else none else none else none) (by kernel_rfl) ?_
 unfold vev8_0 vev8_1
 generalize (spI g8_11 _ _ _ _ _).fst = c0
 generalize (spI g8_19 _ _ _ _ _).fst = c1
 generalize (spI g8_24 _ _ _ _ _).fst = c2
 generalize (xc8_19_0 _ _ _ _ _ _ _ _ _ _ _ _ _ _) = c3
 generalize (vev17_8 5 3 (vev38_1 costs) (rev8_4 w costs l) (vev24_0 1) (vev24_0 1) 0 (vev38_0 costs) 0 0 (vev38_2 costs)) = c4
 generalize (vev17_8 5 3 (vev38_1 costs) (rev8_3 w costs l) (rev8_1 w costs l) (rev8_1 w costs l) 0 (vev38_0 costs) 0 0 (vev38_2 costs)) = c5
 generalize (vev34_0 5 3 (rev8_20 w costs l) (rev8_21 w costs l) (vev38_1 costs) (rev8_22 w costs l) (rev8_23 w costs l) == 0) = c6
 generalize (vev22_0 (rev8_8 w costs l) (rev8_9 w costs l) (rev8_10 w costs l) != vev22_0 (rev8_11 w costs l) (rev8_12 w costs l) (rev8_13 w costs l)) = c7
 generalize (decide ((↑costs.length : Int) > 12)) = c8
 generalize (decide ((↑l.length : Int) > 60)) = c9
 generalize (IntKind.i64.wrap (rev8_10 w costs l + rev8_6 w costs l) != (↑l.length : Int)) = c10
 generalize (vev34_1 _ _ _ _ _ _ _) = c11
 generalize (vev20_0 (rev8_8 w costs l) (rev8_9 w costs l) (rev8_10 w costs l) != 0) = c12
 generalize (vev22_0 (rev8_8 w costs l) (rev8_9 w costs l) (rev8_10 w costs l) != rev8_14 w costs l) = c13
 generalize (vev22_0 (rev8_24 w costs l) (rev8_25 w costs l) (rev8_26 w costs l) == rev8_21 w costs l) = c14
 generalize (rev8_6 w costs l != (↑(rev8_7 w costs l).length : Int)) = c15
 generalize (vev24_1 (rev8_0 w costs l) != 0) = c16
 generalize (vev20_1 _ _ _) = c17
 generalize (vev22_1 (rev8_11 w costs l) (rev8_12 w costs l) (rev8_13 w costs l)) = c18
 generalize (vev22_1 (rev8_8 w costs l) (rev8_9 w costs l) (rev8_10 w costs l)) = c19
 generalize (rev8_10 w costs l != rev8_13 w costs l) = c20
 generalize (vev22_1 (rev8_24 w costs l) (rev8_25 w costs l) (rev8_26 w costs l)) = c21
 generalize (false == true) = c22
 generalize (vev24_2 _) = c23
 generalize (vev38_3 _) = c24
 cases c8; cases c9; cases c23; rfl; cases c24; rfl; cases c16; cases c22; cases c0; rfl; cases c5; rfl; cases c4; rfl; cases c15; cases c19; rfl
 cases c18; rfl; cases c7; cases c13; cases c20; cases c10; cases c17; rfl; cases c12; cases c1; rfl; cases c3; cases c2; rfl; cases c11; rfl
 cases c6; rfl; cases c21; rfl; cases c14; rfl; rfl; rfl; rfl; rfl; rfl; rfl; rfl; rfl; rfl; rfl; rfl; rfl
end Go.Proofs.Gv
namespace Go.Proofs.Gv
open Go.Proofs
set_option maxRecDepth 20000
theorem wnL_nn {l : Int} {es : List (List AV)} (g : Good l es) : 0 ≤ wnL es := by
 rw [← wnQ_eq]
 have key : ∀ n, n ≤ es.length → 0 ≤ wnQ es n := by
  intro n
  induction n with
  | zero => intro _; exact Int.le_refl _
  | succ n ih =>
    intro h
    have h1 := ih (by omega)
    have h2 := un_le g (show n < es.length by omega) (q := 1) (by omega)
    have h3 : 0 ≤ wn (q2 es n) := by unfold wn; omega
    simp only [wnQ]
    omega
 exact key _ (Nat.le_refl _)
theorem wnF_nn : ∀ {fs : List Fl} {lim : Int}, (∀ x ∈ fs, Good lim x.rs) → 0 ≤ wnF fs
 | [], _, _ => Int.le_refl _
 | x :: fs, lim, h => by
   have h1 := wnL_nn (h x (by simp))
   have h2 := wnF_nn (fs := fs) fun y hy => h y (by simp [hy])
   simp only [wnF]
   omega
theorem Inv.wn {S : Sc} (I : Inv S) : 0 ≤ wnF S.fs := wnF_nn (lim := S.lim) fun x hx => by
 obtain ⟨i, hi, rfl⟩ := mem_atF hx
 exact (I.fl i hi).g
theorem idle_bl {S : Sc} (h : busyF S.fs = []) : blF S.fs = 0 := by
 have h0 := idle_all h
 have key : ∀ n, n ≤ S.fs.length → blN S.fs n = 0 := by
  intro n
  induction n with
  | zero => intro _; rfl
  | succ n ih =>
    intro hn
    have hz : (atF S.fs n).rs = [] := List.length_eq_zero_iff.1 (h0 n (by omega))
    show blN S.fs n + lfQ (atF S.fs n).rs = 0
    rw [ih (by omega), hz]
    rfl
 exact key _ (Nat.le_refl _)
theorem tmod_in {n : Nat} (hn : 1 ≤ n) (x : Int) (hx : 0 ≤ x) : inrg n (x.tmod (n : Int)) = true := by
 rw [Int.tmod_eq_emod_of_nonneg hx]
 unfold inrg
 have h1 := Int.emod_nonneg x (show (n : Int) ≠ 0 by omega)
 have h2 := Int.emod_lt_of_pos x (show (0 : Int) < (n : Int) by omega)
 rw [decide_eq_true h1, decide_eq_true h2]
 rfl
theorem step24 {S S1 : Sc} {o : Tld} (F : SF S S1 o) (I : Inv S) {U V : List Int} (p : Pok U V S.k) (hB : S.k + blF S.fs ≤ 3072) {d : Int} (h0 : 0 ≤ d) (hd : d ≤ 4000) {i : Nat} (hi : i < 700) :
  ∃ U' V', Pok U' V' S1.k ∧ U'.length = U.length ∧ g8_24 ((U.length : Int), S.q, S.lim, ordsF S.fs) ((i : Int), encI U, encI V, d, R S.h, S.t, S.k, tabsF S.fs) = true ∧
   n8_24 ((U.length : Int), S.q, S.lim, ordsF S.fs) ((i : Int), encI U, encI V, d, R S.h, S.t, S.k, tabsF S.fs) = (((i + 1 : Nat) : Int), encI U', encI V', d + (bif o.b then 0 else 1), R S1.h, S1.t, S1.k, tabsF S1.fs) := by
 obtain ⟨U', V', p', hU, c0, c1, c2, c3, c4, c5, c6, c7, c8⟩ := turn39 F p hB (bl_nn F.I) (bl_nn I) h0 hd (tmod_in p.n.1 (i : Int) (by omega))
 refine ⟨U', V', p', hU, ?_, ?_⟩
 ·show go8_24 (U.length : Int) (i : Int) (encI U) (encI V) d S.q S.lim (R S.h) S.t S.k (ordsF S.fs) (tabsF S.fs) = true
  unfold go8_24
  have hn := p.n
  rw [c0, decide_eq_true (show (i : Int) < 700 by omega), show ((U.length : Int) == 0) = false from by simpa using (show U.length ≠ 0 by omega)]
  rfl
 ·show (nx8_24_1 (U.length : Int) (i : Int) (encI U) (encI V) d S.q S.lim (R S.h) S.t S.k (ordsF S.fs) (tabsF S.fs), nx8_24_2 (U.length : Int) (i : Int) (encI U) (encI V) d S.q S.lim (R S.h) S.t S.k (ordsF S.fs) (tabsF S.fs), nx8_24_3 (U.length : Int) (i : Int) (encI U) (encI V) d S.q S.lim (R S.h) S.t S.k (ordsF S.fs) (tabsF S.fs), nx8_24_4 (U.length : Int) (i : Int) (encI U) (encI V) d S.q S.lim (R S.h) S.t S.k (ordsF S.fs) (tabsF S.fs), nx8_24_7 (U.length : Int) (i : Int) (encI U) (encI V) d S.q S.lim (R S.h) S.t S.k (ordsF S.fs) (tabsF S.fs), nx8_24_8 (U.length : Int) (i : Int) (encI U) (encI V) d S.q S.lim (R S.h) S.t S.k (ordsF S.fs) (tabsF S.fs), nx8_24_9 (U.length : Int) (i : Int) (encI U) (encI V) d S.q S.lim (R S.h) S.t S.k (ordsF S.fs) (tabsF S.fs), nx8_24_11 (U.length : Int) (i : Int) (encI U) (encI V) d S.q S.lim (R S.h) S.t S.k (ordsF S.fs) (tabsF S.fs)) = _
  unfold nx8_24_1 nx8_24_2 nx8_24_3 nx8_24_4 nx8_24_7 nx8_24_8 nx8_24_9 nx8_24_11
  rw [c1, c2, c3, c5, c6, c7, c8, nxt i 700 hi (by omega)]
theorem endsT24 : ∀ (m i : Nat) (S : Sc) (U V : List Int) (d : Int), i + m = 700 → Inv S → S.q = 5 → Pok U V S.k → S.k + blF S.fs ≤ 3072 → 0 ≤ d → d + m ≤ 4000 → (wnF S.fs + i ≤ 624 ∨ busyF S.fs = []) →
  ∃ S' U' V' d', Inv S' ∧ S'.q = S.q ∧ S'.lim = S.lim ∧ ordsF S'.fs = ordsF S.fs ∧ Pok U' V' S'.k ∧ S'.k + blF S'.fs ≤ 3072 ∧ busyF S'.fs = [] ∧ 0 ≤ d' ∧ d' ≤ 4000 ∧
   Ends (g8_24 ((U.length : Int), S.q, S.lim, ordsF S.fs)) (n8_24 ((U.length : Int), S.q, S.lim, ordsF S.fs)) ((i : Int), encI U, encI V, d, R S.h, S.t, S.k, tabsF S.fs) ((700 : Int), encI U', encI V', d', R S'.h, S'.t, S'.k, tabsF S'.fs) := by
 intro m
 induction m with
 | zero =>
   intro i S U V d hm I hq p hB h0 hd hw
   have hi : i = 700 := by omega
   subst hi
   have hb : busyF S.fs = [] := by
    rcases hw with h | h
    ·have := I.wn; omega
    ·exact h
   refine ⟨S, U, V, d, I, rfl, rfl, rfl, p, hB, hb, h0, by omega, Ends.stop ?_⟩
   show go8_24 (U.length : Int) ((700 : Nat) : Int) (encI U) (encI V) d S.q S.lim (R S.h) S.t S.k (ordsF S.fs) (tabsF S.fs) = false
   unfold go8_24
   rw [decide_eq_false (show ¬ ((700 : Nat) : Int) < 700 by omega)]
   rfl
 | succ m ih =>
   intro i S U V d hm I hq p hB h0 hd hw
   obtain ⟨S1, o, F⟩ := sf_of I hq
   have hbl := F.bl
   obtain ⟨U1, V1, p1, hU, s1, s2⟩ := step24 F I p hB h0 (by omega) (show i < 700 by omega)
   have hw1 : wnF S1.fs + (i + 1 : Nat) ≤ 624 ∨ busyF S1.fs = [] := by
    cases hb : o.b with
    | false => exact .inr (by rw [(F.idle hb).2]; exact (F.idle hb).1)
    | true =>
      have h1 := F.wn hb
      rcases hw with h | h
      ·exact .inl (by omega)
      ·have h2 := idle_bl (S := S) h
       have h3 := bl_nn F.I
       have h4 := F.k
       have h5 := F.u hb
       rw [hb] at h4
       simp only [cond_true] at h4
       omega
   obtain ⟨S', U', V', d', I', a1, a2, a3, a4, a5, a6, a7, a8, e⟩ := ih (i + 1) S1 U1 V1 (d + (bif o.b then 0 else 1)) (by omega) F.I (F.q.trans hq) p1 (by omega) (by cases o.b <;> simp <;> omega) (by cases o.b <;> simp <;> omega) hw1
   rw [hU, F.q, F.lim, ← F.ord] at e
   refine ⟨S', U', V', d', I', a1.trans F.q, a2.trans F.lim, a3.trans F.ord.symm, a4, a5, a6, a7, a8, Ends.step s1 ?_⟩
   rw [s2]
   exact e
end Go.Proofs.Gv
namespace Go.Proofs.Gv
open Go.Proofs
set_option maxRecDepth 20000
def nmI (n : Nat) (l : List (List AV)) (i : Nat) : List Int := (List.range i).map fun j => (IntKind.i64.wrap (intOf ((l.getD j []).getD (0 : Nat) AV.junk))).tmod (n : Int)
theorem nmI_succ (n : Nat) (l : List (List AV)) (i : Nat) : encI (nmI n l (i + 1)) = encI (nmI n l i) ++ [[AV.int .i64 ((IntKind.i64.wrap (intOf ((l.getD i []).getD (0 : Nat) AV.junk))).tmod (n : Int))]] := by
 unfold nmI encI
 rw [List.range_succ, List.map_append, List.map_append]
 rfl
theorem rep_succ (i : Nat) : encI (List.replicate (i + 1) 0) = encI (List.replicate i 0) ++ [[AV.int .i64 0]] := by
 unfold encI
 rw [List.replicate_succ', List.map_append]
 rfl
theorem ends11 {p : pl8_11} {l : List (List AV)} {n : Nat} (hp1 : p.1 = l) (hp2 : p.2.1 = (n : Int)) (hn : 1 ≤ n) (h60 : l.length ≤ 60) : Ends (g8_11 p) (n8_11 p) ((0 : Int), [], []) ((l.length : Int), encI (nmI n l l.length), encI (List.replicate l.length 0)) := by
 refine Ends.count l.length (fun i : Nat => ((i : Int), encI (nmI n l i), encI (List.replicate i 0))) (fun i hi => ⟨?_, ?_⟩) ?_
 ·unfold g8_11 go8_11 rn8_11_0
  rw [hp1, hp2]
  dsimp only
  have e1 : (encI (nmI n l i)).length = i := by rw [encI_len]; simp [nmI]
  have e2 : (encI (List.replicate i 0)).length = i := by rw [encI_len]; simp
  rw [e1, e2, show ((n : Int) == 0) = false from by simpa using (show n ≠ 0 by omega), in2 hi, decide_eq_true (show (i : Int) < (l.length : Int) by omega)]
  simp only [List.length_cons, List.length_nil, Nat.zero_add]
  rw [decide_eq_true (show (i + 1) * 8 ≤ 140737488355328 by omega), decide_eq_true (show i + 1 ≤ 9223372036854775807 by omega)]
  rfl
 ·unfold n8_11 nx8_11_2 nx8_11_9 nx8_11_10 rn8_11_0
  rw [hp1, hp2]
  dsimp only
  rw [nxt i l.length hi (by omega), Int.toNat_natCast, nmI_succ, rep_succ]
 ·unfold g8_11 go8_11
  rw [hp1]
  dsimp only
  rw [decide_eq_false (show ¬ (l.length : Int) < (l.length : Int) by omega)]
  rfl
theorem ends19 {p : pl8_19} {O : List (List AV)} (hp1 : p.2.1 = O) (hp2 : p.2.2.1 = O) (hO : O.length ≤ 1000) : Ends (g8_19 p) (n8_19 p) (0 : Int) (O.length : Int) := by
 refine Ends.count O.length (fun i : Nat => (i : Int)) (fun i hi => ⟨?_, ?_⟩) ?_
 ·unfold g8_19 go8_19
  rw [hp1, hp2, in2 hi, decide_eq_true (show (i : Int) < (O.length : Int) by omega)]
  simp
 ·exact nxt i O.length hi hO
 ·unfold g8_19 go8_19
  rw [hp1, decide_eq_false (show ¬ (O.length : Int) < (O.length : Int) by omega)]
  rfl
theorem smI_rep : ∀ n, smI (List.replicate n 0) = 0
 | 0 => rfl
 | n + 1 => by rw [List.replicate_succ]; simp only [smI, smI_rep n]; rfl
theorem pok_rep {n : Nat} (h1 : 1 ≤ n) (h8 : n ≤ 8) : Pok (List.replicate n 0) (List.replicate n 0) 0 :=
 ⟨by simp; omega, rfl, fun i hi => by simp at hi; simp [List.getD_eq_getElem?_getD, hi], smI_rep n⟩
theorem v24 {n : Nat} (h1 : 1 ≤ n) (h8 : n ≤ 8) : vev24_0 (n : Int) = encI (List.replicate n 0) ∧ vev24_1 (n : Int) = 0 ∧ vev24_2 (n : Int) = true := by
 refine ⟨?_, ?_, ?_⟩
 ·unfold vev24_0 encI
  rw [decide_eq_false (show ¬ (n : Int) < 1 by omega), decide_eq_false (show ¬ (n : Int) > 8 by omega), Int.toNat_natCast, List.map_replicate]
  rfl
 ·unfold vev24_1
  rw [decide_eq_false (show ¬ (n : Int) < 1 by omega), decide_eq_false (show ¬ (n : Int) > 8 by omega)]
  rfl
 ·unfold vev24_2 rev24_0
  rw [decide_eq_false (show ¬ (n : Int) < 1 by omega), decide_eq_false (show ¬ (n : Int) > 8 by omega), decide_eq_true (show (0 : Int) ≤ (n : Int) by omega), decide_eq_true (show (n : Int) ≤ 9223372036854775807 by omega)]
  first | rw [decide_eq_true (show (n : Int) * ((8 : Nat) : Int) ≤ 140737488355328 by omega)] | rw [decide_eq_true (show (n : Int) * 8 ≤ 140737488355328 by omega)]
  simp
theorem v17_of {order l us ss : List (List AV)} {d : Int} {ready : List (List AV)} {t k : Int} {es : List (List AV)} {U V : List Int} {K d' : Int} {r2 : List (List AV)} {t2 k2 : Int} {e2 O : List (List AV)} (h : fold39 5 3 order l us ss d ready t k es = some ((encI U, encI V, d'), (r2, t2, k2, e2), O)) (p : Pok U V K) (hl : l.length ≤ 1000000) :
  vev17_0 5 3 order l us ss d ready t k es = encI U ∧ vev17_1 5 3 order l us ss d ready t k es = encI V ∧ vev17_2 5 3 order l us ss d ready t k es = d' ∧ vev17_3 5 3 order l us ss d ready t k es = O ∧ vev17_4 5 3 order l us ss d ready t k es = r2 ∧ vev17_5 5 3 order l us ss d ready t k es = t2 ∧ vev17_6 5 3 order l us ss d ready t k es = k2 ∧ vev17_7 5 3 order l us ss d ready t k es = e2 ∧ vev17_8 5 3 order l us ss d ready t k es = true := by
 have hv : v17 5 3 order l us ss d ready t k es = ((encI U, encI V, d'), (r2, t2, k2, e2), O) := by unfold v17; rw [h]; rfl
 have g0 : vev17_0 5 3 order l us ss d ready t k es = encI U := by unfold vev17_0; rw [hv]
 have g1 : vev17_1 5 3 order l us ss d ready t k es = encI V := by unfold vev17_1; rw [hv]
 have g2 : vev17_2 5 3 order l us ss d ready t k es = d' := by unfold vev17_2; rw [hv]
 refine ⟨g0, g1, g2, by unfold vev17_3; rw [hv], by unfold vev17_4; rw [hv], by unfold vev17_5; rw [hv], by unfold vev17_6; rw [hv], by unfold vev17_7; rw [hv], ?_⟩
 unfold vev17_8
 rw [g0, g1, g2, h, c56g p, Nat.ble_eq_true_of_le hl]
 rfl
theorem main8 (w : Int) (costs l : List (List AV)) (hw : 0 ≤ w ∧ w ≤ 255) (hc : U8s costs) (hl : U8s l) : vev8_0 w costs l = true ∧ vev8_1 w costs l = true := by
 by_cases hb1 : (costs.length : Int) > 12
 ·unfold vev8_0 vev8_1
  rw [decide_eq_true hb1]
  exact ⟨rfl, rfl⟩
 by_cases hb2 : (l.length : Int) > 60
 ·unfold vev8_0 vev8_1
  rw [decide_eq_false hb1, decide_eq_true hb2]
  exact ⟨rfl, rfl⟩
 have hz : ∃ n : Nat, 1 ≤ n ∧ n ≤ 8 ∧ rev8_0 w costs l = (n : Int) := by
  refine ⟨(w % 8).toNat + 1, by omega, by omega, ?_⟩
  unfold rev8_0
  rw [Int.tmod_eq_emod_of_nonneg hw.1, wrapOf (w % 8) (by omega) (by omega), wrapOf _ (by omega) (by omega)]
  omega
 obtain ⟨n, h1, h8, r0⟩ := hz
 obtain ⟨z0, z1, z2⟩ := v24 h1 h8
 have y0 : vev24_0 1 = encI (List.replicate 1 0) := (v24 (n := 1) (by omega) (by omega)).1
 obtain ⟨S, I, hq, hlim, ht, hk, hbl, hwn, k0, k1, k2, k3⟩ := fill38 hc (by omega)
 have r1 : rev8_1 w costs l = encI (List.replicate n 0) := by unfold rev8_1; rw [r0, z0]
 have hlen : (encI (nmI n l l.length)).length = l.length := by rw [encI_len]; simp [nmI]
 obtain ⟨p11, hp11⟩ : ∃ p : pl8_11, (l, rev8_0 w costs l, vev24_0 (1 : Int), vev24_0 (1 : Int), (0 : Int), rev8_1 w costs l, rev8_1 w costs l, (0 : Int), (5 : Int), (3 : Int), vev38_0 costs, (0 : Int), (0 : Int), vev38_1 costs, vev38_2 costs, (5 : Int), (3 : Int), vev38_0 costs, (0 : Int), (0 : Int), vev38_1 costs, vev38_2 costs) = p := ⟨_, rfl⟩
 have f11 := (ends11 (p := p11) (l := l) (n := n) (by rw [← hp11]) (by rw [← hp11, ← r0]) h1 (by omega)).fin
 have r2 : rev8_2 w costs l = ((l.length : Int), encI (nmI n l l.length), encI (List.replicate l.length 0)) := by unfold rev8_2; rw [hp11]; exact f11.2
 have r3 : rev8_3 w costs l = encI (nmI n l l.length) := by unfold rev8_3; rw [r2]
 have r4 : rev8_4 w costs l = encI (List.replicate l.length 0) := by unfold rev8_4; rw [r2]
 have s11 : (spI g8_11 n8_11 y8_11 z8_11 d8_11 (p11, (0 : Int), [], [])).fst = true := by
  simp only [spI]
  rw [f11.2, f11.1]
  unfold y8_11 z8_11 xc8_11_0
  rw [← hp11]
  dsimp only
  rw [decide_eq_false (show ¬ (l.length : Int) < (l.length : Int) by omega)]
  rfl
 obtain ⟨S', U', V', U1, V1, d', O, hO, f1, f2, p1, hU, p2, hU1, g5, g6⟩ := run2 (nmI n l l.length) (List.replicate l.length 0) (by simp [nmI]) S I hq (List.replicate n 0) (List.replicate n 0) (List.replicate 1 0) (List.replicate 1 0) (by rw [hk]; exact pok_rep h1 h8) (by rw [hk]; exact pok_rep (by omega) (by omega)) (by omega) 0 (by omega) (by simp [nmI]; omega)
  (fun x hx => by
    simp only [nmI, List.mem_map, List.mem_range] at hx
    obtain ⟨j, hj, rfl⟩ := hx
    have := u8_at hl hj
    rw [List.length_replicate]
    exact tmod_in h1 _ (by rw [wrapOf _ (by omega) (by omega)]; omega))
  (fun x hx => by
    have := List.eq_of_mem_replicate hx
    subst this
    rfl)
 have hbl' := hO.bl
 have hnn := bl_nn hO.I
 rw [hq, hlim, ht, hk] at f1 f2
 obtain ⟨a0, a1, a2, a3, a4, a5, a6, a7, a8⟩ := v17_of f1 p1 (by rw [hlen]; omega)
 obtain ⟨b0, b1', b2', b3, b4, b5, b6, b7, b8⟩ := v17_of f2 p2 (by rw [encI_len, List.length_replicate]; omega)
 have hOl : O.length ≤ 60 := by
  have : (nmI n l l.length).length = l.length := by simp [nmI]
  omega
 have hsum : d' + (O.length : Int) = (l.length : Int) := by
  have : (nmI n l l.length).length = l.length := by simp [nmI]
  omega
 have r5 : rev8_5 w costs l = O := by unfold rev8_5; rw [k0, k1, k2, r3, r1]; exact a3
 have r7 : rev8_7 w costs l = O := by unfold rev8_7; rw [k0, k1, k2, r4, y0]; exact b3
 have r6 : rev8_6 w costs l = (O.length : Int) := by unfold rev8_6; rw [r5]
 have r8 : rev8_8 w costs l = encI U' := by unfold rev8_8; rw [k0, k1, k2, r3, r1]; exact a0
 have r9 : rev8_9 w costs l = encI V' := by unfold rev8_9; rw [k0, k1, k2, r3, r1]; exact a1
 have r10 : rev8_10 w costs l = d' := by unfold rev8_10; rw [k0, k1, k2, r3, r1]; exact a2
 have r11 : rev8_11 w costs l = encI U1 := by unfold rev8_11; rw [k0, k1, k2, r4, y0]; exact b0
 have r12 : rev8_12 w costs l = encI V1 := by unfold rev8_12; rw [k0, k1, k2, r4, y0]; exact b1'
 have r13 : rev8_13 w costs l = d' := by unfold rev8_13; rw [k0, k1, k2, r4, y0]; exact b2'
 have r14 : rev8_14 w costs l = S'.k := by unfold rev8_14; rw [k0, k1, k2, r3, r1]; exact a6
 have r15 : rev8_15 w costs l = R S'.h := by unfold rev8_15; rw [k0, k1, k2, r3, r1]; exact a4
 have r16 : rev8_16 w costs l = S'.t := by unfold rev8_16; rw [k0, k1, k2, r3, r1]; exact a5
 have r17' : rev8_17 w costs l = tabsF S'.fs := by unfold rev8_17; rw [k0, k1, k2, r3, r1]; exact a7
 obtain ⟨p19, hp19⟩ : ∃ p : pl8_19, (rev8_0 w costs l, rev8_5 w costs l, rev8_7 w costs l, rev8_8 w costs l, rev8_9 w costs l, rev8_10 w costs l, (5 : Int), (3 : Int), rev8_15 w costs l, rev8_16 w costs l, rev8_14 w costs l, vev38_1 costs, rev8_17 w costs l) = p := ⟨_, rfl⟩
 have f19 := (ends19 (p := p19) (O := O) (by rw [← hp19]; exact r5) (by rw [← hp19]; exact r7) (by omega)).fin
 have r18 : rev8_18 w costs l = (O.length : Int) := by unfold rev8_18; rw [hp19]; exact f19.2
 have x19 : xc8_19_0 (rev8_0 w costs l) (rev8_5 w costs l) (rev8_7 w costs l) (rev8_18 w costs l) (rev8_8 w costs l) (rev8_9 w costs l) (rev8_10 w costs l) (5 : Int) (3 : Int) (rev8_15 w costs l) (rev8_16 w costs l) (rev8_14 w costs l) (vev38_1 costs) (rev8_17 w costs l) = false := by
  rw [r18, r5]
  unfold xc8_19_0
  rw [decide_eq_false (show ¬ (O.length : Int) < (O.length : Int) by omega)]
  rfl
 have s19 : (spI g8_19 n8_19 y8_19 z8_19 d8_19 (p19, (0 : Int))).fst = true := by
  simp only [spI]
  rw [f19.2, f19.1]
  unfold z8_19 xc8_19_1
  rw [← hp19]
  dsimp only
  rw [r5, decide_eq_false (show ¬ (O.length : Int) < (O.length : Int) by omega)]
  simp
 obtain ⟨S2, U2, V2, d2, I2, c1, c2, c3, q2', c5, c6, c7, c8, e24⟩ := endsT24 700 0 S' U' V' d' (by omega) hO.I (hO.q.trans hq) p1 (by omega) g5 (by omega) (.inl (by have := hO.wn; omega))
 have hU' : (U'.length : Int) = (n : Int) := by rw [hU, List.length_replicate]
 rw [hU', hO.q, hO.lim, hO.ord, hq, hlim] at e24
 have f24 := e24.fin
 have r19 : rev8_19 w costs l = ((700 : Int), encI U2, encI V2, d2, R S2.h, S2.t, S2.k, tabsF S2.fs) := by
  unfold rev8_19
  rw [r0, r8, r9, r10, r14, r15, r16, r17', k1]
  exact f24.2
 have s24 : (spI g8_24 n8_24 y8_24 z8_24 d8_24 (((n : Int), (5 : Int), (3 : Int), ordsF S.fs), (0 : Int), encI U', encI V', d', R S'.h, S'.t, S'.k, tabsF S'.fs)).fst = true := by
  have g1 : stopsB (g8_24 ((n : Int), (5 : Int), (3 : Int), ordsF S.fs)) (n8_24 ((n : Int), (5 : Int), (3 : Int), ordsF S.fs)) ((0 : Int), encI U', encI V', d', R S'.h, S'.t, S'.k, tabsF S'.fs) = true := f24.1
  have g2 : finL (g8_24 ((n : Int), (5 : Int), (3 : Int), ordsF S.fs)) (n8_24 ((n : Int), (5 : Int), (3 : Int), ordsF S.fs)) ((0 : Int), encI U', encI V', d', R S'.h, S'.t, S'.k, tabsF S'.fs) = ((700 : Int), encI U2, encI V2, d2, R S2.h, S2.t, S2.k, tabsF S2.fs) := f24.2
  simp only [spI]
  rw [g1, g2]
  unfold y8_24 z8_24 xc8_24_0
  rfl
 have b34 := bl34 (q := S2.q) (t := S2.t) (k := S2.k) (rd := R S2.h) I2.len I2.one I2.gd
 rw [c1, c2, c3, hO.q, hO.lim, hO.ord, hq, hlim, idle_bl c6] at b34
 have t1 := c22g p1 (by omega) g5 (by omega)
 have t2 := c22g p2 (by omega) g5 (by omega)
 have t3 := c22g q2' (by have := bl_nn I2; omega) c7 (by omega)
 have t4 := c20g p1 (by omega) g5 (by omega)
 have hwr : IntKind.i64.wrap (d' + (O.length : Int)) = (l.length : Int) := by rw [hsum, wrapOf _ (by omega) (by omega)]
 have r20 : rev8_20 w costs l = S2.t := by unfold rev8_20; rw [r19]
 have r21 : rev8_21 w costs l = S2.k := by unfold rev8_21; rw [r19]
 have r22 : rev8_22 w costs l = tabsF S2.fs := by unfold rev8_22; rw [r19]
 have r23 : rev8_23 w costs l = R S2.h := by unfold rev8_23; rw [r19]
 have r24 : rev8_24 w costs l = encI U2 := by unfold rev8_24; rw [r19]
 have r25 : rev8_25 w costs l = encI V2 := by unfold rev8_25; rw [r19]
 have r26 : rev8_26 w costs l = d2 := by unfold rev8_26; rw [r19]
 have m8 : vev17_8 (5 : Int) (3 : Int) (vev38_1 costs) (rev8_3 w costs l) (rev8_1 w costs l) (rev8_1 w costs l) (0 : Int) (vev38_0 costs) (0 : Int) (0 : Int) (vev38_2 costs) = true := by rw [k0, k1, k2, r3, r1]; exact a8
 have m9 : vev17_8 (5 : Int) (3 : Int) (vev38_1 costs) (rev8_4 w costs l) (vev24_0 (1 : Int)) (vev24_0 (1 : Int)) (0 : Int) (vev38_0 costs) (0 : Int) (0 : Int) (vev38_2 costs) = true := by rw [k0, k1, k2, r4, y0]; exact b8
 constructor
 ·unfold vev8_0
  rw [x19, decide_eq_false hb1, decide_eq_false hb2]
  simp only [r6, r7, r8, r9, r10, r11, r12, r13, r14, r20, r21, r22, r23, r24, r25, r26, r0, z1, k1, t1.1, t2.1, t3.1, t4.1, b34.1, hwr]
  simp
 ·unfold vev8_1
  rw [x19, hp11, s11, hp19, s19, m8, m9, k3, decide_eq_false hb1, decide_eq_false hb2]
  simp only [r6, r7, r8, r9, r10, r11, r12, r13, r14, r15, r16, r17', r20, r21, r22, r23, r24, r25, r26, r0, z1, z2, k1, t1.1, t2.1, t3.1, t4.1, t1.2, t2.2, t3.2, t4.2, b34.1, b34.2, s24, hwr]
  simp
theorem law8 (w : Int) (costs l : List (List AV)) (hw : (Lit.int .u8 w).wf = true) (hc : ∀ x ∈ costs, okKL [.int .u8] x) (hl : ∀ x ∈ l, okKL [.int .u8] x) : FnOK Try.prog 8 [.int .u8 w, .sl .imm [.int .u8] costs, .sl .imm [.int .u8] l] [] (.bool true) [] := by
 have hwb : 0 ≤ w ∧ w ≤ 255 := by
  have h2 : (decide (0 ≤ w) && decide (w ≤ 255)) = true := hw
  simpa using h2
 have x := main8 w costs l hwb (u8_of hc) (u8_of hl)
 have h := ev8 w costs l
 rw [x.1, x.2, cond_true] at h
 exact (fn_ok mixed plain (gk_ok k38_ok 30) Try.func8 loops8 h).2
end Go.Proofs.Gv
