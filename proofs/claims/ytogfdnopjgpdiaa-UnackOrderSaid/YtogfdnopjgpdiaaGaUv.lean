/-
The values of a setting, as the program goes over them (a range over a function).
-/
import Derived.RangeFuncNested
import Derived.RangeFuncBound
import Derived.RangeFuncCalls
import Derived.RangeFuncLeaves
import Derived.Shelf.Abstract
import Derived.Shelf.RegionOpen
import Derived.WalkKit
import Derived.OwnWalkIn
import Derived.TacticsInMore
import Derived.LoopNIn
import Derived.LoopIn
import Derived.Test.YtogfdnopjgpdiaaProg
namespace Go.Proofs.Gv
open Go.RowKit Go.Shelf

attribute [local go_sem] Oper.semAt_some

/-- What a round keeps: all that lay below n1, but for the one box. -/
def Kp (n0 n1 : Nat) (W W' : World) : Prop := W.heap.size ≤ W'.heap.size ∧ ∀ b, b < n1 → b ≠ n0 → W'.heap[b]? = W.heap[b]?
theorem Kp.refl (n0 n1 : Nat) (W : World) : Kp n0 n1 W W := ⟨Nat.le_refl _, fun _ _ _ => rfl⟩
theorem Kp.trans {n0 n1 : Nat} {A B C : World} (h : Kp n0 n1 A B) (k : Kp n0 n1 B C) : Kp n0 n1 A C := ⟨Nat.le_trans h.1 k.1, fun b h1 h2 => (k.2 b h1 h2).trans (h.2 b h1 h2)⟩
theorem Kp.cell {n0 n1 : Nat} {A B : World} (h : Kp n0 n1 A B) {b o : Nat} (h1 : b < n1) (h2 : b ≠ n0) : B.cell? ⟨b, o, none⟩ = A.cell? ⟨b, o, none⟩ :=
  World.cell?_of_block (w := A) (a := ⟨b, o, none⟩) (h.2 b h1 h2)

theorem Kp.al {n0 n1 : Nat} {A : World} (h : n1 ≤ A.heap.size) (o : Obj) : Kp n0 n1 A (A.alloc o) := ⟨by simp, fun b h1 _ => Below.heap_alloc _ _ _ (by omega)⟩
theorem Kp.put {n0 n1 : Nat} {W : World} {l : Nat} (h : n1 ≤ l) (o' : Obj) : Kp n0 n1 W (W.putObj l o') := ⟨(grownBy_putObj' W l o').size, fun b h1 _ => by
  by_cases hb : b < W.heap.size
  · exact (grownBy_putObj' W l o').block b hb (fun e => by cases e; omega)
  · rw [Array.getElem?_eq_none (by have := (grownBy_putObj' W l o').size; simp [World.putObj]; omega), Array.getElem?_eq_none (by omega)]⟩
theorem Kp.set (n0 n1 : Nat) (W : World) (u : Value) : Kp n0 n1 W (W.setCell ⟨n0, 0, none⟩ u) := ⟨by simp [World.setCell], fun b _ h => Below.heap_setCell _ _ _ _ (by simpa using h)⟩
theorem cell_al {W : World} {a : Addr} {v : Value} (o : Obj) (h : W.cell? a = some v) : (W.alloc o).cell? a = some v := cell_kept h (World.grownBy_alloc W o none) (fun r e => by cases e)
def valP (id : Int) (ps : List (Int × Int)) : List Int := ps.filterMap fun p => if p.1 = id then some (wrap64 p.2) else none
def valQ (id : Int) (q : List (List (Int × Int) × Int)) : List Int := q.flatMap fun x => valP id x.1

/-- Pairs, in blocks below n0. -/
def PairsAt (n0 : Nat) (W : World) (sv : Value) (ps : List (Int × Int)) : Prop :=
  (∃ A c, sv = .slice A 0 c ∧ ps = []) ∨ ∃ b o c, sv = .slice (some ⟨b, o, none⟩) ps.length c ∧ b < n0 ∧ ps.length ≤ c ∧ c ≤ maxLen ∧ ∀ k x, ps[k]? = some x → W.cell? ⟨b, o + k * 2, none⟩ = some (.int .u16 x.1) ∧ W.cell? ⟨b, o + k * 2 + 1, none⟩ = some (.int .u32 x.2)
def ItemsAt (n0 : Nat) (W : World) (sv : Value) (q : List (List (Int × Int) × Int)) : Prop :=
  (∃ A c, sv = .slice A 0 c ∧ q = []) ∨ ∃ b o c, sv = .slice (some ⟨b, o, none⟩) q.length c ∧ b < n0 ∧ q.length ≤ c ∧ c ≤ maxLen ∧ ∀ k x, q[k]? = some x → (∃ pv, W.cell? ⟨b, o + k * 2, none⟩ = some pv ∧ PairsAt n0 W pv x.1) ∧ W.cell? ⟨b, o + k * 2 + 1, none⟩ = some (.int .i64 x.2)

theorem PairsAt.kp {n0 n1 m : Nat} {A B : World} (hn : m ≤ n1) (hm : m ≤ n0) (h : Kp n0 n1 A B) {sv : Value} {ps : List (Int × Int)} : PairsAt m A sv ps → PairsAt m B sv ps
  | .inl e => .inl e
  | .inr ⟨b, o, c, e, hb, hl, hc, hx⟩ => .inr ⟨b, o, c, e, hb, hl, hc, fun k x hk => by
      rw [h.cell (by omega) (by omega), h.cell (by omega) (by omega)]; exact hx k x hk⟩
theorem ItemsAt.kp {n0 n1 m : Nat} {A B : World} (hn : m ≤ n1) (hm : m ≤ n0) (h : Kp n0 n1 A B) {sv : Value} {q : List (List (Int × Int) × Int)} : ItemsAt m A sv q → ItemsAt m B sv q
  | .inl e => .inl e
  | .inr ⟨b, o, c, e, hb, hl, hc, hx⟩ => .inr ⟨b, o, c, e, hb, hl, hc, fun k x hk => by
      rw [h.cell (by omega) (by omega), h.cell (by omega) (by omega)]
      obtain ⟨⟨pv, h1, h2⟩, h3⟩ := hx k x hk
      exact ⟨⟨pv, h1, h2.kp hn hm h⟩, h3⟩⟩

set_option maxRecDepth 100000 in
set_option maxHeartbeats 2000000 in
theorem vals1_in (F : Fence) (n : Nat) (h42 : F.fn 42) (hro : F.round = none) (hn : 1 ≤ n) (l Bq Bi m n0 n1 b off len cap : Nat) (id : Int) (q : List (List (Int × Int) × Int)) (hm : m ≤ n0) (hm1 : n0 < n1) (hBi : n0 < Bi ∧ Bi < n1) (J Jx : List Int → World → Prop)
    (W : World) (hW1 : n1 ≤ W.heap.size) (hJ : AbidesFrom W.heap.size J) (hJx : AbidesFrom W.heap.size Jx)
    (hY : ∀ pre x W1, J pre W1 → pre.length < (valQ id q).length → YieldAt F (n - 1) Try.prog l #[.int .i64 x] W1 fun e W' =>
      (e = .returned (.bool true) ∧ J (pre ++ [x]) W' ∧ Kp n0 n1 W1 W') ∨ (e = .returned (.bool false) ∧ Jx (pre ++ [x]) W'))
    (hb : b < m) (hlen : q.length = len) (hcap : len ≤ cap) (hcm : cap ≤ maxLen)
    (hBq : W.cell? ⟨Bq, 0, none⟩ = some (.slice (some ⟨b, off, none⟩) len cap)) (hBid : W.cell? ⟨Bi, 0, none⟩ = some (.int .u16 id))
    (hx : ∀ k x, q[k]? = some x → (∃ pv, W.cell? ⟨b, off + k * 2, none⟩ = some pv ∧ PairsAt m W pv x.1) ∧ W.cell? ⟨b, off + k * 2 + 1, none⟩ = some (.int .i64 x.2)) (h0 : J [] W) :
    CallsIn F n Try.prog 42 #[.func (.yield l) #[] #[], .pointer (some ⟨Bq, 0, none⟩), .pointer (some ⟨Bi, 0, none⟩)] W fun e W' => (∃ v, e = .returned v) ∧
      ((∃ ys, ys = valQ id q ∧ J ys W') ∨ (∃ pre, True ∧ Jx pre W')) := by
  refine callsIn_of_wp Try.func42 rfl h42 ?_ hro
  simp only [Try.ntmps42, List.size_toArray, List.length_cons, List.length_nil, Nat.reduceAdd, Nat.reduceSub, Array.replicate_succ, Array.replicate_zero, List.push_toArray, List.append_toArray, List.nil_append, List.cons_append]
  gi_wp2
  have hmx : maxLen = 9223372036854775807 := rfl
  gi_loopw [10] (fun i wr => ∃ (k : Nat) (pre : List Int), i = .int .i64 k ∧ k ≤ len ∧ J pre wr ∧ valQ id q = pre ++ valQ id (q.drop k) ∧ Kp n0 n1 W wr)
    (fun i _ => len - (intOf i).toNat)
  case atStart => exact ⟨0, [], rfl, Nat.zero_le _, h0, by simp, Kp.refl _ _ _⟩
  case round =>
    obtain ⟨k, pre, rfl, hk, hJs, hv, hkp⟩ := hrel
    by_cases hlt : k < len
    · obtain ⟨⟨pv, hc0, hp⟩, hc1⟩ := hx k q[k] (List.getElem?_eq_getElem (by omega))
      rw [← hkp.cell (by omega) (by omega)] at hc0 hc1
      have hv1 : valQ id (q.drop k) = valP id (q[k]).1 ++ valQ id (q.drop (k + 1)) := by rw [List.drop_eq_getElem_cons (by omega)]; rfl
      have hJw := fun o => hJ _ _ _ none hJs (World.grownBy_alloc wr o none) (fun r e => by cases e)
      have hKw : ∀ o, Kp n0 n1 W (wr.alloc o) := fun o => hkp.trans (Kp.al (Nat.le_trans hW1 hkp.1) o)
      rcases hp with ⟨A, c, rfl, hps⟩ | ⟨b2, o2, c2, rfl, hb2, hl2, hc2, hx2⟩
      · rw [hps] at hv1
        gi_wp2
        gi_loopw [17] (fun i wr2 => i = .int .i64 0 ∧ J pre wr2 ∧ Kp n0 n1 W wr2) (fun i _ => 0)
        case atStart => exact ⟨rfl, hJw _, hKw _⟩
        case round =>
          obtain ⟨rfl, hJ2, hkp2⟩ := hrel
          gi_wp2
          go_roundw
          case rel => exact ⟨k + 1, pre, by simp, by omega, hJ2, by rw [hv, hv1]; simp [valP], hkp2⟩
          case measure => simp [intOf]; omega
      · gi_wp2
        gi_loopw [17] (fun i wr2 => ∃ (k2 : Nat) (pre2 : List Int), i = .int .i64 k2 ∧ k2 ≤ (q[k]).1.length ∧ J pre2 wr2 ∧ valQ id q = pre2 ++ (valP id ((q[k]).1.drop k2) ++ valQ id (q.drop (k + 1))) ∧ Kp n0 n1 W wr2)
          (fun i _ => (q[k]).1.length - (intOf i).toNat)
        case atStart => exact ⟨0, pre, rfl, Nat.zero_le _, hJw _, by rw [hv, hv1]; rfl, hKw _⟩
        case round =>
          obtain ⟨k2, pre2, rfl, hk2, hJ2, hv2, hkp2⟩ := hrel
          by_cases hlt2 : k2 < (q[k]).1.length
          · obtain ⟨d0, d1⟩ := hx2 k2 _ (List.getElem?_eq_getElem hlt2)
            have hpp : (q[k]).1.drop k2 = (q[k]).1[k2] :: (q[k]).1.drop (k2 + 1) ∨ False := .inl (List.drop_eq_getElem_cons hlt2)
            generalize (q[k]).1[k2] = p at d0 d1 hpp
            obtain ⟨pa, pv⟩ := p
            dsimp only at d0 d1
            rw [← hkp2.cell (by omega) (by omega)] at d0 d1
            have hBi2 : wr.cell? ⟨Bi, 0, none⟩ = some (.int .u16 id) := by rw [hkp2.cell (by omega) (by omega)]; exact hBid
            have hBi3 := cell_al (.cells #[.int .u16 pa, .int .u32 pv] 60) hBi2
            have hJ3 := hJ _ _ _ none hJ2 (World.grownBy_alloc wr (.cells #[.int .u16 pa, .int .u32 pv] 60) none) (fun r e => by cases e)
            have hK3 : Kp n0 n1 W (wr.alloc (.cells #[.int .u16 pa, .int .u32 pv] 60)) := hkp2.trans (Kp.al (Nat.le_trans hW1 hkp2.1) _)
            by_cases hid : pa = id
            · subst hid
              have hv3 : valQ pa q = pre2 ++ (wrap64 pv :: (valP pa ((q[k]).1.drop (k2 + 1)) ++ valQ pa (q.drop (k + 1)))) := by
                rw [hv2, hpp.elim (fun h => h) False.elim]; simp [valP]
              obtain ⟨fn, tmps, assign, body, hy, hR⟩ := hY _ (wrap64 pv) _ hJ3 (by rw [hv3]; simp)
              gi_wp2
              refine hR.mono ?_
              rintro e W3 (⟨rfl, hJ4, hk4⟩ | ⟨rfl, hJx4⟩)
              · gi_wp2
                go_roundw
                case rel => exact ⟨k2 + 1, pre2 ++ [wrap64 pv], by simp, by omega, hJ4, by rw [hv3]; simp, hK3.trans hk4⟩
                case measure => simp [intOf]; omega
              · gi_wp2
                refine bodyPost_ret (results_none rfl _ _ _) rfl ?_
                exact ⟨⟨_, rfl⟩, .inr ⟨_, trivial, hJx4⟩⟩
            · have hv3 : valQ id q = pre2 ++ (valP id ((q[k]).1.drop (k2 + 1)) ++ valQ id (q.drop (k + 1))) := by
                rw [hv2, hpp.elim (fun h => h) False.elim]; simp [valP, hid]
              have hne : (pa == id) = false := by simpa using hid
              gi_wp2
              refine ⟨fun _ h => (by cases h), ?_⟩
              gi_wp2
              go_roundw
              case rel => exact ⟨k2 + 1, pre2, by simp, by omega, hJ3, hv3, hK3⟩
              case measure => simp [intOf]; omega
          · have hk3 : k2 = (q[k]).1.length := by omega
            have hv3 : valQ id q = pre2 ++ valQ id (q.drop (k + 1)) := by rw [hv2, List.drop_of_length_le (by omega)]; simp [valP]
            gi_wp2
            go_roundw
            case rel => exact ⟨k + 1, pre2, by simp, by omega, hJ2, hv3, hkp2⟩
            case measure => simp [intOf]; omega
    · obtain rfl : k = len := by omega
      gi_wp2
      go_end0
      exact ⟨⟨_, rfl⟩, .inl ⟨_, by rw [hv, List.drop_of_length_le (by omega)]; simp [valQ], hJs⟩⟩

set_option maxRecDepth 100000 in
set_option maxHeartbeats 1000000 in
/-- .. at no items. -/
theorem vals1_nil (F : Fence) (n : Nat) (h42 : F.fn 42) (hro : F.round = none) (l Bq Bi : Nat) (A : Option Addr) (c : Nat) (J : List Int → World → Prop) (W : World)
    (hBq : W.cell? ⟨Bq, 0, none⟩ = some (.slice A 0 c)) (h0 : J [] W) :
    CallsIn F n Try.prog 42 #[.func (.yield l) #[] #[], .pointer (some ⟨Bq, 0, none⟩), .pointer (some ⟨Bi, 0, none⟩)] W fun e W' => (∃ v, e = .returned v) ∧ J [] W' := by
  refine callsIn_of_wp Try.func42 rfl h42 ?_ hro
  simp only [Try.ntmps42, List.size_toArray, List.length_cons, List.length_nil, Nat.reduceAdd, Nat.reduceSub, Array.replicate_succ, Array.replicate_zero, List.push_toArray, List.append_toArray, List.nil_append, List.cons_append]
  gi_wp2
  gi_loopw [10] (fun i wr => i = .int .i64 0 ∧ J [] wr) (fun _ _ => 0)
  case atStart => exact ⟨rfl, h0⟩
  case round =>
    obtain ⟨rfl, hJs⟩ := hrel
    gi_wp2
    go_end0
    exact ⟨⟨_, rfl⟩, hJs⟩

set_option maxHeartbeats 1000000 in
/-- The queue and the setting are boxed; the function value captures the boxes. -/
theorem values_in (F : Fence) (n : Nat) (h35 : F.fn 35) (hro : F.round = none) (a : Option Addr) (len cap : Nat) (id : Int) (w : World) :
    CallsIn F n Try.prog 35 #[.slice a len cap, .int .u16 id] w fun e w' => e = .returned (.func (.func 42) #[] #[.pointer (some ⟨w.heap.size, 0, none⟩), .pointer (some ⟨w.heap.size + 1, 0, none⟩)]) ∧ w' = (w.alloc (.cells #[.slice a len cap] 27)).alloc (.cells #[.int .u16 id] 43) := by
  refine callsIn_of_wp Try.func35 rfl h35 ?_ hro
  simp only [Try.ntmps35, List.size_toArray, List.length_cons, List.length_nil, Nat.reduceAdd, Nat.reduceSub, Array.replicate_succ, Array.replicate_zero, List.push_toArray, List.append_toArray, List.nil_append, List.cons_append]
  gi_wp2
  go_ret
  exact ⟨rfl, rfl⟩

theorem vals_stops (F : Fence) (n : Nat) (h42 : F.fn 42) (hro : F.round = none) (hn : 1 ≤ n) (Bq Bi m n0 n1 : Nat) (sv : Value) (id : Int) (q : List (List (Int × Int) × Int)) (hm : m ≤ n0) (hm1 : n0 < n1) (hBq : Bq < n1) (hBi : n0 < Bi ∧ Bi < n1) (w : World) (hw : n1 = w.heap.size)
    (hcq : w.cell? ⟨Bq, 0, none⟩ = some sv) (hci : w.cell? ⟨Bi, 0, none⟩ = some (.int .u16 id)) (hI : ItemsAt m w sv q) :
    SeqStopsK F n Try.prog 42 #[.pointer (some ⟨Bq, 0, none⟩), .pointer (some ⟨Bi, 0, none⟩)] (fun x : Int => #[Value.int .i64 x]) (Kp n0 n1) (fun ys => ys = valQ id q) (fun _ => True) (valQ id q).length w := fun l J Jx W hW hJ hJx hY h0 => by
  have hcq' := (hW.cell (p := ⟨Bq, 0, none⟩) (by simp; omega)).trans hcq
  have hci' := (hW.cell (p := ⟨Bi, 0, none⟩) (by simp; omega)).trans hci
  have hKW : Kp n0 n1 w W := ⟨hW.size, fun b h1 _ => hW.block b (by omega)⟩
  have hI' := hI.kp (by omega) hm hKW
  rcases hI' with ⟨A, c, rfl, rfl⟩ | ⟨b, o, c, rfl, hb, hl, hc, hx⟩
  · exact (vals1_nil F n h42 hro l Bq Bi A c J W hcq' h0).mono fun e W' ⟨he, hj⟩ => ⟨he, .inl ⟨_, rfl, hj⟩⟩
  · exact vals1_in F n h42 hro hn l Bq Bi m n0 n1 b o q.length c id q hm hm1 hBi J Jx W (by have := hW.size; omega) hJ hJx hY hb rfl hl hc hcq' hci' hx h0

set_option maxRecDepth 100000 in
set_option maxHeartbeats 2000000 in
theorem least_in (F : Fence) (n : Nat) (h21 : F.fn 21) (h35 : F.fn 35) (h42 : F.fn 42) (hro : F.round = none) (hn : 3 ≤ n) (a : Option Addr) (len cap : Nat) (id held : Int) (q : List (List (Int × Int) × Int)) (w : World) (hI : ItemsAt w.heap.size w (.slice a len cap) q) :
    CallsIn F n Try.prog 21 #[.slice a len cap, .int .u16 id, .int .i64 held] w fun e W' => e = .returned (.int .i64 ((valQ id q).foldl (fun a b => min a b) held)) ∧ Below w.heap.size w W' := by
  have h1 : 1 ≤ n := by omega
  refine callsIn_of_wp_marks Try.func21 rfl h21 ?_ hro
  simp only [Try.ntmps21, List.size_toArray, List.length_cons, List.length_nil, Nat.reduceAdd, Nat.reduceSub, Array.replicate_succ, Array.replicate_zero, List.push_toArray, List.append_toArray, List.nil_append, List.cons_append]
  gi_wp2_with (gi_at_call 35; refine (values_in F (n - 1) h35 hro _ _ _ _ _).mono ?_; rintro e w' ⟨rfl, rfl⟩)
  have bS := Boxed.new w 3 (.int .i64 held)
  have bQ := Boxed.new (w.alloc (.cells #[.int .i64 held] 3)) 27 (.slice a len cap)
  have bI := Boxed.new ((w.alloc (.cells #[.int .i64 held] 3)).alloc (.cells #[.slice a len cap] 27)) 43 (.int .u16 id)
  simp only [World.size_alloc] at bQ bI
  have hB0 : Below w.heap.size w (((w.alloc (.cells #[.int .i64 held] 3)).alloc (.cells #[.slice a len cap] 27)).alloc (.cells #[.int .u16 id] 43)) := (((Below.refl _ w).alloc (Nat.le_refl _) _).alloc (by simp) _).alloc (by simp; omega) _
  have hI0 : ItemsAt w.heap.size (((w.alloc (.cells #[.int .i64 held] 3)).alloc (.cells #[.slice a len cap] 27)).alloc (.cells #[.int .u16 id] 43)) (.slice a len cap) q := hI.kp (n0 := w.heap.size) (n1 := w.heap.size) (Nat.le_refl _) (Nat.le_refl _) ⟨hB0.size, fun b h1 _ => hB0.block b h1⟩
  refine wpIn_rangeFunc_ownF hro h1 (gf := 42) (lb := #[.pointer (some ⟨w.heap.size + 1, 0, none⟩), .pointer (some ⟨w.heap.size + 1 + 1, 0, none⟩)]) rfl h42 (enters_of Try.func42 (by kernel_rfl) rfl)
    (vals_stops F (n - 1) h42 hro (by omega) (w.heap.size + 1) (w.heap.size + 1 + 1) w.heap.size w.heap.size (w.heap.size + 3) _ id q (Nat.le_refl _) (by omega) (by omega) (by omega) _ (by simp) (bQ.alloc _).cell bI.cell hI0) Kp.trans (fun W l o o' hl h _ _ => Kp.put (by simp at hl; omega) o') (Below.refl _ _) (fun _ => rfl)
    (fun pre W => (W.cell? ⟨w.heap.size, 0, none⟩ = some (.int .i64 (pre.foldl (fun a b => min a b) held)) ∧ W.frozen? ⟨w.heap.size, 0, none⟩ = false) ∧ Below w.heap.size w W)
    (fun _ _ _ => False)
    (OwnFrom.and (Own.from (fun s A B row hs hg hr => ⟨cell_kept hs.1 hg hr, (frozen_kept hs.1 hg hr).trans hs.2⟩) _) (ownFrom_below (Nat.le_refl _) (by simp; omega)))
    (fun _ _ _ _ _ hs _ _ => hs)
    ⟨⟨((bS.alloc _).alloc _).cell, ((bS.alloc _).alloc _).frozen⟩, hB0⟩
    (fun x => { tmps := #[.slice a len cap, .int .u16 id, .int .i64 held, undef, undef, .pointer (some ⟨w.heap.size, 0, none⟩), .int .i64 0, .int .i64 x, .slice a len cap, .int .u16 id, .func (.func 42) #[] #[.pointer (some ⟨w.heap.size + 1, 0, none⟩), .pointer (some ⟨w.heap.size + 1 + 1, 0, none⟩)], .int .i64 x, undef, undef, undef, undef], defers := [] }) ?assign ?body ?done ?stop
  case assign =>
    intro l x W K hK
    gi_wp2
    exact hK
  case body =>
    rintro l pre x W ⟨⟨hc, hf⟩, hB⟩ _
    gi_wp2
    all_goals refine ⟨KeepsOthers.setCell _ _ _, Kp.set _ _ _ _, ⟨?_, by rw [World.frozen?_setCell]; exact hf⟩, hB.setCell (p := ⟨w.heap.size, 0, none⟩) (Nat.le_refl _) _⟩
    all_goals (rw [World.cell?_setCell_same' _ _ _ (by rw [hc]; rfl), List.foldl_append]; congr 2; simp only [List.foldl_cons, List.foldl_nil]; omega)
  case done =>
    rintro D ys W hD rfl ⟨⟨hc, _⟩, hB⟩ hK
    gi_wp2
    refine ⟨by simp, .inl ⟨_, _, rfl, run_takeDeferred hK, ?_⟩⟩
    exact ⟨_, results_tmp rfl _ _ _, rfl, hB.trans (belowK_b (w := w) (Nat.le_refl _) W D _ _ (by simp at hD; omega) hK rfl rfl)⟩
  case stop =>
    rintro D c pre W _ _ h _
    exact h.elim
set_option maxRecDepth 100000 in
set_option maxHeartbeats 2000000 in
theorem greatest_in (F : Fence) (n : Nat) (h23 : F.fn 23) (h35 : F.fn 35) (h42 : F.fn 42) (hro : F.round = none) (hn : 3 ≤ n) (a : Option Addr) (len cap : Nat) (id held : Int) (q : List (List (Int × Int) × Int)) (w : World) (hI : ItemsAt w.heap.size w (.slice a len cap) q) :
    CallsIn F n Try.prog 23 #[.slice a len cap, .int .u16 id, .int .i64 held] w fun e W' => e = .returned (.int .i64 ((valQ id q).foldl (fun a b => max a b) held)) ∧ Below w.heap.size w W' := by
  have h1 : 1 ≤ n := by omega
  refine callsIn_of_wp_marks Try.func23 rfl h23 ?_ hro
  simp only [Try.ntmps23, List.size_toArray, List.length_cons, List.length_nil, Nat.reduceAdd, Nat.reduceSub, Array.replicate_succ, Array.replicate_zero, List.push_toArray, List.append_toArray, List.nil_append, List.cons_append]
  gi_wp2_with (gi_at_call 35; refine (values_in F (n - 1) h35 hro _ _ _ _ _).mono ?_; rintro e w' ⟨rfl, rfl⟩)
  have bS := Boxed.new w 3 (.int .i64 held)
  have bQ := Boxed.new (w.alloc (.cells #[.int .i64 held] 3)) 27 (.slice a len cap)
  have bI := Boxed.new ((w.alloc (.cells #[.int .i64 held] 3)).alloc (.cells #[.slice a len cap] 27)) 43 (.int .u16 id)
  simp only [World.size_alloc] at bQ bI
  have hB0 : Below w.heap.size w (((w.alloc (.cells #[.int .i64 held] 3)).alloc (.cells #[.slice a len cap] 27)).alloc (.cells #[.int .u16 id] 43)) := (((Below.refl _ w).alloc (Nat.le_refl _) _).alloc (by simp) _).alloc (by simp; omega) _
  have hI0 : ItemsAt w.heap.size (((w.alloc (.cells #[.int .i64 held] 3)).alloc (.cells #[.slice a len cap] 27)).alloc (.cells #[.int .u16 id] 43)) (.slice a len cap) q := hI.kp (n0 := w.heap.size) (n1 := w.heap.size) (Nat.le_refl _) (Nat.le_refl _) ⟨hB0.size, fun b h1 _ => hB0.block b h1⟩
  refine wpIn_rangeFunc_ownF hro h1 (gf := 42) (lb := #[.pointer (some ⟨w.heap.size + 1, 0, none⟩), .pointer (some ⟨w.heap.size + 1 + 1, 0, none⟩)]) rfl h42 (enters_of Try.func42 (by kernel_rfl) rfl)
    (vals_stops F (n - 1) h42 hro (by omega) (w.heap.size + 1) (w.heap.size + 1 + 1) w.heap.size w.heap.size (w.heap.size + 3) _ id q (Nat.le_refl _) (by omega) (by omega) (by omega) _ (by simp) (bQ.alloc _).cell bI.cell hI0) Kp.trans (fun W l o o' hl h _ _ => Kp.put (by simp at hl; omega) o') (Below.refl _ _) (fun _ => rfl)
    (fun pre W => (W.cell? ⟨w.heap.size, 0, none⟩ = some (.int .i64 (pre.foldl (fun a b => max a b) held)) ∧ W.frozen? ⟨w.heap.size, 0, none⟩ = false) ∧ Below w.heap.size w W)
    (fun _ _ _ => False)
    (OwnFrom.and (Own.from (fun s A B row hs hg hr => ⟨cell_kept hs.1 hg hr, (frozen_kept hs.1 hg hr).trans hs.2⟩) _) (ownFrom_below (Nat.le_refl _) (by simp; omega)))
    (fun _ _ _ _ _ hs _ _ => hs)
    ⟨⟨((bS.alloc _).alloc _).cell, ((bS.alloc _).alloc _).frozen⟩, hB0⟩
    (fun x => { tmps := #[.slice a len cap, .int .u16 id, .int .i64 held, undef, undef, .pointer (some ⟨w.heap.size, 0, none⟩), .int .i64 0, .int .i64 x, .slice a len cap, .int .u16 id, .func (.func 42) #[] #[.pointer (some ⟨w.heap.size + 1, 0, none⟩), .pointer (some ⟨w.heap.size + 1 + 1, 0, none⟩)], .int .i64 x, undef, undef, undef, undef], defers := [] }) ?assign ?body ?done ?stop
  case assign =>
    intro l x W K hK
    gi_wp2
    exact hK
  case body =>
    rintro l pre x W ⟨⟨hc, hf⟩, hB⟩ _
    gi_wp2
    all_goals refine ⟨KeepsOthers.setCell _ _ _, Kp.set _ _ _ _, ⟨?_, by rw [World.frozen?_setCell]; exact hf⟩, hB.setCell (p := ⟨w.heap.size, 0, none⟩) (Nat.le_refl _) _⟩
    all_goals (rw [World.cell?_setCell_same' _ _ _ (by rw [hc]; rfl), List.foldl_append]; congr 2; simp only [List.foldl_cons, List.foldl_nil]; omega)
  case done =>
    rintro D ys W hD rfl ⟨⟨hc, _⟩, hB⟩ hK
    gi_wp2
    refine ⟨by simp, .inl ⟨_, _, rfl, run_takeDeferred hK, ?_⟩⟩
    exact ⟨_, results_tmp rfl _ _ _, rfl, hB.trans (belowK_b (w := w) (Nat.le_refl _) W D _ _ (by simp at hD; omega) hK rfl rfl)⟩
  case stop =>
    rintro D c pre W _ _ h _
    exact h.elim
end Go.Proofs.Gv
