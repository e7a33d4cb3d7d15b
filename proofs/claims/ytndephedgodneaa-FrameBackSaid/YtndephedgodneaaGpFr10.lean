/-
FrameBack: what a payload is made of, as bytes; it is read as what it was made of.
-/
import Derived.Test.YtndephedgodneaaGpFr9
namespace Go.Proofs.Gv
open Go.Proofs
set_option linter.unusedVariables false
/-- A byte. -/
def ub (x : Int) : UInt8 := UInt8.ofNat x.toNat
theorem ub_val {x : Int} (h : 0 ≤ x ∧ x ≤ 255) : ((ub x).toNat : Int) = x := by
  unfold ub
  rw [UInt8.toNat_ofNat']
  omega
def u4 (x : Int) : List UInt8 := [ub (x / 16777216 % 256), ub (x / 65536 % 256), ub (x / 256 % 256), ub (x / 1 % 256)]
def u2 (x : Int) : List UInt8 := [ub (x / 256 % 256), ub (x / 1 % 256)]
theorem map_n4 (x : Int) : (n4 x).map byteOf = u4 x := rfl
theorem num4 {a b c e : UInt8} {r : List UInt8} : numA (a :: b :: c :: e :: r) 4 = 256 * (256 * (256 * (256 * 0 + (a.toNat : Int)) + (b.toNat : Int)) + (c.toNat : Int)) + (e.toNat : Int) := rfl
theorem num2 {a b : UInt8} {r : List UInt8} : numA (a :: b :: r) 2 = 256 * (256 * 0 + (a.toNat : Int)) + (b.toNat : Int) := rfl
theorem num_u4 {x : Int} (h : 0 ≤ x ∧ x ≤ 4294967295) (r : List UInt8) : numA (u4 x ++ r) 4 = x := by
  unfold u4
  simp only [List.cons_append, List.nil_append]
  rw [num4, ub_val (by omega), ub_val (by omega), ub_val (by omega), ub_val (by omega)]
  omega
theorem take_u4 (x : Int) (r : List UInt8) : (u4 x ++ r).take 4 = u4 x ++ [] := rfl
theorem drop_u4 (x : Int) (r : List UInt8) : (u4 x ++ r).drop 4 = r := rfl
theorem N31_u4 {x : Int} (h : 0 ≤ x ∧ x ≤ 2147483647) (r : List UInt8) : N31 (u4 x ++ r) = x := by
  unfold N31
  rw [take_u4, num_u4 (by omega)]
  omega
/-- The five bytes of a weight. -/
def wgB (de : Int) (so : Bool) (we : Int) : List UInt8 := ub (de / 16777216 % 256 + bif so then 128 else 0) :: ub (de / 65536 % 256) :: ub (de / 256 % 256) :: ub (de / 1 % 256) :: [ub we]
theorem map_wgt (de : Int) (so : Bool) (we : Int) : (wgt de so we).map byteOf = wgB de so we := by
  cases so
  · unfold wgt wgB
    rw [cond_false, cond_false, Int.add_zero]
    rfl
  · rfl
theorem wg_read {de we : Int} (so : Bool) (hd : 0 ≤ de ∧ de ≤ 2147483647) (hw : 0 ≤ we ∧ we ≤ 255) (r : List UInt8) :
    N31 (wgB de so we ++ r) = de ∧ decide (bA (wgB de so we ++ r) 0 ≥ 128) = so ∧ bA (wgB de so we ++ r) 4 = we ∧ (wgB de so we ++ r).drop 5 = r ∧ (wgB de so we ++ r).length = 5 + r.length := by
  have hb : 0 ≤ de / 16777216 % 256 + (bif so then 128 else 0) ∧ de / 16777216 % 256 + (bif so then 128 else 0) ≤ 255 := by cases so <;> simp only [cond_true, cond_false] <;> omega
  have e0 : bA (wgB de so we ++ r) 0 = de / 16777216 % 256 + (bif so then 128 else 0) := ub_val hb
  refine ⟨?_, ?_, ub_val hw, rfl, ?_⟩
  · have e1 : (wgB de so we ++ r).take 4 = [ub (de / 16777216 % 256 + bif so then 128 else 0), ub (de / 65536 % 256), ub (de / 256 % 256), ub (de / 1 % 256)] := rfl
    unfold N31
    rw [e1, num4, ub_val hb, ub_val (by omega), ub_val (by omega), ub_val (by omega)]
    cases so <;> simp only [cond_true, cond_false] <;> omega
  · rw [e0]
    cases so
    · exact decide_eq_false (by simp only [cond_false]; omega)
    · exact decide_eq_true (by simp only [cond_true]; omega)
  · rw [List.length_append]
    show 5 + r.length = _
    rfl
/-- A pair's bytes. -/
def pB (p : List AV) : List UInt8 := u2 (intOf (p.getD 0 AV.junk)) ++ u4 (intOf (p.getD 1 AV.junk))
def psB (ps : List (List AV)) : List UInt8 := ps.flatMap pB
theorem map_psR (ps : List (List AV)) : (psR ps).map byteOf = psB ps := by
  induction ps with
  | nil => rfl
  | cons p ps ih =>
    have e : psR (p :: ps) = psP p ++ psR ps := rfl
    have e2 : psB (p :: ps) = pB p ++ psB ps := rfl
    rw [e, e2, List.map_append, ih]
    rfl
theorem psB_len (ps : List (List AV)) : (psB ps).length = 6 * ps.length := by
  rw [← map_psR, List.length_map, psR_len]
theorem psB_drop : ∀ (ps : List (List AV)) (i : Nat), i < ps.length → (psB ps).drop (6 * i) = pB (ps.getD i []) ++ psB (ps.drop (i + 1)) := by
  intro ps
  induction ps with
  | nil => intro i h; simp at h
  | cons p ps ih =>
    intro i h
    have e2 : psB (p :: ps) = pB p ++ psB ps := rfl
    cases i with
    | zero => rfl
    | succ i =>
      have hl : (pB p).length = 6 := rfl
      rw [e2, show 6 * (i + 1) = 6 + 6 * i from by omega, ← List.drop_drop, List.drop_append_of_le_length (by rw [hl]; omega)]
      rw [show (pB p).drop 6 = [] from rfl, List.nil_append, ih i (by simpa using h)]
      rfl
/-- Pairs with kinds. -/
def okQ (ps : List (List AV)) : Prop := ∀ e ∈ ps, ∃ a b : Int, e = [AV.int IntKind.u16 a, AV.int IntKind.u32 b] ∧ (0 ≤ a ∧ a ≤ 65535) ∧ (0 ≤ b ∧ b ≤ 4294967295)
theorem pairs_read {ps : List (List AV)} (h : okQ ps) : pairsA (psB ps) ps.length = ps := by
  refine List.ext_getElem (pairsA_len _ _) fun i hi hi' => ?_
  obtain ⟨a, b, e, ha, hb⟩ := h ps[i] (List.getElem_mem hi')
  have eg : ps.getD i [] = ps[i] := by simp [List.getD, hi']
  have e1 : (pairsA (psB ps) ps.length)[i] = pairA (psB ps) (6 * i) := by simp [pairsA]
  rw [e1]
  unfold pairA
  have d1 := psB_drop ps i hi'
  have d2 : (psB ps).drop (6 * i + 2) = u4 b ++ psB (ps.drop (i + 1)) := by
    rw [← List.drop_drop, d1, eg, e]
    rfl
  rw [d2, take_u4, num_u4 hb, d1, eg, e]
  have e3 : (pB [AV.int IntKind.u16 a, AV.int IntKind.u32 b] ++ psB (ps.drop (i + 1))).take 2 = [ub (a / 256 % 256), ub (a / 1 % 256)] := rfl
  rw [e3, num2, ub_val (by omega), ub_val (by omega), IntKind.wrap_u16]
  have : (256 * (256 * 0 + a / 256 % 256) + a / 1 % 256) % 65536 = a := by omega
  rw [this]
/-- A payload's bytes; the last ones, that fill it, are what they are. -/
def payS (P W : Bool) (t : Int) (d z : List UInt8) (pa de : Int) (so : Bool) (we co la inc : Int) (ps : List (List AV)) : List UInt8 :=
  (bif P then [ub pa] else []) ++ ((bif W then wgB de so we else []) ++ ((bif t == 7 then u4 la else []) ++ ((bif t == 3 || t == 7 then u4 co else []) ++ ((bif t == 4 then psB ps else []) ++ ((bif t == 8 then u4 inc else []) ++ (d ++ z))))))
theorem mapB {α β : Type} (f : α → β) (c : Bool) (a : List α) : (bif c then a else []).map f = bif c then a.map f else [] := by cases c <;> rfl
theorem byteOf_ofB (b : UInt8) : byteOf (ofB b) = b := by
  unfold byteOf ofB
  show UInt8.ofNat ((b.toNat : Int)).toNat = b
  simp
theorem map_ofB (d : List UInt8) : (d.map ofB).map byteOf = d := by
  rw [List.map_map]
  have : (byteOf ∘ ofB) = id := funext byteOf_ofB
  rw [this, List.map_id]
theorem pay_map (P W : Bool) (t : Int) (d : List UInt8) (pa de : Int) (so : Bool) (we co la inc : Int) (ps : List (List AV)) :
    (payN P W t d pa de so we co la inc ps).map byteOf = payS P W t d (List.replicate pa.toNat 0) pa de so we co la inc ps := by
  unfold payN payS
  simp only [List.map_append, mapB, map_wgt, map_n4, map_psR, map_ofB]
  rfl
/-- The last byte is another one. -/
theorem pay_spoil (P W : Bool) (t : Int) (d : List UInt8) (pa de : Int) (so : Bool) (we co la inc : Int) (ps : List (List AV)) (sp : Int) (hp : 0 < pa) :
    ((payN P W t d pa de so we co la inc ps).set ((payN P W t d pa de so we co la inc ps).length - 1) [AV.int IntKind.u8 sp]).map byteOf = payS P W t d (List.replicate (pa.toNat - 1) 0 ++ [ub sp]) pa de so we co la inc ps := by
  have hz : ((List.replicate pa.toNat (0 : UInt8)).map ofB) = (List.replicate (pa.toNat - 1) (0 : UInt8)).map ofB ++ [ofB 0] := by
    rw [show pa.toNat = (pa.toNat - 1) + 1 by omega, List.replicate_succ']
    rw [List.map_append]
    rfl
  have e : payN P W t d pa de so we co la inc ps = ((bif P then [[AV.int IntKind.u8 pa]] else []) ++ ((bif W then wgt de so we else []) ++ ((bif t == 7 then n4 la else []) ++ ((bif t == 3 || t == 7 then n4 co else []) ++ ((bif t == 4 then psR ps else []) ++ ((bif t == 8 then n4 inc else []) ++ (d.map ofB ++ (List.replicate (pa.toNat - 1) (0 : UInt8)).map ofB))))))) ++ [ofB 0] := by
    unfold payN
    rw [hz]
    simp only [List.append_assoc]
  have hs : ∀ (X : List (List AV)) (y x : List AV), (X ++ [y]).set ((X ++ [y]).length - 1) x = X ++ [x] := by
    intro X y x
    rw [List.length_append, List.length_singleton, Nat.add_sub_cancel, List.set_append_right _ _ (Nat.le_refl _), Nat.sub_self]
    rfl
  rw [e, hs]
  unfold payS
  simp only [List.map_append, mapB, map_wgt, map_n4, map_psR, map_ofB, List.append_assoc]
  rfl
theorem inP_pad {pa : Int} (ha : 0 ≤ pa ∧ pa ≤ 255) (d z : List UInt8) (hz : z.length = pa.toNat) : inP (ub pa :: (d ++ z)) = d ∧ bA (ub pa :: (d ++ z)) 0 = pa ∧ pa ≤ ((ub pa :: (d ++ z)).length : Int) - 1 := by
  have e : bA (ub pa :: (d ++ z)) 0 = pa := ub_val ha
  have hl : ((ub pa :: (d ++ z)).length : Int) = 1 + d.length + pa := by
    rw [List.length_cons, List.length_append, hz]
    omega
  refine ⟨?_, e, by omega⟩
  unfold inP
  rw [e, hl, show (1 + (d.length : Int) + pa - pa).toNat = d.length + 1 by omega, List.take_succ_cons]
  show (List.drop 1 (ub pa :: (d ++ z).take d.length)) = d
  simp
section
variable {l t g n : Int} {d z : List UInt8} {pa de : Int} {so : Bool} {we co la inc : Int} {ps : List (List AV)}
/-- What a frame that may be put has. -/
structure Fit (t g : Int) (d : List UInt8) (pa de : Int) (so : Bool) (we co la inc : Int) (ps : List (List AV)) : Prop where
  ha : 0 ≤ pa ∧ pa ≤ 255
  hd : 0 ≤ de ∧ de ≤ 2147483647
  hw : 0 ≤ we ∧ we ≤ 255
  hc : 0 ≤ co ∧ co ≤ 4294967295
  hla : 0 ≤ la ∧ la ≤ 2147483647
  hi : 0 ≤ inc ∧ inc ≤ 2147483647
  hq : okQ ps
  x1 : vev64_0 t g 0 d pa de so we co la inc .imm ps = false → pa = 0
  x2 : vev65_0 t g 0 d pa de so we co la inc .imm ps = false → de = 0 ∧ so = false ∧ we = 0
  x3 : (t == 3) = false → (t == 7) = false → co = 0
  x4 : (t == 7) = false → la = 0
  x5 : (t == 8) = false → inc = 0
  x6 : (t == 4) = false → ps = []
  x7 : t = 4 → (bits BinOp.and IntKind.u8 g 1 != 0) = true → ps = []
  x8 : t = 2 ∨ t = 3 ∨ t = 4 ∨ t = 8 → d = []
  x9 : t = 6 → d.length = 8
theorem nil_of {z : List UInt8} (h : z.length = (0 : Int).toNat) : z = [] := List.length_eq_zero_iff.1 h
theorem rdPay (F : Fit t g d pa de so we co la inc ps) (hz : z.length = pa.toNat) (hl1 : d.length ≤ 400) (hl2 : ps.length ≤ 40) :
    RdNo l t g n (payS (vev64_0 t g n d pa de so we co la inc .imm ps) (vev65_0 t g n d pa de so we co la inc .imm ps) t d z pa de so we co la inc ps) ∨ RdIs l t g n (payS (vev64_0 t g n d pa de so we co la inc .imm ps) (vev65_0 t g n d pa de so we co la inc .imm ps) t d z pa de so we co la inc ps) d pa de so we co la inc ps := by
  obtain ⟨ha, hd, hw, hc, hla, hi, hq, x1, x2, x3, x4, x5, x6, x7, x8, x9⟩ := F
  have e64 : vev64_0 t g n d pa de so we co la inc .imm ps = vev64_0 t g 0 d pa de so we co la inc .imm ps := rfl
  have e65 : vev65_0 t g n d pa de so we co la inc .imm ps = vev65_0 t g 0 d pa de so we co la inc .imm ps := rfl
  rw [e64, e65]
  cases hA : vev34n_0 t g n [] 0 0 false 0 0 0 0 with
  | true => exact .inl (rdNo1 hA)
  | false =>
    by_cases h0 : t = 0
    · subst h0
      obtain ⟨rfl, rfl, rfl⟩ := x2 rfl
      obtain rfl := x3 rfl rfl
      obtain rfl := x4 rfl
      obtain rfl := x5 rfl
      obtain rfl := x6 rfl
      right
      rcases bcase (bits BinOp.and IntKind.u8 g 8 != 0) with h8 | h8
      · have eP : vev64_0 0 g 0 d pa 0 false 0 0 0 0 .imm [] = true := h8
        have eS : payS (vev64_0 0 g 0 d pa 0 false 0 0 0 0 .imm []) (vev65_0 0 g 0 d pa 0 false 0 0 0 0 .imm []) 0 d z pa 0 false 0 0 0 0 [] = ub pa :: (d ++ z) := by rw [eP]; rfl
        rw [eS]
        obtain ⟨i1, i2, i3⟩ := inP_pad ha d z hz
        have := rd0b (l := l) (s := ub pa :: (d ++ z)) (by rw [List.length_cons, List.length_append]; omega) (by simp) (by rw [i2]; exact i3) hA h8
        rw [i1, i2] at this
        exact this
      · have eP : vev64_0 0 g 0 d pa 0 false 0 0 0 0 .imm [] = false := h8
        obtain rfl := x1 eP
        obtain rfl := nil_of hz
        have eS : payS (vev64_0 0 g 0 d 0 0 false 0 0 0 0 .imm []) (vev65_0 0 g 0 d 0 0 false 0 0 0 0 .imm []) 0 d [] 0 0 false 0 0 0 0 [] = d := by rw [eP]; exact List.append_nil d
        rw [eS]
        exact rd0a hA h8
    · by_cases h1 : t = 1
      · subst h1
        obtain rfl := x3 rfl rfl
        obtain rfl := x4 rfl
        obtain rfl := x5 rfl
        obtain rfl := x6 rfl
        right
        rcases bcase (bits BinOp.and IntKind.u8 g 32 != 0) with h32 | h32
        · have eW : vev65_0 1 g 0 d pa de so we 0 0 0 .imm [] = true := h32
          rcases bcase (bits BinOp.and IntKind.u8 g 8 != 0) with h8 | h8
          · have eP : vev64_0 1 g 0 d pa de so we 0 0 0 .imm [] = true := h8
            have eS : payS (vev64_0 1 g 0 d pa de so we 0 0 0 .imm []) (vev65_0 1 g 0 d pa de so we 0 0 0 .imm []) 1 d z pa de so we 0 0 0 [] = ub pa :: ((wgB de so we ++ d) ++ z) := by rw [eP, eW]; rfl
            rw [eS]
            obtain ⟨i1, i2, i3⟩ := inP_pad ha (wgB de so we ++ d) z hz
            obtain ⟨w1, w2, w3, w4, w5⟩ := wg_read so hd hw d
            have := rd1d (l := l) (s := ub pa :: ((wgB de so we ++ d) ++ z)) (by rw [List.length_cons, List.length_append]; omega) (by simp) (by rw [i2]; exact i3) hA h8 h32 (by rw [i1]; omega)
            rw [i1, i2, w1, w2, w3, w4] at this
            exact this
          · have eP : vev64_0 1 g 0 d pa de so we 0 0 0 .imm [] = false := h8
            obtain rfl := x1 eP
            obtain rfl := nil_of hz
            have eS : payS (vev64_0 1 g 0 d 0 de so we 0 0 0 .imm []) (vev65_0 1 g 0 d 0 de so we 0 0 0 .imm []) 1 d [] 0 de so we 0 0 0 [] = wgB de so we ++ d := by rw [eP, eW]; show [] ++ (wgB de so we ++ (d ++ [])) = _; rw [List.append_nil, List.nil_append]
            rw [eS]
            obtain ⟨w1, w2, w3, w4, w5⟩ := wg_read so hd hw d
            have := rd1b (l := l) (s := wgB de so we ++ d) hA h8 h32 (by omega)
            rw [w1, w2, w3, w4] at this
            exact this
        · have eW : vev65_0 1 g 0 d pa de so we 0 0 0 .imm [] = false := h32
          obtain ⟨rfl, rfl, rfl⟩ := x2 eW
          rcases bcase (bits BinOp.and IntKind.u8 g 8 != 0) with h8 | h8
          · have eP : vev64_0 1 g 0 d pa 0 false 0 0 0 0 .imm [] = true := h8
            have eS : payS (vev64_0 1 g 0 d pa 0 false 0 0 0 0 .imm []) (vev65_0 1 g 0 d pa 0 false 0 0 0 0 .imm []) 1 d z pa 0 false 0 0 0 0 [] = ub pa :: (d ++ z) := by rw [eP, eW]; rfl
            rw [eS]
            obtain ⟨i1, i2, i3⟩ := inP_pad ha d z hz
            have := rd1c (l := l) (s := ub pa :: (d ++ z)) (by rw [List.length_cons, List.length_append]; omega) (by simp) (by rw [i2]; exact i3) hA h8 h32
            rw [i1, i2] at this
            exact this
          · have eP : vev64_0 1 g 0 d pa 0 false 0 0 0 0 .imm [] = false := h8
            obtain rfl := x1 eP
            obtain rfl := nil_of hz
            have eS : payS (vev64_0 1 g 0 d 0 0 false 0 0 0 0 .imm []) (vev65_0 1 g 0 d 0 0 false 0 0 0 0 .imm []) 1 d [] 0 0 false 0 0 0 0 [] = d := by rw [eP, eW]; exact List.append_nil d
            rw [eS]
            exact rd1a hA h8 h32
      · have e0 : (t == 0) = false := beq_eq_false_iff_ne.2 h0
        have e1 : (t == 1) = false := beq_eq_false_iff_ne.2 h1
        have eP : vev64_0 t g 0 d pa de so we co la inc .imm ps = false := by unfold vev64_0; rw [e0, e1]; rfl
        obtain rfl := x1 eP
        obtain rfl := nil_of hz
        by_cases h2 : t = 2
        · subst h2
          obtain rfl := x3 rfl rfl
          obtain rfl := x4 rfl
          obtain rfl := x5 rfl
          obtain rfl := x6 rfl
          obtain rfl := x8 (.inl rfl)
          right
          have eS : payS (vev64_0 2 g 0 [] 0 de so we 0 0 0 .imm []) (vev65_0 2 g 0 [] 0 de so we 0 0 0 .imm []) 2 [] [] 0 de so we 0 0 0 [] = wgB de so we ++ [] := rfl
          rw [eS]
          obtain ⟨w1, w2, w3, w4, w5⟩ := wg_read so hd hw []
          have := rd2 (l := l) (s := wgB de so we ++ []) hA (by rw [w5]; rfl)
          rw [w1, w2, w3] at this
          exact this
        · have e2 : (t == 2) = false := beq_eq_false_iff_ne.2 h2
          have eW : vev65_0 t g 0 d 0 de so we co la inc .imm ps = false := by unfold vev65_0; rw [e2, e1]; rfl
          obtain ⟨rfl, rfl, rfl⟩ := x2 eW
          have eP := eP
          by_cases h3 : t = 3
          · subst h3
            obtain rfl := x4 rfl
            obtain rfl := x5 rfl
            obtain rfl := x6 rfl
            obtain rfl := x8 (.inr (.inl rfl))
            right
            have eS : payS (vev64_0 3 g 0 [] 0 0 false 0 co 0 0 .imm []) (vev65_0 3 g 0 [] 0 0 false 0 co 0 0 .imm []) 3 [] [] 0 0 false 0 co 0 0 [] = u4 co ++ [] := rfl
            rw [eS]
            have := rd3 (l := l) (s := u4 co ++ []) hA rfl
            rw [num_u4 hc] at this
            exact this
          · have e3 : (t == 3) = false := beq_eq_false_iff_ne.2 h3
            by_cases h7 : t = 7
            · subst h7
              obtain rfl := x5 rfl
              obtain rfl := x6 rfl
              right
              have eS : payS (vev64_0 7 g 0 d 0 0 false 0 co la 0 .imm []) (vev65_0 7 g 0 d 0 0 false 0 co la 0 .imm []) 7 d [] 0 0 false 0 co la 0 [] = u4 la ++ (u4 co ++ d) := by show [] ++ ([] ++ (u4 la ++ (u4 co ++ ([] ++ ([] ++ (d ++ [])))))) = _; simp only [List.nil_append, List.append_nil]
              rw [eS]
              have := rd7 (l := l) (s := u4 la ++ (u4 co ++ d)) hA (by rw [List.length_append, List.length_append]; show 8 ≤ 4 + (4 + d.length); omega)
              rw [N31_u4 hla, show (List.drop 4 ((u4 la ++ (u4 co ++ d)).take 8)) = u4 co ++ [] from rfl, num_u4 hc, show (u4 la ++ (u4 co ++ d)).drop 8 = d from rfl] at this
              exact this
            · have e7 : (t == 7) = false := beq_eq_false_iff_ne.2 h7
              obtain rfl := x3 e3 e7
              obtain rfl := x4 e7
              by_cases h4 : t = 4
              · subst h4
                obtain rfl := x5 rfl
                obtain rfl := x8 (.inr (.inr (.inl rfl)))
                right
                have eS : payS (vev64_0 4 g 0 [] 0 0 false 0 0 0 0 .imm ps) (vev65_0 4 g 0 [] 0 0 false 0 0 0 0 .imm ps) 4 [] [] 0 0 false 0 0 0 0 ps = psB ps := by show [] ++ ([] ++ ([] ++ ([] ++ (psB ps ++ ([] ++ ([] ++ [])))))) = _; simp only [List.nil_append, List.append_nil]
                rw [eS]
                have hlb := psB_len ps
                have := rd4 (l := l) (s := psB ps) ps.length hA hlb (by omega) (by
                  rcases bcase (bits BinOp.and IntKind.u8 g 1 != 0) with hk | hk
                  · right; rw [x7 rfl hk]; rfl
                  · exact .inl hk)
                rw [pairs_read hq] at this
                exact this
              · have e4 : (t == 4) = false := beq_eq_false_iff_ne.2 h4
                obtain rfl := x6 e4
                by_cases h8 : t = 8
                · subst h8
                  obtain rfl := x8 (.inr (.inr (.inr rfl)))
                  have eS : payS (vev64_0 8 g 0 [] 0 0 false 0 0 0 inc .imm []) (vev65_0 8 g 0 [] 0 0 false 0 0 0 inc .imm []) 8 [] [] 0 0 false 0 0 0 inc [] = u4 inc ++ [] := rfl
                  rw [eS]
                  cases hz8 : (N31 (u4 inc ++ []) == 0) with
                  | true => exact .inl (rd8z hA rfl hz8)
                  | false =>
                    right
                    have := rd8n (l := l) (s := u4 inc ++ []) hA rfl hz8
                    rw [N31_u4 hi] at this
                    exact this
                · have e8 : (t == 8) = false := beq_eq_false_iff_ne.2 h8
                  obtain rfl := x5 e8
                  right
                  have eS : payS (vev64_0 t g 0 d 0 0 false 0 0 0 0 .imm []) (vev65_0 t g 0 d 0 0 false 0 0 0 0 .imm []) t d [] 0 0 false 0 0 0 0 [] = d := by
                    rw [eP, eW]
                    unfold payS
                    rw [e7, e3, e4, e8]
                    exact List.append_nil d
                  rw [eS]
                  by_cases h6 : t = 6
                  · subst h6
                    exact rd6 hA (x9 rfl)
                  · exact rdx hA e0 e1 e2 e3 e4 (beq_eq_false_iff_ne.2 h6) e7 e8
end
end Go.Proofs.Gv
