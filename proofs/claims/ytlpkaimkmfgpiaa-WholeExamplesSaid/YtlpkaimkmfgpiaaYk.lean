/- YtlpkaimkmfgpiaaYk: a part of the proof (YtlpkaimkmfgpiaaR1, YtlpkaimkmfgpiaaL1). No condition. -/
import Derived.Test.YtlpkaimkmfgpiaaYj
import Derived.Test.YtlpkaimkmfgpiaaYf
import Derived.Test.YtlpkaimkmfgpiaaYg
set_option linter.unusedVariables false
set_option linter.unusedSimpArgs false
set_option linter.unusedSectionVars false
set_option exponentiation.threshold 2000
namespace Go.Proofs.Ytlpkaimkmfgpiaa.Ev
open Go.Abs Go.IntWalk

/-! ### The reference: trim, text, Fit -/
theorem rtrim_walk : ∀ (n : Nat) (d : List Int), d.length = n → n ≤ 1000000000000000 → torusref02_trim_L0 d = some (trimL d) := by
  intro n
  induction n with
  | zero =>
    intro d hd hn
    have : d = [] := List.length_eq_zero_iff.1 hd
    subst this
    rw [torusref02_trim_L0_eq]; rfl
  | succ n ih =>
    intro d hd hn
    obtain ⟨d', y, rfl⟩ : ∃ d' y, d = d' ++ [y] := by
      have hne : d ≠ [] := fun e => by rw [e] at hd; cases hd
      exact ⟨d.dropLast, d.getLast hne, (List.dropLast_concat_getLast hne).symm⟩
    have hl : d'.length = n := by simpa using hd
    have hy : (d' ++ [y]).getD d'.length 0 = y := by simp [List.getD]
    have ht : (d' ++ [y]).take d'.length = d' := by simp
    rw [torusref02_trim_L0_eq]
    simp only [List.length_append, List.length_cons, List.length_nil]
    simp (disch := omega) only [i64_in, cgt_t, cCut, cut0]
    rw [idx_in (by omega) (by simp; omega)]
    have e : (((d'.length + (0 + 1) : Nat) : Int) - 1).toNat = d'.length := by omega
    rw [e, hy, ht, bS]
    by_cases h0 : y = 0
    · subst h0
      rw [trimL_snoc0, ih d' hl (by omega), ceq_t rfl]
    · rw [ceq_f h0, trimL_snoc h0]

theorem rtrim_ok {d : List Int} (h : d.length ≤ 1000000000000000) : torusref02_trim d = some (trimL d) := by
  rw [torusref02_trim_eq]; exact rtrim_walk _ d rfl h

theorem rtext_walk {d : List Int} (hd : DX d) (hl : d.length ≤ 100000000000000) : ∀ (k : Nat) (out : List Int), k ≤ d.length → out.length + k ≤ 1000000000000000 / 10 →
    torusref02_text_L0 d ((k : Int) - 1) out = some (strOf (out ++ (chr (d.take k)).reverse)) := by
  intro k
  induction k with
  | zero =>
    intro out hk ho
    rw [torusref02_text_L0_eq, cge_f (by omega)]
    simp [chr]
  | succ k ih =>
    intro out hk ho
    have hx := hd.getD (by omega) k
    have e : ((k + 1 : Nat) : Int) - 1 = k := by omega
    rw [torusref02_text_L0_eq, e, cge_t (by omega), bIdx (by omega) (by omega), Int.toNat_natCast]
    simp (disch := omega) only [i64_in, u8_in, cApp]
    rw [ih _ (by omega) (by simp; omega), take_succ' (show k < d.length by omega), chr_append]
    simp [chr, Int.add_comm]

theorem rtext_ok {minus : Bool} {d : List Int} (hd : DX d) (hl : d.length ≤ 10000000000000) : torusref02_text minus d = some (T10 (if minus then -VX d else VX d)) := by
  obtain ⟨v, hv⟩ := Int.eq_ofNat_of_zero_le (VX_nonneg hd)
  rw [torusref02_text_eq, rtrim_ok (by omega), bS, trimX hd, hv, Int.toNat_natCast]
  have hlen := trimL_length d
  rw [trimX hd, hv, Int.toNat_natCast] at hlen
  by_cases h0 : v = 0
  · subst h0
    rw [show dX 0 = [] from dig_zero _, ceq_t (by rfl)]
    cases minus <;> rfl
  · have hne : (dX v).length ≠ 0 := fun e => h0 ((dig_eq_nil (B := 10) (by omega)).1 (List.length_eq_zero_iff.1 e))
    rw [ceq_f (by omega)]
    have hw := rtext_walk (dX_D v) (by omega) (dX v).length
    have e5 : IntKind.wrap .i64 (((dX v).length : Int) - 1) = ((dX v).length : Int) - 1 := i64_in _ (by omega)
    cases minus with
    | true =>
      rw [cT, cApp (by omega) (by omega), e5, hw _ (Nat.le_refl _) (by simp; omega), List.take_length]
      unfold T10 txtL natT
      simp only [if_true]
      rw [if_pos (by omega), if_neg (by omega)]
      have : (-(v : Int)).natAbs = v := by omega
      rw [this]
      simp
    | false =>
      rw [cF, e5, hw _ (Nat.le_refl _) (by simp; omega), List.take_length]
      unfold T10 txtL natT
      simp only [Bool.false_eq_true, if_false]
      rw [if_neg (by omega), if_neg (by omega)]
      simp

/-- Fit: an integer with few digits. -/
def Nd (k : Nat) (z : Int) : Prop := z.natAbs < 10 ^ k

theorem Fit_end {s : ByteArray} {m : Nat} {d : List Int} (hm : m ≤ 1000000) (hd : DX d) (hdl : d.length ≤ m) :
    ∃ z, (bif decide ((s.size : Int) > 0) then (sidx s 0).bind fun v => (torusref02_text (v == 45) d).bind fun r => some r else (torusref02_text false d).bind fun r => some r) = some (T10 z) ∧ Nd m z := by
  obtain ⟨v, hv⟩ := Int.eq_ofNat_of_zero_le (VX_nonneg hd)
  have hv1 : VX d < 10 ^ d.length := val_lt (B := 10) (by omega) hd
  rw [hv, ← pow10_cast] at hv1
  have hv2 : v < 10 ^ m := Nat.lt_of_lt_of_le (Int.ofNat_lt.1 hv1) (Nat.pow_le_pow_right (by omega) hdl)
  by_cases h : (s.size : Int) > 0
  · rw [cgt_t h, sidx_eq, idx_in (by omega) (by rw [bytesOf_length]; omega), bS, rtext_ok hd (by omega), bS, hv]
    refine ⟨_, rfl, ?_⟩
    unfold Nd
    split
    · rw [Int.natAbs_neg]; exact hv2
    · exact hv2
  · rw [cgt_f h, rtext_ok hd (by omega), bS, hv]
    exact ⟨_, rfl, hv2⟩

theorem Fit_walk {s : ByteArray} (hs : BigOk s) {m : Nat} (hm : m ≤ 1000000) : ∀ (n i : Nat) (d : List Int), n + i = s.size → DX d → d.length ≤ m →
    ∃ z, torusref02_Fit_L0 s m i d = some (T10 z) ∧ Nd m z := by
  intro n
  unfold BigOk at hs
  induction n with
  | zero =>
    intro i d hi hd hdl
    rw [torusref02_Fit_L0_eq, clt_f (by omega)]
    exact Fit_end hm hd hdl
  | succ n ih =>
    intro i d hi hd hdl
    rw [torusref02_Fit_L0_eq, clt_t (by omega)]
    by_cases h : d.length < m
    · have hb := (bytesOf_range s).getD (by omega) i
      have ih' := fun d => ih (i + 1) d (by omega)
      simp only [Int.natCast_add, Int.natCast_one] at ih'
      rw [clt_t (by omega), sidx_eq, idx_in (by omega) (by rw [bytesOf_length]; omega), bS, Int.toNat_natCast, i64_in _ (by omega)]
      by_cases h1 : (bytesOf s).getD i 0 ≥ 48
      · rw [cge_t h1, bS]
        by_cases h2 : (bytesOf s).getD i 0 ≤ 57
        · rw [cle_t h2, bS]
          simp (disch := omega) only [i64_in, cApp]
          exact ih' _ (hd.append (Dig.cons (by omega) (by omega) Dig.nil)) (by simp; omega)
        · rw [cle_f h2]; exact ih' _ hd hdl
      · rw [cge_f h1]; exact ih' _ hd hdl
    · rw [clt_f (by omega)]
      exact Fit_end hm hd hdl

theorem rFit_ok {s : ByteArray} (hs : BigOk s) {m : Nat} (hm : m ≤ 1000000) : ∃ z, torusref02_Fit s m = some (T10 z) ∧ Nd m z := by
  rw [torusref02_Fit_eq]
  have := Fit_walk hs hm s.size 0 [] (by omega) Dig.nil (by simp)
  simpa using this

theorem Nd.mono {k l : Nat} {z : Int} (h : Nd k z) (hkl : k ≤ l) : Nd l z := Nat.lt_of_lt_of_le h (Nat.pow_le_pow_right (by omega) hkl)
theorem Nd.add {k l : Nat} {x y : Int} (hx : Nd k x) (hy : Nd l y) : Nd (max k l + 1) (x + y) := by
  have h1 := hx.mono (Nat.le_max_left k l)
  have h2 := hy.mono (Nat.le_max_right k l)
  unfold Nd at *
  rw [Nat.pow_succ]
  omega
theorem Nd.neg {k : Nat} {x : Int} (hx : Nd k x) : Nd k (-x) := by unfold Nd at *; omega
theorem Nd.sub {k l : Nat} {x y : Int} (hx : Nd k x) (hy : Nd l y) : Nd (max k l + 1) (x - y) := hx.add hy.neg
theorem Nd.mul {k l : Nat} {x y : Int} (hx : Nd k x) (hy : Nd l y) : Nd (k + l) (x * y) := by
  unfold Nd at *
  rw [Int.natAbs_mul, Nat.pow_add]
  exact Nat.mul_lt_mul'' hx hy
theorem Nd.Sm {k : Nat} {x : Int} (hx : Nd k x) (hk : k ≤ 1000) : Sm x := (Sm_iff x).2 (hx.mono hk)
theorem Nd.le {k : Nat} {x y : Int} (hy : Nd k y) (h : x.natAbs ≤ y.natAbs) : Nd k x := Nat.lt_of_le_of_lt h hy
theorem Nd_small {k : Nat} {x : Int} (hk : 1 ≤ k) (h : x.natAbs < 10) : Nd k x := Nat.lt_of_lt_of_le (show x.natAbs < 10 ^ 1 by omega) (Nat.pow_le_pow_right (by omega) hk)
end Go.Proofs.Ytlpkaimkmfgpiaa.Ev
set_option linter.unusedVariables false
set_option linter.unusedSimpArgs false
set_option linter.unusedSectionVars false
namespace Go.Proofs.Ytlpkaimkmfgpiaa.Ev
open Go.Abs Go.IntWalk

/-! ### Words of the laws -/
theorem T10_beq (x y : Int) : ((T10 x).toList == (T10 y).toList) = decide (x = y) := by
  rw [str_beq']
  exact decide_eq_decide.2 T10_eq_iff
theorem T10_beq_t {x y : Int} (h : x = y) : ((T10 x).toList == (T10 y).toList) = true := by rw [T10_beq]; exact decide_eq_true h
theorem T10_beq_f {x y : Int} (h : ¬ x = y) : ((T10 x).toList == (T10 y).toList) = false := by rw [T10_beq]; exact decide_eq_false h

theorem bs_T10 {l : List Nat} {z : Int} (h : okText (bytesOf (bs l)) = true) (hz : numOf (bytesOf (bs l)) = z) : bs l = T10 z :=
  bytesOf_inj (by rw [bytesOf_T10, ← hz]; exact txtL_of_ok h)
theorem bs_0 : bs [48] = T10 0 := bs_T10 rfl rfl
theorem bs_1 : bs [49] = T10 1 := bs_T10 rfl rfl
theorem bs_m1 : bs [45, 49] = T10 (-1) := bs_T10 rfl rfl

theorem T10_ne (z : Int) : T10 z ≠ ByteArray.empty := fun e => by
  have h1 := bytesOf_T10 z
  rw [e, bytesOf_empty] at h1
  have h2 := natT_ne z.natAbs
  unfold txtL at h1
  have := List.append_eq_nil_iff.1 h1.symm
  exact h2 this.2

theorem is_T10 {x y : Int} (h : x = y) : toruslaw02_is (T10 x) 0 (T10 y) = some true := by
  rw [toruslaw02_is_eq, T10_beq_t h, cT]; rfl

section
variable {x y : Int} (hx : Sm x) (hy : Sm y)
include hx hy
theorem sum_ok (h : Sm (x + y)) : toruslaw02_sum (T10 x) (T10 y) = some (T10 (x + y)) := by
  rw [toruslaw02_sum_eq, whole_Add_ok hx hy, bS]
  unfold resZ
  rw [if_pos h, cne_f rfl]
theorem product_ok (h : Sm (x * y)) : toruslaw02_product (T10 x) (T10 y) = some (T10 (x * y)) := by
  rw [toruslaw02_product_eq, whole_Mul_ok hx hy, bS]
  unfold resZ
  rw [if_pos h, cne_f rfl]
theorem wsub_ok (h : Sm (x - y)) : whole_Sub (T10 x) (T10 y) = some (T10 (x - y), 0) := by
  rw [whole_Sub_ok hx hy]
  unfold resZ
  rw [if_pos h]
end

/-- The chapter's examples. -/
theorem awake_ok : toruslaw02_awake = some true := by
  have s : ∀ z : Int, z.natAbs < 10000 → Sm z := fun z h => Sm_small h
  have a1 : bs [57, 57, 57] = T10 999 := bs_T10 rfl rfl
  have a2 : bs [45, 55] = T10 (-7) := bs_T10 rfl rfl
  have a3 : bs [50] = T10 2 := bs_T10 rfl rfl
  have a4 : bs [49, 50] = T10 12 := bs_T10 rfl rfl
  have a5 : bs [49, 56] = T10 18 := bs_T10 rfl rfl
  have a6 : bs [57, 57] = T10 99 := bs_T10 rfl rfl
  have a7 : bs [49, 48, 48, 48] = T10 1000 := bs_T10 rfl rfl
  have a8 : bs [45, 52] = T10 (-4) := bs_T10 rfl rfl
  have a9 : bs [54] = T10 6 := bs_T10 rfl rfl
  have a10 : bs [49, 48, 50, 52] = T10 1024 := bs_T10 rfl rfl
  have a11 : bs [57] = T10 9 := bs_T10 rfl rfl
  have n1 : intOf (bs [45, 48]) = none := rfl
  have n2 : intOf (bs [48, 48, 55]) = none := rfl
  have hg : Int.gcd 12 18 = 6 := by decide
  obtain ⟨X, Y, hB, hBz⟩ := whole_Bezout_ok (x := 12) (y := 18) (s _ (by decide)) (s _ (by decide)) (by decide)
  obtain ⟨rfl, rfl⟩ := bez_unique (by decide) hBz (X' := 2) (Y' := -1) (by unfold IsBez; rw [hg]; decide)
  rw [toruslaw02_awake_eq, a1, bs_1, a2, a3, a4, a5, a6, a7, a8, a9, a10, a11, bs_m1]
  rw [whole_Add_ok (s _ (by decide)) (s _ (by decide)), bS, whole_DivMod_ok (s _ (by decide)) (s _ (by decide)) (by decide), bS, hB, bS]
  have hp := whole_Pow_ok (x := 2) (s _ (by decide)) (n := 10) (by decide)
  have hp' : whole_Pow (T10 2) 10 = some (resZ (2 ^ 10)) := hp
  rw [hp', bS, whole_Root_ok (a := 99) (r := 9) (s _ (by decide)) ⟨by decide, by decide, by decide⟩, bS]
  have r1 : resZ (999 + 1) = (T10 1000, 0) := by unfold resZ; rw [if_pos (s _ (by decide))]; rfl
  have r2 : resZ (2 ^ 10) = (T10 1024, 0) := by unfold resZ; rw [if_pos (s _ (by decide))]; rfl
  rw [r1, r2]
  have i6 : ((Int.gcd 12 18 : Nat) : Int) = 6 := by rw [hg]; rfl
  have ii : ∀ z, toruslaw02_is (T10 z) 0 (T10 z) = some true := fun z => is_T10 rfl
  have e4 : Int.fdiv (-7) 2 = -4 := by decide
  have e1 : Int.fmod (-7) 2 = 1 := by decide
  have tt : ∀ z, ((T10 z).toList == (T10 z).toList) = true := fun z => T10_beq_t rfl
  rw [i6, e4, e1]
  simp only [ii, tt, bS, cT, whole_Valid_bad (show BigOk (bs [45, 48]) by unfold BigOk; decide) n1, whole_Valid_bad (show BigOk (bs [48, 48, 55]) by unfold BigOk; decide) n2, Bool.not_false]

theorem WholeRing_ok {a b c : ByteArray} (ha : BigOk a) (hb : BigOk b) (hc : BigOk c) : toruslaw02_WholeRing a b c = some true := by
  obtain ⟨x, fx, dx⟩ := rFit_ok ha (m := 300) (by omega)
  obtain ⟨y, fy, dy⟩ := rFit_ok hb (m := 300) (by omega)
  obtain ⟨z, fz, dz⟩ := rFit_ok hc (m := 300) (by omega)
  have sx := dx.Sm (by omega)
  have sy := dy.Sm (by omega)
  have sz := dz.Sm (by omega)
  have sxy := (dx.add dy).Sm (by omega)
  have syz := (dy.add dz).Sm (by omega)
  have syx := (dy.add dx).Sm (by omega)
  have pxy := (dx.mul dy).Sm (by omega)
  have pyx := (dy.mul dx).Sm (by omega)
  have pyz := (dy.mul dz).Sm (by omega)
  have pxz := (dx.mul dz).Sm (by omega)
  have s0 : Sm 0 := Sm_small (by decide)
  have s1 : Sm 1 := Sm_small (by decide)
  have sm1 : Sm (-1) := Sm_small (by decide)
  have fx' : torusref02_Fit a 300 = some (T10 x) := fx
  have fy' : torusref02_Fit b 300 = some (T10 y) := fy
  have fz' : torusref02_Fit c 300 = some (T10 z) := fz
  rw [toruslaw02_WholeRing_eq, fx', bS, fy', bS, fz', bS]
  rw [sum_ok sx sy sxy, bS, sum_ok sy sx syx, bS, T10_beq_t (Int.add_comm _ _), Bool.not_true, cF]
  rw [product_ok sx sy pxy, bS, product_ok sy sx pyx, bS, T10_beq_t (Int.mul_comm _ _), Bool.not_true, cF]
  rw [bS, sum_ok sxy sz (((dx.add dy).add dz).Sm (by omega)), bS, sum_ok sy sz syz, bS, sum_ok sx syz ((dx.add (dy.add dz)).Sm (by omega)), bS, T10_beq_t (Int.add_assoc _ _ _), Bool.not_true, cF]
  rw [bS, product_ok pxy sz (((dx.mul dy).mul dz).Sm (by omega)), bS, product_ok sy sz pyz, bS, product_ok sx pyz ((dx.mul (dy.mul dz)).Sm (by omega)), bS, T10_beq_t (Int.mul_assoc _ _ _), Bool.not_true, cF]
  rw [bS, product_ok sx syz ((dx.mul (dy.add dz)).Sm (by omega)), bS, bS, product_ok sx sz pxz, bS, sum_ok pxy pxz (((dx.mul dy).add (dx.mul dz)).Sm (by omega)), bS, T10_beq_t (Int.mul_add _ _ _), Bool.not_true, cF]
  rw [bS, wsub_ok sxy sy (((dx.add dy).sub dy).Sm (by omega)), bS, wsub_ok sx sy ((dx.sub dy).Sm (by omega)), bS]
  simp only
  rw [is_T10 (by omega), bS, cT, ceq_t rfl, whole_Neg_ok sy, bS, sum_ok sx sy.neg ((dx.add dy.neg).Sm (by omega)), bS, T10_beq_t (by omega), cT, bs_0, sum_ok sx s0 (by rw [Int.add_zero]; exact sx), bS, T10_beq_t (by omega), cT,
    bs_1, product_ok sx s1 (by rw [Int.mul_one]; exact sx), bS, T10_beq_t (by omega), cT, bs_m1, product_ok sx sm1 (by rw [Int.mul_neg, Int.mul_one]; exact sx.neg), bS, whole_Neg_ok sx, bS, T10_beq_t (by omega), cT, awake_ok, bS]
end Go.Proofs.Ytlpkaimkmfgpiaa.Ev
namespace Go.Proofs.Ytlpkaimkmfgpiaa.Ev
open Go.Abs
theorem BigOk_of {s : ByteArray} (h : s.size ≤ 140737488351232) : BigOk s := Nat.le_trans h (by decide)
theorem WholeRing_law (a b c : ByteArray) (ha : a.size ≤ 140737488351232) (hb : b.size ≤ 140737488351232) (hc : c.size ≤ 140737488351232) : toruslaw02_WholeRing a b c = some true :=
  WholeRing_ok (BigOk_of ha) (BigOk_of hb) (BigOk_of hc)
end Go.Proofs.Ytlpkaimkmfgpiaa.Ev
