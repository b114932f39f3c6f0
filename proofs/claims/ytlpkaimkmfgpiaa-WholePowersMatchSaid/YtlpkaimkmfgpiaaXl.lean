/- A part of the proof: the laws of division, order, divisors and powers. No condition. -/
import Derived.Test.YtlpkaimkmfgpiaaXk
import Derived.DataShut
set_option linter.unusedVariables false
set_option linter.unusedSimpArgs false
set_option linter.unusedSectionVars false
namespace Go.Proofs.Ytlpkaimkmfgpiaa.Ev
open Go.Abs Go.IntWalk

theorem sgn_natAbs_cmp {x y : Int} (h : x.natAbs < y.natAbs) : cmpI (x.natAbs : Int) (y.natAbs : Int) < 0 := cmp_lt_iff.2 (by omega)

theorem WholeDivision_ok {a b : ByteArray} (ha : BigOk a) (hb : BigOk b) : toruslaw02_WholeDivision a b = some true := by
  obtain ⟨x, fx, dx⟩ := rFit_ok ha (m := 900) (by omega)
  obtain ⟨y, fy, dy⟩ := rFit_ok hb (m := 900) (by omega)
  have sx := dx.Sm (by omega)
  have sy := dy.Sm (by omega)
  have fx' : torusref02_Fit a 900 = some (T10 x) := fx
  have fy' : torusref02_Fit b 900 = some (T10 y) := fy
  have tt : (ByteArray.empty.toList == ByteArray.empty.toList) = true := by rw [str_beq']; simp
  rw [toruslaw02_WholeDivision_eq, fx', bS, fy', bS, bs_0]
  by_cases h : y = 0
  · rw [whole_DivMod_zero sx sy h, bS, T10_beq_t h, cT, ceq_t rfl]
    simp only
    rw [tt, cT, cT, awake_ok, bS]
  · have hq : (x.fdiv y).natAbs ≤ x.natAbs := fdiv_natAbs_le h
    have hr : (x.fmod y).natAbs < y.natAbs := fmod_natAbs_lt h
    have sq := sx.mono hq
    have sr := sy.mono (Nat.le_of_lt hr)
    have hdm : x.fdiv y * y + x.fmod y = x := by rw [Int.mul_comm]; exact Int.mul_fdiv_add_fmod x y
    have spr : Sm (x.fdiv y * y) := by
      have : x.fdiv y * y = x - x.fmod y := by omega
      rw [this]
      exact ((dx.sub (dy.le (Nat.le_of_lt hr))).Sm (by omega))
    rw [whole_DivMod_ok sx sy h, bS, T10_beq_f h, cF]
    simp only
    rw [cne_f rfl, product_ok sq sy spr, bS, sum_ok spr sr (by rw [hdm]; exact sx), bS, T10_beq_t hdm, Bool.not_true, cF]
    have hn1 := sy.mono (x := y.natAbs) (by omega)
    have hn2 := sr.mono (x := (x.fmod y).natAbs) (by omega)
    by_cases hz : x.fmod y = 0
    · rw [T10_beq_t hz, Bool.not_true, cF, whole_Abs_ok sr, bS, whole_Abs_ok sy, bS, whole_Cmp_ok hn2 hn1, bS, clt_t (sgn_natAbs_cmp hr), awake_ok, bS]
    · have hs : sgnI (x.fmod y) = sgnI y := by
        rcases Int.lt_or_lt_of_ne h with hy | hy
        · obtain ⟨_, e2, e3⟩ := (Int.fdiv_fmod_unique' (a := x) (b := y) (r := x.fmod y) (q := x.fdiv y) hy).1 ⟨rfl, rfl⟩
          unfold sgnI
          rw [if_pos (by omega), if_pos hy]
        · obtain ⟨_, e2, e3⟩ := (Int.fdiv_fmod_unique (a := x) (b := y) (r := x.fmod y) (q := x.fdiv y) hy).1 ⟨rfl, rfl⟩
          unfold sgnI
          rw [if_neg (by omega), if_pos (by omega), if_neg (by omega), if_pos hy]
      rw [T10_beq_f hz, Bool.not_false, cT, whole_Sign_ok sr, bS, whole_Sign_ok sy, bS, cne_f hs, whole_Abs_ok sr, bS, whole_Abs_ok sy, bS, whole_Cmp_ok hn2 hn1, bS, clt_t (sgn_natAbs_cmp hr), awake_ok, bS]

theorem cmp_sub (x y : Int) : cmpI x y = sgnI (x - y) := by
  rcases (show x < y ∨ x = y ∨ y < x by omega) with h | h | h
  · rw [cmpI_lt h]; unfold sgnI; rw [if_pos (by omega)]
  · rw [cmpI_eq h]; unfold sgnI; rw [if_neg (by omega), if_neg (by omega)]
  · rw [cmpI_gt h]; unfold sgnI; rw [if_neg (by omega), if_pos (by omega)]
theorem sgn_mul (x y : Int) : sgnI (x * y) = sgnI x * sgnI y := by
  unfold sgnI
  rcases (show x < 0 ∨ x = 0 ∨ 0 < x by omega) with hx | rfl | hx <;> rcases (show y < 0 ∨ y = 0 ∨ 0 < y by omega) with hy | rfl | hy
  · have := Int.mul_pos_of_neg_of_neg hx hy
    rw [if_neg (by omega), if_pos this, if_pos hx, if_pos hy]; rfl
  · simp
  · have := Int.mul_neg_of_neg_of_pos hx hy
    rw [if_pos this, if_pos hx, if_neg (by omega), if_pos hy]; rfl
  · simp
  · simp
  · simp
  · have := Int.mul_neg_of_pos_of_neg hx hy
    rw [if_pos this, if_neg (by omega), if_pos hx, if_pos hy]; rfl
  · simp
  · have := Int.mul_pos hx hy
    rw [if_neg (by omega), if_pos this, if_neg (by omega), if_pos hx, if_neg (by omega), if_pos hy]; rfl
theorem sgn_bound (x : Int) : -1 ≤ sgnI x ∧ sgnI x ≤ 1 := by unfold sgnI; split; omega; split <;> omega

theorem WholeOrder_ok {a b c : ByteArray} (ha : BigOk a) (hb : BigOk b) (hc : BigOk c) : toruslaw02_WholeOrder a b c = some true := by
  obtain ⟨x, fx, dx⟩ := rFit_ok ha (m := 400) (by omega)
  obtain ⟨y, fy, dy⟩ := rFit_ok hb (m := 400) (by omega)
  obtain ⟨z, fz, dz⟩ := rFit_ok hc (m := 400) (by omega)
  have sx := dx.Sm (by omega)
  have sy := dy.Sm (by omega)
  have sz := dz.Sm (by omega)
  have s0 : Sm 0 := Sm_small (by decide)
  have fx' : torusref02_Fit a 400 = some (T10 x) := fx
  have fy' : torusref02_Fit b 400 = some (T10 y) := fy
  have fz' : torusref02_Fit c 400 = some (T10 z) := fz
  have sxz := (dx.add dz).Sm (by omega)
  have syz := (dy.add dz).Sm (by omega)
  have pxz := (dx.mul dz).Sm (by omega)
  have pyz := (dy.mul dz).Sm (by omega)
  have bxy := sgn_bound (x - y)
  have byx := sgn_bound (y - x)
  have bz := sgn_bound z
  have hneg : sgnI (y - x) = -sgnI (x - y) := by
    unfold sgnI
    rcases (show x < y ∨ x = y ∨ y < x by omega) with h | h | h
    · rw [if_neg (by omega), if_pos (by omega), if_pos (by omega)]; omega
    · rw [if_neg (by omega), if_neg (by omega), if_neg (by omega), if_neg (by omega)]; omega
    · rw [if_pos (by omega), if_neg (by omega), if_pos (by omega)]
  rw [toruslaw02_WholeOrder_eq, fx', bS, fy', bS, fz', bS, whole_Cmp_ok sx sy, bS, wsub_ok sx sy ((dx.sub dy).Sm (by omega)), bS]
  simp only
  rw [cne_f rfl, whole_Sign_ok ((dx.sub dy).Sm (by omega)), bS, cne_f (cmp_sub x y), whole_Cmp_ok sy sx, bS, cmp_sub y x, i64_in _ (by omega), cne_f (by rw [cmp_sub, hneg]; omega)]
  -- zero exactly for equal numbers
  have heq : ((cmpI x y == 0) == ((T10 x).toList == (T10 y).toList)) = true := by
    rw [T10_beq]
    by_cases h : x = y
    · rw [cmpI_eq h, decide_eq_true h]; rfl
    · have : ¬ cmpI x y = 0 := by unfold cmpI; split; omega; rw [if_pos (by omega)]; omega
      rw [beq_f this, decide_eq_false h]; rfl
  rw [heq, Bool.not_true, cF, sum_ok sx sz sxz, bS, sum_ok sy sz syz, bS, whole_Cmp_ok sxz syz, bS, cne_f (by rw [cmp_sub, cmp_sub]; congr 1; omega),
    product_ok sx sz pxz, bS, product_ok sy sz pyz, bS, whole_Cmp_ok pxz pyz, bS, whole_Sign_ok sz, bS]
  have hmul : cmpI (x * z) (y * z) = cmpI x y * sgnI z := by rw [cmp_sub, cmp_sub, ← sgn_mul, Int.sub_mul]
  have hmb : -9223372036854775808 ≤ cmpI x y * sgnI z ∧ cmpI x y * sgnI z ≤ 9223372036854775807 := by
    rw [← hmul, cmp_sub]
    have := sgn_bound (x * z - y * z)
    omega
  rw [i64_in _ hmb, cne_f hmul, bs_0]
  have hax := sx.mono (x := x.natAbs) (by omega)
  have hge : cmpI (x.natAbs : Int) 0 ≥ 0 := by
    unfold cmpI; rw [if_neg (by omega)]; split <;> omega
  have hfin : ((whole_Abs (T10 x)).bind fun r14 => (whole_Cmp r14 (T10 0)).bind fun r15 => bif decide (r15 ≥ 0) then toruslaw02_awake.bind fun r16 => some r16 else some false) = some true := by
    rw [whole_Abs_ok sx, bS, whole_Cmp_ok hax s0, bS, cge_t hge, awake_ok, bS]
  by_cases h1 : cmpI x y > 0
  · rw [cgt_t h1]; exact hfin
  · rw [cgt_f h1, whole_Cmp_ok sy sz, bS]
    by_cases h2 : cmpI y z > 0
    · rw [cgt_t h2]; exact hfin
    · have h3 : cmpI x z ≤ 0 := by
        have e1 : ¬ x > y := fun h => h1 (cmp_gt_iff.2 h)
        have e2 : ¬ y > z := fun h => h2 (cmp_gt_iff.2 h)
        by_cases hc : cmpI x z ≤ 0
        · exact hc
        · have := cmp_gt_iff.1 (show cmpI x z > 0 by omega)
          omega
      rw [cgt_f h2, whole_Cmp_ok sx sz, bS, cle_t h3]; exact hfin

theorem WholePowers_ok {a : ByteArray} {m n : Int} (ha : BigOk a) (hm : 0 ≤ m ∧ m ≤ 255) (hn : 0 ≤ n ∧ n ≤ 255) : toruslaw02_WholePowers a m n = some true := by
  obtain ⟨x, fx, dx⟩ := rFit_ok ha (m := 60) (by omega)
  have sx := dx.Sm (by omega)
  have fx' : torusref02_Fit a 60 = some (T10 x) := fx
  have s1 : Sm 1 := Sm_small (by decide)
  obtain ⟨i, hi⟩ : ∃ i : Nat, (i : Int) = m % 6 := ⟨(m % 6).toNat, by omega⟩
  obtain ⟨k, hk⟩ : ∃ k : Nat, (k : Int) = n % 6 := ⟨(n % 6).toNat, by omega⟩
  have hpow : ∀ j : Nat, j ≤ 10 → Nd (60 * j + 1) (x ^ j) := by
    intro j
    induction j with
    | zero => intro _; rw [Int.pow_zero]; exact Nd_small (by omega) (by decide)
    | succ j ih =>
      intro hj
      rw [Int.pow_succ]
      exact ((ih (by omega)).mul dx).mono (by omega)
  have spi := (hpow i (by omega)).Sm (by omega)
  have spk := (hpow k (by omega)).Sm (by omega)
  have sps := (hpow (i + k) (by omega)).Sm (by omega)
  have rz : ∀ z, Sm z → resZ z = (T10 z, 0) := fun z h => by unfold resZ; rw [if_pos h]
  rw [toruslaw02_WholePowers_eq, fx', bS, tmod_in hm.1, tmod_in hn.1]
  simp (disch := omega) only [i64_in]
  have eik : m % 6 + n % 6 = ((i + k : Nat) : Int) := by omega
  rw [eik, ← hi, ← hk, whole_Pow_ok sx (by omega), bS, whole_Pow_ok sx (by omega), bS, whole_Pow_ok sx (by omega), bS, rz _ spi, rz _ spk, rz _ sps]
  have sxx := (dx.mul dx).Sm (by omega)
  have hax := dx.le (x := (x.natAbs : Int)) (by omega)
  have sax := hax.Sm (by omega)
  have hroot : IsRoot (x.natAbs : Int) (x * x) := by
    have e : (x.natAbs : Int) * x.natAbs = x * x := Int.natAbs_mul_self
    refine ⟨by omega, by rw [e]; exact Int.le_refl _, ?_⟩
    have e2 : ((x.natAbs : Int) + 1) * (x.natAbs + 1) = x.natAbs * x.natAbs + 2 * x.natAbs + 1 := by rw [Int.add_mul, Int.mul_add, Int.mul_one, Int.one_mul]; omega
    rw [e2, e]; omega
  rw [product_ok sx sx sxx, bS, whole_Root_ok sxx hroot, bS]
  simp only
  rw [cne_f rfl, cne_f rfl, cne_f rfl, product_ok spi spk (by rw [← Int.pow_add]; exact sps), bS, T10_beq_t (by rw [← Int.pow_add]), Bool.not_true, cF, whole_Abs_ok sx, bS, is_T10 rfl, bS, Bool.not_true, cF]
  obtain ⟨r, hr⟩ := root_ex x.natAbs
  rw [bS, whole_Root_ok sax hr, bS]
  simp only
  have hr0 := hr.1
  have hrle : r ≤ x.natAbs := by
    have h1 := hr.2.1
    by_cases h : r = 0
    · omega
    · have : r * 1 ≤ r * r := Int.mul_le_mul_of_nonneg_left (by omega) hr0
      omega
  have dr : Nd 60 r := hax.le (by omega)
  have sr := dr.Sm (by omega)
  have dr1 : Nd 61 (r + 1) := (dr.add (Nd_small (k := 60) (by omega) (show (1 : Int).natAbs < 10 by decide))).mono (by omega)
  have sr1 := dr1.Sm (by omega)
  have srr := (dr.mul dr).Sm (by omega)
  have sr11 := (dr1.mul dr1).Sm (by omega)
  have hc1 : cmpI (r * r) x.natAbs ≤ 0 := by
    by_cases h : cmpI (r * r) x.natAbs ≤ 0
    · exact h
    · have := cmp_gt_iff.1 (show cmpI (r * r) x.natAbs > 0 by omega)
      have := hr.2.1
      omega
  have hc2 : cmpI ((r + 1) * (r + 1)) x.natAbs > 0 := cmp_gt_iff.2 hr.2.2
  rw [bs_1, sum_ok sr s1 sr1, bS, ceq_t rfl, product_ok sr sr srr, bS, bS, whole_Cmp_ok srr sax, bS, cle_t hc1, product_ok sr1 sr1 sr11, bS, bS, whole_Cmp_ok sr11 sax, bS, cgt_t hc2, awake_ok, bS]

theorem WholeDivisors_ok {a b c : ByteArray} (ha : BigOk a) (hb : BigOk b) (hc : BigOk c) : toruslaw02_WholeDivisors a b c = some true := by
  obtain ⟨x, fx, dx⟩ := rFit_ok ha (m := 60) (by omega)
  obtain ⟨y, fy, dy⟩ := rFit_ok hb (m := 60) (by omega)
  obtain ⟨z, fz, dz⟩ := rFit_ok hc (m := 20) (by omega)
  have sx := dx.Sm (by omega)
  have sy := dy.Sm (by omega)
  have sz := dz.Sm (by omega)
  have s0 : Sm 0 := Sm_small (by decide)
  have fx' : torusref02_Fit a 60 = some (T10 x) := fx
  have fy' : torusref02_Fit b 60 = some (T10 y) := fy
  have fz' : torusref02_Fit c 20 = some (T10 z) := fz
  have dg : Nd 60 ((Int.gcd x y : Nat) : Int) := by
    by_cases h : x = 0
    · subst h; exact dy.le (by simp)
    · refine dx.le ?_
      have := Nat.gcd_le_left y.natAbs (show 0 < x.natAbs by omega)
      simpa [Int.gcd] using this
  have sg := dg.Sm (by omega)
  have pxz := (dx.mul dz).Sm (by omega)
  have pyz := (dy.mul dz).Sm (by omega)
  have pgz := (dg.mul dz).Sm (by omega)
  -- a Bezout equation, whatever the second number is
  obtain ⟨X, Y, hB, hX, hY, hE⟩ : ∃ X Y, whole_Bezout (T10 x) (T10 y) = some (T10 ((Int.gcd x y : Nat) : Int), T10 X, T10 Y, 0) ∧ Nd 61 X ∧ Nd 200 Y ∧ x * X + y * Y = (Int.gcd x y : Nat) := by
    by_cases h : y = 0
    · subst h
      refine ⟨sgnI x, 0, ?_, Nd_small (by omega) (by have := sgn_bound x; omega), Nd_small (by omega) (by decide), ?_⟩
      · rw [whole_Bezout_zero sx, Int.gcd_zero]
      · rw [Int.gcd_zero, Int.mul_zero, Int.add_zero]
        unfold sgnI
        split
        · omega
        · split <;> omega
    · obtain ⟨X, Y, e1, e2⟩ := whole_Bezout_ok sx sy h
      obtain ⟨f1, f2, f3⟩ := e2
      have hgpos : 0 < Int.gcd x y := Int.gcd_pos_of_ne_zero_right _ h
      have hX : X * 1 ≤ X * (Int.gcd x y : Nat) := Int.mul_le_mul_of_nonneg_left (by omega) f2
      have dX' : Nd 60 X := dy.le (by omega)
      refine ⟨X, Y, e1, dX'.mono (by omega), ?_, f1⟩
      -- y Y is the divisor less x X
      have h1 : Nd 200 (y * Y) := by
        have : y * Y = (Int.gcd x y : Nat) - x * X := by omega
        rw [this]
        exact (dg.sub (dx.mul dX')).mono (by omega)
      refine h1.le ?_
      rw [Int.natAbs_mul]
      exact Nat.le_mul_of_pos_left _ (by omega)
  have pxX := (dx.mul hX).Sm (by omega)
  have pyY := (dy.mul hY).Sm (by omega)
  have sX := hX.Sm (by omega)
  have sY := hY.Sm (by omega)
  rw [toruslaw02_WholeDivisors_eq, fx', bS, fy', bS, fz', bS, hB, bS, whole_Gcd_ok sx sy, bS]
  simp only
  rw [cne_f rfl, cne_f rfl, T10_beq_t rfl, Bool.not_true, cF, product_ok sx sX pxX, bS, product_ok sy sY pyY, bS, sum_ok pxX pyY (by rw [hE]; exact sg), bS, T10_beq_t hE, Bool.not_true, cF,
    product_ok sx sz pxz, bS, product_ok sy sz pyz, bS, whole_Gcd_ok pxz pyz, bS, product_ok sg sz pgz, bS, whole_Abs_ok pgz, bS]
  simp only
  have hgm : ((Int.gcd (x * z) (y * z) : Nat) : Int) = ((((Int.gcd x y : Nat) : Int) * z).natAbs : Nat) := by
    rw [Int.gcd_mul_right, Int.natAbs_mul, Int.natAbs_natCast]
  rw [is_T10 hgm, bS, Bool.not_true, cF, bs_0]
  by_cases h : ((Int.gcd x y : Nat) : Int) = 0
  · have hg0 : Int.gcd x y = 0 := by omega
    have hx0 : x = 0 := Int.eq_zero_of_gcd_eq_zero_left hg0
    have hy0 : y = 0 := Int.eq_zero_of_gcd_eq_zero_right hg0
    rw [T10_beq_t h, cT, T10_beq_t hx0, cT, T10_beq_t hy0, cT, awake_ok, bS]
  · rw [T10_beq_f h, cF]
    obtain ⟨p, hp⟩ : ((Int.gcd x y : Nat) : Int) ∣ x := Int.gcd_dvd_left ..
    obtain ⟨q, hq⟩ : ((Int.gcd x y : Nat) : Int) ∣ y := Int.gcd_dvd_right ..
    have e1 : x.fdiv (Int.gcd x y : Nat) = p := by conv => lhs; lhs; rw [hp]
                                                   exact Int.mul_fdiv_cancel_left _ h
    have e2 : y.fdiv (Int.gcd x y : Nat) = q := by conv => lhs; lhs; rw [hq]
                                                   exact Int.mul_fdiv_cancel_left _ h
    have e3 : x.fmod (Int.gcd x y : Nat) = 0 := by have := Int.mul_fdiv_add_fmod x (Int.gcd x y : Nat); rw [e1] at this; omega
    have e4 : y.fmod (Int.gcd x y : Nat) = 0 := by have := Int.mul_fdiv_add_fmod y (Int.gcd x y : Nat); rw [e2] at this; omega
    have sp : Sm p := by rw [← e1]; exact sx.mono (fdiv_natAbs_le h)
    have sq : Sm q := by rw [← e2]; exact sy.mono (fdiv_natAbs_le h)
    have hone : ((Int.gcd p q : Nat) : Int) = 1 := by
      have h1 : Int.gcd x y = Int.gcd x y * Int.gcd p q := by
        obtain ⟨G, hG⟩ : ∃ G : Nat, G = Int.gcd x y := ⟨_, rfl⟩
        rw [← hG] at hp hq ⊢
        rw [hG]
        conv => lhs; rw [hp, hq]
        rw [Int.gcd_mul_left, Int.natAbs_natCast, hG]
      have h2 : Int.gcd x y * 1 = Int.gcd x y * Int.gcd p q := by omega
      have := Nat.eq_of_mul_eq_mul_left (by omega) h2
      omega
    rw [whole_DivMod_ok sx sg h, bS, whole_DivMod_ok sy sg h, bS, e1, e2, e3, e4]
    simp only
    rw [whole_Gcd_ok sp sq, bS, ceq_t rfl, ceq_t rfl, T10_beq_t rfl, cT, cT]
    simp only
    rw [bs_1, is_T10 hone, bS, cT, awake_ok, bS]

theorem u8_wf {n : Int} (h : (Lit.int .u8 n).wf = true) : 0 ≤ n ∧ n ≤ 255 := by
  have := (Lit.wf_int_iff .u8 n).1 h
  have e1 : IntKind.min .u8 = 0 := by decide
  have e2 : IntKind.max .u8 = 255 := by decide
  rw [e1, e2] at this
  exact this

theorem WholeDivision_law (a b : ByteArray) (ha : a.size ≤ 140737488351232) (hb : b.size ≤ 140737488351232) : toruslaw02_WholeDivision a b = some true := WholeDivision_ok (BigOk_of ha) (BigOk_of hb)
theorem WholeOrder_law (a b c : ByteArray) (ha : a.size ≤ 140737488351232) (hb : b.size ≤ 140737488351232) (hc : c.size ≤ 140737488351232) : toruslaw02_WholeOrder a b c = some true := WholeOrder_ok (BigOk_of ha) (BigOk_of hb) (BigOk_of hc)
theorem WholeDivisors_law (a b c : ByteArray) (ha : a.size ≤ 140737488351232) (hb : b.size ≤ 140737488351232) (hc : c.size ≤ 140737488351232) : toruslaw02_WholeDivisors a b c = some true := WholeDivisors_ok (BigOk_of ha) (BigOk_of hb) (BigOk_of hc)
theorem WholePowers_law (a : ByteArray) (m n : Int) (ha : a.size ≤ 140737488351232) (hm : (Lit.int .u8 m).wf = true) (hn : (Lit.int .u8 n).wf = true) : toruslaw02_WholePowers a m n = some true := WholePowers_ok (BigOk_of ha) (u8_wf hm) (u8_wf hn)
end Go.Proofs.Ytlpkaimkmfgpiaa.Ev
