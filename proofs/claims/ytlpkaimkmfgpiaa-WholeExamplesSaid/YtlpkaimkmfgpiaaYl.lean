/- YtlpkaimkmfgpiaaYl: a part of the proof (YtlpkaimkmfgpiaaL2, YtlpkaimkmfgpiaaL3, YtlpkaimkmfgpiaaL4). No condition. -/
import Derived.Test.YtlpkaimkmfgpiaaYk
import Derived.DataShut
set_option linter.unusedVariables false
set_option linter.unusedSimpArgs false
set_option linter.unusedSectionVars false
namespace Go.Proofs.Ytlpkaimkmfgpiaa.Ev
open Go.Abs Go.IntWalk

theorem sgn_natAbs_cmp {x y : Int} (h : x.natAbs < y.natAbs) : cmpI (x.natAbs : Int) (y.natAbs : Int) < 0 := cmp_lt_iff.2 (by omega)

theorem WholeDivision_ok {a b : ByteArray} (ha : BigOk a) (hb : BigOk b) : toruslaw02_WholeDivision a b = some true := by
  obtain ⟨x, fx, dx⟩ := rFit_ok ha (m := 900) (by omega)
  obtain ⟨y, fy, dy⟩ := rFit_ok hb (m := 900) (by omega)
  have sx := dx.Sm (by omega)
  have sy := dy.Sm (by omega)
  have fx' : torusref02_Fit a 900 = some (T10 x) := fx
  have fy' : torusref02_Fit b 900 = some (T10 y) := fy
  have tt : (ByteArray.empty.toList == ByteArray.empty.toList) = true := by rw [str_beq']; simp
  rw [toruslaw02_WholeDivision_eq, fx', bS, fy', bS, bs_0]
  by_cases h : y = 0
  · rw [whole_DivMod_zero sx sy h, bS, T10_beq_t h, cT, ceq_t rfl]
    simp only
    rw [tt, cT, cT, awake_ok, bS]
  · have hq : (x.fdiv y).natAbs ≤ x.natAbs := fdiv_natAbs_le h
    have hr : (x.fmod y).natAbs < y.natAbs := fmod_natAbs_lt h
    have sq := sx.mono hq
    have sr := sy.mono (Nat.le_of_lt hr)
    have hdm : x.fdiv y * y + x.fmod y = x := by rw [Int.mul_comm]; exact Int.mul_fdiv_add_fmod x y
    have spr : Sm (x.fdiv y * y) := by
      have : x.fdiv y * y = x - x.fmod y := by omega
      rw [this]
      exact ((dx.sub (dy.le (Nat.le_of_lt hr))).Sm (by omega))
    rw [whole_DivMod_ok sx sy h, bS, T10_beq_f h, cF]
    simp only
    rw [cne_f rfl, product_ok sq sy spr, bS, sum_ok spr sr (by rw [hdm]; exact sx), bS, T10_beq_t hdm, Bool.not_true, cF]
    have hn1 := sy.mono (x := y.natAbs) (by omega)
    have hn2 := sr.mono (x := (x.fmod y).natAbs) (by omega)
    by_cases hz : x.fmod y = 0
    · rw [T10_beq_t hz, Bool.not_true, cF, whole_Abs_ok sr, bS, whole_Abs_ok sy, bS, whole_Cmp_ok hn2 hn1, bS, clt_t (sgn_natAbs_cmp hr), awake_ok, bS]
    · have hs : sgnI (x.fmod y) = sgnI y := by
        rcases Int.lt_or_lt_of_ne h with hy | hy
        · obtain ⟨_, e2, e3⟩ := (Int.fdiv_fmod_unique' (a := x) (b := y) (r := x.fmod y) (q := x.fdiv y) hy).1 ⟨rfl, rfl⟩
          unfold sgnI
          rw [if_pos (by omega), if_pos hy]
        · obtain ⟨_, e2, e3⟩ := (Int.fdiv_fmod_unique (a := x) (b := y) (r := x.fmod y) (q := x.fdiv y) hy).1 ⟨rfl, rfl⟩
          unfold sgnI
          rw [if_neg (by omega), if_pos (by omega), if_neg (by omega), if_pos hy]
      rw [T10_beq_f hz, Bool.not_false, cT, whole_Sign_ok sr, bS, whole_Sign_ok sy, bS, cne_f hs, whole_Abs_ok sr, bS, whole_Abs_ok sy, bS, whole_Cmp_ok hn2 hn1, bS, clt_t (sgn_natAbs_cmp hr), awake_ok, bS]

theorem cmp_sub (x y : Int) : cmpI x y = sgnI (x - y) := by
  rcases (show x < y ∨ x = y ∨ y < x by omega) with h | h | h
  · rw [cmpI_lt h]; unfold sgnI; rw [if_pos (by omega)]
  · rw [cmpI_eq h]; unfold sgnI; rw [if_neg (by omega), if_neg (by omega)]
  · rw [cmpI_gt h]; unfold sgnI; rw [if_neg (by omega), if_pos (by omega)]
theorem sgn_mul (x y : Int) : sgnI (x * y) = sgnI x * sgnI y := by
  unfold sgnI
  rcases (show x < 0 ∨ x = 0 ∨ 0 < x by omega) with hx | rfl | hx <;> rcases (show y < 0 ∨ y = 0 ∨ 0 < y by omega) with hy | rfl | hy
  · have := Int.mul_pos_of_neg_of_neg hx hy
    rw [if_neg (by omega), if_pos this, if_pos hx, if_pos hy]; rfl
  · simp
  · have := Int.mul_neg_of_neg_of_pos hx hy
    rw [if_pos this, if_pos hx, if_neg (by omega), if_pos hy]; rfl
  · simp
  · simp
  · simp
  · have := Int.mul_neg_of_pos_of_neg hx hy
    rw [if_pos this, if_neg (by omega), if_pos hx, if_pos hy]; rfl
  · simp
  · have := Int.mul_pos hx hy
    rw [if_neg (by omega), if_pos this, if_neg (by omega), if_pos hx, if_neg (by omega), if_pos hy]; rfl
theorem sgn_bound (x : Int) : -1 ≤ sgnI x ∧ sgnI x ≤ 1 := by unfold sgnI; split; omega; split <;> omega

theorem WholeOrder_ok {a b c : ByteArray} (ha : BigOk a) (hb : BigOk b) (hc : BigOk c) : toruslaw02_WholeOrder a b c = some true := by
  obtain ⟨x, fx, dx⟩ := rFit_ok ha (m := 400) (by omega)
  obtain ⟨y, fy, dy⟩ := rFit_ok hb (m := 400) (by omega)
  obtain ⟨z, fz, dz⟩ := rFit_ok hc (m := 400) (by omega)
  have sx := dx.Sm (by omega)
  have sy := dy.Sm (by omega)
  have sz := dz.Sm (by omega)
  have s0 : Sm 0 := Sm_small (by decide)
  have fx' : torusref02_Fit a 400 = some (T10 x) := fx
  have fy' : torusref02_Fit b 400 = some (T10 y) := fy
  have fz' : torusref02_Fit c 400 = some (T10 z) := fz
  have sxz := (dx.add dz).Sm (by omega)
  have syz := (dy.add dz).Sm (by omega)
  have pxz := (dx.mul dz).Sm (by omega)
  have pyz := (dy.mul dz).Sm (by omega)
  have bxy := sgn_bound (x - y)
  have byx := sgn_bound (y - x)
  have bz := sgn_bound z
  have hneg : sgnI (y - x) = -sgnI (x - y) := by
    unfold sgnI
    rcases (show x < y ∨ x = y ∨ y < x by omega) with h | h | h
    · rw [if_neg (by omega), if_pos (by omega), if_pos (by omega)]; omega
    · rw [if_neg (by omega), if_neg (by omega), if_neg (by omega), if_neg (by omega)]; omega
    · rw [if_pos (by omega), if_neg (by omega), if_pos (by omega)]
  rw [toruslaw02_WholeOrder_eq, fx', bS, fy', bS, fz', bS, whole_Cmp_ok sx sy, bS, wsub_ok sx sy ((dx.sub dy).Sm (by omega)), bS]
  simp only
  rw [cne_f rfl, whole_Sign_ok ((dx.sub dy).Sm (by omega)), bS, cne_f (cmp_sub x y), whole_Cmp_ok sy sx, bS, cmp_sub y x, i64_in _ (by omega), cne_f (by rw [cmp_sub, hneg]; omega)]
  -- zero exactly for equal numbers
  have heq : ((cmpI x y == 0) == ((T10 x).toList == (T10 y).toList)) = true := by
    rw [T10_beq]
    by_cases h : x = y
    · rw [cmpI_eq h, decide_eq_true h]; rfl
    · have : ¬ cmpI x y = 0 := by unfold cmpI; split; omega; rw [if_pos (by omega)]; omega
      rw [beq_f this, decide_eq_false h]; rfl
  rw [heq, Bool.not_true, cF, sum_ok sx sz sxz, bS, sum_ok sy sz syz, bS, whole_Cmp_ok sxz syz, bS, cne_f (by rw [cmp_sub, cmp_sub]; congr 1; omega),
    product_ok sx sz pxz, bS, product_ok sy sz pyz, bS, whole_Cmp_ok pxz pyz, bS, whole_Sign_ok sz, bS]
  have hmul : cmpI (x * z) (y * z) = cmpI x y * sgnI z := by rw [cmp_sub, cmp_sub, ← sgn_mul, Int.sub_mul]
  have hmb : -9223372036854775808 ≤ cmpI x y * sgnI z ∧ cmpI x y * sgnI z ≤ 9223372036854775807 := by
    rw [← hmul, cmp_sub]
    have := sgn_bound (x * z - y * z)
    omega
  rw [i64_in _ hmb, cne_f hmul, bs_0]
  have hax := sx.mono (x := x.natAbs) (by omega)
  have hge : cmpI (x.natAbs : Int) 0 ≥ 0 := by
    unfold cmpI; rw [if_neg (by omega)]; split <;> omega
  have hfin : ((whole_Abs (T10 x)).bind fun r14 => (whole_Cmp r14 (T10 0)).bind fun r15 => bif decide (r15 ≥ 0) then toruslaw02_awake.bind fun r16 => some r16 else some false) = some true := by
    rw [whole_Abs_ok sx, bS, whole_Cmp_ok hax s0, bS, cge_t hge, awake_ok, bS]
  by_cases h1 : cmpI x y > 0
  · rw [cgt_t h1]; exact hfin
  · rw [cgt_f h1, whole_Cmp_ok sy sz, bS]
    by_cases h2 : cmpI y z > 0
    · rw [cgt_t h2]; exact hfin
    · have h3 : cmpI x z ≤ 0 := by
        have e1 : ¬ x > y := fun h => h1 (cmp_gt_iff.2 h)
        have e2 : ¬ y > z := fun h => h2 (cmp_gt_iff.2 h)
        by_cases hc : cmpI x z ≤ 0
        · exact hc
        · have := cmp_gt_iff.1 (show cmpI x z > 0 by omega)
          omega
      rw [cgt_f h2, whole_Cmp_ok sx sz, bS, cle_t h3]; exact hfin

theorem WholePowers_ok {a : ByteArray} {m n : Int} (ha : BigOk a) (hm : 0 ≤ m ∧ m ≤ 255) (hn : 0 ≤ n ∧ n ≤ 255) : toruslaw02_WholePowers a m n = some true := by
  obtain ⟨x, fx, dx⟩ := rFit_ok ha (m := 60) (by omega)
  have sx := dx.Sm (by omega)
  have fx' : torusref02_Fit a 60 = some (T10 x) := fx
  have s1 : Sm 1 := Sm_small (by decide)
  obtain ⟨i, hi⟩ : ∃ i : Nat, (i : Int) = m % 6 := ⟨(m % 6).toNat, by omega⟩
  obtain ⟨k, hk⟩ : ∃ k : Nat, (k : Int) = n % 6 := ⟨(n % 6).toNat, by omega⟩
  have hpow : ∀ j : Nat, j ≤ 10 → Nd (60 * j + 1) (x ^ j) := by
    intro j
    induction j with
    | zero => intro _; rw [Int.pow_zero]; exact Nd_small (by omega) (by decide)
    | succ j ih =>
      intro hj
      rw [Int.pow_succ]
      exact ((ih (by omega)).mul dx).mono (by omega)
  have spi := (hpow i (by omega)).Sm (by omega)
  have spk := (hpow k (by omega)).Sm (by omega)
  have sps := (hpow (i + k) (by omega)).Sm (by omega)
  have rz : ∀ z, Sm z → resZ z = (T10 z, 0) := fun z h => by unfold resZ; rw [if_pos h]
  rw [toruslaw02_WholePowers_eq, fx', bS, tmod_in hm.1, tmod_in hn.1]
  simp (disch := omega) only [i64_in]
  have eik : m % 6 + n % 6 = ((i + k : Nat) : Int) := by omega
  rw [eik, ← hi, ← hk, whole_Pow_ok sx (by omega), bS, whole_Pow_ok sx (by omega), bS, whole_Pow_ok sx (by omega), bS, rz _ spi, rz _ spk, rz _ sps]
  have sxx := (dx.mul dx).Sm (by omega)
  have hax := dx.le (x := (x.natAbs : Int)) (by omega)
  have sax := hax.Sm (by omega)
  have hroot : IsRoot (x.natAbs : Int) (x * x) := by
    have e : (x.natAbs : Int) * x.natAbs = x * x := Int.natAbs_mul_self
    refine ⟨by omega, by rw [e]; exact Int.le_refl _, ?_⟩
    have e2 : ((x.natAbs : Int) + 1) * (x.natAbs + 1) = x.natAbs * x.natAbs + 2 * x.natAbs + 1 := by rw [Int.add_mul, Int.mul_add, Int.mul_one, Int.one_mul]; omega
    rw [e2, e]; omega
  rw [product_ok sx sx sxx, bS, whole_Root_ok sxx hroot, bS]
  simp only
  rw [cne_f rfl, cne_f rfl, cne_f rfl, product_ok spi spk (by rw [← Int.pow_add]; exact sps), bS, T10_beq_t (by rw [← Int.pow_add]), Bool.not_true, cF, whole_Abs_ok sx, bS, is_T10 rfl, bS, Bool.not_true, cF]
  obtain ⟨r, hr⟩ := root_ex x.natAbs
  rw [bS, whole_Root_ok sax hr, bS]
  simp only
  have hr0 := hr.1
  have hrle : r ≤ x.natAbs := by
    have h1 := hr.2.1
    by_cases h : r = 0
    · omega
    · have : r * 1 ≤ r * r := Int.mul_le_mul_of_nonneg_left (by omega) hr0
      omega
  have dr : Nd 60 r := hax.le (by omega)
  have sr := dr.Sm (by omega)
  have dr1 : Nd 61 (r + 1) := (dr.add (Nd_small (k := 60) (by omega) (show (1 : Int).natAbs < 10 by decide))).mono (by omega)
  have sr1 := dr1.Sm (by omega)
  have srr := (dr.mul dr).Sm (by omega)
  have sr11 := (dr1.mul dr1).Sm (by omega)
  have hc1 : cmpI (r * r) x.natAbs ≤ 0 := by
    by_cases h : cmpI (r * r) x.natAbs ≤ 0
    · exact h
    · have := cmp_gt_iff.1 (show cmpI (r * r) x.natAbs > 0 by omega)
      have := hr.2.1
      omega
  have hc2 : cmpI ((r + 1) * (r + 1)) x.natAbs > 0 := cmp_gt_iff.2 hr.2.2
  rw [bs_1, sum_ok sr s1 sr1, bS, ceq_t rfl, product_ok sr sr srr, bS, bS, whole_Cmp_ok srr sax, bS, cle_t hc1, product_ok sr1 sr1 sr11, bS, bS, whole_Cmp_ok sr11 sax, bS, cgt_t hc2, awake_ok, bS]

theorem WholeDivisors_ok {a b c : ByteArray} (ha : BigOk a) (hb : BigOk b) (hc : BigOk c) : toruslaw02_WholeDivisors a b c = some true := by
  obtain ⟨x, fx, dx⟩ := rFit_ok ha (m := 60) (by omega)
  obtain ⟨y, fy, dy⟩ := rFit_ok hb (m := 60) (by omega)
  obtain ⟨z, fz, dz⟩ := rFit_ok hc (m := 20) (by omega)
  have sx := dx.Sm (by omega)
  have sy := dy.Sm (by omega)
  have sz := dz.Sm (by omega)
  have s0 : Sm 0 := Sm_small (by decide)
  have fx' : torusref02_Fit a 60 = some (T10 x) := fx
  have fy' : torusref02_Fit b 60 = some (T10 y) := fy
  have fz' : torusref02_Fit c 20 = some (T10 z) := fz
  have dg : Nd 60 ((Int.gcd x y : Nat) : Int) := by
    by_cases h : x = 0
    · subst h; exact dy.le (by simp)
    · refine dx.le ?_
      have := Nat.gcd_le_left y.natAbs (show 0 < x.natAbs by omega)
      simpa [Int.gcd] using this
  have sg := dg.Sm (by omega)
  have pxz := (dx.mul dz).Sm (by omega)
  have pyz := (dy.mul dz).Sm (by omega)
  have pgz := (dg.mul dz).Sm (by omega)
  -- a Bezout equation, whatever the second number is
  obtain ⟨X, Y, hB, hX, hY, hE⟩ : ∃ X Y, whole_Bezout (T10 x) (T10 y) = some (T10 ((Int.gcd x y : Nat) : Int), T10 X, T10 Y, 0) ∧ Nd 61 X ∧ Nd 200 Y ∧ x * X + y * Y = (Int.gcd x y : Nat) := by
    by_cases h : y = 0
    · subst h
      refine ⟨sgnI x, 0, ?_, Nd_small (by omega) (by have := sgn_bound x; omega), Nd_small (by omega) (by decide), ?_⟩
      · rw [whole_Bezout_zero sx, Int.gcd_zero]
      · rw [Int.gcd_zero, Int.mul_zero, Int.add_zero]
        unfold sgnI
        split
        · omega
        · split <;> omega
    · obtain ⟨X, Y, e1, e2⟩ := whole_Bezout_ok sx sy h
      obtain ⟨f1, f2, f3⟩ := e2
      have hgpos : 0 < Int.gcd x y := Int.gcd_pos_of_ne_zero_right _ h
      have hX : X * 1 ≤ X * (Int.gcd x y : Nat) := Int.mul_le_mul_of_nonneg_left (by omega) f2
      have dX' : Nd 60 X := dy.le (by omega)
      refine ⟨X, Y, e1, dX'.mono (by omega), ?_, f1⟩
      -- y Y is the divisor less x X
      have h1 : Nd 200 (y * Y) := by
        have : y * Y = (Int.gcd x y : Nat) - x * X := by omega
        rw [this]
        exact (dg.sub (dx.mul dX')).mono (by omega)
      refine h1.le ?_
      rw [Int.natAbs_mul]
      exact Nat.le_mul_of_pos_left _ (by omega)
  have pxX := (dx.mul hX).Sm (by omega)
  have pyY := (dy.mul hY).Sm (by omega)
  have sX := hX.Sm (by omega)
  have sY := hY.Sm (by omega)
  rw [toruslaw02_WholeDivisors_eq, fx', bS, fy', bS, fz', bS, hB, bS, whole_Gcd_ok sx sy, bS]
  simp only
  rw [cne_f rfl, cne_f rfl, T10_beq_t rfl, Bool.not_true, cF, product_ok sx sX pxX, bS, product_ok sy sY pyY, bS, sum_ok pxX pyY (by rw [hE]; exact sg), bS, T10_beq_t hE, Bool.not_true, cF,
    product_ok sx sz pxz, bS, product_ok sy sz pyz, bS, whole_Gcd_ok pxz pyz, bS, product_ok sg sz pgz, bS, whole_Abs_ok pgz, bS]
  simp only
  have hgm : ((Int.gcd (x * z) (y * z) : Nat) : Int) = ((((Int.gcd x y : Nat) : Int) * z).natAbs : Nat) := by
    rw [Int.gcd_mul_right, Int.natAbs_mul, Int.natAbs_natCast]
  rw [is_T10 hgm, bS, Bool.not_true, cF, bs_0]
  by_cases h : ((Int.gcd x y : Nat) : Int) = 0
  · have hg0 : Int.gcd x y = 0 := by omega
    have hx0 : x = 0 := Int.eq_zero_of_gcd_eq_zero_left hg0
    have hy0 : y = 0 := Int.eq_zero_of_gcd_eq_zero_right hg0
    rw [T10_beq_t h, cT, T10_beq_t hx0, cT, T10_beq_t hy0, cT, awake_ok, bS]
  · rw [T10_beq_f h, cF]
    obtain ⟨p, hp⟩ : ((Int.gcd x y : Nat) : Int) ∣ x := Int.gcd_dvd_left ..
    obtain ⟨q, hq⟩ : ((Int.gcd x y : Nat) : Int) ∣ y := Int.gcd_dvd_right ..
    have e1 : x.fdiv (Int.gcd x y : Nat) = p := by conv => lhs; lhs; rw [hp]
                                                   exact Int.mul_fdiv_cancel_left _ h
    have e2 : y.fdiv (Int.gcd x y : Nat) = q := by conv => lhs; lhs; rw [hq]
                                                   exact Int.mul_fdiv_cancel_left _ h
    have e3 : x.fmod (Int.gcd x y : Nat) = 0 := by have := Int.mul_fdiv_add_fmod x (Int.gcd x y : Nat); rw [e1] at this; omega
    have e4 : y.fmod (Int.gcd x y : Nat) = 0 := by have := Int.mul_fdiv_add_fmod y (Int.gcd x y : Nat); rw [e2] at this; omega
    have sp : Sm p := by rw [← e1]; exact sx.mono (fdiv_natAbs_le h)
    have sq : Sm q := by rw [← e2]; exact sy.mono (fdiv_natAbs_le h)
    have hone : ((Int.gcd p q : Nat) : Int) = 1 := by
      have h1 : Int.gcd x y = Int.gcd x y * Int.gcd p q := by
        obtain ⟨G, hG⟩ : ∃ G : Nat, G = Int.gcd x y := ⟨_, rfl⟩
        rw [← hG] at hp hq ⊢
        rw [hG]
        conv => lhs; rw [hp, hq]
        rw [Int.gcd_mul_left, Int.natAbs_natCast, hG]
      have h2 : Int.gcd x y * 1 = Int.gcd x y * Int.gcd p q := by omega
      have := Nat.eq_of_mul_eq_mul_left (by omega) h2
      omega
    rw [whole_DivMod_ok sx sg h, bS, whole_DivMod_ok sy sg h, bS, e1, e2, e3, e4]
    simp only
    rw [whole_Gcd_ok sp sq, bS, ceq_t rfl, ceq_t rfl, T10_beq_t rfl, cT, cT]
    simp only
    rw [bs_1, is_T10 hone, bS, cT, awake_ok, bS]

theorem u8_wf {n : Int} (h : (Lit.int .u8 n).wf = true) : 0 ≤ n ∧ n ≤ 255 := by
  have := (Lit.wf_int_iff .u8 n).1 h
  have e1 : IntKind.min .u8 = 0 := by decide
  have e2 : IntKind.max .u8 = 255 := by decide
  rw [e1, e2] at this
  exact this

theorem WholeDivision_law (a b : ByteArray) (ha : a.size ≤ 140737488351232) (hb : b.size ≤ 140737488351232) : toruslaw02_WholeDivision a b = some true := WholeDivision_ok (BigOk_of ha) (BigOk_of hb)
theorem WholeOrder_law (a b c : ByteArray) (ha : a.size ≤ 140737488351232) (hb : b.size ≤ 140737488351232) (hc : c.size ≤ 140737488351232) : toruslaw02_WholeOrder a b c = some true := WholeOrder_ok (BigOk_of ha) (BigOk_of hb) (BigOk_of hc)
theorem WholeDivisors_law (a b c : ByteArray) (ha : a.size ≤ 140737488351232) (hb : b.size ≤ 140737488351232) (hc : c.size ≤ 140737488351232) : toruslaw02_WholeDivisors a b c = some true := WholeDivisors_ok (BigOk_of ha) (BigOk_of hb) (BigOk_of hc)
theorem WholePowers_law (a : ByteArray) (m n : Int) (ha : a.size ≤ 140737488351232) (hm : (Lit.int .u8 m).wf = true) (hn : (Lit.int .u8 n).wf = true) : toruslaw02_WholePowers a m n = some true := WholePowers_ok (BigOk_of ha) (u8_wf hm) (u8_wf hn)
end Go.Proofs.Ytlpkaimkmfgpiaa.Ev
set_option linter.unusedVariables false
set_option linter.unusedSimpArgs false
set_option linter.unusedSectionVars false
set_option exponentiation.threshold 5000
namespace Go.Proofs.Ytlpkaimkmfgpiaa.Ev
open Go.Abs Go.IntWalk

/-! ### Nines -/
theorem nines_walk (n : Nat) (hn : n ≤ 100000) : ∀ (m k : Nat), m + k = n → toruslaw02_nines_L0 (n : Int) (k : Int) (List.replicate k 57) = some (strOf (List.replicate n 57))
  | 0, k, h => by
    obtain rfl : k = n := by omega
    rw [toruslaw02_nines_L0_eq, clt_f (by omega)]
  | m + 1, k, h => by
    rw [toruslaw02_nines_L0_eq, clt_t (by omega), cApp (by omega) (by rw [List.length_replicate]; omega), i64_in _ (by omega)]
    have e : List.replicate k (57 : Int) ++ [57] = List.replicate (k + 1) 57 := by rw [List.replicate_succ']
    rw [e]
    have := nines_walk n hn m (k + 1) (by omega)
    rwa [Int.natCast_add, Int.natCast_one] at this

theorem decv_nines : ∀ n : Nat, decv (List.replicate n 57) = 10 ^ n - 1
  | 0 => rfl
  | n + 1 => by
    rw [List.replicate_succ', decv_append, decv_nines n]
    have : decv [57] = 9 := rfl
    rw [this, List.length_singleton, Int.pow_succ, Int.pow_zero, Int.pow_succ]
    omega

def ninesZ (n : Nat) : Int := 10 ^ n - 1
theorem pow10_pos (n : Nat) : (1 : Int) ≤ 10 ^ n := by
  have := pow10_le (k := 0) (n := n) (by omega)
  rwa [Int.pow_zero] at this
theorem pow10_abs (n : Nat) : ((10 : Int) ^ n).natAbs = 10 ^ n := by rw [← pow10_cast, Int.natAbs_natCast]

theorem nines_text {n : Nat} (hn : 1 ≤ n) : strOf (List.replicate n (57 : Int)) = T10 (ninesZ n) := by
  have hd : Dig 256 (List.replicate n (57 : Int)) := fun x hx => by rw [(List.mem_replicate.1 hx).2]; omega
  obtain ⟨m, rfl⟩ : ∃ m, n = m + 1 := ⟨n - 1, by omega⟩
  have hh : (List.replicate (m + 1) (57 : Int)).head? = some 57 := rfl
  have hb : bodyOf (List.replicate (m + 1) (57 : Int)) = List.replicate (m + 1) 57 := by
    unfold bodyOf; rw [hh, if_neg (by decide)]
  have hok : okText (List.replicate (m + 1) (57 : Int)) = true := by
    unfold okText
    rw [hb, hh]
    have h1 : (List.replicate (m + 1) (57 : Int)).all isD = true := by
      rw [List.all_eq_true]
      intro x hx; rw [(List.mem_replicate.1 hx).2]; rfl
    rw [h1]
    rfl
  have hv : numOf (List.replicate (m + 1) (57 : Int)) = ninesZ (m + 1) := by
    unfold numOf minusOf
    rw [hb, hh, decv_nines]
    rfl
  refine bytesOf_inj ?_
  rw [bytesOf_strOf hd, bytesOf_T10, ← hv]
  exact txtL_of_ok hok

theorem nines_ok {n : Nat} (h1 : 1 ≤ n) (hn : n ≤ 100000) : toruslaw02_nines (n : Int) = some (T10 (ninesZ n)) := by
  rw [toruslaw02_nines_eq]
  have := nines_walk n hn n 0 (by omega)
  rw [← nines_text h1]
  exact this

theorem ninesZ_abs (n : Nat) : (ninesZ n).natAbs + 1 = 10 ^ n := by
  have h1 := pow10_pos n
  have h2 := pow10_abs n
  unfold ninesZ
  omega
theorem ninesZ_Sm {n : Nat} (h : n ≤ 1000) : Sm (ninesZ n) := (Sm_iff _).2 (by
  have h1 := ninesZ_abs n
  have h2 := Nat.pow_le_pow_right (n := 10) (by omega) h
  omega)
theorem ninesZ_pos {n : Nat} (h : 1 ≤ n) : 0 < ninesZ n := by
  have := pow10_le (k := 1) (n := n) h
  unfold ninesZ
  rw [Int.pow_succ, Int.pow_zero] at this
  omega
theorem Sm_pow_not {n : Nat} (h : 1000 ≤ n) {z : Int} (hz : 10 ^ n ≤ z.natAbs) : ¬ Sm z := fun hs => by
  have h1 := (Sm_iff z).1 hs
  have h2 := Nat.pow_le_pow_right (n := 10) (by omega) h
  omega
theorem pow_s (n : Nat) : (10 : Nat) ^ (n + 1) = 10 ^ n * 10 := Nat.pow_succ ..
theorem ninesZ_long : ¬ Sm (ninesZ 1001) := fun hs => by
  have h1 := (Sm_iff _).1 hs
  have h2 := ninesZ_abs 1001
  rw [show (10 : Nat) ^ 1001 = 10 ^ 1000 * 10 from pow_s 1000] at h2
  have h3 : 0 < (10 : Nat) ^ 1000 := Nat.pow_pos (by omega)
  omega

theorem minus_T10 {z : Int} (h : 0 < z) : bs [45] ++ T10 z = T10 (-z) := bytesOf_inj (by
  rw [bytesOf_append, bytesOf_T10, bytesOf_T10]
  unfold txtL
  rw [if_neg (by omega), if_pos (by omega), Int.natAbs_neg]
  rfl)

theorem T10_size_le {z : Int} {k : Nat} (hk : 1 ≤ k) (h : z.natAbs < 10 ^ k) : (T10 z).size ≤ k + 1 := by
  rw [T10_size]
  have := (nd_le_iff z k hk).2 h
  split <;> omega

/-! ### Bad texts -/
def Bad (v : ByteArray) : Prop := BigOk v ∧ intOf v = none

theorem bad_bs {l : List Nat} (h1 : (bs l).size ≤ 100) (h2 : intOf (bs l) = none) : Bad (bs l) := ⟨Nat.le_trans h1 (by decide), h2⟩

theorem etest : (ByteArray.empty.toList == ByteArray.empty.toList) = true := by rw [str_beq']; simp

theorem bad_step {l : List ByteArray} {k : Nat} (hk : k < l.length) (hl : l.length ≤ 1000) (hb : Bad (l.getD k ByteArray.empty)) :
    toruslaw02_WholeExamples_L0 l.length k l = toruslaw02_WholeExamples_L0 l.length ((k + 1 : Nat) : Int) l := by
  generalize hv : l.getD k ByteArray.empty = v at hb
  obtain ⟨h1, h2⟩ := hb
  have hg : l[k]? = some v := by
    rw [← hv]
    simp [List.getD, hk]
  have hi : idx l (k : Int) = some v := hg
  have b1 : BigOk (bs [49]) := by unfold BigOk; decide
  have b0 : BigOk (bs [48]) := by unfold BigOk; decide
  have be : BigOk ByteArray.empty := by unfold BigOk; decide
  have hs : whole_Sum [bs [49], v] = some (ByteArray.empty, 1) := by
    rw [whole_Sum_ok (by simp) (fun s hs => by
      rcases List.mem_cons.1 hs with rfl | hs
      · exact b1
      · rw [List.mem_singleton.1 hs]; exact h1)]
    have e1 : intOf (bs [49]) = some 1 := by rw [bs_1]; exact intOf_T10 (Sm_small (by decide))
    have : sumL [bs [49], v] = none := by unfold sumL; rw [e1]; unfold sumL; rw [h2]
    rw [this]
  have hi64 : IntKind.wrap .i64 ((k : Int) + 1) = ((k + 1 : Nat) : Int) := by rw [i64_in _ (by omega)]; rfl
  rw [toruslaw02_WholeExamples_L0_eq, clt_t (by omega), hi, bS, Int.toNat_natCast, hg, bS,
    whole_Add_bad h1 b1 (.inl h2), bS, whole_DivMod_bad h1 b0 (.inl h2), bS, whole_Gcd_bad b1 h1 (.inr h2), bS, whole_Bezout_bad h1 be (.inl h2), bS,
    whole_Pow_bad h1 h2, bS, whole_Root_bad h1 h2, bS, hs, bS, whole_Int64_bad h1 h2, bS, whole_Valid_bad h1 h2, bS, cF,
    whole_Sign_bad h1 h2, bS, cne_f rfl, whole_Cmp_bad h1 b1 (.inl h2), bS, cne_f rfl, whole_Cmp_bad b1 h1 (.inr h2), bS, cne_f rfl,
    whole_Neg_bad h1 h2, bS, etest, Bool.not_true, cF, whole_Abs_bad h1 h2, bS, etest, Bool.not_true, cF,
    cne_f rfl, cne_f rfl, cne_f rfl, cne_f rfl, cne_f rfl, cne_f rfl, cne_f rfl, cF, hi64]

theorem bad_walk {l : List ByteArray} (hl : l.length ≤ 1000) (hb : ∀ v ∈ l, Bad v) : ∀ (m k : Nat), m + k = l.length → toruslaw02_WholeExamples_L0 l.length k l = toruslaw02_WholeExamples_L0 l.length l.length l
  | 0, k, h => by
    obtain rfl : k = l.length := by omega
    rfl
  | m + 1, k, h => by
    have hm : l.getD k ByteArray.empty ∈ l := by
      have : k < l.length := by omega
      simp [List.getD, this]
    rw [bad_step (by omega) hl (hb _ hm)]
    exact bad_walk hl hb m (k + 1) (by omega)
end Go.Proofs.Ytlpkaimkmfgpiaa.Ev
set_option linter.unusedVariables false
set_option linter.unusedSimpArgs false
set_option linter.unusedSectionVars false
set_option exponentiation.threshold 5000
namespace Go.Proofs.Ytlpkaimkmfgpiaa.Ev
open Go.Abs Go.IntWalk

theorem resZ_t {z : Int} (h : Sm z) : resZ z = (T10 z, 0) := by unfold resZ; rw [if_pos h]
theorem resZ_f {z : Int} (h : ¬ Sm z) : resZ z = (ByteArray.empty, 3) := by unfold resZ; rw [if_neg h]

theorem long_pow : ¬ Sm (10 ^ 1000) := Sm_pow_not (n := 1000) (by omega) (by rw [pow10_abs]; exact Nat.le_refl _)
theorem nines_up (n : Nat) : ninesZ n + 1 = 10 ^ n := by unfold ninesZ; omega

theorem long_prod : ¬ Sm (ninesZ 500 * ninesZ 501) := by
  refine Sm_pow_not (n := 1000) (by omega) ?_
  rw [Int.natAbs_mul]
  have h1 := ninesZ_abs 500
  have h2 := ninesZ_abs 501
  have e : (10 : Nat) ^ 1000 = 10 ^ 500 * 10 ^ 500 := by rw [← Nat.pow_add]
  have e2 : (10 : Nat) ^ 501 = 10 ^ 500 * 10 := pow_s 500
  have h3 : 10 ≤ (10 : Nat) ^ 500 := by
    have := Nat.pow_le_pow_right (n := 10) (by omega) (show 1 ≤ 500 by omega)
    rwa [Nat.pow_one] at this
  rw [e]
  rw [e2] at h2
  generalize (10 : Nat) ^ 500 = A at *
  generalize (ninesZ 500).natAbs = X at *
  generalize (ninesZ 501).natAbs = Y at *
  have hY : Y = 10 * A - 1 := by omega
  have hX : X = A - 1 := by omega
  subst hX
  have h4 : 2 * A ≤ Y := by omega
  have h5 : (A - 1) * (2 * A) ≤ (A - 1) * Y := Nat.mul_le_mul_left _ h4
  have h6 : A * A ≤ (A - 1) * (2 * A) := by
    rw [show (A - 1) * (2 * A) = (A - 1) * 2 * A by rw [Nat.mul_assoc]]
    exact Nat.mul_le_mul_right _ (by omega)
  exact Nat.le_trans h6 h5

theorem size_pow : ((T10 (10 ^ 999)).size : Int) = 1000 := by
  have hp := pow10_pos 999
  rw [T10_size, if_neg (by omega), Nat.add_zero]
  have h1 : nd ((10 : Int) ^ 999) ≤ 1000 := (nd_le_iff _ _ (by omega)).2 (by
    rw [pow10_abs]
    exact Nat.pow_lt_pow_right (by omega) (by omega))
  have h2 : ¬ nd ((10 : Int) ^ 999) ≤ 999 := fun h => by
    have := (nd_le_iff _ _ (by omega)).1 h
    rw [pow10_abs] at this
    exact Nat.lt_irrefl _ this
  omega

theorem pow3_long {N : Nat} (h : 4000 ≤ N) : ¬ Sm (3 ^ N) := by
  refine Sm_pow_not (n := 1000) (by omega) ?_
  have h1 := pow_mono (x := 3) (by omega) h
  refine Nat.le_trans ?_ h1
  rw [Int.natAbs_pow]
  have e : (3 : Nat) ^ 4000 = (3 ^ 4) ^ 1000 := (Nat.pow_mul 3 4 1000)
  show 10 ^ 1000 ≤ (3 : Nat) ^ 4000
  rw [e]
  exact Nat.pow_le_pow_left (by decide) _

theorem pow3 {N : Nat} (h : 4000 ≤ N) (h2 : N ≤ 9223372036854775807) : whole_Pow (T10 3) (N : Int) = some (ByteArray.empty, 3) := by
  rw [whole_Pow_ok (Sm_small (by decide)) h2, resZ_f (pow3_long h)]
theorem powm1 {N : Nat} (h : N % 2 = 1) (h2 : N ≤ 9223372036854775807) : whole_Pow (T10 (-1)) (N : Int) = some (T10 (-1), 0) := by
  rw [whole_Pow_ok (Sm_small (by decide)) h2, neg_one_odd N h, resZ_t (Sm_small (by decide))]

theorem Sm_18 {z : Int} (h : z.natAbs < 10 ^ 19) : Sm z := (Sm_iff z).2 (Nat.lt_of_lt_of_le h (Nat.pow_le_pow_right (by omega) (by omega)))

theorem sum_text {l : List ByteArray} (hl : l.length ≤ 1000) (hb : ∀ s ∈ l, BigOk s) {z : Int} (h : sumL l = some z) : whole_Sum l = some (resZ z) := by
  rw [whole_Sum_ok (by omega) hb, h]

theorem Examples_end (l : List ByteArray) : toruslaw02_WholeExamples_L0 l.length l.length l = some true := by
  have s : ∀ z : Int, z.natAbs < 10000 → Sm z := fun z h => Sm_small h
  have n1000 : toruslaw02_nines (1000 : Int) = some (T10 (ninesZ 1000)) := nines_ok (n := 1000) (by omega) (by omega)
  have n500 : toruslaw02_nines (500 : Int) = some (T10 (ninesZ 500)) := nines_ok (n := 500) (by omega) (by omega)
  have n501 : toruslaw02_nines (501 : Int) = some (T10 (ninesZ 501)) := nines_ok (n := 501) (by omega) (by omega)
  have sN : Sm (ninesZ 1000) := ninesZ_Sm (by omega)
  have p10 : bs [49, 48] = T10 10 := bs_T10 rfl rfl
  have p2 : bs [50] = T10 2 := bs_T10 rfl rfl
  have p3 : bs [51] = T10 3 := bs_T10 rfl rfl
  have p7 : bs [55] = T10 7 := bs_T10 rfl rfl
  have pm2 : bs [45, 50] = T10 (-2) := bs_T10 rfl rfl
  have pm5 : bs [45, 53] = T10 (-5) := bs_T10 rfl rfl
  have pm4 : bs [45, 52] = T10 (-4) := bs_T10 rfl rfl
  have p5 : bs [53] = T10 5 := bs_T10 rfl rfl
  have p4 : bs [52] = T10 4 := bs_T10 rfl rfl
  have i1 : bs [45, 57, 50, 50, 51, 51, 55, 50, 48, 51, 54, 56, 53, 52, 55, 55, 53, 56, 48, 56] = T10 (-9223372036854775808) := bs_T10 rfl rfl
  have i2 : bs [57, 50, 50, 51, 51, 55, 50, 48, 51, 54, 56, 53, 52, 55, 55, 53, 56, 48, 56] = T10 9223372036854775808 := bs_T10 rfl rfl
  have i3 : bs [45, 57, 50, 50, 51, 51, 55, 50, 48, 51, 54, 56, 53, 52, 55, 55, 53, 56, 48, 57] = T10 (-9223372036854775809) := bs_T10 rfl rfl
  have i4 : bs [57, 50, 50, 51, 51, 55, 50, 48, 51, 54, 56, 53, 52, 55, 55, 53, 56, 48, 55] = T10 9223372036854775807 := bs_T10 rfl rfl
  have q1 : whole_Pow (T10 10) 999 = some (T10 (10 ^ 999), 0) := by
    have h := whole_Pow_ok (x := 10) (s _ (by decide)) (n := 999) (by omega)
    rw [resZ_t (z := 10 ^ 999) ((Sm_iff _).2 (by rw [pow10_abs]; exact Nat.pow_lt_pow_right (by omega) (by omega)))] at h
    exact h
  have q2 : whole_Pow (T10 10) 1000 = some (ByteArray.empty, 3) := by
    have h := whole_Pow_ok (x := 10) (s _ (by decide)) (n := 1000) (by omega)
    rw [resZ_f long_pow] at h
    exact h
  have q3 : whole_Pow (T10 2) (-1) = some (ByteArray.empty, 1) := whole_Pow_neg (s _ (by decide)) (by omega)
  have q4 : whole_Pow (T10 3) 4611686018427387904 = some (ByteArray.empty, 3) := pow3 (N := 4611686018427387904) (by omega) (by omega)
  have q5 : whole_Pow (T10 (-1)) 4611686018427387905 = some (T10 (-1), 0) := powm1 (N := 4611686018427387905) (by omega) (by omega)
  have q6 : whole_Pow (T10 0) 0 = some (T10 1, 0) := by
    have h := whole_Pow_ok (x := 0) (s _ (by decide)) (n := 0) (by omega)
    rw [Int.pow_zero, resZ_t (s _ (by decide))] at h
    exact h
  have q7 : whole_Root (T10 (-1)) = some (ByteArray.empty, 1) := whole_Root_neg (s _ (by decide)) (by omega)
  have d1 : whole_DivMod (T10 7) (T10 (-2)) = some (T10 (-4), T10 (-1), 0) := by
    rw [whole_DivMod_ok (s _ (by decide)) (s _ (by decide)) (by decide)]
    rw [show Int.fdiv 7 (-2) = -4 by decide, show Int.fmod 7 (-2) = -1 by decide]
  have d2 : whole_DivMod (T10 0) (T10 (-5)) = some (T10 0, T10 0, 0) := by
    rw [whole_DivMod_ok (s _ (by decide)) (s _ (by decide)) (by decide)]
    rw [show Int.fdiv 0 (-5) = 0 by decide, show Int.fmod 0 (-5) = 0 by decide]
  have a1 : whole_Add (T10 (ninesZ 1000)) (T10 1) = some (ByteArray.empty, 3) := by
    rw [whole_Add_ok sN (s _ (by decide)), nines_up, resZ_f long_pow]
  have a2 : whole_Sub (T10 (ninesZ 1000)) (T10 (-1)) = some (ByteArray.empty, 3) := by
    rw [whole_Sub_ok sN (s _ (by decide)), show ninesZ 1000 - -1 = ninesZ 1000 + 1 by omega, nines_up, resZ_f long_pow]
  have a3 : whole_Mul (T10 (ninesZ 500)) (T10 (ninesZ 501)) = some (ByteArray.empty, 3) := by
    rw [whole_Mul_ok (ninesZ_Sm (by omega)) (ninesZ_Sm (by omega)), resZ_f long_prod]
  have hbig : BigOk (T10 (ninesZ 1000)) := T10_big sN
  have hbig' : BigOk (T10 (-ninesZ 1000)) := T10_big sN.neg
  have t1 : whole_Sum [T10 (ninesZ 1000), T10 (ninesZ 1000), T10 (-ninesZ 1000)] = some (T10 (ninesZ 1000), 0) := by
    rw [sum_text (z := ninesZ 1000) (by simp) (fun v hv => by
      simp only [List.mem_cons, List.not_mem_nil, or_false] at hv
      rcases hv with rfl | rfl | rfl
      · exact hbig
      · exact hbig
      · exact hbig') (by
        simp only [sumL, intOf_T10 sN, intOf_T10 sN.neg]
        exact congrArg some (by omega)), resZ_t sN]
  have t2 : whole_Sum [T10 (ninesZ 1000), T10 1] = some (ByteArray.empty, 3) := by
    rw [sum_text (z := 10 ^ 1000) (by simp) (fun v hv => by
      simp only [List.mem_cons, List.not_mem_nil, or_false] at hv
      rcases hv with rfl | rfl
      · exact hbig
      · exact T10_big (s _ (by decide))) (by
        simp only [sumL, intOf_T10 sN, intOf_T10 (s 1 (by decide))]
        rw [← nines_up]; exact congrArg some (by omega)), resZ_f long_pow]
  have t3 : whole_Sum [] = some (T10 0, 0) := by
    rw [sum_text (z := 0) (by simp) (fun v hv => by cases hv) rfl, resZ_t (s _ (by decide))]
  have m1 : bs [45] ++ T10 (ninesZ 1000) = T10 (-ninesZ 1000) := minus_T10 (ninesZ_pos (by omega))
  have hsz : (bs [45]).size + (T10 (ninesZ 1000)).size ≤ 9223372036854775807 := by
    have h1 : (T10 (ninesZ 1000)).size ≤ 1001 := T10_size_le (by omega) ((Sm_iff _).1 sN)
    have h2 : (bs [45]).size = 1 := rfl
    omega
  have w1 : whole_Int64 (T10 (-9223372036854775808)) = some (-9223372036854775808, true) := by
    rw [whole_Int64_ok (Sm_18 (by decide))]; unfold smallZ; rw [if_pos (by omega)]
  have w2 : whole_Int64 (T10 9223372036854775808) = some (0, false) := by
    rw [whole_Int64_ok (Sm_18 (by decide))]; unfold smallZ; rw [if_neg (by omega)]
  have w3 : whole_Int64 (T10 (-9223372036854775809)) = some (0, false) := by
    rw [whole_Int64_ok (Sm_18 (by decide))]; unfold smallZ; rw [if_neg (by omega)]
  have w4 : whole_Int64 (T10 9223372036854775807) = some (9223372036854775807, true) := by
    rw [whole_Int64_ok (Sm_18 (by decide))]; unfold smallZ; rw [if_pos (by omega)]
  have o1 : whole_Of (-9223372036854775808) = some (T10 (-9223372036854775808)) := whole_Of_ok (by omega) (by omega)
  have z1 : whole_Bezout (T10 5) (T10 0) = some (T10 5, T10 1, T10 0, 0) := by
    have h := whole_Bezout_zero (x := 5) (s _ (by decide))
    rw [show ((Int.natAbs 5 : Nat) : Int) = 5 by decide, show sgnI 5 = 1 by decide] at h
    exact h
  have z3 : whole_Bezout (T10 0) (T10 0) = some (T10 0, T10 0, T10 0, 0) := by
    have h := whole_Bezout_zero (x := 0) (s _ (by decide))
    rw [show ((Int.natAbs 0 : Nat) : Int) = 0 by decide, show sgnI 0 = 0 by decide] at h
    exact h
  have hg : Int.gcd 0 (-4) = 4 := by decide
  have z2 : whole_Bezout (T10 0) (T10 (-4)) = some (T10 4, T10 0, T10 (-1), 0) := by
    obtain ⟨X, Y, hB, hBz⟩ := whole_Bezout_ok (x := 0) (y := -4) (s _ (by decide)) (s _ (by decide)) (by decide)
    obtain ⟨rfl, rfl⟩ := bez_unique (by decide) hBz (X' := 0) (Y' := -1) (by unfold IsBez; rw [hg]; decide)
    rw [hg] at hB
    exact hB
  have ii : ∀ z, toruslaw02_is (T10 z) 0 (T10 z) = some true := fun z => is_T10 rfl
  have tt : ∀ z, ((T10 z).toList == (T10 z).toList) = true := fun z => T10_beq_t rfl
  rw [toruslaw02_WholeExamples_L0_eq, clt_f (by omega), n1000, n500, n501]
  simp only [bS]
  rw [bs_1, bs_m1, p10, p2, p3, p7, pm2, bs_0, pm5, pm4, p5, p4, i1, i2, i3, i4]
  rw [a1, bS, a2, bS, a3, bS, q1, bS, q2, bS, q3, bS, q4, bS, q5, bS, q6, bS, q7, bS, d1, bS, d2, bS]
  rw [etest, Bool.not_true, cF, cne_f rfl, cF, cne_f rfl, cF, cne_f rfl, cne_f size_pow, cne_f rfl, cne_f rfl, cne_f rfl, cne_f rfl]
  rw [ii, bS, Bool.not_true, cF, ii, bS, Bool.not_true, cF, cF, cne_f rfl, ii, bS, Bool.not_true, cF, tt, Bool.not_true, cF, ii, bS, Bool.not_true, cF, tt, Bool.not_true, cF]
  rw [cBle hsz, m1]
  rw [t1, bS, t2, bS, t3, bS, ii, bS, Bool.not_true, cF, etest, Bool.not_true, cF, cne_f rfl, ii, bS, Bool.not_true, cF]
  rw [w1, bS, w2, bS, w3, bS, w4, bS, z1, bS, z2, bS, z3, bS]
  rw [ceq_t rfl, cT, Bool.not_false, cT, cT, ceq_t rfl, cT, o1, bS, tt, cT, ii, bS, cT, tt, cT, tt, cT, ii, bS, cT, tt, cT, cT, ii, bS, cT, cT]

theorem WholeExamples_law : toruslaw02_WholeExamples = some true := by
  have n1001 : toruslaw02_nines (1001 : Int) = some (T10 (ninesZ 1001)) := nines_ok (n := 1001) (by omega) (by omega)
  have hz : (T10 (ninesZ 1001)).size ≤ 1002 := T10_size_le (by omega) (by have := ninesZ_abs 1001; omega)
  have hz' : (T10 (-ninesZ 1001)).size ≤ 1002 := T10_size_le (by omega) (by have := ninesZ_abs 1001; rw [Int.natAbs_neg]; omega)
  have m1 : bs [45] ++ T10 (ninesZ 1001) = T10 (-ninesZ 1001) := minus_T10 (ninesZ_pos (by omega))
  have b1 : Bad (T10 (ninesZ 1001)) := ⟨Nat.le_trans hz (by decide), intOf_long ninesZ_long⟩
  have b2 : Bad (T10 (-ninesZ 1001)) := ⟨Nat.le_trans hz' (by decide), intOf_long (fun h => ninesZ_long (by have := h.neg; rwa [Int.neg_neg] at this))⟩
  rw [toruslaw02_WholeExamples_eq, awake_ok, bS, Bool.not_true, cF, n1001]
  simp only [bS]
  rw [cBle (by have h2 : (bs [45]).size = 1 := rfl; omega), m1]
  generalize hl : [ByteArray.empty, (bs [45]), (bs [43, 49]), (bs [45, 48]), (bs [48, 48]), (bs [48, 49]), (bs [45, 48, 49]), (bs [49, 32]), (bs [32, 49]), (bs [49, 46, 48]), (bs [49, 101, 51]), (bs [48, 120, 49]), (bs [45, 45, 49]), (bs [49, 45]), (bs [255]), T10 (ninesZ 1001), T10 (-ninesZ 1001)] = l
  have h17 : l.length = 17 := by rw [← hl]; rfl
  have hall : ∀ v ∈ l, Bad v := by
    intro v hv
    rw [← hl] at hv
    simp only [List.mem_cons, List.not_mem_nil, or_false] at hv
    rcases hv with rfl | rfl | rfl | rfl | rfl | rfl | rfl | rfl | rfl | rfl | rfl | rfl | rfl | rfl | rfl | rfl | rfl
    · exact ⟨by unfold BigOk; decide, rfl⟩
    · exact bad_bs (by decide) rfl
    · exact bad_bs (by decide) rfl
    · exact bad_bs (by decide) rfl
    · exact bad_bs (by decide) rfl
    · exact bad_bs (by decide) rfl
    · exact bad_bs (by decide) rfl
    · exact bad_bs (by decide) rfl
    · exact bad_bs (by decide) rfl
    · exact bad_bs (by decide) rfl
    · exact bad_bs (by decide) rfl
    · exact bad_bs (by decide) rfl
    · exact bad_bs (by decide) rfl
    · exact bad_bs (by decide) rfl
    · exact bad_bs (by decide) rfl
    · exact b1
    · exact b2
  have h0 := bad_walk (by omega) hall 17 0 (by omega)
  have h0' : toruslaw02_WholeExamples_L0 l.length 0 l = toruslaw02_WholeExamples_L0 l.length l.length l := h0
  rw [h0', Examples_end]
end Go.Proofs.Ytlpkaimkmfgpiaa.Ev
